/- Contracts of functions. Printed by auto.py. -/
import Derived.Test.YtiblijkhpmemeaaGreatHa
import Derived.Test.YtiblijkhpmemeaaGreatHf
namespace Go.Proofs.YtiblijkhpmemeaaGreat
set_option maxRecDepth 100000
open Go.PI Go
noncomputable def varsQ_B : Unit → Br ((List ByteArray) × Unit) := fun (()) =>
 (.ret ([{ data := #[97] }, { data := #[98] }, { data := #[99] }, { data := #[101] }], ()))
noncomputable def varsQ : Unit → Option ((List ByteArray) × Unit) := fun x => (varsQ_B x).run
abbrev varsQ_ins : List (Bool × Pat) := []
abbrev varsQ_outs : List Pat := [.ty false (.sl .str)]
noncomputable abbrev varsQ_f : Func := Tryz.f23
noncomputable abbrev varsQ_P : Program := Tryz.prog
noncomputable def varsQ_c : Ctx := { cxM1 with base := 1024 }
theorem varsQ_env : EnvFull varsQ_P varsQ_c := env_base (enM1) 1024
noncomputable def varsQ_p : Par := { sh := fun _ => none, k := 0, lo := fun _ => none }
theorem varsQ_eq  : ocRun varsQ_c varsQ_p varsQ_f varsQ_ins varsQ_outs (()) = varsQ_B (()) := by kernel_rfl
theorem varsQ_oc : OC varsQ_P 23 varsQ_ins varsQ_outs varsQ := OC.of_tree varsQ_env Tryz.func23 (by kernel_rfl) (by kernel_rfl) (p := varsQ_p) (fun g hg => LoOk.of (l := []) (by kernel_rfl) .nil) (fun (()) => varsQ_eq )
noncomputable def cx_varsQ : Ctx := addO cxM1 23 (ocOrc varsQ_ins varsQ_outs varsQ)
theorem en_varsQ : EnvFull Tryz.prog cx_varsQ := env_add (enM1) varsQ_oc.callOk
noncomputable def typesQ_B : (Int × Unit) → Br ((List ByteArray) × Unit) := fun (p0, ()) =>
 (.cond (false)
 (.no)
 (.cond (decide (0 ≤ Int.tmod p0 6) && decide (Int.tmod p0 6 < (↑(List.length (List.set (List.set (List.set (List.set (List.set (List.set (List.replicate 6 []) 0 (List.set (List.replicate 1 ByteArray.empty) 0 { data := #[65] })) 1 (List.set (List.replicate 1 ByteArray.empty) 0 { data := #[66] })) 2 (List.set (List.replicate 1 ByteArray.empty) 0 { data := #[67] })) 3 (List.set (List.set (List.replicate 2 ByteArray.empty) 0 { data := #[65] }) 1 { data := #[66] })) 4 (List.set (List.set (List.replicate 2 ByteArray.empty) 0 { data := #[66] }) 1 { data := #[67] })) 5 (List.set (List.set (List.set (List.replicate 3 ByteArray.empty) 0 { data := #[65] }) 1 { data := #[66] }) 2 { data := #[67] }))) : Int)))
 (.ret (List.getD (List.set (List.set (List.set (List.set (List.set (List.set (List.replicate 6 []) 0 (List.set (List.replicate 1 ByteArray.empty) 0 { data := #[65] })) 1 (List.set (List.replicate 1 ByteArray.empty) 0 { data := #[66] })) 2 (List.set (List.replicate 1 ByteArray.empty) 0 { data := #[67] })) 3 (List.set (List.set (List.replicate 2 ByteArray.empty) 0 { data := #[65] }) 1 { data := #[66] })) 4 (List.set (List.set (List.replicate 2 ByteArray.empty) 0 { data := #[66] }) 1 { data := #[67] })) 5 (List.set (List.set (List.set (List.replicate 3 ByteArray.empty) 0 { data := #[65] }) 1 { data := #[66] }) 2 { data := #[67] })) (Int.toNat (Int.tmod p0 6)) [], ()))
 (.no)))
noncomputable def typesQ : (Int × Unit) → Option ((List ByteArray) × Unit) := fun x => (typesQ_B x).run
abbrev typesQ_ins : List (Bool × Pat) := [(false, .ty false (.int .i64))]
abbrev typesQ_outs : List Pat := [.ty false (.sl .str)]
noncomputable abbrev typesQ_f : Func := Tryz.f24
noncomputable abbrev typesQ_P : Program := Tryz.prog
noncomputable def typesQ_c : Ctx := { cx_varsQ with base := 1024 }
theorem typesQ_env : EnvFull typesQ_P typesQ_c := env_base (en_varsQ) 1024
noncomputable def typesQ_p : Par := { sh := fun _ => none, k := 0, lo := fun _ => none }
theorem typesQ_eq (p0 : Int) : ocRun typesQ_c typesQ_p typesQ_f typesQ_ins typesQ_outs (p0, ()) = typesQ_B (p0, ()) := by kernel_rfl
theorem typesQ_oc : OC typesQ_P 24 typesQ_ins typesQ_outs typesQ := OC.of_tree typesQ_env Tryz.func24 (by kernel_rfl) (by kernel_rfl) (p := typesQ_p) (fun g hg => LoOk.of (l := []) (by kernel_rfl) .nil) (fun (p0, ()) => typesQ_eq p0)
noncomputable def cx_typesQ : Ctx := addO cx_varsQ 24 (ocOrc typesQ_ins typesQ_outs typesQ)
theorem en_typesQ : EnvFull Tryz.prog cx_typesQ := env_add (en_varsQ) typesQ_oc.callOk
noncomputable def fieldQ_B : (ByteArray × (ByteArray × Unit)) → Br (zA12 × Unit) := fun (p0, p1, ()) =>
 (.ret ((2, zV0, p0, p1), ()))
noncomputable def fieldQ : (ByteArray × (ByteArray × Unit)) → Option (zA12 × Unit) := fun x => (fieldQ_B x).run
abbrev fieldQ_ins : List (Bool × Pat) := [(false, .ty false .str), (false, .ty false .str)]
abbrev fieldQ_outs : List Pat := [.ty false zA13]
noncomputable abbrev fieldQ_f : Func := Tryz.f44
noncomputable abbrev fieldQ_P : Program := Tryz.prog
noncomputable def fieldQ_c : Ctx := { cx_typesQ with base := 1024 }
theorem fieldQ_env : EnvFull fieldQ_P fieldQ_c := env_base (en_typesQ) 1024
noncomputable def fieldQ_p : Par := { sh := fun _ => none, k := 0, lo := fun _ => none }
theorem fieldQ_eq (p0 : ByteArray) (p1 : ByteArray) : ocRun fieldQ_c fieldQ_p fieldQ_f fieldQ_ins fieldQ_outs (p0, p1, ()) = fieldQ_B (p0, p1, ()) := by kernel_rfl
theorem fieldQ_oc : OC fieldQ_P 44 fieldQ_ins fieldQ_outs fieldQ := OC.of_tree fieldQ_env Tryz.func44 (by kernel_rfl) (by kernel_rfl) (p := fieldQ_p) (fun g hg => LoOk.of (l := []) (by kernel_rfl) .nil) (fun (p0, p1, ()) => fieldQ_eq p0 p1)
noncomputable def cx_fieldQ : Ctx := addO cx_typesQ 44 (ocOrc fieldQ_ins fieldQ_outs fieldQ)
theorem en_fieldQ : EnvFull Tryz.prog cx_fieldQ := env_add (en_typesQ) fieldQ_oc.callOk
noncomputable def numQ_B : (Int × Unit) → Br (zA12 × Unit) := fun (p0, ()) =>
 (.ret ((1, (1, p0, ByteArray.empty, false), ByteArray.empty, ByteArray.empty), ()))
noncomputable def numQ : (Int × Unit) → Option (zA12 × Unit) := fun x => (numQ_B x).run
abbrev numQ_ins : List (Bool × Pat) := [(false, .ty false (.int .i64))]
abbrev numQ_outs : List Pat := [.ty false zA13]
noncomputable abbrev numQ_f : Func := Tryz.f45
noncomputable abbrev numQ_P : Program := Tryz.prog
noncomputable def numQ_c : Ctx := { cx_fieldQ with base := 1024 }
theorem numQ_env : EnvFull numQ_P numQ_c := env_base (en_fieldQ) 1024
noncomputable def numQ_p : Par := { sh := fun _ => none, k := 0, lo := fun _ => none }
theorem numQ_eq (p0 : Int) : ocRun numQ_c numQ_p numQ_f numQ_ins numQ_outs (p0, ()) = numQ_B (p0, ()) := by kernel_rfl
theorem numQ_oc : OC numQ_P 45 numQ_ins numQ_outs numQ := OC.of_tree numQ_env Tryz.func45 (by kernel_rfl) (by kernel_rfl) (p := numQ_p) (fun g hg => LoOk.of (l := []) (by kernel_rfl) .nil) (fun (p0, ()) => numQ_eq p0)
noncomputable def cx_numQ : Ctx := addO cx_fieldQ 45 (ocOrc numQ_ins numQ_outs numQ)
theorem en_numQ : EnvFull Tryz.prog cx_numQ := env_add (en_fieldQ) numQ_oc.callOk
noncomputable def predQ_B : (Int × (ByteArray × (ByteArray × Unit))) → Br ((List zA12) × Unit) := fun (p0, p1, p2, ()) =>
 (.cond (false)
 (.no)
 (.cond (false)
 (.no)
 (.cond (false)
 (.no)
 (.cond (false)
 (.no)
 (.cond (Int.tmod p0 7 == 0)
 (.ret ([], ()))
 (.cond (Int.tmod p0 7 == 1)
 (.opt (fieldQ (p1, { data := #[120] }, ())) fun a =>
 (.opt (numQ (zAn (zSh p0 4) 3, ())) fun b =>
 (.ret ([a.1, b.1, (IntKind.wrap .i64 (7 + Int.tmod (zSh p0 6) 6), zV0, ByteArray.empty, ByteArray.empty)], ()))))
 (.cond (Int.tmod p0 7 == 2)
 (.opt (fieldQ (p1, { data := #[115] }, ())) fun c =>
 (.cond (false)
 (.no)
 (.ret ([c.1, (1, (2, 0, { data := #[117] }, false), ByteArray.empty, ByteArray.empty), (IntKind.wrap .i64 (7 + zAn (zSh p0 6) 1), zV0, ByteArray.empty, ByteArray.empty)], ()))))
 (.cond (Int.tmod p0 7 == 3)
 (.opt (fieldQ (p1, { data := #[120] }, ())) fun d =>
 (.opt (numQ (zAn (zSh p0 4) 3, ())) fun e =>
 (.ret ([d.1, e.1, (IntKind.wrap .i64 (7 + Int.tmod (zSh p0 6) 6), zV0, ByteArray.empty, ByteArray.empty), (13, zV0, ByteArray.empty, ByteArray.empty)], ()))))
 (.cond (Int.tmod p0 7 == 4)
 (.opt (fieldQ (p1, { data := #[120] }, ())) fun f =>
 (.opt (numQ (1, ())) fun g =>
 (.opt (fieldQ (p2, { data := #[120] }, ())) fun h =>
 (.ret ([f.1, g.1, (4, zV0, ByteArray.empty, ByteArray.empty), h.1, (IntKind.wrap .i64 (7 + Int.tmod (zSh p0 6) 6), zV0, ByteArray.empty, ByteArray.empty)], ())))))
 (.cond (Int.tmod p0 7 == 5)
 (.opt (fieldQ (p1, { data := #[115] }, ())) fun i =>
 (.opt (fieldQ (p2, { data := #[115] }, ())) fun j =>
 (.opt (fieldQ (p1, { data := #[120] }, ())) fun k =>
 (.opt (numQ (zAn (zSh p0 4) 3, ())) fun l =>
 (.ret ([i.1, j.1, (7, zV0, ByteArray.empty, ByteArray.empty), k.1, l.1, (IntKind.wrap .i64 (7 + Int.tmod (zSh p0 6) 6), zV0, ByteArray.empty, ByteArray.empty), (15, zV0, ByteArray.empty, ByteArray.empty)], ()))))))
 (.opt (fieldQ (p1, { data := #[120] }, ())) fun m =>
 (.opt (fieldQ (p2, { data := #[120] }, ())) fun n =>
 (.opt (fieldQ (p2, { data := #[115] }, ())) fun o =>
 (.ret ([m.1, n.1, (IntKind.wrap .i64 (7 + Int.tmod (zSh p0 6) 6), zV0, ByteArray.empty, ByteArray.empty), o.1, (1, (2, 0, { data := #[118] }, false), ByteArray.empty, ByteArray.empty), (8, zV0, ByteArray.empty, ByteArray.empty), (14, zV0, ByteArray.empty, ByteArray.empty)], ())))))))))))))))
noncomputable def predQ : (Int × (ByteArray × (ByteArray × Unit))) → Option ((List zA12) × Unit) := fun x => (predQ_B x).run
abbrev predQ_ins : List (Bool × Pat) := [(false, .ty false (.int .i64)), (false, .ty false .str), (false, .ty false .str)]
abbrev predQ_outs : List Pat := [.ty false (.sl zA13)]
noncomputable abbrev predQ_f : Func := Tryz.f25
noncomputable abbrev predQ_P : Program := Tryz.prog
noncomputable def predQ_c : Ctx := { cx_numQ with base := 1024 }
theorem predQ_env : EnvFull predQ_P predQ_c := env_base (en_numQ) 1024
noncomputable def predQ_p : Par := { sh := fun _ => none, k := 0, lo := fun _ => none }
theorem predQ_eq (p0 : Int) (p1 : ByteArray) (p2 : ByteArray) : ocRun predQ_c predQ_p predQ_f predQ_ins predQ_outs (p0, p1, p2, ()) = predQ_B (p0, p1, p2, ()) := by kernel_rfl
theorem predQ_oc : OC predQ_P 25 predQ_ins predQ_outs predQ := OC.of_tree predQ_env Tryz.func25 (by kernel_rfl) (by kernel_rfl) (p := predQ_p) (fun g hg => LoOk.of (l := []) (by kernel_rfl) .nil) (fun (p0, p1, p2, ()) => predQ_eq p0 p1 p2)
noncomputable def cx_predQ : Ctx := addO cx_numQ 25 (ocOrc predQ_ins predQ_outs predQ)
theorem en_predQ : EnvFull Tryz.prog cx_predQ := env_add (en_numQ) predQ_oc.callOk
noncomputable def queryQ_l0 : ((List Int) × zA30) → Br (((List Int) × zA30) ⊕ (Int × (Int × ((List zA1) × Unit)))) := fun (a, b, c, d, e, f, ()) =>
 (.cond (decide (c < b))
 (.cond (decide (IntKind.wrap .i64 (c + 1) < (↑(List.length a) : Int)))
 (.cond (decide (0 ≤ IntKind.wrap .i64 (c + 1)) && decide (IntKind.wrap .i64 (c + 1) < (↑(List.length a) : Int)))
 (.opt (varsQ ()) fun g =>
 (.cond (decide (0 ≤ c) && decide (c < (↑(List.length g.1) : Int)))
 (.opt (typesQ (zAn (List.getD a (Int.toNat (IntKind.wrap .i64 (c + 1))) 0) 16777215, ())) fun h =>
 (.cond (decide (c > 0))
 (.cond (decide (c < IntKind.wrap .i64 (b - 1)))
 (.cond (false)
 (.no)
 (.cond (!zAn (zSh (zAn (List.getD a (Int.toNat (IntKind.wrap .i64 (c + 1))) 0) 16777215) 4) 3 == 0)
 (.cond (false)
 (.no)
 (.cond (zAn (zSh (zAn (List.getD a (Int.toNat (IntKind.wrap .i64 (c + 1))) 0) 16777215) 6) 3 == 0)
 (.cond (false)
 (.no)
 (.cond (false)
 (.no)
 (.cond (c == 0)
 (.cond (false)
 (.no)
 (.opt (predQ (zSh (zAn (List.getD a (Int.toNat (IntKind.wrap .i64 (c + 1))) 0) 16777215) 10, List.getD g.1 (Int.toNat c) ByteArray.empty, List.getD g.1 (Int.toNat c) ByteArray.empty, ())) fun i =>
 (.cond (decide ((List.length f + List.length (List.set (List.replicate 1 zV2) 0 (List.getD g.1 (Int.toNat c) ByteArray.empty, h.1, zAn (zSh (zAn (List.getD a (Int.toNat (IntKind.wrap .i64 (c + 1))) 0) 16777215) 4) 3 == 0, IntKind.wrap .i64 (zAn (zSh (zAn (List.getD a (Int.toNat (IntKind.wrap .i64 (c + 1))) 0) 16777215) 8) 1 + 1), IntKind.wrap .i64 (IntKind.wrap .i64 (zAn (zSh (zAn (List.getD a (Int.toNat (IntKind.wrap .i64 (c + 1))) 0) 16777215) 8) 1 + 1) + zAn (zSh (zAn (List.getD a (Int.toNat (IntKind.wrap .i64 (c + 1))) 0) 16777215) 9) 1), i.1))) * 88 ≤ 140737488355328))
 (.ret (.inl (a, b, IntKind.wrap .i64 (c + 1), d, e, f ++ List.set (List.replicate 1 zV2) 0 (List.getD g.1 (Int.toNat c) ByteArray.empty, h.1, zAn (zSh (zAn (List.getD a (Int.toNat (IntKind.wrap .i64 (c + 1))) 0) 16777215) 4) 3 == 0, IntKind.wrap .i64 (zAn (zSh (zAn (List.getD a (Int.toNat (IntKind.wrap .i64 (c + 1))) 0) 16777215) 8) 1 + 1), IntKind.wrap .i64 (IntKind.wrap .i64 (zAn (zSh (zAn (List.getD a (Int.toNat (IntKind.wrap .i64 (c + 1))) 0) 16777215) 8) 1 + 1) + zAn (zSh (zAn (List.getD a (Int.toNat (IntKind.wrap .i64 (c + 1))) 0) 16777215) 9) 1), i.1), ())))
 (.no))))
 (.cond (decide (0 ≤ 0) && decide (0 < (↑(List.length f) : Int)))
 (.cond ((List.getD f (Int.toNat 0) zV2).2.2.2.2.1 != 1)
 (.cond (false)
 (.no)
 (.opt (predQ (zSh (zAn (List.getD a (Int.toNat (IntKind.wrap .i64 (c + 1))) 0) 16777215) 10, List.getD g.1 (Int.toNat c) ByteArray.empty, List.getD g.1 (Int.toNat c) ByteArray.empty, ())) fun j =>
 (.cond (decide ((List.length f + List.length (List.set (List.replicate 1 zV2) 0 (List.getD g.1 (Int.toNat c) ByteArray.empty, h.1, zAn (zSh (zAn (List.getD a (Int.toNat (IntKind.wrap .i64 (c + 1))) 0) 16777215) 4) 3 == 0, IntKind.wrap .i64 (zAn (zSh (zAn (List.getD a (Int.toNat (IntKind.wrap .i64 (c + 1))) 0) 16777215) 8) 1 + 1), IntKind.wrap .i64 (IntKind.wrap .i64 (zAn (zSh (zAn (List.getD a (Int.toNat (IntKind.wrap .i64 (c + 1))) 0) 16777215) 8) 1 + 1) + zAn (zSh (zAn (List.getD a (Int.toNat (IntKind.wrap .i64 (c + 1))) 0) 16777215) 9) 1), j.1))) * 88 ≤ 140737488355328))
 (.ret (.inl (a, b, IntKind.wrap .i64 (c + 1), d, e, f ++ List.set (List.replicate 1 zV2) 0 (List.getD g.1 (Int.toNat c) ByteArray.empty, h.1, zAn (zSh (zAn (List.getD a (Int.toNat (IntKind.wrap .i64 (c + 1))) 0) 16777215) 4) 3 == 0, IntKind.wrap .i64 (zAn (zSh (zAn (List.getD a (Int.toNat (IntKind.wrap .i64 (c + 1))) 0) 16777215) 8) 1 + 1), IntKind.wrap .i64 (IntKind.wrap .i64 (zAn (zSh (zAn (List.getD a (Int.toNat (IntKind.wrap .i64 (c + 1))) 0) 16777215) 8) 1 + 1) + zAn (zSh (zAn (List.getD a (Int.toNat (IntKind.wrap .i64 (c + 1))) 0) 16777215) 9) 1), j.1), ())))
 (.no))))
 (.cond (false)
 (.no)
 (.opt (predQ (zSh (zAn (List.getD a (Int.toNat (IntKind.wrap .i64 (c + 1))) 0) 16777215) 10, List.getD g.1 (Int.toNat c) ByteArray.empty, { data := #[97] }, ())) fun k =>
 (.cond (decide ((List.length f + List.length (List.set (List.replicate 1 zV2) 0 (List.getD g.1 (Int.toNat c) ByteArray.empty, h.1, zAn (zSh (zAn (List.getD a (Int.toNat (IntKind.wrap .i64 (c + 1))) 0) 16777215) 4) 3 == 0, IntKind.wrap .i64 (zAn (zSh (zAn (List.getD a (Int.toNat (IntKind.wrap .i64 (c + 1))) 0) 16777215) 8) 1 + 1), IntKind.wrap .i64 (IntKind.wrap .i64 (zAn (zSh (zAn (List.getD a (Int.toNat (IntKind.wrap .i64 (c + 1))) 0) 16777215) 8) 1 + 1) + zAn (zSh (zAn (List.getD a (Int.toNat (IntKind.wrap .i64 (c + 1))) 0) 16777215) 9) 1), k.1))) * 88 ≤ 140737488355328))
 (.ret (.inl (a, b, IntKind.wrap .i64 (c + 1), d, e, f ++ List.set (List.replicate 1 zV2) 0 (List.getD g.1 (Int.toNat c) ByteArray.empty, h.1, zAn (zSh (zAn (List.getD a (Int.toNat (IntKind.wrap .i64 (c + 1))) 0) 16777215) 4) 3 == 0, IntKind.wrap .i64 (zAn (zSh (zAn (List.getD a (Int.toNat (IntKind.wrap .i64 (c + 1))) 0) 16777215) 8) 1 + 1), IntKind.wrap .i64 (IntKind.wrap .i64 (zAn (zSh (zAn (List.getD a (Int.toNat (IntKind.wrap .i64 (c + 1))) 0) 16777215) 8) 1 + 1) + zAn (zSh (zAn (List.getD a (Int.toNat (IntKind.wrap .i64 (c + 1))) 0) 16777215) 9) 1), k.1), ())))
 (.no)))))
 (.no)))))
 (.cond (c == 0)
 (.cond (false)
 (.no)
 (.opt (predQ (zSh (zAn (List.getD a (Int.toNat (IntKind.wrap .i64 (c + 1))) 0) 16777215) 10, List.getD g.1 (Int.toNat c) ByteArray.empty, List.getD g.1 (Int.toNat c) ByteArray.empty, ())) fun l =>
 (.cond (decide ((List.length f + List.length (List.set (List.replicate 1 zV2) 0 (List.getD g.1 (Int.toNat c) ByteArray.empty, h.1, zAn (zSh (zAn (List.getD a (Int.toNat (IntKind.wrap .i64 (c + 1))) 0) 16777215) 4) 3 == 0, 1, 1, l.1))) * 88 ≤ 140737488355328))
 (.ret (.inl (a, b, IntKind.wrap .i64 (c + 1), d, e, f ++ List.set (List.replicate 1 zV2) 0 (List.getD g.1 (Int.toNat c) ByteArray.empty, h.1, zAn (zSh (zAn (List.getD a (Int.toNat (IntKind.wrap .i64 (c + 1))) 0) 16777215) 4) 3 == 0, 1, 1, l.1), ())))
 (.no))))
 (.cond (decide (0 ≤ 0) && decide (0 < (↑(List.length f) : Int)))
 (.cond ((List.getD f (Int.toNat 0) zV2).2.2.2.2.1 != 1)
 (.cond (false)
 (.no)
 (.opt (predQ (zSh (zAn (List.getD a (Int.toNat (IntKind.wrap .i64 (c + 1))) 0) 16777215) 10, List.getD g.1 (Int.toNat c) ByteArray.empty, List.getD g.1 (Int.toNat c) ByteArray.empty, ())) fun m =>
 (.cond (decide ((List.length f + List.length (List.set (List.replicate 1 zV2) 0 (List.getD g.1 (Int.toNat c) ByteArray.empty, h.1, zAn (zSh (zAn (List.getD a (Int.toNat (IntKind.wrap .i64 (c + 1))) 0) 16777215) 4) 3 == 0, 1, 1, m.1))) * 88 ≤ 140737488355328))
 (.ret (.inl (a, b, IntKind.wrap .i64 (c + 1), d, e, f ++ List.set (List.replicate 1 zV2) 0 (List.getD g.1 (Int.toNat c) ByteArray.empty, h.1, zAn (zSh (zAn (List.getD a (Int.toNat (IntKind.wrap .i64 (c + 1))) 0) 16777215) 4) 3 == 0, 1, 1, m.1), ())))
 (.no))))
 (.cond (false)
 (.no)
 (.opt (predQ (zSh (zAn (List.getD a (Int.toNat (IntKind.wrap .i64 (c + 1))) 0) 16777215) 10, List.getD g.1 (Int.toNat c) ByteArray.empty, { data := #[97] }, ())) fun n =>
 (.cond (decide ((List.length f + List.length (List.set (List.replicate 1 zV2) 0 (List.getD g.1 (Int.toNat c) ByteArray.empty, h.1, zAn (zSh (zAn (List.getD a (Int.toNat (IntKind.wrap .i64 (c + 1))) 0) 16777215) 4) 3 == 0, 1, 1, n.1))) * 88 ≤ 140737488355328))
 (.ret (.inl (a, b, IntKind.wrap .i64 (c + 1), d, e, f ++ List.set (List.replicate 1 zV2) 0 (List.getD g.1 (Int.toNat c) ByteArray.empty, h.1, zAn (zSh (zAn (List.getD a (Int.toNat (IntKind.wrap .i64 (c + 1))) 0) 16777215) 4) 3 == 0, 1, 1, n.1), ())))
 (.no)))))
 (.no)))))
 (.cond (c == 0)
 (.cond (false)
 (.no)
 (.opt (predQ (zSh (zAn (List.getD a (Int.toNat (IntKind.wrap .i64 (c + 1))) 0) 16777215) 10, List.getD g.1 (Int.toNat c) ByteArray.empty, List.getD g.1 (Int.toNat c) ByteArray.empty, ())) fun o =>
 (.cond (decide ((List.length f + List.length (List.set (List.replicate 1 zV2) 0 (List.getD g.1 (Int.toNat c) ByteArray.empty, h.1, zAn (zSh (zAn (List.getD a (Int.toNat (IntKind.wrap .i64 (c + 1))) 0) 16777215) 4) 3 == 0, 1, 1, o.1))) * 88 ≤ 140737488355328))
 (.ret (.inl (a, b, IntKind.wrap .i64 (c + 1), d, e, f ++ List.set (List.replicate 1 zV2) 0 (List.getD g.1 (Int.toNat c) ByteArray.empty, h.1, zAn (zSh (zAn (List.getD a (Int.toNat (IntKind.wrap .i64 (c + 1))) 0) 16777215) 4) 3 == 0, 1, 1, o.1), ())))
 (.no))))
 (.cond (decide (0 ≤ 0) && decide (0 < (↑(List.length f) : Int)))
 (.cond ((List.getD f (Int.toNat 0) zV2).2.2.2.2.1 != 1)
 (.cond (false)
 (.no)
 (.opt (predQ (zSh (zAn (List.getD a (Int.toNat (IntKind.wrap .i64 (c + 1))) 0) 16777215) 10, List.getD g.1 (Int.toNat c) ByteArray.empty, List.getD g.1 (Int.toNat c) ByteArray.empty, ())) fun p =>
 (.cond (decide ((List.length f + List.length (List.set (List.replicate 1 zV2) 0 (List.getD g.1 (Int.toNat c) ByteArray.empty, h.1, zAn (zSh (zAn (List.getD a (Int.toNat (IntKind.wrap .i64 (c + 1))) 0) 16777215) 4) 3 == 0, 1, 1, p.1))) * 88 ≤ 140737488355328))
 (.ret (.inl (a, b, IntKind.wrap .i64 (c + 1), d, e, f ++ List.set (List.replicate 1 zV2) 0 (List.getD g.1 (Int.toNat c) ByteArray.empty, h.1, zAn (zSh (zAn (List.getD a (Int.toNat (IntKind.wrap .i64 (c + 1))) 0) 16777215) 4) 3 == 0, 1, 1, p.1), ())))
 (.no))))
 (.cond (false)
 (.no)
 (.opt (predQ (zSh (zAn (List.getD a (Int.toNat (IntKind.wrap .i64 (c + 1))) 0) 16777215) 10, List.getD g.1 (Int.toNat c) ByteArray.empty, { data := #[97] }, ())) fun q =>
 (.cond (decide ((List.length f + List.length (List.set (List.replicate 1 zV2) 0 (List.getD g.1 (Int.toNat c) ByteArray.empty, h.1, zAn (zSh (zAn (List.getD a (Int.toNat (IntKind.wrap .i64 (c + 1))) 0) 16777215) 4) 3 == 0, 1, 1, q.1))) * 88 ≤ 140737488355328))
 (.ret (.inl (a, b, IntKind.wrap .i64 (c + 1), d, e, f ++ List.set (List.replicate 1 zV2) 0 (List.getD g.1 (Int.toNat c) ByteArray.empty, h.1, zAn (zSh (zAn (List.getD a (Int.toNat (IntKind.wrap .i64 (c + 1))) 0) 16777215) 4) 3 == 0, 1, 1, q.1), ())))
 (.no)))))
 (.no)))))
 (.cond (false)
 (.no)
 (.cond (zAn (zSh (zAn (List.getD a (Int.toNat (IntKind.wrap .i64 (c + 1))) 0) 16777215) 6) 3 == 0)
 (.cond (false)
 (.no)
 (.cond (false)
 (.no)
 (.cond (c == 0)
 (.cond (false)
 (.no)
 (.opt (predQ (zSh (zAn (List.getD a (Int.toNat (IntKind.wrap .i64 (c + 1))) 0) 16777215) 10, List.getD g.1 (Int.toNat c) ByteArray.empty, List.getD g.1 (Int.toNat c) ByteArray.empty, ())) fun r =>
 (.cond (decide ((List.length f + List.length (List.set (List.replicate 1 zV2) 0 (List.getD g.1 (Int.toNat c) ByteArray.empty, h.1, false, IntKind.wrap .i64 (zAn (zSh (zAn (List.getD a (Int.toNat (IntKind.wrap .i64 (c + 1))) 0) 16777215) 8) 1 + 1), IntKind.wrap .i64 (IntKind.wrap .i64 (zAn (zSh (zAn (List.getD a (Int.toNat (IntKind.wrap .i64 (c + 1))) 0) 16777215) 8) 1 + 1) + zAn (zSh (zAn (List.getD a (Int.toNat (IntKind.wrap .i64 (c + 1))) 0) 16777215) 9) 1), r.1))) * 88 ≤ 140737488355328))
 (.ret (.inl (a, b, IntKind.wrap .i64 (c + 1), d, e, f ++ List.set (List.replicate 1 zV2) 0 (List.getD g.1 (Int.toNat c) ByteArray.empty, h.1, false, IntKind.wrap .i64 (zAn (zSh (zAn (List.getD a (Int.toNat (IntKind.wrap .i64 (c + 1))) 0) 16777215) 8) 1 + 1), IntKind.wrap .i64 (IntKind.wrap .i64 (zAn (zSh (zAn (List.getD a (Int.toNat (IntKind.wrap .i64 (c + 1))) 0) 16777215) 8) 1 + 1) + zAn (zSh (zAn (List.getD a (Int.toNat (IntKind.wrap .i64 (c + 1))) 0) 16777215) 9) 1), r.1), ())))
 (.no))))
 (.cond (decide (0 ≤ 0) && decide (0 < (↑(List.length f) : Int)))
 (.cond ((List.getD f (Int.toNat 0) zV2).2.2.2.2.1 != 1)
 (.cond (false)
 (.no)
 (.opt (predQ (zSh (zAn (List.getD a (Int.toNat (IntKind.wrap .i64 (c + 1))) 0) 16777215) 10, List.getD g.1 (Int.toNat c) ByteArray.empty, List.getD g.1 (Int.toNat c) ByteArray.empty, ())) fun s =>
 (.cond (decide ((List.length f + List.length (List.set (List.replicate 1 zV2) 0 (List.getD g.1 (Int.toNat c) ByteArray.empty, h.1, false, IntKind.wrap .i64 (zAn (zSh (zAn (List.getD a (Int.toNat (IntKind.wrap .i64 (c + 1))) 0) 16777215) 8) 1 + 1), IntKind.wrap .i64 (IntKind.wrap .i64 (zAn (zSh (zAn (List.getD a (Int.toNat (IntKind.wrap .i64 (c + 1))) 0) 16777215) 8) 1 + 1) + zAn (zSh (zAn (List.getD a (Int.toNat (IntKind.wrap .i64 (c + 1))) 0) 16777215) 9) 1), s.1))) * 88 ≤ 140737488355328))
 (.ret (.inl (a, b, IntKind.wrap .i64 (c + 1), d, e, f ++ List.set (List.replicate 1 zV2) 0 (List.getD g.1 (Int.toNat c) ByteArray.empty, h.1, false, IntKind.wrap .i64 (zAn (zSh (zAn (List.getD a (Int.toNat (IntKind.wrap .i64 (c + 1))) 0) 16777215) 8) 1 + 1), IntKind.wrap .i64 (IntKind.wrap .i64 (zAn (zSh (zAn (List.getD a (Int.toNat (IntKind.wrap .i64 (c + 1))) 0) 16777215) 8) 1 + 1) + zAn (zSh (zAn (List.getD a (Int.toNat (IntKind.wrap .i64 (c + 1))) 0) 16777215) 9) 1), s.1), ())))
 (.no))))
 (.cond (false)
 (.no)
 (.opt (predQ (zSh (zAn (List.getD a (Int.toNat (IntKind.wrap .i64 (c + 1))) 0) 16777215) 10, List.getD g.1 (Int.toNat c) ByteArray.empty, { data := #[97] }, ())) fun t =>
 (.cond (decide ((List.length f + List.length (List.set (List.replicate 1 zV2) 0 (List.getD g.1 (Int.toNat c) ByteArray.empty, h.1, false, IntKind.wrap .i64 (zAn (zSh (zAn (List.getD a (Int.toNat (IntKind.wrap .i64 (c + 1))) 0) 16777215) 8) 1 + 1), IntKind.wrap .i64 (IntKind.wrap .i64 (zAn (zSh (zAn (List.getD a (Int.toNat (IntKind.wrap .i64 (c + 1))) 0) 16777215) 8) 1 + 1) + zAn (zSh (zAn (List.getD a (Int.toNat (IntKind.wrap .i64 (c + 1))) 0) 16777215) 9) 1), t.1))) * 88 ≤ 140737488355328))
 (.ret (.inl (a, b, IntKind.wrap .i64 (c + 1), d, e, f ++ List.set (List.replicate 1 zV2) 0 (List.getD g.1 (Int.toNat c) ByteArray.empty, h.1, false, IntKind.wrap .i64 (zAn (zSh (zAn (List.getD a (Int.toNat (IntKind.wrap .i64 (c + 1))) 0) 16777215) 8) 1 + 1), IntKind.wrap .i64 (IntKind.wrap .i64 (zAn (zSh (zAn (List.getD a (Int.toNat (IntKind.wrap .i64 (c + 1))) 0) 16777215) 8) 1 + 1) + zAn (zSh (zAn (List.getD a (Int.toNat (IntKind.wrap .i64 (c + 1))) 0) 16777215) 9) 1), t.1), ())))
 (.no)))))
 (.no)))))
 (.cond (c == 0)
 (.cond (false)
 (.no)
 (.opt (predQ (zSh (zAn (List.getD a (Int.toNat (IntKind.wrap .i64 (c + 1))) 0) 16777215) 10, List.getD g.1 (Int.toNat c) ByteArray.empty, List.getD g.1 (Int.toNat c) ByteArray.empty, ())) fun u =>
 (.cond (decide ((List.length f + List.length (List.set (List.replicate 1 zV2) 0 (List.getD g.1 (Int.toNat c) ByteArray.empty, h.1, false, 1, 1, u.1))) * 88 ≤ 140737488355328))
 (.ret (.inl (a, b, IntKind.wrap .i64 (c + 1), d, e, f ++ List.set (List.replicate 1 zV2) 0 (List.getD g.1 (Int.toNat c) ByteArray.empty, h.1, false, 1, 1, u.1), ())))
 (.no))))
 (.cond (decide (0 ≤ 0) && decide (0 < (↑(List.length f) : Int)))
 (.cond ((List.getD f (Int.toNat 0) zV2).2.2.2.2.1 != 1)
 (.cond (false)
 (.no)
 (.opt (predQ (zSh (zAn (List.getD a (Int.toNat (IntKind.wrap .i64 (c + 1))) 0) 16777215) 10, List.getD g.1 (Int.toNat c) ByteArray.empty, List.getD g.1 (Int.toNat c) ByteArray.empty, ())) fun v =>
 (.cond (decide ((List.length f + List.length (List.set (List.replicate 1 zV2) 0 (List.getD g.1 (Int.toNat c) ByteArray.empty, h.1, false, 1, 1, v.1))) * 88 ≤ 140737488355328))
 (.ret (.inl (a, b, IntKind.wrap .i64 (c + 1), d, e, f ++ List.set (List.replicate 1 zV2) 0 (List.getD g.1 (Int.toNat c) ByteArray.empty, h.1, false, 1, 1, v.1), ())))
 (.no))))
 (.cond (false)
 (.no)
 (.opt (predQ (zSh (zAn (List.getD a (Int.toNat (IntKind.wrap .i64 (c + 1))) 0) 16777215) 10, List.getD g.1 (Int.toNat c) ByteArray.empty, { data := #[97] }, ())) fun w =>
 (.cond (decide ((List.length f + List.length (List.set (List.replicate 1 zV2) 0 (List.getD g.1 (Int.toNat c) ByteArray.empty, h.1, false, 1, 1, w.1))) * 88 ≤ 140737488355328))
 (.ret (.inl (a, b, IntKind.wrap .i64 (c + 1), d, e, f ++ List.set (List.replicate 1 zV2) 0 (List.getD g.1 (Int.toNat c) ByteArray.empty, h.1, false, 1, 1, w.1), ())))
 (.no)))))
 (.no))))))
 (.cond (false)
 (.no)
 (.cond (zAn (zSh (zAn (List.getD a (Int.toNat (IntKind.wrap .i64 (c + 1))) 0) 16777215) 6) 3 == 0)
 (.cond (false)
 (.no)
 (.cond (false)
 (.no)
 (.cond (c == 0)
 (.cond (false)
 (.no)
 (.opt (predQ (zSh (zAn (List.getD a (Int.toNat (IntKind.wrap .i64 (c + 1))) 0) 16777215) 10, List.getD g.1 (Int.toNat c) ByteArray.empty, List.getD g.1 (Int.toNat c) ByteArray.empty, ())) fun x =>
 (.cond (decide ((List.length f + List.length (List.set (List.replicate 1 zV2) 0 (List.getD g.1 (Int.toNat c) ByteArray.empty, h.1, false, IntKind.wrap .i64 (zAn (zSh (zAn (List.getD a (Int.toNat (IntKind.wrap .i64 (c + 1))) 0) 16777215) 8) 1 + 1), IntKind.wrap .i64 (IntKind.wrap .i64 (zAn (zSh (zAn (List.getD a (Int.toNat (IntKind.wrap .i64 (c + 1))) 0) 16777215) 8) 1 + 1) + zAn (zSh (zAn (List.getD a (Int.toNat (IntKind.wrap .i64 (c + 1))) 0) 16777215) 9) 1), x.1))) * 88 ≤ 140737488355328))
 (.ret (.inl (a, b, IntKind.wrap .i64 (c + 1), d, e, f ++ List.set (List.replicate 1 zV2) 0 (List.getD g.1 (Int.toNat c) ByteArray.empty, h.1, false, IntKind.wrap .i64 (zAn (zSh (zAn (List.getD a (Int.toNat (IntKind.wrap .i64 (c + 1))) 0) 16777215) 8) 1 + 1), IntKind.wrap .i64 (IntKind.wrap .i64 (zAn (zSh (zAn (List.getD a (Int.toNat (IntKind.wrap .i64 (c + 1))) 0) 16777215) 8) 1 + 1) + zAn (zSh (zAn (List.getD a (Int.toNat (IntKind.wrap .i64 (c + 1))) 0) 16777215) 9) 1), x.1), ())))
 (.no))))
 (.cond (decide (0 ≤ 0) && decide (0 < (↑(List.length f) : Int)))
 (.cond ((List.getD f (Int.toNat 0) zV2).2.2.2.2.1 != 1)
 (.cond (false)
 (.no)
 (.opt (predQ (zSh (zAn (List.getD a (Int.toNat (IntKind.wrap .i64 (c + 1))) 0) 16777215) 10, List.getD g.1 (Int.toNat c) ByteArray.empty, List.getD g.1 (Int.toNat c) ByteArray.empty, ())) fun y =>
 (.cond (decide ((List.length f + List.length (List.set (List.replicate 1 zV2) 0 (List.getD g.1 (Int.toNat c) ByteArray.empty, h.1, false, IntKind.wrap .i64 (zAn (zSh (zAn (List.getD a (Int.toNat (IntKind.wrap .i64 (c + 1))) 0) 16777215) 8) 1 + 1), IntKind.wrap .i64 (IntKind.wrap .i64 (zAn (zSh (zAn (List.getD a (Int.toNat (IntKind.wrap .i64 (c + 1))) 0) 16777215) 8) 1 + 1) + zAn (zSh (zAn (List.getD a (Int.toNat (IntKind.wrap .i64 (c + 1))) 0) 16777215) 9) 1), y.1))) * 88 ≤ 140737488355328))
 (.ret (.inl (a, b, IntKind.wrap .i64 (c + 1), d, e, f ++ List.set (List.replicate 1 zV2) 0 (List.getD g.1 (Int.toNat c) ByteArray.empty, h.1, false, IntKind.wrap .i64 (zAn (zSh (zAn (List.getD a (Int.toNat (IntKind.wrap .i64 (c + 1))) 0) 16777215) 8) 1 + 1), IntKind.wrap .i64 (IntKind.wrap .i64 (zAn (zSh (zAn (List.getD a (Int.toNat (IntKind.wrap .i64 (c + 1))) 0) 16777215) 8) 1 + 1) + zAn (zSh (zAn (List.getD a (Int.toNat (IntKind.wrap .i64 (c + 1))) 0) 16777215) 9) 1), y.1), ())))
 (.no))))
 (.cond (false)
 (.no)
 (.opt (predQ (zSh (zAn (List.getD a (Int.toNat (IntKind.wrap .i64 (c + 1))) 0) 16777215) 10, List.getD g.1 (Int.toNat c) ByteArray.empty, { data := #[97] }, ())) fun z =>
 (.cond (decide ((List.length f + List.length (List.set (List.replicate 1 zV2) 0 (List.getD g.1 (Int.toNat c) ByteArray.empty, h.1, false, IntKind.wrap .i64 (zAn (zSh (zAn (List.getD a (Int.toNat (IntKind.wrap .i64 (c + 1))) 0) 16777215) 8) 1 + 1), IntKind.wrap .i64 (IntKind.wrap .i64 (zAn (zSh (zAn (List.getD a (Int.toNat (IntKind.wrap .i64 (c + 1))) 0) 16777215) 8) 1 + 1) + zAn (zSh (zAn (List.getD a (Int.toNat (IntKind.wrap .i64 (c + 1))) 0) 16777215) 9) 1), z.1))) * 88 ≤ 140737488355328))
 (.ret (.inl (a, b, IntKind.wrap .i64 (c + 1), d, e, f ++ List.set (List.replicate 1 zV2) 0 (List.getD g.1 (Int.toNat c) ByteArray.empty, h.1, false, IntKind.wrap .i64 (zAn (zSh (zAn (List.getD a (Int.toNat (IntKind.wrap .i64 (c + 1))) 0) 16777215) 8) 1 + 1), IntKind.wrap .i64 (IntKind.wrap .i64 (zAn (zSh (zAn (List.getD a (Int.toNat (IntKind.wrap .i64 (c + 1))) 0) 16777215) 8) 1 + 1) + zAn (zSh (zAn (List.getD a (Int.toNat (IntKind.wrap .i64 (c + 1))) 0) 16777215) 9) 1), z.1), ())))
 (.no)))))
 (.no)))))
 (.cond (c == 0)
 (.cond (false)
 (.no)
 (.opt (predQ (zSh (zAn (List.getD a (Int.toNat (IntKind.wrap .i64 (c + 1))) 0) 16777215) 10, List.getD g.1 (Int.toNat c) ByteArray.empty, List.getD g.1 (Int.toNat c) ByteArray.empty, ())) fun aa =>
 (.cond (decide ((List.length f + List.length (List.set (List.replicate 1 zV2) 0 (List.getD g.1 (Int.toNat c) ByteArray.empty, h.1, false, 1, 1, aa.1))) * 88 ≤ 140737488355328))
 (.ret (.inl (a, b, IntKind.wrap .i64 (c + 1), d, e, f ++ List.set (List.replicate 1 zV2) 0 (List.getD g.1 (Int.toNat c) ByteArray.empty, h.1, false, 1, 1, aa.1), ())))
 (.no))))
 (.cond (decide (0 ≤ 0) && decide (0 < (↑(List.length f) : Int)))
 (.cond ((List.getD f (Int.toNat 0) zV2).2.2.2.2.1 != 1)
 (.cond (false)
 (.no)
 (.opt (predQ (zSh (zAn (List.getD a (Int.toNat (IntKind.wrap .i64 (c + 1))) 0) 16777215) 10, List.getD g.1 (Int.toNat c) ByteArray.empty, List.getD g.1 (Int.toNat c) ByteArray.empty, ())) fun ab =>
 (.cond (decide ((List.length f + List.length (List.set (List.replicate 1 zV2) 0 (List.getD g.1 (Int.toNat c) ByteArray.empty, h.1, false, 1, 1, ab.1))) * 88 ≤ 140737488355328))
 (.ret (.inl (a, b, IntKind.wrap .i64 (c + 1), d, e, f ++ List.set (List.replicate 1 zV2) 0 (List.getD g.1 (Int.toNat c) ByteArray.empty, h.1, false, 1, 1, ab.1), ())))
 (.no))))
 (.cond (false)
 (.no)
 (.opt (predQ (zSh (zAn (List.getD a (Int.toNat (IntKind.wrap .i64 (c + 1))) 0) 16777215) 10, List.getD g.1 (Int.toNat c) ByteArray.empty, { data := #[97] }, ())) fun ac =>
 (.cond (decide ((List.length f + List.length (List.set (List.replicate 1 zV2) 0 (List.getD g.1 (Int.toNat c) ByteArray.empty, h.1, false, 1, 1, ac.1))) * 88 ≤ 140737488355328))
 (.ret (.inl (a, b, IntKind.wrap .i64 (c + 1), d, e, f ++ List.set (List.replicate 1 zV2) 0 (List.getD g.1 (Int.toNat c) ByteArray.empty, h.1, false, 1, 1, ac.1), ())))
 (.no)))))
 (.no)))))))
 (.no)))
 (.no))
 (.opt (varsQ ()) fun ad =>
 (.cond (decide (0 ≤ c) && decide (c < (↑(List.length ad.1) : Int)))
 (.opt (typesQ (IntKind.wrap .i64 (c * 37), ())) fun ae =>
 (.cond (decide (c > 0))
 (.cond (decide (c < IntKind.wrap .i64 (b - 1)))
 (.cond (false)
 (.no)
 (.cond (!zAn (zSh (IntKind.wrap .i64 (c * 37)) 4) 3 == 0)
 (.cond (false)
 (.no)
 (.cond (zAn (zSh (IntKind.wrap .i64 (c * 37)) 6) 3 == 0)
 (.cond (false)
 (.no)
 (.cond (false)
 (.no)
 (.cond (c == 0)
 (.cond (false)
 (.no)
 (.opt (predQ (zSh (IntKind.wrap .i64 (c * 37)) 10, List.getD ad.1 (Int.toNat c) ByteArray.empty, List.getD ad.1 (Int.toNat c) ByteArray.empty, ())) fun af =>
 (.cond (decide ((List.length f + List.length (List.set (List.replicate 1 zV2) 0 (List.getD ad.1 (Int.toNat c) ByteArray.empty, ae.1, zAn (zSh (IntKind.wrap .i64 (c * 37)) 4) 3 == 0, IntKind.wrap .i64 (zAn (zSh (IntKind.wrap .i64 (c * 37)) 8) 1 + 1), IntKind.wrap .i64 (IntKind.wrap .i64 (zAn (zSh (IntKind.wrap .i64 (c * 37)) 8) 1 + 1) + zAn (zSh (IntKind.wrap .i64 (c * 37)) 9) 1), af.1))) * 88 ≤ 140737488355328))
 (.ret (.inl (a, b, IntKind.wrap .i64 (c + 1), d, e, f ++ List.set (List.replicate 1 zV2) 0 (List.getD ad.1 (Int.toNat c) ByteArray.empty, ae.1, zAn (zSh (IntKind.wrap .i64 (c * 37)) 4) 3 == 0, IntKind.wrap .i64 (zAn (zSh (IntKind.wrap .i64 (c * 37)) 8) 1 + 1), IntKind.wrap .i64 (IntKind.wrap .i64 (zAn (zSh (IntKind.wrap .i64 (c * 37)) 8) 1 + 1) + zAn (zSh (IntKind.wrap .i64 (c * 37)) 9) 1), af.1), ())))
 (.no))))
 (.cond (decide (0 ≤ 0) && decide (0 < (↑(List.length f) : Int)))
 (.cond ((List.getD f (Int.toNat 0) zV2).2.2.2.2.1 != 1)
 (.cond (false)
 (.no)
 (.opt (predQ (zSh (IntKind.wrap .i64 (c * 37)) 10, List.getD ad.1 (Int.toNat c) ByteArray.empty, List.getD ad.1 (Int.toNat c) ByteArray.empty, ())) fun ag =>
 (.cond (decide ((List.length f + List.length (List.set (List.replicate 1 zV2) 0 (List.getD ad.1 (Int.toNat c) ByteArray.empty, ae.1, zAn (zSh (IntKind.wrap .i64 (c * 37)) 4) 3 == 0, IntKind.wrap .i64 (zAn (zSh (IntKind.wrap .i64 (c * 37)) 8) 1 + 1), IntKind.wrap .i64 (IntKind.wrap .i64 (zAn (zSh (IntKind.wrap .i64 (c * 37)) 8) 1 + 1) + zAn (zSh (IntKind.wrap .i64 (c * 37)) 9) 1), ag.1))) * 88 ≤ 140737488355328))
 (.ret (.inl (a, b, IntKind.wrap .i64 (c + 1), d, e, f ++ List.set (List.replicate 1 zV2) 0 (List.getD ad.1 (Int.toNat c) ByteArray.empty, ae.1, zAn (zSh (IntKind.wrap .i64 (c * 37)) 4) 3 == 0, IntKind.wrap .i64 (zAn (zSh (IntKind.wrap .i64 (c * 37)) 8) 1 + 1), IntKind.wrap .i64 (IntKind.wrap .i64 (zAn (zSh (IntKind.wrap .i64 (c * 37)) 8) 1 + 1) + zAn (zSh (IntKind.wrap .i64 (c * 37)) 9) 1), ag.1), ())))
 (.no))))
 (.cond (false)
 (.no)
 (.opt (predQ (zSh (IntKind.wrap .i64 (c * 37)) 10, List.getD ad.1 (Int.toNat c) ByteArray.empty, { data := #[97] }, ())) fun ah =>
 (.cond (decide ((List.length f + List.length (List.set (List.replicate 1 zV2) 0 (List.getD ad.1 (Int.toNat c) ByteArray.empty, ae.1, zAn (zSh (IntKind.wrap .i64 (c * 37)) 4) 3 == 0, IntKind.wrap .i64 (zAn (zSh (IntKind.wrap .i64 (c * 37)) 8) 1 + 1), IntKind.wrap .i64 (IntKind.wrap .i64 (zAn (zSh (IntKind.wrap .i64 (c * 37)) 8) 1 + 1) + zAn (zSh (IntKind.wrap .i64 (c * 37)) 9) 1), ah.1))) * 88 ≤ 140737488355328))
 (.ret (.inl (a, b, IntKind.wrap .i64 (c + 1), d, e, f ++ List.set (List.replicate 1 zV2) 0 (List.getD ad.1 (Int.toNat c) ByteArray.empty, ae.1, zAn (zSh (IntKind.wrap .i64 (c * 37)) 4) 3 == 0, IntKind.wrap .i64 (zAn (zSh (IntKind.wrap .i64 (c * 37)) 8) 1 + 1), IntKind.wrap .i64 (IntKind.wrap .i64 (zAn (zSh (IntKind.wrap .i64 (c * 37)) 8) 1 + 1) + zAn (zSh (IntKind.wrap .i64 (c * 37)) 9) 1), ah.1), ())))
 (.no)))))
 (.no)))))
 (.cond (c == 0)
 (.cond (false)
 (.no)
 (.opt (predQ (zSh (IntKind.wrap .i64 (c * 37)) 10, List.getD ad.1 (Int.toNat c) ByteArray.empty, List.getD ad.1 (Int.toNat c) ByteArray.empty, ())) fun ai =>
 (.cond (decide ((List.length f + List.length (List.set (List.replicate 1 zV2) 0 (List.getD ad.1 (Int.toNat c) ByteArray.empty, ae.1, zAn (zSh (IntKind.wrap .i64 (c * 37)) 4) 3 == 0, 1, 1, ai.1))) * 88 ≤ 140737488355328))
 (.ret (.inl (a, b, IntKind.wrap .i64 (c + 1), d, e, f ++ List.set (List.replicate 1 zV2) 0 (List.getD ad.1 (Int.toNat c) ByteArray.empty, ae.1, zAn (zSh (IntKind.wrap .i64 (c * 37)) 4) 3 == 0, 1, 1, ai.1), ())))
 (.no))))
 (.cond (decide (0 ≤ 0) && decide (0 < (↑(List.length f) : Int)))
 (.cond ((List.getD f (Int.toNat 0) zV2).2.2.2.2.1 != 1)
 (.cond (false)
 (.no)
 (.opt (predQ (zSh (IntKind.wrap .i64 (c * 37)) 10, List.getD ad.1 (Int.toNat c) ByteArray.empty, List.getD ad.1 (Int.toNat c) ByteArray.empty, ())) fun aj =>
 (.cond (decide ((List.length f + List.length (List.set (List.replicate 1 zV2) 0 (List.getD ad.1 (Int.toNat c) ByteArray.empty, ae.1, zAn (zSh (IntKind.wrap .i64 (c * 37)) 4) 3 == 0, 1, 1, aj.1))) * 88 ≤ 140737488355328))
 (.ret (.inl (a, b, IntKind.wrap .i64 (c + 1), d, e, f ++ List.set (List.replicate 1 zV2) 0 (List.getD ad.1 (Int.toNat c) ByteArray.empty, ae.1, zAn (zSh (IntKind.wrap .i64 (c * 37)) 4) 3 == 0, 1, 1, aj.1), ())))
 (.no))))
 (.cond (false)
 (.no)
 (.opt (predQ (zSh (IntKind.wrap .i64 (c * 37)) 10, List.getD ad.1 (Int.toNat c) ByteArray.empty, { data := #[97] }, ())) fun ak =>
 (.cond (decide ((List.length f + List.length (List.set (List.replicate 1 zV2) 0 (List.getD ad.1 (Int.toNat c) ByteArray.empty, ae.1, zAn (zSh (IntKind.wrap .i64 (c * 37)) 4) 3 == 0, 1, 1, ak.1))) * 88 ≤ 140737488355328))
 (.ret (.inl (a, b, IntKind.wrap .i64 (c + 1), d, e, f ++ List.set (List.replicate 1 zV2) 0 (List.getD ad.1 (Int.toNat c) ByteArray.empty, ae.1, zAn (zSh (IntKind.wrap .i64 (c * 37)) 4) 3 == 0, 1, 1, ak.1), ())))
 (.no)))))
 (.no)))))
 (.cond (c == 0)
 (.cond (false)
 (.no)
 (.opt (predQ (zSh (IntKind.wrap .i64 (c * 37)) 10, List.getD ad.1 (Int.toNat c) ByteArray.empty, List.getD ad.1 (Int.toNat c) ByteArray.empty, ())) fun al =>
 (.cond (decide ((List.length f + List.length (List.set (List.replicate 1 zV2) 0 (List.getD ad.1 (Int.toNat c) ByteArray.empty, ae.1, zAn (zSh (IntKind.wrap .i64 (c * 37)) 4) 3 == 0, 1, 1, al.1))) * 88 ≤ 140737488355328))
 (.ret (.inl (a, b, IntKind.wrap .i64 (c + 1), d, e, f ++ List.set (List.replicate 1 zV2) 0 (List.getD ad.1 (Int.toNat c) ByteArray.empty, ae.1, zAn (zSh (IntKind.wrap .i64 (c * 37)) 4) 3 == 0, 1, 1, al.1), ())))
 (.no))))
 (.cond (decide (0 ≤ 0) && decide (0 < (↑(List.length f) : Int)))
 (.cond ((List.getD f (Int.toNat 0) zV2).2.2.2.2.1 != 1)
 (.cond (false)
 (.no)
 (.opt (predQ (zSh (IntKind.wrap .i64 (c * 37)) 10, List.getD ad.1 (Int.toNat c) ByteArray.empty, List.getD ad.1 (Int.toNat c) ByteArray.empty, ())) fun am =>
 (.cond (decide ((List.length f + List.length (List.set (List.replicate 1 zV2) 0 (List.getD ad.1 (Int.toNat c) ByteArray.empty, ae.1, zAn (zSh (IntKind.wrap .i64 (c * 37)) 4) 3 == 0, 1, 1, am.1))) * 88 ≤ 140737488355328))
 (.ret (.inl (a, b, IntKind.wrap .i64 (c + 1), d, e, f ++ List.set (List.replicate 1 zV2) 0 (List.getD ad.1 (Int.toNat c) ByteArray.empty, ae.1, zAn (zSh (IntKind.wrap .i64 (c * 37)) 4) 3 == 0, 1, 1, am.1), ())))
 (.no))))
 (.cond (false)
 (.no)
 (.opt (predQ (zSh (IntKind.wrap .i64 (c * 37)) 10, List.getD ad.1 (Int.toNat c) ByteArray.empty, { data := #[97] }, ())) fun an =>
 (.cond (decide ((List.length f + List.length (List.set (List.replicate 1 zV2) 0 (List.getD ad.1 (Int.toNat c) ByteArray.empty, ae.1, zAn (zSh (IntKind.wrap .i64 (c * 37)) 4) 3 == 0, 1, 1, an.1))) * 88 ≤ 140737488355328))
 (.ret (.inl (a, b, IntKind.wrap .i64 (c + 1), d, e, f ++ List.set (List.replicate 1 zV2) 0 (List.getD ad.1 (Int.toNat c) ByteArray.empty, ae.1, zAn (zSh (IntKind.wrap .i64 (c * 37)) 4) 3 == 0, 1, 1, an.1), ())))
 (.no)))))
 (.no)))))
 (.cond (false)
 (.no)
 (.cond (zAn (zSh (IntKind.wrap .i64 (c * 37)) 6) 3 == 0)
 (.cond (false)
 (.no)
 (.cond (false)
 (.no)
 (.cond (c == 0)
 (.cond (false)
 (.no)
 (.opt (predQ (zSh (IntKind.wrap .i64 (c * 37)) 10, List.getD ad.1 (Int.toNat c) ByteArray.empty, List.getD ad.1 (Int.toNat c) ByteArray.empty, ())) fun ao =>
 (.cond (decide ((List.length f + List.length (List.set (List.replicate 1 zV2) 0 (List.getD ad.1 (Int.toNat c) ByteArray.empty, ae.1, false, IntKind.wrap .i64 (zAn (zSh (IntKind.wrap .i64 (c * 37)) 8) 1 + 1), IntKind.wrap .i64 (IntKind.wrap .i64 (zAn (zSh (IntKind.wrap .i64 (c * 37)) 8) 1 + 1) + zAn (zSh (IntKind.wrap .i64 (c * 37)) 9) 1), ao.1))) * 88 ≤ 140737488355328))
 (.ret (.inl (a, b, IntKind.wrap .i64 (c + 1), d, e, f ++ List.set (List.replicate 1 zV2) 0 (List.getD ad.1 (Int.toNat c) ByteArray.empty, ae.1, false, IntKind.wrap .i64 (zAn (zSh (IntKind.wrap .i64 (c * 37)) 8) 1 + 1), IntKind.wrap .i64 (IntKind.wrap .i64 (zAn (zSh (IntKind.wrap .i64 (c * 37)) 8) 1 + 1) + zAn (zSh (IntKind.wrap .i64 (c * 37)) 9) 1), ao.1), ())))
 (.no))))
 (.cond (decide (0 ≤ 0) && decide (0 < (↑(List.length f) : Int)))
 (.cond ((List.getD f (Int.toNat 0) zV2).2.2.2.2.1 != 1)
 (.cond (false)
 (.no)
 (.opt (predQ (zSh (IntKind.wrap .i64 (c * 37)) 10, List.getD ad.1 (Int.toNat c) ByteArray.empty, List.getD ad.1 (Int.toNat c) ByteArray.empty, ())) fun ap =>
 (.cond (decide ((List.length f + List.length (List.set (List.replicate 1 zV2) 0 (List.getD ad.1 (Int.toNat c) ByteArray.empty, ae.1, false, IntKind.wrap .i64 (zAn (zSh (IntKind.wrap .i64 (c * 37)) 8) 1 + 1), IntKind.wrap .i64 (IntKind.wrap .i64 (zAn (zSh (IntKind.wrap .i64 (c * 37)) 8) 1 + 1) + zAn (zSh (IntKind.wrap .i64 (c * 37)) 9) 1), ap.1))) * 88 ≤ 140737488355328))
 (.ret (.inl (a, b, IntKind.wrap .i64 (c + 1), d, e, f ++ List.set (List.replicate 1 zV2) 0 (List.getD ad.1 (Int.toNat c) ByteArray.empty, ae.1, false, IntKind.wrap .i64 (zAn (zSh (IntKind.wrap .i64 (c * 37)) 8) 1 + 1), IntKind.wrap .i64 (IntKind.wrap .i64 (zAn (zSh (IntKind.wrap .i64 (c * 37)) 8) 1 + 1) + zAn (zSh (IntKind.wrap .i64 (c * 37)) 9) 1), ap.1), ())))
 (.no))))
 (.cond (false)
 (.no)
 (.opt (predQ (zSh (IntKind.wrap .i64 (c * 37)) 10, List.getD ad.1 (Int.toNat c) ByteArray.empty, { data := #[97] }, ())) fun aq =>
 (.cond (decide ((List.length f + List.length (List.set (List.replicate 1 zV2) 0 (List.getD ad.1 (Int.toNat c) ByteArray.empty, ae.1, false, IntKind.wrap .i64 (zAn (zSh (IntKind.wrap .i64 (c * 37)) 8) 1 + 1), IntKind.wrap .i64 (IntKind.wrap .i64 (zAn (zSh (IntKind.wrap .i64 (c * 37)) 8) 1 + 1) + zAn (zSh (IntKind.wrap .i64 (c * 37)) 9) 1), aq.1))) * 88 ≤ 140737488355328))
 (.ret (.inl (a, b, IntKind.wrap .i64 (c + 1), d, e, f ++ List.set (List.replicate 1 zV2) 0 (List.getD ad.1 (Int.toNat c) ByteArray.empty, ae.1, false, IntKind.wrap .i64 (zAn (zSh (IntKind.wrap .i64 (c * 37)) 8) 1 + 1), IntKind.wrap .i64 (IntKind.wrap .i64 (zAn (zSh (IntKind.wrap .i64 (c * 37)) 8) 1 + 1) + zAn (zSh (IntKind.wrap .i64 (c * 37)) 9) 1), aq.1), ())))
 (.no)))))
 (.no)))))
 (.cond (c == 0)
 (.cond (false)
 (.no)
 (.opt (predQ (zSh (IntKind.wrap .i64 (c * 37)) 10, List.getD ad.1 (Int.toNat c) ByteArray.empty, List.getD ad.1 (Int.toNat c) ByteArray.empty, ())) fun ar =>
 (.cond (decide ((List.length f + List.length (List.set (List.replicate 1 zV2) 0 (List.getD ad.1 (Int.toNat c) ByteArray.empty, ae.1, false, 1, 1, ar.1))) * 88 ≤ 140737488355328))
 (.ret (.inl (a, b, IntKind.wrap .i64 (c + 1), d, e, f ++ List.set (List.replicate 1 zV2) 0 (List.getD ad.1 (Int.toNat c) ByteArray.empty, ae.1, false, 1, 1, ar.1), ())))
 (.no))))
 (.cond (decide (0 ≤ 0) && decide (0 < (↑(List.length f) : Int)))
 (.cond ((List.getD f (Int.toNat 0) zV2).2.2.2.2.1 != 1)
 (.cond (false)
 (.no)
 (.opt (predQ (zSh (IntKind.wrap .i64 (c * 37)) 10, List.getD ad.1 (Int.toNat c) ByteArray.empty, List.getD ad.1 (Int.toNat c) ByteArray.empty, ())) fun au =>
 (.cond (decide ((List.length f + List.length (List.set (List.replicate 1 zV2) 0 (List.getD ad.1 (Int.toNat c) ByteArray.empty, ae.1, false, 1, 1, au.1))) * 88 ≤ 140737488355328))
 (.ret (.inl (a, b, IntKind.wrap .i64 (c + 1), d, e, f ++ List.set (List.replicate 1 zV2) 0 (List.getD ad.1 (Int.toNat c) ByteArray.empty, ae.1, false, 1, 1, au.1), ())))
 (.no))))
 (.cond (false)
 (.no)
 (.opt (predQ (zSh (IntKind.wrap .i64 (c * 37)) 10, List.getD ad.1 (Int.toNat c) ByteArray.empty, { data := #[97] }, ())) fun av =>
 (.cond (decide ((List.length f + List.length (List.set (List.replicate 1 zV2) 0 (List.getD ad.1 (Int.toNat c) ByteArray.empty, ae.1, false, 1, 1, av.1))) * 88 ≤ 140737488355328))
 (.ret (.inl (a, b, IntKind.wrap .i64 (c + 1), d, e, f ++ List.set (List.replicate 1 zV2) 0 (List.getD ad.1 (Int.toNat c) ByteArray.empty, ae.1, false, 1, 1, av.1), ())))
 (.no)))))
 (.no))))))
 (.cond (false)
 (.no)
 (.cond (zAn (zSh (IntKind.wrap .i64 (c * 37)) 6) 3 == 0)
 (.cond (false)
 (.no)
 (.cond (false)
 (.no)
 (.cond (c == 0)
 (.cond (false)
 (.no)
 (.opt (predQ (zSh (IntKind.wrap .i64 (c * 37)) 10, List.getD ad.1 (Int.toNat c) ByteArray.empty, List.getD ad.1 (Int.toNat c) ByteArray.empty, ())) fun aw =>
 (.cond (decide ((List.length f + List.length (List.set (List.replicate 1 zV2) 0 (List.getD ad.1 (Int.toNat c) ByteArray.empty, ae.1, false, IntKind.wrap .i64 (zAn (zSh (IntKind.wrap .i64 (c * 37)) 8) 1 + 1), IntKind.wrap .i64 (IntKind.wrap .i64 (zAn (zSh (IntKind.wrap .i64 (c * 37)) 8) 1 + 1) + zAn (zSh (IntKind.wrap .i64 (c * 37)) 9) 1), aw.1))) * 88 ≤ 140737488355328))
 (.ret (.inl (a, b, IntKind.wrap .i64 (c + 1), d, e, f ++ List.set (List.replicate 1 zV2) 0 (List.getD ad.1 (Int.toNat c) ByteArray.empty, ae.1, false, IntKind.wrap .i64 (zAn (zSh (IntKind.wrap .i64 (c * 37)) 8) 1 + 1), IntKind.wrap .i64 (IntKind.wrap .i64 (zAn (zSh (IntKind.wrap .i64 (c * 37)) 8) 1 + 1) + zAn (zSh (IntKind.wrap .i64 (c * 37)) 9) 1), aw.1), ())))
 (.no))))
 (.cond (decide (0 ≤ 0) && decide (0 < (↑(List.length f) : Int)))
 (.cond ((List.getD f (Int.toNat 0) zV2).2.2.2.2.1 != 1)
 (.cond (false)
 (.no)
 (.opt (predQ (zSh (IntKind.wrap .i64 (c * 37)) 10, List.getD ad.1 (Int.toNat c) ByteArray.empty, List.getD ad.1 (Int.toNat c) ByteArray.empty, ())) fun ax =>
 (.cond (decide ((List.length f + List.length (List.set (List.replicate 1 zV2) 0 (List.getD ad.1 (Int.toNat c) ByteArray.empty, ae.1, false, IntKind.wrap .i64 (zAn (zSh (IntKind.wrap .i64 (c * 37)) 8) 1 + 1), IntKind.wrap .i64 (IntKind.wrap .i64 (zAn (zSh (IntKind.wrap .i64 (c * 37)) 8) 1 + 1) + zAn (zSh (IntKind.wrap .i64 (c * 37)) 9) 1), ax.1))) * 88 ≤ 140737488355328))
 (.ret (.inl (a, b, IntKind.wrap .i64 (c + 1), d, e, f ++ List.set (List.replicate 1 zV2) 0 (List.getD ad.1 (Int.toNat c) ByteArray.empty, ae.1, false, IntKind.wrap .i64 (zAn (zSh (IntKind.wrap .i64 (c * 37)) 8) 1 + 1), IntKind.wrap .i64 (IntKind.wrap .i64 (zAn (zSh (IntKind.wrap .i64 (c * 37)) 8) 1 + 1) + zAn (zSh (IntKind.wrap .i64 (c * 37)) 9) 1), ax.1), ())))
 (.no))))
 (.cond (false)
 (.no)
 (.opt (predQ (zSh (IntKind.wrap .i64 (c * 37)) 10, List.getD ad.1 (Int.toNat c) ByteArray.empty, { data := #[97] }, ())) fun ay =>
 (.cond (decide ((List.length f + List.length (List.set (List.replicate 1 zV2) 0 (List.getD ad.1 (Int.toNat c) ByteArray.empty, ae.1, false, IntKind.wrap .i64 (zAn (zSh (IntKind.wrap .i64 (c * 37)) 8) 1 + 1), IntKind.wrap .i64 (IntKind.wrap .i64 (zAn (zSh (IntKind.wrap .i64 (c * 37)) 8) 1 + 1) + zAn (zSh (IntKind.wrap .i64 (c * 37)) 9) 1), ay.1))) * 88 ≤ 140737488355328))
 (.ret (.inl (a, b, IntKind.wrap .i64 (c + 1), d, e, f ++ List.set (List.replicate 1 zV2) 0 (List.getD ad.1 (Int.toNat c) ByteArray.empty, ae.1, false, IntKind.wrap .i64 (zAn (zSh (IntKind.wrap .i64 (c * 37)) 8) 1 + 1), IntKind.wrap .i64 (IntKind.wrap .i64 (zAn (zSh (IntKind.wrap .i64 (c * 37)) 8) 1 + 1) + zAn (zSh (IntKind.wrap .i64 (c * 37)) 9) 1), ay.1), ())))
 (.no)))))
 (.no)))))
 (.cond (c == 0)
 (.cond (false)
 (.no)
 (.opt (predQ (zSh (IntKind.wrap .i64 (c * 37)) 10, List.getD ad.1 (Int.toNat c) ByteArray.empty, List.getD ad.1 (Int.toNat c) ByteArray.empty, ())) fun az =>
 (.cond (decide ((List.length f + List.length (List.set (List.replicate 1 zV2) 0 (List.getD ad.1 (Int.toNat c) ByteArray.empty, ae.1, false, 1, 1, az.1))) * 88 ≤ 140737488355328))
 (.ret (.inl (a, b, IntKind.wrap .i64 (c + 1), d, e, f ++ List.set (List.replicate 1 zV2) 0 (List.getD ad.1 (Int.toNat c) ByteArray.empty, ae.1, false, 1, 1, az.1), ())))
 (.no))))
 (.cond (decide (0 ≤ 0) && decide (0 < (↑(List.length f) : Int)))
 (.cond ((List.getD f (Int.toNat 0) zV2).2.2.2.2.1 != 1)
 (.cond (false)
 (.no)
 (.opt (predQ (zSh (IntKind.wrap .i64 (c * 37)) 10, List.getD ad.1 (Int.toNat c) ByteArray.empty, List.getD ad.1 (Int.toNat c) ByteArray.empty, ())) fun a0 =>
 (.cond (decide ((List.length f + List.length (List.set (List.replicate 1 zV2) 0 (List.getD ad.1 (Int.toNat c) ByteArray.empty, ae.1, false, 1, 1, a0.1))) * 88 ≤ 140737488355328))
 (.ret (.inl (a, b, IntKind.wrap .i64 (c + 1), d, e, f ++ List.set (List.replicate 1 zV2) 0 (List.getD ad.1 (Int.toNat c) ByteArray.empty, ae.1, false, 1, 1, a0.1), ())))
 (.no))))
 (.cond (false)
 (.no)
 (.opt (predQ (zSh (IntKind.wrap .i64 (c * 37)) 10, List.getD ad.1 (Int.toNat c) ByteArray.empty, { data := #[97] }, ())) fun a1 =>
 (.cond (decide ((List.length f + List.length (List.set (List.replicate 1 zV2) 0 (List.getD ad.1 (Int.toNat c) ByteArray.empty, ae.1, false, 1, 1, a1.1))) * 88 ≤ 140737488355328))
 (.ret (.inl (a, b, IntKind.wrap .i64 (c + 1), d, e, f ++ List.set (List.replicate 1 zV2) 0 (List.getD ad.1 (Int.toNat c) ByteArray.empty, ae.1, false, 1, 1, a1.1), ())))
 (.no)))))
 (.no)))))))
 (.no))))
 (.ret (.inr (d, e, f, ()))))
noncomputable def queryQ_w0 : ((List Int) × zA30) → Option (Int × (Int × ((List zA1) × Unit))) := iterO fun x => (queryQ_l0 x).run
noncomputable def queryQ_B : ((List Int) × Unit) → Br (zA10 × Unit) := fun (p0, ()) =>
 (.cond (decide ((↑(List.length p0) : Int) > 0))
 (.cond (decide (0 ≤ 0) && decide (0 < (↑(List.length p0) : Int)))
 (.cond (false)
 (.no)
 (.cond (false)
 (.no)
 (.cond (decide (0 ≤ zAn (zSh (zAn (List.getD p0 (Int.toNat 0) 0) 16777215) 6) 3) && decide (zAn (zSh (zAn (List.getD p0 (Int.toNat 0) 0) 16777215) 6) 3 < (↑(List.length (List.set (List.set (List.set (List.set (List.replicate 4 0) 0 100) 1 100) 2 200) 3 1000)) : Int)))
 (.opt (queryQ_w0 (p0, IntKind.wrap .i64 (zAn (zAn (List.getD p0 (Int.toNat 0) 0) 16777215) 3 + 1), 0, IntKind.wrap .i64 (zAn (zSh (zAn (List.getD p0 (Int.toNat 0) 0) 16777215) 2) 15 + 1), List.getD (List.set (List.set (List.set (List.set (List.replicate 4 0) 0 100) 1 100) 2 200) 3 1000) (Int.toNat (zAn (zSh (zAn (List.getD p0 (Int.toNat 0) 0) 16777215) 6) 3)) 0, [], ())) fun a =>
 (.ret ((a.2.2.1, a.1, a.2.1), ())))
 (.no))))
 (.no))
 (.cond (false)
 (.no)
 (.cond (false)
 (.no)
 (.cond (true)
 (.opt (queryQ_w0 (p0, 1, 0, 1, 100, [], ())) fun b =>
 (.ret ((b.2.2.1, b.1, b.2.1), ())))
 (.no)))))
noncomputable def queryQ : ((List Int) × Unit) → Option (zA10 × Unit) := fun x => (queryQ_B x).run
abbrev queryQ_ins : List (Bool × Pat) := [(false, .ty true (.sl (.int .i64)))]
abbrev queryQ_outs : List Pat := [.ty false zA5]
noncomputable abbrev queryQ_f : Func := Tryz.f8
noncomputable abbrev queryQ_P : Program := Tryz.prog
abbrev queryQ_kp : List Nat := kpOf queryQ_ins
abbrev queryQ_kf : List Nat := kfOf queryQ_ins
noncomputable def queryQ_c : Ctx := { cx_predQ with base := 1024 }
theorem queryQ_env : EnvFull queryQ_P queryQ_c := env_base (en_predQ) 1024
abbrev queryQ_H0 : List Hole := [.slot 0 true (.sl (.int .i64)), .slot 4 false (.int .i64), .slot 5 false (.int .i64), .cell 1026 1 false (.int .i64), .cell 1026 2 false (.int .i64), .ar 1724 false 49 zA19]
def queryQ_S0 : Skel := ⟨118, [(2, D.c (C.ref 1026 0 0))], [(1026, [(.mfull 1724), .bad, .bad]), (1724, [])]⟩
abbrev queryQ_H0e0 : List Hole := [.cell 1026 1 false (.int .i64), .cell 1026 2 false (.int .i64), .ar 1725 false 49 zA19]
def queryQ_S0e0 : Skel := ⟨118, [(2, D.c (C.ref 1026 0 0))], [(1026, [(.mfull 1725), .bad, .bad]), (1725, [])]⟩
def queryQ_h0 : Exit → Shape
 | .normal => ⟨[(0, .as true (.sl (.int .i64))), (2, .keep), (4, .as false (.int .i64)), (5, .as false (.int .i64))], [(2, 0, .row 700 false 49 zA19), (2, 1, .as false (.int .i64)), (2, 2, .as false (.int .i64))], [(2, false), (700, false)]⟩
 | .exit 0 => ⟨[(2, .keep)], [(2, 0, .row 701 false 49 zA19), (2, 1, .as false (.int .i64)), (2, 2, .as false (.int .i64))], [(2, false), (701, false)]⟩
 | _ => ⟨[], [], []⟩
def queryQ_e0 : (Int × (Int × ((List zA1) × Unit))) → Exit × St
 | u => (.exit 0, queryQ_S0e0.fillK queryQ_kf queryQ_H0e0 u)
def queryQ_t0 : (Int × (Int × ((List zA1) × Unit))) → Br (Exit × St) := fun u => .ret (.exit 0, queryQ_S0e0.fillK queryQ_kf queryQ_H0e0 u)
noncomputable def queryQ_C0 : Code := loopAt 0 (bodyOf queryQ_f)
noncomputable def queryQ_o0 : St → Br (Exit × St) := loopF queryQ_kp queryQ_kf 1024 (queryQ_h0 .normal) (queryQ_S0.parseK queryQ_kf queryQ_H0) fun x => .opt (queryQ_w0 x) queryQ_t0
noncomputable def queryQ_p : Par := { sh := fun _ => none, k := 0, lo := fun i => bif Nat.beq i 8 then some queryQ_o0 else none }
theorem queryQ_r0 (a : (List Int)) (b : Int) (c : Int) (d : Int) (e : Int) (f : (List zA1)) : roundF queryQ_kp queryQ_kf queryQ_c queryQ_p queryQ_h0 queryQ_C0 (queryQ_S0.fillK queryQ_kf queryQ_H0 (a, b, c, d, e, f, ())) = (queryQ_l0 (a, b, c, d, e, f, ())).bind (loopLeaf (fun x => queryQ_S0.fillK queryQ_kf queryQ_H0 x) queryQ_e0) := by kernel_rfl
theorem queryQ_ok0 (g : Cfg) (hg : ∀ n, Go.PI.look n g.m0 ≠ Option.none → n ∈ queryQ_kp) : LoopOk queryQ_P g queryQ_o0 queryQ_C0 := LoopOk.auto queryQ_env hg queryQ_p (LoOk.of (l := []) (by kernel_rfl) .nil) queryQ_h0 (fun x => queryQ_S0.fillK queryQ_kf queryQ_H0 x) (fun s x h => Skel.parseK_ok s x h) queryQ_l0 queryQ_e0 (fun _ h => by cases h) queryQ_t0 (fun _ => rfl) (fun (a, b, c, d, e, f, ()) => queryQ_r0 a b c d e f)
theorem queryQ_eq (p0 : (List Int)) : ocRun queryQ_c queryQ_p queryQ_f queryQ_ins queryQ_outs (p0, ()) = queryQ_B (p0, ()) := by kernel_rfl
theorem queryQ_oc : OC queryQ_P 8 queryQ_ins queryQ_outs queryQ := OC.of_tree queryQ_env Tryz.func8 (by kernel_rfl) (by kernel_rfl) (p := queryQ_p) (fun g hg => LoOk.of (l := [queryQ_C0]) (by kernel_rfl) (.cons (queryQ_ok0 g hg) (by kernel_rfl) .nil)) (fun (p0, ()) => queryQ_eq p0)
end Go.Proofs.YtiblijkhpmemeaaGreat
