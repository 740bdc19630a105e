/- Contracts of functions. Printed by auto.py. -/
import Derived.Test.YtnhiplibodkciaaHa
import Derived.Test.YtnhiplibodkciaaHd
namespace Go.Proofs.Ytnhiplibodkciaa
open Go.PI Go
noncomputable def varsQ_B : Unit → Br ((List ByteArray) × Unit) := fun (()) =>
 (.ret ([{ data := #[97] }, { data := #[98] }, { data := #[99] }, { data := #[101] }], ()))
noncomputable def varsQ : Unit → Option ((List ByteArray) × Unit) := fun x => (varsQ_B x).run
abbrev varsQ_ins : List (Bool × Pat) := []
abbrev varsQ_outs : List Pat := [.ty false (.sl .str)]
noncomputable abbrev varsQ_f : Func := Try.f85
noncomputable abbrev varsQ_P : Program := Try.prog
noncomputable def varsQ_c : Ctx := { cxM1 with base := 1024 }
set_option maxRecDepth 100000 in
theorem varsQ_env : EnvFull varsQ_P varsQ_c := env_base (enM1) 1024
noncomputable def varsQ_p : Par := { sh := fun _ => none, k := 0, lo := fun _ => none }
set_option maxRecDepth 100000 in
theorem varsQ_eq  : ocRun varsQ_c varsQ_p varsQ_f varsQ_ins varsQ_outs (()) = varsQ_B (()) := by kernel_rfl
set_option maxRecDepth 100000 in
theorem varsQ_oc : OC varsQ_P 85 varsQ_ins varsQ_outs varsQ := OC.of_tree varsQ_env Try.func85 (by kernel_rfl) (by kernel_rfl) (p := varsQ_p) (fun g hg => LoOk.of (l := []) (by kernel_rfl) .nil) (fun (()) => varsQ_eq )
noncomputable def cx_varsQ : Ctx := addO cxM1 85 (ocOrc varsQ_ins varsQ_outs varsQ)
theorem en_varsQ : EnvFull Try.prog cx_varsQ := env_add (enM1) varsQ_oc.callOk
noncomputable def typesQ_B : (Int × Unit) → Br ((List ByteArray) × Unit) := fun (p0, ()) =>
 (.cond (false)
 (.no)
 (.cond (decide (0 ≤ Int.tmod p0 6) && decide (Int.tmod p0 6 < (↑(List.length (List.set (List.set (List.set (List.set (List.set (List.set (List.replicate 6 []) 0 (List.set (List.replicate 1 ByteArray.empty) 0 { data := #[65] })) 1 (List.set (List.replicate 1 ByteArray.empty) 0 { data := #[66] })) 2 (List.set (List.replicate 1 ByteArray.empty) 0 { data := #[67] })) 3 (List.set (List.set (List.replicate 2 ByteArray.empty) 0 { data := #[65] }) 1 { data := #[66] })) 4 (List.set (List.set (List.replicate 2 ByteArray.empty) 0 { data := #[66] }) 1 { data := #[67] })) 5 (List.set (List.set (List.set (List.replicate 3 ByteArray.empty) 0 { data := #[65] }) 1 { data := #[66] }) 2 { data := #[67] }))) : Int)))
 (.ret (List.getD (List.set (List.set (List.set (List.set (List.set (List.set (List.replicate 6 []) 0 (List.set (List.replicate 1 ByteArray.empty) 0 { data := #[65] })) 1 (List.set (List.replicate 1 ByteArray.empty) 0 { data := #[66] })) 2 (List.set (List.replicate 1 ByteArray.empty) 0 { data := #[67] })) 3 (List.set (List.set (List.replicate 2 ByteArray.empty) 0 { data := #[65] }) 1 { data := #[66] })) 4 (List.set (List.set (List.replicate 2 ByteArray.empty) 0 { data := #[66] }) 1 { data := #[67] })) 5 (List.set (List.set (List.set (List.replicate 3 ByteArray.empty) 0 { data := #[65] }) 1 { data := #[66] }) 2 { data := #[67] })) (Int.toNat (Int.tmod p0 6)) [], ()))
 (.no)))
noncomputable def typesQ : (Int × Unit) → Option ((List ByteArray) × Unit) := fun x => (typesQ_B x).run
abbrev typesQ_ins : List (Bool × Pat) := [(false, .ty false (.int .i64))]
abbrev typesQ_outs : List Pat := [.ty false (.sl .str)]
noncomputable abbrev typesQ_f : Func := Try.f86
noncomputable abbrev typesQ_P : Program := Try.prog
noncomputable def typesQ_c : Ctx := { cx_varsQ with base := 1024 }
set_option maxRecDepth 100000 in
theorem typesQ_env : EnvFull typesQ_P typesQ_c := env_base (en_varsQ) 1024
noncomputable def typesQ_p : Par := { sh := fun _ => none, k := 0, lo := fun _ => none }
set_option maxRecDepth 100000 in
theorem typesQ_eq (p0 : Int) : ocRun typesQ_c typesQ_p typesQ_f typesQ_ins typesQ_outs (p0, ()) = typesQ_B (p0, ()) := by kernel_rfl
set_option maxRecDepth 100000 in
theorem typesQ_oc : OC typesQ_P 86 typesQ_ins typesQ_outs typesQ := OC.of_tree typesQ_env Try.func86 (by kernel_rfl) (by kernel_rfl) (p := typesQ_p) (fun g hg => LoOk.of (l := []) (by kernel_rfl) .nil) (fun (p0, ()) => typesQ_eq p0)
noncomputable def cx_typesQ : Ctx := addO cx_varsQ 86 (ocOrc typesQ_ins typesQ_outs typesQ)
theorem en_typesQ : EnvFull Try.prog cx_typesQ := env_add (en_varsQ) typesQ_oc.callOk
noncomputable def fieldQ_B : (ByteArray × (ByteArray × Unit)) → Br (zA12 × Unit) := fun (p0, p1, ()) =>
 (.ret ((2, (0, 0, ByteArray.empty, false), p0, p1), ()))
noncomputable def fieldQ : (ByteArray × (ByteArray × Unit)) → Option (zA12 × Unit) := fun x => (fieldQ_B x).run
abbrev fieldQ_ins : List (Bool × Pat) := [(false, .ty false .str), (false, .ty false .str)]
abbrev fieldQ_outs : List Pat := [.ty false zA13]
noncomputable abbrev fieldQ_f : Func := Try.f130
noncomputable abbrev fieldQ_P : Program := Try.prog
noncomputable def fieldQ_c : Ctx := { cx_typesQ with base := 1024 }
set_option maxRecDepth 100000 in
theorem fieldQ_env : EnvFull fieldQ_P fieldQ_c := env_base (en_typesQ) 1024
noncomputable def fieldQ_p : Par := { sh := fun _ => none, k := 0, lo := fun _ => none }
set_option maxRecDepth 100000 in
theorem fieldQ_eq (p0 : ByteArray) (p1 : ByteArray) : ocRun fieldQ_c fieldQ_p fieldQ_f fieldQ_ins fieldQ_outs (p0, p1, ()) = fieldQ_B (p0, p1, ()) := by kernel_rfl
set_option maxRecDepth 100000 in
theorem fieldQ_oc : OC fieldQ_P 130 fieldQ_ins fieldQ_outs fieldQ := OC.of_tree fieldQ_env Try.func130 (by kernel_rfl) (by kernel_rfl) (p := fieldQ_p) (fun g hg => LoOk.of (l := []) (by kernel_rfl) .nil) (fun (p0, p1, ()) => fieldQ_eq p0 p1)
noncomputable def cx_fieldQ : Ctx := addO cx_typesQ 130 (ocOrc fieldQ_ins fieldQ_outs fieldQ)
theorem en_fieldQ : EnvFull Try.prog cx_fieldQ := env_add (en_typesQ) fieldQ_oc.callOk
noncomputable def numQ_B : (Int × Unit) → Br (zA12 × Unit) := fun (p0, ()) =>
 (.ret ((1, (1, p0, ByteArray.empty, false), ByteArray.empty, ByteArray.empty), ()))
noncomputable def numQ : (Int × Unit) → Option (zA12 × Unit) := fun x => (numQ_B x).run
abbrev numQ_ins : List (Bool × Pat) := [(false, .ty false (.int .i64))]
abbrev numQ_outs : List Pat := [.ty false zA13]
noncomputable abbrev numQ_f : Func := Try.f131
noncomputable abbrev numQ_P : Program := Try.prog
noncomputable def numQ_c : Ctx := { cx_fieldQ with base := 1024 }
set_option maxRecDepth 100000 in
theorem numQ_env : EnvFull numQ_P numQ_c := env_base (en_fieldQ) 1024
noncomputable def numQ_p : Par := { sh := fun _ => none, k := 0, lo := fun _ => none }
set_option maxRecDepth 100000 in
theorem numQ_eq (p0 : Int) : ocRun numQ_c numQ_p numQ_f numQ_ins numQ_outs (p0, ()) = numQ_B (p0, ()) := by kernel_rfl
set_option maxRecDepth 100000 in
theorem numQ_oc : OC numQ_P 131 numQ_ins numQ_outs numQ := OC.of_tree numQ_env Try.func131 (by kernel_rfl) (by kernel_rfl) (p := numQ_p) (fun g hg => LoOk.of (l := []) (by kernel_rfl) .nil) (fun (p0, ()) => numQ_eq p0)
noncomputable def cx_numQ : Ctx := addO cx_fieldQ 131 (ocOrc numQ_ins numQ_outs numQ)
theorem en_numQ : EnvFull Try.prog cx_numQ := env_add (en_fieldQ) numQ_oc.callOk
noncomputable def predQ_B : (Int × (ByteArray × (ByteArray × Unit))) → Br ((List zA12) × Unit) := fun (p0, p1, p2, ()) =>
 (.cond (false)
 (.no)
 (.cond (false)
 (.no)
 (.cond (false)
 (.no)
 (.cond (false)
 (.no)
 (.cond (Int.tmod p0 7 == 0)
 (.ret ([], ()))
 (.cond (Int.tmod p0 7 == 1)
 (.opt (fieldQ (p1, { data := #[120] }, ())) fun y18 =>
 (.opt (numQ (IntKind.wrap .i64 (↑(BitVec.toNat (BitVec.ofInt (IntKind.bits .i64) (Int.fdiv p0 (2 ^ min (Int.toNat 4) (IntKind.bits .i64))) &&& BitVec.ofInt (IntKind.bits .i64) 3)) : Int), ())) fun y19 =>
 (.ret ([y18.1, y19.1, (IntKind.wrap .i64 (7 + Int.tmod (Int.fdiv p0 (2 ^ min (Int.toNat 6) (IntKind.bits .i64))) 6), (0, 0, ByteArray.empty, false), ByteArray.empty, ByteArray.empty)], ()))))
 (.cond (Int.tmod p0 7 == 2)
 (.opt (fieldQ (p1, { data := #[115] }, ())) fun y20 =>
 (.cond (false)
 (.no)
 (.ret ([y20.1, (1, (2, 0, { data := #[117] }, false), ByteArray.empty, ByteArray.empty), (IntKind.wrap .i64 (7 + IntKind.wrap .i64 (↑(BitVec.toNat (BitVec.ofInt (IntKind.bits .i64) (Int.fdiv p0 (2 ^ min (Int.toNat 6) (IntKind.bits .i64))) &&& BitVec.ofInt (IntKind.bits .i64) 1)) : Int)), (0, 0, ByteArray.empty, false), ByteArray.empty, ByteArray.empty)], ()))))
 (.cond (Int.tmod p0 7 == 3)
 (.opt (fieldQ (p1, { data := #[120] }, ())) fun y21 =>
 (.opt (numQ (IntKind.wrap .i64 (↑(BitVec.toNat (BitVec.ofInt (IntKind.bits .i64) (Int.fdiv p0 (2 ^ min (Int.toNat 4) (IntKind.bits .i64))) &&& BitVec.ofInt (IntKind.bits .i64) 3)) : Int), ())) fun y22 =>
 (.ret ([y21.1, y22.1, (IntKind.wrap .i64 (7 + Int.tmod (Int.fdiv p0 (2 ^ min (Int.toNat 6) (IntKind.bits .i64))) 6), (0, 0, ByteArray.empty, false), ByteArray.empty, ByteArray.empty), (13, (0, 0, ByteArray.empty, false), ByteArray.empty, ByteArray.empty)], ()))))
 (.cond (Int.tmod p0 7 == 4)
 (.opt (fieldQ (p1, { data := #[120] }, ())) fun y23 =>
 (.opt (numQ (1, ())) fun y24 =>
 (.opt (fieldQ (p2, { data := #[120] }, ())) fun y25 =>
 (.ret ([y23.1, y24.1, (4, (0, 0, ByteArray.empty, false), ByteArray.empty, ByteArray.empty), y25.1, (IntKind.wrap .i64 (7 + Int.tmod (Int.fdiv p0 (2 ^ min (Int.toNat 6) (IntKind.bits .i64))) 6), (0, 0, ByteArray.empty, false), ByteArray.empty, ByteArray.empty)], ())))))
 (.cond (Int.tmod p0 7 == 5)
 (.opt (fieldQ (p1, { data := #[115] }, ())) fun y26 =>
 (.opt (fieldQ (p2, { data := #[115] }, ())) fun y27 =>
 (.opt (fieldQ (p1, { data := #[120] }, ())) fun y28 =>
 (.opt (numQ (IntKind.wrap .i64 (↑(BitVec.toNat (BitVec.ofInt (IntKind.bits .i64) (Int.fdiv p0 (2 ^ min (Int.toNat 4) (IntKind.bits .i64))) &&& BitVec.ofInt (IntKind.bits .i64) 3)) : Int), ())) fun y29 =>
 (.ret ([y26.1, y27.1, (7, (0, 0, ByteArray.empty, false), ByteArray.empty, ByteArray.empty), y28.1, y29.1, (IntKind.wrap .i64 (7 + Int.tmod (Int.fdiv p0 (2 ^ min (Int.toNat 6) (IntKind.bits .i64))) 6), (0, 0, ByteArray.empty, false), ByteArray.empty, ByteArray.empty), (15, (0, 0, ByteArray.empty, false), ByteArray.empty, ByteArray.empty)], ()))))))
 (.opt (fieldQ (p1, { data := #[120] }, ())) fun y30 =>
 (.opt (fieldQ (p2, { data := #[120] }, ())) fun y31 =>
 (.opt (fieldQ (p2, { data := #[115] }, ())) fun y32 =>
 (.ret ([y30.1, y31.1, (IntKind.wrap .i64 (7 + Int.tmod (Int.fdiv p0 (2 ^ min (Int.toNat 6) (IntKind.bits .i64))) 6), (0, 0, ByteArray.empty, false), ByteArray.empty, ByteArray.empty), y32.1, (1, (2, 0, { data := #[118] }, false), ByteArray.empty, ByteArray.empty), (8, (0, 0, ByteArray.empty, false), ByteArray.empty, ByteArray.empty), (14, (0, 0, ByteArray.empty, false), ByteArray.empty, ByteArray.empty)], ())))))))))))))))
noncomputable def predQ : (Int × (ByteArray × (ByteArray × Unit))) → Option ((List zA12) × Unit) := fun x => (predQ_B x).run
abbrev predQ_ins : List (Bool × Pat) := [(false, .ty false (.int .i64)), (false, .ty false .str), (false, .ty false .str)]
abbrev predQ_outs : List Pat := [.ty false (.sl zA13)]
noncomputable abbrev predQ_f : Func := Try.f87
noncomputable abbrev predQ_P : Program := Try.prog
noncomputable def predQ_c : Ctx := { cx_numQ with base := 1024 }
set_option maxRecDepth 100000 in
theorem predQ_env : EnvFull predQ_P predQ_c := env_base (en_numQ) 1024
noncomputable def predQ_p : Par := { sh := fun _ => none, k := 0, lo := fun _ => none }
set_option maxRecDepth 100000 in
theorem predQ_eq (p0 : Int) (p1 : ByteArray) (p2 : ByteArray) : ocRun predQ_c predQ_p predQ_f predQ_ins predQ_outs (p0, p1, p2, ()) = predQ_B (p0, p1, p2, ()) := by kernel_rfl
set_option maxRecDepth 100000 in
theorem predQ_oc : OC predQ_P 87 predQ_ins predQ_outs predQ := OC.of_tree predQ_env Try.func87 (by kernel_rfl) (by kernel_rfl) (p := predQ_p) (fun g hg => LoOk.of (l := []) (by kernel_rfl) .nil) (fun (p0, p1, p2, ()) => predQ_eq p0 p1 p2)
noncomputable def cx_predQ : Ctx := addO cx_numQ 87 (ocOrc predQ_ins predQ_outs predQ)
theorem en_predQ : EnvFull Try.prog cx_predQ := env_add (en_numQ) predQ_oc.callOk
noncomputable def queryQ_l0 : ((List Int) × zA30) → Br (((List Int) × zA30) ⊕ (Int × (Int × ((List zA1) × Unit)))) := fun (s0_292, s4_293, s5_294, c1026_1_295, c1026_2_296, r1724_297, ()) =>
 (.cond (decide (s5_294 < s4_293))
 (.cond (decide (IntKind.wrap .i64 (s5_294 + 1) < (↑(List.length s0_292) : Int)))
 (.cond (decide (0 ≤ IntKind.wrap .i64 (s5_294 + 1)) && decide (IntKind.wrap .i64 (s5_294 + 1) < (↑(List.length s0_292) : Int)))
 (.opt (varsQ ()) fun y298 =>
 (.cond (decide (0 ≤ s5_294) && decide (s5_294 < (↑(List.length y298.1) : Int)))
 (.opt (typesQ (IntKind.wrap .i64 (↑(BitVec.toNat (BitVec.ofInt (IntKind.bits .i64) (List.getD s0_292 (Int.toNat (IntKind.wrap .i64 (s5_294 + 1))) 0) &&& BitVec.ofInt (IntKind.bits .i64) 16777215)) : Int), ())) fun y299 =>
 (.cond (decide (s5_294 > 0))
 (.cond (decide (s5_294 < IntKind.wrap .i64 (s4_293 - 1)))
 (.cond (false)
 (.no)
 (.cond (!IntKind.wrap .i64 (↑(BitVec.toNat (BitVec.ofInt (IntKind.bits .i64) (Int.fdiv (IntKind.wrap .i64 (↑(BitVec.toNat (BitVec.ofInt (IntKind.bits .i64) (List.getD s0_292 (Int.toNat (IntKind.wrap .i64 (s5_294 + 1))) 0) &&& BitVec.ofInt (IntKind.bits .i64) 16777215)) : Int)) (2 ^ min (Int.toNat 4) (IntKind.bits .i64))) &&& BitVec.ofInt (IntKind.bits .i64) 3)) : Int) == 0)
 (.cond (false)
 (.no)
 (.cond (IntKind.wrap .i64 (↑(BitVec.toNat (BitVec.ofInt (IntKind.bits .i64) (Int.fdiv (IntKind.wrap .i64 (↑(BitVec.toNat (BitVec.ofInt (IntKind.bits .i64) (List.getD s0_292 (Int.toNat (IntKind.wrap .i64 (s5_294 + 1))) 0) &&& BitVec.ofInt (IntKind.bits .i64) 16777215)) : Int)) (2 ^ min (Int.toNat 6) (IntKind.bits .i64))) &&& BitVec.ofInt (IntKind.bits .i64) 3)) : Int) == 0)
 (.cond (false)
 (.no)
 (.cond (false)
 (.no)
 (.cond (s5_294 == 0)
 (.cond (false)
 (.no)
 (.opt (predQ (Int.fdiv (IntKind.wrap .i64 (↑(BitVec.toNat (BitVec.ofInt (IntKind.bits .i64) (List.getD s0_292 (Int.toNat (IntKind.wrap .i64 (s5_294 + 1))) 0) &&& BitVec.ofInt (IntKind.bits .i64) 16777215)) : Int)) (2 ^ min (Int.toNat 10) (IntKind.bits .i64)), List.getD y298.1 (Int.toNat s5_294) ByteArray.empty, List.getD y298.1 (Int.toNat s5_294) ByteArray.empty, ())) fun y300 =>
 (.cond (decide ((List.length r1724_297 + List.length (List.set (List.replicate 1 (ByteArray.empty, [], false, 0, 0, [])) 0 (List.getD y298.1 (Int.toNat s5_294) ByteArray.empty, y299.1, IntKind.wrap .i64 (↑(BitVec.toNat (BitVec.ofInt (IntKind.bits .i64) (Int.fdiv (IntKind.wrap .i64 (↑(BitVec.toNat (BitVec.ofInt (IntKind.bits .i64) (List.getD s0_292 (Int.toNat (IntKind.wrap .i64 (s5_294 + 1))) 0) &&& BitVec.ofInt (IntKind.bits .i64) 16777215)) : Int)) (2 ^ min (Int.toNat 4) (IntKind.bits .i64))) &&& BitVec.ofInt (IntKind.bits .i64) 3)) : Int) == 0, IntKind.wrap .i64 (IntKind.wrap .i64 (↑(BitVec.toNat (BitVec.ofInt (IntKind.bits .i64) (Int.fdiv (IntKind.wrap .i64 (↑(BitVec.toNat (BitVec.ofInt (IntKind.bits .i64) (List.getD s0_292 (Int.toNat (IntKind.wrap .i64 (s5_294 + 1))) 0) &&& BitVec.ofInt (IntKind.bits .i64) 16777215)) : Int)) (2 ^ min (Int.toNat 8) (IntKind.bits .i64))) &&& BitVec.ofInt (IntKind.bits .i64) 1)) : Int) + 1), IntKind.wrap .i64 (IntKind.wrap .i64 (IntKind.wrap .i64 (↑(BitVec.toNat (BitVec.ofInt (IntKind.bits .i64) (Int.fdiv (IntKind.wrap .i64 (↑(BitVec.toNat (BitVec.ofInt (IntKind.bits .i64) (List.getD s0_292 (Int.toNat (IntKind.wrap .i64 (s5_294 + 1))) 0) &&& BitVec.ofInt (IntKind.bits .i64) 16777215)) : Int)) (2 ^ min (Int.toNat 8) (IntKind.bits .i64))) &&& BitVec.ofInt (IntKind.bits .i64) 1)) : Int) + 1) + IntKind.wrap .i64 (↑(BitVec.toNat (BitVec.ofInt (IntKind.bits .i64) (Int.fdiv (IntKind.wrap .i64 (↑(BitVec.toNat (BitVec.ofInt (IntKind.bits .i64) (List.getD s0_292 (Int.toNat (IntKind.wrap .i64 (s5_294 + 1))) 0) &&& BitVec.ofInt (IntKind.bits .i64) 16777215)) : Int)) (2 ^ min (Int.toNat 9) (IntKind.bits .i64))) &&& BitVec.ofInt (IntKind.bits .i64) 1)) : Int)), y300.1))) * 88 ≤ 140737488355328))
 (.ret (.inl (s0_292, s4_293, IntKind.wrap .i64 (s5_294 + 1), c1026_1_295, c1026_2_296, r1724_297 ++ List.set (List.replicate 1 (ByteArray.empty, [], false, 0, 0, [])) 0 (List.getD y298.1 (Int.toNat s5_294) ByteArray.empty, y299.1, IntKind.wrap .i64 (↑(BitVec.toNat (BitVec.ofInt (IntKind.bits .i64) (Int.fdiv (IntKind.wrap .i64 (↑(BitVec.toNat (BitVec.ofInt (IntKind.bits .i64) (List.getD s0_292 (Int.toNat (IntKind.wrap .i64 (s5_294 + 1))) 0) &&& BitVec.ofInt (IntKind.bits .i64) 16777215)) : Int)) (2 ^ min (Int.toNat 4) (IntKind.bits .i64))) &&& BitVec.ofInt (IntKind.bits .i64) 3)) : Int) == 0, IntKind.wrap .i64 (IntKind.wrap .i64 (↑(BitVec.toNat (BitVec.ofInt (IntKind.bits .i64) (Int.fdiv (IntKind.wrap .i64 (↑(BitVec.toNat (BitVec.ofInt (IntKind.bits .i64) (List.getD s0_292 (Int.toNat (IntKind.wrap .i64 (s5_294 + 1))) 0) &&& BitVec.ofInt (IntKind.bits .i64) 16777215)) : Int)) (2 ^ min (Int.toNat 8) (IntKind.bits .i64))) &&& BitVec.ofInt (IntKind.bits .i64) 1)) : Int) + 1), IntKind.wrap .i64 (IntKind.wrap .i64 (IntKind.wrap .i64 (↑(BitVec.toNat (BitVec.ofInt (IntKind.bits .i64) (Int.fdiv (IntKind.wrap .i64 (↑(BitVec.toNat (BitVec.ofInt (IntKind.bits .i64) (List.getD s0_292 (Int.toNat (IntKind.wrap .i64 (s5_294 + 1))) 0) &&& BitVec.ofInt (IntKind.bits .i64) 16777215)) : Int)) (2 ^ min (Int.toNat 8) (IntKind.bits .i64))) &&& BitVec.ofInt (IntKind.bits .i64) 1)) : Int) + 1) + IntKind.wrap .i64 (↑(BitVec.toNat (BitVec.ofInt (IntKind.bits .i64) (Int.fdiv (IntKind.wrap .i64 (↑(BitVec.toNat (BitVec.ofInt (IntKind.bits .i64) (List.getD s0_292 (Int.toNat (IntKind.wrap .i64 (s5_294 + 1))) 0) &&& BitVec.ofInt (IntKind.bits .i64) 16777215)) : Int)) (2 ^ min (Int.toNat 9) (IntKind.bits .i64))) &&& BitVec.ofInt (IntKind.bits .i64) 1)) : Int)), y300.1), ())))
 (.no))))
 (.cond (decide (0 ≤ 0) && decide (0 < (↑(List.length r1724_297) : Int)))
 (.cond (Prod.fst (Prod.snd (Prod.snd (Prod.snd (Prod.snd (List.getD r1724_297 (Int.toNat 0) (ByteArray.empty, [], false, 0, 0, [])))))) != 1)
 (.cond (false)
 (.no)
 (.opt (predQ (Int.fdiv (IntKind.wrap .i64 (↑(BitVec.toNat (BitVec.ofInt (IntKind.bits .i64) (List.getD s0_292 (Int.toNat (IntKind.wrap .i64 (s5_294 + 1))) 0) &&& BitVec.ofInt (IntKind.bits .i64) 16777215)) : Int)) (2 ^ min (Int.toNat 10) (IntKind.bits .i64)), List.getD y298.1 (Int.toNat s5_294) ByteArray.empty, List.getD y298.1 (Int.toNat s5_294) ByteArray.empty, ())) fun y301 =>
 (.cond (decide ((List.length r1724_297 + List.length (List.set (List.replicate 1 (ByteArray.empty, [], false, 0, 0, [])) 0 (List.getD y298.1 (Int.toNat s5_294) ByteArray.empty, y299.1, IntKind.wrap .i64 (↑(BitVec.toNat (BitVec.ofInt (IntKind.bits .i64) (Int.fdiv (IntKind.wrap .i64 (↑(BitVec.toNat (BitVec.ofInt (IntKind.bits .i64) (List.getD s0_292 (Int.toNat (IntKind.wrap .i64 (s5_294 + 1))) 0) &&& BitVec.ofInt (IntKind.bits .i64) 16777215)) : Int)) (2 ^ min (Int.toNat 4) (IntKind.bits .i64))) &&& BitVec.ofInt (IntKind.bits .i64) 3)) : Int) == 0, IntKind.wrap .i64 (IntKind.wrap .i64 (↑(BitVec.toNat (BitVec.ofInt (IntKind.bits .i64) (Int.fdiv (IntKind.wrap .i64 (↑(BitVec.toNat (BitVec.ofInt (IntKind.bits .i64) (List.getD s0_292 (Int.toNat (IntKind.wrap .i64 (s5_294 + 1))) 0) &&& BitVec.ofInt (IntKind.bits .i64) 16777215)) : Int)) (2 ^ min (Int.toNat 8) (IntKind.bits .i64))) &&& BitVec.ofInt (IntKind.bits .i64) 1)) : Int) + 1), IntKind.wrap .i64 (IntKind.wrap .i64 (IntKind.wrap .i64 (↑(BitVec.toNat (BitVec.ofInt (IntKind.bits .i64) (Int.fdiv (IntKind.wrap .i64 (↑(BitVec.toNat (BitVec.ofInt (IntKind.bits .i64) (List.getD s0_292 (Int.toNat (IntKind.wrap .i64 (s5_294 + 1))) 0) &&& BitVec.ofInt (IntKind.bits .i64) 16777215)) : Int)) (2 ^ min (Int.toNat 8) (IntKind.bits .i64))) &&& BitVec.ofInt (IntKind.bits .i64) 1)) : Int) + 1) + IntKind.wrap .i64 (↑(BitVec.toNat (BitVec.ofInt (IntKind.bits .i64) (Int.fdiv (IntKind.wrap .i64 (↑(BitVec.toNat (BitVec.ofInt (IntKind.bits .i64) (List.getD s0_292 (Int.toNat (IntKind.wrap .i64 (s5_294 + 1))) 0) &&& BitVec.ofInt (IntKind.bits .i64) 16777215)) : Int)) (2 ^ min (Int.toNat 9) (IntKind.bits .i64))) &&& BitVec.ofInt (IntKind.bits .i64) 1)) : Int)), y301.1))) * 88 ≤ 140737488355328))
 (.ret (.inl (s0_292, s4_293, IntKind.wrap .i64 (s5_294 + 1), c1026_1_295, c1026_2_296, r1724_297 ++ List.set (List.replicate 1 (ByteArray.empty, [], false, 0, 0, [])) 0 (List.getD y298.1 (Int.toNat s5_294) ByteArray.empty, y299.1, IntKind.wrap .i64 (↑(BitVec.toNat (BitVec.ofInt (IntKind.bits .i64) (Int.fdiv (IntKind.wrap .i64 (↑(BitVec.toNat (BitVec.ofInt (IntKind.bits .i64) (List.getD s0_292 (Int.toNat (IntKind.wrap .i64 (s5_294 + 1))) 0) &&& BitVec.ofInt (IntKind.bits .i64) 16777215)) : Int)) (2 ^ min (Int.toNat 4) (IntKind.bits .i64))) &&& BitVec.ofInt (IntKind.bits .i64) 3)) : Int) == 0, IntKind.wrap .i64 (IntKind.wrap .i64 (↑(BitVec.toNat (BitVec.ofInt (IntKind.bits .i64) (Int.fdiv (IntKind.wrap .i64 (↑(BitVec.toNat (BitVec.ofInt (IntKind.bits .i64) (List.getD s0_292 (Int.toNat (IntKind.wrap .i64 (s5_294 + 1))) 0) &&& BitVec.ofInt (IntKind.bits .i64) 16777215)) : Int)) (2 ^ min (Int.toNat 8) (IntKind.bits .i64))) &&& BitVec.ofInt (IntKind.bits .i64) 1)) : Int) + 1), IntKind.wrap .i64 (IntKind.wrap .i64 (IntKind.wrap .i64 (↑(BitVec.toNat (BitVec.ofInt (IntKind.bits .i64) (Int.fdiv (IntKind.wrap .i64 (↑(BitVec.toNat (BitVec.ofInt (IntKind.bits .i64) (List.getD s0_292 (Int.toNat (IntKind.wrap .i64 (s5_294 + 1))) 0) &&& BitVec.ofInt (IntKind.bits .i64) 16777215)) : Int)) (2 ^ min (Int.toNat 8) (IntKind.bits .i64))) &&& BitVec.ofInt (IntKind.bits .i64) 1)) : Int) + 1) + IntKind.wrap .i64 (↑(BitVec.toNat (BitVec.ofInt (IntKind.bits .i64) (Int.fdiv (IntKind.wrap .i64 (↑(BitVec.toNat (BitVec.ofInt (IntKind.bits .i64) (List.getD s0_292 (Int.toNat (IntKind.wrap .i64 (s5_294 + 1))) 0) &&& BitVec.ofInt (IntKind.bits .i64) 16777215)) : Int)) (2 ^ min (Int.toNat 9) (IntKind.bits .i64))) &&& BitVec.ofInt (IntKind.bits .i64) 1)) : Int)), y301.1), ())))
 (.no))))
 (.cond (false)
 (.no)
 (.opt (predQ (Int.fdiv (IntKind.wrap .i64 (↑(BitVec.toNat (BitVec.ofInt (IntKind.bits .i64) (List.getD s0_292 (Int.toNat (IntKind.wrap .i64 (s5_294 + 1))) 0) &&& BitVec.ofInt (IntKind.bits .i64) 16777215)) : Int)) (2 ^ min (Int.toNat 10) (IntKind.bits .i64)), List.getD y298.1 (Int.toNat s5_294) ByteArray.empty, { data := #[97] }, ())) fun y302 =>
 (.cond (decide ((List.length r1724_297 + List.length (List.set (List.replicate 1 (ByteArray.empty, [], false, 0, 0, [])) 0 (List.getD y298.1 (Int.toNat s5_294) ByteArray.empty, y299.1, IntKind.wrap .i64 (↑(BitVec.toNat (BitVec.ofInt (IntKind.bits .i64) (Int.fdiv (IntKind.wrap .i64 (↑(BitVec.toNat (BitVec.ofInt (IntKind.bits .i64) (List.getD s0_292 (Int.toNat (IntKind.wrap .i64 (s5_294 + 1))) 0) &&& BitVec.ofInt (IntKind.bits .i64) 16777215)) : Int)) (2 ^ min (Int.toNat 4) (IntKind.bits .i64))) &&& BitVec.ofInt (IntKind.bits .i64) 3)) : Int) == 0, IntKind.wrap .i64 (IntKind.wrap .i64 (↑(BitVec.toNat (BitVec.ofInt (IntKind.bits .i64) (Int.fdiv (IntKind.wrap .i64 (↑(BitVec.toNat (BitVec.ofInt (IntKind.bits .i64) (List.getD s0_292 (Int.toNat (IntKind.wrap .i64 (s5_294 + 1))) 0) &&& BitVec.ofInt (IntKind.bits .i64) 16777215)) : Int)) (2 ^ min (Int.toNat 8) (IntKind.bits .i64))) &&& BitVec.ofInt (IntKind.bits .i64) 1)) : Int) + 1), IntKind.wrap .i64 (IntKind.wrap .i64 (IntKind.wrap .i64 (↑(BitVec.toNat (BitVec.ofInt (IntKind.bits .i64) (Int.fdiv (IntKind.wrap .i64 (↑(BitVec.toNat (BitVec.ofInt (IntKind.bits .i64) (List.getD s0_292 (Int.toNat (IntKind.wrap .i64 (s5_294 + 1))) 0) &&& BitVec.ofInt (IntKind.bits .i64) 16777215)) : Int)) (2 ^ min (Int.toNat 8) (IntKind.bits .i64))) &&& BitVec.ofInt (IntKind.bits .i64) 1)) : Int) + 1) + IntKind.wrap .i64 (↑(BitVec.toNat (BitVec.ofInt (IntKind.bits .i64) (Int.fdiv (IntKind.wrap .i64 (↑(BitVec.toNat (BitVec.ofInt (IntKind.bits .i64) (List.getD s0_292 (Int.toNat (IntKind.wrap .i64 (s5_294 + 1))) 0) &&& BitVec.ofInt (IntKind.bits .i64) 16777215)) : Int)) (2 ^ min (Int.toNat 9) (IntKind.bits .i64))) &&& BitVec.ofInt (IntKind.bits .i64) 1)) : Int)), y302.1))) * 88 ≤ 140737488355328))
 (.ret (.inl (s0_292, s4_293, IntKind.wrap .i64 (s5_294 + 1), c1026_1_295, c1026_2_296, r1724_297 ++ List.set (List.replicate 1 (ByteArray.empty, [], false, 0, 0, [])) 0 (List.getD y298.1 (Int.toNat s5_294) ByteArray.empty, y299.1, IntKind.wrap .i64 (↑(BitVec.toNat (BitVec.ofInt (IntKind.bits .i64) (Int.fdiv (IntKind.wrap .i64 (↑(BitVec.toNat (BitVec.ofInt (IntKind.bits .i64) (List.getD s0_292 (Int.toNat (IntKind.wrap .i64 (s5_294 + 1))) 0) &&& BitVec.ofInt (IntKind.bits .i64) 16777215)) : Int)) (2 ^ min (Int.toNat 4) (IntKind.bits .i64))) &&& BitVec.ofInt (IntKind.bits .i64) 3)) : Int) == 0, IntKind.wrap .i64 (IntKind.wrap .i64 (↑(BitVec.toNat (BitVec.ofInt (IntKind.bits .i64) (Int.fdiv (IntKind.wrap .i64 (↑(BitVec.toNat (BitVec.ofInt (IntKind.bits .i64) (List.getD s0_292 (Int.toNat (IntKind.wrap .i64 (s5_294 + 1))) 0) &&& BitVec.ofInt (IntKind.bits .i64) 16777215)) : Int)) (2 ^ min (Int.toNat 8) (IntKind.bits .i64))) &&& BitVec.ofInt (IntKind.bits .i64) 1)) : Int) + 1), IntKind.wrap .i64 (IntKind.wrap .i64 (IntKind.wrap .i64 (↑(BitVec.toNat (BitVec.ofInt (IntKind.bits .i64) (Int.fdiv (IntKind.wrap .i64 (↑(BitVec.toNat (BitVec.ofInt (IntKind.bits .i64) (List.getD s0_292 (Int.toNat (IntKind.wrap .i64 (s5_294 + 1))) 0) &&& BitVec.ofInt (IntKind.bits .i64) 16777215)) : Int)) (2 ^ min (Int.toNat 8) (IntKind.bits .i64))) &&& BitVec.ofInt (IntKind.bits .i64) 1)) : Int) + 1) + IntKind.wrap .i64 (↑(BitVec.toNat (BitVec.ofInt (IntKind.bits .i64) (Int.fdiv (IntKind.wrap .i64 (↑(BitVec.toNat (BitVec.ofInt (IntKind.bits .i64) (List.getD s0_292 (Int.toNat (IntKind.wrap .i64 (s5_294 + 1))) 0) &&& BitVec.ofInt (IntKind.bits .i64) 16777215)) : Int)) (2 ^ min (Int.toNat 9) (IntKind.bits .i64))) &&& BitVec.ofInt (IntKind.bits .i64) 1)) : Int)), y302.1), ())))
 (.no)))))
 (.no)))))
 (.cond (s5_294 == 0)
 (.cond (false)
 (.no)
 (.opt (predQ (Int.fdiv (IntKind.wrap .i64 (↑(BitVec.toNat (BitVec.ofInt (IntKind.bits .i64) (List.getD s0_292 (Int.toNat (IntKind.wrap .i64 (s5_294 + 1))) 0) &&& BitVec.ofInt (IntKind.bits .i64) 16777215)) : Int)) (2 ^ min (Int.toNat 10) (IntKind.bits .i64)), List.getD y298.1 (Int.toNat s5_294) ByteArray.empty, List.getD y298.1 (Int.toNat s5_294) ByteArray.empty, ())) fun y303 =>
 (.cond (decide ((List.length r1724_297 + List.length (List.set (List.replicate 1 (ByteArray.empty, [], false, 0, 0, [])) 0 (List.getD y298.1 (Int.toNat s5_294) ByteArray.empty, y299.1, IntKind.wrap .i64 (↑(BitVec.toNat (BitVec.ofInt (IntKind.bits .i64) (Int.fdiv (IntKind.wrap .i64 (↑(BitVec.toNat (BitVec.ofInt (IntKind.bits .i64) (List.getD s0_292 (Int.toNat (IntKind.wrap .i64 (s5_294 + 1))) 0) &&& BitVec.ofInt (IntKind.bits .i64) 16777215)) : Int)) (2 ^ min (Int.toNat 4) (IntKind.bits .i64))) &&& BitVec.ofInt (IntKind.bits .i64) 3)) : Int) == 0, 1, 1, y303.1))) * 88 ≤ 140737488355328))
 (.ret (.inl (s0_292, s4_293, IntKind.wrap .i64 (s5_294 + 1), c1026_1_295, c1026_2_296, r1724_297 ++ List.set (List.replicate 1 (ByteArray.empty, [], false, 0, 0, [])) 0 (List.getD y298.1 (Int.toNat s5_294) ByteArray.empty, y299.1, IntKind.wrap .i64 (↑(BitVec.toNat (BitVec.ofInt (IntKind.bits .i64) (Int.fdiv (IntKind.wrap .i64 (↑(BitVec.toNat (BitVec.ofInt (IntKind.bits .i64) (List.getD s0_292 (Int.toNat (IntKind.wrap .i64 (s5_294 + 1))) 0) &&& BitVec.ofInt (IntKind.bits .i64) 16777215)) : Int)) (2 ^ min (Int.toNat 4) (IntKind.bits .i64))) &&& BitVec.ofInt (IntKind.bits .i64) 3)) : Int) == 0, 1, 1, y303.1), ())))
 (.no))))
 (.cond (decide (0 ≤ 0) && decide (0 < (↑(List.length r1724_297) : Int)))
 (.cond (Prod.fst (Prod.snd (Prod.snd (Prod.snd (Prod.snd (List.getD r1724_297 (Int.toNat 0) (ByteArray.empty, [], false, 0, 0, [])))))) != 1)
 (.cond (false)
 (.no)
 (.opt (predQ (Int.fdiv (IntKind.wrap .i64 (↑(BitVec.toNat (BitVec.ofInt (IntKind.bits .i64) (List.getD s0_292 (Int.toNat (IntKind.wrap .i64 (s5_294 + 1))) 0) &&& BitVec.ofInt (IntKind.bits .i64) 16777215)) : Int)) (2 ^ min (Int.toNat 10) (IntKind.bits .i64)), List.getD y298.1 (Int.toNat s5_294) ByteArray.empty, List.getD y298.1 (Int.toNat s5_294) ByteArray.empty, ())) fun y304 =>
 (.cond (decide ((List.length r1724_297 + List.length (List.set (List.replicate 1 (ByteArray.empty, [], false, 0, 0, [])) 0 (List.getD y298.1 (Int.toNat s5_294) ByteArray.empty, y299.1, IntKind.wrap .i64 (↑(BitVec.toNat (BitVec.ofInt (IntKind.bits .i64) (Int.fdiv (IntKind.wrap .i64 (↑(BitVec.toNat (BitVec.ofInt (IntKind.bits .i64) (List.getD s0_292 (Int.toNat (IntKind.wrap .i64 (s5_294 + 1))) 0) &&& BitVec.ofInt (IntKind.bits .i64) 16777215)) : Int)) (2 ^ min (Int.toNat 4) (IntKind.bits .i64))) &&& BitVec.ofInt (IntKind.bits .i64) 3)) : Int) == 0, 1, 1, y304.1))) * 88 ≤ 140737488355328))
 (.ret (.inl (s0_292, s4_293, IntKind.wrap .i64 (s5_294 + 1), c1026_1_295, c1026_2_296, r1724_297 ++ List.set (List.replicate 1 (ByteArray.empty, [], false, 0, 0, [])) 0 (List.getD y298.1 (Int.toNat s5_294) ByteArray.empty, y299.1, IntKind.wrap .i64 (↑(BitVec.toNat (BitVec.ofInt (IntKind.bits .i64) (Int.fdiv (IntKind.wrap .i64 (↑(BitVec.toNat (BitVec.ofInt (IntKind.bits .i64) (List.getD s0_292 (Int.toNat (IntKind.wrap .i64 (s5_294 + 1))) 0) &&& BitVec.ofInt (IntKind.bits .i64) 16777215)) : Int)) (2 ^ min (Int.toNat 4) (IntKind.bits .i64))) &&& BitVec.ofInt (IntKind.bits .i64) 3)) : Int) == 0, 1, 1, y304.1), ())))
 (.no))))
 (.cond (false)
 (.no)
 (.opt (predQ (Int.fdiv (IntKind.wrap .i64 (↑(BitVec.toNat (BitVec.ofInt (IntKind.bits .i64) (List.getD s0_292 (Int.toNat (IntKind.wrap .i64 (s5_294 + 1))) 0) &&& BitVec.ofInt (IntKind.bits .i64) 16777215)) : Int)) (2 ^ min (Int.toNat 10) (IntKind.bits .i64)), List.getD y298.1 (Int.toNat s5_294) ByteArray.empty, { data := #[97] }, ())) fun y305 =>
 (.cond (decide ((List.length r1724_297 + List.length (List.set (List.replicate 1 (ByteArray.empty, [], false, 0, 0, [])) 0 (List.getD y298.1 (Int.toNat s5_294) ByteArray.empty, y299.1, IntKind.wrap .i64 (↑(BitVec.toNat (BitVec.ofInt (IntKind.bits .i64) (Int.fdiv (IntKind.wrap .i64 (↑(BitVec.toNat (BitVec.ofInt (IntKind.bits .i64) (List.getD s0_292 (Int.toNat (IntKind.wrap .i64 (s5_294 + 1))) 0) &&& BitVec.ofInt (IntKind.bits .i64) 16777215)) : Int)) (2 ^ min (Int.toNat 4) (IntKind.bits .i64))) &&& BitVec.ofInt (IntKind.bits .i64) 3)) : Int) == 0, 1, 1, y305.1))) * 88 ≤ 140737488355328))
 (.ret (.inl (s0_292, s4_293, IntKind.wrap .i64 (s5_294 + 1), c1026_1_295, c1026_2_296, r1724_297 ++ List.set (List.replicate 1 (ByteArray.empty, [], false, 0, 0, [])) 0 (List.getD y298.1 (Int.toNat s5_294) ByteArray.empty, y299.1, IntKind.wrap .i64 (↑(BitVec.toNat (BitVec.ofInt (IntKind.bits .i64) (Int.fdiv (IntKind.wrap .i64 (↑(BitVec.toNat (BitVec.ofInt (IntKind.bits .i64) (List.getD s0_292 (Int.toNat (IntKind.wrap .i64 (s5_294 + 1))) 0) &&& BitVec.ofInt (IntKind.bits .i64) 16777215)) : Int)) (2 ^ min (Int.toNat 4) (IntKind.bits .i64))) &&& BitVec.ofInt (IntKind.bits .i64) 3)) : Int) == 0, 1, 1, y305.1), ())))
 (.no)))))
 (.no)))))
 (.cond (s5_294 == 0)
 (.cond (false)
 (.no)
 (.opt (predQ (Int.fdiv (IntKind.wrap .i64 (↑(BitVec.toNat (BitVec.ofInt (IntKind.bits .i64) (List.getD s0_292 (Int.toNat (IntKind.wrap .i64 (s5_294 + 1))) 0) &&& BitVec.ofInt (IntKind.bits .i64) 16777215)) : Int)) (2 ^ min (Int.toNat 10) (IntKind.bits .i64)), List.getD y298.1 (Int.toNat s5_294) ByteArray.empty, List.getD y298.1 (Int.toNat s5_294) ByteArray.empty, ())) fun y306 =>
 (.cond (decide ((List.length r1724_297 + List.length (List.set (List.replicate 1 (ByteArray.empty, [], false, 0, 0, [])) 0 (List.getD y298.1 (Int.toNat s5_294) ByteArray.empty, y299.1, IntKind.wrap .i64 (↑(BitVec.toNat (BitVec.ofInt (IntKind.bits .i64) (Int.fdiv (IntKind.wrap .i64 (↑(BitVec.toNat (BitVec.ofInt (IntKind.bits .i64) (List.getD s0_292 (Int.toNat (IntKind.wrap .i64 (s5_294 + 1))) 0) &&& BitVec.ofInt (IntKind.bits .i64) 16777215)) : Int)) (2 ^ min (Int.toNat 4) (IntKind.bits .i64))) &&& BitVec.ofInt (IntKind.bits .i64) 3)) : Int) == 0, 1, 1, y306.1))) * 88 ≤ 140737488355328))
 (.ret (.inl (s0_292, s4_293, IntKind.wrap .i64 (s5_294 + 1), c1026_1_295, c1026_2_296, r1724_297 ++ List.set (List.replicate 1 (ByteArray.empty, [], false, 0, 0, [])) 0 (List.getD y298.1 (Int.toNat s5_294) ByteArray.empty, y299.1, IntKind.wrap .i64 (↑(BitVec.toNat (BitVec.ofInt (IntKind.bits .i64) (Int.fdiv (IntKind.wrap .i64 (↑(BitVec.toNat (BitVec.ofInt (IntKind.bits .i64) (List.getD s0_292 (Int.toNat (IntKind.wrap .i64 (s5_294 + 1))) 0) &&& BitVec.ofInt (IntKind.bits .i64) 16777215)) : Int)) (2 ^ min (Int.toNat 4) (IntKind.bits .i64))) &&& BitVec.ofInt (IntKind.bits .i64) 3)) : Int) == 0, 1, 1, y306.1), ())))
 (.no))))
 (.cond (decide (0 ≤ 0) && decide (0 < (↑(List.length r1724_297) : Int)))
 (.cond (Prod.fst (Prod.snd (Prod.snd (Prod.snd (Prod.snd (List.getD r1724_297 (Int.toNat 0) (ByteArray.empty, [], false, 0, 0, [])))))) != 1)
 (.cond (false)
 (.no)
 (.opt (predQ (Int.fdiv (IntKind.wrap .i64 (↑(BitVec.toNat (BitVec.ofInt (IntKind.bits .i64) (List.getD s0_292 (Int.toNat (IntKind.wrap .i64 (s5_294 + 1))) 0) &&& BitVec.ofInt (IntKind.bits .i64) 16777215)) : Int)) (2 ^ min (Int.toNat 10) (IntKind.bits .i64)), List.getD y298.1 (Int.toNat s5_294) ByteArray.empty, List.getD y298.1 (Int.toNat s5_294) ByteArray.empty, ())) fun y307 =>
 (.cond (decide ((List.length r1724_297 + List.length (List.set (List.replicate 1 (ByteArray.empty, [], false, 0, 0, [])) 0 (List.getD y298.1 (Int.toNat s5_294) ByteArray.empty, y299.1, IntKind.wrap .i64 (↑(BitVec.toNat (BitVec.ofInt (IntKind.bits .i64) (Int.fdiv (IntKind.wrap .i64 (↑(BitVec.toNat (BitVec.ofInt (IntKind.bits .i64) (List.getD s0_292 (Int.toNat (IntKind.wrap .i64 (s5_294 + 1))) 0) &&& BitVec.ofInt (IntKind.bits .i64) 16777215)) : Int)) (2 ^ min (Int.toNat 4) (IntKind.bits .i64))) &&& BitVec.ofInt (IntKind.bits .i64) 3)) : Int) == 0, 1, 1, y307.1))) * 88 ≤ 140737488355328))
 (.ret (.inl (s0_292, s4_293, IntKind.wrap .i64 (s5_294 + 1), c1026_1_295, c1026_2_296, r1724_297 ++ List.set (List.replicate 1 (ByteArray.empty, [], false, 0, 0, [])) 0 (List.getD y298.1 (Int.toNat s5_294) ByteArray.empty, y299.1, IntKind.wrap .i64 (↑(BitVec.toNat (BitVec.ofInt (IntKind.bits .i64) (Int.fdiv (IntKind.wrap .i64 (↑(BitVec.toNat (BitVec.ofInt (IntKind.bits .i64) (List.getD s0_292 (Int.toNat (IntKind.wrap .i64 (s5_294 + 1))) 0) &&& BitVec.ofInt (IntKind.bits .i64) 16777215)) : Int)) (2 ^ min (Int.toNat 4) (IntKind.bits .i64))) &&& BitVec.ofInt (IntKind.bits .i64) 3)) : Int) == 0, 1, 1, y307.1), ())))
 (.no))))
 (.cond (false)
 (.no)
 (.opt (predQ (Int.fdiv (IntKind.wrap .i64 (↑(BitVec.toNat (BitVec.ofInt (IntKind.bits .i64) (List.getD s0_292 (Int.toNat (IntKind.wrap .i64 (s5_294 + 1))) 0) &&& BitVec.ofInt (IntKind.bits .i64) 16777215)) : Int)) (2 ^ min (Int.toNat 10) (IntKind.bits .i64)), List.getD y298.1 (Int.toNat s5_294) ByteArray.empty, { data := #[97] }, ())) fun y308 =>
 (.cond (decide ((List.length r1724_297 + List.length (List.set (List.replicate 1 (ByteArray.empty, [], false, 0, 0, [])) 0 (List.getD y298.1 (Int.toNat s5_294) ByteArray.empty, y299.1, IntKind.wrap .i64 (↑(BitVec.toNat (BitVec.ofInt (IntKind.bits .i64) (Int.fdiv (IntKind.wrap .i64 (↑(BitVec.toNat (BitVec.ofInt (IntKind.bits .i64) (List.getD s0_292 (Int.toNat (IntKind.wrap .i64 (s5_294 + 1))) 0) &&& BitVec.ofInt (IntKind.bits .i64) 16777215)) : Int)) (2 ^ min (Int.toNat 4) (IntKind.bits .i64))) &&& BitVec.ofInt (IntKind.bits .i64) 3)) : Int) == 0, 1, 1, y308.1))) * 88 ≤ 140737488355328))
 (.ret (.inl (s0_292, s4_293, IntKind.wrap .i64 (s5_294 + 1), c1026_1_295, c1026_2_296, r1724_297 ++ List.set (List.replicate 1 (ByteArray.empty, [], false, 0, 0, [])) 0 (List.getD y298.1 (Int.toNat s5_294) ByteArray.empty, y299.1, IntKind.wrap .i64 (↑(BitVec.toNat (BitVec.ofInt (IntKind.bits .i64) (Int.fdiv (IntKind.wrap .i64 (↑(BitVec.toNat (BitVec.ofInt (IntKind.bits .i64) (List.getD s0_292 (Int.toNat (IntKind.wrap .i64 (s5_294 + 1))) 0) &&& BitVec.ofInt (IntKind.bits .i64) 16777215)) : Int)) (2 ^ min (Int.toNat 4) (IntKind.bits .i64))) &&& BitVec.ofInt (IntKind.bits .i64) 3)) : Int) == 0, 1, 1, y308.1), ())))
 (.no)))))
 (.no)))))
 (.cond (false)
 (.no)
 (.cond (IntKind.wrap .i64 (↑(BitVec.toNat (BitVec.ofInt (IntKind.bits .i64) (Int.fdiv (IntKind.wrap .i64 (↑(BitVec.toNat (BitVec.ofInt (IntKind.bits .i64) (List.getD s0_292 (Int.toNat (IntKind.wrap .i64 (s5_294 + 1))) 0) &&& BitVec.ofInt (IntKind.bits .i64) 16777215)) : Int)) (2 ^ min (Int.toNat 6) (IntKind.bits .i64))) &&& BitVec.ofInt (IntKind.bits .i64) 3)) : Int) == 0)
 (.cond (false)
 (.no)
 (.cond (false)
 (.no)
 (.cond (s5_294 == 0)
 (.cond (false)
 (.no)
 (.opt (predQ (Int.fdiv (IntKind.wrap .i64 (↑(BitVec.toNat (BitVec.ofInt (IntKind.bits .i64) (List.getD s0_292 (Int.toNat (IntKind.wrap .i64 (s5_294 + 1))) 0) &&& BitVec.ofInt (IntKind.bits .i64) 16777215)) : Int)) (2 ^ min (Int.toNat 10) (IntKind.bits .i64)), List.getD y298.1 (Int.toNat s5_294) ByteArray.empty, List.getD y298.1 (Int.toNat s5_294) ByteArray.empty, ())) fun y309 =>
 (.cond (decide ((List.length r1724_297 + List.length (List.set (List.replicate 1 (ByteArray.empty, [], false, 0, 0, [])) 0 (List.getD y298.1 (Int.toNat s5_294) ByteArray.empty, y299.1, false, IntKind.wrap .i64 (IntKind.wrap .i64 (↑(BitVec.toNat (BitVec.ofInt (IntKind.bits .i64) (Int.fdiv (IntKind.wrap .i64 (↑(BitVec.toNat (BitVec.ofInt (IntKind.bits .i64) (List.getD s0_292 (Int.toNat (IntKind.wrap .i64 (s5_294 + 1))) 0) &&& BitVec.ofInt (IntKind.bits .i64) 16777215)) : Int)) (2 ^ min (Int.toNat 8) (IntKind.bits .i64))) &&& BitVec.ofInt (IntKind.bits .i64) 1)) : Int) + 1), IntKind.wrap .i64 (IntKind.wrap .i64 (IntKind.wrap .i64 (↑(BitVec.toNat (BitVec.ofInt (IntKind.bits .i64) (Int.fdiv (IntKind.wrap .i64 (↑(BitVec.toNat (BitVec.ofInt (IntKind.bits .i64) (List.getD s0_292 (Int.toNat (IntKind.wrap .i64 (s5_294 + 1))) 0) &&& BitVec.ofInt (IntKind.bits .i64) 16777215)) : Int)) (2 ^ min (Int.toNat 8) (IntKind.bits .i64))) &&& BitVec.ofInt (IntKind.bits .i64) 1)) : Int) + 1) + IntKind.wrap .i64 (↑(BitVec.toNat (BitVec.ofInt (IntKind.bits .i64) (Int.fdiv (IntKind.wrap .i64 (↑(BitVec.toNat (BitVec.ofInt (IntKind.bits .i64) (List.getD s0_292 (Int.toNat (IntKind.wrap .i64 (s5_294 + 1))) 0) &&& BitVec.ofInt (IntKind.bits .i64) 16777215)) : Int)) (2 ^ min (Int.toNat 9) (IntKind.bits .i64))) &&& BitVec.ofInt (IntKind.bits .i64) 1)) : Int)), y309.1))) * 88 ≤ 140737488355328))
 (.ret (.inl (s0_292, s4_293, IntKind.wrap .i64 (s5_294 + 1), c1026_1_295, c1026_2_296, r1724_297 ++ List.set (List.replicate 1 (ByteArray.empty, [], false, 0, 0, [])) 0 (List.getD y298.1 (Int.toNat s5_294) ByteArray.empty, y299.1, false, IntKind.wrap .i64 (IntKind.wrap .i64 (↑(BitVec.toNat (BitVec.ofInt (IntKind.bits .i64) (Int.fdiv (IntKind.wrap .i64 (↑(BitVec.toNat (BitVec.ofInt (IntKind.bits .i64) (List.getD s0_292 (Int.toNat (IntKind.wrap .i64 (s5_294 + 1))) 0) &&& BitVec.ofInt (IntKind.bits .i64) 16777215)) : Int)) (2 ^ min (Int.toNat 8) (IntKind.bits .i64))) &&& BitVec.ofInt (IntKind.bits .i64) 1)) : Int) + 1), IntKind.wrap .i64 (IntKind.wrap .i64 (IntKind.wrap .i64 (↑(BitVec.toNat (BitVec.ofInt (IntKind.bits .i64) (Int.fdiv (IntKind.wrap .i64 (↑(BitVec.toNat (BitVec.ofInt (IntKind.bits .i64) (List.getD s0_292 (Int.toNat (IntKind.wrap .i64 (s5_294 + 1))) 0) &&& BitVec.ofInt (IntKind.bits .i64) 16777215)) : Int)) (2 ^ min (Int.toNat 8) (IntKind.bits .i64))) &&& BitVec.ofInt (IntKind.bits .i64) 1)) : Int) + 1) + IntKind.wrap .i64 (↑(BitVec.toNat (BitVec.ofInt (IntKind.bits .i64) (Int.fdiv (IntKind.wrap .i64 (↑(BitVec.toNat (BitVec.ofInt (IntKind.bits .i64) (List.getD s0_292 (Int.toNat (IntKind.wrap .i64 (s5_294 + 1))) 0) &&& BitVec.ofInt (IntKind.bits .i64) 16777215)) : Int)) (2 ^ min (Int.toNat 9) (IntKind.bits .i64))) &&& BitVec.ofInt (IntKind.bits .i64) 1)) : Int)), y309.1), ())))
 (.no))))
 (.cond (decide (0 ≤ 0) && decide (0 < (↑(List.length r1724_297) : Int)))
 (.cond (Prod.fst (Prod.snd (Prod.snd (Prod.snd (Prod.snd (List.getD r1724_297 (Int.toNat 0) (ByteArray.empty, [], false, 0, 0, [])))))) != 1)
 (.cond (false)
 (.no)
 (.opt (predQ (Int.fdiv (IntKind.wrap .i64 (↑(BitVec.toNat (BitVec.ofInt (IntKind.bits .i64) (List.getD s0_292 (Int.toNat (IntKind.wrap .i64 (s5_294 + 1))) 0) &&& BitVec.ofInt (IntKind.bits .i64) 16777215)) : Int)) (2 ^ min (Int.toNat 10) (IntKind.bits .i64)), List.getD y298.1 (Int.toNat s5_294) ByteArray.empty, List.getD y298.1 (Int.toNat s5_294) ByteArray.empty, ())) fun y310 =>
 (.cond (decide ((List.length r1724_297 + List.length (List.set (List.replicate 1 (ByteArray.empty, [], false, 0, 0, [])) 0 (List.getD y298.1 (Int.toNat s5_294) ByteArray.empty, y299.1, false, IntKind.wrap .i64 (IntKind.wrap .i64 (↑(BitVec.toNat (BitVec.ofInt (IntKind.bits .i64) (Int.fdiv (IntKind.wrap .i64 (↑(BitVec.toNat (BitVec.ofInt (IntKind.bits .i64) (List.getD s0_292 (Int.toNat (IntKind.wrap .i64 (s5_294 + 1))) 0) &&& BitVec.ofInt (IntKind.bits .i64) 16777215)) : Int)) (2 ^ min (Int.toNat 8) (IntKind.bits .i64))) &&& BitVec.ofInt (IntKind.bits .i64) 1)) : Int) + 1), IntKind.wrap .i64 (IntKind.wrap .i64 (IntKind.wrap .i64 (↑(BitVec.toNat (BitVec.ofInt (IntKind.bits .i64) (Int.fdiv (IntKind.wrap .i64 (↑(BitVec.toNat (BitVec.ofInt (IntKind.bits .i64) (List.getD s0_292 (Int.toNat (IntKind.wrap .i64 (s5_294 + 1))) 0) &&& BitVec.ofInt (IntKind.bits .i64) 16777215)) : Int)) (2 ^ min (Int.toNat 8) (IntKind.bits .i64))) &&& BitVec.ofInt (IntKind.bits .i64) 1)) : Int) + 1) + IntKind.wrap .i64 (↑(BitVec.toNat (BitVec.ofInt (IntKind.bits .i64) (Int.fdiv (IntKind.wrap .i64 (↑(BitVec.toNat (BitVec.ofInt (IntKind.bits .i64) (List.getD s0_292 (Int.toNat (IntKind.wrap .i64 (s5_294 + 1))) 0) &&& BitVec.ofInt (IntKind.bits .i64) 16777215)) : Int)) (2 ^ min (Int.toNat 9) (IntKind.bits .i64))) &&& BitVec.ofInt (IntKind.bits .i64) 1)) : Int)), y310.1))) * 88 ≤ 140737488355328))
 (.ret (.inl (s0_292, s4_293, IntKind.wrap .i64 (s5_294 + 1), c1026_1_295, c1026_2_296, r1724_297 ++ List.set (List.replicate 1 (ByteArray.empty, [], false, 0, 0, [])) 0 (List.getD y298.1 (Int.toNat s5_294) ByteArray.empty, y299.1, false, IntKind.wrap .i64 (IntKind.wrap .i64 (↑(BitVec.toNat (BitVec.ofInt (IntKind.bits .i64) (Int.fdiv (IntKind.wrap .i64 (↑(BitVec.toNat (BitVec.ofInt (IntKind.bits .i64) (List.getD s0_292 (Int.toNat (IntKind.wrap .i64 (s5_294 + 1))) 0) &&& BitVec.ofInt (IntKind.bits .i64) 16777215)) : Int)) (2 ^ min (Int.toNat 8) (IntKind.bits .i64))) &&& BitVec.ofInt (IntKind.bits .i64) 1)) : Int) + 1), IntKind.wrap .i64 (IntKind.wrap .i64 (IntKind.wrap .i64 (↑(BitVec.toNat (BitVec.ofInt (IntKind.bits .i64) (Int.fdiv (IntKind.wrap .i64 (↑(BitVec.toNat (BitVec.ofInt (IntKind.bits .i64) (List.getD s0_292 (Int.toNat (IntKind.wrap .i64 (s5_294 + 1))) 0) &&& BitVec.ofInt (IntKind.bits .i64) 16777215)) : Int)) (2 ^ min (Int.toNat 8) (IntKind.bits .i64))) &&& BitVec.ofInt (IntKind.bits .i64) 1)) : Int) + 1) + IntKind.wrap .i64 (↑(BitVec.toNat (BitVec.ofInt (IntKind.bits .i64) (Int.fdiv (IntKind.wrap .i64 (↑(BitVec.toNat (BitVec.ofInt (IntKind.bits .i64) (List.getD s0_292 (Int.toNat (IntKind.wrap .i64 (s5_294 + 1))) 0) &&& BitVec.ofInt (IntKind.bits .i64) 16777215)) : Int)) (2 ^ min (Int.toNat 9) (IntKind.bits .i64))) &&& BitVec.ofInt (IntKind.bits .i64) 1)) : Int)), y310.1), ())))
 (.no))))
 (.cond (false)
 (.no)
 (.opt (predQ (Int.fdiv (IntKind.wrap .i64 (↑(BitVec.toNat (BitVec.ofInt (IntKind.bits .i64) (List.getD s0_292 (Int.toNat (IntKind.wrap .i64 (s5_294 + 1))) 0) &&& BitVec.ofInt (IntKind.bits .i64) 16777215)) : Int)) (2 ^ min (Int.toNat 10) (IntKind.bits .i64)), List.getD y298.1 (Int.toNat s5_294) ByteArray.empty, { data := #[97] }, ())) fun y311 =>
 (.cond (decide ((List.length r1724_297 + List.length (List.set (List.replicate 1 (ByteArray.empty, [], false, 0, 0, [])) 0 (List.getD y298.1 (Int.toNat s5_294) ByteArray.empty, y299.1, false, IntKind.wrap .i64 (IntKind.wrap .i64 (↑(BitVec.toNat (BitVec.ofInt (IntKind.bits .i64) (Int.fdiv (IntKind.wrap .i64 (↑(BitVec.toNat (BitVec.ofInt (IntKind.bits .i64) (List.getD s0_292 (Int.toNat (IntKind.wrap .i64 (s5_294 + 1))) 0) &&& BitVec.ofInt (IntKind.bits .i64) 16777215)) : Int)) (2 ^ min (Int.toNat 8) (IntKind.bits .i64))) &&& BitVec.ofInt (IntKind.bits .i64) 1)) : Int) + 1), IntKind.wrap .i64 (IntKind.wrap .i64 (IntKind.wrap .i64 (↑(BitVec.toNat (BitVec.ofInt (IntKind.bits .i64) (Int.fdiv (IntKind.wrap .i64 (↑(BitVec.toNat (BitVec.ofInt (IntKind.bits .i64) (List.getD s0_292 (Int.toNat (IntKind.wrap .i64 (s5_294 + 1))) 0) &&& BitVec.ofInt (IntKind.bits .i64) 16777215)) : Int)) (2 ^ min (Int.toNat 8) (IntKind.bits .i64))) &&& BitVec.ofInt (IntKind.bits .i64) 1)) : Int) + 1) + IntKind.wrap .i64 (↑(BitVec.toNat (BitVec.ofInt (IntKind.bits .i64) (Int.fdiv (IntKind.wrap .i64 (↑(BitVec.toNat (BitVec.ofInt (IntKind.bits .i64) (List.getD s0_292 (Int.toNat (IntKind.wrap .i64 (s5_294 + 1))) 0) &&& BitVec.ofInt (IntKind.bits .i64) 16777215)) : Int)) (2 ^ min (Int.toNat 9) (IntKind.bits .i64))) &&& BitVec.ofInt (IntKind.bits .i64) 1)) : Int)), y311.1))) * 88 ≤ 140737488355328))
 (.ret (.inl (s0_292, s4_293, IntKind.wrap .i64 (s5_294 + 1), c1026_1_295, c1026_2_296, r1724_297 ++ List.set (List.replicate 1 (ByteArray.empty, [], false, 0, 0, [])) 0 (List.getD y298.1 (Int.toNat s5_294) ByteArray.empty, y299.1, false, IntKind.wrap .i64 (IntKind.wrap .i64 (↑(BitVec.toNat (BitVec.ofInt (IntKind.bits .i64) (Int.fdiv (IntKind.wrap .i64 (↑(BitVec.toNat (BitVec.ofInt (IntKind.bits .i64) (List.getD s0_292 (Int.toNat (IntKind.wrap .i64 (s5_294 + 1))) 0) &&& BitVec.ofInt (IntKind.bits .i64) 16777215)) : Int)) (2 ^ min (Int.toNat 8) (IntKind.bits .i64))) &&& BitVec.ofInt (IntKind.bits .i64) 1)) : Int) + 1), IntKind.wrap .i64 (IntKind.wrap .i64 (IntKind.wrap .i64 (↑(BitVec.toNat (BitVec.ofInt (IntKind.bits .i64) (Int.fdiv (IntKind.wrap .i64 (↑(BitVec.toNat (BitVec.ofInt (IntKind.bits .i64) (List.getD s0_292 (Int.toNat (IntKind.wrap .i64 (s5_294 + 1))) 0) &&& BitVec.ofInt (IntKind.bits .i64) 16777215)) : Int)) (2 ^ min (Int.toNat 8) (IntKind.bits .i64))) &&& BitVec.ofInt (IntKind.bits .i64) 1)) : Int) + 1) + IntKind.wrap .i64 (↑(BitVec.toNat (BitVec.ofInt (IntKind.bits .i64) (Int.fdiv (IntKind.wrap .i64 (↑(BitVec.toNat (BitVec.ofInt (IntKind.bits .i64) (List.getD s0_292 (Int.toNat (IntKind.wrap .i64 (s5_294 + 1))) 0) &&& BitVec.ofInt (IntKind.bits .i64) 16777215)) : Int)) (2 ^ min (Int.toNat 9) (IntKind.bits .i64))) &&& BitVec.ofInt (IntKind.bits .i64) 1)) : Int)), y311.1), ())))
 (.no)))))
 (.no)))))
 (.cond (s5_294 == 0)
 (.cond (false)
 (.no)
 (.opt (predQ (Int.fdiv (IntKind.wrap .i64 (↑(BitVec.toNat (BitVec.ofInt (IntKind.bits .i64) (List.getD s0_292 (Int.toNat (IntKind.wrap .i64 (s5_294 + 1))) 0) &&& BitVec.ofInt (IntKind.bits .i64) 16777215)) : Int)) (2 ^ min (Int.toNat 10) (IntKind.bits .i64)), List.getD y298.1 (Int.toNat s5_294) ByteArray.empty, List.getD y298.1 (Int.toNat s5_294) ByteArray.empty, ())) fun y312 =>
 (.cond (decide ((List.length r1724_297 + List.length (List.set (List.replicate 1 (ByteArray.empty, [], false, 0, 0, [])) 0 (List.getD y298.1 (Int.toNat s5_294) ByteArray.empty, y299.1, false, 1, 1, y312.1))) * 88 ≤ 140737488355328))
 (.ret (.inl (s0_292, s4_293, IntKind.wrap .i64 (s5_294 + 1), c1026_1_295, c1026_2_296, r1724_297 ++ List.set (List.replicate 1 (ByteArray.empty, [], false, 0, 0, [])) 0 (List.getD y298.1 (Int.toNat s5_294) ByteArray.empty, y299.1, false, 1, 1, y312.1), ())))
 (.no))))
 (.cond (decide (0 ≤ 0) && decide (0 < (↑(List.length r1724_297) : Int)))
 (.cond (Prod.fst (Prod.snd (Prod.snd (Prod.snd (Prod.snd (List.getD r1724_297 (Int.toNat 0) (ByteArray.empty, [], false, 0, 0, [])))))) != 1)
 (.cond (false)
 (.no)
 (.opt (predQ (Int.fdiv (IntKind.wrap .i64 (↑(BitVec.toNat (BitVec.ofInt (IntKind.bits .i64) (List.getD s0_292 (Int.toNat (IntKind.wrap .i64 (s5_294 + 1))) 0) &&& BitVec.ofInt (IntKind.bits .i64) 16777215)) : Int)) (2 ^ min (Int.toNat 10) (IntKind.bits .i64)), List.getD y298.1 (Int.toNat s5_294) ByteArray.empty, List.getD y298.1 (Int.toNat s5_294) ByteArray.empty, ())) fun y313 =>
 (.cond (decide ((List.length r1724_297 + List.length (List.set (List.replicate 1 (ByteArray.empty, [], false, 0, 0, [])) 0 (List.getD y298.1 (Int.toNat s5_294) ByteArray.empty, y299.1, false, 1, 1, y313.1))) * 88 ≤ 140737488355328))
 (.ret (.inl (s0_292, s4_293, IntKind.wrap .i64 (s5_294 + 1), c1026_1_295, c1026_2_296, r1724_297 ++ List.set (List.replicate 1 (ByteArray.empty, [], false, 0, 0, [])) 0 (List.getD y298.1 (Int.toNat s5_294) ByteArray.empty, y299.1, false, 1, 1, y313.1), ())))
 (.no))))
 (.cond (false)
 (.no)
 (.opt (predQ (Int.fdiv (IntKind.wrap .i64 (↑(BitVec.toNat (BitVec.ofInt (IntKind.bits .i64) (List.getD s0_292 (Int.toNat (IntKind.wrap .i64 (s5_294 + 1))) 0) &&& BitVec.ofInt (IntKind.bits .i64) 16777215)) : Int)) (2 ^ min (Int.toNat 10) (IntKind.bits .i64)), List.getD y298.1 (Int.toNat s5_294) ByteArray.empty, { data := #[97] }, ())) fun y314 =>
 (.cond (decide ((List.length r1724_297 + List.length (List.set (List.replicate 1 (ByteArray.empty, [], false, 0, 0, [])) 0 (List.getD y298.1 (Int.toNat s5_294) ByteArray.empty, y299.1, false, 1, 1, y314.1))) * 88 ≤ 140737488355328))
 (.ret (.inl (s0_292, s4_293, IntKind.wrap .i64 (s5_294 + 1), c1026_1_295, c1026_2_296, r1724_297 ++ List.set (List.replicate 1 (ByteArray.empty, [], false, 0, 0, [])) 0 (List.getD y298.1 (Int.toNat s5_294) ByteArray.empty, y299.1, false, 1, 1, y314.1), ())))
 (.no)))))
 (.no))))))
 (.cond (false)
 (.no)
 (.cond (IntKind.wrap .i64 (↑(BitVec.toNat (BitVec.ofInt (IntKind.bits .i64) (Int.fdiv (IntKind.wrap .i64 (↑(BitVec.toNat (BitVec.ofInt (IntKind.bits .i64) (List.getD s0_292 (Int.toNat (IntKind.wrap .i64 (s5_294 + 1))) 0) &&& BitVec.ofInt (IntKind.bits .i64) 16777215)) : Int)) (2 ^ min (Int.toNat 6) (IntKind.bits .i64))) &&& BitVec.ofInt (IntKind.bits .i64) 3)) : Int) == 0)
 (.cond (false)
 (.no)
 (.cond (false)
 (.no)
 (.cond (s5_294 == 0)
 (.cond (false)
 (.no)
 (.opt (predQ (Int.fdiv (IntKind.wrap .i64 (↑(BitVec.toNat (BitVec.ofInt (IntKind.bits .i64) (List.getD s0_292 (Int.toNat (IntKind.wrap .i64 (s5_294 + 1))) 0) &&& BitVec.ofInt (IntKind.bits .i64) 16777215)) : Int)) (2 ^ min (Int.toNat 10) (IntKind.bits .i64)), List.getD y298.1 (Int.toNat s5_294) ByteArray.empty, List.getD y298.1 (Int.toNat s5_294) ByteArray.empty, ())) fun y315 =>
 (.cond (decide ((List.length r1724_297 + List.length (List.set (List.replicate 1 (ByteArray.empty, [], false, 0, 0, [])) 0 (List.getD y298.1 (Int.toNat s5_294) ByteArray.empty, y299.1, false, IntKind.wrap .i64 (IntKind.wrap .i64 (↑(BitVec.toNat (BitVec.ofInt (IntKind.bits .i64) (Int.fdiv (IntKind.wrap .i64 (↑(BitVec.toNat (BitVec.ofInt (IntKind.bits .i64) (List.getD s0_292 (Int.toNat (IntKind.wrap .i64 (s5_294 + 1))) 0) &&& BitVec.ofInt (IntKind.bits .i64) 16777215)) : Int)) (2 ^ min (Int.toNat 8) (IntKind.bits .i64))) &&& BitVec.ofInt (IntKind.bits .i64) 1)) : Int) + 1), IntKind.wrap .i64 (IntKind.wrap .i64 (IntKind.wrap .i64 (↑(BitVec.toNat (BitVec.ofInt (IntKind.bits .i64) (Int.fdiv (IntKind.wrap .i64 (↑(BitVec.toNat (BitVec.ofInt (IntKind.bits .i64) (List.getD s0_292 (Int.toNat (IntKind.wrap .i64 (s5_294 + 1))) 0) &&& BitVec.ofInt (IntKind.bits .i64) 16777215)) : Int)) (2 ^ min (Int.toNat 8) (IntKind.bits .i64))) &&& BitVec.ofInt (IntKind.bits .i64) 1)) : Int) + 1) + IntKind.wrap .i64 (↑(BitVec.toNat (BitVec.ofInt (IntKind.bits .i64) (Int.fdiv (IntKind.wrap .i64 (↑(BitVec.toNat (BitVec.ofInt (IntKind.bits .i64) (List.getD s0_292 (Int.toNat (IntKind.wrap .i64 (s5_294 + 1))) 0) &&& BitVec.ofInt (IntKind.bits .i64) 16777215)) : Int)) (2 ^ min (Int.toNat 9) (IntKind.bits .i64))) &&& BitVec.ofInt (IntKind.bits .i64) 1)) : Int)), y315.1))) * 88 ≤ 140737488355328))
 (.ret (.inl (s0_292, s4_293, IntKind.wrap .i64 (s5_294 + 1), c1026_1_295, c1026_2_296, r1724_297 ++ List.set (List.replicate 1 (ByteArray.empty, [], false, 0, 0, [])) 0 (List.getD y298.1 (Int.toNat s5_294) ByteArray.empty, y299.1, false, IntKind.wrap .i64 (IntKind.wrap .i64 (↑(BitVec.toNat (BitVec.ofInt (IntKind.bits .i64) (Int.fdiv (IntKind.wrap .i64 (↑(BitVec.toNat (BitVec.ofInt (IntKind.bits .i64) (List.getD s0_292 (Int.toNat (IntKind.wrap .i64 (s5_294 + 1))) 0) &&& BitVec.ofInt (IntKind.bits .i64) 16777215)) : Int)) (2 ^ min (Int.toNat 8) (IntKind.bits .i64))) &&& BitVec.ofInt (IntKind.bits .i64) 1)) : Int) + 1), IntKind.wrap .i64 (IntKind.wrap .i64 (IntKind.wrap .i64 (↑(BitVec.toNat (BitVec.ofInt (IntKind.bits .i64) (Int.fdiv (IntKind.wrap .i64 (↑(BitVec.toNat (BitVec.ofInt (IntKind.bits .i64) (List.getD s0_292 (Int.toNat (IntKind.wrap .i64 (s5_294 + 1))) 0) &&& BitVec.ofInt (IntKind.bits .i64) 16777215)) : Int)) (2 ^ min (Int.toNat 8) (IntKind.bits .i64))) &&& BitVec.ofInt (IntKind.bits .i64) 1)) : Int) + 1) + IntKind.wrap .i64 (↑(BitVec.toNat (BitVec.ofInt (IntKind.bits .i64) (Int.fdiv (IntKind.wrap .i64 (↑(BitVec.toNat (BitVec.ofInt (IntKind.bits .i64) (List.getD s0_292 (Int.toNat (IntKind.wrap .i64 (s5_294 + 1))) 0) &&& BitVec.ofInt (IntKind.bits .i64) 16777215)) : Int)) (2 ^ min (Int.toNat 9) (IntKind.bits .i64))) &&& BitVec.ofInt (IntKind.bits .i64) 1)) : Int)), y315.1), ())))
 (.no))))
 (.cond (decide (0 ≤ 0) && decide (0 < (↑(List.length r1724_297) : Int)))
 (.cond (Prod.fst (Prod.snd (Prod.snd (Prod.snd (Prod.snd (List.getD r1724_297 (Int.toNat 0) (ByteArray.empty, [], false, 0, 0, [])))))) != 1)
 (.cond (false)
 (.no)
 (.opt (predQ (Int.fdiv (IntKind.wrap .i64 (↑(BitVec.toNat (BitVec.ofInt (IntKind.bits .i64) (List.getD s0_292 (Int.toNat (IntKind.wrap .i64 (s5_294 + 1))) 0) &&& BitVec.ofInt (IntKind.bits .i64) 16777215)) : Int)) (2 ^ min (Int.toNat 10) (IntKind.bits .i64)), List.getD y298.1 (Int.toNat s5_294) ByteArray.empty, List.getD y298.1 (Int.toNat s5_294) ByteArray.empty, ())) fun y316 =>
 (.cond (decide ((List.length r1724_297 + List.length (List.set (List.replicate 1 (ByteArray.empty, [], false, 0, 0, [])) 0 (List.getD y298.1 (Int.toNat s5_294) ByteArray.empty, y299.1, false, IntKind.wrap .i64 (IntKind.wrap .i64 (↑(BitVec.toNat (BitVec.ofInt (IntKind.bits .i64) (Int.fdiv (IntKind.wrap .i64 (↑(BitVec.toNat (BitVec.ofInt (IntKind.bits .i64) (List.getD s0_292 (Int.toNat (IntKind.wrap .i64 (s5_294 + 1))) 0) &&& BitVec.ofInt (IntKind.bits .i64) 16777215)) : Int)) (2 ^ min (Int.toNat 8) (IntKind.bits .i64))) &&& BitVec.ofInt (IntKind.bits .i64) 1)) : Int) + 1), IntKind.wrap .i64 (IntKind.wrap .i64 (IntKind.wrap .i64 (↑(BitVec.toNat (BitVec.ofInt (IntKind.bits .i64) (Int.fdiv (IntKind.wrap .i64 (↑(BitVec.toNat (BitVec.ofInt (IntKind.bits .i64) (List.getD s0_292 (Int.toNat (IntKind.wrap .i64 (s5_294 + 1))) 0) &&& BitVec.ofInt (IntKind.bits .i64) 16777215)) : Int)) (2 ^ min (Int.toNat 8) (IntKind.bits .i64))) &&& BitVec.ofInt (IntKind.bits .i64) 1)) : Int) + 1) + IntKind.wrap .i64 (↑(BitVec.toNat (BitVec.ofInt (IntKind.bits .i64) (Int.fdiv (IntKind.wrap .i64 (↑(BitVec.toNat (BitVec.ofInt (IntKind.bits .i64) (List.getD s0_292 (Int.toNat (IntKind.wrap .i64 (s5_294 + 1))) 0) &&& BitVec.ofInt (IntKind.bits .i64) 16777215)) : Int)) (2 ^ min (Int.toNat 9) (IntKind.bits .i64))) &&& BitVec.ofInt (IntKind.bits .i64) 1)) : Int)), y316.1))) * 88 ≤ 140737488355328))
 (.ret (.inl (s0_292, s4_293, IntKind.wrap .i64 (s5_294 + 1), c1026_1_295, c1026_2_296, r1724_297 ++ List.set (List.replicate 1 (ByteArray.empty, [], false, 0, 0, [])) 0 (List.getD y298.1 (Int.toNat s5_294) ByteArray.empty, y299.1, false, IntKind.wrap .i64 (IntKind.wrap .i64 (↑(BitVec.toNat (BitVec.ofInt (IntKind.bits .i64) (Int.fdiv (IntKind.wrap .i64 (↑(BitVec.toNat (BitVec.ofInt (IntKind.bits .i64) (List.getD s0_292 (Int.toNat (IntKind.wrap .i64 (s5_294 + 1))) 0) &&& BitVec.ofInt (IntKind.bits .i64) 16777215)) : Int)) (2 ^ min (Int.toNat 8) (IntKind.bits .i64))) &&& BitVec.ofInt (IntKind.bits .i64) 1)) : Int) + 1), IntKind.wrap .i64 (IntKind.wrap .i64 (IntKind.wrap .i64 (↑(BitVec.toNat (BitVec.ofInt (IntKind.bits .i64) (Int.fdiv (IntKind.wrap .i64 (↑(BitVec.toNat (BitVec.ofInt (IntKind.bits .i64) (List.getD s0_292 (Int.toNat (IntKind.wrap .i64 (s5_294 + 1))) 0) &&& BitVec.ofInt (IntKind.bits .i64) 16777215)) : Int)) (2 ^ min (Int.toNat 8) (IntKind.bits .i64))) &&& BitVec.ofInt (IntKind.bits .i64) 1)) : Int) + 1) + IntKind.wrap .i64 (↑(BitVec.toNat (BitVec.ofInt (IntKind.bits .i64) (Int.fdiv (IntKind.wrap .i64 (↑(BitVec.toNat (BitVec.ofInt (IntKind.bits .i64) (List.getD s0_292 (Int.toNat (IntKind.wrap .i64 (s5_294 + 1))) 0) &&& BitVec.ofInt (IntKind.bits .i64) 16777215)) : Int)) (2 ^ min (Int.toNat 9) (IntKind.bits .i64))) &&& BitVec.ofInt (IntKind.bits .i64) 1)) : Int)), y316.1), ())))
 (.no))))
 (.cond (false)
 (.no)
 (.opt (predQ (Int.fdiv (IntKind.wrap .i64 (↑(BitVec.toNat (BitVec.ofInt (IntKind.bits .i64) (List.getD s0_292 (Int.toNat (IntKind.wrap .i64 (s5_294 + 1))) 0) &&& BitVec.ofInt (IntKind.bits .i64) 16777215)) : Int)) (2 ^ min (Int.toNat 10) (IntKind.bits .i64)), List.getD y298.1 (Int.toNat s5_294) ByteArray.empty, { data := #[97] }, ())) fun y317 =>
 (.cond (decide ((List.length r1724_297 + List.length (List.set (List.replicate 1 (ByteArray.empty, [], false, 0, 0, [])) 0 (List.getD y298.1 (Int.toNat s5_294) ByteArray.empty, y299.1, false, IntKind.wrap .i64 (IntKind.wrap .i64 (↑(BitVec.toNat (BitVec.ofInt (IntKind.bits .i64) (Int.fdiv (IntKind.wrap .i64 (↑(BitVec.toNat (BitVec.ofInt (IntKind.bits .i64) (List.getD s0_292 (Int.toNat (IntKind.wrap .i64 (s5_294 + 1))) 0) &&& BitVec.ofInt (IntKind.bits .i64) 16777215)) : Int)) (2 ^ min (Int.toNat 8) (IntKind.bits .i64))) &&& BitVec.ofInt (IntKind.bits .i64) 1)) : Int) + 1), IntKind.wrap .i64 (IntKind.wrap .i64 (IntKind.wrap .i64 (↑(BitVec.toNat (BitVec.ofInt (IntKind.bits .i64) (Int.fdiv (IntKind.wrap .i64 (↑(BitVec.toNat (BitVec.ofInt (IntKind.bits .i64) (List.getD s0_292 (Int.toNat (IntKind.wrap .i64 (s5_294 + 1))) 0) &&& BitVec.ofInt (IntKind.bits .i64) 16777215)) : Int)) (2 ^ min (Int.toNat 8) (IntKind.bits .i64))) &&& BitVec.ofInt (IntKind.bits .i64) 1)) : Int) + 1) + IntKind.wrap .i64 (↑(BitVec.toNat (BitVec.ofInt (IntKind.bits .i64) (Int.fdiv (IntKind.wrap .i64 (↑(BitVec.toNat (BitVec.ofInt (IntKind.bits .i64) (List.getD s0_292 (Int.toNat (IntKind.wrap .i64 (s5_294 + 1))) 0) &&& BitVec.ofInt (IntKind.bits .i64) 16777215)) : Int)) (2 ^ min (Int.toNat 9) (IntKind.bits .i64))) &&& BitVec.ofInt (IntKind.bits .i64) 1)) : Int)), y317.1))) * 88 ≤ 140737488355328))
 (.ret (.inl (s0_292, s4_293, IntKind.wrap .i64 (s5_294 + 1), c1026_1_295, c1026_2_296, r1724_297 ++ List.set (List.replicate 1 (ByteArray.empty, [], false, 0, 0, [])) 0 (List.getD y298.1 (Int.toNat s5_294) ByteArray.empty, y299.1, false, IntKind.wrap .i64 (IntKind.wrap .i64 (↑(BitVec.toNat (BitVec.ofInt (IntKind.bits .i64) (Int.fdiv (IntKind.wrap .i64 (↑(BitVec.toNat (BitVec.ofInt (IntKind.bits .i64) (List.getD s0_292 (Int.toNat (IntKind.wrap .i64 (s5_294 + 1))) 0) &&& BitVec.ofInt (IntKind.bits .i64) 16777215)) : Int)) (2 ^ min (Int.toNat 8) (IntKind.bits .i64))) &&& BitVec.ofInt (IntKind.bits .i64) 1)) : Int) + 1), IntKind.wrap .i64 (IntKind.wrap .i64 (IntKind.wrap .i64 (↑(BitVec.toNat (BitVec.ofInt (IntKind.bits .i64) (Int.fdiv (IntKind.wrap .i64 (↑(BitVec.toNat (BitVec.ofInt (IntKind.bits .i64) (List.getD s0_292 (Int.toNat (IntKind.wrap .i64 (s5_294 + 1))) 0) &&& BitVec.ofInt (IntKind.bits .i64) 16777215)) : Int)) (2 ^ min (Int.toNat 8) (IntKind.bits .i64))) &&& BitVec.ofInt (IntKind.bits .i64) 1)) : Int) + 1) + IntKind.wrap .i64 (↑(BitVec.toNat (BitVec.ofInt (IntKind.bits .i64) (Int.fdiv (IntKind.wrap .i64 (↑(BitVec.toNat (BitVec.ofInt (IntKind.bits .i64) (List.getD s0_292 (Int.toNat (IntKind.wrap .i64 (s5_294 + 1))) 0) &&& BitVec.ofInt (IntKind.bits .i64) 16777215)) : Int)) (2 ^ min (Int.toNat 9) (IntKind.bits .i64))) &&& BitVec.ofInt (IntKind.bits .i64) 1)) : Int)), y317.1), ())))
 (.no)))))
 (.no)))))
 (.cond (s5_294 == 0)
 (.cond (false)
 (.no)
 (.opt (predQ (Int.fdiv (IntKind.wrap .i64 (↑(BitVec.toNat (BitVec.ofInt (IntKind.bits .i64) (List.getD s0_292 (Int.toNat (IntKind.wrap .i64 (s5_294 + 1))) 0) &&& BitVec.ofInt (IntKind.bits .i64) 16777215)) : Int)) (2 ^ min (Int.toNat 10) (IntKind.bits .i64)), List.getD y298.1 (Int.toNat s5_294) ByteArray.empty, List.getD y298.1 (Int.toNat s5_294) ByteArray.empty, ())) fun y318 =>
 (.cond (decide ((List.length r1724_297 + List.length (List.set (List.replicate 1 (ByteArray.empty, [], false, 0, 0, [])) 0 (List.getD y298.1 (Int.toNat s5_294) ByteArray.empty, y299.1, false, 1, 1, y318.1))) * 88 ≤ 140737488355328))
 (.ret (.inl (s0_292, s4_293, IntKind.wrap .i64 (s5_294 + 1), c1026_1_295, c1026_2_296, r1724_297 ++ List.set (List.replicate 1 (ByteArray.empty, [], false, 0, 0, [])) 0 (List.getD y298.1 (Int.toNat s5_294) ByteArray.empty, y299.1, false, 1, 1, y318.1), ())))
 (.no))))
 (.cond (decide (0 ≤ 0) && decide (0 < (↑(List.length r1724_297) : Int)))
 (.cond (Prod.fst (Prod.snd (Prod.snd (Prod.snd (Prod.snd (List.getD r1724_297 (Int.toNat 0) (ByteArray.empty, [], false, 0, 0, [])))))) != 1)
 (.cond (false)
 (.no)
 (.opt (predQ (Int.fdiv (IntKind.wrap .i64 (↑(BitVec.toNat (BitVec.ofInt (IntKind.bits .i64) (List.getD s0_292 (Int.toNat (IntKind.wrap .i64 (s5_294 + 1))) 0) &&& BitVec.ofInt (IntKind.bits .i64) 16777215)) : Int)) (2 ^ min (Int.toNat 10) (IntKind.bits .i64)), List.getD y298.1 (Int.toNat s5_294) ByteArray.empty, List.getD y298.1 (Int.toNat s5_294) ByteArray.empty, ())) fun y319 =>
 (.cond (decide ((List.length r1724_297 + List.length (List.set (List.replicate 1 (ByteArray.empty, [], false, 0, 0, [])) 0 (List.getD y298.1 (Int.toNat s5_294) ByteArray.empty, y299.1, false, 1, 1, y319.1))) * 88 ≤ 140737488355328))
 (.ret (.inl (s0_292, s4_293, IntKind.wrap .i64 (s5_294 + 1), c1026_1_295, c1026_2_296, r1724_297 ++ List.set (List.replicate 1 (ByteArray.empty, [], false, 0, 0, [])) 0 (List.getD y298.1 (Int.toNat s5_294) ByteArray.empty, y299.1, false, 1, 1, y319.1), ())))
 (.no))))
 (.cond (false)
 (.no)
 (.opt (predQ (Int.fdiv (IntKind.wrap .i64 (↑(BitVec.toNat (BitVec.ofInt (IntKind.bits .i64) (List.getD s0_292 (Int.toNat (IntKind.wrap .i64 (s5_294 + 1))) 0) &&& BitVec.ofInt (IntKind.bits .i64) 16777215)) : Int)) (2 ^ min (Int.toNat 10) (IntKind.bits .i64)), List.getD y298.1 (Int.toNat s5_294) ByteArray.empty, { data := #[97] }, ())) fun y320 =>
 (.cond (decide ((List.length r1724_297 + List.length (List.set (List.replicate 1 (ByteArray.empty, [], false, 0, 0, [])) 0 (List.getD y298.1 (Int.toNat s5_294) ByteArray.empty, y299.1, false, 1, 1, y320.1))) * 88 ≤ 140737488355328))
 (.ret (.inl (s0_292, s4_293, IntKind.wrap .i64 (s5_294 + 1), c1026_1_295, c1026_2_296, r1724_297 ++ List.set (List.replicate 1 (ByteArray.empty, [], false, 0, 0, [])) 0 (List.getD y298.1 (Int.toNat s5_294) ByteArray.empty, y299.1, false, 1, 1, y320.1), ())))
 (.no)))))
 (.no)))))))
 (.no)))
 (.no))
 (.opt (varsQ ()) fun y321 =>
 (.cond (decide (0 ≤ s5_294) && decide (s5_294 < (↑(List.length y321.1) : Int)))
 (.opt (typesQ (IntKind.wrap .i64 (s5_294 * 37), ())) fun y322 =>
 (.cond (decide (s5_294 > 0))
 (.cond (decide (s5_294 < IntKind.wrap .i64 (s4_293 - 1)))
 (.cond (false)
 (.no)
 (.cond (!IntKind.wrap .i64 (↑(BitVec.toNat (BitVec.ofInt (IntKind.bits .i64) (Int.fdiv (IntKind.wrap .i64 (s5_294 * 37)) (2 ^ min (Int.toNat 4) (IntKind.bits .i64))) &&& BitVec.ofInt (IntKind.bits .i64) 3)) : Int) == 0)
 (.cond (false)
 (.no)
 (.cond (IntKind.wrap .i64 (↑(BitVec.toNat (BitVec.ofInt (IntKind.bits .i64) (Int.fdiv (IntKind.wrap .i64 (s5_294 * 37)) (2 ^ min (Int.toNat 6) (IntKind.bits .i64))) &&& BitVec.ofInt (IntKind.bits .i64) 3)) : Int) == 0)
 (.cond (false)
 (.no)
 (.cond (false)
 (.no)
 (.cond (s5_294 == 0)
 (.cond (false)
 (.no)
 (.opt (predQ (Int.fdiv (IntKind.wrap .i64 (s5_294 * 37)) (2 ^ min (Int.toNat 10) (IntKind.bits .i64)), List.getD y321.1 (Int.toNat s5_294) ByteArray.empty, List.getD y321.1 (Int.toNat s5_294) ByteArray.empty, ())) fun y323 =>
 (.cond (decide ((List.length r1724_297 + List.length (List.set (List.replicate 1 (ByteArray.empty, [], false, 0, 0, [])) 0 (List.getD y321.1 (Int.toNat s5_294) ByteArray.empty, y322.1, IntKind.wrap .i64 (↑(BitVec.toNat (BitVec.ofInt (IntKind.bits .i64) (Int.fdiv (IntKind.wrap .i64 (s5_294 * 37)) (2 ^ min (Int.toNat 4) (IntKind.bits .i64))) &&& BitVec.ofInt (IntKind.bits .i64) 3)) : Int) == 0, IntKind.wrap .i64 (IntKind.wrap .i64 (↑(BitVec.toNat (BitVec.ofInt (IntKind.bits .i64) (Int.fdiv (IntKind.wrap .i64 (s5_294 * 37)) (2 ^ min (Int.toNat 8) (IntKind.bits .i64))) &&& BitVec.ofInt (IntKind.bits .i64) 1)) : Int) + 1), IntKind.wrap .i64 (IntKind.wrap .i64 (IntKind.wrap .i64 (↑(BitVec.toNat (BitVec.ofInt (IntKind.bits .i64) (Int.fdiv (IntKind.wrap .i64 (s5_294 * 37)) (2 ^ min (Int.toNat 8) (IntKind.bits .i64))) &&& BitVec.ofInt (IntKind.bits .i64) 1)) : Int) + 1) + IntKind.wrap .i64 (↑(BitVec.toNat (BitVec.ofInt (IntKind.bits .i64) (Int.fdiv (IntKind.wrap .i64 (s5_294 * 37)) (2 ^ min (Int.toNat 9) (IntKind.bits .i64))) &&& BitVec.ofInt (IntKind.bits .i64) 1)) : Int)), y323.1))) * 88 ≤ 140737488355328))
 (.ret (.inl (s0_292, s4_293, IntKind.wrap .i64 (s5_294 + 1), c1026_1_295, c1026_2_296, r1724_297 ++ List.set (List.replicate 1 (ByteArray.empty, [], false, 0, 0, [])) 0 (List.getD y321.1 (Int.toNat s5_294) ByteArray.empty, y322.1, IntKind.wrap .i64 (↑(BitVec.toNat (BitVec.ofInt (IntKind.bits .i64) (Int.fdiv (IntKind.wrap .i64 (s5_294 * 37)) (2 ^ min (Int.toNat 4) (IntKind.bits .i64))) &&& BitVec.ofInt (IntKind.bits .i64) 3)) : Int) == 0, IntKind.wrap .i64 (IntKind.wrap .i64 (↑(BitVec.toNat (BitVec.ofInt (IntKind.bits .i64) (Int.fdiv (IntKind.wrap .i64 (s5_294 * 37)) (2 ^ min (Int.toNat 8) (IntKind.bits .i64))) &&& BitVec.ofInt (IntKind.bits .i64) 1)) : Int) + 1), IntKind.wrap .i64 (IntKind.wrap .i64 (IntKind.wrap .i64 (↑(BitVec.toNat (BitVec.ofInt (IntKind.bits .i64) (Int.fdiv (IntKind.wrap .i64 (s5_294 * 37)) (2 ^ min (Int.toNat 8) (IntKind.bits .i64))) &&& BitVec.ofInt (IntKind.bits .i64) 1)) : Int) + 1) + IntKind.wrap .i64 (↑(BitVec.toNat (BitVec.ofInt (IntKind.bits .i64) (Int.fdiv (IntKind.wrap .i64 (s5_294 * 37)) (2 ^ min (Int.toNat 9) (IntKind.bits .i64))) &&& BitVec.ofInt (IntKind.bits .i64) 1)) : Int)), y323.1), ())))
 (.no))))
 (.cond (decide (0 ≤ 0) && decide (0 < (↑(List.length r1724_297) : Int)))
 (.cond (Prod.fst (Prod.snd (Prod.snd (Prod.snd (Prod.snd (List.getD r1724_297 (Int.toNat 0) (ByteArray.empty, [], false, 0, 0, [])))))) != 1)
 (.cond (false)
 (.no)
 (.opt (predQ (Int.fdiv (IntKind.wrap .i64 (s5_294 * 37)) (2 ^ min (Int.toNat 10) (IntKind.bits .i64)), List.getD y321.1 (Int.toNat s5_294) ByteArray.empty, List.getD y321.1 (Int.toNat s5_294) ByteArray.empty, ())) fun y324 =>
 (.cond (decide ((List.length r1724_297 + List.length (List.set (List.replicate 1 (ByteArray.empty, [], false, 0, 0, [])) 0 (List.getD y321.1 (Int.toNat s5_294) ByteArray.empty, y322.1, IntKind.wrap .i64 (↑(BitVec.toNat (BitVec.ofInt (IntKind.bits .i64) (Int.fdiv (IntKind.wrap .i64 (s5_294 * 37)) (2 ^ min (Int.toNat 4) (IntKind.bits .i64))) &&& BitVec.ofInt (IntKind.bits .i64) 3)) : Int) == 0, IntKind.wrap .i64 (IntKind.wrap .i64 (↑(BitVec.toNat (BitVec.ofInt (IntKind.bits .i64) (Int.fdiv (IntKind.wrap .i64 (s5_294 * 37)) (2 ^ min (Int.toNat 8) (IntKind.bits .i64))) &&& BitVec.ofInt (IntKind.bits .i64) 1)) : Int) + 1), IntKind.wrap .i64 (IntKind.wrap .i64 (IntKind.wrap .i64 (↑(BitVec.toNat (BitVec.ofInt (IntKind.bits .i64) (Int.fdiv (IntKind.wrap .i64 (s5_294 * 37)) (2 ^ min (Int.toNat 8) (IntKind.bits .i64))) &&& BitVec.ofInt (IntKind.bits .i64) 1)) : Int) + 1) + IntKind.wrap .i64 (↑(BitVec.toNat (BitVec.ofInt (IntKind.bits .i64) (Int.fdiv (IntKind.wrap .i64 (s5_294 * 37)) (2 ^ min (Int.toNat 9) (IntKind.bits .i64))) &&& BitVec.ofInt (IntKind.bits .i64) 1)) : Int)), y324.1))) * 88 ≤ 140737488355328))
 (.ret (.inl (s0_292, s4_293, IntKind.wrap .i64 (s5_294 + 1), c1026_1_295, c1026_2_296, r1724_297 ++ List.set (List.replicate 1 (ByteArray.empty, [], false, 0, 0, [])) 0 (List.getD y321.1 (Int.toNat s5_294) ByteArray.empty, y322.1, IntKind.wrap .i64 (↑(BitVec.toNat (BitVec.ofInt (IntKind.bits .i64) (Int.fdiv (IntKind.wrap .i64 (s5_294 * 37)) (2 ^ min (Int.toNat 4) (IntKind.bits .i64))) &&& BitVec.ofInt (IntKind.bits .i64) 3)) : Int) == 0, IntKind.wrap .i64 (IntKind.wrap .i64 (↑(BitVec.toNat (BitVec.ofInt (IntKind.bits .i64) (Int.fdiv (IntKind.wrap .i64 (s5_294 * 37)) (2 ^ min (Int.toNat 8) (IntKind.bits .i64))) &&& BitVec.ofInt (IntKind.bits .i64) 1)) : Int) + 1), IntKind.wrap .i64 (IntKind.wrap .i64 (IntKind.wrap .i64 (↑(BitVec.toNat (BitVec.ofInt (IntKind.bits .i64) (Int.fdiv (IntKind.wrap .i64 (s5_294 * 37)) (2 ^ min (Int.toNat 8) (IntKind.bits .i64))) &&& BitVec.ofInt (IntKind.bits .i64) 1)) : Int) + 1) + IntKind.wrap .i64 (↑(BitVec.toNat (BitVec.ofInt (IntKind.bits .i64) (Int.fdiv (IntKind.wrap .i64 (s5_294 * 37)) (2 ^ min (Int.toNat 9) (IntKind.bits .i64))) &&& BitVec.ofInt (IntKind.bits .i64) 1)) : Int)), y324.1), ())))
 (.no))))
 (.cond (false)
 (.no)
 (.opt (predQ (Int.fdiv (IntKind.wrap .i64 (s5_294 * 37)) (2 ^ min (Int.toNat 10) (IntKind.bits .i64)), List.getD y321.1 (Int.toNat s5_294) ByteArray.empty, { data := #[97] }, ())) fun y325 =>
 (.cond (decide ((List.length r1724_297 + List.length (List.set (List.replicate 1 (ByteArray.empty, [], false, 0, 0, [])) 0 (List.getD y321.1 (Int.toNat s5_294) ByteArray.empty, y322.1, IntKind.wrap .i64 (↑(BitVec.toNat (BitVec.ofInt (IntKind.bits .i64) (Int.fdiv (IntKind.wrap .i64 (s5_294 * 37)) (2 ^ min (Int.toNat 4) (IntKind.bits .i64))) &&& BitVec.ofInt (IntKind.bits .i64) 3)) : Int) == 0, IntKind.wrap .i64 (IntKind.wrap .i64 (↑(BitVec.toNat (BitVec.ofInt (IntKind.bits .i64) (Int.fdiv (IntKind.wrap .i64 (s5_294 * 37)) (2 ^ min (Int.toNat 8) (IntKind.bits .i64))) &&& BitVec.ofInt (IntKind.bits .i64) 1)) : Int) + 1), IntKind.wrap .i64 (IntKind.wrap .i64 (IntKind.wrap .i64 (↑(BitVec.toNat (BitVec.ofInt (IntKind.bits .i64) (Int.fdiv (IntKind.wrap .i64 (s5_294 * 37)) (2 ^ min (Int.toNat 8) (IntKind.bits .i64))) &&& BitVec.ofInt (IntKind.bits .i64) 1)) : Int) + 1) + IntKind.wrap .i64 (↑(BitVec.toNat (BitVec.ofInt (IntKind.bits .i64) (Int.fdiv (IntKind.wrap .i64 (s5_294 * 37)) (2 ^ min (Int.toNat 9) (IntKind.bits .i64))) &&& BitVec.ofInt (IntKind.bits .i64) 1)) : Int)), y325.1))) * 88 ≤ 140737488355328))
 (.ret (.inl (s0_292, s4_293, IntKind.wrap .i64 (s5_294 + 1), c1026_1_295, c1026_2_296, r1724_297 ++ List.set (List.replicate 1 (ByteArray.empty, [], false, 0, 0, [])) 0 (List.getD y321.1 (Int.toNat s5_294) ByteArray.empty, y322.1, IntKind.wrap .i64 (↑(BitVec.toNat (BitVec.ofInt (IntKind.bits .i64) (Int.fdiv (IntKind.wrap .i64 (s5_294 * 37)) (2 ^ min (Int.toNat 4) (IntKind.bits .i64))) &&& BitVec.ofInt (IntKind.bits .i64) 3)) : Int) == 0, IntKind.wrap .i64 (IntKind.wrap .i64 (↑(BitVec.toNat (BitVec.ofInt (IntKind.bits .i64) (Int.fdiv (IntKind.wrap .i64 (s5_294 * 37)) (2 ^ min (Int.toNat 8) (IntKind.bits .i64))) &&& BitVec.ofInt (IntKind.bits .i64) 1)) : Int) + 1), IntKind.wrap .i64 (IntKind.wrap .i64 (IntKind.wrap .i64 (↑(BitVec.toNat (BitVec.ofInt (IntKind.bits .i64) (Int.fdiv (IntKind.wrap .i64 (s5_294 * 37)) (2 ^ min (Int.toNat 8) (IntKind.bits .i64))) &&& BitVec.ofInt (IntKind.bits .i64) 1)) : Int) + 1) + IntKind.wrap .i64 (↑(BitVec.toNat (BitVec.ofInt (IntKind.bits .i64) (Int.fdiv (IntKind.wrap .i64 (s5_294 * 37)) (2 ^ min (Int.toNat 9) (IntKind.bits .i64))) &&& BitVec.ofInt (IntKind.bits .i64) 1)) : Int)), y325.1), ())))
 (.no)))))
 (.no)))))
 (.cond (s5_294 == 0)
 (.cond (false)
 (.no)
 (.opt (predQ (Int.fdiv (IntKind.wrap .i64 (s5_294 * 37)) (2 ^ min (Int.toNat 10) (IntKind.bits .i64)), List.getD y321.1 (Int.toNat s5_294) ByteArray.empty, List.getD y321.1 (Int.toNat s5_294) ByteArray.empty, ())) fun y326 =>
 (.cond (decide ((List.length r1724_297 + List.length (List.set (List.replicate 1 (ByteArray.empty, [], false, 0, 0, [])) 0 (List.getD y321.1 (Int.toNat s5_294) ByteArray.empty, y322.1, IntKind.wrap .i64 (↑(BitVec.toNat (BitVec.ofInt (IntKind.bits .i64) (Int.fdiv (IntKind.wrap .i64 (s5_294 * 37)) (2 ^ min (Int.toNat 4) (IntKind.bits .i64))) &&& BitVec.ofInt (IntKind.bits .i64) 3)) : Int) == 0, 1, 1, y326.1))) * 88 ≤ 140737488355328))
 (.ret (.inl (s0_292, s4_293, IntKind.wrap .i64 (s5_294 + 1), c1026_1_295, c1026_2_296, r1724_297 ++ List.set (List.replicate 1 (ByteArray.empty, [], false, 0, 0, [])) 0 (List.getD y321.1 (Int.toNat s5_294) ByteArray.empty, y322.1, IntKind.wrap .i64 (↑(BitVec.toNat (BitVec.ofInt (IntKind.bits .i64) (Int.fdiv (IntKind.wrap .i64 (s5_294 * 37)) (2 ^ min (Int.toNat 4) (IntKind.bits .i64))) &&& BitVec.ofInt (IntKind.bits .i64) 3)) : Int) == 0, 1, 1, y326.1), ())))
 (.no))))
 (.cond (decide (0 ≤ 0) && decide (0 < (↑(List.length r1724_297) : Int)))
 (.cond (Prod.fst (Prod.snd (Prod.snd (Prod.snd (Prod.snd (List.getD r1724_297 (Int.toNat 0) (ByteArray.empty, [], false, 0, 0, [])))))) != 1)
 (.cond (false)
 (.no)
 (.opt (predQ (Int.fdiv (IntKind.wrap .i64 (s5_294 * 37)) (2 ^ min (Int.toNat 10) (IntKind.bits .i64)), List.getD y321.1 (Int.toNat s5_294) ByteArray.empty, List.getD y321.1 (Int.toNat s5_294) ByteArray.empty, ())) fun y327 =>
 (.cond (decide ((List.length r1724_297 + List.length (List.set (List.replicate 1 (ByteArray.empty, [], false, 0, 0, [])) 0 (List.getD y321.1 (Int.toNat s5_294) ByteArray.empty, y322.1, IntKind.wrap .i64 (↑(BitVec.toNat (BitVec.ofInt (IntKind.bits .i64) (Int.fdiv (IntKind.wrap .i64 (s5_294 * 37)) (2 ^ min (Int.toNat 4) (IntKind.bits .i64))) &&& BitVec.ofInt (IntKind.bits .i64) 3)) : Int) == 0, 1, 1, y327.1))) * 88 ≤ 140737488355328))
 (.ret (.inl (s0_292, s4_293, IntKind.wrap .i64 (s5_294 + 1), c1026_1_295, c1026_2_296, r1724_297 ++ List.set (List.replicate 1 (ByteArray.empty, [], false, 0, 0, [])) 0 (List.getD y321.1 (Int.toNat s5_294) ByteArray.empty, y322.1, IntKind.wrap .i64 (↑(BitVec.toNat (BitVec.ofInt (IntKind.bits .i64) (Int.fdiv (IntKind.wrap .i64 (s5_294 * 37)) (2 ^ min (Int.toNat 4) (IntKind.bits .i64))) &&& BitVec.ofInt (IntKind.bits .i64) 3)) : Int) == 0, 1, 1, y327.1), ())))
 (.no))))
 (.cond (false)
 (.no)
 (.opt (predQ (Int.fdiv (IntKind.wrap .i64 (s5_294 * 37)) (2 ^ min (Int.toNat 10) (IntKind.bits .i64)), List.getD y321.1 (Int.toNat s5_294) ByteArray.empty, { data := #[97] }, ())) fun y328 =>
 (.cond (decide ((List.length r1724_297 + List.length (List.set (List.replicate 1 (ByteArray.empty, [], false, 0, 0, [])) 0 (List.getD y321.1 (Int.toNat s5_294) ByteArray.empty, y322.1, IntKind.wrap .i64 (↑(BitVec.toNat (BitVec.ofInt (IntKind.bits .i64) (Int.fdiv (IntKind.wrap .i64 (s5_294 * 37)) (2 ^ min (Int.toNat 4) (IntKind.bits .i64))) &&& BitVec.ofInt (IntKind.bits .i64) 3)) : Int) == 0, 1, 1, y328.1))) * 88 ≤ 140737488355328))
 (.ret (.inl (s0_292, s4_293, IntKind.wrap .i64 (s5_294 + 1), c1026_1_295, c1026_2_296, r1724_297 ++ List.set (List.replicate 1 (ByteArray.empty, [], false, 0, 0, [])) 0 (List.getD y321.1 (Int.toNat s5_294) ByteArray.empty, y322.1, IntKind.wrap .i64 (↑(BitVec.toNat (BitVec.ofInt (IntKind.bits .i64) (Int.fdiv (IntKind.wrap .i64 (s5_294 * 37)) (2 ^ min (Int.toNat 4) (IntKind.bits .i64))) &&& BitVec.ofInt (IntKind.bits .i64) 3)) : Int) == 0, 1, 1, y328.1), ())))
 (.no)))))
 (.no)))))
 (.cond (s5_294 == 0)
 (.cond (false)
 (.no)
 (.opt (predQ (Int.fdiv (IntKind.wrap .i64 (s5_294 * 37)) (2 ^ min (Int.toNat 10) (IntKind.bits .i64)), List.getD y321.1 (Int.toNat s5_294) ByteArray.empty, List.getD y321.1 (Int.toNat s5_294) ByteArray.empty, ())) fun y329 =>
 (.cond (decide ((List.length r1724_297 + List.length (List.set (List.replicate 1 (ByteArray.empty, [], false, 0, 0, [])) 0 (List.getD y321.1 (Int.toNat s5_294) ByteArray.empty, y322.1, IntKind.wrap .i64 (↑(BitVec.toNat (BitVec.ofInt (IntKind.bits .i64) (Int.fdiv (IntKind.wrap .i64 (s5_294 * 37)) (2 ^ min (Int.toNat 4) (IntKind.bits .i64))) &&& BitVec.ofInt (IntKind.bits .i64) 3)) : Int) == 0, 1, 1, y329.1))) * 88 ≤ 140737488355328))
 (.ret (.inl (s0_292, s4_293, IntKind.wrap .i64 (s5_294 + 1), c1026_1_295, c1026_2_296, r1724_297 ++ List.set (List.replicate 1 (ByteArray.empty, [], false, 0, 0, [])) 0 (List.getD y321.1 (Int.toNat s5_294) ByteArray.empty, y322.1, IntKind.wrap .i64 (↑(BitVec.toNat (BitVec.ofInt (IntKind.bits .i64) (Int.fdiv (IntKind.wrap .i64 (s5_294 * 37)) (2 ^ min (Int.toNat 4) (IntKind.bits .i64))) &&& BitVec.ofInt (IntKind.bits .i64) 3)) : Int) == 0, 1, 1, y329.1), ())))
 (.no))))
 (.cond (decide (0 ≤ 0) && decide (0 < (↑(List.length r1724_297) : Int)))
 (.cond (Prod.fst (Prod.snd (Prod.snd (Prod.snd (Prod.snd (List.getD r1724_297 (Int.toNat 0) (ByteArray.empty, [], false, 0, 0, [])))))) != 1)
 (.cond (false)
 (.no)
 (.opt (predQ (Int.fdiv (IntKind.wrap .i64 (s5_294 * 37)) (2 ^ min (Int.toNat 10) (IntKind.bits .i64)), List.getD y321.1 (Int.toNat s5_294) ByteArray.empty, List.getD y321.1 (Int.toNat s5_294) ByteArray.empty, ())) fun y330 =>
 (.cond (decide ((List.length r1724_297 + List.length (List.set (List.replicate 1 (ByteArray.empty, [], false, 0, 0, [])) 0 (List.getD y321.1 (Int.toNat s5_294) ByteArray.empty, y322.1, IntKind.wrap .i64 (↑(BitVec.toNat (BitVec.ofInt (IntKind.bits .i64) (Int.fdiv (IntKind.wrap .i64 (s5_294 * 37)) (2 ^ min (Int.toNat 4) (IntKind.bits .i64))) &&& BitVec.ofInt (IntKind.bits .i64) 3)) : Int) == 0, 1, 1, y330.1))) * 88 ≤ 140737488355328))
 (.ret (.inl (s0_292, s4_293, IntKind.wrap .i64 (s5_294 + 1), c1026_1_295, c1026_2_296, r1724_297 ++ List.set (List.replicate 1 (ByteArray.empty, [], false, 0, 0, [])) 0 (List.getD y321.1 (Int.toNat s5_294) ByteArray.empty, y322.1, IntKind.wrap .i64 (↑(BitVec.toNat (BitVec.ofInt (IntKind.bits .i64) (Int.fdiv (IntKind.wrap .i64 (s5_294 * 37)) (2 ^ min (Int.toNat 4) (IntKind.bits .i64))) &&& BitVec.ofInt (IntKind.bits .i64) 3)) : Int) == 0, 1, 1, y330.1), ())))
 (.no))))
 (.cond (false)
 (.no)
 (.opt (predQ (Int.fdiv (IntKind.wrap .i64 (s5_294 * 37)) (2 ^ min (Int.toNat 10) (IntKind.bits .i64)), List.getD y321.1 (Int.toNat s5_294) ByteArray.empty, { data := #[97] }, ())) fun y331 =>
 (.cond (decide ((List.length r1724_297 + List.length (List.set (List.replicate 1 (ByteArray.empty, [], false, 0, 0, [])) 0 (List.getD y321.1 (Int.toNat s5_294) ByteArray.empty, y322.1, IntKind.wrap .i64 (↑(BitVec.toNat (BitVec.ofInt (IntKind.bits .i64) (Int.fdiv (IntKind.wrap .i64 (s5_294 * 37)) (2 ^ min (Int.toNat 4) (IntKind.bits .i64))) &&& BitVec.ofInt (IntKind.bits .i64) 3)) : Int) == 0, 1, 1, y331.1))) * 88 ≤ 140737488355328))
 (.ret (.inl (s0_292, s4_293, IntKind.wrap .i64 (s5_294 + 1), c1026_1_295, c1026_2_296, r1724_297 ++ List.set (List.replicate 1 (ByteArray.empty, [], false, 0, 0, [])) 0 (List.getD y321.1 (Int.toNat s5_294) ByteArray.empty, y322.1, IntKind.wrap .i64 (↑(BitVec.toNat (BitVec.ofInt (IntKind.bits .i64) (Int.fdiv (IntKind.wrap .i64 (s5_294 * 37)) (2 ^ min (Int.toNat 4) (IntKind.bits .i64))) &&& BitVec.ofInt (IntKind.bits .i64) 3)) : Int) == 0, 1, 1, y331.1), ())))
 (.no)))))
 (.no)))))
 (.cond (false)
 (.no)
 (.cond (IntKind.wrap .i64 (↑(BitVec.toNat (BitVec.ofInt (IntKind.bits .i64) (Int.fdiv (IntKind.wrap .i64 (s5_294 * 37)) (2 ^ min (Int.toNat 6) (IntKind.bits .i64))) &&& BitVec.ofInt (IntKind.bits .i64) 3)) : Int) == 0)
 (.cond (false)
 (.no)
 (.cond (false)
 (.no)
 (.cond (s5_294 == 0)
 (.cond (false)
 (.no)
 (.opt (predQ (Int.fdiv (IntKind.wrap .i64 (s5_294 * 37)) (2 ^ min (Int.toNat 10) (IntKind.bits .i64)), List.getD y321.1 (Int.toNat s5_294) ByteArray.empty, List.getD y321.1 (Int.toNat s5_294) ByteArray.empty, ())) fun y332 =>
 (.cond (decide ((List.length r1724_297 + List.length (List.set (List.replicate 1 (ByteArray.empty, [], false, 0, 0, [])) 0 (List.getD y321.1 (Int.toNat s5_294) ByteArray.empty, y322.1, false, IntKind.wrap .i64 (IntKind.wrap .i64 (↑(BitVec.toNat (BitVec.ofInt (IntKind.bits .i64) (Int.fdiv (IntKind.wrap .i64 (s5_294 * 37)) (2 ^ min (Int.toNat 8) (IntKind.bits .i64))) &&& BitVec.ofInt (IntKind.bits .i64) 1)) : Int) + 1), IntKind.wrap .i64 (IntKind.wrap .i64 (IntKind.wrap .i64 (↑(BitVec.toNat (BitVec.ofInt (IntKind.bits .i64) (Int.fdiv (IntKind.wrap .i64 (s5_294 * 37)) (2 ^ min (Int.toNat 8) (IntKind.bits .i64))) &&& BitVec.ofInt (IntKind.bits .i64) 1)) : Int) + 1) + IntKind.wrap .i64 (↑(BitVec.toNat (BitVec.ofInt (IntKind.bits .i64) (Int.fdiv (IntKind.wrap .i64 (s5_294 * 37)) (2 ^ min (Int.toNat 9) (IntKind.bits .i64))) &&& BitVec.ofInt (IntKind.bits .i64) 1)) : Int)), y332.1))) * 88 ≤ 140737488355328))
 (.ret (.inl (s0_292, s4_293, IntKind.wrap .i64 (s5_294 + 1), c1026_1_295, c1026_2_296, r1724_297 ++ List.set (List.replicate 1 (ByteArray.empty, [], false, 0, 0, [])) 0 (List.getD y321.1 (Int.toNat s5_294) ByteArray.empty, y322.1, false, IntKind.wrap .i64 (IntKind.wrap .i64 (↑(BitVec.toNat (BitVec.ofInt (IntKind.bits .i64) (Int.fdiv (IntKind.wrap .i64 (s5_294 * 37)) (2 ^ min (Int.toNat 8) (IntKind.bits .i64))) &&& BitVec.ofInt (IntKind.bits .i64) 1)) : Int) + 1), IntKind.wrap .i64 (IntKind.wrap .i64 (IntKind.wrap .i64 (↑(BitVec.toNat (BitVec.ofInt (IntKind.bits .i64) (Int.fdiv (IntKind.wrap .i64 (s5_294 * 37)) (2 ^ min (Int.toNat 8) (IntKind.bits .i64))) &&& BitVec.ofInt (IntKind.bits .i64) 1)) : Int) + 1) + IntKind.wrap .i64 (↑(BitVec.toNat (BitVec.ofInt (IntKind.bits .i64) (Int.fdiv (IntKind.wrap .i64 (s5_294 * 37)) (2 ^ min (Int.toNat 9) (IntKind.bits .i64))) &&& BitVec.ofInt (IntKind.bits .i64) 1)) : Int)), y332.1), ())))
 (.no))))
 (.cond (decide (0 ≤ 0) && decide (0 < (↑(List.length r1724_297) : Int)))
 (.cond (Prod.fst (Prod.snd (Prod.snd (Prod.snd (Prod.snd (List.getD r1724_297 (Int.toNat 0) (ByteArray.empty, [], false, 0, 0, [])))))) != 1)
 (.cond (false)
 (.no)
 (.opt (predQ (Int.fdiv (IntKind.wrap .i64 (s5_294 * 37)) (2 ^ min (Int.toNat 10) (IntKind.bits .i64)), List.getD y321.1 (Int.toNat s5_294) ByteArray.empty, List.getD y321.1 (Int.toNat s5_294) ByteArray.empty, ())) fun y333 =>
 (.cond (decide ((List.length r1724_297 + List.length (List.set (List.replicate 1 (ByteArray.empty, [], false, 0, 0, [])) 0 (List.getD y321.1 (Int.toNat s5_294) ByteArray.empty, y322.1, false, IntKind.wrap .i64 (IntKind.wrap .i64 (↑(BitVec.toNat (BitVec.ofInt (IntKind.bits .i64) (Int.fdiv (IntKind.wrap .i64 (s5_294 * 37)) (2 ^ min (Int.toNat 8) (IntKind.bits .i64))) &&& BitVec.ofInt (IntKind.bits .i64) 1)) : Int) + 1), IntKind.wrap .i64 (IntKind.wrap .i64 (IntKind.wrap .i64 (↑(BitVec.toNat (BitVec.ofInt (IntKind.bits .i64) (Int.fdiv (IntKind.wrap .i64 (s5_294 * 37)) (2 ^ min (Int.toNat 8) (IntKind.bits .i64))) &&& BitVec.ofInt (IntKind.bits .i64) 1)) : Int) + 1) + IntKind.wrap .i64 (↑(BitVec.toNat (BitVec.ofInt (IntKind.bits .i64) (Int.fdiv (IntKind.wrap .i64 (s5_294 * 37)) (2 ^ min (Int.toNat 9) (IntKind.bits .i64))) &&& BitVec.ofInt (IntKind.bits .i64) 1)) : Int)), y333.1))) * 88 ≤ 140737488355328))
 (.ret (.inl (s0_292, s4_293, IntKind.wrap .i64 (s5_294 + 1), c1026_1_295, c1026_2_296, r1724_297 ++ List.set (List.replicate 1 (ByteArray.empty, [], false, 0, 0, [])) 0 (List.getD y321.1 (Int.toNat s5_294) ByteArray.empty, y322.1, false, IntKind.wrap .i64 (IntKind.wrap .i64 (↑(BitVec.toNat (BitVec.ofInt (IntKind.bits .i64) (Int.fdiv (IntKind.wrap .i64 (s5_294 * 37)) (2 ^ min (Int.toNat 8) (IntKind.bits .i64))) &&& BitVec.ofInt (IntKind.bits .i64) 1)) : Int) + 1), IntKind.wrap .i64 (IntKind.wrap .i64 (IntKind.wrap .i64 (↑(BitVec.toNat (BitVec.ofInt (IntKind.bits .i64) (Int.fdiv (IntKind.wrap .i64 (s5_294 * 37)) (2 ^ min (Int.toNat 8) (IntKind.bits .i64))) &&& BitVec.ofInt (IntKind.bits .i64) 1)) : Int) + 1) + IntKind.wrap .i64 (↑(BitVec.toNat (BitVec.ofInt (IntKind.bits .i64) (Int.fdiv (IntKind.wrap .i64 (s5_294 * 37)) (2 ^ min (Int.toNat 9) (IntKind.bits .i64))) &&& BitVec.ofInt (IntKind.bits .i64) 1)) : Int)), y333.1), ())))
 (.no))))
 (.cond (false)
 (.no)
 (.opt (predQ (Int.fdiv (IntKind.wrap .i64 (s5_294 * 37)) (2 ^ min (Int.toNat 10) (IntKind.bits .i64)), List.getD y321.1 (Int.toNat s5_294) ByteArray.empty, { data := #[97] }, ())) fun y334 =>
 (.cond (decide ((List.length r1724_297 + List.length (List.set (List.replicate 1 (ByteArray.empty, [], false, 0, 0, [])) 0 (List.getD y321.1 (Int.toNat s5_294) ByteArray.empty, y322.1, false, IntKind.wrap .i64 (IntKind.wrap .i64 (↑(BitVec.toNat (BitVec.ofInt (IntKind.bits .i64) (Int.fdiv (IntKind.wrap .i64 (s5_294 * 37)) (2 ^ min (Int.toNat 8) (IntKind.bits .i64))) &&& BitVec.ofInt (IntKind.bits .i64) 1)) : Int) + 1), IntKind.wrap .i64 (IntKind.wrap .i64 (IntKind.wrap .i64 (↑(BitVec.toNat (BitVec.ofInt (IntKind.bits .i64) (Int.fdiv (IntKind.wrap .i64 (s5_294 * 37)) (2 ^ min (Int.toNat 8) (IntKind.bits .i64))) &&& BitVec.ofInt (IntKind.bits .i64) 1)) : Int) + 1) + IntKind.wrap .i64 (↑(BitVec.toNat (BitVec.ofInt (IntKind.bits .i64) (Int.fdiv (IntKind.wrap .i64 (s5_294 * 37)) (2 ^ min (Int.toNat 9) (IntKind.bits .i64))) &&& BitVec.ofInt (IntKind.bits .i64) 1)) : Int)), y334.1))) * 88 ≤ 140737488355328))
 (.ret (.inl (s0_292, s4_293, IntKind.wrap .i64 (s5_294 + 1), c1026_1_295, c1026_2_296, r1724_297 ++ List.set (List.replicate 1 (ByteArray.empty, [], false, 0, 0, [])) 0 (List.getD y321.1 (Int.toNat s5_294) ByteArray.empty, y322.1, false, IntKind.wrap .i64 (IntKind.wrap .i64 (↑(BitVec.toNat (BitVec.ofInt (IntKind.bits .i64) (Int.fdiv (IntKind.wrap .i64 (s5_294 * 37)) (2 ^ min (Int.toNat 8) (IntKind.bits .i64))) &&& BitVec.ofInt (IntKind.bits .i64) 1)) : Int) + 1), IntKind.wrap .i64 (IntKind.wrap .i64 (IntKind.wrap .i64 (↑(BitVec.toNat (BitVec.ofInt (IntKind.bits .i64) (Int.fdiv (IntKind.wrap .i64 (s5_294 * 37)) (2 ^ min (Int.toNat 8) (IntKind.bits .i64))) &&& BitVec.ofInt (IntKind.bits .i64) 1)) : Int) + 1) + IntKind.wrap .i64 (↑(BitVec.toNat (BitVec.ofInt (IntKind.bits .i64) (Int.fdiv (IntKind.wrap .i64 (s5_294 * 37)) (2 ^ min (Int.toNat 9) (IntKind.bits .i64))) &&& BitVec.ofInt (IntKind.bits .i64) 1)) : Int)), y334.1), ())))
 (.no)))))
 (.no)))))
 (.cond (s5_294 == 0)
 (.cond (false)
 (.no)
 (.opt (predQ (Int.fdiv (IntKind.wrap .i64 (s5_294 * 37)) (2 ^ min (Int.toNat 10) (IntKind.bits .i64)), List.getD y321.1 (Int.toNat s5_294) ByteArray.empty, List.getD y321.1 (Int.toNat s5_294) ByteArray.empty, ())) fun y335 =>
 (.cond (decide ((List.length r1724_297 + List.length (List.set (List.replicate 1 (ByteArray.empty, [], false, 0, 0, [])) 0 (List.getD y321.1 (Int.toNat s5_294) ByteArray.empty, y322.1, false, 1, 1, y335.1))) * 88 ≤ 140737488355328))
 (.ret (.inl (s0_292, s4_293, IntKind.wrap .i64 (s5_294 + 1), c1026_1_295, c1026_2_296, r1724_297 ++ List.set (List.replicate 1 (ByteArray.empty, [], false, 0, 0, [])) 0 (List.getD y321.1 (Int.toNat s5_294) ByteArray.empty, y322.1, false, 1, 1, y335.1), ())))
 (.no))))
 (.cond (decide (0 ≤ 0) && decide (0 < (↑(List.length r1724_297) : Int)))
 (.cond (Prod.fst (Prod.snd (Prod.snd (Prod.snd (Prod.snd (List.getD r1724_297 (Int.toNat 0) (ByteArray.empty, [], false, 0, 0, [])))))) != 1)
 (.cond (false)
 (.no)
 (.opt (predQ (Int.fdiv (IntKind.wrap .i64 (s5_294 * 37)) (2 ^ min (Int.toNat 10) (IntKind.bits .i64)), List.getD y321.1 (Int.toNat s5_294) ByteArray.empty, List.getD y321.1 (Int.toNat s5_294) ByteArray.empty, ())) fun y336 =>
 (.cond (decide ((List.length r1724_297 + List.length (List.set (List.replicate 1 (ByteArray.empty, [], false, 0, 0, [])) 0 (List.getD y321.1 (Int.toNat s5_294) ByteArray.empty, y322.1, false, 1, 1, y336.1))) * 88 ≤ 140737488355328))
 (.ret (.inl (s0_292, s4_293, IntKind.wrap .i64 (s5_294 + 1), c1026_1_295, c1026_2_296, r1724_297 ++ List.set (List.replicate 1 (ByteArray.empty, [], false, 0, 0, [])) 0 (List.getD y321.1 (Int.toNat s5_294) ByteArray.empty, y322.1, false, 1, 1, y336.1), ())))
 (.no))))
 (.cond (false)
 (.no)
 (.opt (predQ (Int.fdiv (IntKind.wrap .i64 (s5_294 * 37)) (2 ^ min (Int.toNat 10) (IntKind.bits .i64)), List.getD y321.1 (Int.toNat s5_294) ByteArray.empty, { data := #[97] }, ())) fun y337 =>
 (.cond (decide ((List.length r1724_297 + List.length (List.set (List.replicate 1 (ByteArray.empty, [], false, 0, 0, [])) 0 (List.getD y321.1 (Int.toNat s5_294) ByteArray.empty, y322.1, false, 1, 1, y337.1))) * 88 ≤ 140737488355328))
 (.ret (.inl (s0_292, s4_293, IntKind.wrap .i64 (s5_294 + 1), c1026_1_295, c1026_2_296, r1724_297 ++ List.set (List.replicate 1 (ByteArray.empty, [], false, 0, 0, [])) 0 (List.getD y321.1 (Int.toNat s5_294) ByteArray.empty, y322.1, false, 1, 1, y337.1), ())))
 (.no)))))
 (.no))))))
 (.cond (false)
 (.no)
 (.cond (IntKind.wrap .i64 (↑(BitVec.toNat (BitVec.ofInt (IntKind.bits .i64) (Int.fdiv (IntKind.wrap .i64 (s5_294 * 37)) (2 ^ min (Int.toNat 6) (IntKind.bits .i64))) &&& BitVec.ofInt (IntKind.bits .i64) 3)) : Int) == 0)
 (.cond (false)
 (.no)
 (.cond (false)
 (.no)
 (.cond (s5_294 == 0)
 (.cond (false)
 (.no)
 (.opt (predQ (Int.fdiv (IntKind.wrap .i64 (s5_294 * 37)) (2 ^ min (Int.toNat 10) (IntKind.bits .i64)), List.getD y321.1 (Int.toNat s5_294) ByteArray.empty, List.getD y321.1 (Int.toNat s5_294) ByteArray.empty, ())) fun y338 =>
 (.cond (decide ((List.length r1724_297 + List.length (List.set (List.replicate 1 (ByteArray.empty, [], false, 0, 0, [])) 0 (List.getD y321.1 (Int.toNat s5_294) ByteArray.empty, y322.1, false, IntKind.wrap .i64 (IntKind.wrap .i64 (↑(BitVec.toNat (BitVec.ofInt (IntKind.bits .i64) (Int.fdiv (IntKind.wrap .i64 (s5_294 * 37)) (2 ^ min (Int.toNat 8) (IntKind.bits .i64))) &&& BitVec.ofInt (IntKind.bits .i64) 1)) : Int) + 1), IntKind.wrap .i64 (IntKind.wrap .i64 (IntKind.wrap .i64 (↑(BitVec.toNat (BitVec.ofInt (IntKind.bits .i64) (Int.fdiv (IntKind.wrap .i64 (s5_294 * 37)) (2 ^ min (Int.toNat 8) (IntKind.bits .i64))) &&& BitVec.ofInt (IntKind.bits .i64) 1)) : Int) + 1) + IntKind.wrap .i64 (↑(BitVec.toNat (BitVec.ofInt (IntKind.bits .i64) (Int.fdiv (IntKind.wrap .i64 (s5_294 * 37)) (2 ^ min (Int.toNat 9) (IntKind.bits .i64))) &&& BitVec.ofInt (IntKind.bits .i64) 1)) : Int)), y338.1))) * 88 ≤ 140737488355328))
 (.ret (.inl (s0_292, s4_293, IntKind.wrap .i64 (s5_294 + 1), c1026_1_295, c1026_2_296, r1724_297 ++ List.set (List.replicate 1 (ByteArray.empty, [], false, 0, 0, [])) 0 (List.getD y321.1 (Int.toNat s5_294) ByteArray.empty, y322.1, false, IntKind.wrap .i64 (IntKind.wrap .i64 (↑(BitVec.toNat (BitVec.ofInt (IntKind.bits .i64) (Int.fdiv (IntKind.wrap .i64 (s5_294 * 37)) (2 ^ min (Int.toNat 8) (IntKind.bits .i64))) &&& BitVec.ofInt (IntKind.bits .i64) 1)) : Int) + 1), IntKind.wrap .i64 (IntKind.wrap .i64 (IntKind.wrap .i64 (↑(BitVec.toNat (BitVec.ofInt (IntKind.bits .i64) (Int.fdiv (IntKind.wrap .i64 (s5_294 * 37)) (2 ^ min (Int.toNat 8) (IntKind.bits .i64))) &&& BitVec.ofInt (IntKind.bits .i64) 1)) : Int) + 1) + IntKind.wrap .i64 (↑(BitVec.toNat (BitVec.ofInt (IntKind.bits .i64) (Int.fdiv (IntKind.wrap .i64 (s5_294 * 37)) (2 ^ min (Int.toNat 9) (IntKind.bits .i64))) &&& BitVec.ofInt (IntKind.bits .i64) 1)) : Int)), y338.1), ())))
 (.no))))
 (.cond (decide (0 ≤ 0) && decide (0 < (↑(List.length r1724_297) : Int)))
 (.cond (Prod.fst (Prod.snd (Prod.snd (Prod.snd (Prod.snd (List.getD r1724_297 (Int.toNat 0) (ByteArray.empty, [], false, 0, 0, [])))))) != 1)
 (.cond (false)
 (.no)
 (.opt (predQ (Int.fdiv (IntKind.wrap .i64 (s5_294 * 37)) (2 ^ min (Int.toNat 10) (IntKind.bits .i64)), List.getD y321.1 (Int.toNat s5_294) ByteArray.empty, List.getD y321.1 (Int.toNat s5_294) ByteArray.empty, ())) fun y339 =>
 (.cond (decide ((List.length r1724_297 + List.length (List.set (List.replicate 1 (ByteArray.empty, [], false, 0, 0, [])) 0 (List.getD y321.1 (Int.toNat s5_294) ByteArray.empty, y322.1, false, IntKind.wrap .i64 (IntKind.wrap .i64 (↑(BitVec.toNat (BitVec.ofInt (IntKind.bits .i64) (Int.fdiv (IntKind.wrap .i64 (s5_294 * 37)) (2 ^ min (Int.toNat 8) (IntKind.bits .i64))) &&& BitVec.ofInt (IntKind.bits .i64) 1)) : Int) + 1), IntKind.wrap .i64 (IntKind.wrap .i64 (IntKind.wrap .i64 (↑(BitVec.toNat (BitVec.ofInt (IntKind.bits .i64) (Int.fdiv (IntKind.wrap .i64 (s5_294 * 37)) (2 ^ min (Int.toNat 8) (IntKind.bits .i64))) &&& BitVec.ofInt (IntKind.bits .i64) 1)) : Int) + 1) + IntKind.wrap .i64 (↑(BitVec.toNat (BitVec.ofInt (IntKind.bits .i64) (Int.fdiv (IntKind.wrap .i64 (s5_294 * 37)) (2 ^ min (Int.toNat 9) (IntKind.bits .i64))) &&& BitVec.ofInt (IntKind.bits .i64) 1)) : Int)), y339.1))) * 88 ≤ 140737488355328))
 (.ret (.inl (s0_292, s4_293, IntKind.wrap .i64 (s5_294 + 1), c1026_1_295, c1026_2_296, r1724_297 ++ List.set (List.replicate 1 (ByteArray.empty, [], false, 0, 0, [])) 0 (List.getD y321.1 (Int.toNat s5_294) ByteArray.empty, y322.1, false, IntKind.wrap .i64 (IntKind.wrap .i64 (↑(BitVec.toNat (BitVec.ofInt (IntKind.bits .i64) (Int.fdiv (IntKind.wrap .i64 (s5_294 * 37)) (2 ^ min (Int.toNat 8) (IntKind.bits .i64))) &&& BitVec.ofInt (IntKind.bits .i64) 1)) : Int) + 1), IntKind.wrap .i64 (IntKind.wrap .i64 (IntKind.wrap .i64 (↑(BitVec.toNat (BitVec.ofInt (IntKind.bits .i64) (Int.fdiv (IntKind.wrap .i64 (s5_294 * 37)) (2 ^ min (Int.toNat 8) (IntKind.bits .i64))) &&& BitVec.ofInt (IntKind.bits .i64) 1)) : Int) + 1) + IntKind.wrap .i64 (↑(BitVec.toNat (BitVec.ofInt (IntKind.bits .i64) (Int.fdiv (IntKind.wrap .i64 (s5_294 * 37)) (2 ^ min (Int.toNat 9) (IntKind.bits .i64))) &&& BitVec.ofInt (IntKind.bits .i64) 1)) : Int)), y339.1), ())))
 (.no))))
 (.cond (false)
 (.no)
 (.opt (predQ (Int.fdiv (IntKind.wrap .i64 (s5_294 * 37)) (2 ^ min (Int.toNat 10) (IntKind.bits .i64)), List.getD y321.1 (Int.toNat s5_294) ByteArray.empty, { data := #[97] }, ())) fun y340 =>
 (.cond (decide ((List.length r1724_297 + List.length (List.set (List.replicate 1 (ByteArray.empty, [], false, 0, 0, [])) 0 (List.getD y321.1 (Int.toNat s5_294) ByteArray.empty, y322.1, false, IntKind.wrap .i64 (IntKind.wrap .i64 (↑(BitVec.toNat (BitVec.ofInt (IntKind.bits .i64) (Int.fdiv (IntKind.wrap .i64 (s5_294 * 37)) (2 ^ min (Int.toNat 8) (IntKind.bits .i64))) &&& BitVec.ofInt (IntKind.bits .i64) 1)) : Int) + 1), IntKind.wrap .i64 (IntKind.wrap .i64 (IntKind.wrap .i64 (↑(BitVec.toNat (BitVec.ofInt (IntKind.bits .i64) (Int.fdiv (IntKind.wrap .i64 (s5_294 * 37)) (2 ^ min (Int.toNat 8) (IntKind.bits .i64))) &&& BitVec.ofInt (IntKind.bits .i64) 1)) : Int) + 1) + IntKind.wrap .i64 (↑(BitVec.toNat (BitVec.ofInt (IntKind.bits .i64) (Int.fdiv (IntKind.wrap .i64 (s5_294 * 37)) (2 ^ min (Int.toNat 9) (IntKind.bits .i64))) &&& BitVec.ofInt (IntKind.bits .i64) 1)) : Int)), y340.1))) * 88 ≤ 140737488355328))
 (.ret (.inl (s0_292, s4_293, IntKind.wrap .i64 (s5_294 + 1), c1026_1_295, c1026_2_296, r1724_297 ++ List.set (List.replicate 1 (ByteArray.empty, [], false, 0, 0, [])) 0 (List.getD y321.1 (Int.toNat s5_294) ByteArray.empty, y322.1, false, IntKind.wrap .i64 (IntKind.wrap .i64 (↑(BitVec.toNat (BitVec.ofInt (IntKind.bits .i64) (Int.fdiv (IntKind.wrap .i64 (s5_294 * 37)) (2 ^ min (Int.toNat 8) (IntKind.bits .i64))) &&& BitVec.ofInt (IntKind.bits .i64) 1)) : Int) + 1), IntKind.wrap .i64 (IntKind.wrap .i64 (IntKind.wrap .i64 (↑(BitVec.toNat (BitVec.ofInt (IntKind.bits .i64) (Int.fdiv (IntKind.wrap .i64 (s5_294 * 37)) (2 ^ min (Int.toNat 8) (IntKind.bits .i64))) &&& BitVec.ofInt (IntKind.bits .i64) 1)) : Int) + 1) + IntKind.wrap .i64 (↑(BitVec.toNat (BitVec.ofInt (IntKind.bits .i64) (Int.fdiv (IntKind.wrap .i64 (s5_294 * 37)) (2 ^ min (Int.toNat 9) (IntKind.bits .i64))) &&& BitVec.ofInt (IntKind.bits .i64) 1)) : Int)), y340.1), ())))
 (.no)))))
 (.no)))))
 (.cond (s5_294 == 0)
 (.cond (false)
 (.no)
 (.opt (predQ (Int.fdiv (IntKind.wrap .i64 (s5_294 * 37)) (2 ^ min (Int.toNat 10) (IntKind.bits .i64)), List.getD y321.1 (Int.toNat s5_294) ByteArray.empty, List.getD y321.1 (Int.toNat s5_294) ByteArray.empty, ())) fun y341 =>
 (.cond (decide ((List.length r1724_297 + List.length (List.set (List.replicate 1 (ByteArray.empty, [], false, 0, 0, [])) 0 (List.getD y321.1 (Int.toNat s5_294) ByteArray.empty, y322.1, false, 1, 1, y341.1))) * 88 ≤ 140737488355328))
 (.ret (.inl (s0_292, s4_293, IntKind.wrap .i64 (s5_294 + 1), c1026_1_295, c1026_2_296, r1724_297 ++ List.set (List.replicate 1 (ByteArray.empty, [], false, 0, 0, [])) 0 (List.getD y321.1 (Int.toNat s5_294) ByteArray.empty, y322.1, false, 1, 1, y341.1), ())))
 (.no))))
 (.cond (decide (0 ≤ 0) && decide (0 < (↑(List.length r1724_297) : Int)))
 (.cond (Prod.fst (Prod.snd (Prod.snd (Prod.snd (Prod.snd (List.getD r1724_297 (Int.toNat 0) (ByteArray.empty, [], false, 0, 0, [])))))) != 1)
 (.cond (false)
 (.no)
 (.opt (predQ (Int.fdiv (IntKind.wrap .i64 (s5_294 * 37)) (2 ^ min (Int.toNat 10) (IntKind.bits .i64)), List.getD y321.1 (Int.toNat s5_294) ByteArray.empty, List.getD y321.1 (Int.toNat s5_294) ByteArray.empty, ())) fun y342 =>
 (.cond (decide ((List.length r1724_297 + List.length (List.set (List.replicate 1 (ByteArray.empty, [], false, 0, 0, [])) 0 (List.getD y321.1 (Int.toNat s5_294) ByteArray.empty, y322.1, false, 1, 1, y342.1))) * 88 ≤ 140737488355328))
 (.ret (.inl (s0_292, s4_293, IntKind.wrap .i64 (s5_294 + 1), c1026_1_295, c1026_2_296, r1724_297 ++ List.set (List.replicate 1 (ByteArray.empty, [], false, 0, 0, [])) 0 (List.getD y321.1 (Int.toNat s5_294) ByteArray.empty, y322.1, false, 1, 1, y342.1), ())))
 (.no))))
 (.cond (false)
 (.no)
 (.opt (predQ (Int.fdiv (IntKind.wrap .i64 (s5_294 * 37)) (2 ^ min (Int.toNat 10) (IntKind.bits .i64)), List.getD y321.1 (Int.toNat s5_294) ByteArray.empty, { data := #[97] }, ())) fun y343 =>
 (.cond (decide ((List.length r1724_297 + List.length (List.set (List.replicate 1 (ByteArray.empty, [], false, 0, 0, [])) 0 (List.getD y321.1 (Int.toNat s5_294) ByteArray.empty, y322.1, false, 1, 1, y343.1))) * 88 ≤ 140737488355328))
 (.ret (.inl (s0_292, s4_293, IntKind.wrap .i64 (s5_294 + 1), c1026_1_295, c1026_2_296, r1724_297 ++ List.set (List.replicate 1 (ByteArray.empty, [], false, 0, 0, [])) 0 (List.getD y321.1 (Int.toNat s5_294) ByteArray.empty, y322.1, false, 1, 1, y343.1), ())))
 (.no)))))
 (.no)))))))
 (.no))))
 (.ret (.inr (c1026_1_295, c1026_2_296, r1724_297, ()))))
noncomputable def queryQ_w0 : ((List Int) × zA30) → Option (Int × (Int × ((List zA1) × Unit))) := iterO fun x => (queryQ_l0 x).run
noncomputable def queryQ_B : ((List Int) × Unit) → Br (zA10 × Unit) := fun (p0, ()) =>
 (.cond (decide ((↑(List.length p0) : Int) > 0))
 (.cond (decide (0 ≤ 0) && decide (0 < (↑(List.length p0) : Int)))
 (.cond (false)
 (.no)
 (.cond (false)
 (.no)
 (.cond (decide (0 ≤ IntKind.wrap .i64 (↑(BitVec.toNat (BitVec.ofInt (IntKind.bits .i64) (Int.fdiv (IntKind.wrap .i64 (↑(BitVec.toNat (BitVec.ofInt (IntKind.bits .i64) (List.getD p0 (Int.toNat 0) 0) &&& BitVec.ofInt (IntKind.bits .i64) 16777215)) : Int)) (2 ^ min (Int.toNat 6) (IntKind.bits .i64))) &&& BitVec.ofInt (IntKind.bits .i64) 3)) : Int)) && decide (IntKind.wrap .i64 (↑(BitVec.toNat (BitVec.ofInt (IntKind.bits .i64) (Int.fdiv (IntKind.wrap .i64 (↑(BitVec.toNat (BitVec.ofInt (IntKind.bits .i64) (List.getD p0 (Int.toNat 0) 0) &&& BitVec.ofInt (IntKind.bits .i64) 16777215)) : Int)) (2 ^ min (Int.toNat 6) (IntKind.bits .i64))) &&& BitVec.ofInt (IntKind.bits .i64) 3)) : Int) < (↑(List.length (List.set (List.set (List.set (List.set (List.replicate 4 0) 0 100) 1 100) 2 200) 3 1000)) : Int)))
 (.opt (queryQ_w0 (p0, IntKind.wrap .i64 (IntKind.wrap .i64 (↑(BitVec.toNat (BitVec.ofInt (IntKind.bits .i64) (IntKind.wrap .i64 (↑(BitVec.toNat (BitVec.ofInt (IntKind.bits .i64) (List.getD p0 (Int.toNat 0) 0) &&& BitVec.ofInt (IntKind.bits .i64) 16777215)) : Int)) &&& BitVec.ofInt (IntKind.bits .i64) 3)) : Int) + 1), 0, IntKind.wrap .i64 (IntKind.wrap .i64 (↑(BitVec.toNat (BitVec.ofInt (IntKind.bits .i64) (Int.fdiv (IntKind.wrap .i64 (↑(BitVec.toNat (BitVec.ofInt (IntKind.bits .i64) (List.getD p0 (Int.toNat 0) 0) &&& BitVec.ofInt (IntKind.bits .i64) 16777215)) : Int)) (2 ^ min (Int.toNat 2) (IntKind.bits .i64))) &&& BitVec.ofInt (IntKind.bits .i64) 15)) : Int) + 1), List.getD (List.set (List.set (List.set (List.set (List.replicate 4 0) 0 100) 1 100) 2 200) 3 1000) (Int.toNat (IntKind.wrap .i64 (↑(BitVec.toNat (BitVec.ofInt (IntKind.bits .i64) (Int.fdiv (IntKind.wrap .i64 (↑(BitVec.toNat (BitVec.ofInt (IntKind.bits .i64) (List.getD p0 (Int.toNat 0) 0) &&& BitVec.ofInt (IntKind.bits .i64) 16777215)) : Int)) (2 ^ min (Int.toNat 6) (IntKind.bits .i64))) &&& BitVec.ofInt (IntKind.bits .i64) 3)) : Int))) 0, [], ())) fun z345 =>
 (.ret ((z345.2.2.1, z345.1, z345.2.1), ())))
 (.no))))
 (.no))
 (.cond (false)
 (.no)
 (.cond (false)
 (.no)
 (.cond (true)
 (.opt (queryQ_w0 (p0, 1, 0, 1, 100, [], ())) fun z398 =>
 (.ret ((z398.2.2.1, z398.1, z398.2.1), ())))
 (.no)))))
noncomputable def queryQ : ((List Int) × Unit) → Option (zA10 × Unit) := fun x => (queryQ_B x).run
abbrev queryQ_ins : List (Bool × Pat) := [(false, .ty true (.sl (.int .i64)))]
abbrev queryQ_outs : List Pat := [.ty false zA5]
noncomputable abbrev queryQ_f : Func := Try.f44
noncomputable abbrev queryQ_P : Program := Try.prog
abbrev queryQ_kp : List Nat := kpOf queryQ_ins
abbrev queryQ_kf : List Nat := kfOf queryQ_ins
noncomputable def queryQ_c : Ctx := { cx_predQ with base := 1024 }
set_option maxRecDepth 100000 in
theorem queryQ_env : EnvFull queryQ_P queryQ_c := env_base (en_predQ) 1024
abbrev queryQ_H0 : List Hole := [.slot 0 true (.sl (.int .i64)), .slot 4 false (.int .i64), .slot 5 false (.int .i64), .cell 1026 1 false (.int .i64), .cell 1026 2 false (.int .i64), .ar 1724 false 98 zA19]
def queryQ_S0 : Skel := ⟨118, [(2, D.c (C.ref 1026 0 0))], [(1026, [(.mfull 1724), .bad, .bad]), (1724, [])]⟩
abbrev queryQ_H0e0 : List Hole := [.cell 1026 1 false (.int .i64), .cell 1026 2 false (.int .i64), .ar 1725 false 98 zA19]
def queryQ_S0e0 : Skel := ⟨118, [(2, D.c (C.ref 1026 0 0))], [(1026, [(.mfull 1725), .bad, .bad]), (1725, [])]⟩
def queryQ_h0 : Exit → Shape
  | .normal => ⟨[(0, .as true (.sl (.int .i64))), (2, .keep), (4, .as false (.int .i64)), (5, .as false (.int .i64))], [(2, 0, .row 700 false 98 zA19), (2, 1, .as false (.int .i64)), (2, 2, .as false (.int .i64))], [(2, false), (700, false)]⟩
  | .exit 0 => ⟨[(2, .keep)], [(2, 0, .row 701 false 98 zA19), (2, 1, .as false (.int .i64)), (2, 2, .as false (.int .i64))], [(2, false), (701, false)]⟩
  | _ => ⟨[], [], []⟩
def queryQ_e0 : (Int × (Int × ((List zA1) × Unit))) → Exit × St
  | u => (.exit 0, queryQ_S0e0.fillK queryQ_kf queryQ_H0e0 u)
def queryQ_t0 : (Int × (Int × ((List zA1) × Unit))) → Br (Exit × St) := fun u => .ret (.exit 0, queryQ_S0e0.fillK queryQ_kf queryQ_H0e0 u)
noncomputable def queryQ_C0 : Code := loopAt 0 (bodyOf queryQ_f)
noncomputable def queryQ_o0 : St → Br (Exit × St) := loopF queryQ_kp queryQ_kf 1024 (queryQ_h0 .normal) (queryQ_S0.parseK queryQ_kf queryQ_H0) fun x => .opt (queryQ_w0 x) queryQ_t0
noncomputable def queryQ_p : Par := { sh := fun _ => none, k := 0, lo := fun i => bif Nat.beq i 8 then some queryQ_o0 else none }
set_option maxRecDepth 100000 in
theorem queryQ_r0 (s0_292 : (List Int)) (s4_293 : Int) (s5_294 : Int) (c1026_1_295 : Int) (c1026_2_296 : Int) (r1724_297 : (List zA1)) : roundF queryQ_kp queryQ_kf queryQ_c queryQ_p queryQ_h0 queryQ_C0 (queryQ_S0.fillK queryQ_kf queryQ_H0 (s0_292, s4_293, s5_294, c1026_1_295, c1026_2_296, r1724_297, ())) = (queryQ_l0 (s0_292, s4_293, s5_294, c1026_1_295, c1026_2_296, r1724_297, ())).bind (loopLeaf (fun x => queryQ_S0.fillK queryQ_kf queryQ_H0 x) queryQ_e0) := by kernel_rfl
set_option maxRecDepth 100000 in
theorem queryQ_ok0 (g : Cfg) (hg : ∀ n, Go.PI.look n g.m0 ≠ Option.none → n ∈ queryQ_kp) : LoopOk queryQ_P g queryQ_o0 queryQ_C0 := LoopOk.auto queryQ_env hg queryQ_p (LoOk.of (l := []) (by kernel_rfl) .nil) queryQ_h0 (fun x => queryQ_S0.fillK queryQ_kf queryQ_H0 x) (fun s x h => Skel.parseK_ok s x h) queryQ_l0 queryQ_e0 (fun _ h => by cases h) queryQ_t0 (fun _ => rfl) (fun (s0_292, s4_293, s5_294, c1026_1_295, c1026_2_296, r1724_297, ()) => queryQ_r0 s0_292 s4_293 s5_294 c1026_1_295 c1026_2_296 r1724_297)
set_option maxRecDepth 100000 in
theorem queryQ_eq (p0 : (List Int)) : ocRun queryQ_c queryQ_p queryQ_f queryQ_ins queryQ_outs (p0, ()) = queryQ_B (p0, ()) := by kernel_rfl
set_option maxRecDepth 100000 in
theorem queryQ_oc : OC queryQ_P 44 queryQ_ins queryQ_outs queryQ := OC.of_tree queryQ_env Try.func44 (by kernel_rfl) (by kernel_rfl) (p := queryQ_p) (fun g hg => LoOk.of (l := [queryQ_C0]) (by kernel_rfl) (.cons (queryQ_ok0 g hg) (by kernel_rfl) .nil)) (fun (p0, ()) => queryQ_eq p0)
end Go.Proofs.Ytnhiplibodkciaa
