/- Contracts of functions. Printed by auto.py. -/
import Derived.Test.YtnhiplibodkciaaR5c
namespace Go.Proofs.Ytnhiplibodkciaa
open Go.PI Go
noncomputable def awake14_B : Unit → Br (Bool × Unit) := fun (()) =>
 (.opt (typesR ()) fun y5 =>
 (.opt (newS (Prod.fst y5, ())) fun y6 =>
 (.opt (holdsF (Prod.fst (Prod.fst y6), [(2, (0, 0, ByteArray.empty, false), { data := #[97] }, { data := #[120] }), (1, (1, 3, ByteArray.empty, false), ByteArray.empty, ByteArray.empty), (11, (0, 0, ByteArray.empty, false), ByteArray.empty, ByteArray.empty)], [({ data := #[97] }, { data := #[65] }, { data := #[107] }, 0, 0, [(1, 4, ByteArray.empty, false), (2, 0, ByteArray.empty, false)])], ())) fun y7 =>
 (.cond (Prod.fst y7)
 (.opt (holdsF (Prod.fst (Prod.fst y6), [(2, (0, 0, ByteArray.empty, false), { data := #[97] }, { data := #[120] }), (1, (1, 3, ByteArray.empty, false), ByteArray.empty, ByteArray.empty), (11, (0, 0, ByteArray.empty, false), ByteArray.empty, ByteArray.empty)], [], ())) fun y8 =>
 (.cond (!Prod.fst y8)
 (.opt (holdsF (Prod.fst (Prod.fst y6), [], [], ())) fun y9 =>
 (.ret (Prod.fst y9, ())))
 (.ret (false, ()))))
 (.ret (false, ()))))))
noncomputable def awake14 : Unit → Option (Bool × Unit) := fun x => (awake14_B x).run
abbrev awake14_ins : List (Bool × Pat) := []
abbrev awake14_outs : List Pat := [.ty false .bool]
noncomputable abbrev awake14_f : Func := Try.f33
noncomputable abbrev awake14_P : Program := Try.prog
abbrev awake14_kp : List Nat := kpOf awake14_ins
abbrev awake14_kf : List Nat := kfOf awake14_ins
noncomputable def awake14_c : Ctx := { cxL with base := 1024 }
set_option maxRecDepth 100000 in
theorem awake14_env : EnvFull awake14_P awake14_c := env_base (enL) 1024
noncomputable def awake14_p : Par := { sh := fun _ => none, k := 0, lo := fun _ => none }
set_option maxRecDepth 100000 in
theorem awake14_eq  : ocRun awake14_c awake14_p awake14_f awake14_ins awake14_outs (()) = awake14_B (()) := by kernel_rfl
set_option maxRecDepth 100000 in
theorem awake14_oc : OC awake14_P 33 awake14_ins awake14_outs awake14 := OC.of_tree awake14_env Try.func33 (by kernel_rfl) (by kernel_rfl) (p := awake14_p) (fun g hg => LoOk.of (l := []) (by kernel_rfl) .nil) (fun (()) => awake14_eq )
noncomputable def cx_awake14 : Ctx := addO cxL 33 (ocOrc awake14_ins awake14_outs awake14)
theorem en_awake14 : EnvFull Try.prog cx_awake14 := env_add (enL) awake14_oc.callOk
noncomputable def evalParts_B : (Int × ((Int × (Int × (ByteArray × Bool))) × ((Int × (Int × (ByteArray × Bool))) × Unit))) → Br (Bool × Unit) := fun (p0, p1, p2, ()) =>
 (.opt (typesR ()) fun y14 =>
 (.opt (newS (Prod.fst y14, ())) fun y15 =>
 (.cond (false)
 (.no)
 (.opt (valueL (p1, ())) fun y16 =>
 (.opt (valueL (p2, ())) fun y17 =>
 (.opt (partsR (IntKind.wrap IntKind.i64 (Int.tmod (IntKind.wrap IntKind.i64 (↑(BitVec.toNat (BitVec.ofInt (IntKind.bits IntKind.i64) p0 &&& BitVec.ofInt (IntKind.bits IntKind.i64) 255)) : Int)) 13 + 3), ())) fun y18 =>
 (.cond (Prod.fst y18 == 1)
 (.opt (evalE (Prod.fst (Prod.fst y15), [(1, Prod.fst y16, ByteArray.empty, ByteArray.empty), (IntKind.wrap IntKind.i64 (Int.tmod (IntKind.wrap IntKind.i64 (↑(BitVec.toNat (BitVec.ofInt (IntKind.bits IntKind.i64) p0 &&& BitVec.ofInt (IntKind.bits IntKind.i64) 255)) : Int)) 13 + 3), (0, 0, ByteArray.empty, false), ByteArray.empty, ByteArray.empty)], [], ())) fun y19 =>
 (.opt (evalRF ([(1, Prod.fst y16, ByteArray.empty, ByteArray.empty), (IntKind.wrap IntKind.i64 (Int.tmod (IntKind.wrap IntKind.i64 (↑(BitVec.toNat (BitVec.ofInt (IntKind.bits IntKind.i64) p0 &&& BitVec.ofInt (IntKind.bits IntKind.i64) 255)) : Int)) 13 + 3), (0, 0, ByteArray.empty, false), ByteArray.empty, ByteArray.empty)], [], IntKind.wrap IntKind.i64 ((↑(List.length [(1, Prod.fst y16, ByteArray.empty, ByteArray.empty), (IntKind.wrap IntKind.i64 (Int.tmod (IntKind.wrap IntKind.i64 (↑(BitVec.toNat (BitVec.ofInt (IntKind.bits IntKind.i64) p0 &&& BitVec.ofInt (IntKind.bits IntKind.i64) 255)) : Int)) 13 + 3), (0, 0, ByteArray.empty, false), ByteArray.empty, ByteArray.empty)]) : Int) - 1), ())) fun y20 =>
 (.opt (awake14 ()) fun y21 =>
 (.cond (Prod.fst y21)
 (.cond (Prod.snd (Prod.fst y19) == Prod.fst (Prod.snd (Prod.fst y20)))
 (.cond (!Prod.snd (Prod.fst y19))
 (.ret (true, ()))
 (.ret (decide (Prod.fst (Prod.fst (Prod.fst y19)) = Prod.fst (Prod.fst (Prod.fst y20))) && (decide (Prod.fst (Prod.snd (Prod.fst (Prod.fst y19))) = Prod.fst (Prod.snd (Prod.fst (Prod.fst y20)))) && (bl (Prod.fst (Prod.snd (Prod.snd (Prod.fst (Prod.fst y19))))) == bl (Prod.fst (Prod.snd (Prod.snd (Prod.fst (Prod.fst y20))))) && Prod.snd (Prod.snd (Prod.snd (Prod.fst (Prod.fst y19)))) == Prod.snd (Prod.snd (Prod.snd (Prod.fst (Prod.fst y20)))))), ())))
 (.ret (false, ())))
 (.ret (false, ()))))))
 (.opt (evalE (Prod.fst (Prod.fst y15), [(1, Prod.fst y16, ByteArray.empty, ByteArray.empty), (1, Prod.fst y17, ByteArray.empty, ByteArray.empty), (IntKind.wrap IntKind.i64 (Int.tmod (IntKind.wrap IntKind.i64 (↑(BitVec.toNat (BitVec.ofInt (IntKind.bits IntKind.i64) p0 &&& BitVec.ofInt (IntKind.bits IntKind.i64) 255)) : Int)) 13 + 3), (0, 0, ByteArray.empty, false), ByteArray.empty, ByteArray.empty)], [], ())) fun y22 =>
 (.opt (evalRF ([(1, Prod.fst y16, ByteArray.empty, ByteArray.empty), (1, Prod.fst y17, ByteArray.empty, ByteArray.empty), (IntKind.wrap IntKind.i64 (Int.tmod (IntKind.wrap IntKind.i64 (↑(BitVec.toNat (BitVec.ofInt (IntKind.bits IntKind.i64) p0 &&& BitVec.ofInt (IntKind.bits IntKind.i64) 255)) : Int)) 13 + 3), (0, 0, ByteArray.empty, false), ByteArray.empty, ByteArray.empty)], [], IntKind.wrap IntKind.i64 ((↑(List.length [(1, Prod.fst y16, ByteArray.empty, ByteArray.empty), (1, Prod.fst y17, ByteArray.empty, ByteArray.empty), (IntKind.wrap IntKind.i64 (Int.tmod (IntKind.wrap IntKind.i64 (↑(BitVec.toNat (BitVec.ofInt (IntKind.bits IntKind.i64) p0 &&& BitVec.ofInt (IntKind.bits IntKind.i64) 255)) : Int)) 13 + 3), (0, 0, ByteArray.empty, false), ByteArray.empty, ByteArray.empty)]) : Int) - 1), ())) fun y23 =>
 (.opt (awake14 ()) fun y24 =>
 (.cond (Prod.fst y24)
 (.cond (Prod.snd (Prod.fst y22) == Prod.fst (Prod.snd (Prod.fst y23)))
 (.cond (!Prod.snd (Prod.fst y22))
 (.ret (true, ()))
 (.ret (decide (Prod.fst (Prod.fst (Prod.fst y22)) = Prod.fst (Prod.fst (Prod.fst y23))) && (decide (Prod.fst (Prod.snd (Prod.fst (Prod.fst y22))) = Prod.fst (Prod.snd (Prod.fst (Prod.fst y23)))) && (bl (Prod.fst (Prod.snd (Prod.snd (Prod.fst (Prod.fst y22))))) == bl (Prod.fst (Prod.snd (Prod.snd (Prod.fst (Prod.fst y23))))) && Prod.snd (Prod.snd (Prod.snd (Prod.fst (Prod.fst y22)))) == Prod.snd (Prod.snd (Prod.snd (Prod.fst (Prod.fst y23)))))), ())))
 (.ret (false, ())))
 (.ret (false, ())))))))))))))
noncomputable def evalParts : (Int × ((Int × (Int × (ByteArray × Bool))) × ((Int × (Int × (ByteArray × Bool))) × Unit))) → Option (Bool × Unit) := fun x => (evalParts_B x).run
abbrev evalParts_ins : List (Bool × Pat) := [(false, .ty false (.int .i64)), (false, .ty false (.st (.pair (.int .i64) (.pair (.int .i64) (.pair .str .bool))))), (false, .ty false (.st (.pair (.int .i64) (.pair (.int .i64) (.pair .str .bool)))))]
abbrev evalParts_outs : List Pat := [.ty false .bool]
noncomputable abbrev evalParts_f : Func := Try.f8
noncomputable abbrev evalParts_P : Program := Try.prog
abbrev evalParts_kp : List Nat := kpOf evalParts_ins
abbrev evalParts_kf : List Nat := kfOf evalParts_ins
noncomputable def evalParts_c : Ctx := { cx_awake14 with base := 1024 }
set_option maxRecDepth 100000 in
theorem evalParts_env : EnvFull evalParts_P evalParts_c := env_base (en_awake14) 1024
noncomputable def evalParts_p : Par := { sh := fun _ => none, k := 0, lo := fun _ => none }
set_option maxRecDepth 100000 in
theorem evalParts_eq (p0 : Int) (p1 : (Int × (Int × (ByteArray × Bool)))) (p2 : (Int × (Int × (ByteArray × Bool)))) : ocRun evalParts_c evalParts_p evalParts_f evalParts_ins evalParts_outs (p0, p1, p2, ()) = evalParts_B (p0, p1, p2, ()) := by kernel_rfl
set_option maxRecDepth 100000 in
theorem evalParts_oc : OC evalParts_P 8 evalParts_ins evalParts_outs evalParts := OC.of_tree evalParts_env Try.func8 (by kernel_rfl) (by kernel_rfl) (p := evalParts_p) (fun g hg => LoOk.of (l := []) (by kernel_rfl) .nil) (fun (p0, p1, p2, ()) => evalParts_eq p0 p1 p2)
noncomputable def cx_evalParts : Ctx := addO cx_awake14 8 (ocOrc evalParts_ins evalParts_outs evalParts)
theorem en_evalParts : EnvFull Try.prog cx_evalParts := env_add (en_awake14) evalParts_oc.callOk
noncomputable def evalNone_B : ((ByteArray × (ByteArray × (Int × (Int × (List (Int × (Int × (ByteArray × Bool)))))))) × ((List (Int × ((Int × (Int × (ByteArray × Bool))) × (ByteArray × ByteArray)))) × Unit)) → Br (Bool × Unit) := fun (p0, p1, ()) =>
 (.opt (typesR ()) fun y13 =>
 (.opt (newS (Prod.fst y13, ())) fun y14 =>
 (.opt (eventR (p0, ())) fun y15 =>
 (.opt (fieldL ({ data := #[97] }, { data := #[110, 111, 110, 101] }, ())) fun y16 =>
 (.opt (fieldL ({ data := #[119] }, { data := #[120] }, ())) fun y17 =>
 (.opt (evalE (Prod.fst (Prod.fst y14), [Prod.fst y16, Prod.fst y16, (7, (0, 0, ByteArray.empty, false), ByteArray.empty, ByteArray.empty)], [({ data := #[97] }, Prod.fst y15)], ())) fun y18 =>
 (.opt (evalE (Prod.fst (Prod.fst y14), [Prod.fst y17, Prod.fst y17, (7, (0, 0, ByteArray.empty, false), ByteArray.empty, ByteArray.empty)], [({ data := #[97] }, Prod.fst y15)], ())) fun y19 =>
 (.opt (fieldL ({ data := #[97] }, { data := #[120] }, ())) fun y20 =>
 (.cond (decide (0 ≤ 0) && decide (0 ≤ if 10 < (↑(List.length p1) : Int) then 10 else (↑(List.length p1) : Int)) && decide ((if 10 < (↑(List.length p1) : Int) then 10 else (↑(List.length p1) : Int)) ≤ (↑(List.length p1) : Int)))
 (.opt (evalE (Prod.fst (Prod.fst y14), List.drop (Int.toNat 0) (List.take (Int.toNat (if 10 < (↑(List.length p1) : Int) then 10 else (↑(List.length p1) : Int))) p1), [({ data := #[97] }, Prod.fst y15)], ())) fun y21 =>
 (.opt (awake14 ()) fun y22 =>
 (.cond (Prod.fst y22)
 (.cond (!Prod.snd (Prod.fst y18))
 (.cond (!Prod.snd (Prod.fst y19))
 (.opt (holdsF (Prod.fst (Prod.fst y14), [Prod.fst y20, Prod.fst y20, (7, (0, 0, ByteArray.empty, false), ByteArray.empty, ByteArray.empty)], [({ data := #[97] }, Prod.fst y15)], ())) fun y23 =>
 (.cond (Prod.fst y23)
 (.cond (!Prod.snd (Prod.fst y21))
 (.ret (true, ()))
 (.ret (decide ((↑(List.length (List.drop (Int.toNat 0) (List.take (Int.toNat (if 10 < (↑(List.length p1) : Int) then 10 else (↑(List.length p1) : Int))) p1))) : Int) > 0), ())))
 (.ret (false, ()))))
 (.ret (false, ())))
 (.ret (false, ())))
 (.ret (false, ())))))
 (.no))))))))))
noncomputable def evalNone : ((ByteArray × (ByteArray × (Int × (Int × (List (Int × (Int × (ByteArray × Bool)))))))) × ((List (Int × ((Int × (Int × (ByteArray × Bool))) × (ByteArray × ByteArray)))) × Unit)) → Option (Bool × Unit) := fun x => (evalNone_B x).run
abbrev evalNone_ins : List (Bool × Pat) := [(false, .ty true (.st (.pair .str (.pair .str (.pair (.int .i64) (.pair (.int .i64) (.sl (.st (.pair (.int .i64) (.pair (.int .i64) (.pair .str .bool))))))))))), (false, .ty true (.sl (.st (.pair (.int .i64) (.pair (.st (.pair (.int .i64) (.pair (.int .i64) (.pair .str .bool)))) (.pair .str .str))))))]
abbrev evalNone_outs : List Pat := [.ty false .bool]
noncomputable abbrev evalNone_f : Func := Try.f9
noncomputable abbrev evalNone_P : Program := Try.prog
abbrev evalNone_kp : List Nat := kpOf evalNone_ins
abbrev evalNone_kf : List Nat := kfOf evalNone_ins
noncomputable def evalNone_c : Ctx := { cx_evalParts with base := 1024 }
set_option maxRecDepth 100000 in
theorem evalNone_env : EnvFull evalNone_P evalNone_c := env_base (en_evalParts) 1024
noncomputable def evalNone_p : Par := { sh := fun _ => none, k := 0, lo := fun _ => none }
set_option maxRecDepth 100000 in
theorem evalNone_eq (p0 : (ByteArray × (ByteArray × (Int × (Int × (List (Int × (Int × (ByteArray × Bool))))))))) (p1 : (List (Int × ((Int × (Int × (ByteArray × Bool))) × (ByteArray × ByteArray))))) : ocRun evalNone_c evalNone_p evalNone_f evalNone_ins evalNone_outs (p0, p1, ()) = evalNone_B (p0, p1, ()) := by kernel_rfl
set_option maxRecDepth 100000 in
theorem evalNone_oc : OC evalNone_P 9 evalNone_ins evalNone_outs evalNone := OC.of_tree evalNone_env Try.func9 (by kernel_rfl) (by kernel_rfl) (p := evalNone_p) (fun g hg => LoOk.of (l := []) (by kernel_rfl) .nil) (fun (p0, p1, ()) => evalNone_eq p0 p1)
noncomputable def cx_evalNone : Ctx := addO cx_evalParts 9 (ocOrc evalNone_ins evalNone_outs evalNone)
theorem en_evalNone : EnvFull Try.prog cx_evalNone := env_add (en_evalParts) evalNone_oc.callOk
noncomputable def evalMade_B : ((List Int) × ((ByteArray × (ByteArray × (Int × (Int × (List (Int × (Int × (ByteArray × Bool)))))))) × ((ByteArray × (ByteArray × (Int × (Int × (List (Int × (Int × (ByteArray × Bool)))))))) × Unit))) → Br (Bool × Unit) := fun (p0, p1, p2, ()) =>
 (.opt (typesR ()) fun y24 =>
 (.opt (newS (Prod.fst y24, ())) fun y25 =>
 (.opt (eventR (p1, ())) fun y26 =>
 (.opt (eventR (p2, ())) fun y27 =>
 (.opt (truthRF (p0, 0, 2, ())) fun y28 =>
 (.opt (numberRF (p0, 0, 3, ())) fun y29 =>
 (.cond (decide ((↑(List.length (Prod.fst (Prod.fst y28))) : Int) > 64))
 (.opt (awake14 ()) fun y30 =>
 (.ret (Prod.fst y30, ())))
 (.cond (decide ((↑(List.length (Prod.fst (Prod.fst y29))) : Int) > 64))
 (.opt (awake14 ()) fun y31 =>
 (.ret (Prod.fst y31, ())))
 (.opt (evalE (Prod.fst (Prod.fst y25), Prod.fst (Prod.fst y28), [({ data := #[97] }, Prod.fst y26), ({ data := #[98] }, Prod.fst y27)], ())) fun y32 =>
 (.opt (evalRF (Prod.fst (Prod.fst y28), [({ data := #[97] }, Prod.fst y26), ({ data := #[98] }, Prod.fst y27)], IntKind.wrap IntKind.i64 ((↑(List.length (Prod.fst (Prod.fst y28))) : Int) - 1), ())) fun y33 =>
 (.opt (evalE (Prod.fst (Prod.fst y25), Prod.fst (Prod.fst y29), [({ data := #[97] }, Prod.fst y26), ({ data := #[98] }, Prod.fst y27)], ())) fun y34 =>
 (.opt (evalRF (Prod.fst (Prod.fst y29), [({ data := #[97] }, Prod.fst y26), ({ data := #[98] }, Prod.fst y27)], IntKind.wrap IntKind.i64 ((↑(List.length (Prod.fst (Prod.fst y29))) : Int) - 1), ())) fun y35 =>
 (.opt (awake14 ()) fun y36 =>
 (.cond (Prod.fst y36)
 (.cond (Prod.snd (Prod.fst y32) == Prod.fst (Prod.snd (Prod.fst y33)))
 (.cond (!Prod.snd (Prod.fst y32))
 (.cond (Prod.snd (Prod.fst y34) == Prod.fst (Prod.snd (Prod.fst y35)))
 (.cond (!Prod.snd (Prod.fst y34))
 (.opt (holdsF (Prod.fst (Prod.fst y25), Prod.fst (Prod.fst y28), [({ data := #[97] }, Prod.fst y26), ({ data := #[98] }, Prod.fst y27)], ())) fun y37 =>
 (.opt (holdsR (Prod.fst (Prod.fst y28), [({ data := #[97] }, Prod.fst y26), ({ data := #[98] }, Prod.fst y27)], ())) fun y38 =>
 (.cond (Prod.fst y37 == Prod.fst y38)
 (.cond (Prod.snd (Prod.fst y32))
 (.ret (true, ()))
 (.ret (decide (Prod.fst (Prod.fst (Prod.fst y32)) = 0) && (decide (Prod.fst (Prod.snd (Prod.fst (Prod.fst y32))) = 0) && (bl (Prod.fst (Prod.snd (Prod.snd (Prod.fst (Prod.fst y32))))) == bl ByteArray.empty && Prod.snd (Prod.snd (Prod.snd (Prod.fst (Prod.fst y32)))) == false)), ())))
 (.ret (false, ())))))
 (.cond (decide (Prod.fst (Prod.fst (Prod.fst y34)) = Prod.fst (Prod.fst (Prod.fst y35))) && (decide (Prod.fst (Prod.snd (Prod.fst (Prod.fst y34))) = Prod.fst (Prod.snd (Prod.fst (Prod.fst y35)))) && (bl (Prod.fst (Prod.snd (Prod.snd (Prod.fst (Prod.fst y34))))) == bl (Prod.fst (Prod.snd (Prod.snd (Prod.fst (Prod.fst y35))))) && Prod.snd (Prod.snd (Prod.snd (Prod.fst (Prod.fst y34)))) == Prod.snd (Prod.snd (Prod.snd (Prod.fst (Prod.fst y35)))))))
 (.opt (holdsF (Prod.fst (Prod.fst y25), Prod.fst (Prod.fst y28), [({ data := #[97] }, Prod.fst y26), ({ data := #[98] }, Prod.fst y27)], ())) fun y39 =>
 (.opt (holdsR (Prod.fst (Prod.fst y28), [({ data := #[97] }, Prod.fst y26), ({ data := #[98] }, Prod.fst y27)], ())) fun y40 =>
 (.cond (Prod.fst y39 == Prod.fst y40)
 (.cond (Prod.snd (Prod.fst y32))
 (.ret (true, ()))
 (.ret (decide (Prod.fst (Prod.fst (Prod.fst y32)) = 0) && (decide (Prod.fst (Prod.snd (Prod.fst (Prod.fst y32))) = 0) && (bl (Prod.fst (Prod.snd (Prod.snd (Prod.fst (Prod.fst y32))))) == bl ByteArray.empty && Prod.snd (Prod.snd (Prod.snd (Prod.fst (Prod.fst y32)))) == false)), ())))
 (.ret (false, ())))))
 (.ret (false, ()))))
 (.ret (false, ())))
 (.cond (decide (Prod.fst (Prod.fst (Prod.fst y32)) = Prod.fst (Prod.fst (Prod.fst y33))) && (decide (Prod.fst (Prod.snd (Prod.fst (Prod.fst y32))) = Prod.fst (Prod.snd (Prod.fst (Prod.fst y33)))) && (bl (Prod.fst (Prod.snd (Prod.snd (Prod.fst (Prod.fst y32))))) == bl (Prod.fst (Prod.snd (Prod.snd (Prod.fst (Prod.fst y33))))) && Prod.snd (Prod.snd (Prod.snd (Prod.fst (Prod.fst y32)))) == Prod.snd (Prod.snd (Prod.snd (Prod.fst (Prod.fst y33)))))))
 (.cond (Prod.snd (Prod.fst y34) == Prod.fst (Prod.snd (Prod.fst y35)))
 (.cond (!Prod.snd (Prod.fst y34))
 (.opt (holdsF (Prod.fst (Prod.fst y25), Prod.fst (Prod.fst y28), [({ data := #[97] }, Prod.fst y26), ({ data := #[98] }, Prod.fst y27)], ())) fun y41 =>
 (.opt (holdsR (Prod.fst (Prod.fst y28), [({ data := #[97] }, Prod.fst y26), ({ data := #[98] }, Prod.fst y27)], ())) fun y42 =>
 (.cond (Prod.fst y41 == Prod.fst y42)
 (.cond (Prod.snd (Prod.fst y32))
 (.ret (true, ()))
 (.ret (decide (Prod.fst (Prod.fst (Prod.fst y32)) = 0) && (decide (Prod.fst (Prod.snd (Prod.fst (Prod.fst y32))) = 0) && (bl (Prod.fst (Prod.snd (Prod.snd (Prod.fst (Prod.fst y32))))) == bl ByteArray.empty && Prod.snd (Prod.snd (Prod.snd (Prod.fst (Prod.fst y32)))) == false)), ())))
 (.ret (false, ())))))
 (.cond (decide (Prod.fst (Prod.fst (Prod.fst y34)) = Prod.fst (Prod.fst (Prod.fst y35))) && (decide (Prod.fst (Prod.snd (Prod.fst (Prod.fst y34))) = Prod.fst (Prod.snd (Prod.fst (Prod.fst y35)))) && (bl (Prod.fst (Prod.snd (Prod.snd (Prod.fst (Prod.fst y34))))) == bl (Prod.fst (Prod.snd (Prod.snd (Prod.fst (Prod.fst y35))))) && Prod.snd (Prod.snd (Prod.snd (Prod.fst (Prod.fst y34)))) == Prod.snd (Prod.snd (Prod.snd (Prod.fst (Prod.fst y35)))))))
 (.opt (holdsF (Prod.fst (Prod.fst y25), Prod.fst (Prod.fst y28), [({ data := #[97] }, Prod.fst y26), ({ data := #[98] }, Prod.fst y27)], ())) fun y43 =>
 (.opt (holdsR (Prod.fst (Prod.fst y28), [({ data := #[97] }, Prod.fst y26), ({ data := #[98] }, Prod.fst y27)], ())) fun y44 =>
 (.cond (Prod.fst y43 == Prod.fst y44)
 (.cond (Prod.snd (Prod.fst y32))
 (.ret (true, ()))
 (.ret (decide (Prod.fst (Prod.fst (Prod.fst y32)) = 0) && (decide (Prod.fst (Prod.snd (Prod.fst (Prod.fst y32))) = 0) && (bl (Prod.fst (Prod.snd (Prod.snd (Prod.fst (Prod.fst y32))))) == bl ByteArray.empty && Prod.snd (Prod.snd (Prod.snd (Prod.fst (Prod.fst y32)))) == false)), ())))
 (.ret (false, ())))))
 (.ret (false, ()))))
 (.ret (false, ())))
 (.ret (false, ()))))
 (.ret (false, ())))
 (.ret (false, ()))))))))))))))))
noncomputable def evalMade : ((List Int) × ((ByteArray × (ByteArray × (Int × (Int × (List (Int × (Int × (ByteArray × Bool)))))))) × ((ByteArray × (ByteArray × (Int × (Int × (List (Int × (Int × (ByteArray × Bool)))))))) × Unit))) → Option (Bool × Unit) := fun x => (evalMade_B x).run
abbrev evalMade_ins : List (Bool × Pat) := [(false, .ty true (.sl (.int .i64))), (false, .ty true (.st (.pair .str (.pair .str (.pair (.int .i64) (.pair (.int .i64) (.sl (.st (.pair (.int .i64) (.pair (.int .i64) (.pair .str .bool))))))))))), (false, .ty true (.st (.pair .str (.pair .str (.pair (.int .i64) (.pair (.int .i64) (.sl (.st (.pair (.int .i64) (.pair (.int .i64) (.pair .str .bool)))))))))))]
abbrev evalMade_outs : List Pat := [.ty false .bool]
noncomputable abbrev evalMade_f : Func := Try.f7
noncomputable abbrev evalMade_P : Program := Try.prog
abbrev evalMade_kp : List Nat := kpOf evalMade_ins
abbrev evalMade_kf : List Nat := kfOf evalMade_ins
noncomputable def evalMade_c : Ctx := { cx_evalNone with base := 1024 }
set_option maxRecDepth 100000 in
theorem evalMade_env : EnvFull evalMade_P evalMade_c := env_base (en_evalNone) 1024
noncomputable def evalMade_p : Par := { sh := fun _ => none, k := 0, lo := fun _ => none }
set_option maxRecDepth 100000 in
theorem evalMade_eq (p0 : (List Int)) (p1 : (ByteArray × (ByteArray × (Int × (Int × (List (Int × (Int × (ByteArray × Bool))))))))) (p2 : (ByteArray × (ByteArray × (Int × (Int × (List (Int × (Int × (ByteArray × Bool))))))))) : ocRun evalMade_c evalMade_p evalMade_f evalMade_ins evalMade_outs (p0, p1, p2, ()) = evalMade_B (p0, p1, p2, ()) := by kernel_rfl
set_option maxRecDepth 100000 in
theorem evalMade_oc : OC evalMade_P 7 evalMade_ins evalMade_outs evalMade := OC.of_tree evalMade_env Try.func7 (by kernel_rfl) (by kernel_rfl) (p := evalMade_p) (fun g hg => LoOk.of (l := []) (by kernel_rfl) .nil) (fun (p0, p1, p2, ()) => evalMade_eq p0 p1 p2)
noncomputable def cx_evalMade : Ctx := addO cx_evalNone 7 (ocOrc evalMade_ins evalMade_outs evalMade)
theorem en_evalMade : EnvFull Try.prog cx_evalMade := env_add (en_evalNone) evalMade_oc.callOk
end Go.Proofs.Ytnhiplibodkciaa
