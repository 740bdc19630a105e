/- Contracts of functions. Printed by auto.py. -/
import Derived.Test.YtnhiplibodkciaaR9c
namespace Go.Proofs.Ytnhiplibodkciaa
open Go.PI Go
noncomputable def awake23_B : Unit → Br (Bool × Unit) := fun (()) =>
 (.opt (newS ([({ data := #[65] }, []), ({ data := #[66] }, [])], ())) fun y5 =>
 (.opt (runWith ((0, [], [], 0, (0, 0, 0), false), ([({ data := #[97] }, [{ data := #[65] }], false, 1, 1, []), ({ data := #[98] }, [{ data := #[66] }], true, 1, 1, []), ({ data := #[99] }, [{ data := #[65] }], false, 1, 1, [])], 0, 0), 1, 0, ({ data := #[65] }, ByteArray.empty, 0, 1, []), ())) fun y6 =>
 (.opt (blocksG (Prod.fst (Prod.fst y5), ([({ data := #[97] }, [{ data := #[65] }], false, 1, 1, []), ({ data := #[98] }, [{ data := #[66] }], true, 1, 1, []), ({ data := #[99] }, [{ data := #[65] }], false, 1, 1, [])], 0, 0), Prod.fst y6, ({ data := #[66] }, ByteArray.empty, 0, 2, []), ())) fun y7 =>
 (.cond (Prod.fst y7)
 (.opt (blocksG (Prod.fst (Prod.fst y5), ([({ data := #[97] }, [{ data := #[65] }], false, 1, 1, []), ({ data := #[98] }, [{ data := #[66] }], true, 1, 1, []), ({ data := #[99] }, [{ data := #[65] }], false, 1, 1, [])], 0, 0), Prod.fst y6, ({ data := #[65] }, ByteArray.empty, 0, 2, []), ())) fun y8 =>
 (.cond (!Prod.fst y8)
 (.opt (blocksG (Prod.fst (Prod.fst y5), ([({ data := #[97] }, [{ data := #[65] }], false, 1, 1, []), ({ data := #[98] }, [{ data := #[66] }], true, 1, 1, []), ({ data := #[99] }, [{ data := #[65] }], false, 1, 1, [])], 0, 0), (0, [], [], 0, (0, 0, 0), false), ({ data := #[66] }, ByteArray.empty, 0, 0, []), ())) fun y9 =>
 (.ret (!Prod.fst y9, ())))
 (.ret (false, ()))))
 (.ret (false, ()))))))
noncomputable def awake23 : Unit → Option (Bool × Unit) := fun x => (awake23_B x).run
abbrev awake23_ins : List (Bool × Pat) := []
abbrev awake23_outs : List Pat := [.ty false .bool]
noncomputable abbrev awake23_f : Func := Try.f46
noncomputable abbrev awake23_P : Program := Try.prog
abbrev awake23_kp : List Nat := kpOf awake23_ins
abbrev awake23_kf : List Nat := kfOf awake23_ins
noncomputable def awake23_c : Ctx := { cxP3 with base := 1024 }
set_option maxRecDepth 100000 in
theorem awake23_env : EnvFull awake23_P awake23_c := env_base (enP3) 1024
noncomputable def awake23_p : Par := { sh := fun _ => none, k := 0, lo := fun _ => none }
set_option maxRecDepth 100000 in
theorem awake23_eq  : ocRun awake23_c awake23_p awake23_f awake23_ins awake23_outs (()) = awake23_B (()) := by kernel_rfl
set_option maxRecDepth 100000 in
theorem awake23_oc : OC awake23_P 46 awake23_ins awake23_outs awake23 := OC.of_tree awake23_env Try.func46 (by kernel_rfl) (by kernel_rfl) (p := awake23_p) (fun g hg => LoOk.of (l := []) (by kernel_rfl) .nil) (fun (()) => awake23_eq )
noncomputable def cx_awake23 : Ctx := addO cxP3 46 (ocOrc awake23_ins awake23_outs awake23)
theorem en_awake23 : EnvFull Try.prog cx_awake23 := env_add (enP3) awake23_oc.callOk
noncomputable def guardBlocks_l0 : ((Option (List (ByteArray × (List (ByteArray × Int))))) × ((List (ByteArray × (ByteArray × (Int × (Int × (List (Int × (Int × (ByteArray × Bool))))))))) × (Bool × (Int × (((List (ByteArray × ((List ByteArray) × (Bool × (Int × (Int × (List (Int × ((Int × (Int × (ByteArray × Bool))) × (ByteArray × ByteArray)))))))))) × (Int × Int)) × ((Int × ((List (Int × Int)) × ((List (ByteArray × (ByteArray × (ByteArray × (Int × (Int × (List (Int × (Int × (ByteArray × Bool)))))))))) × (Int × ((Int × (Int × Int)) × Bool))))) × Unit)))))) → Br (((Option (List (ByteArray × (List (ByteArray × Int))))) × ((List (ByteArray × (ByteArray × (Int × (Int × (List (Int × (Int × (ByteArray × Bool))))))))) × (Bool × (Int × (((List (ByteArray × ((List ByteArray) × (Bool × (Int × (Int × (List (Int × ((Int × (Int × (ByteArray × Bool))) × (ByteArray × ByteArray)))))))))) × (Int × Int)) × ((Int × ((List (Int × Int)) × ((List (ByteArray × (ByteArray × (ByteArray × (Int × (Int × (List (Int × (Int × (ByteArray × Bool)))))))))) × (Int × ((Int × (Int × Int)) × Bool))))) × Unit)))))) ⊕ ((Option (List (ByteArray × (List (ByteArray × Int))))) × ((List (ByteArray × (ByteArray × (Int × (Int × (List (Int × (Int × (ByteArray × Bool))))))))) × (Bool × (((List (ByteArray × ((List ByteArray) × (Bool × (Int × (Int × (List (Int × ((Int × (Int × (ByteArray × Bool))) × (ByteArray × ByteArray)))))))))) × (Int × Int)) × ((Int × ((List (Int × Int)) × ((List (ByteArray × (ByteArray × (ByteArray × (Int × (Int × (List (Int × (Int × (ByteArray × Bool)))))))))) × (Int × ((Int × (Int × Int)) × Bool))))) × Unit)))))) := fun (s7_58, s10_59, s13_60, s14_61, v1033_62, v1036_63, ()) =>
 (.cond (decide (s14_61 < (↑(List.length (Prod.fst v1033_62)) : Int)))
 (.cond (decide (0 ≤ s14_61) && decide (s14_61 < (↑(List.length (Prod.fst v1033_62)) : Int)))
 (.cond (Prod.fst (Prod.snd (Prod.snd (List.getD (Prod.fst v1033_62) (Int.toNat s14_61) (ByteArray.empty, [], false, 0, 0, [])))))
 (.cond (s13_60)
 (.ret (.inl (s7_58, s10_59, true, IntKind.wrap IntKind.i64 (s14_61 + 1), v1033_62, v1036_63, ())))
 (.cond (decide (0 ≤ 1) && decide (1 < (↑(List.length s10_59) : Int)))
 (.opt (fitsG (s7_58, v1033_62, v1036_63, s14_61, List.getD s10_59 (Int.toNat 1) (ByteArray.empty, ByteArray.empty, 0, 0, []), ())) fun y64 =>
 (.ret (.inl (s7_58, s10_59, Prod.fst y64, IntKind.wrap IntKind.i64 (s14_61 + 1), v1033_62, v1036_63, ()))))
 (.no)))
 (.ret (.inr (s7_58, s10_59, s13_60, v1033_62, v1036_63, ()))))
 (.no))
 (.ret (.inr (s7_58, s10_59, s13_60, v1033_62, v1036_63, ()))))
noncomputable def guardBlocks_w0 : ((Option (List (ByteArray × (List (ByteArray × Int))))) × ((List (ByteArray × (ByteArray × (Int × (Int × (List (Int × (Int × (ByteArray × Bool))))))))) × (Bool × (Int × (((List (ByteArray × ((List ByteArray) × (Bool × (Int × (Int × (List (Int × ((Int × (Int × (ByteArray × Bool))) × (ByteArray × ByteArray)))))))))) × (Int × Int)) × ((Int × ((List (Int × Int)) × ((List (ByteArray × (ByteArray × (ByteArray × (Int × (Int × (List (Int × (Int × (ByteArray × Bool)))))))))) × (Int × ((Int × (Int × Int)) × Bool))))) × Unit)))))) → Option ((Option (List (ByteArray × (List (ByteArray × Int))))) × ((List (ByteArray × (ByteArray × (Int × (Int × (List (Int × (Int × (ByteArray × Bool))))))))) × (Bool × (((List (ByteArray × ((List ByteArray) × (Bool × (Int × (Int × (List (Int × ((Int × (Int × (ByteArray × Bool))) × (ByteArray × ByteArray)))))))))) × (Int × Int)) × ((Int × ((List (Int × Int)) × ((List (ByteArray × (ByteArray × (ByteArray × (Int × (Int × (List (Int × (Int × (ByteArray × Bool)))))))))) × (Int × ((Int × (Int × Int)) × Bool))))) × Unit))))) := iterO fun x => (guardBlocks_l0 x).run
noncomputable def guardBlocks_B : ((List Int) × ((List (ByteArray × (ByteArray × (Int × (Int × (List (Int × (Int × (ByteArray × Bool))))))))) × (Int × Unit))) → Br (Bool × Unit) := fun (p0, p1, p2, ()) =>
 (.opt (typesR ()) fun y52 =>
 (.opt (newS (Prod.fst y52, ())) fun y53 =>
 (.opt (queryQ (p0, ())) fun y54 =>
 (.opt (eventsR (p1, 5, ())) fun y55 =>
 (.cond (decide ((↑(List.length (Prod.fst y55)) : Int) < 2))
 (.opt (awake23 ()) fun y56 =>
 (.ret (Prod.fst y56, ())))
 (.cond (decide ((↑(List.length (Prod.fst (Prod.fst y54))) : Int) = 0))
 (.no)
 (.cond (decide (0 ≤ 0) && decide (0 < (↑(List.length (Prod.fst y55)) : Int)))
 (.opt (runWith ((0, [], [], 0, (0, 0, 0), false), Prod.fst y54, 1, Int.tmod (IntKind.wrap IntKind.i64 (↑(BitVec.toNat (BitVec.ofInt (IntKind.bits IntKind.i64) p2 &&& BitVec.ofInt (IntKind.bits IntKind.i64) 255)) : Int)) (↑(List.length (Prod.fst (Prod.fst y54))) : Int), List.getD (Prod.fst y55) (Int.toNat 0) (ByteArray.empty, ByteArray.empty, 0, 0, []), ())) fun y57 =>
 (.opt (guardBlocks_w0 (Prod.fst (Prod.fst y53), Prod.fst y55, false, IntKind.wrap IntKind.i64 (Int.tmod (IntKind.wrap IntKind.i64 (↑(BitVec.toNat (BitVec.ofInt (IntKind.bits IntKind.i64) p2 &&& BitVec.ofInt (IntKind.bits IntKind.i64) 255)) : Int)) (↑(List.length (Prod.fst (Prod.fst y54))) : Int) + 1), Prod.fst y54, Prod.fst y57, ())) fun z66 =>
 (.opt (awake23 ()) fun y67 =>
 (.cond (Prod.fst y67)
 (.cond (decide (0 ≤ 1) && decide (1 < (↑(List.length (Prod.fst (Prod.snd z66))) : Int)))
 (.opt (blocksG (Prod.fst z66, Prod.fst (Prod.snd (Prod.snd (Prod.snd z66))), Prod.fst (Prod.snd (Prod.snd (Prod.snd (Prod.snd z66)))), List.getD (Prod.fst (Prod.snd z66)) (Int.toNat 1) (ByteArray.empty, ByteArray.empty, 0, 0, []), ())) fun y68 =>
 (.cond (Prod.fst y68 == Prod.fst (Prod.snd (Prod.snd z66)))
 (.cond (decide (0 ≤ 1) && decide (1 < (↑(List.length (Prod.fst (Prod.snd z66))) : Int)))
 (.opt (blocksG (Prod.fst z66, Prod.fst (Prod.snd (Prod.snd (Prod.snd z66))), (0, [], [], 0, (0, 0, 0), false), List.getD (Prod.fst (Prod.snd z66)) (Int.toNat 1) (ByteArray.empty, ByteArray.empty, 0, 0, []), ())) fun y69 =>
 (.ret (!Prod.fst y69, ())))
 (.no))
 (.ret (false, ()))))
 (.no))
 (.ret (false, ()))))))
 (.no))))))))
noncomputable def guardBlocks : ((List Int) × ((List (ByteArray × (ByteArray × (Int × (Int × (List (Int × (Int × (ByteArray × Bool))))))))) × (Int × Unit))) → Option (Bool × Unit) := fun x => (guardBlocks_B x).run
abbrev guardBlocks_ins : List (Bool × Pat) := [(false, .ty true (.sl (.int .i64))), (false, .ty true (.sl (.st (.pair .str (.pair .str (.pair (.int .i64) (.pair (.int .i64) (.sl (.st (.pair (.int .i64) (.pair (.int .i64) (.pair .str .bool)))))))))))), (false, .ty false (.int .i64))]
abbrev guardBlocks_outs : List Pat := [.ty false .bool]
noncomputable abbrev guardBlocks_f : Func := Try.f11
noncomputable abbrev guardBlocks_P : Program := Try.prog
abbrev guardBlocks_kp : List Nat := kpOf guardBlocks_ins
abbrev guardBlocks_kf : List Nat := kfOf guardBlocks_ins
noncomputable def guardBlocks_c : Ctx := { cx_awake23 with base := 1024 }
set_option maxRecDepth 100000 in
theorem guardBlocks_env : EnvFull guardBlocks_P guardBlocks_c := env_base (en_awake23) 1024
abbrev guardBlocks_H0 : List Hole := [.slot 7 false (.ptr (.st (.sl (.st (.pair .str (.sl (.st (.pair .str (.int .i64))))))))), .slot 10 false (.sl (.st (.pair .str (.pair .str (.pair (.int .i64) (.pair (.int .i64) (.sl (.st (.pair (.int .i64) (.pair (.int .i64) (.pair .str .bool))))))))))), .slot 13 false .bool, .slot 14 false (.int .i64), .tv 1033 false (.st (.pair (.sl (.st (.pair .str (.pair (.sl .str) (.pair .bool (.pair (.int .i64) (.pair (.int .i64) (.sl (.st (.pair (.int .i64) (.pair (.st (.pair (.int .i64) (.pair (.int .i64) (.pair .str .bool)))) (.pair .str .str)))))))))))) (.pair (.int .i64) (.int .i64)))), .tv 1036 false (.st (.pair (.int .i64) (.pair (.chain (.st (.pair (.int .i64) (.int .i64)))) (.pair (.chain (.st (.pair .str (.st (.pair .str (.pair .str (.pair (.int .i64) (.pair (.int .i64) (.sl (.st (.pair (.int .i64) (.pair (.int .i64) (.pair .str .bool))))))))))))) (.pair (.int .i64) (.pair (.st (.pair (.int .i64) (.pair (.int .i64) (.int .i64)))) .bool))))))]
def guardBlocks_S0 : Skel := ⟨91, [(9, D.c (C.ref 1033 0 0)), (12, D.c (C.ref 1036 0 0))], [(1033, []), (1036, [])]⟩
abbrev guardBlocks_H0e0 : List Hole := [.slot 7 false (.ptr (.st (.sl (.st (.pair .str (.sl (.st (.pair .str (.int .i64))))))))), .slot 10 false (.sl (.st (.pair .str (.pair .str (.pair (.int .i64) (.pair (.int .i64) (.sl (.st (.pair (.int .i64) (.pair (.int .i64) (.pair .str .bool))))))))))), .slot 13 false .bool, .tv 1033 false (.st (.pair (.sl (.st (.pair .str (.pair (.sl .str) (.pair .bool (.pair (.int .i64) (.pair (.int .i64) (.sl (.st (.pair (.int .i64) (.pair (.st (.pair (.int .i64) (.pair (.int .i64) (.pair .str .bool)))) (.pair .str .str)))))))))))) (.pair (.int .i64) (.int .i64)))), .tv 1036 false (.st (.pair (.int .i64) (.pair (.chain (.st (.pair (.int .i64) (.int .i64)))) (.pair (.chain (.st (.pair .str (.st (.pair .str (.pair .str (.pair (.int .i64) (.pair (.int .i64) (.sl (.st (.pair (.int .i64) (.pair (.int .i64) (.pair .str .bool))))))))))))) (.pair (.int .i64) (.pair (.st (.pair (.int .i64) (.pair (.int .i64) (.int .i64)))) .bool))))))]
def guardBlocks_S0e0 : Skel := ⟨91, [(9, D.c (C.ref 1033 0 0)), (12, D.c (C.ref 1036 0 0))], [(1033, []), (1036, [])]⟩
def guardBlocks_h0 : Exit → Shape
  | .normal => ⟨[(7, .as false (.ptr (.st (.sl (.st (.pair .str (.sl (.st (.pair .str (.int .i64)))))))))), (9, .keep), (10, .as false (.sl (.st (.pair .str (.pair .str (.pair (.int .i64) (.pair (.int .i64) (.sl (.st (.pair (.int .i64) (.pair (.int .i64) (.pair .str .bool)))))))))))), (12, .keep), (13, .as false .bool), (14, .as false (.int .i64))], [], [(9, false), (12, false)]⟩
  | .exit 0 => ⟨[(7, .as false (.ptr (.st (.sl (.st (.pair .str (.sl (.st (.pair .str (.int .i64)))))))))), (9, .keep), (10, .as false (.sl (.st (.pair .str (.pair .str (.pair (.int .i64) (.pair (.int .i64) (.sl (.st (.pair (.int .i64) (.pair (.int .i64) (.pair .str .bool)))))))))))), (12, .keep), (13, .as false .bool)], [], [(9, false), (12, false)]⟩
  | _ => ⟨[], [], []⟩
def guardBlocks_e0 : ((Option (List (ByteArray × (List (ByteArray × Int))))) × ((List (ByteArray × (ByteArray × (Int × (Int × (List (Int × (Int × (ByteArray × Bool))))))))) × (Bool × (((List (ByteArray × ((List ByteArray) × (Bool × (Int × (Int × (List (Int × ((Int × (Int × (ByteArray × Bool))) × (ByteArray × ByteArray)))))))))) × (Int × Int)) × ((Int × ((List (Int × Int)) × ((List (ByteArray × (ByteArray × (ByteArray × (Int × (Int × (List (Int × (Int × (ByteArray × Bool)))))))))) × (Int × ((Int × (Int × Int)) × Bool))))) × Unit))))) → Exit × St
  | u => (.exit 0, guardBlocks_S0e0.fillK guardBlocks_kf guardBlocks_H0e0 u)
def guardBlocks_t0 : ((Option (List (ByteArray × (List (ByteArray × Int))))) × ((List (ByteArray × (ByteArray × (Int × (Int × (List (Int × (Int × (ByteArray × Bool))))))))) × (Bool × (((List (ByteArray × ((List ByteArray) × (Bool × (Int × (Int × (List (Int × ((Int × (Int × (ByteArray × Bool))) × (ByteArray × ByteArray)))))))))) × (Int × Int)) × ((Int × ((List (Int × Int)) × ((List (ByteArray × (ByteArray × (ByteArray × (Int × (Int × (List (Int × (Int × (ByteArray × Bool)))))))))) × (Int × ((Int × (Int × Int)) × Bool))))) × Unit))))) → Br (Exit × St) := fun u => .ret (.exit 0, guardBlocks_S0e0.fillK guardBlocks_kf guardBlocks_H0e0 u)
noncomputable def guardBlocks_C0 : Code := loopAt 0 (bodyOf guardBlocks_f)
noncomputable def guardBlocks_o0 : St → Br (Exit × St) := loopF guardBlocks_kp guardBlocks_kf 1024 (guardBlocks_h0 .normal) (guardBlocks_S0.parseK guardBlocks_kf guardBlocks_H0) fun x => .opt (guardBlocks_w0 x) guardBlocks_t0
noncomputable def guardBlocks_p : Par := { sh := fun _ => none, k := 0, lo := fun i => bif Nat.beq i 10 then some guardBlocks_o0 else none }
set_option maxRecDepth 100000 in
theorem guardBlocks_r0 (s7_58 : (Option (List (ByteArray × (List (ByteArray × Int)))))) (s10_59 : (List (ByteArray × (ByteArray × (Int × (Int × (List (Int × (Int × (ByteArray × Bool)))))))))) (s13_60 : Bool) (s14_61 : Int) (v1033_62 : ((List (ByteArray × ((List ByteArray) × (Bool × (Int × (Int × (List (Int × ((Int × (Int × (ByteArray × Bool))) × (ByteArray × ByteArray)))))))))) × (Int × Int))) (v1036_63 : (Int × ((List (Int × Int)) × ((List (ByteArray × (ByteArray × (ByteArray × (Int × (Int × (List (Int × (Int × (ByteArray × Bool)))))))))) × (Int × ((Int × (Int × Int)) × Bool)))))) : roundF guardBlocks_kp guardBlocks_kf guardBlocks_c guardBlocks_p guardBlocks_h0 guardBlocks_C0 (guardBlocks_S0.fillK guardBlocks_kf guardBlocks_H0 (s7_58, s10_59, s13_60, s14_61, v1033_62, v1036_63, ())) = (guardBlocks_l0 (s7_58, s10_59, s13_60, s14_61, v1033_62, v1036_63, ())).bind (loopLeaf (fun x => guardBlocks_S0.fillK guardBlocks_kf guardBlocks_H0 x) guardBlocks_e0) := by kernel_rfl
set_option maxRecDepth 100000 in
theorem guardBlocks_ok0 (g : Cfg) (hg : ∀ n, Go.PI.look n g.m0 ≠ Option.none → n ∈ guardBlocks_kp) : LoopOk guardBlocks_P g guardBlocks_o0 guardBlocks_C0 := LoopOk.auto guardBlocks_env hg guardBlocks_p (LoOk.of (l := []) (by kernel_rfl) .nil) guardBlocks_h0 (fun x => guardBlocks_S0.fillK guardBlocks_kf guardBlocks_H0 x) (fun s x h => Skel.parseK_ok s x h) guardBlocks_l0 guardBlocks_e0 (fun _ h => by cases h) guardBlocks_t0 (fun _ => rfl) (fun (s7_58, s10_59, s13_60, s14_61, v1033_62, v1036_63, ()) => guardBlocks_r0 s7_58 s10_59 s13_60 s14_61 v1033_62 v1036_63)
set_option maxRecDepth 100000 in
theorem guardBlocks_eq (p0 : (List Int)) (p1 : (List (ByteArray × (ByteArray × (Int × (Int × (List (Int × (Int × (ByteArray × Bool)))))))))) (p2 : Int) : ocRun guardBlocks_c guardBlocks_p guardBlocks_f guardBlocks_ins guardBlocks_outs (p0, p1, p2, ()) = guardBlocks_B (p0, p1, p2, ()) := by kernel_rfl
set_option maxRecDepth 100000 in
theorem guardBlocks_oc : OC guardBlocks_P 11 guardBlocks_ins guardBlocks_outs guardBlocks := OC.of_tree guardBlocks_env Try.func11 (by kernel_rfl) (by kernel_rfl) (p := guardBlocks_p) (fun g hg => LoOk.of (l := [guardBlocks_C0]) (by kernel_rfl) (.cons (guardBlocks_ok0 g hg) (by kernel_rfl) .nil)) (fun (p0, p1, p2, ()) => guardBlocks_eq p0 p1 p2)
noncomputable def cx_guardBlocks : Ctx := addO cx_awake23 11 (ocOrc guardBlocks_ins guardBlocks_outs guardBlocks)
theorem en_guardBlocks : EnvFull Try.prog cx_guardBlocks := env_add (en_awake23) guardBlocks_oc.callOk
end Go.Proofs.Ytnhiplibodkciaa
