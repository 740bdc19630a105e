/- Contracts of functions. Printed by auto.py. -/
import Derived.Test.YtnhiplibodkciaaAbA
import Derived.Test.YtnhiplibodkciaaEx
namespace Go.Proofs.Ytnhiplibodkciaa
open Go.PI Go
noncomputable def compareS_B : (ByteArray × (ByteArray × Unit)) → Br (Int × Unit) := fun (p0, p1, ()) =>
 (.opt (cmpStr (p0, p1, ())) fun y3 =>
 (.ret (y3.1, ())))
noncomputable def compareS : (ByteArray × (ByteArray × Unit)) → Option (Int × Unit) := fun x => (compareS_B x).run
abbrev compareS_ins : List (Bool × Pat) := [(false, .ty false .str), (false, .ty false .str)]
abbrev compareS_outs : List Pat := [.ty false (.int .i64)]
noncomputable abbrev compareS_f : Func := Try.f159
noncomputable abbrev compareS_P : Program := Try.prog
abbrev compareS_kp : List Nat := kpOf compareS_ins
abbrev compareS_kf : List Nat := kfOf compareS_ins
noncomputable def compareS_c : Ctx := { cx_cmpStr with base := 1024 }
set_option maxRecDepth 100000 in
theorem compareS_env : EnvFull compareS_P compareS_c := env_base (en_cmpStr) 1024
noncomputable def compareS_p : Par := { sh := fun _ => none, k := 0, lo := fun _ => none }
set_option maxRecDepth 100000 in
theorem compareS_eq (p0 : ByteArray) (p1 : ByteArray) : ocRun compareS_c compareS_p compareS_f compareS_ins compareS_outs (p0, p1, ()) = compareS_B (p0, p1, ()) := by kernel_rfl
set_option maxRecDepth 100000 in
theorem compareS_oc : OC compareS_P 159 compareS_ins compareS_outs compareS := OC.of_tree compareS_env Try.func159 (by kernel_rfl) (by kernel_rfl) (p := compareS_p) (fun g hg => LoOk.of (l := []) (by kernel_rfl) .nil) (fun (p0, p1, ()) => compareS_eq p0 p1)
noncomputable def cx_compareS : Ctx := addO cx_cmpStr 159 (ocOrc compareS_ins compareS_outs compareS)
theorem en_compareS : EnvFull Try.prog cx_compareS := env_add (en_cmpStr) compareS_oc.callOk
noncomputable def compareV_B : (zA8 × (zA8 × Unit)) → Br ((Int × Bool) × Unit) := fun (p0, p1, ()) =>
 (.cond (p0.1 != p1.1)
 (.ret ((0, false), ()))
 (.cond (p0.1 == 1)
 (.opt (bitV (decide (p0.2.1 > p1.2.1), ())) fun y8 =>
 (.opt (bitV (decide (p0.2.1 < p1.2.1), ())) fun y9 =>
 (.ret ((IntKind.wrap .i64 (y8.1 - y9.1), true), ()))))
 (.cond (p0.1 == 2)
 (.opt (compareS (p0.2.2.1, p1.2.2.1, ())) fun y10 =>
 (.opt (signV (y10.1, ())) fun y11 =>
 (.ret ((y11.1, true), ()))))
 (.cond (p0.1 == 3)
 (.opt (bitV (p0.2.2.2, ())) fun y12 =>
 (.opt (bitV (p1.2.2.2, ())) fun y13 =>
 (.ret ((IntKind.wrap .i64 (y12.1 - y13.1), true), ()))))
 (.ret ((0, false), ()))))))
noncomputable def compareV : (zA8 × (zA8 × Unit)) → Option ((Int × Bool) × Unit) := fun x => (compareV_B x).run
abbrev compareV_ins : List (Bool × Pat) := [(false, .ty false zA4), (false, .ty false zA4)]
abbrev compareV_outs : List Pat := [.ty false (.int .i64), .ty false .bool]
noncomputable abbrev compareV_f : Func := Try.f123
noncomputable abbrev compareV_P : Program := Try.prog
abbrev compareV_kp : List Nat := kpOf compareV_ins
abbrev compareV_kf : List Nat := kfOf compareV_ins
noncomputable def compareV_c : Ctx := { cx_compareS with base := 1024 }
set_option maxRecDepth 100000 in
theorem compareV_env : EnvFull compareV_P compareV_c := env_base (en_compareS) 1024
noncomputable def compareV_p : Par := { sh := fun _ => none, k := 0, lo := fun _ => none }
set_option maxRecDepth 100000 in
theorem compareV_eq (p0 : zA8) (p1 : zA8) : ocRun compareV_c compareV_p compareV_f compareV_ins compareV_outs (p0, p1, ()) = compareV_B (p0, p1, ()) := by kernel_rfl
set_option maxRecDepth 100000 in
theorem compareV_oc : OC compareV_P 123 compareV_ins compareV_outs compareV := OC.of_tree compareV_env Try.func123 (by kernel_rfl) (by kernel_rfl) (p := compareV_p) (fun g hg => LoOk.of (l := []) (by kernel_rfl) .nil) (fun (p0, p1, ()) => compareV_eq p0 p1)
noncomputable def cx_compareV : Ctx := addO cx_compareS 123 (ocOrc compareV_ins compareV_outs compareV)
theorem en_compareV : EnvFull Try.prog cx_compareV := env_add (en_compareS) compareV_oc.callOk
noncomputable def applyE_B : (Int × ((List zA8) × Unit)) → Br ((zA8 × Bool) × Unit) := fun (p0, p1, ()) =>
 (.cond (decide (p0 ≤ 6))
 (.opt (numbersE (p0, p1, ())) fun y7 =>
 (.ret ((y7.1.1, y7.1.2), ())))
 (.cond (decide (p0 ≤ 12))
 (.cond (decide (0 ≤ 0) && decide (0 < (↑(List.length p1) : Int)))
 (.cond (decide (0 ≤ 1) && decide (1 < (↑(List.length p1) : Int)))
 (.opt (compareV (List.getD p1 (Int.toNat 0) (0, 0, ByteArray.empty, false), List.getD p1 (Int.toNat 1) (0, 0, ByteArray.empty, false), ())) fun y8 =>
 (.cond (!y8.1.2)
 (.ret (((0, 0, ByteArray.empty, false), false), ()))
 (.opt (holdsE (p0, y8.1.1, ())) fun y9 =>
 (.opt (truthV (y9.1, ())) fun y10 =>
 (.ret ((y10.1, true), ()))))))
 (.no))
 (.no))
 (.opt (truthsE (p0, p1, ())) fun y11 =>
 (.ret ((y11.1.1, y11.1.2), ())))))
noncomputable def applyE : (Int × ((List zA8) × Unit)) → Option ((zA8 × Bool) × Unit) := fun x => (applyE_B x).run
abbrev applyE_ins : List (Bool × Pat) := [(false, .ty false (.int .i64)), (false, .ty true (.sl zA4))]
abbrev applyE_outs : List Pat := [.ty false zA4, .ty false .bool]
noncomputable abbrev applyE_f : Func := Try.f79
noncomputable abbrev applyE_P : Program := Try.prog
abbrev applyE_kp : List Nat := kpOf applyE_ins
abbrev applyE_kf : List Nat := kfOf applyE_ins
noncomputable def applyE_c : Ctx := { cx_compareV with base := 1024 }
set_option maxRecDepth 100000 in
theorem applyE_env : EnvFull applyE_P applyE_c := env_base (en_compareV) 1024
noncomputable def applyE_p : Par := { sh := fun _ => none, k := 0, lo := fun _ => none }
set_option maxRecDepth 100000 in
theorem applyE_eq (p0 : Int) (p1 : (List zA8)) : ocRun applyE_c applyE_p applyE_f applyE_ins applyE_outs (p0, p1, ()) = applyE_B (p0, p1, ()) := by kernel_rfl
set_option maxRecDepth 100000 in
theorem applyE_oc : OC applyE_P 79 applyE_ins applyE_outs applyE := OC.of_tree applyE_env Try.func79 (by kernel_rfl) (by kernel_rfl) (p := applyE_p) (fun g hg => LoOk.of (l := []) (by kernel_rfl) .nil) (fun (p0, p1, ()) => applyE_eq p0 p1)
noncomputable def cx_applyE : Ctx := addO cx_compareV 79 (ocOrc applyE_ins applyE_outs applyE)
theorem en_applyE : EnvFull Try.prog cx_applyE := env_add (en_compareV) applyE_oc.callOk
noncomputable def evalE_l0 : zA34 → Br (zA34 ⊕ ((zA8 × Unit) ⊕ (zA8 × ((List zA8) × Unit)))) := fun (s0_53, s2_54, s18_55, s19_56, s20_57, v1030_58, r1724_59, ()) =>
 (.cond (decide (s20_57 < s19_56))
 (.cond (decide (0 ≤ s20_57) && decide (s20_57 < (↑(List.length s18_55) : Int)))
 (.opt (partsT (Prod.fst (List.getD s18_55 (Int.toNat s20_57) (0, (0, 0, ByteArray.empty, false), ByteArray.empty, ByteArray.empty)), ())) fun y60 =>
 (.cond (Prod.fst (List.getD s18_55 (Int.toNat s20_57) (0, (0, 0, ByteArray.empty, false), ByteArray.empty, ByteArray.empty)) == 1)
 (.cond (decide (0 ≤ 0) && decide (0 ≤ IntKind.wrap .i64 ((↑(List.length r1724_59) : Int) - y60.1)) && decide (IntKind.wrap .i64 ((↑(List.length r1724_59) : Int) - y60.1) ≤ (↑(List.length r1724_59) : Int)) && decide (IntKind.wrap .i64 ((↑(List.length r1724_59) : Int) - y60.1) = IntKind.wrap .i64 ((↑(List.length r1724_59) : Int) - y60.1)))
 (.cond (decide ((List.length (List.take (Int.toNat (IntKind.wrap .i64 ((↑(List.length r1724_59) : Int) - y60.1)) - Int.toNat 0) (List.drop (0 + Int.toNat 0) r1724_59)) + List.length (List.set (List.replicate 1 (0, 0, ByteArray.empty, false)) 0 (Prod.fst (Prod.snd (List.getD s18_55 (Int.toNat s20_57) (0, (0, 0, ByteArray.empty, false), ByteArray.empty, ByteArray.empty)))))) * 40 ≤ 140737488355328) && decide (0 < List.length (List.set (List.replicate 1 (0, 0, ByteArray.empty, false)) 0 (Prod.fst (Prod.snd (List.getD s18_55 (Int.toNat s20_57) (0, (0, 0, ByteArray.empty, false), ByteArray.empty, ByteArray.empty)))))))
 (.ret (.inl (s0_53, s2_54, s18_55, s19_56, IntKind.wrap .i64 (s20_57 + 1), v1030_58, List.take (Int.toNat (IntKind.wrap .i64 ((↑(List.length r1724_59) : Int) - y60.1)) - Int.toNat 0) (List.drop (0 + Int.toNat 0) r1724_59) ++ List.set (List.replicate 1 (0, 0, ByteArray.empty, false)) 0 (Prod.fst (Prod.snd (List.getD s18_55 (Int.toNat s20_57) (0, (0, 0, ByteArray.empty, false), ByteArray.empty, ByteArray.empty)))), ())))
 (.no))
 (.no))
 (.cond (Prod.fst (List.getD s18_55 (Int.toNat s20_57) (0, (0, 0, ByteArray.empty, false), ByteArray.empty, ByteArray.empty)) == 2)
 (.opt (fieldV (s0_53, s2_54, List.getD s18_55 (Int.toNat s20_57) (0, (0, 0, ByteArray.empty, false), ByteArray.empty, ByteArray.empty), ())) fun y61 =>
 (.cond (!y61.1.2)
 (.ret (.inr (.inl ((0, 0, ByteArray.empty, false), ()))))
 (.cond (decide (0 ≤ 0) && decide (0 ≤ IntKind.wrap .i64 ((↑(List.length r1724_59) : Int) - y60.1)) && decide (IntKind.wrap .i64 ((↑(List.length r1724_59) : Int) - y60.1) ≤ (↑(List.length r1724_59) : Int)) && decide (IntKind.wrap .i64 ((↑(List.length r1724_59) : Int) - y60.1) = IntKind.wrap .i64 ((↑(List.length r1724_59) : Int) - y60.1)))
 (.cond (decide ((List.length (List.take (Int.toNat (IntKind.wrap .i64 ((↑(List.length r1724_59) : Int) - y60.1)) - Int.toNat 0) (List.drop (0 + Int.toNat 0) r1724_59)) + List.length (List.set (List.replicate 1 (0, 0, ByteArray.empty, false)) 0 y61.1.1)) * 40 ≤ 140737488355328) && decide (0 < List.length (List.set (List.replicate 1 (0, 0, ByteArray.empty, false)) 0 y61.1.1)))
 (.ret (.inl (s0_53, s2_54, s18_55, s19_56, IntKind.wrap .i64 (s20_57 + 1), v1030_58, List.take (Int.toNat (IntKind.wrap .i64 ((↑(List.length r1724_59) : Int) - y60.1)) - Int.toNat 0) (List.drop (0 + Int.toNat 0) r1724_59) ++ List.set (List.replicate 1 (0, 0, ByteArray.empty, false)) 0 y61.1.1, ())))
 (.no))
 (.no))))
 (.cond (decide (0 ≤ IntKind.wrap .i64 ((↑(List.length r1724_59) : Int) - y60.1)) && decide (IntKind.wrap .i64 ((↑(List.length r1724_59) : Int) - y60.1) ≤ (↑(List.length r1724_59) : Int)) && decide ((↑(List.length r1724_59) : Int) ≤ (↑(List.length r1724_59) : Int)))
 (.opt (applyE (Prod.fst (List.getD s18_55 (Int.toNat s20_57) (0, (0, 0, ByteArray.empty, false), ByteArray.empty, ByteArray.empty)), List.take (Int.toNat (↑(List.length r1724_59) : Int) - Int.toNat (IntKind.wrap .i64 ((↑(List.length r1724_59) : Int) - y60.1))) (List.drop (0 + Int.toNat (IntKind.wrap .i64 ((↑(List.length r1724_59) : Int) - y60.1))) r1724_59), ())) fun y62 =>
 (.cond (!y62.1.2)
 (.ret (.inr (.inl ((0, 0, ByteArray.empty, false), ()))))
 (.cond (decide (0 ≤ 0) && decide (0 ≤ IntKind.wrap .i64 ((↑(List.length r1724_59) : Int) - y60.1)) && decide (IntKind.wrap .i64 ((↑(List.length r1724_59) : Int) - y60.1) ≤ (↑(List.length r1724_59) : Int)) && decide (IntKind.wrap .i64 ((↑(List.length r1724_59) : Int) - y60.1) = IntKind.wrap .i64 ((↑(List.length r1724_59) : Int) - y60.1)))
 (.cond (decide ((List.length (List.take (Int.toNat (IntKind.wrap .i64 ((↑(List.length r1724_59) : Int) - y60.1)) - Int.toNat 0) (List.drop (0 + Int.toNat 0) r1724_59)) + List.length (List.set (List.replicate 1 (0, 0, ByteArray.empty, false)) 0 y62.1.1)) * 40 ≤ 140737488355328) && decide (0 < List.length (List.set (List.replicate 1 (0, 0, ByteArray.empty, false)) 0 y62.1.1)))
 (.ret (.inl (s0_53, s2_54, s18_55, s19_56, IntKind.wrap .i64 (s20_57 + 1), v1030_58, List.take (Int.toNat (IntKind.wrap .i64 ((↑(List.length r1724_59) : Int) - y60.1)) - Int.toNat 0) (List.drop (0 + Int.toNat 0) r1724_59) ++ List.set (List.replicate 1 (0, 0, ByteArray.empty, false)) 0 y62.1.1, ())))
 (.no))
 (.no))))
 (.no)))))
 (.no))
 (.ret (.inr (.inr (v1030_58, r1724_59, ())))))
noncomputable def evalE_w0 : zA34 → Option ((zA8 × Unit) ⊕ (zA8 × ((List zA8) × Unit))) := iterO fun x => (evalE_l0 x).run
noncomputable def evalE_B : ((Option zA11) × ((List zA12) × (zA21 × Unit))) → Br ((zA8 × Bool) × Unit) := fun (p0, p1, p2, ()) =>
 (.opt (mayT (p1, ())) fun y52 =>
 (.cond (!y52.1)
 (.ret (((0, 0, ByteArray.empty, false), false), ()))
 (.opt (evalE_w0 (p0, p2, p1, (↑(List.length p1) : Int), 0, (0, 0, ByteArray.empty, false), [], ())) fun z64 =>
 (.sum z64 (fun u65 =>
 (.ret ((u65.1, false), ()))) (fun z66 =>
 (.cond (decide (0 ≤ 0) && decide (0 < (↑(List.length z66.2.1) : Int)))
 (.ret ((List.getD z66.2.1 (Int.toNat 0) (0, 0, ByteArray.empty, false), true), ()))
 (.no)))))))
noncomputable def evalE : ((Option zA11) × ((List zA12) × (zA21 × Unit))) → Option ((zA8 × Bool) × Unit) := fun x => (evalE_B x).run
abbrev evalE_ins : List (Bool × Pat) := [(false, .ty true zA17), (false, .ty true (.sl zA13)), (false, .ty true zA35)]
abbrev evalE_outs : List Pat := [.ty false zA4, .ty false .bool]
noncomputable abbrev evalE_f : Func := Try.f34
noncomputable abbrev evalE_P : Program := Try.prog
abbrev evalE_kp : List Nat := kpOf evalE_ins
abbrev evalE_kf : List Nat := kfOf evalE_ins
noncomputable def evalE_c : Ctx := { cx_applyE with base := 1024 }
set_option maxRecDepth 100000 in
theorem evalE_env : EnvFull evalE_P evalE_c := env_base (en_applyE) 1024
abbrev evalE_H0 : List Hole := [.slot 0 true zA17, .slot 2 true zA35, .slot 18 true (.sl zA13), .slot 19 false (.int .i64), .slot 20 false (.int .i64), .tv 1030 false zA4, .ar 1724 false 64 zA4]
def evalE_S0 : Skel := ⟨68, [(6, D.c (C.ref 1030 0 0)), (8, .c (.mfull 1724))], [(1030, []), (1724, [])]⟩
abbrev evalE_H0e0 : List Hole := [.tv 1030 false zA4]
def evalE_S0e0 : Skel := ⟨68, [(6, D.c (C.ref 1030 0 0)), (7, D.c C.ff)], [(1030, [])]⟩
abbrev evalE_H0e1 : List Hole := [.tv 1030 false zA4, .ar 1725 false 64 zA4]
def evalE_S0e1 : Skel := ⟨68, [(6, D.c (C.ref 1030 0 0)), (8, .c (.mfull 1725))], [(1030, []), (1725, [])]⟩
def evalE_h0 : Exit → Shape
  | .normal => ⟨[(0, .as true zA17), (2, .as true zA35), (6, .keep), (8, .row 700 false 64 zA4), (18, .as true (.sl zA13)), (19, .as false (.int .i64)), (20, .as false (.int .i64))], [], [(6, false), (700, false)]⟩
  | .ret => ⟨[(6, .keep), (7, .keep)], [], [(6, false)]⟩
  | .exit 0 => ⟨[(6, .keep), (8, .row 701 false 64 zA4)], [], [(6, false), (701, false)]⟩
  | _ => ⟨[], [], []⟩
def evalE_e0 : ((zA8 × Unit) ⊕ (zA8 × ((List zA8) × Unit))) → Exit × St
  | (.inl u) => (.ret, evalE_S0e0.fillK evalE_kf evalE_H0e0 u)
  | (.inr u) => (.exit 0, evalE_S0e1.fillK evalE_kf evalE_H0e1 u)
def evalE_t0 : ((zA8 × Unit) ⊕ (zA8 × ((List zA8) × Unit))) → Br (Exit × St) := fun z => .sum z (fun u => .ret (.ret, evalE_S0e0.fillK evalE_kf evalE_H0e0 u)) (fun u => .ret (.exit 0, evalE_S0e1.fillK evalE_kf evalE_H0e1 u))
noncomputable def evalE_C0 : Code := loopAt 0 (bodyOf evalE_f)
noncomputable def evalE_o0 : St → Br (Exit × St) := loopF evalE_kp evalE_kf 1024 (evalE_h0 .normal) (evalE_S0.parseK evalE_kf evalE_H0) fun x => .opt (evalE_w0 x) evalE_t0
noncomputable def evalE_p : Par := { sh := fun _ => none, k := 0, lo := fun i => bif Nat.beq i 5 then some evalE_o0 else none }
set_option maxRecDepth 100000 in
theorem evalE_r0 (s0_53 : (Option zA11)) (s2_54 : zA21) (s18_55 : (List zA12)) (s19_56 : Int) (s20_57 : Int) (v1030_58 : zA8) (r1724_59 : (List zA8)) : roundF evalE_kp evalE_kf evalE_c evalE_p evalE_h0 evalE_C0 (evalE_S0.fillK evalE_kf evalE_H0 (s0_53, s2_54, s18_55, s19_56, s20_57, v1030_58, r1724_59, ())) = (evalE_l0 (s0_53, s2_54, s18_55, s19_56, s20_57, v1030_58, r1724_59, ())).bind (loopLeaf (fun x => evalE_S0.fillK evalE_kf evalE_H0 x) evalE_e0) := by kernel_rfl
set_option maxRecDepth 100000 in
theorem evalE_ok0 (g : Cfg) (hg : ∀ n, Go.PI.look n g.m0 ≠ Option.none → n ∈ evalE_kp) : LoopOk evalE_P g evalE_o0 evalE_C0 := LoopOk.auto evalE_env hg evalE_p (LoOk.of (l := []) (by kernel_rfl) .nil) evalE_h0 (fun x => evalE_S0.fillK evalE_kf evalE_H0 x) (fun s x h => Skel.parseK_ok s x h) evalE_l0 evalE_e0 (fun z h => by rcases z with z | z <;> cases h) evalE_t0 (fun z => by rcases z with z | z <;> rfl) (fun (s0_53, s2_54, s18_55, s19_56, s20_57, v1030_58, r1724_59, ()) => evalE_r0 s0_53 s2_54 s18_55 s19_56 s20_57 v1030_58 r1724_59)
set_option maxRecDepth 100000 in
theorem evalE_eq (p0 : (Option zA11)) (p1 : (List zA12)) (p2 : zA21) : ocRun evalE_c evalE_p evalE_f evalE_ins evalE_outs (p0, p1, p2, ()) = evalE_B (p0, p1, p2, ()) := by kernel_rfl
set_option maxRecDepth 100000 in
theorem evalE_oc : OC evalE_P 34 evalE_ins evalE_outs evalE := OC.of_tree evalE_env Try.func34 (by kernel_rfl) (by kernel_rfl) (p := evalE_p) (fun g hg => LoOk.of (l := [evalE_C0]) (by kernel_rfl) (.cons (evalE_ok0 g hg) (by kernel_rfl) .nil)) (fun (p0, p1, p2, ()) => evalE_eq p0 p1 p2)
noncomputable def cx_evalE : Ctx := addO cx_applyE 34 (ocOrc evalE_ins evalE_outs evalE)
theorem en_evalE : EnvFull Try.prog cx_evalE := env_add (en_applyE) evalE_oc.callOk
noncomputable def holdsF_B : ((Option zA11) × ((List zA12) × (zA21 × Unit))) → Br (Bool × Unit) := fun (p0, p1, p2, ()) =>
 (.cond ((↑(List.length p1) : Int) == 0)
 (.ret (true, ()))
 (.opt (evalE (p0, p1, p2, ())) fun y5 =>
 (.cond y5.1.2
 (.opt (truthV (true, ())) fun y6 =>
 (.ret (decide (y5.1.1.1 = y6.1.1) && (decide (y5.1.1.2.1 = y6.1.2.1) && (bl y5.1.1.2.2.1 == bl y6.1.2.2.1 && y5.1.1.2.2.2 == y6.1.2.2.2)), ())))
 (.ret (false, ())))))
noncomputable def holdsF : ((Option zA11) × ((List zA12) × (zA21 × Unit))) → Option (Bool × Unit) := fun x => (holdsF_B x).run
abbrev holdsF_ins : List (Bool × Pat) := [(false, .ty true zA17), (false, .ty true (.sl zA13)), (false, .ty true zA35)]
abbrev holdsF_outs : List Pat := [.ty false .bool]
noncomputable abbrev holdsF_f : Func := Try.f36
noncomputable abbrev holdsF_P : Program := Try.prog
abbrev holdsF_kp : List Nat := kpOf holdsF_ins
abbrev holdsF_kf : List Nat := kfOf holdsF_ins
noncomputable def holdsF_c : Ctx := { cx_evalE with base := 1024 }
set_option maxRecDepth 100000 in
theorem holdsF_env : EnvFull holdsF_P holdsF_c := env_base (en_evalE) 1024
noncomputable def holdsF_p : Par := { sh := fun _ => none, k := 0, lo := fun _ => none }
set_option maxRecDepth 100000 in
theorem holdsF_eq (p0 : (Option zA11)) (p1 : (List zA12)) (p2 : zA21) : ocRun holdsF_c holdsF_p holdsF_f holdsF_ins holdsF_outs (p0, p1, p2, ()) = holdsF_B (p0, p1, p2, ()) := by kernel_rfl
set_option maxRecDepth 100000 in
theorem holdsF_oc : OC holdsF_P 36 holdsF_ins holdsF_outs holdsF := OC.of_tree holdsF_env Try.func36 (by kernel_rfl) (by kernel_rfl) (p := holdsF_p) (fun g hg => LoOk.of (l := []) (by kernel_rfl) .nil) (fun (p0, p1, p2, ()) => holdsF_eq p0 p1 p2)
noncomputable def cx_holdsF : Ctx := addO cx_evalE 36 (ocOrc holdsF_ins holdsF_outs holdsF)
theorem en_holdsF : EnvFull Try.prog cx_holdsF := env_add (en_evalE) holdsF_oc.callOk
end Go.Proofs.Ytnhiplibodkciaa
