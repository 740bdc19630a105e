/- Contracts of functions. Printed by auto.py. -/
import Derived.Test.YtnhiplibodkciaaAbA
import Derived.Test.YtnhiplibodkciaaS3a
namespace Go.Proofs.Ytnhiplibodkciaa
open Go.PI Go
noncomputable def at24_l0 : ((List zA2) × (Int × (Int × (Int × (Int × (Int × (Int × (Int × (Bool × (zA10 × (zA6 × ((Int × Int) × Unit)))))))))))) → Br (((List zA2) × (Int × (Int × (Int × (Int × (Int × (Int × (Int × (Bool × (zA10 × (zA6 × ((Int × Int) × Unit)))))))))))) ⊕ ((List zA2) × (Int × (Int × (Int × (Int × (Int × (Bool × (zA6 × ((Int × Int) × Unit)))))))))) := fun (s2_71, s10_72, s13_73, c1032_0_74, c1032_3_75, c1032_4_76, c1032_5_77, c1032_6_78, c1032_7_79, v1028_80, v1033_81, v1035_82, ()) =>
 (.cond (decide (s13_73 < v1035_82.2))
 (.cond (decide (s13_73 < (↑(List.length s2_71) : Int)))
 (.cond (decide (0 ≤ s13_73) && decide (s13_73 < (↑(List.length s2_71) : Int)))
 (.opt (runWith (v1033_81, v1028_80, s10_72, v1035_82.1, List.getD s2_71 (Int.toNat s13_73) (ByteArray.empty, ByteArray.empty, 0, 0, []), ())) fun y83 =>
 (.ret (.inl (s2_71, s10_72, IntKind.wrap .i64 (s13_73 + 1), c1032_0_74, c1032_3_75, c1032_4_76, c1032_5_77, c1032_6_78, c1032_7_79, v1028_80, y83.1, v1035_82, ()))))
 (.no))
 (.ret (.inr (s2_71, c1032_0_74, c1032_3_75, c1032_4_76, c1032_5_77, c1032_6_78, c1032_7_79, v1033_81, v1035_82, ()))))
 (.ret (.inr (s2_71, c1032_0_74, c1032_3_75, c1032_4_76, c1032_5_77, c1032_6_78, c1032_7_79, v1033_81, v1035_82, ()))))
noncomputable def at24_w0 : ((List zA2) × (Int × (Int × (Int × (Int × (Int × (Int × (Int × (Bool × (zA10 × (zA6 × ((Int × Int) × Unit)))))))))))) → Option ((List zA2) × (Int × (Int × (Int × (Int × (Int × (Bool × (zA6 × ((Int × Int) × Unit))))))))) := iterO fun x => (at24_l0 x).run
noncomputable def at24_B : (zA10 × (zA22 × ((List zA2) × (Int × Unit)))) → Br (zA6 × Unit) := fun (p0, p1, p2, p3, ()) =>
 (.opt (lenN (p1, ())) fun y69 =>
 (.cond (decide (y69.1 = 0))
 (.no)
 (.opt (atN (p1, Int.tmod (IntKind.wrap .i64 (↑(BitVec.toNat (BitVec.ofInt (IntKind.bits .i64) p3 &&& BitVec.ofInt (IntKind.bits .i64) 255)) : Int)) y69.1, ())) fun y70 =>
 (.opt (at24_w0 (p2, Int.tmod (IntKind.wrap .i64 (↑(BitVec.toNat (BitVec.ofInt (IntKind.bits .i64) p3 &&& BitVec.ofInt (IntKind.bits .i64) 255)) : Int)) y69.1, 0, 0, 0, 0, 0, 0, false, p0, (0, [], [], 0, (0, 0, 0), false), y70.1.1, ())) fun z85 =>
 (.cond (decide (z85.2.2.2.2.2.2.2.2.1.2 > (↑(List.length z85.1) : Int)))
 (.ret ((0, [], [], 0, (0, 0, 0), false), ()))
 (.ret (z85.2.2.2.2.2.2.2.1, ())))))))
noncomputable def at24 : (zA10 × (zA22 × ((List zA2) × (Int × Unit)))) → Option (zA6 × Unit) := fun x => (at24_B x).run
abbrev at24_ins : List (Bool × Pat) := [(false, .ty false zA5), (false, .ty false (.ptr (.st (.pair zA5 (.sl zA16))))), (false, .ty false (.sl zA9)), (false, .ty false (.int .i64))]
abbrev at24_outs : List Pat := [.ty false zA7]
noncomputable abbrev at24_f : Func := Try.f58
noncomputable abbrev at24_P : Program := Try.prog
abbrev at24_kp : List Nat := kpOf at24_ins
abbrev at24_kf : List Nat := kfOf at24_ins
noncomputable def at24_c : Ctx := { cx_awake24 with base := 1024 }
set_option maxRecDepth 100000 in
theorem at24_env : EnvFull at24_P at24_c := env_base (en_awake24) 1024
abbrev at24_H0 : List Hole := [.slot 2 false (.sl zA9), .slot 10 false (.int .i64), .slot 13 false (.int .i64), .cell 1032 0 false (.int .i64), .cell 1032 3 false (.int .i64), .cell 1032 4 false (.int .i64), .cell 1032 5 false (.int .i64), .cell 1032 6 false (.int .i64), .cell 1032 7 false .bool, .tv 1028 false zA5, .tv 1033 false zA7, .tv 1035 false zA16]
def at24_S0 : Skel := ⟨55, [(4, D.c (C.ref 1028 0 0)), (8, D.c (C.ref 1032 0 0)), (9, D.c (C.ref 1033 0 0)), (11, D.c (C.ref 1035 0 0))], [(1028, []), (1032, [.bad, C.nilp, C.nilp, .bad, .bad, .bad, .bad, .bad]), (1033, []), (1035, [])]⟩
abbrev at24_H0e0 : List Hole := [.slot 2 false (.sl zA9), .cell 1032 0 false (.int .i64), .cell 1032 3 false (.int .i64), .cell 1032 4 false (.int .i64), .cell 1032 5 false (.int .i64), .cell 1032 6 false (.int .i64), .cell 1032 7 false .bool, .tv 1033 false zA7, .tv 1035 false zA16]
def at24_S0e0 : Skel := ⟨55, [(8, D.c (C.ref 1032 0 0)), (9, D.c (C.ref 1033 0 0)), (11, D.c (C.ref 1035 0 0))], [(1032, [.bad, C.nilp, C.nilp, .bad, .bad, .bad, .bad, .bad]), (1033, []), (1035, [])]⟩
def at24_h0 : Exit → Shape
  | .normal => ⟨[(2, .as false (.sl zA9)), (4, .keep), (8, .keep), (9, .keep), (10, .as false (.int .i64)), (11, .keep), (13, .as false (.int .i64))], [(8, 0, .as false (.int .i64)), (8, 3, .as false (.int .i64)), (8, 4, .as false (.int .i64)), (8, 5, .as false (.int .i64)), (8, 6, .as false (.int .i64)), (8, 7, .as false .bool), (9, 0, .var zA7)], [(4, false), (8, false), (9, false), (11, false)]⟩
  | .exit 0 => ⟨[(2, .as false (.sl zA9)), (8, .keep), (9, .keep), (11, .keep)], [(8, 0, .as false (.int .i64)), (8, 3, .as false (.int .i64)), (8, 4, .as false (.int .i64)), (8, 5, .as false (.int .i64)), (8, 6, .as false (.int .i64)), (8, 7, .as false .bool), (9, 0, .var zA7)], [(8, false), (9, false), (11, false)]⟩
  | _ => ⟨[], [], []⟩
def at24_e0 : ((List zA2) × (Int × (Int × (Int × (Int × (Int × (Bool × (zA6 × ((Int × Int) × Unit))))))))) → Exit × St
  | u => (.exit 0, at24_S0e0.fillK at24_kf at24_H0e0 u)
def at24_t0 : ((List zA2) × (Int × (Int × (Int × (Int × (Int × (Bool × (zA6 × ((Int × Int) × Unit))))))))) → Br (Exit × St) := fun u => .ret (.exit 0, at24_S0e0.fillK at24_kf at24_H0e0 u)
noncomputable def at24_C0 : Code := loopAt 0 (bodyOf at24_f)
noncomputable def at24_o0 : St → Br (Exit × St) := loopF at24_kp at24_kf 1024 (at24_h0 .normal) (at24_S0.parseK at24_kf at24_H0) fun x => .opt (at24_w0 x) at24_t0
noncomputable def at24_p : Par := { sh := fun _ => none, k := 0, lo := fun i => bif Nat.beq i 5 then some at24_o0 else none }
set_option maxRecDepth 100000 in
theorem at24_r0 (s2_71 : (List zA2)) (s10_72 : Int) (s13_73 : Int) (c1032_0_74 : Int) (c1032_3_75 : Int) (c1032_4_76 : Int) (c1032_5_77 : Int) (c1032_6_78 : Int) (c1032_7_79 : Bool) (v1028_80 : zA10) (v1033_81 : zA6) (v1035_82 : (Int × Int)) : roundF at24_kp at24_kf at24_c at24_p at24_h0 at24_C0 (at24_S0.fillK at24_kf at24_H0 (s2_71, s10_72, s13_73, c1032_0_74, c1032_3_75, c1032_4_76, c1032_5_77, c1032_6_78, c1032_7_79, v1028_80, v1033_81, v1035_82, ())) = (at24_l0 (s2_71, s10_72, s13_73, c1032_0_74, c1032_3_75, c1032_4_76, c1032_5_77, c1032_6_78, c1032_7_79, v1028_80, v1033_81, v1035_82, ())).bind (loopLeaf (fun x => at24_S0.fillK at24_kf at24_H0 x) at24_e0) := by kernel_rfl
set_option maxRecDepth 100000 in
theorem at24_ok0 (g : Cfg) (hg : ∀ n, Go.PI.look n g.m0 ≠ Option.none → n ∈ at24_kp) : LoopOk at24_P g at24_o0 at24_C0 := LoopOk.auto at24_env hg at24_p (LoOk.of (l := []) (by kernel_rfl) .nil) at24_h0 (fun x => at24_S0.fillK at24_kf at24_H0 x) (fun s x h => Skel.parseK_ok s x h) at24_l0 at24_e0 (fun _ h => by cases h) at24_t0 (fun _ => rfl) (fun (s2_71, s10_72, s13_73, c1032_0_74, c1032_3_75, c1032_4_76, c1032_5_77, c1032_6_78, c1032_7_79, v1028_80, v1033_81, v1035_82, ()) => at24_r0 s2_71 s10_72 s13_73 c1032_0_74 c1032_3_75 c1032_4_76 c1032_5_77 c1032_6_78 c1032_7_79 v1028_80 v1033_81 v1035_82)
set_option maxRecDepth 100000 in
theorem at24_eq (p0 : zA10) (p1 : zA22) (p2 : (List zA2)) (p3 : Int) : ocRun at24_c at24_p at24_f at24_ins at24_outs (p0, p1, p2, p3, ()) = at24_B (p0, p1, p2, p3, ()) := by kernel_rfl
set_option maxRecDepth 100000 in
theorem at24_oc : OC at24_P 58 at24_ins at24_outs at24 := OC.of_tree at24_env Try.func58 (by kernel_rfl) (by kernel_rfl) (p := at24_p) (fun g hg => LoOk.of (l := [at24_C0]) (by kernel_rfl) (.cons (at24_ok0 g hg) (by kernel_rfl) .nil)) (fun (p0, p1, p2, p3, ()) => at24_eq p0 p1 p2 p3)
noncomputable def cx_at24 : Ctx := addO cx_awake24 58 (ocOrc at24_ins at24_outs at24)
theorem en_at24 : EnvFull Try.prog cx_at24 := env_add (en_awake24) at24_oc.callOk
noncomputable def stepMore_l0 : ((Option zA11) × (zA22 × (zA15 × ((List Int) × (Int × (zA10 × (zA6 × (zA2 × ((List zA6) × Unit))))))))) → Br (((Option zA11) × (zA22 × (zA15 × ((List Int) × (Int × (zA10 × (zA6 × (zA2 × ((List zA6) × Unit))))))))) ⊕ (zA15 × (zA10 × (zA6 × (zA2 × ((List zA6) × Unit)))))) := fun (s7_272, s10_273, s11_274, s16_275, s17_276, v1033_277, v1037_278, v1038_279, r1724_280, ()) =>
 (.cond (decide (s17_276 < (↑(List.length s16_275) : Int)))
 (.cond (decide (0 ≤ s17_276) && decide (s17_276 < (↑(List.length s16_275) : Int)))
 (.opt (atN (s10_273, List.getD s16_275 (Int.toNat s17_276) 0, ())) fun y281 =>
 (.opt (fitsG (s7_272, v1033_277, v1037_278, y281.1.1.1, v1038_279, ())) fun y282 =>
 (.cond y282.1
 (.opt (runBlkd (v1037_278, ())) fun y283 =>
 (.cond (!y283.1)
 (.cond (decide (0 ≤ s17_276) && decide (s17_276 < (↑(List.length s16_275) : Int)))
 (.opt (runWith (v1037_278, v1033_277, List.getD s16_275 (Int.toNat s17_276) 0, y281.1.1.1, v1038_279, ())) fun y285 =>
 (.cond (decide ((List.length r1724_280 + List.length (List.set (List.replicate 1 (0, [], [], 0, (0, 0, 0), false)) 0 y285.1)) * 64 ≤ 140737488355328))
 (.ret (.inl (s7_272, s10_273, s11_274, s16_275, IntKind.wrap .i64 (s17_276 + 1), v1033_277, v1037_278, v1038_279, r1724_280 ++ List.set (List.replicate 1 (0, [], [], 0, (0, 0, 0), false)) 0 y285.1, ())))
 (.no)))
 (.no))
 (.opt (runElem (v1037_278, ())) fun y284 =>
 (.cond (y281.1.1.1 == y284.1)
 (.cond (decide (0 ≤ s17_276) && decide (s17_276 < (↑(List.length s16_275) : Int)))
 (.opt (runWith (v1037_278, v1033_277, List.getD s16_275 (Int.toNat s17_276) 0, y281.1.1.1, v1038_279, ())) fun y286 =>
 (.cond (decide ((List.length r1724_280 + List.length (List.set (List.replicate 1 (0, [], [], 0, (0, 0, 0), false)) 0 y286.1)) * 64 ≤ 140737488355328))
 (.ret (.inl (s7_272, s10_273, s11_274, s16_275, IntKind.wrap .i64 (s17_276 + 1), v1033_277, v1037_278, v1038_279, r1724_280 ++ List.set (List.replicate 1 (0, [], [], 0, (0, 0, 0), false)) 0 y286.1, ())))
 (.no)))
 (.no))
 (.ret (.inl (s7_272, s10_273, s11_274, s16_275, IntKind.wrap .i64 (s17_276 + 1), v1033_277, v1037_278, v1038_279, r1724_280, ())))))))
 (.ret (.inl (s7_272, s10_273, s11_274, s16_275, IntKind.wrap .i64 (s17_276 + 1), v1033_277, v1037_278, v1038_279, r1724_280, ()))))))
 (.no))
 (.ret (.inr (s11_274, v1033_277, v1037_278, v1038_279, r1724_280, ()))))
noncomputable def stepMore_w0 : ((Option zA11) × (zA22 × (zA15 × ((List Int) × (Int × (zA10 × (zA6 × (zA2 × ((List zA6) × Unit))))))))) → Option (zA15 × (zA10 × (zA6 × (zA2 × ((List zA6) × Unit))))) := iterO fun x => (stepMore_l0 x).run
noncomputable def stepMore_l1 : (zA15 × ((List zA6) × (Int × (zA10 × ((List zA6) × Unit))))) → Br ((zA15 × ((List zA6) × (Int × (zA10 × ((List zA6) × Unit))))) ⊕ (Unit ⊕ (zA15 × (zA10 × Unit)))) := fun (s11_290, s20_291, s21_292, v1033_293, r1725_294, ()) =>
 (.cond (decide (s21_292 < (↑(List.length s20_291) : Int)))
 (.cond (decide (0 ≤ s21_292) && decide (s21_292 < (↑(List.length s20_291) : Int)))
 (.cond (decide (0 ≤ s21_292) && decide (s21_292 < (↑(List.length r1725_294) : Int)))
 (.opt (runSame (List.getD s20_291 (Int.toNat s21_292) (0, [], [], 0, (0, 0, 0), false), List.getD r1725_294 (Int.toNat s21_292) (0, [], [], 0, (0, 0, 0), false), ())) fun y295 =>
 (.cond (!y295.1)
 (.ret (.inr (.inl (()))))
 (.ret (.inl (s11_290, s20_291, IntKind.wrap .i64 (s21_292 + 1), v1033_293, r1725_294, ())))))
 (.no))
 (.no))
 (.ret (.inr (.inr (s11_290, v1033_293, ())))))
noncomputable def stepMore_w1 : (zA15 × ((List zA6) × (Int × (zA10 × ((List zA6) × Unit))))) → Option (Unit ⊕ (zA15 × (zA10 × Unit))) := iterO fun x => (stepMore_l1 x).run
noncomputable def stepMore_B : ((List Int) × ((List zA2) × (Int × Unit))) → Br (Bool × Unit) := fun (p0, p1, p2, ()) =>
 (.opt (typesR ()) fun y259 =>
 (.opt (newS (y259.1, ())) fun y260 =>
 (.opt (queryQ (p0, ())) fun y261 =>
 (.opt (newN (y261.1, ())) fun y262 =>
 (.opt (newM (y260.1.1, y261.1, ())) fun y263 =>
 (.opt (lenN (y262.1, ())) fun y264 =>
 (.cond (decide (y264.1 < 2))
 (.ret (false, ()))
 (.opt (eventsR (p1, 5, ())) fun y265 =>
 (.opt (at24 (y261.1, y262.1, y265.1, p2, ())) fun y266 =>
 (.cond ((↑(List.length y265.1) : Int) == 0)
 (.opt (awake24 ()) fun y267 =>
 (.ret (y267.1, ())))
 (.cond (decide (0 ≤ IntKind.wrap .i64 ((↑(List.length y265.1) : Int) - 1)) && decide (IntKind.wrap .i64 ((↑(List.length y265.1) : Int) - 1) < (↑(List.length y265.1) : Int)))
 (.cond (false)
 (.no)
 (.cond (IntKind.wrap .i64 (↑(BitVec.toNat (BitVec.ofInt (IntKind.bits .i64) (Int.fdiv p2 (2 ^ min (Int.toNat 8) (IntKind.bits .i64))) &&& BitVec.ofInt (IntKind.bits .i64) 1)) : Int) == 1)
 (.opt (runLen (y266.1, ())) fun y268 =>
 (.cond (decide (y268.1 > 0))
 (.opt (runBlock (y266.1, ())) fun y269 =>
 (.opt (runState (y269.1, ())) fun y270 =>
 (.opt (movesN (y262.1, y270.1, ())) fun y271 =>
 (.opt (stepMore_w0 (y260.1.1, y262.1, y263.1, y271.1, 0, y261.1, y269.1, List.getD y265.1 (Int.toNat (IntKind.wrap .i64 ((↑(List.length y265.1) : Int) - 1))) (ByteArray.empty, ByteArray.empty, 0, 0, []), [], ())) fun z288 =>
 (.opt (moreM (z288.1, z288.2.2.1, z288.2.2.2.1, ())) fun y289 =>
 (.cond ((↑(List.length y289.1) : Int) != (↑(List.length z288.2.2.2.2.1) : Int))
 (.ret (false, ()))
 (.opt (stepMore_w1 (z288.1, y289.1, 0, z288.2.1, z288.2.2.2.2.1, ())) fun z297 =>
 (.sum z297 (fun u298 =>
 (.ret (false, ()))) (fun z299 =>
 (.opt (awake24 ()) fun y300 =>
 (.cond y300.1
 (.opt (queryM (z299.1, ())) fun y301 =>
 (.opt (same16 (y301.1, z299.2.1, ())) fun y302 =>
 (.ret (y302.1, ()))))
 (.ret (false, ())))))))))))))
 (.opt (runState (y266.1, ())) fun y303 =>
 (.opt (movesN (y262.1, y303.1, ())) fun y304 =>
 (.opt (stepMore_w0 (y260.1.1, y262.1, y263.1, y304.1, 0, y261.1, y266.1, List.getD y265.1 (Int.toNat (IntKind.wrap .i64 ((↑(List.length y265.1) : Int) - 1))) (ByteArray.empty, ByteArray.empty, 0, 0, []), [], ())) fun z320 =>
 (.opt (moreM (z320.1, z320.2.2.1, z320.2.2.2.1, ())) fun y321 =>
 (.cond ((↑(List.length y321.1) : Int) != (↑(List.length z320.2.2.2.2.1) : Int))
 (.ret (false, ()))
 (.opt (stepMore_w1 (z320.1, y321.1, 0, z320.2.1, z320.2.2.2.2.1, ())) fun z328 =>
 (.sum z328 (fun u329 =>
 (.ret (false, ()))) (fun z330 =>
 (.opt (awake24 ()) fun y331 =>
 (.cond y331.1
 (.opt (queryM (z330.1, ())) fun y332 =>
 (.opt (same16 (y332.1, z330.2.1, ())) fun y333 =>
 (.ret (y333.1, ()))))
 (.ret (false, ()))))))))))))))
 (.opt (runState (y266.1, ())) fun y334 =>
 (.opt (movesN (y262.1, y334.1, ())) fun y335 =>
 (.opt (stepMore_w0 (y260.1.1, y262.1, y263.1, y335.1, 0, y261.1, y266.1, List.getD y265.1 (Int.toNat (IntKind.wrap .i64 ((↑(List.length y265.1) : Int) - 1))) (ByteArray.empty, ByteArray.empty, 0, 0, []), [], ())) fun z351 =>
 (.opt (moreM (z351.1, z351.2.2.1, z351.2.2.2.1, ())) fun y352 =>
 (.cond ((↑(List.length y352.1) : Int) != (↑(List.length z351.2.2.2.2.1) : Int))
 (.ret (false, ()))
 (.opt (stepMore_w1 (z351.1, y352.1, 0, z351.2.1, z351.2.2.2.2.1, ())) fun z359 =>
 (.sum z359 (fun u360 =>
 (.ret (false, ()))) (fun z361 =>
 (.opt (awake24 ()) fun y362 =>
 (.cond y362.1
 (.opt (queryM (z361.1, ())) fun y363 =>
 (.opt (same16 (y363.1, z361.2.1, ())) fun y364 =>
 (.ret (y364.1, ()))))
 (.ret (false, ()))))))))))))))
 (.no))))))))))))
noncomputable def stepMore : ((List Int) × ((List zA2) × (Int × Unit))) → Option (Bool × Unit) := fun x => (stepMore_B x).run
abbrev stepMore_ins : List (Bool × Pat) := [(false, .ty true (.sl (.int .i64))), (false, .ty true (.sl zA9)), (false, .ty false (.int .i64))]
abbrev stepMore_outs : List Pat := [.ty false .bool]
noncomputable abbrev stepMore_f : Func := Try.f13
noncomputable abbrev stepMore_P : Program := Try.prog
abbrev stepMore_kp : List Nat := kpOf stepMore_ins
abbrev stepMore_kf : List Nat := kfOf stepMore_ins
noncomputable def stepMore_c : Ctx := { cx_at24 with base := 1024 }
set_option maxRecDepth 100000 in
theorem stepMore_env : EnvFull stepMore_P stepMore_c := env_base (en_at24) 1024
abbrev stepMore_H0 : List Hole := [.slot 7 false zA17, .slot 10 false (.ptr (.st (.pair zA5 (.sl zA16)))), .slot 11 false zA26, .slot 16 false (.sl (.int .i64)), .slot 17 false (.int .i64), .tv 1033 false zA5, .tv 1037 false zA7, .tv 1038 false zA9, .ar 1724 false 94 zA7]
def stepMore_S0 : Skel := ⟨149, [(9, D.c (C.ref 1033 0 0)), (13, D.c (C.ref 1037 0 0)), (14, D.c (C.ref 1038 0 0)), (15, .c (.mfull 1724))], [(1033, []), (1037, []), (1038, []), (1724, [])]⟩
abbrev stepMore_H0e0 : List Hole := [.slot 11 false zA26, .tv 1033 false zA5, .tv 1037 false zA7, .tv 1038 false zA9, .ar 1725 false 94 zA7]
def stepMore_S0e0 : Skel := ⟨149, [(9, D.c (C.ref 1033 0 0)), (13, D.c (C.ref 1037 0 0)), (14, D.c (C.ref 1038 0 0)), (15, .c (.mfull 1725))], [(1033, []), (1037, []), (1038, []), (1725, [])]⟩
def stepMore_h0 : Exit → Shape
  | .normal => ⟨[(7, .as false zA17), (9, .keep), (10, .as false (.ptr (.st (.pair zA5 (.sl zA16))))), (11, .as false zA26), (13, .keep), (14, .keep), (15, .row 700 false 94 zA7), (16, .as false (.sl (.int .i64))), (17, .as false (.int .i64))], [], [(9, false), (13, false), (14, false), (700, false)]⟩
  | .exit 0 => ⟨[(9, .keep), (11, .as false zA26), (13, .keep), (14, .keep), (15, .row 701 false 94 zA7)], [], [(9, false), (13, false), (14, false), (701, false)]⟩
  | _ => ⟨[], [], []⟩
def stepMore_e0 : (zA15 × (zA10 × (zA6 × (zA2 × ((List zA6) × Unit))))) → Exit × St
  | u => (.exit 0, stepMore_S0e0.fillK stepMore_kf stepMore_H0e0 u)
def stepMore_t0 : (zA15 × (zA10 × (zA6 × (zA2 × ((List zA6) × Unit))))) → Br (Exit × St) := fun u => .ret (.exit 0, stepMore_S0e0.fillK stepMore_kf stepMore_H0e0 u)
noncomputable def stepMore_C0 : Code := loopAt 0 (bodyOf stepMore_f)
noncomputable def stepMore_o0 : St → Br (Exit × St) := loopF stepMore_kp stepMore_kf 1024 (stepMore_h0 .normal) (stepMore_S0.parseK stepMore_kf stepMore_H0) fun x => .opt (stepMore_w0 x) stepMore_t0
abbrev stepMore_H1 : List Hole := [.slot 11 false zA26, .slot 20 false (.sl zA7), .slot 21 false (.int .i64), .tv 1033 false zA5, .ar 1725 false 94 zA7]
def stepMore_S1 : Skel := ⟨149, [(9, D.c (C.ref 1033 0 0)), (15, D.c (C.mfull 1725))], [(1033, []), (1725, [])]⟩
abbrev stepMore_H1e0 : List Hole := []
def stepMore_S1e0 : Skel := ⟨149, [(6, D.c C.ff)], []⟩
abbrev stepMore_H1e1 : List Hole := [.slot 11 false zA26, .tv 1033 false zA5]
def stepMore_S1e1 : Skel := ⟨149, [(9, D.c (C.ref 1033 0 0))], [(1033, [])]⟩
def stepMore_h1 : Exit → Shape
  | .normal => ⟨[(9, .keep), (11, .as false zA26), (15, .keep), (20, .as false (.sl zA7)), (21, .as false (.int .i64))], [], [(9, false), (701, false)]⟩
  | .ret => ⟨[(6, .keep)], [], []⟩
  | .exit 2 => ⟨[(9, .keep), (11, .as false zA26)], [], [(9, false)]⟩
  | _ => ⟨[], [], []⟩
def stepMore_e1 : (Unit ⊕ (zA15 × (zA10 × Unit))) → Exit × St
  | (.inl u) => (.ret, stepMore_S1e0.fillK stepMore_kf stepMore_H1e0 u)
  | (.inr u) => (.exit 2, stepMore_S1e1.fillK stepMore_kf stepMore_H1e1 u)
def stepMore_t1 : (Unit ⊕ (zA15 × (zA10 × Unit))) → Br (Exit × St) := fun z => .sum z (fun u => .ret (.ret, stepMore_S1e0.fillK stepMore_kf stepMore_H1e0 u)) (fun u => .ret (.exit 2, stepMore_S1e1.fillK stepMore_kf stepMore_H1e1 u))
noncomputable def stepMore_C1 : Code := loopAt 1 (bodyOf stepMore_f)
noncomputable def stepMore_o1 : St → Br (Exit × St) := loopF stepMore_kp stepMore_kf 1024 (stepMore_h1 .normal) (stepMore_S1.parseK stepMore_kf stepMore_H1) fun x => .opt (stepMore_w1 x) stepMore_t1
noncomputable def stepMore_p : Par := { sh := fun _ => none, k := 0, lo := fun i => bif Nat.beq i 16 then some stepMore_o0 else bif Nat.beq i 25 then some stepMore_o1 else none }
set_option maxRecDepth 100000 in
theorem stepMore_r0 (s7_272 : (Option zA11)) (s10_273 : zA22) (s11_274 : zA15) (s16_275 : (List Int)) (s17_276 : Int) (v1033_277 : zA10) (v1037_278 : zA6) (v1038_279 : zA2) (r1724_280 : (List zA6)) : roundF stepMore_kp stepMore_kf stepMore_c stepMore_p stepMore_h0 stepMore_C0 (stepMore_S0.fillK stepMore_kf stepMore_H0 (s7_272, s10_273, s11_274, s16_275, s17_276, v1033_277, v1037_278, v1038_279, r1724_280, ())) = (stepMore_l0 (s7_272, s10_273, s11_274, s16_275, s17_276, v1033_277, v1037_278, v1038_279, r1724_280, ())).bind (loopLeaf (fun x => stepMore_S0.fillK stepMore_kf stepMore_H0 x) stepMore_e0) := by kernel_rfl
set_option maxRecDepth 100000 in
theorem stepMore_ok0 (g : Cfg) (hg : ∀ n, Go.PI.look n g.m0 ≠ Option.none → n ∈ stepMore_kp) : LoopOk stepMore_P g stepMore_o0 stepMore_C0 := LoopOk.auto stepMore_env hg stepMore_p (LoOk.of (l := []) (by kernel_rfl) .nil) stepMore_h0 (fun x => stepMore_S0.fillK stepMore_kf stepMore_H0 x) (fun s x h => Skel.parseK_ok s x h) stepMore_l0 stepMore_e0 (fun _ h => by cases h) stepMore_t0 (fun _ => rfl) (fun (s7_272, s10_273, s11_274, s16_275, s17_276, v1033_277, v1037_278, v1038_279, r1724_280, ()) => stepMore_r0 s7_272 s10_273 s11_274 s16_275 s17_276 v1033_277 v1037_278 v1038_279 r1724_280)
set_option maxRecDepth 100000 in
theorem stepMore_r1 (s11_290 : zA15) (s20_291 : (List zA6)) (s21_292 : Int) (v1033_293 : zA10) (r1725_294 : (List zA6)) : roundF stepMore_kp stepMore_kf stepMore_c stepMore_p stepMore_h1 stepMore_C1 (stepMore_S1.fillK stepMore_kf stepMore_H1 (s11_290, s20_291, s21_292, v1033_293, r1725_294, ())) = (stepMore_l1 (s11_290, s20_291, s21_292, v1033_293, r1725_294, ())).bind (loopLeaf (fun x => stepMore_S1.fillK stepMore_kf stepMore_H1 x) stepMore_e1) := by kernel_rfl
set_option maxRecDepth 100000 in
theorem stepMore_ok1 (g : Cfg) (hg : ∀ n, Go.PI.look n g.m0 ≠ Option.none → n ∈ stepMore_kp) : LoopOk stepMore_P g stepMore_o1 stepMore_C1 := LoopOk.auto stepMore_env hg stepMore_p (LoOk.of (l := []) (by kernel_rfl) .nil) stepMore_h1 (fun x => stepMore_S1.fillK stepMore_kf stepMore_H1 x) (fun s x h => Skel.parseK_ok s x h) stepMore_l1 stepMore_e1 (fun z h => by rcases z with z | z <;> cases h) stepMore_t1 (fun z => by rcases z with z | z <;> rfl) (fun (s11_290, s20_291, s21_292, v1033_293, r1725_294, ()) => stepMore_r1 s11_290 s20_291 s21_292 v1033_293 r1725_294)
set_option maxRecDepth 100000 in
theorem stepMore_eq (p0 : (List Int)) (p1 : (List zA2)) (p2 : Int) : ocRun stepMore_c stepMore_p stepMore_f stepMore_ins stepMore_outs (p0, p1, p2, ()) = stepMore_B (p0, p1, p2, ()) := by kernel_rfl
set_option maxRecDepth 100000 in
theorem stepMore_oc : OC stepMore_P 13 stepMore_ins stepMore_outs stepMore := OC.of_tree stepMore_env Try.func13 (by kernel_rfl) (by kernel_rfl) (p := stepMore_p) (fun g hg => LoOk.of (l := [stepMore_C0, stepMore_C1]) (by kernel_rfl) (.cons (stepMore_ok0 g hg) (by kernel_rfl) (.cons (stepMore_ok1 g hg) (by kernel_rfl) .nil))) (fun (p0, p1, p2, ()) => stepMore_eq p0 p1 p2)
noncomputable def cx_stepMore : Ctx := addO cx_at24 13 (ocOrc stepMore_ins stepMore_outs stepMore)
theorem en_stepMore : EnvFull Try.prog cx_stepMore := env_add (en_at24) stepMore_oc.callOk
end Go.Proofs.Ytnhiplibodkciaa
