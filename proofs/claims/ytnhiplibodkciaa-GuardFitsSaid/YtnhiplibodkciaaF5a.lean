/- Contracts of functions. Printed by auto.py. -/
import Derived.Test.YtnhiplibodkciaaHg
import Derived.Test.YtnhiplibodkciaaHa
import Derived.Test.YtnhiplibodkciaaHj
namespace Go.Proofs.Ytnhiplibodkciaa
open Go.PI Go
noncomputable def guardFits_l2 : (Int × ((Option zA11) × ((List zA2) × (zA23 × (Int × ((List (Int × Int)) × (Int × (Int × (Int × (Bool × (zA10 × (zA6 × Unit)))))))))))) → Br ((Int × ((Option zA11) × ((List zA2) × (zA23 × (Int × ((List (Int × Int)) × (Int × (Int × (Int × (Bool × (zA10 × (zA6 × Unit)))))))))))) ⊕ (Unit ⊕ (Int × ((Option zA11) × ((List zA2) × (zA23 × (Int × ((List (Int × Int)) × (Int × (Int × (Bool × (zA10 × Unit)))))))))))) := fun (s2_249, s7_250, s10_251, s11_252, s12_253, s13_254, s14_255, s16_256, s35_257, s36_258, v1033_259, v1039_260, ()) =>
 (.cond (decide (s16_256 < (↑(List.length s10_251) : Int)))
 (.opt (runElem (v1039_260, ())) fun y261 =>
 (.cond (IntKind.wrap .i64 (↑(BitVec.toNat (BitVec.ofInt (IntKind.bits .i64) s2_249 &&& BitVec.ofInt (IntKind.bits .i64) 1)) : Int) == 0)
 (.cond (decide (IntKind.wrap .i64 (y261.1 + 1) ≥ (↑(List.length v1033_259.1) : Int)))
 (.ret (.inl (s2_249, s7_250, s10_251, s11_252, s12_253, s13_254, s14_255, IntKind.wrap .i64 (s16_256 + 1), s35_257, s36_258, v1033_259, v1039_260, ())))
 (.cond (decide (0 ≤ s16_256) && decide (s16_256 < (↑(List.length s10_251) : Int)))
 (.opt (fitsG (s7_250, v1033_259, v1039_260, IntKind.wrap .i64 (y261.1 + 1), List.getD s10_251 (Int.toNat s16_256) (ByteArray.empty, ByteArray.empty, 0, 0, []), ())) fun y262 =>
 (.cond (decide (0 ≤ 0) && decide (0 ≤ s14_255) && decide (s14_255 ≤ (↑(List.length s13_254) : Int)))
 (.cond (decide (0 ≤ s16_256) && decide (s16_256 < (↑(List.length s10_251) : Int)))
 (.opt (fitsT (s7_250, v1033_259, s10_251, List.drop (Int.toNat 0) (List.take (Int.toNat s14_255) s13_254), IntKind.wrap .i64 (y261.1 + 1), List.getD s10_251 (Int.toNat s16_256) (ByteArray.empty, ByteArray.empty, 0, 0, []), ())) fun y263 =>
 (.cond (!y262.1 == y263.1)
 (.opt (runElem (v1039_260, ())) fun y264 =>
 (.cond (decide (IntKind.wrap .i64 (y261.1 + 1) > y264.1))
 (.ret (.inr (.inl (()))))
 (.cond (decide (0 ≤ IntKind.wrap .i64 (y261.1 + 1)) && decide (IntKind.wrap .i64 (y261.1 + 1) < (↑(List.length v1033_259.1) : Int)))
 (.cond (decide (Prod.fst (Prod.snd (Prod.snd (Prod.snd (Prod.snd (List.getD v1033_259.1 (Int.toNat (IntKind.wrap .i64 (y261.1 + 1))) (ByteArray.empty, [], false, 0, 0, [])))))) > 1))
 (.ret (.inr (.inl (()))))
 (.ret (.inl (s2_249, s7_250, s10_251, s11_252, s12_253, s13_254, s14_255, IntKind.wrap .i64 (s16_256 + 1), s35_257, s36_258, v1033_259, v1039_260, ()))))
 (.no))))
 (.ret (.inl (s2_249, s7_250, s10_251, s11_252, s12_253, s13_254, s14_255, IntKind.wrap .i64 (s16_256 + 1), s35_257, s36_258, v1033_259, v1039_260, ())))))
 (.no))
 (.no)))
 (.no)))
 (.cond (decide (y261.1 < 0))
 (.cond (decide (IntKind.wrap .i64 (y261.1 + 1) ≥ (↑(List.length v1033_259.1) : Int)))
 (.ret (.inl (s2_249, s7_250, s10_251, s11_252, s12_253, s13_254, s14_255, IntKind.wrap .i64 (s16_256 + 1), s35_257, s36_258, v1033_259, v1039_260, ())))
 (.cond (decide (0 ≤ s16_256) && decide (s16_256 < (↑(List.length s10_251) : Int)))
 (.opt (fitsG (s7_250, v1033_259, v1039_260, IntKind.wrap .i64 (y261.1 + 1), List.getD s10_251 (Int.toNat s16_256) (ByteArray.empty, ByteArray.empty, 0, 0, []), ())) fun y265 =>
 (.cond (decide (0 ≤ 0) && decide (0 ≤ s14_255) && decide (s14_255 ≤ (↑(List.length s13_254) : Int)))
 (.cond (decide (0 ≤ s16_256) && decide (s16_256 < (↑(List.length s10_251) : Int)))
 (.opt (fitsT (s7_250, v1033_259, s10_251, List.drop (Int.toNat 0) (List.take (Int.toNat s14_255) s13_254), IntKind.wrap .i64 (y261.1 + 1), List.getD s10_251 (Int.toNat s16_256) (ByteArray.empty, ByteArray.empty, 0, 0, []), ())) fun y266 =>
 (.cond (!y265.1 == y266.1)
 (.opt (runElem (v1039_260, ())) fun y267 =>
 (.cond (decide (IntKind.wrap .i64 (y261.1 + 1) > y267.1))
 (.ret (.inr (.inl (()))))
 (.cond (decide (0 ≤ IntKind.wrap .i64 (y261.1 + 1)) && decide (IntKind.wrap .i64 (y261.1 + 1) < (↑(List.length v1033_259.1) : Int)))
 (.cond (decide (Prod.fst (Prod.snd (Prod.snd (Prod.snd (Prod.snd (List.getD v1033_259.1 (Int.toNat (IntKind.wrap .i64 (y261.1 + 1))) (ByteArray.empty, [], false, 0, 0, [])))))) > 1))
 (.ret (.inr (.inl (()))))
 (.ret (.inl (s2_249, s7_250, s10_251, s11_252, s12_253, s13_254, s14_255, IntKind.wrap .i64 (s16_256 + 1), s35_257, s36_258, v1033_259, v1039_260, ()))))
 (.no))))
 (.ret (.inl (s2_249, s7_250, s10_251, s11_252, s12_253, s13_254, s14_255, IntKind.wrap .i64 (s16_256 + 1), s35_257, s36_258, v1033_259, v1039_260, ())))))
 (.no))
 (.no)))
 (.no)))
 (.cond (decide (y261.1 ≥ (↑(List.length v1033_259.1) : Int)))
 (.ret (.inl (s2_249, s7_250, s10_251, s11_252, s12_253, s13_254, s14_255, IntKind.wrap .i64 (s16_256 + 1), s35_257, s36_258, v1033_259, v1039_260, ())))
 (.cond (decide (0 ≤ s16_256) && decide (s16_256 < (↑(List.length s10_251) : Int)))
 (.opt (fitsG (s7_250, v1033_259, v1039_260, y261.1, List.getD s10_251 (Int.toNat s16_256) (ByteArray.empty, ByteArray.empty, 0, 0, []), ())) fun y268 =>
 (.cond (decide (0 ≤ 0) && decide (0 ≤ s14_255) && decide (s14_255 ≤ (↑(List.length s13_254) : Int)))
 (.cond (decide (0 ≤ s16_256) && decide (s16_256 < (↑(List.length s10_251) : Int)))
 (.opt (fitsT (s7_250, v1033_259, s10_251, List.drop (Int.toNat 0) (List.take (Int.toNat s14_255) s13_254), y261.1, List.getD s10_251 (Int.toNat s16_256) (ByteArray.empty, ByteArray.empty, 0, 0, []), ())) fun y269 =>
 (.cond (!y268.1 == y269.1)
 (.opt (runElem (v1039_260, ())) fun y270 =>
 (.cond (decide (y261.1 > y270.1))
 (.ret (.inr (.inl (()))))
 (.cond (decide (0 ≤ y261.1) && decide (y261.1 < (↑(List.length v1033_259.1) : Int)))
 (.cond (decide (Prod.fst (Prod.snd (Prod.snd (Prod.snd (Prod.snd (List.getD v1033_259.1 (Int.toNat y261.1) (ByteArray.empty, [], false, 0, 0, [])))))) > 1))
 (.ret (.inr (.inl (()))))
 (.ret (.inl (s2_249, s7_250, s10_251, s11_252, s12_253, s13_254, s14_255, IntKind.wrap .i64 (s16_256 + 1), s35_257, s36_258, v1033_259, v1039_260, ()))))
 (.no))))
 (.ret (.inl (s2_249, s7_250, s10_251, s11_252, s12_253, s13_254, s14_255, IntKind.wrap .i64 (s16_256 + 1), s35_257, s36_258, v1033_259, v1039_260, ())))))
 (.no))
 (.no)))
 (.no))))))
 (.ret (.inr (.inr (s2_249, s7_250, s10_251, s11_252, s12_253, s13_254, s14_255, s35_257, s36_258, v1033_259, ())))))
noncomputable def guardFits_w2 : (Int × ((Option zA11) × ((List zA2) × (zA23 × (Int × ((List (Int × Int)) × (Int × (Int × (Int × (Bool × (zA10 × (zA6 × Unit)))))))))))) → Option (Unit ⊕ (Int × ((Option zA11) × ((List zA2) × (zA23 × (Int × ((List (Int × Int)) × (Int × (Int × (Bool × (zA10 × Unit))))))))))) := iterO fun x => (guardFits_l2 x).run
noncomputable def guardFits_l1 : (Int × ((Option zA11) × ((List zA2) × (zA23 × (Int × ((List (Int × Int)) × (Int × (Int × (Bool × (zA10 × Unit)))))))))) → Br ((Int × ((Option zA11) × ((List zA2) × (zA23 × (Int × ((List (Int × Int)) × (Int × (Int × (Bool × (zA10 × Unit)))))))))) ⊕ (Unit ⊕ (Int × ((Option zA11) × ((List zA2) × (zA23 × (Int × (Int × (Bool × (zA10 × Unit)))))))))) := fun (s2_238, s7_239, s10_240, s11_241, s12_242, s13_243, s14_244, s35_245, s36_246, v1033_247, ()) =>
 (.cond (decide (s14_244 ≤ (↑(List.length s13_243) : Int)))
 (.cond (decide (0 ≤ 0) && decide (0 ≤ s14_244) && decide (s14_244 ≤ (↑(List.length s13_243) : Int)))
 (.opt (againR (v1033_247, 1, List.drop (Int.toNat 0) (List.take (Int.toNat s14_244) s13_243), s10_240, ())) fun y248 =>
 (.opt (guardFits_w2 (s2_238, s7_239, s10_240, s11_241, s12_242, s13_243, s14_244, 0, s35_245, s36_246, v1033_247, y248.1, ())) fun z272 =>
 (.sum z272 (fun u273 =>
 (.ret (.inr (.inl (()))))) (fun z274 =>
 (.ret (.inl (z274.1, z274.2.1, z274.2.2.1, z274.2.2.2.1, z274.2.2.2.2.1, z274.2.2.2.2.2.1, IntKind.wrap .i64 (z274.2.2.2.2.2.2.1 + 1), z274.2.2.2.2.2.2.2.1, z274.2.2.2.2.2.2.2.2.1, z274.2.2.2.2.2.2.2.2.2.1, ())))))))
 (.no))
 (.ret (.inr (.inr (s2_238, s7_239, s10_240, s11_241, s12_242, s35_245, s36_246, v1033_247, ())))))
noncomputable def guardFits_w1 : (Int × ((Option zA11) × ((List zA2) × (zA23 × (Int × ((List (Int × Int)) × (Int × (Int × (Bool × (zA10 × Unit)))))))))) → Option (Unit ⊕ (Int × ((Option zA11) × ((List zA2) × (zA23 × (Int × (Int × (Bool × (zA10 × Unit))))))))) := iterO fun x => (guardFits_l1 x).run
noncomputable def guardFits_l0 : (Int × ((Option zA11) × ((List zA2) × (zA23 × (Int × (zA10 × Unit)))))) → Br ((Int × ((Option zA11) × ((List zA2) × (zA23 × (Int × (zA10 × Unit)))))) ⊕ (Unit ⊕ ((Option zA11) × (zA10 × Unit)))) := fun (s2_232, s7_233, s10_234, s11_235, s12_236, v1033_237, ()) =>
 (.cond (decide (s12_236 < (↑(List.length s11_235) : Int)))
 (.cond (decide (s12_236 < 8))
 (.cond (decide (0 ≤ s12_236) && decide (s12_236 < (↑(List.length s11_235) : Int)))
 (.opt (guardFits_w1 (s2_232, s7_233, s10_234, s11_235, s12_236, List.getD s11_235 (Int.toNat s12_236) [], 0, s12_236, decide (s12_236 < 8), v1033_237, ())) fun z276 =>
 (.sum z276 (fun u277 =>
 (.ret (.inr (.inl (()))))) (fun z278 =>
 (.ret (.inl (z278.1, z278.2.1, z278.2.2.1, z278.2.2.2.1, IntKind.wrap .i64 (z278.2.2.2.2.1 + 1), z278.2.2.2.2.2.2.2.1, ()))))))
 (.no))
 (.ret (.inr (.inr (s7_233, v1033_237, ())))))
 (.ret (.inr (.inr (s7_233, v1033_237, ())))))
noncomputable def guardFits_w0 : (Int × ((Option zA11) × ((List zA2) × (zA23 × (Int × (zA10 × Unit)))))) → Option (Unit ⊕ ((Option zA11) × (zA10 × Unit))) := iterO fun x => (guardFits_l0 x).run
noncomputable def guardFits_B : ((List Int) × ((List zA2) × (Int × Unit))) → Br (Bool × Unit) := fun (p0, p1, p2, ()) =>
 (.opt (typesR ()) fun y227 =>
 (.opt (newS (y227.1, ())) fun y228 =>
 (.opt (queryQ (p0, ())) fun y229 =>
 (.opt (events20 (p1, 6, ())) fun y230 =>
 (.opt (allM (y229.1, y230.1, ())) fun y231 =>
 (.opt (guardFits_w0 (p2, y228.1.1, y230.1, y231.1, 0, y229.1, ())) fun z280 =>
 (.sum z280 (fun u281 =>
 (.ret (false, ()))) (fun z282 =>
 (.opt (awake23 ()) fun y283 =>
 (.cond y283.1
 (.opt (fitsG (z282.1, z282.2.1, (0, [], [], 0, (0, 0, 0), false), -1, (ByteArray.empty, ByteArray.empty, 0, 0, []), ())) fun y284 =>
 (.cond (!y284.1)
 (.opt (fitsG (z282.1, z282.2.1, (0, [], [], 0, (0, 0, 0), false), (↑(List.length z282.2.1.1) : Int), (ByteArray.empty, ByteArray.empty, 0, 0, []), ())) fun y285 =>
 (.ret (!y285.1, ())))
 (.ret (false, ()))))
 (.ret (false, ()))))))))))))
noncomputable def guardFits : ((List Int) × ((List zA2) × (Int × Unit))) → Option (Bool × Unit) := fun x => (guardFits_B x).run
abbrev guardFits_ins : List (Bool × Pat) := [(false, .ty true (.sl (.int .i64))), (false, .ty true (.sl zA9)), (false, .ty false (.int .i64))]
abbrev guardFits_outs : List Pat := [.ty false .bool]
noncomputable abbrev guardFits_f : Func := Try.f12
noncomputable abbrev guardFits_P : Program := Try.prog
abbrev guardFits_kp : List Nat := kpOf guardFits_ins
abbrev guardFits_kf : List Nat := kfOf guardFits_ins
noncomputable def guardFits_c : Ctx := { cxF4 with base := 1024 }
set_option maxRecDepth 100000 in
theorem guardFits_env : EnvFull guardFits_P guardFits_c := env_base (enF4) 1024
abbrev guardFits_H2 : List Hole := [.slot 2 false (.int .i64), .slot 7 false zA17, .slot 10 false (.sl zA9), .slot 11 false (.sl (.sl zA16)), .slot 12 false (.int .i64), .slot 13 false (.sl zA16), .slot 14 false (.int .i64), .slot 16 false (.int .i64), .slot 35 false (.int .i64), .slot 36 false .bool, .tv 1033 false zA5, .tv 1039 false zA7]
def guardFits_S2 : Skel := ⟨135, [(9, D.c (C.ref 1033 0 0)), (15, D.c (C.ref 1039 0 0))], [(1033, []), (1039, [])]⟩
abbrev guardFits_H2e0 : List Hole := []
def guardFits_S2e0 : Skel := ⟨135, [(6, D.c C.ff)], []⟩
abbrev guardFits_H2e1 : List Hole := [.slot 2 false (.int .i64), .slot 7 false zA17, .slot 10 false (.sl zA9), .slot 11 false (.sl (.sl zA16)), .slot 12 false (.int .i64), .slot 13 false (.sl zA16), .slot 14 false (.int .i64), .slot 35 false (.int .i64), .slot 36 false .bool, .tv 1033 false zA5]
def guardFits_S2e1 : Skel := ⟨135, [(9, D.c (C.ref 1033 0 0))], [(1033, [])]⟩
def guardFits_h2 : Exit → Shape
  | .normal => ⟨[(2, .as false (.int .i64)), (7, .as false zA17), (9, .keep), (10, .as false (.sl zA9)), (11, .as false (.sl (.sl zA16))), (12, .as false (.int .i64)), (13, .as false (.sl zA16)), (14, .as false (.int .i64)), (15, .keep), (16, .as false (.int .i64)), (35, .as false (.int .i64)), (36, .as false .bool)], [], [(9, false), (15, false)]⟩
  | .ret => ⟨[(6, .keep)], [], []⟩
  | .exit 4 => ⟨[(2, .as false (.int .i64)), (7, .as false zA17), (9, .keep), (10, .as false (.sl zA9)), (11, .as false (.sl (.sl zA16))), (12, .as false (.int .i64)), (13, .as false (.sl zA16)), (14, .as false (.int .i64)), (35, .as false (.int .i64)), (36, .as false .bool)], [], [(9, false)]⟩
  | _ => ⟨[], [], []⟩
def guardFits_e2 : (Unit ⊕ (Int × ((Option zA11) × ((List zA2) × (zA23 × (Int × ((List (Int × Int)) × (Int × (Int × (Bool × (zA10 × Unit))))))))))) → Exit × St
  | (.inl u) => (.ret, guardFits_S2e0.fillK guardFits_kf guardFits_H2e0 u)
  | (.inr u) => (.exit 4, guardFits_S2e1.fillK guardFits_kf guardFits_H2e1 u)
def guardFits_t2 : (Unit ⊕ (Int × ((Option zA11) × ((List zA2) × (zA23 × (Int × ((List (Int × Int)) × (Int × (Int × (Bool × (zA10 × Unit))))))))))) → Br (Exit × St) := fun z => .sum z (fun u => .ret (.ret, guardFits_S2e0.fillK guardFits_kf guardFits_H2e0 u)) (fun u => .ret (.exit 4, guardFits_S2e1.fillK guardFits_kf guardFits_H2e1 u))
noncomputable def guardFits_C2 : Code := loopAt 2 (bodyOf guardFits_f)
noncomputable def guardFits_o2 : St → Br (Exit × St) := loopF guardFits_kp guardFits_kf 1024 (guardFits_h2 .normal) (guardFits_S2.parseK guardFits_kf guardFits_H2) fun x => .opt (guardFits_w2 x) guardFits_t2
abbrev guardFits_H1 : List Hole := [.slot 2 false (.int .i64), .slot 7 false zA17, .slot 10 false (.sl zA9), .slot 11 false (.sl (.sl zA16)), .slot 12 false (.int .i64), .slot 13 false (.sl zA16), .slot 14 false (.int .i64), .slot 35 false (.int .i64), .slot 36 false .bool, .tv 1033 false zA5]
def guardFits_S1 : Skel := ⟨135, [(9, D.c (C.ref 1033 0 0))], [(1033, [])]⟩
abbrev guardFits_H1e0 : List Hole := []
def guardFits_S1e0 : Skel := ⟨135, [(6, D.c C.ff)], []⟩
abbrev guardFits_H1e1 : List Hole := [.slot 2 false (.int .i64), .slot 7 false zA17, .slot 10 false (.sl zA9), .slot 11 false (.sl (.sl zA16)), .slot 12 false (.int .i64), .slot 35 false (.int .i64), .slot 36 false .bool, .tv 1033 false zA5]
def guardFits_S1e1 : Skel := ⟨135, [(9, D.c (C.ref 1033 0 0))], [(1033, [])]⟩
def guardFits_h1 : Exit → Shape
  | .normal => ⟨[(2, .as false (.int .i64)), (7, .as false zA17), (9, .keep), (10, .as false (.sl zA9)), (11, .as false (.sl (.sl zA16))), (12, .as false (.int .i64)), (13, .as false (.sl zA16)), (14, .as false (.int .i64)), (35, .as false (.int .i64)), (36, .as false .bool)], [], [(9, false)]⟩
  | .ret => ⟨[(6, .keep)], [], []⟩
  | .exit 2 => ⟨[(2, .as false (.int .i64)), (7, .as false zA17), (9, .keep), (10, .as false (.sl zA9)), (11, .as false (.sl (.sl zA16))), (12, .as false (.int .i64)), (35, .as false (.int .i64)), (36, .as false .bool)], [], [(9, false)]⟩
  | _ => ⟨[], [], []⟩
def guardFits_e1 : (Unit ⊕ (Int × ((Option zA11) × ((List zA2) × (zA23 × (Int × (Int × (Bool × (zA10 × Unit))))))))) → Exit × St
  | (.inl u) => (.ret, guardFits_S1e0.fillK guardFits_kf guardFits_H1e0 u)
  | (.inr u) => (.exit 2, guardFits_S1e1.fillK guardFits_kf guardFits_H1e1 u)
def guardFits_t1 : (Unit ⊕ (Int × ((Option zA11) × ((List zA2) × (zA23 × (Int × (Int × (Bool × (zA10 × Unit))))))))) → Br (Exit × St) := fun z => .sum z (fun u => .ret (.ret, guardFits_S1e0.fillK guardFits_kf guardFits_H1e0 u)) (fun u => .ret (.exit 2, guardFits_S1e1.fillK guardFits_kf guardFits_H1e1 u))
noncomputable def guardFits_C1 : Code := loopAt 1 (bodyOf guardFits_f)
noncomputable def guardFits_o1 : St → Br (Exit × St) := loopF guardFits_kp guardFits_kf 1024 (guardFits_h1 .normal) (guardFits_S1.parseK guardFits_kf guardFits_H1) fun x => .opt (guardFits_w1 x) guardFits_t1
abbrev guardFits_H0 : List Hole := [.slot 2 false (.int .i64), .slot 7 false zA17, .slot 10 false (.sl zA9), .slot 11 false (.sl (.sl zA16)), .slot 12 false (.int .i64), .tv 1033 false zA5]
def guardFits_S0 : Skel := ⟨135, [(9, D.c (C.ref 1033 0 0))], [(1033, [])]⟩
abbrev guardFits_H0e0 : List Hole := []
def guardFits_S0e0 : Skel := ⟨135, [(6, D.c C.ff)], []⟩
abbrev guardFits_H0e1 : List Hole := [.slot 7 false zA17, .tv 1033 false zA5]
def guardFits_S0e1 : Skel := ⟨135, [(9, D.c (C.ref 1033 0 0))], [(1033, [])]⟩
def guardFits_h0 : Exit → Shape
  | .normal => ⟨[(2, .as false (.int .i64)), (7, .as false zA17), (9, .keep), (10, .as false (.sl zA9)), (11, .as false (.sl (.sl zA16))), (12, .as false (.int .i64))], [], [(9, false)]⟩
  | .ret => ⟨[(6, .keep)], [], []⟩
  | .exit 0 => ⟨[(7, .as false zA17), (9, .keep)], [], [(9, false)]⟩
  | _ => ⟨[], [], []⟩
def guardFits_e0 : (Unit ⊕ ((Option zA11) × (zA10 × Unit))) → Exit × St
  | (.inl u) => (.ret, guardFits_S0e0.fillK guardFits_kf guardFits_H0e0 u)
  | (.inr u) => (.exit 0, guardFits_S0e1.fillK guardFits_kf guardFits_H0e1 u)
def guardFits_t0 : (Unit ⊕ ((Option zA11) × (zA10 × Unit))) → Br (Exit × St) := fun z => .sum z (fun u => .ret (.ret, guardFits_S0e0.fillK guardFits_kf guardFits_H0e0 u)) (fun u => .ret (.exit 0, guardFits_S0e1.fillK guardFits_kf guardFits_H0e1 u))
noncomputable def guardFits_C0 : Code := loopAt 0 (bodyOf guardFits_f)
noncomputable def guardFits_o0 : St → Br (Exit × St) := loopF guardFits_kp guardFits_kf 1024 (guardFits_h0 .normal) (guardFits_S0.parseK guardFits_kf guardFits_H0) fun x => .opt (guardFits_w0 x) guardFits_t0
noncomputable def guardFits_p : Par := { sh := fun _ => none, k := 0, lo := fun i => bif Nat.beq i 6 then some guardFits_o0 else bif Nat.beq i 10 then some guardFits_o1 else bif Nat.beq i 14 then some guardFits_o2 else none }
set_option maxRecDepth 100000 in
theorem guardFits_r2 (s2_249 : Int) (s7_250 : (Option zA11)) (s10_251 : (List zA2)) (s11_252 : zA23) (s12_253 : Int) (s13_254 : (List (Int × Int))) (s14_255 : Int) (s16_256 : Int) (s35_257 : Int) (s36_258 : Bool) (v1033_259 : zA10) (v1039_260 : zA6) : roundF guardFits_kp guardFits_kf guardFits_c guardFits_p guardFits_h2 guardFits_C2 (guardFits_S2.fillK guardFits_kf guardFits_H2 (s2_249, s7_250, s10_251, s11_252, s12_253, s13_254, s14_255, s16_256, s35_257, s36_258, v1033_259, v1039_260, ())) = (guardFits_l2 (s2_249, s7_250, s10_251, s11_252, s12_253, s13_254, s14_255, s16_256, s35_257, s36_258, v1033_259, v1039_260, ())).bind (loopLeaf (fun x => guardFits_S2.fillK guardFits_kf guardFits_H2 x) guardFits_e2) := by kernel_rfl
set_option maxRecDepth 100000 in
theorem guardFits_ok2 (g : Cfg) (hg : ∀ n, Go.PI.look n g.m0 ≠ Option.none → n ∈ guardFits_kp) : LoopOk guardFits_P g guardFits_o2 guardFits_C2 := LoopOk.auto guardFits_env hg guardFits_p (LoOk.of (l := []) (by kernel_rfl) .nil) guardFits_h2 (fun x => guardFits_S2.fillK guardFits_kf guardFits_H2 x) (fun s x h => Skel.parseK_ok s x h) guardFits_l2 guardFits_e2 (fun z h => by rcases z with z | z <;> cases h) guardFits_t2 (fun z => by rcases z with z | z <;> rfl) (fun (s2_249, s7_250, s10_251, s11_252, s12_253, s13_254, s14_255, s16_256, s35_257, s36_258, v1033_259, v1039_260, ()) => guardFits_r2 s2_249 s7_250 s10_251 s11_252 s12_253 s13_254 s14_255 s16_256 s35_257 s36_258 v1033_259 v1039_260)
set_option maxRecDepth 100000 in
theorem guardFits_r1 (s2_238 : Int) (s7_239 : (Option zA11)) (s10_240 : (List zA2)) (s11_241 : zA23) (s12_242 : Int) (s13_243 : (List (Int × Int))) (s14_244 : Int) (s35_245 : Int) (s36_246 : Bool) (v1033_247 : zA10) : roundF guardFits_kp guardFits_kf guardFits_c guardFits_p guardFits_h1 guardFits_C1 (guardFits_S1.fillK guardFits_kf guardFits_H1 (s2_238, s7_239, s10_240, s11_241, s12_242, s13_243, s14_244, s35_245, s36_246, v1033_247, ())) = (guardFits_l1 (s2_238, s7_239, s10_240, s11_241, s12_242, s13_243, s14_244, s35_245, s36_246, v1033_247, ())).bind (loopLeaf (fun x => guardFits_S1.fillK guardFits_kf guardFits_H1 x) guardFits_e1) := by kernel_rfl
set_option maxRecDepth 100000 in
theorem guardFits_ok1 (g : Cfg) (hg : ∀ n, Go.PI.look n g.m0 ≠ Option.none → n ∈ guardFits_kp) : LoopOk guardFits_P g guardFits_o1 guardFits_C1 := LoopOk.auto guardFits_env hg guardFits_p (LoOk.of (l := [guardFits_C2]) (by kernel_rfl) (.cons (guardFits_ok2 g hg) (by kernel_rfl) .nil)) guardFits_h1 (fun x => guardFits_S1.fillK guardFits_kf guardFits_H1 x) (fun s x h => Skel.parseK_ok s x h) guardFits_l1 guardFits_e1 (fun z h => by rcases z with z | z <;> cases h) guardFits_t1 (fun z => by rcases z with z | z <;> rfl) (fun (s2_238, s7_239, s10_240, s11_241, s12_242, s13_243, s14_244, s35_245, s36_246, v1033_247, ()) => guardFits_r1 s2_238 s7_239 s10_240 s11_241 s12_242 s13_243 s14_244 s35_245 s36_246 v1033_247)
set_option maxRecDepth 100000 in
theorem guardFits_r0 (s2_232 : Int) (s7_233 : (Option zA11)) (s10_234 : (List zA2)) (s11_235 : zA23) (s12_236 : Int) (v1033_237 : zA10) : roundF guardFits_kp guardFits_kf guardFits_c guardFits_p guardFits_h0 guardFits_C0 (guardFits_S0.fillK guardFits_kf guardFits_H0 (s2_232, s7_233, s10_234, s11_235, s12_236, v1033_237, ())) = (guardFits_l0 (s2_232, s7_233, s10_234, s11_235, s12_236, v1033_237, ())).bind (loopLeaf (fun x => guardFits_S0.fillK guardFits_kf guardFits_H0 x) guardFits_e0) := by kernel_rfl
set_option maxRecDepth 100000 in
theorem guardFits_ok0 (g : Cfg) (hg : ∀ n, Go.PI.look n g.m0 ≠ Option.none → n ∈ guardFits_kp) : LoopOk guardFits_P g guardFits_o0 guardFits_C0 := LoopOk.auto guardFits_env hg guardFits_p (LoOk.of (l := [guardFits_C1, guardFits_C2]) (by kernel_rfl) (.cons (guardFits_ok1 g hg) (by kernel_rfl) (.cons (guardFits_ok2 g hg) (by kernel_rfl) .nil))) guardFits_h0 (fun x => guardFits_S0.fillK guardFits_kf guardFits_H0 x) (fun s x h => Skel.parseK_ok s x h) guardFits_l0 guardFits_e0 (fun z h => by rcases z with z | z <;> cases h) guardFits_t0 (fun z => by rcases z with z | z <;> rfl) (fun (s2_232, s7_233, s10_234, s11_235, s12_236, v1033_237, ()) => guardFits_r0 s2_232 s7_233 s10_234 s11_235 s12_236 v1033_237)
set_option maxRecDepth 100000 in
theorem guardFits_eq (p0 : (List Int)) (p1 : (List zA2)) (p2 : Int) : ocRun guardFits_c guardFits_p guardFits_f guardFits_ins guardFits_outs (p0, p1, p2, ()) = guardFits_B (p0, p1, p2, ()) := by kernel_rfl
set_option maxRecDepth 100000 in
theorem guardFits_oc : OC guardFits_P 12 guardFits_ins guardFits_outs guardFits := OC.of_tree guardFits_env Try.func12 (by kernel_rfl) (by kernel_rfl) (p := guardFits_p) (fun g hg => LoOk.of (l := [guardFits_C0, guardFits_C1, guardFits_C2]) (by kernel_rfl) (.cons (guardFits_ok0 g hg) (by kernel_rfl) (.cons (guardFits_ok1 g hg) (by kernel_rfl) (.cons (guardFits_ok2 g hg) (by kernel_rfl) .nil)))) (fun (p0, p1, p2, ()) => guardFits_eq p0 p1 p2)
end Go.Proofs.Ytnhiplibodkciaa
