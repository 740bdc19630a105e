/- Contracts of functions. Printed by auto.py. -/
import Derived.Test.YtnhiplibodkciaaHa
import Derived.Test.YtnhiplibodkciaaHb
namespace Go.Proofs.Ytnhiplibodkciaa
open Go.PI Go
noncomputable def orderH_l0 : (zH3 × (Int × (Int × (zH3 × Unit)))) → Br ((zH3 × (Int × (Int × (zH3 × Unit)))) ⊕ (zH3 × Unit)) := fun (s6_22, s7_23, s8_24, r1724_25, ()) =>
 (.cond (decide (s8_24 < s7_23))
 (.cond (decide (0 ≤ s8_24) && decide (s8_24 < (↑(List.length s6_22) : Int)))
 (.cond (decide (Prod.fst (Prod.snd (Prod.snd (Prod.snd (List.getD s6_22 (Int.toNat s8_24) (0, 0, 0, 0, 0, 0, 0, List.replicate 6 0))))) ≥ 0))
 (.cond (decide ((List.length r1724_25 + List.length (List.set (List.replicate 1 (0, 0, 0, 0, 0, 0, 0, List.replicate 6 0)) 0 (List.getD s6_22 (Int.toNat s8_24) (0, 0, 0, 0, 0, 0, 0, List.replicate 6 0)))) * 104 ≤ 140737488355328))
 (.ret (.inl (s6_22, s7_23, IntKind.wrap .i64 (s8_24 + 1), r1724_25 ++ List.set (List.replicate 1 (0, 0, 0, 0, 0, 0, 0, List.replicate 6 0)) 0 (List.getD s6_22 (Int.toNat s8_24) (0, 0, 0, 0, 0, 0, 0, List.replicate 6 0)), ())))
 (.no))
 (.ret (.inl (s6_22, s7_23, IntKind.wrap .i64 (s8_24 + 1), r1724_25, ()))))
 (.no))
 (.ret (.inr (r1724_25, ()))))
noncomputable def orderH_w0 : (zH3 × (Int × (Int × (zH3 × Unit)))) → Option (zH3 × Unit) := iterO fun x => (orderH_l0 x).run
noncomputable def orderH_B : (zH3 × Unit) → Br (zH3 × Unit) := fun (p0, ()) =>
 (.opt (orderH_w0 (p0, (↑(List.length p0) : Int), 0, [], ())) fun z27 =>
 (.opt (sortSp z27.1 ((), ())) fun y28 =>
 (.ret (y28, ()))))
noncomputable def orderH : (zH3 × Unit) → Option (zH3 × Unit) := fun x => (orderH_B x).run
abbrev orderH_ins : List (Bool × Pat) := [(false, .ty true (.sl zH4))]
abbrev orderH_outs : List Pat := [.row 33 zH4]
noncomputable abbrev orderH_f : Func := Try.f41
noncomputable abbrev orderH_P : Program := Try.prog
abbrev orderH_kp : List Nat := kpOf orderH_ins
abbrev orderH_kf : List Nat := kfOf orderH_ins
noncomputable def orderH_c : Ctx := { cxH3 with base := 1024 }
set_option maxRecDepth 100000 in
theorem orderH_env : EnvFull orderH_P orderH_c := env_base (enH3) 1024
abbrev orderH_H0 : List Hole := [.slot 6 true (.sl zH4), .slot 7 false (.int .i64), .slot 8 false (.int .i64), .ar 1724 false 33 zH4]
def orderH_S0 : Skel := ⟨23, [(3, .c (.mfull 1724))], [(1724, [])]⟩
abbrev orderH_H0e0 : List Hole := [.ar 1725 false 33 zH4]
def orderH_S0e0 : Skel := ⟨23, [(3, .c (.mfull 1725))], [(1725, [])]⟩
def orderH_h0 : Exit → Shape
  | .normal => ⟨[(3, .row 700 false 33 zH4), (6, .as true (.sl zH4)), (7, .as false (.int .i64)), (8, .as false (.int .i64))], [], [(700, false)]⟩
  | .exit 0 => ⟨[(3, .row 701 false 33 zH4)], [], [(701, false)]⟩
  | _ => ⟨[], [], []⟩
def orderH_e0 : (zH3 × Unit) → Exit × St
  | u => (.exit 0, orderH_S0e0.fillK orderH_kf orderH_H0e0 u)
def orderH_t0 : (zH3 × Unit) → Br (Exit × St) := fun u => .ret (.exit 0, orderH_S0e0.fillK orderH_kf orderH_H0e0 u)
noncomputable def orderH_C0 : Code := loopAt 0 (bodyOf orderH_f)
noncomputable def orderH_o0 : St → Br (Exit × St) := loopF orderH_kp orderH_kf 1024 (orderH_h0 .normal) (orderH_S0.parseK orderH_kf orderH_H0) fun x => .opt (orderH_w0 x) orderH_t0
noncomputable def orderH_p : Par := { sh := fun _ => none, k := 0, lo := fun i => bif Nat.beq i 3 then some orderH_o0 else none }
set_option maxRecDepth 100000 in
theorem orderH_r0 (s6_22 : zH3) (s7_23 : Int) (s8_24 : Int) (r1724_25 : zH3) : roundF orderH_kp orderH_kf orderH_c orderH_p orderH_h0 orderH_C0 (orderH_S0.fillK orderH_kf orderH_H0 (s6_22, s7_23, s8_24, r1724_25, ())) = (orderH_l0 (s6_22, s7_23, s8_24, r1724_25, ())).bind (loopLeaf (fun x => orderH_S0.fillK orderH_kf orderH_H0 x) orderH_e0) := by kernel_rfl
set_option maxRecDepth 100000 in
theorem orderH_ok0 (g : Cfg) (hg : ∀ n, Go.PI.look n g.m0 ≠ Option.none → n ∈ orderH_kp) : LoopOk orderH_P g orderH_o0 orderH_C0 := LoopOk.auto orderH_env hg orderH_p (LoOk.of (l := []) (by kernel_rfl) .nil) orderH_h0 (fun x => orderH_S0.fillK orderH_kf orderH_H0 x) (fun s x h => Skel.parseK_ok s x h) orderH_l0 orderH_e0 (fun _ h => by cases h) orderH_t0 (fun _ => rfl) (fun (s6_22, s7_23, s8_24, r1724_25, ()) => orderH_r0 s6_22 s7_23 s8_24 r1724_25)
set_option maxRecDepth 100000 in
theorem orderH_eq (p0 : zH3) : ocRun orderH_c orderH_p orderH_f orderH_ins orderH_outs (p0, ()) = orderH_B (p0, ()) := by kernel_rfl
set_option maxRecDepth 100000 in
theorem orderH_oc : OC orderH_P 41 orderH_ins orderH_outs orderH := OC.of_tree orderH_env Try.func41 (by kernel_rfl) (by kernel_rfl) (p := orderH_p) (fun g hg => LoOk.of (l := [orderH_C0]) (by kernel_rfl) (.cons (orderH_ok0 g hg) (by kernel_rfl) .nil)) (fun (p0, ()) => orderH_eq p0)
noncomputable def cx_orderH : Ctx := addO cxH3 41 (ocOrc orderH_ins orderH_outs orderH)
theorem en_orderH : EnvFull Try.prog cx_orderH := env_add (enH3) orderH_oc.callOk
noncomputable def histOrder_l1 : (Int × (Bool × (Int × (Int × (Int × (zH3 × (zH3 × Unit))))))) → Br ((Int × (Bool × (Int × (Int × (Int × (zH3 × (zH3 × Unit))))))) ⊕ (Unit ⊕ (Int × (Bool × (Int × (Int × (zH3 × (zH3 × Unit)))))))) := fun (s1_207, s6_208, s8_209, s9_210, s10_211, r1070980_212, r1075076_213, ()) =>
 (.cond (decide (s10_211 < (↑(List.length r1070980_212) : Int)))
 (.cond (decide (0 ≤ s9_210) && decide (s9_210 < (↑(List.length r1070980_212) : Int)))
 (.cond (decide (0 ≤ s10_211) && decide (s10_211 < (↑(List.length r1070980_212) : Int)))
 (.opt (aheadH (List.getD r1070980_212 (Int.toNat s9_210) (0, 0, 0, 0, 0, 0, 0, List.replicate 6 0), List.getD r1070980_212 (Int.toNat s10_211) (0, 0, 0, 0, 0, 0, 0, List.replicate 6 0), ())) fun y214 =>
 (.cond (decide (0 ≤ s9_210) && decide (s9_210 < (↑(List.length r1070980_212) : Int)))
 (.cond (decide (Prod.fst (Prod.snd (Prod.snd (Prod.snd (Prod.snd (List.getD r1070980_212 (Int.toNat s9_210) (0, 0, 0, 0, 0, 0, 0, List.replicate 6 0)))))) ≥ 0))
 (.cond (decide (0 ≤ s9_210) && decide (s9_210 < (↑(List.length r1070980_212) : Int)))
 (.cond (decide (0 ≤ s10_211) && decide (s10_211 < (↑(List.length r1070980_212) : Int)))
 (.cond (!y214.1 == decide (Prod.fst (Prod.snd (Prod.snd (Prod.snd (Prod.snd (List.getD r1070980_212 (Int.toNat s9_210) (0, 0, 0, 0, 0, 0, 0, List.replicate 6 0)))))) < Prod.fst (Prod.snd (Prod.snd (List.getD r1070980_212 (Int.toNat s10_211) (0, 0, 0, 0, 0, 0, 0, List.replicate 6 0))))))
 (.ret (.inr (.inl (()))))
 (.ret (.inl (s1_207, s6_208, s8_209, s9_210, IntKind.wrap .i64 (s10_211 + 1), r1070980_212, r1075076_213, ()))))
 (.no))
 (.no))
 (.cond (!y214.1 == false)
 (.ret (.inr (.inl (()))))
 (.ret (.inl (s1_207, s6_208, s8_209, s9_210, IntKind.wrap .i64 (s10_211 + 1), r1070980_212, r1075076_213, ())))))
 (.no)))
 (.no))
 (.no))
 (.ret (.inr (.inr (s1_207, s6_208, s8_209, s9_210, r1070980_212, r1075076_213, ())))))
noncomputable def histOrder_w1 : (Int × (Bool × (Int × (Int × (Int × (zH3 × (zH3 × Unit))))))) → Option (Unit ⊕ (Int × (Bool × (Int × (Int × (zH3 × (zH3 × Unit))))))) := iterO fun x => (histOrder_l1 x).run
noncomputable def histOrder_l0 : (Int × (Bool × (Int × (Int × (zH3 × (zH3 × Unit)))))) → Br ((Int × (Bool × (Int × (Int × (zH3 × (zH3 × Unit)))))) ⊕ (Unit ⊕ (Int × (Bool × (Int × (zH3 × Unit)))))) := fun (s1_201, s6_202, s8_203, s9_204, r1070980_205, r1075076_206, ()) =>
 (.cond (decide (s9_204 < (↑(List.length r1070980_205) : Int)))
 (.cond (decide (0 ≤ s9_204) && decide (s9_204 < (↑(List.length r1070980_205) : Int)))
 (.cond (decide (Prod.fst (Prod.snd (Prod.snd (Prod.snd (List.getD r1070980_205 (Int.toNat s9_204) (0, 0, 0, 0, 0, 0, 0, List.replicate 6 0))))) ≥ 0))
 (.opt (histOrder_w1 (s1_201, s6_202, IntKind.wrap .i64 (s8_203 + 1), s9_204, 0, r1070980_205, r1075076_206, ())) fun z216 =>
 (.sum z216 (fun u217 =>
 (.ret (.inr (.inl (()))))) (fun z218 =>
 (.ret (.inl (z218.1, z218.2.1, z218.2.2.1, IntKind.wrap .i64 (z218.2.2.2.1 + 1), z218.2.2.2.2.1, z218.2.2.2.2.2.1, ()))))))
 (.opt (histOrder_w1 (s1_201, s6_202, s8_203, s9_204, 0, r1070980_205, r1075076_206, ())) fun z227 =>
 (.sum z227 (fun u228 =>
 (.ret (.inr (.inl (()))))) (fun z229 =>
 (.ret (.inl (z229.1, z229.2.1, z229.2.2.1, IntKind.wrap .i64 (z229.2.2.2.1 + 1), z229.2.2.2.2.1, z229.2.2.2.2.2.1, ())))))))
 (.no))
 (.ret (.inr (.inr (s1_201, s6_202, s8_203, r1075076_206, ())))))
noncomputable def histOrder_w0 : (Int × (Bool × (Int × (Int × (zH3 × (zH3 × Unit)))))) → Option (Unit ⊕ (Int × (Bool × (Int × (zH3 × Unit))))) := iterO fun x => (histOrder_l0 x).run
noncomputable def histOrder_l2 : (Int × (Int × (Int × (zH3 × Unit)))) → Br ((Int × (Int × (Int × (zH3 × Unit)))) ⊕ (Unit ⊕ (Int × (Int × (zH3 × Unit))))) := fun (s1_235, s8_236, s11_237, r1075076_238, ()) =>
 (.cond (decide (s11_237 < (↑(List.length r1075076_238) : Int)))
 (.cond (decide (0 ≤ IntKind.wrap .i64 (s11_237 - 1)) && decide (IntKind.wrap .i64 (s11_237 - 1) < (↑(List.length r1075076_238) : Int)))
 (.cond (decide (0 ≤ s11_237) && decide (s11_237 < (↑(List.length r1075076_238) : Int)))
 (.cond (decide (Prod.fst (Prod.snd (Prod.snd (Prod.snd (List.getD r1075076_238 (Int.toNat (IntKind.wrap .i64 (s11_237 - 1))) (0, 0, 0, 0, 0, 0, 0, List.replicate 6 0))))) ≥ Prod.fst (Prod.snd (Prod.snd (Prod.snd (List.getD r1075076_238 (Int.toNat s11_237) (0, 0, 0, 0, 0, 0, 0, List.replicate 6 0)))))))
 (.ret (.inr (.inl (()))))
 (.ret (.inl (s1_235, s8_236, IntKind.wrap .i64 (s11_237 + 1), r1075076_238, ()))))
 (.no))
 (.no))
 (.ret (.inr (.inr (s1_235, s8_236, r1075076_238, ())))))
noncomputable def histOrder_w2 : (Int × (Int × (Int × (zH3 × Unit)))) → Option (Unit ⊕ (Int × (Int × (zH3 × Unit)))) := iterO fun x => (histOrder_l2 x).run
noncomputable def histOrder_l4 : (Int × (Bool × (Int × (Int × (zH3 × Unit))))) → Br ((Int × (Bool × (Int × (Int × (zH3 × Unit))))) ⊕ (Int × (Bool × (Int × (zH3 × Unit))))) := fun (s8_248, s14_249, s15_250, s16_251, r1075076_252, ()) =>
 (.cond (decide (s16_251 < s15_250))
 (.cond (s14_249)
 (.cond (decide (0 ≤ s15_250) && decide (s15_250 < (↑(List.length r1075076_252) : Int)))
 (.cond (decide (Prod.fst (Prod.snd (Prod.snd (Prod.snd (Prod.snd (List.getD r1075076_252 (Int.toNat s15_250) (0, 0, 0, 0, 0, 0, 0, List.replicate 6 0)))))) ≥ 0))
 (.cond (decide (0 ≤ s15_250) && decide (s15_250 < (↑(List.length r1075076_252) : Int)))
 (.cond (decide (0 ≤ s16_251) && decide (s16_251 < (↑(List.length r1075076_252) : Int)))
 (.ret (.inl (s8_248, !decide (Prod.fst (Prod.snd (Prod.snd (Prod.snd (Prod.snd (List.getD r1075076_252 (Int.toNat s15_250) (0, 0, 0, 0, 0, 0, 0, List.replicate 6 0)))))) < Prod.fst (Prod.snd (Prod.snd (List.getD r1075076_252 (Int.toNat s16_251) (0, 0, 0, 0, 0, 0, 0, List.replicate 6 0))))), s15_250, IntKind.wrap .i64 (s16_251 + 1), r1075076_252, ())))
 (.no))
 (.no))
 (.ret (.inl (s8_248, true, s15_250, IntKind.wrap .i64 (s16_251 + 1), r1075076_252, ()))))
 (.no))
 (.ret (.inl (s8_248, false, s15_250, IntKind.wrap .i64 (s16_251 + 1), r1075076_252, ()))))
 (.ret (.inr (s8_248, s14_249, s15_250, r1075076_252, ()))))
noncomputable def histOrder_w4 : (Int × (Bool × (Int × (Int × (zH3 × Unit))))) → Option (Int × (Bool × (Int × (zH3 × Unit)))) := iterO fun x => (histOrder_l4 x).run
noncomputable def histOrder_l3 : (Int × (Bool × (Int × (zH3 × Unit)))) → Br ((Int × (Bool × (Int × (zH3 × Unit)))) ⊕ (Bool × (zH3 × Unit))) := fun (s8_244, s14_245, s15_246, r1075076_247, ()) =>
 (.cond (decide (s15_246 < s8_244))
 (.opt (histOrder_w4 (s8_244, s14_245, s15_246, 0, r1075076_247, ())) fun z254 =>
 (.ret (.inl (z254.1, z254.2.1, IntKind.wrap .i64 (z254.2.2.1 + 1), z254.2.2.2.1, ()))))
 (.ret (.inr (s14_245, r1075076_247, ()))))
noncomputable def histOrder_w3 : (Int × (Bool × (Int × (zH3 × Unit)))) → Option (Bool × (zH3 × Unit)) := iterO fun x => (histOrder_l3 x).run
noncomputable def histOrder_B : ((List Int) × (Int × Unit)) → Br (Bool × Unit) := fun (p0, p1, ()) =>
 (.opt (madeH (p0, 15, ())) fun y198 =>
 (.opt (spansH (y198.1, ())) fun y199 =>
 (.opt (orderH (y199.1.1, ())) fun y200 =>
 (.opt (histOrder_w0 (p1, y199.1.2, 0, 0, y199.1.1, y200.1, ())) fun z231 =>
 (.sum z231 (fun u232 =>
 (.ret (false, ()))) (fun z233 =>
 (.cond (!z233.2.1)
 (.ret (false, ()))
 (.cond ((↑(List.length z233.2.2.2.1) : Int) != z233.2.2.1)
 (.ret (false, ()))
 (.opt (respH (z233.2.2.2.1, ())) fun y234 =>
 (.cond (!y234.1)
 (.ret (false, ()))
 (.opt (histOrder_w2 (z233.1, z233.2.2.1, 1, z233.2.2.2.1, ())) fun z240 =>
 (.sum z240 (fun u241 =>
 (.ret (false, ()))) (fun z242 =>
 (.cond (decide (z242.2.1 < 2))
 (.opt (awake47 ()) fun y243 =>
 (.ret (y243.1, ())))
 (.cond (decide (z242.2.1 = 0))
 (.no)
 (.cond (false)
 (.no)
 (.cond (decide (z242.2.1 = 0))
 (.no)
 (.cond (decide (0 ≤ Int.tmod (IntKind.wrap .i64 (↑(BitVec.toNat (BitVec.ofInt (IntKind.bits .i64) (Int.fdiv z242.1 (2 ^ min (Int.toNat 8) (IntKind.bits .i64))) &&& BitVec.ofInt (IntKind.bits .i64) 255)) : Int)) z242.2.1) && decide (Int.tmod (IntKind.wrap .i64 (↑(BitVec.toNat (BitVec.ofInt (IntKind.bits .i64) (Int.fdiv z242.1 (2 ^ min (Int.toNat 8) (IntKind.bits .i64))) &&& BitVec.ofInt (IntKind.bits .i64) 255)) : Int)) z242.2.1 < (↑(List.length z242.2.2.1) : Int)))
 (.cond (decide (0 ≤ Int.tmod (IntKind.wrap .i64 (↑(BitVec.toNat (BitVec.ofInt (IntKind.bits .i64) z242.1 &&& BitVec.ofInt (IntKind.bits .i64) 255)) : Int)) z242.2.1) && decide (Int.tmod (IntKind.wrap .i64 (↑(BitVec.toNat (BitVec.ofInt (IntKind.bits .i64) z242.1 &&& BitVec.ofInt (IntKind.bits .i64) 255)) : Int)) z242.2.1 < (↑(List.length z242.2.2.1) : Int)))
 (.cond (decide (0 ≤ Int.tmod (IntKind.wrap .i64 (↑(BitVec.toNat (BitVec.ofInt (IntKind.bits .i64) z242.1 &&& BitVec.ofInt (IntKind.bits .i64) 255)) : Int)) z242.2.1) && decide (Int.tmod (IntKind.wrap .i64 (↑(BitVec.toNat (BitVec.ofInt (IntKind.bits .i64) z242.1 &&& BitVec.ofInt (IntKind.bits .i64) 255)) : Int)) z242.2.1 < (↑(List.length z242.2.2.1) : Int)))
 (.cond (decide (0 ≤ Int.tmod (IntKind.wrap .i64 (↑(BitVec.toNat (BitVec.ofInt (IntKind.bits .i64) (Int.fdiv z242.1 (2 ^ min (Int.toNat 8) (IntKind.bits .i64))) &&& BitVec.ofInt (IntKind.bits .i64) 255)) : Int)) z242.2.1) && decide (Int.tmod (IntKind.wrap .i64 (↑(BitVec.toNat (BitVec.ofInt (IntKind.bits .i64) (Int.fdiv z242.1 (2 ^ min (Int.toNat 8) (IntKind.bits .i64))) &&& BitVec.ofInt (IntKind.bits .i64) 255)) : Int)) z242.2.1 < (↑(List.length (List.set z242.2.2.1 (Int.toNat (Int.tmod (IntKind.wrap .i64 (↑(BitVec.toNat (BitVec.ofInt (IntKind.bits .i64) z242.1 &&& BitVec.ofInt (IntKind.bits .i64) 255)) : Int)) z242.2.1)) (List.getD z242.2.2.1 (Int.toNat (Int.tmod (IntKind.wrap .i64 (↑(BitVec.toNat (BitVec.ofInt (IntKind.bits .i64) (Int.fdiv z242.1 (2 ^ min (Int.toNat 8) (IntKind.bits .i64))) &&& BitVec.ofInt (IntKind.bits .i64) 255)) : Int)) z242.2.1)) (0, 0, 0, 0, 0, 0, 0, List.replicate 6 0)))) : Int)))
 (.opt (histOrder_w3 (z242.2.1, true, 0, List.set (List.set z242.2.2.1 (Int.toNat (Int.tmod (IntKind.wrap .i64 (↑(BitVec.toNat (BitVec.ofInt (IntKind.bits .i64) z242.1 &&& BitVec.ofInt (IntKind.bits .i64) 255)) : Int)) z242.2.1)) (List.getD z242.2.2.1 (Int.toNat (Int.tmod (IntKind.wrap .i64 (↑(BitVec.toNat (BitVec.ofInt (IntKind.bits .i64) (Int.fdiv z242.1 (2 ^ min (Int.toNat 8) (IntKind.bits .i64))) &&& BitVec.ofInt (IntKind.bits .i64) 255)) : Int)) z242.2.1)) (0, 0, 0, 0, 0, 0, 0, List.replicate 6 0))) (Int.toNat (Int.tmod (IntKind.wrap .i64 (↑(BitVec.toNat (BitVec.ofInt (IntKind.bits .i64) (Int.fdiv z242.1 (2 ^ min (Int.toNat 8) (IntKind.bits .i64))) &&& BitVec.ofInt (IntKind.bits .i64) 255)) : Int)) z242.2.1)) (List.getD z242.2.2.1 (Int.toNat (Int.tmod (IntKind.wrap .i64 (↑(BitVec.toNat (BitVec.ofInt (IntKind.bits .i64) z242.1 &&& BitVec.ofInt (IntKind.bits .i64) 255)) : Int)) z242.2.1)) (0, 0, 0, 0, 0, 0, 0, List.replicate 6 0)), ())) fun z256 =>
 (.opt (awake47 ()) fun y257 =>
 (.cond y257.1
 (.opt (respH (z256.2.1, ())) fun y258 =>
 (.ret (y258.1 == z256.1, ())))
 (.ret (false, ())))))
 (.no))
 (.no))
 (.no))
 (.no)))))))))))))))))))
noncomputable def histOrder : ((List Int) × (Int × Unit)) → Option (Bool × Unit) := fun x => (histOrder_B x).run
abbrev histOrder_ins : List (Bool × Pat) := [(false, .ty true (.sl (.int .i64))), (false, .ty false (.int .i64))]
abbrev histOrder_outs : List Pat := [.ty false .bool]
noncomputable abbrev histOrder_f : Func := Try.f10
noncomputable abbrev histOrder_P : Program := Try.prog
abbrev histOrder_kp : List Nat := kpOf histOrder_ins
abbrev histOrder_kf : List Nat := kfOf histOrder_ins
noncomputable def histOrder_c : Ctx := { cx_orderH with base := 1024 }
set_option maxRecDepth 100000 in
theorem histOrder_env : EnvFull histOrder_P histOrder_c := env_base (en_orderH) 1024
abbrev histOrder_H1 : List Hole := [.slot 1 false (.int .i64), .slot 6 false .bool, .slot 8 false (.int .i64), .slot 9 false (.int .i64), .slot 10 false (.int .i64), .ar 1070980 false 33 zH4, .ar 1075076 false 33 zH4]
def histOrder_S1 : Skel := ⟨171, [(5, D.c (C.mfull 1070980)), (7, D.c (C.mfull 1075076))], [(1070980, []), (1075076, [])]⟩
abbrev histOrder_H1e0 : List Hole := []
def histOrder_S1e0 : Skel := ⟨171, [(4, D.c C.ff)], []⟩
abbrev histOrder_H1e1 : List Hole := [.slot 1 false (.int .i64), .slot 6 false .bool, .slot 8 false (.int .i64), .slot 9 false (.int .i64), .ar 1070980 false 33 zH4, .ar 1075076 false 33 zH4]
def histOrder_S1e1 : Skel := ⟨171, [(5, D.c (C.mfull 1070980)), (7, D.c (C.mfull 1075076))], [(1070980, []), (1075076, [])]⟩
def histOrder_h1 : Exit → Shape
  | .normal => ⟨[(1, .as false (.int .i64)), (5, .keep), (6, .as false .bool), (7, .keep), (8, .as false (.int .i64)), (9, .as false (.int .i64)), (10, .as false (.int .i64))], [], [(1069956, false), (1074052, false)]⟩
  | .ret => ⟨[(4, .keep)], [], []⟩
  | .exit 2 => ⟨[(1, .as false (.int .i64)), (5, .keep), (6, .as false .bool), (7, .keep), (8, .as false (.int .i64)), (9, .as false (.int .i64))], [], [(1069956, false), (1074052, false)]⟩
  | _ => ⟨[], [], []⟩
def histOrder_e1 : (Unit ⊕ (Int × (Bool × (Int × (Int × (zH3 × (zH3 × Unit))))))) → Exit × St
  | (.inl u) => (.ret, histOrder_S1e0.fillK histOrder_kf histOrder_H1e0 u)
  | (.inr u) => (.exit 2, histOrder_S1e1.fillK histOrder_kf histOrder_H1e1 u)
def histOrder_t1 : (Unit ⊕ (Int × (Bool × (Int × (Int × (zH3 × (zH3 × Unit))))))) → Br (Exit × St) := fun z => .sum z (fun u => .ret (.ret, histOrder_S1e0.fillK histOrder_kf histOrder_H1e0 u)) (fun u => .ret (.exit 2, histOrder_S1e1.fillK histOrder_kf histOrder_H1e1 u))
noncomputable def histOrder_C1 : Code := loopAt 1 (bodyOf histOrder_f)
noncomputable def histOrder_o1 : St → Br (Exit × St) := loopF histOrder_kp histOrder_kf 1024 (histOrder_h1 .normal) (histOrder_S1.parseK histOrder_kf histOrder_H1) fun x => .opt (histOrder_w1 x) histOrder_t1
abbrev histOrder_H0 : List Hole := [.slot 1 false (.int .i64), .slot 6 false .bool, .slot 8 false (.int .i64), .slot 9 false (.int .i64), .ar 1070980 false 33 zH4, .ar 1075076 false 33 zH4]
def histOrder_S0 : Skel := ⟨171, [(5, D.c (C.mfull 1070980)), (7, D.c (C.mfull 1075076))], [(1070980, []), (1075076, [])]⟩
abbrev histOrder_H0e0 : List Hole := []
def histOrder_S0e0 : Skel := ⟨171, [(4, D.c C.ff)], []⟩
abbrev histOrder_H0e1 : List Hole := [.slot 1 false (.int .i64), .slot 6 false .bool, .slot 8 false (.int .i64), .ar 1075076 false 33 zH4]
def histOrder_S0e1 : Skel := ⟨171, [(7, D.c (C.mfull 1075076))], [(1075076, [])]⟩
def histOrder_h0 : Exit → Shape
  | .normal => ⟨[(1, .as false (.int .i64)), (5, .keep), (6, .as false .bool), (7, .keep), (8, .as false (.int .i64)), (9, .as false (.int .i64))], [], [(1069956, false), (1074052, false)]⟩
  | .ret => ⟨[(4, .keep)], [], []⟩
  | .exit 0 => ⟨[(1, .as false (.int .i64)), (6, .as false .bool), (7, .keep), (8, .as false (.int .i64))], [], [(1074052, false)]⟩
  | _ => ⟨[], [], []⟩
def histOrder_e0 : (Unit ⊕ (Int × (Bool × (Int × (zH3 × Unit))))) → Exit × St
  | (.inl u) => (.ret, histOrder_S0e0.fillK histOrder_kf histOrder_H0e0 u)
  | (.inr u) => (.exit 0, histOrder_S0e1.fillK histOrder_kf histOrder_H0e1 u)
def histOrder_t0 : (Unit ⊕ (Int × (Bool × (Int × (zH3 × Unit))))) → Br (Exit × St) := fun z => .sum z (fun u => .ret (.ret, histOrder_S0e0.fillK histOrder_kf histOrder_H0e0 u)) (fun u => .ret (.exit 0, histOrder_S0e1.fillK histOrder_kf histOrder_H0e1 u))
noncomputable def histOrder_C0 : Code := loopAt 0 (bodyOf histOrder_f)
noncomputable def histOrder_o0 : St → Br (Exit × St) := loopF histOrder_kp histOrder_kf 1024 (histOrder_h0 .normal) (histOrder_S0.parseK histOrder_kf histOrder_H0) fun x => .opt (histOrder_w0 x) histOrder_t0
abbrev histOrder_H2 : List Hole := [.slot 1 false (.int .i64), .slot 8 false (.int .i64), .slot 11 false (.int .i64), .ar 1075076 false 33 zH4]
def histOrder_S2 : Skel := ⟨171, [(7, D.c (C.mfull 1075076))], [(1075076, [])]⟩
abbrev histOrder_H2e0 : List Hole := []
def histOrder_S2e0 : Skel := ⟨171, [(4, D.c C.ff)], []⟩
abbrev histOrder_H2e1 : List Hole := [.slot 1 false (.int .i64), .slot 8 false (.int .i64), .ar 1075076 false 33 zH4]
def histOrder_S2e1 : Skel := ⟨171, [(7, D.c (C.mfull 1075076))], [(1075076, [])]⟩
def histOrder_h2 : Exit → Shape
  | .normal => ⟨[(1, .as false (.int .i64)), (7, .keep), (8, .as false (.int .i64)), (11, .as false (.int .i64))], [], [(1074052, false)]⟩
  | .ret => ⟨[(4, .keep)], [], []⟩
  | .exit 4 => ⟨[(1, .as false (.int .i64)), (7, .keep), (8, .as false (.int .i64))], [], [(1074052, false)]⟩
  | _ => ⟨[], [], []⟩
def histOrder_e2 : (Unit ⊕ (Int × (Int × (zH3 × Unit)))) → Exit × St
  | (.inl u) => (.ret, histOrder_S2e0.fillK histOrder_kf histOrder_H2e0 u)
  | (.inr u) => (.exit 4, histOrder_S2e1.fillK histOrder_kf histOrder_H2e1 u)
def histOrder_t2 : (Unit ⊕ (Int × (Int × (zH3 × Unit)))) → Br (Exit × St) := fun z => .sum z (fun u => .ret (.ret, histOrder_S2e0.fillK histOrder_kf histOrder_H2e0 u)) (fun u => .ret (.exit 4, histOrder_S2e1.fillK histOrder_kf histOrder_H2e1 u))
noncomputable def histOrder_C2 : Code := loopAt 2 (bodyOf histOrder_f)
noncomputable def histOrder_o2 : St → Br (Exit × St) := loopF histOrder_kp histOrder_kf 1024 (histOrder_h2 .normal) (histOrder_S2.parseK histOrder_kf histOrder_H2) fun x => .opt (histOrder_w2 x) histOrder_t2
abbrev histOrder_H4 : List Hole := [.slot 8 false (.int .i64), .slot 14 false .bool, .slot 15 false (.int .i64), .slot 16 false (.int .i64), .ar 1075076 false 33 zH4]
def histOrder_S4 : Skel := ⟨171, [(7, D.c (C.mfull 1075076))], [(1075076, [])]⟩
abbrev histOrder_H4e0 : List Hole := [.slot 8 false (.int .i64), .slot 14 false .bool, .slot 15 false (.int .i64), .ar 1075076 false 33 zH4]
def histOrder_S4e0 : Skel := ⟨171, [(7, D.c (C.mfull 1075076))], [(1075076, [])]⟩
def histOrder_h4 : Exit → Shape
  | .normal => ⟨[(7, .keep), (8, .as false (.int .i64)), (14, .as false .bool), (15, .as false (.int .i64)), (16, .as false (.int .i64))], [], [(1074052, false)]⟩
  | .exit 8 => ⟨[(7, .keep), (8, .as false (.int .i64)), (14, .as false .bool), (15, .as false (.int .i64))], [], [(1074052, false)]⟩
  | _ => ⟨[], [], []⟩
def histOrder_e4 : (Int × (Bool × (Int × (zH3 × Unit)))) → Exit × St
  | u => (.exit 8, histOrder_S4e0.fillK histOrder_kf histOrder_H4e0 u)
def histOrder_t4 : (Int × (Bool × (Int × (zH3 × Unit)))) → Br (Exit × St) := fun u => .ret (.exit 8, histOrder_S4e0.fillK histOrder_kf histOrder_H4e0 u)
noncomputable def histOrder_C4 : Code := loopAt 4 (bodyOf histOrder_f)
noncomputable def histOrder_o4 : St → Br (Exit × St) := loopF histOrder_kp histOrder_kf 1024 (histOrder_h4 .normal) (histOrder_S4.parseK histOrder_kf histOrder_H4) fun x => .opt (histOrder_w4 x) histOrder_t4
abbrev histOrder_H3 : List Hole := [.slot 8 false (.int .i64), .slot 14 false .bool, .slot 15 false (.int .i64), .ar 1075076 false 33 zH4]
def histOrder_S3 : Skel := ⟨171, [(7, D.c (C.mfull 1075076))], [(1075076, [])]⟩
abbrev histOrder_H3e0 : List Hole := [.slot 14 false .bool, .ar 1075076 false 33 zH4]
def histOrder_S3e0 : Skel := ⟨171, [(7, D.c (C.mfull 1075076))], [(1075076, [])]⟩
def histOrder_h3 : Exit → Shape
  | .normal => ⟨[(7, .keep), (8, .as false (.int .i64)), (14, .as false .bool), (15, .as false (.int .i64))], [], [(1074052, false)]⟩
  | .exit 6 => ⟨[(7, .keep), (14, .as false .bool)], [], [(1074052, false)]⟩
  | _ => ⟨[], [], []⟩
def histOrder_e3 : (Bool × (zH3 × Unit)) → Exit × St
  | u => (.exit 6, histOrder_S3e0.fillK histOrder_kf histOrder_H3e0 u)
def histOrder_t3 : (Bool × (zH3 × Unit)) → Br (Exit × St) := fun u => .ret (.exit 6, histOrder_S3e0.fillK histOrder_kf histOrder_H3e0 u)
noncomputable def histOrder_C3 : Code := loopAt 3 (bodyOf histOrder_f)
noncomputable def histOrder_o3 : St → Br (Exit × St) := loopF histOrder_kp histOrder_kf 1024 (histOrder_h3 .normal) (histOrder_S3.parseK histOrder_kf histOrder_H3) fun x => .opt (histOrder_w3 x) histOrder_t3
noncomputable def histOrder_p : Par := { sh := fun _ => none, k := 0, lo := fun i => bif Nat.beq i 5 then some histOrder_o0 else bif Nat.beq i 10 then some histOrder_o1 else bif Nat.beq i 17 then some histOrder_o2 else bif Nat.beq i 27 then some histOrder_o3 else bif Nat.beq i 30 then some histOrder_o4 else none }
set_option maxRecDepth 100000 in
theorem histOrder_r1 (s1_207 : Int) (s6_208 : Bool) (s8_209 : Int) (s9_210 : Int) (s10_211 : Int) (r1070980_212 : zH3) (r1075076_213 : zH3) : roundF histOrder_kp histOrder_kf histOrder_c histOrder_p histOrder_h1 histOrder_C1 (histOrder_S1.fillK histOrder_kf histOrder_H1 (s1_207, s6_208, s8_209, s9_210, s10_211, r1070980_212, r1075076_213, ())) = (histOrder_l1 (s1_207, s6_208, s8_209, s9_210, s10_211, r1070980_212, r1075076_213, ())).bind (loopLeaf (fun x => histOrder_S1.fillK histOrder_kf histOrder_H1 x) histOrder_e1) := by kernel_rfl
set_option maxRecDepth 100000 in
theorem histOrder_ok1 (g : Cfg) (hg : ∀ n, Go.PI.look n g.m0 ≠ Option.none → n ∈ histOrder_kp) : LoopOk histOrder_P g histOrder_o1 histOrder_C1 := LoopOk.auto histOrder_env hg histOrder_p (LoOk.of (l := []) (by kernel_rfl) .nil) histOrder_h1 (fun x => histOrder_S1.fillK histOrder_kf histOrder_H1 x) (fun s x h => Skel.parseK_ok s x h) histOrder_l1 histOrder_e1 (fun z h => by rcases z with z | z <;> cases h) histOrder_t1 (fun z => by rcases z with z | z <;> rfl) (fun (s1_207, s6_208, s8_209, s9_210, s10_211, r1070980_212, r1075076_213, ()) => histOrder_r1 s1_207 s6_208 s8_209 s9_210 s10_211 r1070980_212 r1075076_213)
set_option maxRecDepth 100000 in
theorem histOrder_r0 (s1_201 : Int) (s6_202 : Bool) (s8_203 : Int) (s9_204 : Int) (r1070980_205 : zH3) (r1075076_206 : zH3) : roundF histOrder_kp histOrder_kf histOrder_c histOrder_p histOrder_h0 histOrder_C0 (histOrder_S0.fillK histOrder_kf histOrder_H0 (s1_201, s6_202, s8_203, s9_204, r1070980_205, r1075076_206, ())) = (histOrder_l0 (s1_201, s6_202, s8_203, s9_204, r1070980_205, r1075076_206, ())).bind (loopLeaf (fun x => histOrder_S0.fillK histOrder_kf histOrder_H0 x) histOrder_e0) := by kernel_rfl
set_option maxRecDepth 100000 in
theorem histOrder_ok0 (g : Cfg) (hg : ∀ n, Go.PI.look n g.m0 ≠ Option.none → n ∈ histOrder_kp) : LoopOk histOrder_P g histOrder_o0 histOrder_C0 := LoopOk.auto histOrder_env hg histOrder_p (LoOk.of (l := [histOrder_C1]) (by kernel_rfl) (.cons (histOrder_ok1 g hg) (by kernel_rfl) .nil)) histOrder_h0 (fun x => histOrder_S0.fillK histOrder_kf histOrder_H0 x) (fun s x h => Skel.parseK_ok s x h) histOrder_l0 histOrder_e0 (fun z h => by rcases z with z | z <;> cases h) histOrder_t0 (fun z => by rcases z with z | z <;> rfl) (fun (s1_201, s6_202, s8_203, s9_204, r1070980_205, r1075076_206, ()) => histOrder_r0 s1_201 s6_202 s8_203 s9_204 r1070980_205 r1075076_206)
set_option maxRecDepth 100000 in
theorem histOrder_r2 (s1_235 : Int) (s8_236 : Int) (s11_237 : Int) (r1075076_238 : zH3) : roundF histOrder_kp histOrder_kf histOrder_c histOrder_p histOrder_h2 histOrder_C2 (histOrder_S2.fillK histOrder_kf histOrder_H2 (s1_235, s8_236, s11_237, r1075076_238, ())) = (histOrder_l2 (s1_235, s8_236, s11_237, r1075076_238, ())).bind (loopLeaf (fun x => histOrder_S2.fillK histOrder_kf histOrder_H2 x) histOrder_e2) := by kernel_rfl
set_option maxRecDepth 100000 in
theorem histOrder_ok2 (g : Cfg) (hg : ∀ n, Go.PI.look n g.m0 ≠ Option.none → n ∈ histOrder_kp) : LoopOk histOrder_P g histOrder_o2 histOrder_C2 := LoopOk.auto histOrder_env hg histOrder_p (LoOk.of (l := []) (by kernel_rfl) .nil) histOrder_h2 (fun x => histOrder_S2.fillK histOrder_kf histOrder_H2 x) (fun s x h => Skel.parseK_ok s x h) histOrder_l2 histOrder_e2 (fun z h => by rcases z with z | z <;> cases h) histOrder_t2 (fun z => by rcases z with z | z <;> rfl) (fun (s1_235, s8_236, s11_237, r1075076_238, ()) => histOrder_r2 s1_235 s8_236 s11_237 r1075076_238)
set_option maxRecDepth 100000 in
theorem histOrder_r4 (s8_248 : Int) (s14_249 : Bool) (s15_250 : Int) (s16_251 : Int) (r1075076_252 : zH3) : roundF histOrder_kp histOrder_kf histOrder_c histOrder_p histOrder_h4 histOrder_C4 (histOrder_S4.fillK histOrder_kf histOrder_H4 (s8_248, s14_249, s15_250, s16_251, r1075076_252, ())) = (histOrder_l4 (s8_248, s14_249, s15_250, s16_251, r1075076_252, ())).bind (loopLeaf (fun x => histOrder_S4.fillK histOrder_kf histOrder_H4 x) histOrder_e4) := by kernel_rfl
set_option maxRecDepth 100000 in
theorem histOrder_ok4 (g : Cfg) (hg : ∀ n, Go.PI.look n g.m0 ≠ Option.none → n ∈ histOrder_kp) : LoopOk histOrder_P g histOrder_o4 histOrder_C4 := LoopOk.auto histOrder_env hg histOrder_p (LoOk.of (l := []) (by kernel_rfl) .nil) histOrder_h4 (fun x => histOrder_S4.fillK histOrder_kf histOrder_H4 x) (fun s x h => Skel.parseK_ok s x h) histOrder_l4 histOrder_e4 (fun _ h => by cases h) histOrder_t4 (fun _ => rfl) (fun (s8_248, s14_249, s15_250, s16_251, r1075076_252, ()) => histOrder_r4 s8_248 s14_249 s15_250 s16_251 r1075076_252)
set_option maxRecDepth 100000 in
theorem histOrder_r3 (s8_244 : Int) (s14_245 : Bool) (s15_246 : Int) (r1075076_247 : zH3) : roundF histOrder_kp histOrder_kf histOrder_c histOrder_p histOrder_h3 histOrder_C3 (histOrder_S3.fillK histOrder_kf histOrder_H3 (s8_244, s14_245, s15_246, r1075076_247, ())) = (histOrder_l3 (s8_244, s14_245, s15_246, r1075076_247, ())).bind (loopLeaf (fun x => histOrder_S3.fillK histOrder_kf histOrder_H3 x) histOrder_e3) := by kernel_rfl
set_option maxRecDepth 100000 in
theorem histOrder_ok3 (g : Cfg) (hg : ∀ n, Go.PI.look n g.m0 ≠ Option.none → n ∈ histOrder_kp) : LoopOk histOrder_P g histOrder_o3 histOrder_C3 := LoopOk.auto histOrder_env hg histOrder_p (LoOk.of (l := [histOrder_C4]) (by kernel_rfl) (.cons (histOrder_ok4 g hg) (by kernel_rfl) .nil)) histOrder_h3 (fun x => histOrder_S3.fillK histOrder_kf histOrder_H3 x) (fun s x h => Skel.parseK_ok s x h) histOrder_l3 histOrder_e3 (fun _ h => by cases h) histOrder_t3 (fun _ => rfl) (fun (s8_244, s14_245, s15_246, r1075076_247, ()) => histOrder_r3 s8_244 s14_245 s15_246 r1075076_247)
set_option maxRecDepth 100000 in
theorem histOrder_eq (p0 : (List Int)) (p1 : Int) : ocRun histOrder_c histOrder_p histOrder_f histOrder_ins histOrder_outs (p0, p1, ()) = histOrder_B (p0, p1, ()) := by kernel_rfl
set_option maxRecDepth 100000 in
theorem histOrder_oc : OC histOrder_P 10 histOrder_ins histOrder_outs histOrder := OC.of_tree histOrder_env Try.func10 (by kernel_rfl) (by kernel_rfl) (p := histOrder_p) (fun g hg => LoOk.of (l := [histOrder_C0, histOrder_C1, histOrder_C2, histOrder_C3, histOrder_C4]) (by kernel_rfl) (.cons (histOrder_ok0 g hg) (by kernel_rfl) (.cons (histOrder_ok1 g hg) (by kernel_rfl) (.cons (histOrder_ok2 g hg) (by kernel_rfl) (.cons (histOrder_ok3 g hg) (by kernel_rfl) (.cons (histOrder_ok4 g hg) (by kernel_rfl) .nil)))))) (fun (p0, p1, ()) => histOrder_eq p0 p1)
end Go.Proofs.Ytnhiplibodkciaa
