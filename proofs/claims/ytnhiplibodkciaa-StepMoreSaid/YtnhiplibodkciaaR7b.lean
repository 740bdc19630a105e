/- Contracts of functions. Printed by auto.py. -/
import Derived.Test.YtnhiplibodkciaaAbA
import Derived.Test.YtnhiplibodkciaaR6c
namespace Go.Proofs.Ytnhiplibodkciaa
open Go.PI Go
noncomputable def eventsR_l0 : zA28 → Br (zA28 ⊕ ((List zA2) × Unit)) := fun (s0_26, s1_27, s6_28, r1724_29, ()) =>
 (.cond (decide (s6_28 < (↑(List.length s0_26) : Int)))
 (.cond (decide (s6_28 < s1_27))
 (.cond (decide (0 ≤ s6_28) && decide (s6_28 < (↑(List.length s0_26) : Int)))
 (.opt (eventR (List.getD s0_26 (Int.toNat s6_28) (ByteArray.empty, ByteArray.empty, 0, 0, []), ())) fun y30 =>
 (.cond (decide ((List.length r1724_29 + List.length (List.set (List.replicate 1 (ByteArray.empty, ByteArray.empty, 0, 0, [])) 0 (y30.1.1, { data := #[107] }, y30.1.2.2.1, IntKind.wrap .i64 (s6_28 + 1), y30.1.2.2.2.2))) * 72 ≤ 140737488355328))
 (.ret (.inl (s0_26, s1_27, IntKind.wrap .i64 (s6_28 + 1), r1724_29 ++ List.set (List.replicate 1 (ByteArray.empty, ByteArray.empty, 0, 0, [])) 0 (y30.1.1, { data := #[107] }, y30.1.2.2.1, IntKind.wrap .i64 (s6_28 + 1), y30.1.2.2.2.2), ())))
 (.no)))
 (.no))
 (.ret (.inr (r1724_29, ()))))
 (.ret (.inr (r1724_29, ()))))
noncomputable def eventsR_w0 : zA28 → Option ((List zA2) × Unit) := iterO fun x => (eventsR_l0 x).run
noncomputable def eventsR_B : ((List zA2) × (Int × Unit)) → Br ((List zA2) × Unit) := fun (p0, p1, ()) =>
 (.opt (eventsR_w0 (p0, p1, 0, [], ())) fun z32 =>
 (.ret (z32.1, ())))
noncomputable def eventsR : ((List zA2) × (Int × Unit)) → Option ((List zA2) × Unit) := fun x => (eventsR_B x).run
abbrev eventsR_ins : List (Bool × Pat) := [(false, .ty true (.sl zA9)), (false, .ty false (.int .i64))]
abbrev eventsR_outs : List Pat := [.ty false (.sl zA9)]
noncomputable abbrev eventsR_f : Func := Try.f45
noncomputable abbrev eventsR_P : Program := Try.prog
abbrev eventsR_kp : List Nat := kpOf eventsR_ins
abbrev eventsR_kf : List Nat := kfOf eventsR_ins
noncomputable def eventsR_c : Ctx := { cxM1 with base := 1024 }
set_option maxRecDepth 100000 in
theorem eventsR_env : EnvFull eventsR_P eventsR_c := env_base (enM1) 1024
abbrev eventsR_H0 : List Hole := [.slot 0 true (.sl zA9), .slot 1 false (.int .i64), .slot 6 false (.int .i64), .ar 1724 false 50 zA9]
def eventsR_S0 : Skel := ⟨34, [(5, .c (.mfull 1724))], [(1724, [])]⟩
abbrev eventsR_H0e0 : List Hole := [.ar 1725 false 50 zA9]
def eventsR_S0e0 : Skel := ⟨34, [(5, .c (.mfull 1725))], [(1725, [])]⟩
def eventsR_h0 : Exit → Shape
  | .normal => ⟨[(0, .as true (.sl zA9)), (1, .as false (.int .i64)), (5, .row 700 false 50 zA9), (6, .as false (.int .i64))], [], [(700, false)]⟩
  | .exit 0 => ⟨[(5, .row 701 false 50 zA9)], [], [(701, false)]⟩
  | _ => ⟨[], [], []⟩
def eventsR_e0 : ((List zA2) × Unit) → Exit × St
  | u => (.exit 0, eventsR_S0e0.fillK eventsR_kf eventsR_H0e0 u)
def eventsR_t0 : ((List zA2) × Unit) → Br (Exit × St) := fun u => .ret (.exit 0, eventsR_S0e0.fillK eventsR_kf eventsR_H0e0 u)
noncomputable def eventsR_C0 : Code := loopAt 0 (bodyOf eventsR_f)
noncomputable def eventsR_o0 : St → Br (Exit × St) := loopF eventsR_kp eventsR_kf 1024 (eventsR_h0 .normal) (eventsR_S0.parseK eventsR_kf eventsR_H0) fun x => .opt (eventsR_w0 x) eventsR_t0
noncomputable def eventsR_p : Par := { sh := fun _ => none, k := 0, lo := fun i => bif Nat.beq i 3 then some eventsR_o0 else none }
set_option maxRecDepth 100000 in
theorem eventsR_r0 (s0_26 : (List zA2)) (s1_27 : Int) (s6_28 : Int) (r1724_29 : (List zA2)) : roundF eventsR_kp eventsR_kf eventsR_c eventsR_p eventsR_h0 eventsR_C0 (eventsR_S0.fillK eventsR_kf eventsR_H0 (s0_26, s1_27, s6_28, r1724_29, ())) = (eventsR_l0 (s0_26, s1_27, s6_28, r1724_29, ())).bind (loopLeaf (fun x => eventsR_S0.fillK eventsR_kf eventsR_H0 x) eventsR_e0) := by kernel_rfl
set_option maxRecDepth 100000 in
theorem eventsR_ok0 (g : Cfg) (hg : ∀ n, Go.PI.look n g.m0 ≠ Option.none → n ∈ eventsR_kp) : LoopOk eventsR_P g eventsR_o0 eventsR_C0 := LoopOk.auto eventsR_env hg eventsR_p (LoOk.of (l := []) (by kernel_rfl) .nil) eventsR_h0 (fun x => eventsR_S0.fillK eventsR_kf eventsR_H0 x) (fun s x h => Skel.parseK_ok s x h) eventsR_l0 eventsR_e0 (fun _ h => by cases h) eventsR_t0 (fun _ => rfl) (fun (s0_26, s1_27, s6_28, r1724_29, ()) => eventsR_r0 s0_26 s1_27 s6_28 r1724_29)
set_option maxRecDepth 100000 in
theorem eventsR_eq (p0 : (List zA2)) (p1 : Int) : ocRun eventsR_c eventsR_p eventsR_f eventsR_ins eventsR_outs (p0, p1, ()) = eventsR_B (p0, p1, ()) := by kernel_rfl
set_option maxRecDepth 100000 in
theorem eventsR_oc : OC eventsR_P 45 eventsR_ins eventsR_outs eventsR := OC.of_tree eventsR_env Try.func45 (by kernel_rfl) (by kernel_rfl) (p := eventsR_p) (fun g hg => LoOk.of (l := [eventsR_C0]) (by kernel_rfl) (.cons (eventsR_ok0 g hg) (by kernel_rfl) .nil)) (fun (p0, p1, ()) => eventsR_eq p0 p1)
noncomputable def cx_eventsR : Ctx := addO cxM1 45 (ocOrc eventsR_ins eventsR_outs eventsR)
theorem en_eventsR : EnvFull Try.prog cx_eventsR := env_add (enM1) eventsR_oc.callOk
end Go.Proofs.Ytnhiplibodkciaa
