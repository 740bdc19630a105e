/- Contracts of functions. Printed by auto.py. -/
import Derived.Test.YtnhiplibodkciaaHa
import Derived.Test.YtnhiplibodkciaaHg
import Derived.Test.YtnhiplibodkciaaR3b
namespace Go.Proofs.Ytnhiplibodkciaa
open Go.PI Go
noncomputable def beforeE_B : (zA2 × (zA2 × Unit)) → Br (Bool × Unit) := fun (p0, p1, ()) =>
 (.cond (decide (p0.2.2.1 < p1.2.2.1))
 (.ret (true, ()))
 (.cond (p0.2.2.1 == p1.2.2.1)
 (.ret (decide (p0.2.2.2.1 < p1.2.2.2.1), ()))
 (.ret (false, ()))))
noncomputable def beforeE : (zA2 × (zA2 × Unit)) → Option (Bool × Unit) := fun x => (beforeE_B x).run
abbrev beforeE_ins : List (Bool × Pat) := [(false, .ty true zA9), (false, .ty true zA9)]
abbrev beforeE_outs : List Pat := [.ty false .bool]
noncomputable abbrev beforeE_f : Func := Try.f136
noncomputable abbrev beforeE_P : Program := Try.prog
noncomputable def beforeE_c : Ctx := { (addO cxP3 37 (ocOrc holdsR_ins holdsR_outs holdsR)) with base := 1024 }
set_option maxRecDepth 100000 in
theorem beforeE_env : EnvFull beforeE_P beforeE_c := env_base ((env_add enP3 holdsR_oc.callOk)) 1024
noncomputable def beforeE_p : Par := { sh := fun _ => none, k := 0, lo := fun _ => none }
set_option maxRecDepth 100000 in
theorem beforeE_eq (p0 : zA2) (p1 : zA2) : ocRun beforeE_c beforeE_p beforeE_f beforeE_ins beforeE_outs (p0, p1, ()) = beforeE_B (p0, p1, ()) := by kernel_rfl
set_option maxRecDepth 100000 in
theorem beforeE_oc : OC beforeE_P 136 beforeE_ins beforeE_outs beforeE := OC.of_tree beforeE_env Try.func136 (by kernel_rfl) (by kernel_rfl) (p := beforeE_p) (fun g hg => LoOk.of (l := []) (by kernel_rfl) .nil) (fun (p0, p1, ()) => beforeE_eq p0 p1)
noncomputable def cx_beforeE : Ctx := addO (addO cxP3 37 (ocOrc holdsR_ins holdsR_outs holdsR)) 136 (ocOrc beforeE_ins beforeE_outs beforeE)
theorem en_beforeE : EnvFull Try.prog cx_beforeE := env_add ((env_add enP3 holdsR_oc.callOk)) beforeE_oc.callOk
noncomputable def sortE_l1 : zA28 → Br (zA28 ⊕ zA28) := fun (s0_91, s4_92, s5_93, r1725_94, ()) =>
 (.cond (decide (s5_93 > 0))
 (.cond (decide (0 ≤ s4_92) && decide (s4_92 < (↑(List.length s0_91) : Int)))
 (.cond (decide (0 ≤ IntKind.wrap .i64 (s5_93 - 1)) && decide (IntKind.wrap .i64 (s5_93 - 1) < (↑(List.length r1725_94) : Int)))
 (.opt (beforeE (List.getD s0_91 (Int.toNat s4_92) (ByteArray.empty, ByteArray.empty, 0, 0, []), List.getD r1725_94 (Int.toNat (IntKind.wrap .i64 (s5_93 - 1))) (ByteArray.empty, ByteArray.empty, 0, 0, []), ())) fun y95 =>
 (.cond y95.1
 (.ret (.inl (s0_91, s4_92, IntKind.wrap .i64 (s5_93 - 1), r1725_94, ())))
 (.ret (.inr (s0_91, s4_92, s5_93, r1725_94, ())))))
 (.no))
 (.no))
 (.ret (.inr (s0_91, s4_92, s5_93, r1725_94, ()))))
noncomputable def sortE_w1 : zA28 → Option zA28 := iterO fun x => (sortE_l1 x).run
noncomputable def sortE_l2 : ((List zA2) × (Int × (Int × (Int × ((List zA2) × Unit))))) → Br (((List zA2) × (Int × (Int × (Int × ((List zA2) × Unit))))) ⊕ zA28) := fun (s0_98, s4_99, s5_100, s6_101, r1059_102, ()) =>
 (.cond (decide (s6_101 > s5_100))
 (.cond (decide (0 ≤ IntKind.wrap .i64 (s6_101 - 1)) && decide (IntKind.wrap .i64 (s6_101 - 1) < (↑(List.length r1059_102) : Int)))
 (.cond (decide (0 ≤ s6_101) && decide (s6_101 < (↑(List.length r1059_102) : Int)))
 (.ret (.inl (s0_98, s4_99, s5_100, IntKind.wrap .i64 (s6_101 - 1), List.set r1059_102 (Int.toNat s6_101) (List.getD r1059_102 (Int.toNat (IntKind.wrap .i64 (s6_101 - 1))) (ByteArray.empty, ByteArray.empty, 0, 0, [])), ())))
 (.no))
 (.no))
 (.ret (.inr (s0_98, s4_99, s5_100, r1059_102, ()))))
noncomputable def sortE_w2 : ((List zA2) × (Int × (Int × (Int × ((List zA2) × Unit))))) → Option zA28 := iterO fun x => (sortE_l2 x).run
noncomputable def sortE_l0 : ((List zA2) × (Int × ((List zA2) × Unit))) → Br (((List zA2) × (Int × ((List zA2) × Unit))) ⊕ ((List zA2) × Unit)) := fun (s0_88, s4_89, r1724_90, ()) =>
 (.cond (decide (s4_89 < (↑(List.length s0_88) : Int)))
 (.opt (sortE_w1 (s0_88, s4_89, (↑(List.length r1724_90) : Int), r1724_90, ())) fun z97 =>
 (.cond (decide ((List.length z97.2.2.2.1 + @List.length (ByteArray × ByteArray × Int × Int × List (Int × Int × ByteArray × Bool)) (List.set (List.replicate 1 (ByteArray.empty, ByteArray.empty, 0, 0, [])) 0 (ByteArray.empty, ByteArray.empty, 0, 0, []))) * 72 ≤ 140737488355328))
 (.opt (sortE_w2 (z97.1, z97.2.1, z97.2.2.1, IntKind.wrap .i64 ((↑(List.length (z97.2.2.2.1 ++ List.set (List.replicate 1 (ByteArray.empty, ByteArray.empty, 0, 0, [])) 0 (ByteArray.empty, ByteArray.empty, 0, 0, []))) : Int) - 1), z97.2.2.2.1 ++ List.set (List.replicate 1 (ByteArray.empty, ByteArray.empty, 0, 0, [])) 0 (ByteArray.empty, ByteArray.empty, 0, 0, []), ())) fun z104 =>
 (.cond (decide (0 ≤ z104.2.1) && decide (z104.2.1 < (↑(List.length z104.1) : Int)))
 (.cond (decide (0 ≤ z104.2.2.1) && decide (z104.2.2.1 < (↑(List.length z104.2.2.2.1) : Int)))
 (.ret (.inl (z104.1, IntKind.wrap .i64 (z104.2.1 + 1), List.set z104.2.2.2.1 (Int.toNat z104.2.2.1) (List.getD z104.1 (Int.toNat z104.2.1) (ByteArray.empty, ByteArray.empty, 0, 0, [])), ())))
 (.no))
 (.no)))
 (.no)))
 (.ret (.inr (r1724_90, ()))))
noncomputable def sortE_w0 : ((List zA2) × (Int × ((List zA2) × Unit))) → Option ((List zA2) × Unit) := iterO fun x => (sortE_l0 x).run
noncomputable def sortE_B : ((List zA2) × Unit) → Br ((List zA2) × Unit) := fun (p0, ()) =>
 (.opt (sortE_w0 (p0, 0, [], ())) fun z106 =>
 (.ret (z106.1, ())))
noncomputable def sortE : ((List zA2) × Unit) → Option ((List zA2) × Unit) := fun x => (sortE_B x).run
abbrev sortE_ins : List (Bool × Pat) := [(false, .ty false (.sl zA9))]
abbrev sortE_outs : List Pat := [.ty false (.sl zA9)]
noncomputable abbrev sortE_f : Func := Try.f95
noncomputable abbrev sortE_P : Program := Try.prog
abbrev sortE_kp : List Nat := kpOf sortE_ins
abbrev sortE_kf : List Nat := kfOf sortE_ins
noncomputable def sortE_c : Ctx := { cx_beforeE with base := 1024 }
set_option maxRecDepth 100000 in
theorem sortE_env : EnvFull sortE_P sortE_c := env_base (en_beforeE) 1024
abbrev sortE_H1 : List Hole := [.slot 0 false (.sl zA9), .slot 4 false (.int .i64), .slot 5 false (.int .i64), .ar 1725 false 50 zA9]
def sortE_S1 : Skel := ⟨60, [(3, .c (.mfull 1725))], [(1725, [])]⟩
abbrev sortE_H1e0 : List Hole := [.slot 0 false (.sl zA9), .slot 4 false (.int .i64), .slot 5 false (.int .i64), .ar 1726 false 50 zA9]
def sortE_S1e0 : Skel := ⟨60, [(3, .c (.mfull 1726))], [(1726, [])]⟩
def sortE_h1 : Exit → Shape
  | .normal => ⟨[(0, .as false (.sl zA9)), (3, .row 701 false 50 zA9), (4, .as false (.int .i64)), (5, .as false (.int .i64))], [], [(701, false)]⟩
  | .exit 2 => ⟨[(0, .as false (.sl zA9)), (3, .row 702 false 50 zA9), (4, .as false (.int .i64)), (5, .as false (.int .i64))], [], [(702, false)]⟩
  | _ => ⟨[], [], []⟩
def sortE_e1 : zA28 → Exit × St
  | u => (.exit 2, sortE_S1e0.fillK sortE_kf sortE_H1e0 u)
def sortE_t1 : zA28 → Br (Exit × St) := fun u => .ret (.exit 2, sortE_S1e0.fillK sortE_kf sortE_H1e0 u)
noncomputable def sortE_C1 : Code := loopAt 1 (bodyOf sortE_f)
noncomputable def sortE_o1 : St → Br (Exit × St) := loopF sortE_kp sortE_kf 1024 (sortE_h1 .normal) (sortE_S1.parseK sortE_kf sortE_H1) fun x => .opt (sortE_w1 x) sortE_t1
abbrev sortE_H2 : List Hole := [.slot 0 false (.sl zA9), .slot 4 false (.int .i64), .slot 5 false (.int .i64), .slot 6 false (.int .i64), .ar 1059 false 50 zA9]
def sortE_S2 : Skel := ⟨60, [(3, D.c (C.mfull 1059))], [(1059, [])]⟩
abbrev sortE_H2e0 : List Hole := [.slot 0 false (.sl zA9), .slot 4 false (.int .i64), .slot 5 false (.int .i64), .ar 1059 false 50 zA9]
def sortE_S2e0 : Skel := ⟨60, [(3, D.c (C.mfull 1059))], [(1059, [])]⟩
def sortE_h2 : Exit → Shape
  | .normal => ⟨[(0, .as false (.sl zA9)), (3, .keep), (4, .as false (.int .i64)), (5, .as false (.int .i64)), (6, .as false (.int .i64))], [], [(35, false)]⟩
  | .exit 4 => ⟨[(0, .as false (.sl zA9)), (3, .keep), (4, .as false (.int .i64)), (5, .as false (.int .i64))], [], [(35, false)]⟩
  | _ => ⟨[], [], []⟩
def sortE_e2 : zA28 → Exit × St
  | u => (.exit 4, sortE_S2e0.fillK sortE_kf sortE_H2e0 u)
def sortE_t2 : zA28 → Br (Exit × St) := fun u => .ret (.exit 4, sortE_S2e0.fillK sortE_kf sortE_H2e0 u)
noncomputable def sortE_C2 : Code := loopAt 2 (bodyOf sortE_f)
noncomputable def sortE_o2 : St → Br (Exit × St) := loopF sortE_kp sortE_kf 1024 (sortE_h2 .normal) (sortE_S2.parseK sortE_kf sortE_H2) fun x => .opt (sortE_w2 x) sortE_t2
abbrev sortE_H0 : List Hole := [.slot 0 false (.sl zA9), .slot 4 false (.int .i64), .ar 1724 false 50 zA9]
def sortE_S0 : Skel := ⟨60, [(3, .c (.mfull 1724))], [(1724, [])]⟩
abbrev sortE_H0e0 : List Hole := [.ar 1727 false 50 zA9]
def sortE_S0e0 : Skel := ⟨60, [(3, .c (.mfull 1727))], [(1727, [])]⟩
def sortE_h0 : Exit → Shape
  | .normal => ⟨[(0, .as false (.sl zA9)), (3, .row 700 false 50 zA9), (4, .as false (.int .i64))], [], [(700, false)]⟩
  | .exit 0 => ⟨[(3, .row 703 false 50 zA9)], [], [(703, false)]⟩
  | _ => ⟨[], [], []⟩
def sortE_e0 : ((List zA2) × Unit) → Exit × St
  | u => (.exit 0, sortE_S0e0.fillK sortE_kf sortE_H0e0 u)
def sortE_t0 : ((List zA2) × Unit) → Br (Exit × St) := fun u => .ret (.exit 0, sortE_S0e0.fillK sortE_kf sortE_H0e0 u)
noncomputable def sortE_C0 : Code := loopAt 0 (bodyOf sortE_f)
noncomputable def sortE_o0 : St → Br (Exit × St) := loopF sortE_kp sortE_kf 1024 (sortE_h0 .normal) (sortE_S0.parseK sortE_kf sortE_H0) fun x => .opt (sortE_w0 x) sortE_t0
noncomputable def sortE_p : Par := { sh := fun _ => none, k := 0, lo := fun i => bif Nat.beq i 3 then some sortE_o0 else bif Nat.beq i 6 then some sortE_o1 else bif Nat.beq i 10 then some sortE_o2 else none }
set_option maxRecDepth 100000 in
theorem sortE_r1 (s0_91 : (List zA2)) (s4_92 : Int) (s5_93 : Int) (r1725_94 : (List zA2)) : roundF sortE_kp sortE_kf sortE_c sortE_p sortE_h1 sortE_C1 (sortE_S1.fillK sortE_kf sortE_H1 (s0_91, s4_92, s5_93, r1725_94, ())) = (sortE_l1 (s0_91, s4_92, s5_93, r1725_94, ())).bind (loopLeaf (fun x => sortE_S1.fillK sortE_kf sortE_H1 x) sortE_e1) := by kernel_rfl
set_option maxRecDepth 100000 in
theorem sortE_ok1 (g : Cfg) (hg : ∀ n, Go.PI.look n g.m0 ≠ Option.none → n ∈ sortE_kp) : LoopOk sortE_P g sortE_o1 sortE_C1 := LoopOk.auto sortE_env hg sortE_p (LoOk.of (l := []) (by kernel_rfl) .nil) sortE_h1 (fun x => sortE_S1.fillK sortE_kf sortE_H1 x) (fun s x h => Skel.parseK_ok s x h) sortE_l1 sortE_e1 (fun _ h => by cases h) sortE_t1 (fun _ => rfl) (fun (s0_91, s4_92, s5_93, r1725_94, ()) => sortE_r1 s0_91 s4_92 s5_93 r1725_94)
set_option maxRecDepth 100000 in
theorem sortE_r2 (s0_98 : (List zA2)) (s4_99 : Int) (s5_100 : Int) (s6_101 : Int) (r1059_102 : (List zA2)) : roundF sortE_kp sortE_kf sortE_c sortE_p sortE_h2 sortE_C2 (sortE_S2.fillK sortE_kf sortE_H2 (s0_98, s4_99, s5_100, s6_101, r1059_102, ())) = (sortE_l2 (s0_98, s4_99, s5_100, s6_101, r1059_102, ())).bind (loopLeaf (fun x => sortE_S2.fillK sortE_kf sortE_H2 x) sortE_e2) := by kernel_rfl
set_option maxRecDepth 100000 in
theorem sortE_ok2 (g : Cfg) (hg : ∀ n, Go.PI.look n g.m0 ≠ Option.none → n ∈ sortE_kp) : LoopOk sortE_P g sortE_o2 sortE_C2 := LoopOk.auto sortE_env hg sortE_p (LoOk.of (l := []) (by kernel_rfl) .nil) sortE_h2 (fun x => sortE_S2.fillK sortE_kf sortE_H2 x) (fun s x h => Skel.parseK_ok s x h) sortE_l2 sortE_e2 (fun _ h => by cases h) sortE_t2 (fun _ => rfl) (fun (s0_98, s4_99, s5_100, s6_101, r1059_102, ()) => sortE_r2 s0_98 s4_99 s5_100 s6_101 r1059_102)
set_option maxRecDepth 100000 in
theorem sortE_r0 (s0_88 : (List zA2)) (s4_89 : Int) (r1724_90 : (List zA2)) : roundF sortE_kp sortE_kf sortE_c sortE_p sortE_h0 sortE_C0 (sortE_S0.fillK sortE_kf sortE_H0 (s0_88, s4_89, r1724_90, ())) = (sortE_l0 (s0_88, s4_89, r1724_90, ())).bind (loopLeaf (fun x => sortE_S0.fillK sortE_kf sortE_H0 x) sortE_e0) := by kernel_rfl
set_option maxRecDepth 100000 in
theorem sortE_ok0 (g : Cfg) (hg : ∀ n, Go.PI.look n g.m0 ≠ Option.none → n ∈ sortE_kp) : LoopOk sortE_P g sortE_o0 sortE_C0 := LoopOk.auto sortE_env hg sortE_p (LoOk.of (l := [sortE_C1, sortE_C2]) (by kernel_rfl) (.cons (sortE_ok1 g hg) (by kernel_rfl) (.cons (sortE_ok2 g hg) (by kernel_rfl) .nil))) sortE_h0 (fun x => sortE_S0.fillK sortE_kf sortE_H0 x) (fun s x h => Skel.parseK_ok s x h) sortE_l0 sortE_e0 (fun _ h => by cases h) sortE_t0 (fun _ => rfl) (fun (s0_88, s4_89, r1724_90, ()) => sortE_r0 s0_88 s4_89 r1724_90)
set_option maxRecDepth 100000 in
theorem sortE_eq (p0 : (List zA2)) : ocRun sortE_c sortE_p sortE_f sortE_ins sortE_outs (p0, ()) = sortE_B (p0, ()) := by kernel_rfl
set_option maxRecDepth 100000 in
theorem sortE_oc : OC sortE_P 95 sortE_ins sortE_outs sortE := OC.of_tree sortE_env Try.func95 (by kernel_rfl) (by kernel_rfl) (p := sortE_p) (fun g hg => LoOk.of (l := [sortE_C0, sortE_C1, sortE_C2]) (by kernel_rfl) (.cons (sortE_ok0 g hg) (by kernel_rfl) (.cons (sortE_ok1 g hg) (by kernel_rfl) (.cons (sortE_ok2 g hg) (by kernel_rfl) .nil)))) (fun (p0, ()) => sortE_eq p0)
noncomputable def cx_sortE : Ctx := addO cx_beforeE 95 (ocOrc sortE_ins sortE_outs sortE)
theorem en_sortE : EnvFull Try.prog cx_sortE := env_add (en_beforeE) sortE_oc.callOk
noncomputable def events20_B : ((List zA2) × (Int × Unit)) → Br ((List zA2) × Unit) := fun (p0, p1, ()) =>
 (.opt (eventsR (p0, p1, ())) fun y4 =>
 (.opt (sortE (y4.1, ())) fun y5 =>
 (.ret (y5.1, ()))))
noncomputable def events20 : ((List zA2) × (Int × Unit)) → Option ((List zA2) × Unit) := fun x => (events20_B x).run
abbrev events20_ins : List (Bool × Pat) := [(false, .ty true (.sl zA9)), (false, .ty false (.int .i64))]
abbrev events20_outs : List Pat := [.ty false (.sl zA9)]
noncomputable abbrev events20_f : Func := Try.f50
noncomputable abbrev events20_P : Program := Try.prog
noncomputable def events20_c : Ctx := { cx_sortE with base := 1024 }
set_option maxRecDepth 100000 in
theorem events20_env : EnvFull events20_P events20_c := env_base (en_sortE) 1024
noncomputable def events20_p : Par := { sh := fun _ => none, k := 0, lo := fun _ => none }
set_option maxRecDepth 100000 in
theorem events20_eq (p0 : (List zA2)) (p1 : Int) : ocRun events20_c events20_p events20_f events20_ins events20_outs (p0, p1, ()) = events20_B (p0, p1, ()) := by kernel_rfl
set_option maxRecDepth 100000 in
theorem events20_oc : OC events20_P 50 events20_ins events20_outs events20 := OC.of_tree events20_env Try.func50 (by kernel_rfl) (by kernel_rfl) (p := events20_p) (fun g hg => LoOk.of (l := []) (by kernel_rfl) .nil) (fun (p0, p1, ()) => events20_eq p0 p1)
noncomputable def cx_events20 : Ctx := addO cx_sortE 50 (ocOrc events20_ins events20_outs events20)
theorem en_events20 : EnvFull Try.prog cx_events20 := env_add (en_sortE) events20_oc.callOk
noncomputable def ofS_l0 : ((List ByteArray) × (ByteArray × (Int × Unit))) → Br (((List ByteArray) × (ByteArray × (Int × Unit))) ⊕ (Unit ⊕ Unit)) := fun (s0_19, s1_20, s5_21, ()) =>
 (.cond (decide (s5_21 < (↑(List.length s0_19) : Int)))
 (.cond (decide (0 ≤ s5_21) && decide (s5_21 < (↑(List.length s0_19) : Int)))
 (.cond (bl (List.getD s0_19 (Int.toNat s5_21) ByteArray.empty) == bl s1_20)
 (.ret (.inr (.inl (()))))
 (.ret (.inl (s0_19, s1_20, IntKind.wrap .i64 (s5_21 + 1), ()))))
 (.no))
 (.ret (.inr (.inr (())))))
noncomputable def ofS_w0 : ((List ByteArray) × (ByteArray × (Int × Unit))) → Option (Unit ⊕ Unit) := iterO fun x => (ofS_l0 x).run
noncomputable def ofS_B : ((List ByteArray) × (ByteArray × Unit)) → Br (Bool × Unit) := fun (p0, p1, ()) =>
 (.opt (ofS_w0 (p0, p1, 0, ())) fun z23 =>
 (.sum z23 (fun u24 =>
 (.ret (true, ()))) (fun z25 =>
 (.ret (false, ())))))
noncomputable def ofS : ((List ByteArray) × (ByteArray × Unit)) → Option (Bool × Unit) := fun x => (ofS_B x).run
abbrev ofS_ins : List (Bool × Pat) := [(false, .ty true (.sl .str)), (false, .ty false .str)]
abbrev ofS_outs : List Pat := [.ty false .bool]
noncomputable abbrev ofS_f : Func := Try.f137
noncomputable abbrev ofS_P : Program := Try.prog
abbrev ofS_kp : List Nat := kpOf ofS_ins
abbrev ofS_kf : List Nat := kfOf ofS_ins
noncomputable def ofS_c : Ctx := { cx_events20 with base := 1024 }
set_option maxRecDepth 100000 in
theorem ofS_env : EnvFull ofS_P ofS_c := env_base (en_events20) 1024
abbrev ofS_H0 : List Hole := [.slot 0 true (.sl .str), .slot 1 false .str, .slot 5 false (.int .i64)]
def ofS_S0 : Skel := ⟨18, [], []⟩
abbrev ofS_H0e0 : List Hole := []
def ofS_S0e0 : Skel := ⟨18, [(4, D.c C.tt)], []⟩
abbrev ofS_H0e1 : List Hole := []
def ofS_S0e1 : Skel := ⟨18, [], []⟩
def ofS_h0 : Exit → Shape
  | .normal => ⟨[(0, .as true (.sl .str)), (1, .as false .str), (5, .as false (.int .i64))], [], []⟩
  | .ret => ⟨[(4, .keep)], [], []⟩
  | .exit 0 => ⟨[], [], []⟩
  | _ => ⟨[], [], []⟩
def ofS_e0 : (Unit ⊕ Unit) → Exit × St
  | (.inl u) => (.ret, ofS_S0e0.fillK ofS_kf ofS_H0e0 u)
  | (.inr u) => (.exit 0, ofS_S0e1.fillK ofS_kf ofS_H0e1 u)
def ofS_t0 : (Unit ⊕ Unit) → Br (Exit × St) := fun z => .sum z (fun u => .ret (.ret, ofS_S0e0.fillK ofS_kf ofS_H0e0 u)) (fun u => .ret (.exit 0, ofS_S0e1.fillK ofS_kf ofS_H0e1 u))
noncomputable def ofS_C0 : Code := loopAt 0 (bodyOf ofS_f)
noncomputable def ofS_o0 : St → Br (Exit × St) := loopF ofS_kp ofS_kf 1024 (ofS_h0 .normal) (ofS_S0.parseK ofS_kf ofS_H0) fun x => .opt (ofS_w0 x) ofS_t0
noncomputable def ofS_p : Par := { sh := fun _ => none, k := 0, lo := fun i => bif Nat.beq i 2 then some ofS_o0 else none }
set_option maxRecDepth 100000 in
theorem ofS_r0 (s0_19 : (List ByteArray)) (s1_20 : ByteArray) (s5_21 : Int) : roundF ofS_kp ofS_kf ofS_c ofS_p ofS_h0 ofS_C0 (ofS_S0.fillK ofS_kf ofS_H0 (s0_19, s1_20, s5_21, ())) = (ofS_l0 (s0_19, s1_20, s5_21, ())).bind (loopLeaf (fun x => ofS_S0.fillK ofS_kf ofS_H0 x) ofS_e0) := by kernel_rfl
set_option maxRecDepth 100000 in
theorem ofS_ok0 (g : Cfg) (hg : ∀ n, Go.PI.look n g.m0 ≠ Option.none → n ∈ ofS_kp) : LoopOk ofS_P g ofS_o0 ofS_C0 := LoopOk.auto ofS_env hg ofS_p (LoOk.of (l := []) (by kernel_rfl) .nil) ofS_h0 (fun x => ofS_S0.fillK ofS_kf ofS_H0 x) (fun s x h => Skel.parseK_ok s x h) ofS_l0 ofS_e0 (fun z h => by rcases z with z | z <;> cases h) ofS_t0 (fun z => by rcases z with z | z <;> rfl) (fun (s0_19, s1_20, s5_21, ()) => ofS_r0 s0_19 s1_20 s5_21)
set_option maxRecDepth 100000 in
theorem ofS_eq (p0 : (List ByteArray)) (p1 : ByteArray) : ocRun ofS_c ofS_p ofS_f ofS_ins ofS_outs (p0, p1, ()) = ofS_B (p0, p1, ()) := by kernel_rfl
set_option maxRecDepth 100000 in
theorem ofS_oc : OC ofS_P 137 ofS_ins ofS_outs ofS := OC.of_tree ofS_env Try.func137 (by kernel_rfl) (by kernel_rfl) (p := ofS_p) (fun g hg => LoOk.of (l := [ofS_C0]) (by kernel_rfl) (.cons (ofS_ok0 g hg) (by kernel_rfl) .nil)) (fun (p0, p1, ()) => ofS_eq p0 p1)
noncomputable def cx_ofS : Ctx := addO cx_events20 137 (ocOrc ofS_ins ofS_outs ofS)
theorem en_ofS : EnvFull Try.prog cx_ofS := env_add (en_events20) ofS_oc.callOk
noncomputable def fits20_B : (zA1 × (zA2 × (zA21 × Unit))) → Br (Bool × Unit) := fun (p0, p1, p2, ()) =>
 (.opt (ofS (p0.2.1, p1.1, ())) fun y5 =>
 (.cond y5.1
 (.cond (decide ((@List.length (ByteArray × ByteArray × ByteArray × Int × Int × List (Int × Int × ByteArray × Bool)) (List.replicate 0 (ByteArray.empty, ByteArray.empty, ByteArray.empty, 0, 0, [])) + List.length p2) * 88 ≤ 140737488355328))
 (.cond (decide ((List.length (List.replicate 0 (ByteArray.empty, ByteArray.empty, ByteArray.empty, 0, 0, []) ++ p2) + List.length (List.set (List.replicate 1 (ByteArray.empty, ByteArray.empty, ByteArray.empty, 0, 0, [])) 0 (p0.1, p1))) * 88 ≤ 140737488355328))
 (.opt (holdsR (p0.2.2.2.2.2, List.replicate 0 (ByteArray.empty, ByteArray.empty, ByteArray.empty, 0, 0, []) ++ p2 ++ List.set (List.replicate 1 (ByteArray.empty, ByteArray.empty, ByteArray.empty, 0, 0, [])) 0 (p0.1, p1), ())) fun y6 =>
 (.ret (y6.1, ())))
 (.no))
 (.no))
 (.ret (false, ()))))
noncomputable def fits20 : (zA1 × (zA2 × (zA21 × Unit))) → Option (Bool × Unit) := fun x => (fits20_B x).run
abbrev fits20_ins : List (Bool × Pat) := [(false, .ty true zA19), (false, .ty true zA9), (false, .ty true zA35)]
abbrev fits20_outs : List Pat := [.ty false .bool]
noncomputable abbrev fits20_f : Func := Try.f96
noncomputable abbrev fits20_P : Program := Try.prog
noncomputable def fits20_c : Ctx := { cx_ofS with base := 1024 }
set_option maxRecDepth 100000 in
theorem fits20_env : EnvFull fits20_P fits20_c := env_base (en_ofS) 1024
noncomputable def fits20_p : Par := { sh := fun _ => none, k := 0, lo := fun _ => none }
set_option maxRecDepth 100000 in
theorem fits20_eq (p0 : zA1) (p1 : zA2) (p2 : zA21) : ocRun fits20_c fits20_p fits20_f fits20_ins fits20_outs (p0, p1, p2, ()) = fits20_B (p0, p1, p2, ()) := by kernel_rfl
set_option maxRecDepth 100000 in
theorem fits20_oc : OC fits20_P 96 fits20_ins fits20_outs fits20 := OC.of_tree fits20_env Try.func96 (by kernel_rfl) (by kernel_rfl) (p := fits20_p) (fun g hg => LoOk.of (l := []) (by kernel_rfl) .nil) (fun (p0, p1, p2, ()) => fits20_eq p0 p1 p2)
noncomputable def cx_fits20 : Ctx := addO cx_ofS 96 (ocOrc fits20_ins fits20_outs fits20)
theorem en_fits20 : EnvFull Try.prog cx_fits20 := env_add (en_ofS) fits20_oc.callOk
noncomputable def nextF_l0 : (Int × ((zA10 × ((List zA2) × zA23)) × ((List Int) × Unit))) → Br ((Int × ((zA10 × ((List zA2) × zA23)) × ((List Int) × Unit))) ⊕ ((Int × ((List Int) × Unit)) ⊕ ((List Int) × Unit))) := fun (s7_22, v1026_23, r1724_24, ()) =>
 (.cond (decide (s7_22 < (↑(List.length v1026_23.1.1) : Int)))
 (.cond (decide (0 ≤ s7_22) && decide (s7_22 < (↑(List.length v1026_23.1.1) : Int)))
 (.cond (!Prod.fst (Prod.snd (Prod.snd (List.getD v1026_23.1.1 (Int.toNat s7_22) (ByteArray.empty, [], false, 0, 0, [])))))
 (.ret (.inr (.inl (s7_22, r1724_24, ()))))
 (.cond (decide ((List.length r1724_24 + List.length (List.set (List.replicate 1 0) 0 s7_22)) * 8 ≤ 140737488355328))
 (.ret (.inl (IntKind.wrap .i64 (s7_22 + 1), v1026_23, r1724_24 ++ List.set (List.replicate 1 0) 0 s7_22, ())))
 (.no)))
 (.no))
 (.ret (.inr (.inr (r1724_24, ())))))
noncomputable def nextF_w0 : (Int × ((zA10 × ((List zA2) × zA23)) × ((List Int) × Unit))) → Option ((Int × ((List Int) × Unit)) ⊕ ((List Int) × Unit)) := iterO fun x => (nextF_l0 x).run
noncomputable def nextF_B : ((zA10 × ((List zA2) × zA23)) × (Int × Unit)) → Br ((Int × (List Int)) × Unit) := fun (p0, p1, ()) =>
 (.opt (nextF_w0 (IntKind.wrap .i64 (p1 + 1), p0, [], ())) fun z26 =>
 (.sum z26 (fun u27 =>
 (.ret ((u27.1, u27.2.1), ()))) (fun z28 =>
 (.ret ((-1, z28.1), ())))))
noncomputable def nextF : ((zA10 × ((List zA2) × zA23)) × (Int × Unit)) → Option ((Int × (List Int)) × Unit) := fun x => (nextF_B x).run
abbrev nextF_ins : List (Bool × Pat) := [(false, .ty true (.st (.pair zA5 (.pair (.sl zA9) (.sl (.sl zA16)))))), (false, .ty false (.int .i64))]
abbrev nextF_outs : List Pat := [.ty false (.int .i64), .ty false (.sl (.int .i64))]
noncomputable abbrev nextF_f : Func := Try.f138
noncomputable abbrev nextF_P : Program := Try.prog
abbrev nextF_kp : List Nat := kpOf nextF_ins
abbrev nextF_kf : List Nat := kfOf nextF_ins
noncomputable def nextF_c : Ctx := { cx_fits20 with base := 1024 }
set_option maxRecDepth 100000 in
theorem nextF_env : EnvFull nextF_P nextF_c := env_base (en_fits20) 1024
abbrev nextF_H0 : List Hole := [.slot 7 false (.int .i64), .tv 1026 true (.st (.pair zA5 (.pair (.sl zA9) (.sl (.sl zA16))))), .ar 1724 false 3 (.int .i64)]
def nextF_S0 : Skel := ⟨34, [(2, D.c (C.ref 1026 0 0)), (6, .c (.mfull 1724))], [(1026, []), (1724, [])]⟩
abbrev nextF_H0e0 : List Hole := [.slot 4 false (.int .i64), .ar 1725 false 3 (.int .i64)]
def nextF_S0e0 : Skel := ⟨34, [(5, .c (.mfull 1725))], [(1725, [])]⟩
abbrev nextF_H0e1 : List Hole := [.ar 1726 false 3 (.int .i64)]
def nextF_S0e1 : Skel := ⟨34, [(6, .c (.mfull 1726))], [(1726, [])]⟩
def nextF_h0 : Exit → Shape
  | .normal => ⟨[(2, .keep), (6, .row 700 false 3 (.int .i64)), (7, .as false (.int .i64))], [], [(2, true), (700, false)]⟩
  | .ret => ⟨[(4, .as false (.int .i64)), (5, .row 701 false 3 (.int .i64))], [], [(701, false)]⟩
  | .exit 0 => ⟨[(6, .row 702 false 3 (.int .i64))], [], [(702, false)]⟩
  | _ => ⟨[], [], []⟩
def nextF_e0 : ((Int × ((List Int) × Unit)) ⊕ ((List Int) × Unit)) → Exit × St
  | (.inl u) => (.ret, nextF_S0e0.fillK nextF_kf nextF_H0e0 u)
  | (.inr u) => (.exit 0, nextF_S0e1.fillK nextF_kf nextF_H0e1 u)
def nextF_t0 : ((Int × ((List Int) × Unit)) ⊕ ((List Int) × Unit)) → Br (Exit × St) := fun z => .sum z (fun u => .ret (.ret, nextF_S0e0.fillK nextF_kf nextF_H0e0 u)) (fun u => .ret (.exit 0, nextF_S0e1.fillK nextF_kf nextF_H0e1 u))
noncomputable def nextF_C0 : Code := loopAt 0 (bodyOf nextF_f)
noncomputable def nextF_o0 : St → Br (Exit × St) := loopF nextF_kp nextF_kf 1024 (nextF_h0 .normal) (nextF_S0.parseK nextF_kf nextF_H0) fun x => .opt (nextF_w0 x) nextF_t0
noncomputable def nextF_p : Par := { sh := fun _ => none, k := 0, lo := fun i => bif Nat.beq i 3 then some nextF_o0 else none }
set_option maxRecDepth 100000 in
theorem nextF_r0 (s7_22 : Int) (v1026_23 : (zA10 × ((List zA2) × zA23))) (r1724_24 : (List Int)) : roundF nextF_kp nextF_kf nextF_c nextF_p nextF_h0 nextF_C0 (nextF_S0.fillK nextF_kf nextF_H0 (s7_22, v1026_23, r1724_24, ())) = (nextF_l0 (s7_22, v1026_23, r1724_24, ())).bind (loopLeaf (fun x => nextF_S0.fillK nextF_kf nextF_H0 x) nextF_e0) := by kernel_rfl
set_option maxRecDepth 100000 in
theorem nextF_ok0 (g : Cfg) (hg : ∀ n, Go.PI.look n g.m0 ≠ Option.none → n ∈ nextF_kp) : LoopOk nextF_P g nextF_o0 nextF_C0 := LoopOk.auto nextF_env hg nextF_p (LoOk.of (l := []) (by kernel_rfl) .nil) nextF_h0 (fun x => nextF_S0.fillK nextF_kf nextF_H0 x) (fun s x h => Skel.parseK_ok s x h) nextF_l0 nextF_e0 (fun z h => by rcases z with z | z <;> cases h) nextF_t0 (fun z => by rcases z with z | z <;> rfl) (fun (s7_22, v1026_23, r1724_24, ()) => nextF_r0 s7_22 v1026_23 r1724_24)
set_option maxRecDepth 100000 in
theorem nextF_eq (p0 : (zA10 × ((List zA2) × zA23))) (p1 : Int) : ocRun nextF_c nextF_p nextF_f nextF_ins nextF_outs (p0, p1, ()) = nextF_B (p0, p1, ()) := by kernel_rfl
set_option maxRecDepth 100000 in
theorem nextF_oc : OC nextF_P 138 nextF_ins nextF_outs nextF := OC.of_tree nextF_env Try.func138 (by kernel_rfl) (by kernel_rfl) (p := nextF_p) (fun g hg => LoOk.of (l := [nextF_C0]) (by kernel_rfl) (.cons (nextF_ok0 g hg) (by kernel_rfl) .nil)) (fun (p0, p1, ()) => nextF_eq p0 p1)
noncomputable def cx_nextF : Ctx := addO cx_fits20 138 (ocOrc nextF_ins nextF_outs nextF)
theorem en_nextF : EnvFull Try.prog cx_nextF := env_add (en_fits20) nextF_oc.callOk
noncomputable def lessP_l0 : ((List (Int × Int)) × ((List (Int × Int)) × (Int × Unit))) → Br (((List (Int × Int)) × ((List (Int × Int)) × (Int × Unit))) ⊕ ((Bool × Unit) ⊕ ((List (Int × Int)) × zA31))) := fun (s0_19, s1_20, s5_21, ()) =>
 (.cond (decide (s5_21 < (↑(List.length s0_19) : Int)))
 (.cond (decide (s5_21 < (↑(List.length s1_20) : Int)))
 (.cond (decide (0 ≤ s5_21) && decide (s5_21 < (↑(List.length s0_19) : Int)))
 (.cond (decide (0 ≤ s5_21) && decide (s5_21 < (↑(List.length s1_20) : Int)))
 (.cond (Prod.fst (List.getD s0_19 (Int.toNat s5_21) (0, 0)) != Prod.fst (List.getD s1_20 (Int.toNat s5_21) (0, 0)))
 (.cond (decide (0 ≤ s5_21) && decide (s5_21 < (↑(List.length s0_19) : Int)))
 (.cond (decide (0 ≤ s5_21) && decide (s5_21 < (↑(List.length s1_20) : Int)))
 (.ret (.inr (.inl (decide (Prod.fst (List.getD s0_19 (Int.toNat s5_21) (0, 0)) < Prod.fst (List.getD s1_20 (Int.toNat s5_21) (0, 0))), ()))))
 (.no))
 (.no))
 (.cond (decide (0 ≤ s5_21) && decide (s5_21 < (↑(List.length s0_19) : Int)))
 (.cond (decide (0 ≤ s5_21) && decide (s5_21 < (↑(List.length s1_20) : Int)))
 (.cond (Prod.snd (List.getD s0_19 (Int.toNat s5_21) (0, 0)) != Prod.snd (List.getD s1_20 (Int.toNat s5_21) (0, 0)))
 (.cond (decide (0 ≤ s5_21) && decide (s5_21 < (↑(List.length s0_19) : Int)))
 (.cond (decide (0 ≤ s5_21) && decide (s5_21 < (↑(List.length s1_20) : Int)))
 (.ret (.inr (.inl (decide (Prod.snd (List.getD s0_19 (Int.toNat s5_21) (0, 0)) < Prod.snd (List.getD s1_20 (Int.toNat s5_21) (0, 0))), ()))))
 (.no))
 (.no))
 (.ret (.inl (s0_19, s1_20, IntKind.wrap .i64 (s5_21 + 1), ()))))
 (.no))
 (.no)))
 (.no))
 (.no))
 (.ret (.inr (.inr (s0_19, s1_20, ())))))
 (.ret (.inr (.inr (s0_19, s1_20, ())))))
noncomputable def lessP_w0 : ((List (Int × Int)) × ((List (Int × Int)) × (Int × Unit))) → Option ((Bool × Unit) ⊕ ((List (Int × Int)) × zA31)) := iterO fun x => (lessP_l0 x).run
noncomputable def lessP_B : ((List (Int × Int)) × zA31) → Br (Bool × Unit) := fun (p0, p1, ()) =>
 (.opt (lessP_w0 (p0, p1, 0, ())) fun z23 =>
 (.sum z23 (fun u24 =>
 (.ret (u24.1, ()))) (fun z25 =>
 (.ret (decide ((↑(List.length z25.1) : Int) < (↑(List.length z25.2.1) : Int)), ())))))
noncomputable def lessP : ((List (Int × Int)) × zA31) → Option (Bool × Unit) := fun x => (lessP_B x).run
abbrev lessP_ins : List (Bool × Pat) := [(false, .ty true (.sl zA16)), (false, .ty true (.sl zA16))]
abbrev lessP_outs : List Pat := [.ty false .bool]
noncomputable abbrev lessP_f : Func := Try.f140
noncomputable abbrev lessP_P : Program := Try.prog
abbrev lessP_kp : List Nat := kpOf lessP_ins
abbrev lessP_kf : List Nat := kfOf lessP_ins
noncomputable def lessP_c : Ctx := { cx_nextF with base := 1024 }
set_option maxRecDepth 100000 in
theorem lessP_env : EnvFull lessP_P lessP_c := env_base (en_nextF) 1024
abbrev lessP_H0 : List Hole := [.slot 0 true (.sl zA16), .slot 1 true (.sl zA16), .slot 5 false (.int .i64)]
def lessP_S0 : Skel := ⟨67, [], []⟩
abbrev lessP_H0e0 : List Hole := [.slot 4 false .bool]
def lessP_S0e0 : Skel := ⟨67, [], []⟩
abbrev lessP_H0e1 : List Hole := [.slot 0 true (.sl zA16), .slot 1 true (.sl zA16)]
def lessP_S0e1 : Skel := ⟨67, [], []⟩
def lessP_h0 : Exit → Shape
  | .normal => ⟨[(0, .as true (.sl zA16)), (1, .as true (.sl zA16)), (5, .as false (.int .i64))], [], []⟩
  | .ret => ⟨[(4, .as false .bool)], [], []⟩
  | .exit 0 => ⟨[(0, .as true (.sl zA16)), (1, .as true (.sl zA16))], [], []⟩
  | _ => ⟨[], [], []⟩
def lessP_e0 : ((Bool × Unit) ⊕ ((List (Int × Int)) × zA31)) → Exit × St
  | (.inl u) => (.ret, lessP_S0e0.fillK lessP_kf lessP_H0e0 u)
  | (.inr u) => (.exit 0, lessP_S0e1.fillK lessP_kf lessP_H0e1 u)
def lessP_t0 : ((Bool × Unit) ⊕ ((List (Int × Int)) × zA31)) → Br (Exit × St) := fun z => .sum z (fun u => .ret (.ret, lessP_S0e0.fillK lessP_kf lessP_H0e0 u)) (fun u => .ret (.exit 0, lessP_S0e1.fillK lessP_kf lessP_H0e1 u))
noncomputable def lessP_C0 : Code := loopAt 0 (bodyOf lessP_f)
noncomputable def lessP_o0 : St → Br (Exit × St) := loopF lessP_kp lessP_kf 1024 (lessP_h0 .normal) (lessP_S0.parseK lessP_kf lessP_H0) fun x => .opt (lessP_w0 x) lessP_t0
noncomputable def lessP_p : Par := { sh := fun _ => none, k := 0, lo := fun i => bif Nat.beq i 2 then some lessP_o0 else none }
set_option maxRecDepth 100000 in
theorem lessP_r0 (s0_19 : (List (Int × Int))) (s1_20 : (List (Int × Int))) (s5_21 : Int) : roundF lessP_kp lessP_kf lessP_c lessP_p lessP_h0 lessP_C0 (lessP_S0.fillK lessP_kf lessP_H0 (s0_19, s1_20, s5_21, ())) = (lessP_l0 (s0_19, s1_20, s5_21, ())).bind (loopLeaf (fun x => lessP_S0.fillK lessP_kf lessP_H0 x) lessP_e0) := by kernel_rfl
set_option maxRecDepth 100000 in
theorem lessP_ok0 (g : Cfg) (hg : ∀ n, Go.PI.look n g.m0 ≠ Option.none → n ∈ lessP_kp) : LoopOk lessP_P g lessP_o0 lessP_C0 := LoopOk.auto lessP_env hg lessP_p (LoOk.of (l := []) (by kernel_rfl) .nil) lessP_h0 (fun x => lessP_S0.fillK lessP_kf lessP_H0 x) (fun s x h => Skel.parseK_ok s x h) lessP_l0 lessP_e0 (fun z h => by rcases z with z | z <;> cases h) lessP_t0 (fun z => by rcases z with z | z <;> rfl) (fun (s0_19, s1_20, s5_21, ()) => lessP_r0 s0_19 s1_20 s5_21)
set_option maxRecDepth 100000 in
theorem lessP_eq (p0 : (List (Int × Int))) (p1 : (List (Int × Int))) : ocRun lessP_c lessP_p lessP_f lessP_ins lessP_outs (p0, p1, ()) = lessP_B (p0, p1, ()) := by kernel_rfl
set_option maxRecDepth 100000 in
theorem lessP_oc : OC lessP_P 140 lessP_ins lessP_outs lessP := OC.of_tree lessP_env Try.func140 (by kernel_rfl) (by kernel_rfl) (p := lessP_p) (fun g hg => LoOk.of (l := [lessP_C0]) (by kernel_rfl) (.cons (lessP_ok0 g hg) (by kernel_rfl) .nil)) (fun (p0, p1, ()) => lessP_eq p0 p1)
noncomputable def cx_lessP : Ctx := addO cx_nextF 140 (ocOrc lessP_ins lessP_outs lessP)
theorem en_lessP : EnvFull Try.prog cx_lessP := env_add (en_nextF) lessP_oc.callOk
noncomputable def sortP_l1 : (zA23 × (Int × (Int × (zA23 × Unit)))) → Br ((zA23 × (Int × (Int × (zA23 × Unit)))) ⊕ (zA23 × (Int × (Int × (zA23 × Unit))))) := fun (s0_91, s4_92, s5_93, r1725_94, ()) =>
 (.cond (decide (s5_93 > 0))
 (.cond (decide (0 ≤ s4_92) && decide (s4_92 < (↑(List.length s0_91) : Int)))
 (.cond (decide (0 ≤ IntKind.wrap .i64 (s5_93 - 1)) && decide (IntKind.wrap .i64 (s5_93 - 1) < (↑(List.length r1725_94) : Int)))
 (.opt (lessP (List.getD s0_91 (Int.toNat s4_92) [], List.getD r1725_94 (Int.toNat (IntKind.wrap .i64 (s5_93 - 1))) [], ())) fun y95 =>
 (.cond y95.1
 (.ret (.inl (s0_91, s4_92, IntKind.wrap .i64 (s5_93 - 1), r1725_94, ())))
 (.ret (.inr (s0_91, s4_92, s5_93, r1725_94, ())))))
 (.no))
 (.no))
 (.ret (.inr (s0_91, s4_92, s5_93, r1725_94, ()))))
noncomputable def sortP_w1 : (zA23 × (Int × (Int × (zA23 × Unit)))) → Option (zA23 × (Int × (Int × (zA23 × Unit)))) := iterO fun x => (sortP_l1 x).run
noncomputable def sortP_l2 : (zA23 × (Int × (Int × (Int × (zA23 × Unit))))) → Br ((zA23 × (Int × (Int × (Int × (zA23 × Unit))))) ⊕ (zA23 × (Int × (Int × (zA23 × Unit))))) := fun (s0_98, s4_99, s5_100, s6_101, r1058_102, ()) =>
 (.cond (decide (s6_101 > s5_100))
 (.cond (decide (0 ≤ IntKind.wrap .i64 (s6_101 - 1)) && decide (IntKind.wrap .i64 (s6_101 - 1) < (↑(List.length r1058_102) : Int)))
 (.cond (decide (0 ≤ s6_101) && decide (s6_101 < (↑(List.length r1058_102) : Int)))
 (.ret (.inl (s0_98, s4_99, s5_100, IntKind.wrap .i64 (s6_101 - 1), List.set r1058_102 (Int.toNat s6_101) (List.getD r1058_102 (Int.toNat (IntKind.wrap .i64 (s6_101 - 1))) []), ())))
 (.no))
 (.no))
 (.ret (.inr (s0_98, s4_99, s5_100, r1058_102, ()))))
noncomputable def sortP_w2 : (zA23 × (Int × (Int × (Int × (zA23 × Unit))))) → Option (zA23 × (Int × (Int × (zA23 × Unit)))) := iterO fun x => (sortP_l2 x).run
noncomputable def sortP_l0 : (zA23 × (Int × (zA23 × Unit))) → Br ((zA23 × (Int × (zA23 × Unit))) ⊕ (zA23 × Unit)) := fun (s0_88, s4_89, r1724_90, ()) =>
 (.cond (decide (s4_89 < (↑(List.length s0_88) : Int)))
 (.opt (sortP_w1 (s0_88, s4_89, (↑(List.length r1724_90) : Int), r1724_90, ())) fun z97 =>
 (.cond (decide ((List.length z97.2.2.2.1 + @List.length (List (Int × Int)) (List.set (List.replicate 1 []) 0 [])) * 24 ≤ 140737488355328))
 (.opt (sortP_w2 (z97.1, z97.2.1, z97.2.2.1, IntKind.wrap .i64 ((↑(List.length (z97.2.2.2.1 ++ List.set (List.replicate 1 []) 0 [])) : Int) - 1), z97.2.2.2.1 ++ List.set (List.replicate 1 []) 0 [], ())) fun z104 =>
 (.cond (decide (0 ≤ z104.2.1) && decide (z104.2.1 < (↑(List.length z104.1) : Int)))
 (.cond (decide (0 ≤ z104.2.2.1) && decide (z104.2.2.1 < (↑(List.length z104.2.2.2.1) : Int)))
 (.ret (.inl (z104.1, IntKind.wrap .i64 (z104.2.1 + 1), List.set z104.2.2.2.1 (Int.toNat z104.2.2.1) (List.getD z104.1 (Int.toNat z104.2.1) []), ())))
 (.no))
 (.no)))
 (.no)))
 (.ret (.inr (r1724_90, ()))))
noncomputable def sortP_w0 : (zA23 × (Int × (zA23 × Unit))) → Option (zA23 × Unit) := iterO fun x => (sortP_l0 x).run
noncomputable def sortP_B : (zA23 × Unit) → Br (zA23 × Unit) := fun (p0, ()) =>
 (.opt (sortP_w0 (p0, 0, [], ())) fun z106 =>
 (.ret (z106.1, ())))
noncomputable def sortP : (zA23 × Unit) → Option (zA23 × Unit) := fun x => (sortP_B x).run
abbrev sortP_ins : List (Bool × Pat) := [(false, .ty false (.sl (.sl zA16)))]
abbrev sortP_outs : List Pat := [.ty false (.sl (.sl zA16))]
noncomputable abbrev sortP_f : Func := Try.f98
noncomputable abbrev sortP_P : Program := Try.prog
abbrev sortP_kp : List Nat := kpOf sortP_ins
abbrev sortP_kf : List Nat := kfOf sortP_ins
noncomputable def sortP_c : Ctx := { cx_lessP with base := 1024 }
set_option maxRecDepth 100000 in
theorem sortP_env : EnvFull sortP_P sortP_c := env_base (en_lessP) 1024
abbrev sortP_H1 : List Hole := [.slot 0 false (.sl (.sl zA16)), .slot 4 false (.int .i64), .slot 5 false (.int .i64), .ar 1725 false 104 (.sl zA16)]
def sortP_S1 : Skel := ⟨59, [(3, .c (.mfull 1725))], [(1725, [])]⟩
abbrev sortP_H1e0 : List Hole := [.slot 0 false (.sl (.sl zA16)), .slot 4 false (.int .i64), .slot 5 false (.int .i64), .ar 1726 false 104 (.sl zA16)]
def sortP_S1e0 : Skel := ⟨59, [(3, .c (.mfull 1726))], [(1726, [])]⟩
def sortP_h1 : Exit → Shape
  | .normal => ⟨[(0, .as false (.sl (.sl zA16))), (3, .row 701 false 104 (.sl zA16)), (4, .as false (.int .i64)), (5, .as false (.int .i64))], [], [(701, false)]⟩
  | .exit 2 => ⟨[(0, .as false (.sl (.sl zA16))), (3, .row 702 false 104 (.sl zA16)), (4, .as false (.int .i64)), (5, .as false (.int .i64))], [], [(702, false)]⟩
  | _ => ⟨[], [], []⟩
def sortP_e1 : (zA23 × (Int × (Int × (zA23 × Unit)))) → Exit × St
  | u => (.exit 2, sortP_S1e0.fillK sortP_kf sortP_H1e0 u)
def sortP_t1 : (zA23 × (Int × (Int × (zA23 × Unit)))) → Br (Exit × St) := fun u => .ret (.exit 2, sortP_S1e0.fillK sortP_kf sortP_H1e0 u)
noncomputable def sortP_C1 : Code := loopAt 1 (bodyOf sortP_f)
noncomputable def sortP_o1 : St → Br (Exit × St) := loopF sortP_kp sortP_kf 1024 (sortP_h1 .normal) (sortP_S1.parseK sortP_kf sortP_H1) fun x => .opt (sortP_w1 x) sortP_t1
abbrev sortP_H2 : List Hole := [.slot 0 false (.sl (.sl zA16)), .slot 4 false (.int .i64), .slot 5 false (.int .i64), .slot 6 false (.int .i64), .ar 1058 false 104 (.sl zA16)]
def sortP_S2 : Skel := ⟨59, [(3, D.c (C.mfull 1058))], [(1058, [])]⟩
abbrev sortP_H2e0 : List Hole := [.slot 0 false (.sl (.sl zA16)), .slot 4 false (.int .i64), .slot 5 false (.int .i64), .ar 1058 false 104 (.sl zA16)]
def sortP_S2e0 : Skel := ⟨59, [(3, D.c (C.mfull 1058))], [(1058, [])]⟩
def sortP_h2 : Exit → Shape
  | .normal => ⟨[(0, .as false (.sl (.sl zA16))), (3, .keep), (4, .as false (.int .i64)), (5, .as false (.int .i64)), (6, .as false (.int .i64))], [], [(34, false)]⟩
  | .exit 4 => ⟨[(0, .as false (.sl (.sl zA16))), (3, .keep), (4, .as false (.int .i64)), (5, .as false (.int .i64))], [], [(34, false)]⟩
  | _ => ⟨[], [], []⟩
def sortP_e2 : (zA23 × (Int × (Int × (zA23 × Unit)))) → Exit × St
  | u => (.exit 4, sortP_S2e0.fillK sortP_kf sortP_H2e0 u)
def sortP_t2 : (zA23 × (Int × (Int × (zA23 × Unit)))) → Br (Exit × St) := fun u => .ret (.exit 4, sortP_S2e0.fillK sortP_kf sortP_H2e0 u)
noncomputable def sortP_C2 : Code := loopAt 2 (bodyOf sortP_f)
noncomputable def sortP_o2 : St → Br (Exit × St) := loopF sortP_kp sortP_kf 1024 (sortP_h2 .normal) (sortP_S2.parseK sortP_kf sortP_H2) fun x => .opt (sortP_w2 x) sortP_t2
abbrev sortP_H0 : List Hole := [.slot 0 false (.sl (.sl zA16)), .slot 4 false (.int .i64), .ar 1724 false 104 (.sl zA16)]
def sortP_S0 : Skel := ⟨59, [(3, .c (.mfull 1724))], [(1724, [])]⟩
abbrev sortP_H0e0 : List Hole := [.ar 1727 false 104 (.sl zA16)]
def sortP_S0e0 : Skel := ⟨59, [(3, .c (.mfull 1727))], [(1727, [])]⟩
def sortP_h0 : Exit → Shape
  | .normal => ⟨[(0, .as false (.sl (.sl zA16))), (3, .row 700 false 104 (.sl zA16)), (4, .as false (.int .i64))], [], [(700, false)]⟩
  | .exit 0 => ⟨[(3, .row 703 false 104 (.sl zA16))], [], [(703, false)]⟩
  | _ => ⟨[], [], []⟩
def sortP_e0 : (zA23 × Unit) → Exit × St
  | u => (.exit 0, sortP_S0e0.fillK sortP_kf sortP_H0e0 u)
def sortP_t0 : (zA23 × Unit) → Br (Exit × St) := fun u => .ret (.exit 0, sortP_S0e0.fillK sortP_kf sortP_H0e0 u)
noncomputable def sortP_C0 : Code := loopAt 0 (bodyOf sortP_f)
noncomputable def sortP_o0 : St → Br (Exit × St) := loopF sortP_kp sortP_kf 1024 (sortP_h0 .normal) (sortP_S0.parseK sortP_kf sortP_H0) fun x => .opt (sortP_w0 x) sortP_t0
noncomputable def sortP_p : Par := { sh := fun _ => none, k := 0, lo := fun i => bif Nat.beq i 3 then some sortP_o0 else bif Nat.beq i 6 then some sortP_o1 else bif Nat.beq i 10 then some sortP_o2 else none }
set_option maxRecDepth 100000 in
theorem sortP_r1 (s0_91 : zA23) (s4_92 : Int) (s5_93 : Int) (r1725_94 : zA23) : roundF sortP_kp sortP_kf sortP_c sortP_p sortP_h1 sortP_C1 (sortP_S1.fillK sortP_kf sortP_H1 (s0_91, s4_92, s5_93, r1725_94, ())) = (sortP_l1 (s0_91, s4_92, s5_93, r1725_94, ())).bind (loopLeaf (fun x => sortP_S1.fillK sortP_kf sortP_H1 x) sortP_e1) := by kernel_rfl
set_option maxRecDepth 100000 in
theorem sortP_ok1 (g : Cfg) (hg : ∀ n, Go.PI.look n g.m0 ≠ Option.none → n ∈ sortP_kp) : LoopOk sortP_P g sortP_o1 sortP_C1 := LoopOk.auto sortP_env hg sortP_p (LoOk.of (l := []) (by kernel_rfl) .nil) sortP_h1 (fun x => sortP_S1.fillK sortP_kf sortP_H1 x) (fun s x h => Skel.parseK_ok s x h) sortP_l1 sortP_e1 (fun _ h => by cases h) sortP_t1 (fun _ => rfl) (fun (s0_91, s4_92, s5_93, r1725_94, ()) => sortP_r1 s0_91 s4_92 s5_93 r1725_94)
set_option maxRecDepth 100000 in
theorem sortP_r2 (s0_98 : zA23) (s4_99 : Int) (s5_100 : Int) (s6_101 : Int) (r1058_102 : zA23) : roundF sortP_kp sortP_kf sortP_c sortP_p sortP_h2 sortP_C2 (sortP_S2.fillK sortP_kf sortP_H2 (s0_98, s4_99, s5_100, s6_101, r1058_102, ())) = (sortP_l2 (s0_98, s4_99, s5_100, s6_101, r1058_102, ())).bind (loopLeaf (fun x => sortP_S2.fillK sortP_kf sortP_H2 x) sortP_e2) := by kernel_rfl
set_option maxRecDepth 100000 in
theorem sortP_ok2 (g : Cfg) (hg : ∀ n, Go.PI.look n g.m0 ≠ Option.none → n ∈ sortP_kp) : LoopOk sortP_P g sortP_o2 sortP_C2 := LoopOk.auto sortP_env hg sortP_p (LoOk.of (l := []) (by kernel_rfl) .nil) sortP_h2 (fun x => sortP_S2.fillK sortP_kf sortP_H2 x) (fun s x h => Skel.parseK_ok s x h) sortP_l2 sortP_e2 (fun _ h => by cases h) sortP_t2 (fun _ => rfl) (fun (s0_98, s4_99, s5_100, s6_101, r1058_102, ()) => sortP_r2 s0_98 s4_99 s5_100 s6_101 r1058_102)
set_option maxRecDepth 100000 in
theorem sortP_r0 (s0_88 : zA23) (s4_89 : Int) (r1724_90 : zA23) : roundF sortP_kp sortP_kf sortP_c sortP_p sortP_h0 sortP_C0 (sortP_S0.fillK sortP_kf sortP_H0 (s0_88, s4_89, r1724_90, ())) = (sortP_l0 (s0_88, s4_89, r1724_90, ())).bind (loopLeaf (fun x => sortP_S0.fillK sortP_kf sortP_H0 x) sortP_e0) := by kernel_rfl
set_option maxRecDepth 100000 in
theorem sortP_ok0 (g : Cfg) (hg : ∀ n, Go.PI.look n g.m0 ≠ Option.none → n ∈ sortP_kp) : LoopOk sortP_P g sortP_o0 sortP_C0 := LoopOk.auto sortP_env hg sortP_p (LoOk.of (l := [sortP_C1, sortP_C2]) (by kernel_rfl) (.cons (sortP_ok1 g hg) (by kernel_rfl) (.cons (sortP_ok2 g hg) (by kernel_rfl) .nil))) sortP_h0 (fun x => sortP_S0.fillK sortP_kf sortP_H0 x) (fun s x h => Skel.parseK_ok s x h) sortP_l0 sortP_e0 (fun _ h => by cases h) sortP_t0 (fun _ => rfl) (fun (s0_88, s4_89, r1724_90, ()) => sortP_r0 s0_88 s4_89 r1724_90)
set_option maxRecDepth 100000 in
theorem sortP_eq (p0 : zA23) : ocRun sortP_c sortP_p sortP_f sortP_ins sortP_outs (p0, ()) = sortP_B (p0, ()) := by kernel_rfl
set_option maxRecDepth 100000 in
theorem sortP_oc : OC sortP_P 98 sortP_ins sortP_outs sortP := OC.of_tree sortP_env Try.func98 (by kernel_rfl) (by kernel_rfl) (p := sortP_p) (fun g hg => LoOk.of (l := [sortP_C0, sortP_C1, sortP_C2]) (by kernel_rfl) (.cons (sortP_ok0 g hg) (by kernel_rfl) (.cons (sortP_ok1 g hg) (by kernel_rfl) (.cons (sortP_ok2 g hg) (by kernel_rfl) .nil)))) (fun (p0, ()) => sortP_eq p0)
noncomputable def cx_sortP : Ctx := addO cx_lessP 98 (ocOrc sortP_ins sortP_outs sortP)
theorem en_sortP : EnvFull Try.prog cx_sortP := env_add (en_lessP) sortP_oc.callOk
noncomputable def again1_B : (zA2 × ((Int × Int) × Unit)) → Br (Bool × Unit) := fun (p0, p1, ()) =>
 (.ret (p0.2.2.2.1 == p1.2, ()))
noncomputable def again1 : (zA2 × ((Int × Int) × Unit)) → Option (Bool × Unit) := fun x => (again1_B x).run
abbrev again1_ins : List (Bool × Pat) := [(false, .ty true zA9), (false, .rf zA16)]
abbrev again1_outs : List Pat := [.ty false .bool]
noncomputable abbrev again1_f : Func := Try.f100
noncomputable abbrev again1_P : Program := Try.prog
noncomputable def again1_c : Ctx := { cx_sortP with base := 1024 }
set_option maxRecDepth 100000 in
theorem again1_env : EnvFull again1_P again1_c := env_base (en_sortP) 1024
noncomputable def again1_p : Par := { sh := fun _ => none, k := 0, lo := fun _ => none }
set_option maxRecDepth 100000 in
theorem again1_eq (p0 : zA2) (p1 : (Int × Int)) : ocRun again1_c again1_p again1_f again1_ins again1_outs (p0, p1, ()) = again1_B (p0, p1, ()) := by kernel_rfl
set_option maxRecDepth 100000 in
theorem again1_oc : OC again1_P 100 again1_ins again1_outs again1 := OC.of_tree again1_env Try.func100 (by kernel_rfl) (by kernel_rfl) (p := again1_p) (fun g hg => LoOk.of (l := []) (by kernel_rfl) .nil) (fun (p0, p1, ()) => again1_eq p0 p1)
noncomputable def cx_again1 : Ctx := addO cx_sortP 100 (ocOrc again1_ins again1_outs again1)
theorem en_again1 : EnvFull Try.prog cx_again1 := env_add (en_sortP) again1_oc.callOk
noncomputable def idxEvA_l0 : ((List zA2) × (((Int × Int) × Unit) × (Int × (Int × Unit)))) → Br (((List zA2) × (((Int × Int) × Unit) × (Int × (Int × Unit)))) ⊕ ((Int × Unit) ⊕ Unit)) := fun (s0_25, f1_26, s7_27, s8_28, ()) =>
 (.cond (decide (s8_28 < s7_27))
 (.cond (decide (0 ≤ s8_28) && decide (s8_28 < (↑(List.length s0_25) : Int)))
 (.opt (again1 (List.getD s0_25 (Int.toNat s8_28) (ByteArray.empty, ByteArray.empty, 0, 0, []), f1_26.1, ())) fun y29 =>
 (.cond y29.1
 (.ret (.inr (.inl (s8_28, ()))))
 (.ret (.inl (s0_25, (f1_26.1, ()), s7_27, IntKind.wrap .i64 (s8_28 + 1), ())))))
 (.no))
 (.ret (.inr (.inr (())))))
noncomputable def idxEvA_w0 : ((List zA2) × (((Int × Int) × Unit) × (Int × (Int × Unit)))) → Option ((Int × Unit) ⊕ Unit) := iterO fun x => (idxEvA_l0 x).run
noncomputable def idxEvA_B : ((List zA2) × ((Int × Int) × Unit)) → Br (Int × Unit) := fun (p0, p1, ()) =>
 (.opt (idxEvA_w0 (p0, (p1, ()), (↑(List.length p0) : Int), 0, ())) fun z31 =>
 (.sum z31 (fun u32 =>
 (.ret (u32.1, ()))) (fun z33 =>
 (.ret (-1, ())))))
noncomputable def idxEvA : ((List zA2) × ((Int × Int) × Unit)) → Option (Int × Unit) := fun x => (idxEvA_B x).run
abbrev idxEvA_ins : List (Bool × Pat) := [(false, .ty true (.sl zA9)), (false, .fn 100 (.rf zA16))]
abbrev idxEvA_outs : List Pat := [.ty false (.int .i64)]
noncomputable abbrev idxEvA_f : Func := Try.f99
noncomputable abbrev idxEvA_P : Program := Try.prog
abbrev idxEvA_kp : List Nat := kpOf idxEvA_ins
abbrev idxEvA_kf : List Nat := kfOf idxEvA_ins
noncomputable def idxEvA_c : Ctx := { cx_again1 with base := 1024 }
set_option maxRecDepth 100000 in
theorem idxEvA_env : EnvFull idxEvA_P idxEvA_c := env_base (en_again1) 1024
abbrev idxEvA_H0 : List Hole := [.slot 0 true (.sl zA9), .cap 1 100 [zA16], .slot 7 false (.int .i64), .slot 8 false (.int .i64)]
def idxEvA_S0 : Skel := ⟨19, [], []⟩
abbrev idxEvA_H0e0 : List Hole := [.slot 4 false (.int .i64)]
def idxEvA_S0e0 : Skel := ⟨19, [], []⟩
abbrev idxEvA_H0e1 : List Hole := []
def idxEvA_S0e1 : Skel := ⟨19, [], []⟩
def idxEvA_h0 : Exit → Shape
  | .normal => ⟨[(0, .as true (.sl zA9)), (1, .keep), (7, .as false (.int .i64)), (8, .as false (.int .i64))], [], []⟩
  | .ret => ⟨[(4, .as false (.int .i64))], [], []⟩
  | .exit 0 => ⟨[], [], []⟩
  | _ => ⟨[], [], []⟩
def idxEvA_e0 : ((Int × Unit) ⊕ Unit) → Exit × St
  | (.inl u) => (.ret, idxEvA_S0e0.fillK idxEvA_kf idxEvA_H0e0 u)
  | (.inr u) => (.exit 0, idxEvA_S0e1.fillK idxEvA_kf idxEvA_H0e1 u)
def idxEvA_t0 : ((Int × Unit) ⊕ Unit) → Br (Exit × St) := fun z => .sum z (fun u => .ret (.ret, idxEvA_S0e0.fillK idxEvA_kf idxEvA_H0e0 u)) (fun u => .ret (.exit 0, idxEvA_S0e1.fillK idxEvA_kf idxEvA_H0e1 u))
noncomputable def idxEvA_C0 : Code := loopAt 0 (bodyOf idxEvA_f)
noncomputable def idxEvA_o0 : St → Br (Exit × St) := loopF idxEvA_kp idxEvA_kf 1024 (idxEvA_h0 .normal) (idxEvA_S0.parseK idxEvA_kf idxEvA_H0) fun x => .opt (idxEvA_w0 x) idxEvA_t0
noncomputable def idxEvA_p : Par := { sh := fun _ => none, k := 0, lo := fun i => bif Nat.beq i 2 then some idxEvA_o0 else none }
set_option maxRecDepth 100000 in
theorem idxEvA_r0 (s0_25 : (List zA2)) (f1_26 : ((Int × Int) × Unit)) (s7_27 : Int) (s8_28 : Int) : roundF idxEvA_kp idxEvA_kf idxEvA_c idxEvA_p idxEvA_h0 idxEvA_C0 (idxEvA_S0.fillK idxEvA_kf idxEvA_H0 (s0_25, f1_26, s7_27, s8_28, ())) = (idxEvA_l0 (s0_25, f1_26, s7_27, s8_28, ())).bind (loopLeaf (fun x => idxEvA_S0.fillK idxEvA_kf idxEvA_H0 x) idxEvA_e0) := by kernel_rfl
set_option maxRecDepth 100000 in
theorem idxEvA_ok0 (g : Cfg) (hg : ∀ n, Go.PI.look n g.m0 ≠ Option.none → n ∈ idxEvA_kp) : LoopOk idxEvA_P g idxEvA_o0 idxEvA_C0 := LoopOk.auto idxEvA_env hg idxEvA_p (LoOk.of (l := []) (by kernel_rfl) .nil) idxEvA_h0 (fun x => idxEvA_S0.fillK idxEvA_kf idxEvA_H0 x) (fun s x h => Skel.parseK_ok s x h) idxEvA_l0 idxEvA_e0 (fun z h => by rcases z with z | z <;> cases h) idxEvA_t0 (fun z => by rcases z with z | z <;> rfl) (fun (s0_25, f1_26, s7_27, s8_28, ()) => idxEvA_r0 s0_25 f1_26 s7_27 s8_28)
set_option maxRecDepth 100000 in
theorem idxEvA_eq (p0 : (List zA2)) (p1 : (Int × Int)) : ocRun idxEvA_c idxEvA_p idxEvA_f idxEvA_ins idxEvA_outs (p0, p1, ()) = idxEvA_B (p0, p1, ()) := by kernel_rfl
set_option maxRecDepth 100000 in
theorem idxEvA_oc : OC idxEvA_P 99 idxEvA_ins idxEvA_outs idxEvA := OC.of_tree idxEvA_env Try.func99 (by kernel_rfl) (by kernel_rfl) (p := idxEvA_p) (fun g hg => LoOk.of (l := [idxEvA_C0]) (by kernel_rfl) (.cons (idxEvA_ok0 g hg) (by kernel_rfl) .nil)) (fun (p0, p1, ()) => idxEvA_eq p0 p1)
noncomputable def cx_idxEvA : Ctx := addO cx_again1 99 (ocOrc idxEvA_ins idxEvA_outs idxEvA)
theorem en_idxEvA : EnvFull Try.prog cx_idxEvA := env_add (en_again1) idxEvA_oc.callOk
noncomputable def againR_l0 : (Int × ((List zA2) × ((List (Int × Int)) × (Int × (Int × (Int × (Int × (Int × (Int × (Int × (Bool × (zA10 × (zA6 × Unit))))))))))))) → Br ((Int × ((List zA2) × ((List (Int × Int)) × (Int × (Int × (Int × (Int × (Int × (Int × (Int × (Bool × (zA10 × (zA6 × Unit))))))))))))) ⊕ (Int × (Int × (Int × (Int × (Int × (Int × (Bool × (zA6 × Unit))))))))) := fun (s1_73, s3_74, s13_75, s14_76, s15_77, c1032_0_78, c1032_3_79, c1032_4_80, c1032_5_81, c1032_6_82, c1032_7_83, v1028_84, v1033_85, ()) =>
 (.cond (decide (s15_77 < s14_76))
 (.cond (decide (0 ≤ s15_77) && decide (s15_77 < (↑(List.length s13_75) : Int)))
 (.opt (idxEvA (s3_74, List.getD s13_75 (Int.toNat s15_77) (0, 0), ())) fun y86 =>
 (.cond (decide (y86.1 ≥ 0))
 (.cond (decide (0 ≤ y86.1) && decide (y86.1 < (↑(List.length s3_74) : Int)))
 (.opt (runWith (v1033_85, v1028_84, s1_73, Prod.fst (List.getD s13_75 (Int.toNat s15_77) (0, 0)), List.getD s3_74 (Int.toNat y86.1) (ByteArray.empty, ByteArray.empty, 0, 0, []), ())) fun y87 =>
 (.ret (.inl (s1_73, s3_74, s13_75, s14_76, IntKind.wrap .i64 (s15_77 + 1), c1032_0_78, c1032_3_79, c1032_4_80, c1032_5_81, c1032_6_82, c1032_7_83, v1028_84, y87.1, ()))))
 (.no))
 (.ret (.inl (s1_73, s3_74, s13_75, s14_76, IntKind.wrap .i64 (s15_77 + 1), c1032_0_78, c1032_3_79, c1032_4_80, c1032_5_81, c1032_6_82, c1032_7_83, v1028_84, v1033_85, ())))))
 (.no))
 (.ret (.inr (s1_73, c1032_0_78, c1032_3_79, c1032_4_80, c1032_5_81, c1032_6_82, c1032_7_83, v1033_85, ()))))
noncomputable def againR_w0 : (Int × ((List zA2) × ((List (Int × Int)) × (Int × (Int × (Int × (Int × (Int × (Int × (Int × (Bool × (zA10 × (zA6 × Unit))))))))))))) → Option (Int × (Int × (Int × (Int × (Int × (Int × (Bool × (zA6 × Unit)))))))) := iterO fun x => (againR_l0 x).run
noncomputable def againR_B : (zA10 × (Int × ((List (Int × Int)) × ((List zA2) × Unit)))) → Br (zA6 × Unit) := fun (p0, p1, p2, p3, ()) =>
 (.opt (againR_w0 (p1, p3, p2, (↑(List.length p2) : Int), 0, 0, 0, 0, 0, 0, false, p0, (0, [], [], 0, (0, 0, 0), false), ())) fun z89 =>
 (.ret ((z89.1, z89.2.2.2.2.2.2.2.1.2), ())))
noncomputable def againR : (zA10 × (Int × ((List (Int × Int)) × ((List zA2) × Unit)))) → Option (zA6 × Unit) := fun x => (againR_B x).run
abbrev againR_ins : List (Bool × Pat) := [(false, .ty true zA5), (false, .ty false (.int .i64)), (false, .ty false (.sl zA16)), (false, .ty false (.sl zA9))]
abbrev againR_outs : List Pat := [.ty false zA7]
noncomputable abbrev againR_f : Func := Try.f52
noncomputable abbrev againR_P : Program := Try.prog
abbrev againR_kp : List Nat := kpOf againR_ins
abbrev againR_kf : List Nat := kfOf againR_ins
noncomputable def againR_c : Ctx := { cx_idxEvA with base := 1024 }
set_option maxRecDepth 100000 in
theorem againR_env : EnvFull againR_P againR_c := env_base (en_idxEvA) 1024
abbrev againR_H0 : List Hole := [.slot 1 false (.int .i64), .slot 3 false (.sl zA9), .slot 13 false (.sl zA16), .slot 14 false (.int .i64), .slot 15 false (.int .i64), .cell 1032 0 false (.int .i64), .cell 1032 3 false (.int .i64), .cell 1032 4 false (.int .i64), .cell 1032 5 false (.int .i64), .cell 1032 6 false (.int .i64), .cell 1032 7 false .bool, .tv 1028 true zA5, .tv 1033 false zA7]
def againR_S0 : Skel := ⟨38, [(4, D.c (C.ref 1028 0 0)), (8, D.c (C.ref 1032 0 0)), (9, D.c (C.ref 1033 0 0))], [(1028, []), (1032, [.bad, C.nilp, C.nilp, .bad, .bad, .bad, .bad, .bad]), (1033, [])]⟩
abbrev againR_H0e0 : List Hole := [.slot 1 false (.int .i64), .cell 1032 0 false (.int .i64), .cell 1032 3 false (.int .i64), .cell 1032 4 false (.int .i64), .cell 1032 5 false (.int .i64), .cell 1032 6 false (.int .i64), .cell 1032 7 false .bool, .tv 1033 false zA7]
def againR_S0e0 : Skel := ⟨38, [(8, D.c (C.ref 1032 0 0)), (9, D.c (C.ref 1033 0 0))], [(1032, [.bad, C.nilp, C.nilp, .bad, .bad, .bad, .bad, .bad]), (1033, [])]⟩
def againR_h0 : Exit → Shape
  | .normal => ⟨[(1, .as false (.int .i64)), (3, .as false (.sl zA9)), (4, .keep), (8, .keep), (9, .keep), (13, .as false (.sl zA16)), (14, .as false (.int .i64)), (15, .as false (.int .i64))], [(8, 0, .as false (.int .i64)), (8, 3, .as false (.int .i64)), (8, 4, .as false (.int .i64)), (8, 5, .as false (.int .i64)), (8, 6, .as false (.int .i64)), (8, 7, .as false .bool), (9, 0, .var zA7)], [(4, true), (8, false), (9, false)]⟩
  | .exit 0 => ⟨[(1, .as false (.int .i64)), (8, .keep), (9, .keep)], [(8, 0, .as false (.int .i64)), (8, 3, .as false (.int .i64)), (8, 4, .as false (.int .i64)), (8, 5, .as false (.int .i64)), (8, 6, .as false (.int .i64)), (8, 7, .as false .bool), (9, 0, .var zA7)], [(8, false), (9, false)]⟩
  | _ => ⟨[], [], []⟩
def againR_e0 : (Int × (Int × (Int × (Int × (Int × (Int × (Bool × (zA6 × Unit)))))))) → Exit × St
  | u => (.exit 0, againR_S0e0.fillK againR_kf againR_H0e0 u)
def againR_t0 : (Int × (Int × (Int × (Int × (Int × (Int × (Bool × (zA6 × Unit)))))))) → Br (Exit × St) := fun u => .ret (.exit 0, againR_S0e0.fillK againR_kf againR_H0e0 u)
noncomputable def againR_C0 : Code := loopAt 0 (bodyOf againR_f)
noncomputable def againR_o0 : St → Br (Exit × St) := loopF againR_kp againR_kf 1024 (againR_h0 .normal) (againR_S0.parseK againR_kf againR_H0) fun x => .opt (againR_w0 x) againR_t0
noncomputable def againR_p : Par := { sh := fun _ => none, k := 0, lo := fun i => bif Nat.beq i 3 then some againR_o0 else none }
set_option maxRecDepth 100000 in
theorem againR_r0 (s1_73 : Int) (s3_74 : (List zA2)) (s13_75 : (List (Int × Int))) (s14_76 : Int) (s15_77 : Int) (c1032_0_78 : Int) (c1032_3_79 : Int) (c1032_4_80 : Int) (c1032_5_81 : Int) (c1032_6_82 : Int) (c1032_7_83 : Bool) (v1028_84 : zA10) (v1033_85 : zA6) : roundF againR_kp againR_kf againR_c againR_p againR_h0 againR_C0 (againR_S0.fillK againR_kf againR_H0 (s1_73, s3_74, s13_75, s14_76, s15_77, c1032_0_78, c1032_3_79, c1032_4_80, c1032_5_81, c1032_6_82, c1032_7_83, v1028_84, v1033_85, ())) = (againR_l0 (s1_73, s3_74, s13_75, s14_76, s15_77, c1032_0_78, c1032_3_79, c1032_4_80, c1032_5_81, c1032_6_82, c1032_7_83, v1028_84, v1033_85, ())).bind (loopLeaf (fun x => againR_S0.fillK againR_kf againR_H0 x) againR_e0) := by kernel_rfl
set_option maxRecDepth 100000 in
theorem againR_ok0 (g : Cfg) (hg : ∀ n, Go.PI.look n g.m0 ≠ Option.none → n ∈ againR_kp) : LoopOk againR_P g againR_o0 againR_C0 := LoopOk.auto againR_env hg againR_p (LoOk.of (l := []) (by kernel_rfl) .nil) againR_h0 (fun x => againR_S0.fillK againR_kf againR_H0 x) (fun s x h => Skel.parseK_ok s x h) againR_l0 againR_e0 (fun _ h => by cases h) againR_t0 (fun _ => rfl) (fun (s1_73, s3_74, s13_75, s14_76, s15_77, c1032_0_78, c1032_3_79, c1032_4_80, c1032_5_81, c1032_6_82, c1032_7_83, v1028_84, v1033_85, ()) => againR_r0 s1_73 s3_74 s13_75 s14_76 s15_77 c1032_0_78 c1032_3_79 c1032_4_80 c1032_5_81 c1032_6_82 c1032_7_83 v1028_84 v1033_85)
set_option maxRecDepth 100000 in
theorem againR_eq (p0 : zA10) (p1 : Int) (p2 : (List (Int × Int))) (p3 : (List zA2)) : ocRun againR_c againR_p againR_f againR_ins againR_outs (p0, p1, p2, p3, ()) = againR_B (p0, p1, p2, p3, ()) := by kernel_rfl
set_option maxRecDepth 100000 in
theorem againR_oc : OC againR_P 52 againR_ins againR_outs againR := OC.of_tree againR_env Try.func52 (by kernel_rfl) (by kernel_rfl) (p := againR_p) (fun g hg => LoOk.of (l := [againR_C0]) (by kernel_rfl) (.cons (againR_ok0 g hg) (by kernel_rfl) .nil)) (fun (p0, p1, p2, p3, ()) => againR_eq p0 p1 p2 p3)
noncomputable def cx_againR : Ctx := addO cx_idxEvA 52 (ocOrc againR_ins againR_outs againR)
theorem en_againR : EnvFull Try.prog cx_againR := env_add (en_idxEvA) againR_oc.callOk
end Go.Proofs.Ytnhiplibodkciaa
