/- Contracts of functions. Printed by auto.py. -/
import Derived.Test.YtiblijkhpmemeaaGreatHh
import Derived.Test.YtiblijkhpmemeaaGreatHa
import Derived.Test.YtiblijkhpmemeaaGreatR3b
namespace Go.Proofs.YtiblijkhpmemeaaGreat
set_option maxRecDepth 100000
open Go.PI Go
noncomputable def beforeE_B : (zA2 × (zA2 × Unit)) → Br (Bool × Unit) := fun (p0, p1, ()) =>
 (.cond (decide (p0.2.2.1 < p1.2.2.1))
 (.ret (true, ()))
 (.cond (p0.2.2.1 == p1.2.2.1)
 (.ret (decide (p0.2.2.2.1 < p1.2.2.2.1), ()))
 (.ret (false, ()))))
noncomputable def beforeE : (zA2 × (zA2 × Unit)) → Option (Bool × Unit) := fun x => (beforeE_B x).run
abbrev beforeE_ins : List (Bool × Pat) := [(false, .ty true zA9), (false, .ty true zA9)]
abbrev beforeE_outs : List Pat := [.ty false .bool]
noncomputable abbrev beforeE_f : Func := Tryz.f46
noncomputable abbrev beforeE_P : Program := Tryz.prog
noncomputable def beforeE_c : Ctx := { (addO cxP3 62 (ocOrc holdsR_ins holdsR_outs holdsR)) with base := 1024 }
theorem beforeE_env : EnvFull beforeE_P beforeE_c := env_base ((env_add enP3 holdsR_oc.callOk)) 1024
noncomputable def beforeE_p : Par := { sh := fun _ => none, k := 0, lo := fun _ => none }
theorem beforeE_eq (p0 : zA2) (p1 : zA2) : ocRun beforeE_c beforeE_p beforeE_f beforeE_ins beforeE_outs (p0, p1, ()) = beforeE_B (p0, p1, ()) := by kernel_rfl
theorem beforeE_oc : OC beforeE_P 46 beforeE_ins beforeE_outs beforeE := OC.of_tree beforeE_env Tryz.func46 (by kernel_rfl) (by kernel_rfl) (p := beforeE_p) (fun g hg => LoOk.of (l := []) (by kernel_rfl) .nil) (fun (p0, p1, ()) => beforeE_eq p0 p1)
noncomputable def cx_beforeE : Ctx := addO (addO cxP3 62 (ocOrc holdsR_ins holdsR_outs holdsR)) 46 (ocOrc beforeE_ins beforeE_outs beforeE)
theorem en_beforeE : EnvFull Tryz.prog cx_beforeE := env_add ((env_add enP3 holdsR_oc.callOk)) beforeE_oc.callOk
noncomputable def sortE_l1 : zA28 → Br (zA28 ⊕ zA28) := fun (a, b, c, d, ()) =>
 (.cond (decide (c > 0))
 (.cond (decide (0 ≤ b) && decide (b < (↑(List.length a) : Int)))
 (.cond (decide (0 ≤ IntKind.wrap .i64 (c - 1)) && decide (IntKind.wrap .i64 (c - 1) < (↑(List.length d) : Int)))
 (.opt (beforeE (List.getD a (Int.toNat b) zV1, List.getD d (Int.toNat (IntKind.wrap .i64 (c - 1))) zV1, ())) fun e =>
 (.cond e.1
 (.ret (.inl (a, b, IntKind.wrap .i64 (c - 1), d, ())))
 (.ret (.inr (a, b, c, d, ())))))
 (.no))
 (.no))
 (.ret (.inr (a, b, c, d, ()))))
noncomputable def sortE_w1 : zA28 → Option zA28 := iterO fun x => (sortE_l1 x).run
noncomputable def sortE_l2 : ((List zA2) × zT4) → Br (((List zA2) × zT4) ⊕ zA28) := fun (a, b, c, d, e, ()) =>
 (.cond (decide (d > c))
 (.cond (decide (0 ≤ IntKind.wrap .i64 (d - 1)) && decide (IntKind.wrap .i64 (d - 1) < (↑(List.length e) : Int)))
 (.cond (decide (0 ≤ d) && decide (d < (↑(List.length e) : Int)))
 (.ret (.inl (a, b, c, IntKind.wrap .i64 (d - 1), List.set e (Int.toNat d) (List.getD e (Int.toNat (IntKind.wrap .i64 (d - 1))) zV1), ())))
 (.no))
 (.no))
 (.ret (.inr (a, b, c, e, ()))))
noncomputable def sortE_w2 : ((List zA2) × zT4) → Option zA28 := iterO fun x => (sortE_l2 x).run
noncomputable def sortE_l0 : ((List zA2) × (Int × ((List zA2) × Unit))) → Br (((List zA2) × (Int × ((List zA2) × Unit))) ⊕ ((List zA2) × Unit)) := fun (a, b, c, ()) =>
 (.cond (decide (b < (↑(List.length a) : Int)))
 (.opt (sortE_w1 (a, b, (↑(List.length c) : Int), c, ())) fun d =>
 (.cond (decide ((List.length d.2.2.2.1 + @List.length (ByteArray × ByteArray × Int × Int × List (Int × Int × ByteArray × Bool)) (List.set (List.replicate 1 zV1) 0 zV1)) * 72 ≤ 140737488355328))
 (.opt (sortE_w2 (d.1, d.2.1, d.2.2.1, IntKind.wrap .i64 ((↑(List.length (d.2.2.2.1 ++ List.set (List.replicate 1 zV1) 0 zV1)) : Int) - 1), d.2.2.2.1 ++ List.set (List.replicate 1 zV1) 0 zV1, ())) fun e =>
 (.cond (decide (0 ≤ e.2.1) && decide (e.2.1 < (↑(List.length e.1) : Int)))
 (.cond (decide (0 ≤ e.2.2.1) && decide (e.2.2.1 < (↑(List.length e.2.2.2.1) : Int)))
 (.ret (.inl (e.1, IntKind.wrap .i64 (e.2.1 + 1), List.set e.2.2.2.1 (Int.toNat e.2.2.1) (List.getD e.1 (Int.toNat e.2.1) zV1), ())))
 (.no))
 (.no)))
 (.no)))
 (.ret (.inr (c, ()))))
noncomputable def sortE_w0 : ((List zA2) × (Int × ((List zA2) × Unit))) → Option ((List zA2) × Unit) := iterO fun x => (sortE_l0 x).run
noncomputable def sortE_B : ((List zA2) × Unit) → Br ((List zA2) × Unit) := fun (p0, ()) =>
 (.opt (sortE_w0 (p0, 0, [], ())) fun a =>
 (.ret (a.1, ())))
noncomputable def sortE : ((List zA2) × Unit) → Option ((List zA2) × Unit) := fun x => (sortE_B x).run
abbrev sortE_ins : List (Bool × Pat) := [(false, .ty false (.sl zA9))]
abbrev sortE_outs : List Pat := [.ty false (.sl zA9)]
noncomputable abbrev sortE_f : Func := Tryz.f26
noncomputable abbrev sortE_P : Program := Tryz.prog
abbrev sortE_kp : List Nat := kpOf sortE_ins
abbrev sortE_kf : List Nat := kfOf sortE_ins
noncomputable def sortE_c : Ctx := { cx_beforeE with base := 1024 }
theorem sortE_env : EnvFull sortE_P sortE_c := env_base (en_beforeE) 1024
abbrev sortE_H1 : List Hole := [.slot 0 false (.sl zA9), .slot 4 false (.int .i64), .slot 5 false (.int .i64), .ar 1725 false 52 zA9]
def sortE_S1 : Skel := ⟨60, [(3, .c (.mfull 1725))], [(1725, [])]⟩
abbrev sortE_H1e0 : List Hole := [.slot 0 false (.sl zA9), .slot 4 false (.int .i64), .slot 5 false (.int .i64), .ar 1726 false 52 zA9]
def sortE_S1e0 : Skel := ⟨60, [(3, .c (.mfull 1726))], [(1726, [])]⟩
def sortE_h1 : Exit → Shape
 | .normal => ⟨[(0, .as false (.sl zA9)), (3, .row 701 false 52 zA9), (4, .as false (.int .i64)), (5, .as false (.int .i64))], [], [(701, false)]⟩
 | .exit 2 => ⟨[(0, .as false (.sl zA9)), (3, .row 702 false 52 zA9), (4, .as false (.int .i64)), (5, .as false (.int .i64))], [], [(702, false)]⟩
 | _ => ⟨[], [], []⟩
def sortE_e1 : zA28 → Exit × St
 | u => (.exit 2, sortE_S1e0.fillK sortE_kf sortE_H1e0 u)
def sortE_t1 : zA28 → Br (Exit × St) := fun u => .ret (.exit 2, sortE_S1e0.fillK sortE_kf sortE_H1e0 u)
noncomputable def sortE_C1 : Code := loopAt 1 (bodyOf sortE_f)
noncomputable def sortE_o1 : St → Br (Exit × St) := loopF sortE_kp sortE_kf 1024 (sortE_h1 .normal) (sortE_S1.parseK sortE_kf sortE_H1) fun x => .opt (sortE_w1 x) sortE_t1
abbrev sortE_H2 : List Hole := [.slot 0 false (.sl zA9), .slot 4 false (.int .i64), .slot 5 false (.int .i64), .slot 6 false (.int .i64), .ar 1059 false 52 zA9]
def sortE_S2 : Skel := ⟨60, [(3, D.c (C.mfull 1059))], [(1059, [])]⟩
abbrev sortE_H2e0 : List Hole := [.slot 0 false (.sl zA9), .slot 4 false (.int .i64), .slot 5 false (.int .i64), .ar 1059 false 52 zA9]
def sortE_S2e0 : Skel := ⟨60, [(3, D.c (C.mfull 1059))], [(1059, [])]⟩
def sortE_h2 : Exit → Shape
 | .normal => ⟨[(0, .as false (.sl zA9)), (3, .keep), (4, .as false (.int .i64)), (5, .as false (.int .i64)), (6, .as false (.int .i64))], [], [(35, false)]⟩
 | .exit 4 => ⟨[(0, .as false (.sl zA9)), (3, .keep), (4, .as false (.int .i64)), (5, .as false (.int .i64))], [], [(35, false)]⟩
 | _ => ⟨[], [], []⟩
def sortE_e2 : zA28 → Exit × St
 | u => (.exit 4, sortE_S2e0.fillK sortE_kf sortE_H2e0 u)
def sortE_t2 : zA28 → Br (Exit × St) := fun u => .ret (.exit 4, sortE_S2e0.fillK sortE_kf sortE_H2e0 u)
noncomputable def sortE_C2 : Code := loopAt 2 (bodyOf sortE_f)
noncomputable def sortE_o2 : St → Br (Exit × St) := loopF sortE_kp sortE_kf 1024 (sortE_h2 .normal) (sortE_S2.parseK sortE_kf sortE_H2) fun x => .opt (sortE_w2 x) sortE_t2
abbrev sortE_H0 : List Hole := [.slot 0 false (.sl zA9), .slot 4 false (.int .i64), .ar 1724 false 52 zA9]
def sortE_S0 : Skel := ⟨60, [(3, .c (.mfull 1724))], [(1724, [])]⟩
abbrev sortE_H0e0 : List Hole := [.ar 1727 false 52 zA9]
def sortE_S0e0 : Skel := ⟨60, [(3, .c (.mfull 1727))], [(1727, [])]⟩
def sortE_h0 : Exit → Shape
 | .normal => ⟨[(0, .as false (.sl zA9)), (3, .row 700 false 52 zA9), (4, .as false (.int .i64))], [], [(700, false)]⟩
 | .exit 0 => ⟨[(3, .row 703 false 52 zA9)], [], [(703, false)]⟩
 | _ => ⟨[], [], []⟩
def sortE_e0 : ((List zA2) × Unit) → Exit × St
 | u => (.exit 0, sortE_S0e0.fillK sortE_kf sortE_H0e0 u)
def sortE_t0 : ((List zA2) × Unit) → Br (Exit × St) := fun u => .ret (.exit 0, sortE_S0e0.fillK sortE_kf sortE_H0e0 u)
noncomputable def sortE_C0 : Code := loopAt 0 (bodyOf sortE_f)
noncomputable def sortE_o0 : St → Br (Exit × St) := loopF sortE_kp sortE_kf 1024 (sortE_h0 .normal) (sortE_S0.parseK sortE_kf sortE_H0) fun x => .opt (sortE_w0 x) sortE_t0
noncomputable def sortE_p : Par := { sh := fun _ => none, k := 0, lo := fun i => bif Nat.beq i 3 then some sortE_o0 else bif Nat.beq i 6 then some sortE_o1 else bif Nat.beq i 10 then some sortE_o2 else none }
theorem sortE_r1 (a : (List zA2)) (b : Int) (c : Int) (d : (List zA2)) : roundF sortE_kp sortE_kf sortE_c sortE_p sortE_h1 sortE_C1 (sortE_S1.fillK sortE_kf sortE_H1 (a, b, c, d, ())) = (sortE_l1 (a, b, c, d, ())).bind (loopLeaf (fun x => sortE_S1.fillK sortE_kf sortE_H1 x) sortE_e1) := by kernel_rfl
theorem sortE_ok1 (g : Cfg) (hg : ∀ n, Go.PI.look n g.m0 ≠ Option.none → n ∈ sortE_kp) : LoopOk sortE_P g sortE_o1 sortE_C1 := LoopOk.auto sortE_env hg sortE_p (LoOk.of (l := []) (by kernel_rfl) .nil) sortE_h1 (fun x => sortE_S1.fillK sortE_kf sortE_H1 x) (fun s x h => Skel.parseK_ok s x h) sortE_l1 sortE_e1 (fun _ h => by cases h) sortE_t1 (fun _ => rfl) (fun (a, b, c, d, ()) => sortE_r1 a b c d)
theorem sortE_r2 (a : (List zA2)) (b : Int) (c : Int) (d : Int) (e : (List zA2)) : roundF sortE_kp sortE_kf sortE_c sortE_p sortE_h2 sortE_C2 (sortE_S2.fillK sortE_kf sortE_H2 (a, b, c, d, e, ())) = (sortE_l2 (a, b, c, d, e, ())).bind (loopLeaf (fun x => sortE_S2.fillK sortE_kf sortE_H2 x) sortE_e2) := by kernel_rfl
theorem sortE_ok2 (g : Cfg) (hg : ∀ n, Go.PI.look n g.m0 ≠ Option.none → n ∈ sortE_kp) : LoopOk sortE_P g sortE_o2 sortE_C2 := LoopOk.auto sortE_env hg sortE_p (LoOk.of (l := []) (by kernel_rfl) .nil) sortE_h2 (fun x => sortE_S2.fillK sortE_kf sortE_H2 x) (fun s x h => Skel.parseK_ok s x h) sortE_l2 sortE_e2 (fun _ h => by cases h) sortE_t2 (fun _ => rfl) (fun (a, b, c, d, e, ()) => sortE_r2 a b c d e)
theorem sortE_r0 (a : (List zA2)) (b : Int) (c : (List zA2)) : roundF sortE_kp sortE_kf sortE_c sortE_p sortE_h0 sortE_C0 (sortE_S0.fillK sortE_kf sortE_H0 (a, b, c, ())) = (sortE_l0 (a, b, c, ())).bind (loopLeaf (fun x => sortE_S0.fillK sortE_kf sortE_H0 x) sortE_e0) := by kernel_rfl
theorem sortE_ok0 (g : Cfg) (hg : ∀ n, Go.PI.look n g.m0 ≠ Option.none → n ∈ sortE_kp) : LoopOk sortE_P g sortE_o0 sortE_C0 := LoopOk.auto sortE_env hg sortE_p (LoOk.of (l := [sortE_C1, sortE_C2]) (by kernel_rfl) (.cons (sortE_ok1 g hg) (by kernel_rfl) (.cons (sortE_ok2 g hg) (by kernel_rfl) .nil))) sortE_h0 (fun x => sortE_S0.fillK sortE_kf sortE_H0 x) (fun s x h => Skel.parseK_ok s x h) sortE_l0 sortE_e0 (fun _ h => by cases h) sortE_t0 (fun _ => rfl) (fun (a, b, c, ()) => sortE_r0 a b c)
theorem sortE_eq (p0 : (List zA2)) : ocRun sortE_c sortE_p sortE_f sortE_ins sortE_outs (p0, ()) = sortE_B (p0, ()) := by kernel_rfl
theorem sortE_oc : OC sortE_P 26 sortE_ins sortE_outs sortE := OC.of_tree sortE_env Tryz.func26 (by kernel_rfl) (by kernel_rfl) (p := sortE_p) (fun g hg => LoOk.of (l := [sortE_C0, sortE_C1, sortE_C2]) (by kernel_rfl) (.cons (sortE_ok0 g hg) (by kernel_rfl) (.cons (sortE_ok1 g hg) (by kernel_rfl) (.cons (sortE_ok2 g hg) (by kernel_rfl) .nil)))) (fun (p0, ()) => sortE_eq p0)
noncomputable def cx_sortE : Ctx := addO cx_beforeE 26 (ocOrc sortE_ins sortE_outs sortE)
theorem en_sortE : EnvFull Tryz.prog cx_sortE := env_add (en_beforeE) sortE_oc.callOk
noncomputable def events20_B : ((List zA2) × (Int × Unit)) → Br ((List zA2) × Unit) := fun (p0, p1, ()) =>
 (.opt (eventsR (p0, p1, ())) fun y4 =>
 (.opt (sortE (y4.1, ())) fun y5 =>
 (.ret (y5.1, ()))))
noncomputable def events20 : ((List zA2) × (Int × Unit)) → Option ((List zA2) × Unit) := fun x => (events20_B x).run
abbrev events20_ins : List (Bool × Pat) := [(false, .ty true (.sl zA9)), (false, .ty false (.int .i64))]
abbrev events20_outs : List Pat := [.ty false (.sl zA9)]
noncomputable abbrev events20_f : Func := Tryz.f9
noncomputable abbrev events20_P : Program := Tryz.prog
noncomputable def events20_c : Ctx := { cx_sortE with base := 1024 }
theorem events20_env : EnvFull events20_P events20_c := env_base (en_sortE) 1024
noncomputable def events20_p : Par := { sh := fun _ => none, k := 0, lo := fun _ => none }
theorem events20_eq (p0 : (List zA2)) (p1 : Int) : ocRun events20_c events20_p events20_f events20_ins events20_outs (p0, p1, ()) = events20_B (p0, p1, ()) := by kernel_rfl
theorem events20_oc : OC events20_P 9 events20_ins events20_outs events20 := OC.of_tree events20_env Tryz.func9 (by kernel_rfl) (by kernel_rfl) (p := events20_p) (fun g hg => LoOk.of (l := []) (by kernel_rfl) .nil) (fun (p0, p1, ()) => events20_eq p0 p1)
noncomputable def cx_events20 : Ctx := addO cx_sortE 9 (ocOrc events20_ins events20_outs events20)
theorem en_events20 : EnvFull Tryz.prog cx_events20 := env_add (en_sortE) events20_oc.callOk
noncomputable def ofS_l0 : ((List ByteArray) × (ByteArray × (Int × Unit))) → Br (((List ByteArray) × (ByteArray × (Int × Unit))) ⊕ (Unit ⊕ Unit)) := fun (a, b, c, ()) =>
 (.cond (decide (c < (↑(List.length a) : Int)))
 (.cond (decide (0 ≤ c) && decide (c < (↑(List.length a) : Int)))
 (.cond (bl (List.getD a (Int.toNat c) ByteArray.empty) == bl b)
 (.ret (.inr (.inl (()))))
 (.ret (.inl (a, b, IntKind.wrap .i64 (c + 1), ()))))
 (.no))
 (.ret (.inr (.inr (())))))
noncomputable def ofS_w0 : ((List ByteArray) × (ByteArray × (Int × Unit))) → Option (Unit ⊕ Unit) := iterO fun x => (ofS_l0 x).run
noncomputable def ofS_B : ((List ByteArray) × (ByteArray × Unit)) → Br (Bool × Unit) := fun (p0, p1, ()) =>
 (.opt (ofS_w0 (p0, p1, 0, ())) fun a =>
 (.sum a (fun b =>
 (.ret (true, ()))) (fun c =>
 (.ret (false, ())))))
noncomputable def ofS : ((List ByteArray) × (ByteArray × Unit)) → Option (Bool × Unit) := fun x => (ofS_B x).run
abbrev ofS_ins : List (Bool × Pat) := [(false, .ty true (.sl .str)), (false, .ty false .str)]
abbrev ofS_outs : List Pat := [.ty false .bool]
noncomputable abbrev ofS_f : Func := Tryz.f61
noncomputable abbrev ofS_P : Program := Tryz.prog
abbrev ofS_kp : List Nat := kpOf ofS_ins
abbrev ofS_kf : List Nat := kfOf ofS_ins
noncomputable def ofS_c : Ctx := { cx_events20 with base := 1024 }
theorem ofS_env : EnvFull ofS_P ofS_c := env_base (en_events20) 1024
abbrev ofS_H0 : List Hole := [.slot 0 true (.sl .str), .slot 1 false .str, .slot 5 false (.int .i64)]
def ofS_S0 : Skel := ⟨18, [], []⟩
abbrev ofS_H0e0 : List Hole := []
def ofS_S0e0 : Skel := ⟨18, [(4, D.c C.tt)], []⟩
abbrev ofS_H0e1 : List Hole := []
def ofS_S0e1 : Skel := ⟨18, [], []⟩
def ofS_h0 : Exit → Shape
 | .normal => ⟨[(0, .as true (.sl .str)), (1, .as false .str), (5, .as false (.int .i64))], [], []⟩
 | .ret => ⟨[(4, .keep)], [], []⟩
 | .exit 0 => ⟨[], [], []⟩
 | _ => ⟨[], [], []⟩
def ofS_e0 : (Unit ⊕ Unit) → Exit × St
 | (.inl u) => (.ret, ofS_S0e0.fillK ofS_kf ofS_H0e0 u)
 | (.inr u) => (.exit 0, ofS_S0e1.fillK ofS_kf ofS_H0e1 u)
def ofS_t0 : (Unit ⊕ Unit) → Br (Exit × St) := fun z => .sum z (fun u => .ret (.ret, ofS_S0e0.fillK ofS_kf ofS_H0e0 u)) (fun u => .ret (.exit 0, ofS_S0e1.fillK ofS_kf ofS_H0e1 u))
noncomputable def ofS_C0 : Code := loopAt 0 (bodyOf ofS_f)
noncomputable def ofS_o0 : St → Br (Exit × St) := loopF ofS_kp ofS_kf 1024 (ofS_h0 .normal) (ofS_S0.parseK ofS_kf ofS_H0) fun x => .opt (ofS_w0 x) ofS_t0
noncomputable def ofS_p : Par := { sh := fun _ => none, k := 0, lo := fun i => bif Nat.beq i 2 then some ofS_o0 else none }
theorem ofS_r0 (a : (List ByteArray)) (b : ByteArray) (c : Int) : roundF ofS_kp ofS_kf ofS_c ofS_p ofS_h0 ofS_C0 (ofS_S0.fillK ofS_kf ofS_H0 (a, b, c, ())) = (ofS_l0 (a, b, c, ())).bind (loopLeaf (fun x => ofS_S0.fillK ofS_kf ofS_H0 x) ofS_e0) := by kernel_rfl
theorem ofS_ok0 (g : Cfg) (hg : ∀ n, Go.PI.look n g.m0 ≠ Option.none → n ∈ ofS_kp) : LoopOk ofS_P g ofS_o0 ofS_C0 := LoopOk.auto ofS_env hg ofS_p (LoOk.of (l := []) (by kernel_rfl) .nil) ofS_h0 (fun x => ofS_S0.fillK ofS_kf ofS_H0 x) (fun s x h => Skel.parseK_ok s x h) ofS_l0 ofS_e0 (fun z h => by rcases z with z | z <;> cases h) ofS_t0 (fun z => by rcases z with z | z <;> rfl) (fun (a, b, c, ()) => ofS_r0 a b c)
theorem ofS_eq (p0 : (List ByteArray)) (p1 : ByteArray) : ocRun ofS_c ofS_p ofS_f ofS_ins ofS_outs (p0, p1, ()) = ofS_B (p0, p1, ()) := by kernel_rfl
theorem ofS_oc : OC ofS_P 61 ofS_ins ofS_outs ofS := OC.of_tree ofS_env Tryz.func61 (by kernel_rfl) (by kernel_rfl) (p := ofS_p) (fun g hg => LoOk.of (l := [ofS_C0]) (by kernel_rfl) (.cons (ofS_ok0 g hg) (by kernel_rfl) .nil)) (fun (p0, p1, ()) => ofS_eq p0 p1)
noncomputable def cx_ofS : Ctx := addO cx_events20 61 (ocOrc ofS_ins ofS_outs ofS)
theorem en_ofS : EnvFull Tryz.prog cx_ofS := env_add (en_events20) ofS_oc.callOk
noncomputable def fits20_B : (zA1 × (zA2 × (zA21 × Unit))) → Br (Bool × Unit) := fun (p0, p1, p2, ()) =>
 (.opt (ofS (p0.2.1, p1.1, ())) fun y5 =>
 (.cond y5.1
 (.cond (decide ((@List.length (ByteArray × ByteArray × ByteArray × Int × Int × List (Int × Int × ByteArray × Bool)) (List.replicate 0 zV3) + List.length p2) * 88 ≤ 140737488355328))
 (.cond (decide ((List.length (List.replicate 0 zV3 ++ p2) + List.length (List.set (List.replicate 1 zV3) 0 (p0.1, p1))) * 88 ≤ 140737488355328))
 (.opt (holdsR (p0.2.2.2.2.2, List.replicate 0 zV3 ++ p2 ++ List.set (List.replicate 1 zV3) 0 (p0.1, p1), ())) fun y6 =>
 (.ret (y6.1, ())))
 (.no))
 (.no))
 (.ret (false, ()))))
noncomputable def fits20 : (zA1 × (zA2 × (zA21 × Unit))) → Option (Bool × Unit) := fun x => (fits20_B x).run
abbrev fits20_ins : List (Bool × Pat) := [(false, .ty true zA19), (false, .ty true zA9), (false, .ty true zA35)]
abbrev fits20_outs : List Pat := [.ty false .bool]
noncomputable abbrev fits20_f : Func := Tryz.f32
noncomputable abbrev fits20_P : Program := Tryz.prog
noncomputable def fits20_c : Ctx := { cx_ofS with base := 1024 }
theorem fits20_env : EnvFull fits20_P fits20_c := env_base (en_ofS) 1024
noncomputable def fits20_p : Par := { sh := fun _ => none, k := 0, lo := fun _ => none }
theorem fits20_eq (p0 : zA1) (p1 : zA2) (p2 : zA21) : ocRun fits20_c fits20_p fits20_f fits20_ins fits20_outs (p0, p1, p2, ()) = fits20_B (p0, p1, p2, ()) := by kernel_rfl
theorem fits20_oc : OC fits20_P 32 fits20_ins fits20_outs fits20 := OC.of_tree fits20_env Tryz.func32 (by kernel_rfl) (by kernel_rfl) (p := fits20_p) (fun g hg => LoOk.of (l := []) (by kernel_rfl) .nil) (fun (p0, p1, p2, ()) => fits20_eq p0 p1 p2)
noncomputable def cx_fits20 : Ctx := addO cx_ofS 32 (ocOrc fits20_ins fits20_outs fits20)
theorem en_fits20 : EnvFull Tryz.prog cx_fits20 := env_add (en_ofS) fits20_oc.callOk
noncomputable def nextF_l0 : (Int × ((zA10 × ((List zA2) × zA23)) × ((List Int) × Unit))) → Br ((Int × ((zA10 × ((List zA2) × zA23)) × ((List Int) × Unit))) ⊕ ((Int × ((List Int) × Unit)) ⊕ ((List Int) × Unit))) := fun (a, b, c, ()) =>
 (.cond (decide (a < (↑(List.length b.1.1) : Int)))
 (.cond (decide (0 ≤ a) && decide (a < (↑(List.length b.1.1) : Int)))
 (.cond (!(List.getD b.1.1 (Int.toNat a) zV2).2.2.1)
 (.ret (.inr (.inl (a, c, ()))))
 (.cond (decide ((List.length c + List.length (List.set (List.replicate 1 0) 0 a)) * 8 ≤ 140737488355328))
 (.ret (.inl (IntKind.wrap .i64 (a + 1), b, c ++ List.set (List.replicate 1 0) 0 a, ())))
 (.no)))
 (.no))
 (.ret (.inr (.inr (c, ())))))
noncomputable def nextF_w0 : (Int × ((zA10 × ((List zA2) × zA23)) × ((List Int) × Unit))) → Option ((Int × ((List Int) × Unit)) ⊕ ((List Int) × Unit)) := iterO fun x => (nextF_l0 x).run
noncomputable def nextF_B : ((zA10 × ((List zA2) × zA23)) × (Int × Unit)) → Br ((Int × (List Int)) × Unit) := fun (p0, p1, ()) =>
 (.opt (nextF_w0 (IntKind.wrap .i64 (p1 + 1), p0, [], ())) fun a =>
 (.sum a (fun b =>
 (.ret ((b.1, b.2.1), ()))) (fun c =>
 (.ret ((-1, c.1), ())))))
noncomputable def nextF : ((zA10 × ((List zA2) × zA23)) × (Int × Unit)) → Option ((Int × (List Int)) × Unit) := fun x => (nextF_B x).run
abbrev nextF_ins : List (Bool × Pat) := [(false, .ty true (.st (.pair zA5 (.pair (.sl zA9) (.sl (.sl zA16)))))), (false, .ty false (.int .i64))]
abbrev nextF_outs : List Pat := [.ty false (.int .i64), .ty false (.sl (.int .i64))]
noncomputable abbrev nextF_f : Func := Tryz.f63
noncomputable abbrev nextF_P : Program := Tryz.prog
abbrev nextF_kp : List Nat := kpOf nextF_ins
abbrev nextF_kf : List Nat := kfOf nextF_ins
noncomputable def nextF_c : Ctx := { cx_fits20 with base := 1024 }
theorem nextF_env : EnvFull nextF_P nextF_c := env_base (en_fits20) 1024
abbrev nextF_H0 : List Hole := [.slot 7 false (.int .i64), .tv 1026 true (.st (.pair zA5 (.pair (.sl zA9) (.sl (.sl zA16))))), .ar 1724 false 3 (.int .i64)]
def nextF_S0 : Skel := ⟨34, [(2, D.c (C.ref 1026 0 0)), (6, .c (.mfull 1724))], [(1026, []), (1724, [])]⟩
abbrev nextF_H0e0 : List Hole := [.slot 4 false (.int .i64), .ar 1725 false 3 (.int .i64)]
def nextF_S0e0 : Skel := ⟨34, [(5, .c (.mfull 1725))], [(1725, [])]⟩
abbrev nextF_H0e1 : List Hole := [.ar 1726 false 3 (.int .i64)]
def nextF_S0e1 : Skel := ⟨34, [(6, .c (.mfull 1726))], [(1726, [])]⟩
def nextF_h0 : Exit → Shape
 | .normal => ⟨[(2, .keep), (6, .row 700 false 3 (.int .i64)), (7, .as false (.int .i64))], [], [(2, true), (700, false)]⟩
 | .ret => ⟨[(4, .as false (.int .i64)), (5, .row 701 false 3 (.int .i64))], [], [(701, false)]⟩
 | .exit 0 => ⟨[(6, .row 702 false 3 (.int .i64))], [], [(702, false)]⟩
 | _ => ⟨[], [], []⟩
def nextF_e0 : ((Int × ((List Int) × Unit)) ⊕ ((List Int) × Unit)) → Exit × St
 | (.inl u) => (.ret, nextF_S0e0.fillK nextF_kf nextF_H0e0 u)
 | (.inr u) => (.exit 0, nextF_S0e1.fillK nextF_kf nextF_H0e1 u)
def nextF_t0 : ((Int × ((List Int) × Unit)) ⊕ ((List Int) × Unit)) → Br (Exit × St) := fun z => .sum z (fun u => .ret (.ret, nextF_S0e0.fillK nextF_kf nextF_H0e0 u)) (fun u => .ret (.exit 0, nextF_S0e1.fillK nextF_kf nextF_H0e1 u))
noncomputable def nextF_C0 : Code := loopAt 0 (bodyOf nextF_f)
noncomputable def nextF_o0 : St → Br (Exit × St) := loopF nextF_kp nextF_kf 1024 (nextF_h0 .normal) (nextF_S0.parseK nextF_kf nextF_H0) fun x => .opt (nextF_w0 x) nextF_t0
noncomputable def nextF_p : Par := { sh := fun _ => none, k := 0, lo := fun i => bif Nat.beq i 3 then some nextF_o0 else none }
theorem nextF_r0 (a : Int) (b : (zA10 × ((List zA2) × zA23))) (c : (List Int)) : roundF nextF_kp nextF_kf nextF_c nextF_p nextF_h0 nextF_C0 (nextF_S0.fillK nextF_kf nextF_H0 (a, b, c, ())) = (nextF_l0 (a, b, c, ())).bind (loopLeaf (fun x => nextF_S0.fillK nextF_kf nextF_H0 x) nextF_e0) := by kernel_rfl
theorem nextF_ok0 (g : Cfg) (hg : ∀ n, Go.PI.look n g.m0 ≠ Option.none → n ∈ nextF_kp) : LoopOk nextF_P g nextF_o0 nextF_C0 := LoopOk.auto nextF_env hg nextF_p (LoOk.of (l := []) (by kernel_rfl) .nil) nextF_h0 (fun x => nextF_S0.fillK nextF_kf nextF_H0 x) (fun s x h => Skel.parseK_ok s x h) nextF_l0 nextF_e0 (fun z h => by rcases z with z | z <;> cases h) nextF_t0 (fun z => by rcases z with z | z <;> rfl) (fun (a, b, c, ()) => nextF_r0 a b c)
theorem nextF_eq (p0 : (zA10 × ((List zA2) × zA23))) (p1 : Int) : ocRun nextF_c nextF_p nextF_f nextF_ins nextF_outs (p0, p1, ()) = nextF_B (p0, p1, ()) := by kernel_rfl
theorem nextF_oc : OC nextF_P 63 nextF_ins nextF_outs nextF := OC.of_tree nextF_env Tryz.func63 (by kernel_rfl) (by kernel_rfl) (p := nextF_p) (fun g hg => LoOk.of (l := [nextF_C0]) (by kernel_rfl) (.cons (nextF_ok0 g hg) (by kernel_rfl) .nil)) (fun (p0, p1, ()) => nextF_eq p0 p1)
noncomputable def cx_nextF : Ctx := addO cx_fits20 63 (ocOrc nextF_ins nextF_outs nextF)
theorem en_nextF : EnvFull Tryz.prog cx_nextF := env_add (en_fits20) nextF_oc.callOk
noncomputable def lessP_l0 : ((List (Int × Int)) × zT2) → Br (((List (Int × Int)) × zT2) ⊕ ((Bool × Unit) ⊕ ((List (Int × Int)) × zA31))) := fun (a, b, c, ()) =>
 (.cond (decide (c < (↑(List.length a) : Int)))
 (.cond (decide (c < (↑(List.length b) : Int)))
 (.cond (decide (0 ≤ c) && decide (c < (↑(List.length a) : Int)))
 (.cond (decide (0 ≤ c) && decide (c < (↑(List.length b) : Int)))
 (.cond ((List.getD a (Int.toNat c) (0, 0)).1 != (List.getD b (Int.toNat c) (0, 0)).1)
 (.cond (decide (0 ≤ c) && decide (c < (↑(List.length a) : Int)))
 (.cond (decide (0 ≤ c) && decide (c < (↑(List.length b) : Int)))
 (.ret (.inr (.inl (decide ((List.getD a (Int.toNat c) (0, 0)).1 < (List.getD b (Int.toNat c) (0, 0)).1), ()))))
 (.no))
 (.no))
 (.cond (decide (0 ≤ c) && decide (c < (↑(List.length a) : Int)))
 (.cond (decide (0 ≤ c) && decide (c < (↑(List.length b) : Int)))
 (.cond ((List.getD a (Int.toNat c) (0, 0)).2 != (List.getD b (Int.toNat c) (0, 0)).2)
 (.cond (decide (0 ≤ c) && decide (c < (↑(List.length a) : Int)))
 (.cond (decide (0 ≤ c) && decide (c < (↑(List.length b) : Int)))
 (.ret (.inr (.inl (decide ((List.getD a (Int.toNat c) (0, 0)).2 < (List.getD b (Int.toNat c) (0, 0)).2), ()))))
 (.no))
 (.no))
 (.ret (.inl (a, b, IntKind.wrap .i64 (c + 1), ()))))
 (.no))
 (.no)))
 (.no))
 (.no))
 (.ret (.inr (.inr (a, b, ())))))
 (.ret (.inr (.inr (a, b, ())))))
noncomputable def lessP_w0 : ((List (Int × Int)) × zT2) → Option ((Bool × Unit) ⊕ ((List (Int × Int)) × zA31)) := iterO fun x => (lessP_l0 x).run
noncomputable def lessP_B : ((List (Int × Int)) × zA31) → Br (Bool × Unit) := fun (p0, p1, ()) =>
 (.opt (lessP_w0 (p0, p1, 0, ())) fun a =>
 (.sum a (fun b =>
 (.ret (b.1, ()))) (fun c =>
 (.ret (decide ((↑(List.length c.1) : Int) < (↑(List.length c.2.1) : Int)), ())))))
noncomputable def lessP : ((List (Int × Int)) × zA31) → Option (Bool × Unit) := fun x => (lessP_B x).run
abbrev lessP_ins : List (Bool × Pat) := [(false, .ty true (.sl zA16)), (false, .ty true (.sl zA16))]
abbrev lessP_outs : List Pat := [.ty false .bool]
noncomputable abbrev lessP_f : Func := Tryz.f65
noncomputable abbrev lessP_P : Program := Tryz.prog
abbrev lessP_kp : List Nat := kpOf lessP_ins
abbrev lessP_kf : List Nat := kfOf lessP_ins
noncomputable def lessP_c : Ctx := { cx_nextF with base := 1024 }
theorem lessP_env : EnvFull lessP_P lessP_c := env_base (en_nextF) 1024
abbrev lessP_H0 : List Hole := [.slot 0 true (.sl zA16), .slot 1 true (.sl zA16), .slot 5 false (.int .i64)]
def lessP_S0 : Skel := ⟨67, [], []⟩
abbrev lessP_H0e0 : List Hole := [.slot 4 false .bool]
def lessP_S0e0 : Skel := ⟨67, [], []⟩
abbrev lessP_H0e1 : List Hole := [.slot 0 true (.sl zA16), .slot 1 true (.sl zA16)]
def lessP_S0e1 : Skel := ⟨67, [], []⟩
def lessP_h0 : Exit → Shape
 | .normal => ⟨[(0, .as true (.sl zA16)), (1, .as true (.sl zA16)), (5, .as false (.int .i64))], [], []⟩
 | .ret => ⟨[(4, .as false .bool)], [], []⟩
 | .exit 0 => ⟨[(0, .as true (.sl zA16)), (1, .as true (.sl zA16))], [], []⟩
 | _ => ⟨[], [], []⟩
def lessP_e0 : ((Bool × Unit) ⊕ ((List (Int × Int)) × zA31)) → Exit × St
 | (.inl u) => (.ret, lessP_S0e0.fillK lessP_kf lessP_H0e0 u)
 | (.inr u) => (.exit 0, lessP_S0e1.fillK lessP_kf lessP_H0e1 u)
def lessP_t0 : ((Bool × Unit) ⊕ ((List (Int × Int)) × zA31)) → Br (Exit × St) := fun z => .sum z (fun u => .ret (.ret, lessP_S0e0.fillK lessP_kf lessP_H0e0 u)) (fun u => .ret (.exit 0, lessP_S0e1.fillK lessP_kf lessP_H0e1 u))
noncomputable def lessP_C0 : Code := loopAt 0 (bodyOf lessP_f)
noncomputable def lessP_o0 : St → Br (Exit × St) := loopF lessP_kp lessP_kf 1024 (lessP_h0 .normal) (lessP_S0.parseK lessP_kf lessP_H0) fun x => .opt (lessP_w0 x) lessP_t0
noncomputable def lessP_p : Par := { sh := fun _ => none, k := 0, lo := fun i => bif Nat.beq i 2 then some lessP_o0 else none }
theorem lessP_r0 (a : (List (Int × Int))) (b : (List (Int × Int))) (c : Int) : roundF lessP_kp lessP_kf lessP_c lessP_p lessP_h0 lessP_C0 (lessP_S0.fillK lessP_kf lessP_H0 (a, b, c, ())) = (lessP_l0 (a, b, c, ())).bind (loopLeaf (fun x => lessP_S0.fillK lessP_kf lessP_H0 x) lessP_e0) := by kernel_rfl
theorem lessP_ok0 (g : Cfg) (hg : ∀ n, Go.PI.look n g.m0 ≠ Option.none → n ∈ lessP_kp) : LoopOk lessP_P g lessP_o0 lessP_C0 := LoopOk.auto lessP_env hg lessP_p (LoOk.of (l := []) (by kernel_rfl) .nil) lessP_h0 (fun x => lessP_S0.fillK lessP_kf lessP_H0 x) (fun s x h => Skel.parseK_ok s x h) lessP_l0 lessP_e0 (fun z h => by rcases z with z | z <;> cases h) lessP_t0 (fun z => by rcases z with z | z <;> rfl) (fun (a, b, c, ()) => lessP_r0 a b c)
theorem lessP_eq (p0 : (List (Int × Int))) (p1 : (List (Int × Int))) : ocRun lessP_c lessP_p lessP_f lessP_ins lessP_outs (p0, p1, ()) = lessP_B (p0, p1, ()) := by kernel_rfl
theorem lessP_oc : OC lessP_P 65 lessP_ins lessP_outs lessP := OC.of_tree lessP_env Tryz.func65 (by kernel_rfl) (by kernel_rfl) (p := lessP_p) (fun g hg => LoOk.of (l := [lessP_C0]) (by kernel_rfl) (.cons (lessP_ok0 g hg) (by kernel_rfl) .nil)) (fun (p0, p1, ()) => lessP_eq p0 p1)
noncomputable def cx_lessP : Ctx := addO cx_nextF 65 (ocOrc lessP_ins lessP_outs lessP)
theorem en_lessP : EnvFull Tryz.prog cx_lessP := env_add (en_nextF) lessP_oc.callOk
noncomputable def sortP_l1 : (zA23 × zT7) → Br ((zA23 × zT7) ⊕ (zA23 × zT7)) := fun (a, b, c, d, ()) =>
 (.cond (decide (c > 0))
 (.cond (decide (0 ≤ b) && decide (b < (↑(List.length a) : Int)))
 (.cond (decide (0 ≤ IntKind.wrap .i64 (c - 1)) && decide (IntKind.wrap .i64 (c - 1) < (↑(List.length d) : Int)))
 (.opt (lessP (List.getD a (Int.toNat b) [], List.getD d (Int.toNat (IntKind.wrap .i64 (c - 1))) [], ())) fun e =>
 (.cond e.1
 (.ret (.inl (a, b, IntKind.wrap .i64 (c - 1), d, ())))
 (.ret (.inr (a, b, c, d, ())))))
 (.no))
 (.no))
 (.ret (.inr (a, b, c, d, ()))))
noncomputable def sortP_w1 : (zA23 × zT7) → Option (zA23 × zT7) := iterO fun x => (sortP_l1 x).run
noncomputable def sortP_l2 : (zA23 × (Int × zT7)) → Br ((zA23 × (Int × zT7)) ⊕ (zA23 × zT7)) := fun (a, b, c, d, e, ()) =>
 (.cond (decide (d > c))
 (.cond (decide (0 ≤ IntKind.wrap .i64 (d - 1)) && decide (IntKind.wrap .i64 (d - 1) < (↑(List.length e) : Int)))
 (.cond (decide (0 ≤ d) && decide (d < (↑(List.length e) : Int)))
 (.ret (.inl (a, b, c, IntKind.wrap .i64 (d - 1), List.set e (Int.toNat d) (List.getD e (Int.toNat (IntKind.wrap .i64 (d - 1))) []), ())))
 (.no))
 (.no))
 (.ret (.inr (a, b, c, e, ()))))
noncomputable def sortP_w2 : (zA23 × (Int × zT7)) → Option (zA23 × zT7) := iterO fun x => (sortP_l2 x).run
noncomputable def sortP_l0 : (zA23 × (Int × (zA23 × Unit))) → Br ((zA23 × (Int × (zA23 × Unit))) ⊕ (zA23 × Unit)) := fun (a, b, c, ()) =>
 (.cond (decide (b < (↑(List.length a) : Int)))
 (.opt (sortP_w1 (a, b, (↑(List.length c) : Int), c, ())) fun d =>
 (.cond (decide ((List.length d.2.2.2.1 + @List.length (List (Int × Int)) (List.set (List.replicate 1 []) 0 [])) * 24 ≤ 140737488355328))
 (.opt (sortP_w2 (d.1, d.2.1, d.2.2.1, IntKind.wrap .i64 ((↑(List.length (d.2.2.2.1 ++ List.set (List.replicate 1 []) 0 [])) : Int) - 1), d.2.2.2.1 ++ List.set (List.replicate 1 []) 0 [], ())) fun e =>
 (.cond (decide (0 ≤ e.2.1) && decide (e.2.1 < (↑(List.length e.1) : Int)))
 (.cond (decide (0 ≤ e.2.2.1) && decide (e.2.2.1 < (↑(List.length e.2.2.2.1) : Int)))
 (.ret (.inl (e.1, IntKind.wrap .i64 (e.2.1 + 1), List.set e.2.2.2.1 (Int.toNat e.2.2.1) (List.getD e.1 (Int.toNat e.2.1) []), ())))
 (.no))
 (.no)))
 (.no)))
 (.ret (.inr (c, ()))))
noncomputable def sortP_w0 : (zA23 × (Int × (zA23 × Unit))) → Option (zA23 × Unit) := iterO fun x => (sortP_l0 x).run
noncomputable def sortP_B : (zA23 × Unit) → Br (zA23 × Unit) := fun (p0, ()) =>
 (.opt (sortP_w0 (p0, 0, [], ())) fun a =>
 (.ret (a.1, ())))
noncomputable def sortP : (zA23 × Unit) → Option (zA23 × Unit) := fun x => (sortP_B x).run
abbrev sortP_ins : List (Bool × Pat) := [(false, .ty false (.sl (.sl zA16)))]
abbrev sortP_outs : List Pat := [.ty false (.sl (.sl zA16))]
noncomputable abbrev sortP_f : Func := Tryz.f34
noncomputable abbrev sortP_P : Program := Tryz.prog
abbrev sortP_kp : List Nat := kpOf sortP_ins
abbrev sortP_kf : List Nat := kfOf sortP_ins
noncomputable def sortP_c : Ctx := { cx_lessP with base := 1024 }
theorem sortP_env : EnvFull sortP_P sortP_c := env_base (en_lessP) 1024
abbrev sortP_H1 : List Hole := [.slot 0 false (.sl (.sl zA16)), .slot 4 false (.int .i64), .slot 5 false (.int .i64), .ar 1725 false 41 (.sl zA16)]
def sortP_S1 : Skel := ⟨59, [(3, .c (.mfull 1725))], [(1725, [])]⟩
abbrev sortP_H1e0 : List Hole := [.slot 0 false (.sl (.sl zA16)), .slot 4 false (.int .i64), .slot 5 false (.int .i64), .ar 1726 false 41 (.sl zA16)]
def sortP_S1e0 : Skel := ⟨59, [(3, .c (.mfull 1726))], [(1726, [])]⟩
def sortP_h1 : Exit → Shape
 | .normal => ⟨[(0, .as false (.sl (.sl zA16))), (3, .row 701 false 41 (.sl zA16)), (4, .as false (.int .i64)), (5, .as false (.int .i64))], [], [(701, false)]⟩
 | .exit 2 => ⟨[(0, .as false (.sl (.sl zA16))), (3, .row 702 false 41 (.sl zA16)), (4, .as false (.int .i64)), (5, .as false (.int .i64))], [], [(702, false)]⟩
 | _ => ⟨[], [], []⟩
def sortP_e1 : (zA23 × zT7) → Exit × St
 | u => (.exit 2, sortP_S1e0.fillK sortP_kf sortP_H1e0 u)
def sortP_t1 : (zA23 × zT7) → Br (Exit × St) := fun u => .ret (.exit 2, sortP_S1e0.fillK sortP_kf sortP_H1e0 u)
noncomputable def sortP_C1 : Code := loopAt 1 (bodyOf sortP_f)
noncomputable def sortP_o1 : St → Br (Exit × St) := loopF sortP_kp sortP_kf 1024 (sortP_h1 .normal) (sortP_S1.parseK sortP_kf sortP_H1) fun x => .opt (sortP_w1 x) sortP_t1
abbrev sortP_H2 : List Hole := [.slot 0 false (.sl (.sl zA16)), .slot 4 false (.int .i64), .slot 5 false (.int .i64), .slot 6 false (.int .i64), .ar 1058 false 41 (.sl zA16)]
def sortP_S2 : Skel := ⟨59, [(3, D.c (C.mfull 1058))], [(1058, [])]⟩
abbrev sortP_H2e0 : List Hole := [.slot 0 false (.sl (.sl zA16)), .slot 4 false (.int .i64), .slot 5 false (.int .i64), .ar 1058 false 41 (.sl zA16)]
def sortP_S2e0 : Skel := ⟨59, [(3, D.c (C.mfull 1058))], [(1058, [])]⟩
def sortP_h2 : Exit → Shape
 | .normal => ⟨[(0, .as false (.sl (.sl zA16))), (3, .keep), (4, .as false (.int .i64)), (5, .as false (.int .i64)), (6, .as false (.int .i64))], [], [(34, false)]⟩
 | .exit 4 => ⟨[(0, .as false (.sl (.sl zA16))), (3, .keep), (4, .as false (.int .i64)), (5, .as false (.int .i64))], [], [(34, false)]⟩
 | _ => ⟨[], [], []⟩
def sortP_e2 : (zA23 × zT7) → Exit × St
 | u => (.exit 4, sortP_S2e0.fillK sortP_kf sortP_H2e0 u)
def sortP_t2 : (zA23 × zT7) → Br (Exit × St) := fun u => .ret (.exit 4, sortP_S2e0.fillK sortP_kf sortP_H2e0 u)
noncomputable def sortP_C2 : Code := loopAt 2 (bodyOf sortP_f)
noncomputable def sortP_o2 : St → Br (Exit × St) := loopF sortP_kp sortP_kf 1024 (sortP_h2 .normal) (sortP_S2.parseK sortP_kf sortP_H2) fun x => .opt (sortP_w2 x) sortP_t2
abbrev sortP_H0 : List Hole := [.slot 0 false (.sl (.sl zA16)), .slot 4 false (.int .i64), .ar 1724 false 41 (.sl zA16)]
def sortP_S0 : Skel := ⟨59, [(3, .c (.mfull 1724))], [(1724, [])]⟩
abbrev sortP_H0e0 : List Hole := [.ar 1727 false 41 (.sl zA16)]
def sortP_S0e0 : Skel := ⟨59, [(3, .c (.mfull 1727))], [(1727, [])]⟩
def sortP_h0 : Exit → Shape
 | .normal => ⟨[(0, .as false (.sl (.sl zA16))), (3, .row 700 false 41 (.sl zA16)), (4, .as false (.int .i64))], [], [(700, false)]⟩
 | .exit 0 => ⟨[(3, .row 703 false 41 (.sl zA16))], [], [(703, false)]⟩
 | _ => ⟨[], [], []⟩
def sortP_e0 : (zA23 × Unit) → Exit × St
 | u => (.exit 0, sortP_S0e0.fillK sortP_kf sortP_H0e0 u)
def sortP_t0 : (zA23 × Unit) → Br (Exit × St) := fun u => .ret (.exit 0, sortP_S0e0.fillK sortP_kf sortP_H0e0 u)
noncomputable def sortP_C0 : Code := loopAt 0 (bodyOf sortP_f)
noncomputable def sortP_o0 : St → Br (Exit × St) := loopF sortP_kp sortP_kf 1024 (sortP_h0 .normal) (sortP_S0.parseK sortP_kf sortP_H0) fun x => .opt (sortP_w0 x) sortP_t0
noncomputable def sortP_p : Par := { sh := fun _ => none, k := 0, lo := fun i => bif Nat.beq i 3 then some sortP_o0 else bif Nat.beq i 6 then some sortP_o1 else bif Nat.beq i 10 then some sortP_o2 else none }
theorem sortP_r1 (a : zA23) (b : Int) (c : Int) (d : zA23) : roundF sortP_kp sortP_kf sortP_c sortP_p sortP_h1 sortP_C1 (sortP_S1.fillK sortP_kf sortP_H1 (a, b, c, d, ())) = (sortP_l1 (a, b, c, d, ())).bind (loopLeaf (fun x => sortP_S1.fillK sortP_kf sortP_H1 x) sortP_e1) := by kernel_rfl
theorem sortP_ok1 (g : Cfg) (hg : ∀ n, Go.PI.look n g.m0 ≠ Option.none → n ∈ sortP_kp) : LoopOk sortP_P g sortP_o1 sortP_C1 := LoopOk.auto sortP_env hg sortP_p (LoOk.of (l := []) (by kernel_rfl) .nil) sortP_h1 (fun x => sortP_S1.fillK sortP_kf sortP_H1 x) (fun s x h => Skel.parseK_ok s x h) sortP_l1 sortP_e1 (fun _ h => by cases h) sortP_t1 (fun _ => rfl) (fun (a, b, c, d, ()) => sortP_r1 a b c d)
theorem sortP_r2 (a : zA23) (b : Int) (c : Int) (d : Int) (e : zA23) : roundF sortP_kp sortP_kf sortP_c sortP_p sortP_h2 sortP_C2 (sortP_S2.fillK sortP_kf sortP_H2 (a, b, c, d, e, ())) = (sortP_l2 (a, b, c, d, e, ())).bind (loopLeaf (fun x => sortP_S2.fillK sortP_kf sortP_H2 x) sortP_e2) := by kernel_rfl
theorem sortP_ok2 (g : Cfg) (hg : ∀ n, Go.PI.look n g.m0 ≠ Option.none → n ∈ sortP_kp) : LoopOk sortP_P g sortP_o2 sortP_C2 := LoopOk.auto sortP_env hg sortP_p (LoOk.of (l := []) (by kernel_rfl) .nil) sortP_h2 (fun x => sortP_S2.fillK sortP_kf sortP_H2 x) (fun s x h => Skel.parseK_ok s x h) sortP_l2 sortP_e2 (fun _ h => by cases h) sortP_t2 (fun _ => rfl) (fun (a, b, c, d, e, ()) => sortP_r2 a b c d e)
theorem sortP_r0 (a : zA23) (b : Int) (c : zA23) : roundF sortP_kp sortP_kf sortP_c sortP_p sortP_h0 sortP_C0 (sortP_S0.fillK sortP_kf sortP_H0 (a, b, c, ())) = (sortP_l0 (a, b, c, ())).bind (loopLeaf (fun x => sortP_S0.fillK sortP_kf sortP_H0 x) sortP_e0) := by kernel_rfl
theorem sortP_ok0 (g : Cfg) (hg : ∀ n, Go.PI.look n g.m0 ≠ Option.none → n ∈ sortP_kp) : LoopOk sortP_P g sortP_o0 sortP_C0 := LoopOk.auto sortP_env hg sortP_p (LoOk.of (l := [sortP_C1, sortP_C2]) (by kernel_rfl) (.cons (sortP_ok1 g hg) (by kernel_rfl) (.cons (sortP_ok2 g hg) (by kernel_rfl) .nil))) sortP_h0 (fun x => sortP_S0.fillK sortP_kf sortP_H0 x) (fun s x h => Skel.parseK_ok s x h) sortP_l0 sortP_e0 (fun _ h => by cases h) sortP_t0 (fun _ => rfl) (fun (a, b, c, ()) => sortP_r0 a b c)
theorem sortP_eq (p0 : zA23) : ocRun sortP_c sortP_p sortP_f sortP_ins sortP_outs (p0, ()) = sortP_B (p0, ()) := by kernel_rfl
theorem sortP_oc : OC sortP_P 34 sortP_ins sortP_outs sortP := OC.of_tree sortP_env Tryz.func34 (by kernel_rfl) (by kernel_rfl) (p := sortP_p) (fun g hg => LoOk.of (l := [sortP_C0, sortP_C1, sortP_C2]) (by kernel_rfl) (.cons (sortP_ok0 g hg) (by kernel_rfl) (.cons (sortP_ok1 g hg) (by kernel_rfl) (.cons (sortP_ok2 g hg) (by kernel_rfl) .nil)))) (fun (p0, ()) => sortP_eq p0)
noncomputable def cx_sortP : Ctx := addO cx_lessP 34 (ocOrc sortP_ins sortP_outs sortP)
theorem en_sortP : EnvFull Tryz.prog cx_sortP := env_add (en_lessP) sortP_oc.callOk
noncomputable def cx_again1 : Ctx := cx_sortP
theorem en_again1 : EnvFull Tryz.prog cx_again1 := (en_sortP)
noncomputable def cx_idxEvA : Ctx := cx_again1
theorem en_idxEvA : EnvFull Tryz.prog cx_idxEvA := (en_again1)
noncomputable def cx_againR : Ctx := cx_idxEvA
theorem en_againR : EnvFull Tryz.prog cx_againR := (en_idxEvA)
end Go.Proofs.YtiblijkhpmemeaaGreat
