/- Contracts of functions. Printed by auto.py. -/
import Derived.Test.YtiblijkhpmemeaaGreatHh
import Derived.Test.YtiblijkhpmemeaaGreatHa
import Derived.Test.YtiblijkhpmemeaaGreatHk
import Derived.Test.YtiblijkhpmemeaaGreatHl
namespace Go.Proofs.YtiblijkhpmemeaaGreat
set_option maxRecDepth 100000
open Go.PI Go
noncomputable def nextT_l0 : zT6 → Br (zT6 ⊕ ((Int × Unit) ⊕ Unit)) := fun (a, b, c, ()) =>
 (.cond (decide (b < (↑(List.length c.1) : Int)))
 (.cond (decide (a < (↑(List.length c.1) : Int)))
 (.cond (decide (0 ≤ b) && decide (b < (↑(List.length c.1) : Int)))
 (.cond (!(List.getD c.1 (Int.toNat b) zV2).2.2.1)
 (.ret (.inr (.inl (b, ()))))
 (.ret (.inl (a, IntKind.wrap .i64 (b + 1), c, ()))))
 (.no))
 (.ret (.inr (.inr (())))))
 (.ret (.inr (.inr (())))))
noncomputable def nextT_w0 : zT6 → Option ((Int × Unit) ⊕ Unit) := iterO fun x => (nextT_l0 x).run
noncomputable def nextT_B : (zA10 × (Int × Unit)) → Br (Int × Unit) := fun (p0, p1, ()) =>
 (.opt (nextT_w0 (p1, if IntKind.wrap .i64 (p1 + 1) < 0 then 0 else IntKind.wrap .i64 (p1 + 1), p0, ())) fun a =>
 (.sum a (fun b =>
 (.ret (b.1, ()))) (fun c =>
 (.ret (-1, ())))))
noncomputable def nextT : (zA10 × (Int × Unit)) → Option (Int × Unit) := fun x => (nextT_B x).run
abbrev nextT_ins : List (Bool × Pat) := [(false, .ty true zA5), (false, .ty false (.int .i64))]
abbrev nextT_outs : List Pat := [.ty false (.int .i64)]
noncomputable abbrev nextT_f : Func := Tryz.f54
noncomputable abbrev nextT_P : Program := Tryz.prog
abbrev nextT_kp : List Nat := kpOf nextT_ins
abbrev nextT_kf : List Nat := kfOf nextT_ins
noncomputable def nextT_c : Ctx := { cxF4 with base := 1024 }
theorem nextT_env : EnvFull nextT_P nextT_c := env_base (enF4) 1024
abbrev nextT_H0 : List Hole := [.slot 1 false (.int .i64), .slot 5 false (.int .i64), .tv 1026 true zA5]
def nextT_S0 : Skel := ⟨31, [(2, D.c (C.ref 1026 0 0))], [(1026, [])]⟩
abbrev nextT_H0e0 : List Hole := [.slot 4 false (.int .i64)]
def nextT_S0e0 : Skel := ⟨31, [], []⟩
abbrev nextT_H0e1 : List Hole := []
def nextT_S0e1 : Skel := ⟨31, [], []⟩
def nextT_h0 : Exit → Shape
 | .normal => ⟨[(1, .as false (.int .i64)), (2, .keep), (5, .as false (.int .i64))], [], [(2, true)]⟩
 | .ret => ⟨[(4, .as false (.int .i64))], [], []⟩
 | .exit 0 => ⟨[], [], []⟩
 | _ => ⟨[], [], []⟩
def nextT_e0 : ((Int × Unit) ⊕ Unit) → Exit × St
 | (.inl u) => (.ret, nextT_S0e0.fillK nextT_kf nextT_H0e0 u)
 | (.inr u) => (.exit 0, nextT_S0e1.fillK nextT_kf nextT_H0e1 u)
def nextT_t0 : ((Int × Unit) ⊕ Unit) → Br (Exit × St) := fun z => .sum z (fun u => .ret (.ret, nextT_S0e0.fillK nextT_kf nextT_H0e0 u)) (fun u => .ret (.exit 0, nextT_S0e1.fillK nextT_kf nextT_H0e1 u))
noncomputable def nextT_C0 : Code := loopAt 0 (bodyOf nextT_f)
noncomputable def nextT_o0 : St → Br (Exit × St) := loopF nextT_kp nextT_kf 1024 (nextT_h0 .normal) (nextT_S0.parseK nextT_kf nextT_H0) fun x => .opt (nextT_w0 x) nextT_t0
noncomputable def nextT_p : Par := { sh := fun _ => none, k := 0, lo := fun i => bif Nat.beq i 2 then some nextT_o0 else none }
theorem nextT_r0 (a : Int) (b : Int) (c : zA10) : roundF nextT_kp nextT_kf nextT_c nextT_p nextT_h0 nextT_C0 (nextT_S0.fillK nextT_kf nextT_H0 (a, b, c, ())) = (nextT_l0 (a, b, c, ())).bind (loopLeaf (fun x => nextT_S0.fillK nextT_kf nextT_H0 x) nextT_e0) := by kernel_rfl
theorem nextT_ok0 (g : Cfg) (hg : ∀ n, Go.PI.look n g.m0 ≠ Option.none → n ∈ nextT_kp) : LoopOk nextT_P g nextT_o0 nextT_C0 := LoopOk.auto nextT_env hg nextT_p (LoOk.of (l := []) (by kernel_rfl) .nil) nextT_h0 (fun x => nextT_S0.fillK nextT_kf nextT_H0 x) (fun s x h => Skel.parseK_ok s x h) nextT_l0 nextT_e0 (fun z h => by rcases z with z | z <;> cases h) nextT_t0 (fun z => by rcases z with z | z <;> rfl) (fun (a, b, c, ()) => nextT_r0 a b c)
theorem nextT_eq (p0 : zA10) (p1 : Int) : ocRun nextT_c nextT_p nextT_f nextT_ins nextT_outs (p0, p1, ()) = nextT_B (p0, p1, ()) := by kernel_rfl
theorem nextT_oc : OC nextT_P 54 nextT_ins nextT_outs nextT := OC.of_tree nextT_env Tryz.func54 (by kernel_rfl) (by kernel_rfl) (p := nextT_p) (fun g hg => LoOk.of (l := [nextT_C0]) (by kernel_rfl) (.cons (nextT_ok0 g hg) (by kernel_rfl) .nil)) (fun (p0, p1, ()) => nextT_eq p0 p1)
noncomputable def cx_nextT : Ctx := addO cxF4 54 (ocOrc nextT_ins nextT_outs nextT)
theorem en_nextT : EnvFull Tryz.prog cx_nextT := env_add (enF4) nextT_oc.callOk
noncomputable def betwT_l0 : (Int × (Int × (zA10 × ((List Int) × Unit)))) → Br ((Int × (Int × (zA10 × ((List Int) × Unit)))) ⊕ ((List Int) × Unit)) := fun (a, b, c, d, ()) =>
 (.cond (decide (b < (↑(List.length c.1) : Int)))
 (.cond (decide (a < (↑(List.length c.1) : Int)))
 (.cond (decide (0 ≤ b) && decide (b < (↑(List.length c.1) : Int)))
 (.cond (List.getD c.1 (Int.toNat b) zV2).2.2.1
 (.cond (decide ((List.length d + List.length (List.set (List.replicate 1 0) 0 b)) * 8 ≤ 140737488355328))
 (.ret (.inl (a, IntKind.wrap .i64 (b + 1), c, d ++ List.set (List.replicate 1 0) 0 b, ())))
 (.no))
 (.ret (.inr (d, ()))))
 (.no))
 (.ret (.inr (d, ()))))
 (.ret (.inr (d, ()))))
noncomputable def betwT_w0 : (Int × (Int × (zA10 × ((List Int) × Unit)))) → Option ((List Int) × Unit) := iterO fun x => (betwT_l0 x).run
noncomputable def betwT_B : (zA10 × (Int × Unit)) → Br ((List Int) × Unit) := fun (p0, p1, ()) =>
 (.opt (betwT_w0 (p1, if IntKind.wrap .i64 (p1 + 1) < 0 then 0 else IntKind.wrap .i64 (p1 + 1), p0, [], ())) fun a =>
 (.ret (a.1, ())))
noncomputable def betwT : (zA10 × (Int × Unit)) → Option ((List Int) × Unit) := fun x => (betwT_B x).run
abbrev betwT_ins : List (Bool × Pat) := [(false, .ty true zA5), (false, .ty false (.int .i64))]
abbrev betwT_outs : List Pat := [.ty false (.sl (.int .i64))]
noncomputable abbrev betwT_f : Func := Tryz.f71
noncomputable abbrev betwT_P : Program := Tryz.prog
abbrev betwT_kp : List Nat := kpOf betwT_ins
abbrev betwT_kf : List Nat := kfOf betwT_ins
noncomputable def betwT_c : Ctx := { cx_nextT with base := 1024 }
theorem betwT_env : EnvFull betwT_P betwT_c := env_base (en_nextT) 1024
abbrev betwT_H0 : List Hole := [.slot 1 false (.int .i64), .slot 6 false (.int .i64), .tv 1026 true zA5, .ar 1724 false 3 (.int .i64)]
def betwT_S0 : Skel := ⟨37, [(2, D.c (C.ref 1026 0 0)), (5, .c (.mfull 1724))], [(1026, []), (1724, [])]⟩
abbrev betwT_H0e0 : List Hole := [.ar 1725 false 3 (.int .i64)]
def betwT_S0e0 : Skel := ⟨37, [(5, .c (.mfull 1725))], [(1725, [])]⟩
def betwT_h0 : Exit → Shape
 | .normal => ⟨[(1, .as false (.int .i64)), (2, .keep), (5, .row 700 false 3 (.int .i64)), (6, .as false (.int .i64))], [], [(2, true), (700, false)]⟩
 | .exit 0 => ⟨[(5, .row 701 false 3 (.int .i64))], [], [(701, false)]⟩
 | _ => ⟨[], [], []⟩
def betwT_e0 : ((List Int) × Unit) → Exit × St
 | u => (.exit 0, betwT_S0e0.fillK betwT_kf betwT_H0e0 u)
def betwT_t0 : ((List Int) × Unit) → Br (Exit × St) := fun u => .ret (.exit 0, betwT_S0e0.fillK betwT_kf betwT_H0e0 u)
noncomputable def betwT_C0 : Code := loopAt 0 (bodyOf betwT_f)
noncomputable def betwT_o0 : St → Br (Exit × St) := loopF betwT_kp betwT_kf 1024 (betwT_h0 .normal) (betwT_S0.parseK betwT_kf betwT_H0) fun x => .opt (betwT_w0 x) betwT_t0
noncomputable def betwT_p : Par := { sh := fun _ => none, k := 0, lo := fun i => bif Nat.beq i 3 then some betwT_o0 else none }
theorem betwT_r0 (a : Int) (b : Int) (c : zA10) (d : (List Int)) : roundF betwT_kp betwT_kf betwT_c betwT_p betwT_h0 betwT_C0 (betwT_S0.fillK betwT_kf betwT_H0 (a, b, c, d, ())) = (betwT_l0 (a, b, c, d, ())).bind (loopLeaf (fun x => betwT_S0.fillK betwT_kf betwT_H0 x) betwT_e0) := by kernel_rfl
theorem betwT_ok0 (g : Cfg) (hg : ∀ n, Go.PI.look n g.m0 ≠ Option.none → n ∈ betwT_kp) : LoopOk betwT_P g betwT_o0 betwT_C0 := LoopOk.auto betwT_env hg betwT_p (LoOk.of (l := []) (by kernel_rfl) .nil) betwT_h0 (fun x => betwT_S0.fillK betwT_kf betwT_H0 x) (fun s x h => Skel.parseK_ok s x h) betwT_l0 betwT_e0 (fun _ h => by cases h) betwT_t0 (fun _ => rfl) (fun (a, b, c, d, ()) => betwT_r0 a b c d)
theorem betwT_eq (p0 : zA10) (p1 : Int) : ocRun betwT_c betwT_p betwT_f betwT_ins betwT_outs (p0, p1, ()) = betwT_B (p0, p1, ()) := by kernel_rfl
theorem betwT_oc : OC betwT_P 71 betwT_ins betwT_outs betwT := OC.of_tree betwT_env Tryz.func71 (by kernel_rfl) (by kernel_rfl) (p := betwT_p) (fun g hg => LoOk.of (l := [betwT_C0]) (by kernel_rfl) (.cons (betwT_ok0 g hg) (by kernel_rfl) .nil)) (fun (p0, p1, ()) => betwT_eq p0 p1)
noncomputable def cx_betwT : Ctx := addO cx_nextT 71 (ocOrc betwT_ins betwT_outs betwT)
theorem en_betwT : EnvFull Tryz.prog cx_betwT := env_add (en_nextT) betwT_oc.callOk
noncomputable def samePs_l0 : ((List (Int × Int)) × zT2) → Br (((List (Int × Int)) × zT2) ⊕ (Unit ⊕ Unit)) := fun (a, b, c, ()) =>
 (.cond (decide (c < (↑(List.length a) : Int)))
 (.cond (decide (0 ≤ c) && decide (c < (↑(List.length a) : Int)))
 (.cond (decide (0 ≤ c) && decide (c < (↑(List.length b) : Int)))
 (.cond (!(decide ((List.getD a (Int.toNat c) (0, 0)).1 = (List.getD b (Int.toNat c) (0, 0)).1) && decide ((List.getD a (Int.toNat c) (0, 0)).2 = (List.getD b (Int.toNat c) (0, 0)).2)))
 (.ret (.inr (.inl (()))))
 (.ret (.inl (a, b, IntKind.wrap .i64 (c + 1), ()))))
 (.no))
 (.no))
 (.ret (.inr (.inr (())))))
noncomputable def samePs_w0 : ((List (Int × Int)) × zT2) → Option (Unit ⊕ Unit) := iterO fun x => (samePs_l0 x).run
noncomputable def samePs_B : ((List (Int × Int)) × zA31) → Br (Bool × Unit) := fun (p0, p1, ()) =>
 (.cond ((↑(List.length p0) : Int) != (↑(List.length p1) : Int))
 (.ret (false, ()))
 (.opt (samePs_w0 (p0, p1, 0, ())) fun a =>
 (.sum a (fun b =>
 (.ret (false, ()))) (fun c =>
 (.ret (true, ()))))))
noncomputable def samePs : ((List (Int × Int)) × zA31) → Option (Bool × Unit) := fun x => (samePs_B x).run
abbrev samePs_ins : List (Bool × Pat) := [(false, .ty true (.sl zA16)), (false, .ty true (.sl zA16))]
abbrev samePs_outs : List Pat := [.ty false .bool]
noncomputable abbrev samePs_f : Func := Tryz.f16
noncomputable abbrev samePs_P : Program := Tryz.prog
abbrev samePs_kp : List Nat := kpOf samePs_ins
abbrev samePs_kf : List Nat := kfOf samePs_ins
noncomputable def samePs_c : Ctx := { cx_betwT with base := 1024 }
theorem samePs_env : EnvFull samePs_P samePs_c := env_base (en_betwT) 1024
abbrev samePs_H0 : List Hole := [.slot 0 true (.sl zA16), .slot 1 true (.sl zA16), .slot 5 false (.int .i64)]
def samePs_S0 : Skel := ⟨26, [], []⟩
abbrev samePs_H0e0 : List Hole := []
def samePs_S0e0 : Skel := ⟨26, [(4, D.c C.ff)], []⟩
abbrev samePs_H0e1 : List Hole := []
def samePs_S0e1 : Skel := ⟨26, [], []⟩
def samePs_h0 : Exit → Shape
 | .normal => ⟨[(0, .as true (.sl zA16)), (1, .as true (.sl zA16)), (5, .as false (.int .i64))], [], []⟩
 | .ret => ⟨[(4, .keep)], [], []⟩
 | .exit 0 => ⟨[], [], []⟩
 | _ => ⟨[], [], []⟩
def samePs_e0 : (Unit ⊕ Unit) → Exit × St
 | (.inl u) => (.ret, samePs_S0e0.fillK samePs_kf samePs_H0e0 u)
 | (.inr u) => (.exit 0, samePs_S0e1.fillK samePs_kf samePs_H0e1 u)
def samePs_t0 : (Unit ⊕ Unit) → Br (Exit × St) := fun z => .sum z (fun u => .ret (.ret, samePs_S0e0.fillK samePs_kf samePs_H0e0 u)) (fun u => .ret (.exit 0, samePs_S0e1.fillK samePs_kf samePs_H0e1 u))
noncomputable def samePs_C0 : Code := loopAt 0 (bodyOf samePs_f)
noncomputable def samePs_o0 : St → Br (Exit × St) := loopF samePs_kp samePs_kf 1024 (samePs_h0 .normal) (samePs_S0.parseK samePs_kf samePs_H0) fun x => .opt (samePs_w0 x) samePs_t0
noncomputable def samePs_p : Par := { sh := fun _ => none, k := 0, lo := fun i => bif Nat.beq i 4 then some samePs_o0 else none }
theorem samePs_r0 (a : (List (Int × Int))) (b : (List (Int × Int))) (c : Int) : roundF samePs_kp samePs_kf samePs_c samePs_p samePs_h0 samePs_C0 (samePs_S0.fillK samePs_kf samePs_H0 (a, b, c, ())) = (samePs_l0 (a, b, c, ())).bind (loopLeaf (fun x => samePs_S0.fillK samePs_kf samePs_H0 x) samePs_e0) := by kernel_rfl
theorem samePs_ok0 (g : Cfg) (hg : ∀ n, Go.PI.look n g.m0 ≠ Option.none → n ∈ samePs_kp) : LoopOk samePs_P g samePs_o0 samePs_C0 := LoopOk.auto samePs_env hg samePs_p (LoOk.of (l := []) (by kernel_rfl) .nil) samePs_h0 (fun x => samePs_S0.fillK samePs_kf samePs_H0 x) (fun s x h => Skel.parseK_ok s x h) samePs_l0 samePs_e0 (fun z h => by rcases z with z | z <;> cases h) samePs_t0 (fun z => by rcases z with z | z <;> rfl) (fun (a, b, c, ()) => samePs_r0 a b c)
theorem samePs_eq (p0 : (List (Int × Int))) (p1 : (List (Int × Int))) : ocRun samePs_c samePs_p samePs_f samePs_ins samePs_outs (p0, p1, ()) = samePs_B (p0, p1, ()) := by kernel_rfl
theorem samePs_oc : OC samePs_P 16 samePs_ins samePs_outs samePs := OC.of_tree samePs_env Tryz.func16 (by kernel_rfl) (by kernel_rfl) (p := samePs_p) (fun g hg => LoOk.of (l := [samePs_C0]) (by kernel_rfl) (.cons (samePs_ok0 g hg) (by kernel_rfl) .nil)) (fun (p0, p1, ()) => samePs_eq p0 p1)
noncomputable def cx_samePs : Ctx := addO cx_betwT 16 (ocOrc samePs_ins samePs_outs samePs)
theorem en_samePs : EnvFull Tryz.prog cx_samePs := env_add (en_betwT) samePs_oc.callOk
noncomputable def sameMs_l0 : (zA23 × (zA23 × (Int × Unit))) → Br ((zA23 × (zA23 × (Int × Unit))) ⊕ (Unit ⊕ Unit)) := fun (a, b, c, ()) =>
 (.cond (decide (c < (↑(List.length a) : Int)))
 (.cond (decide (0 ≤ c) && decide (c < (↑(List.length a) : Int)))
 (.cond (decide (0 ≤ c) && decide (c < (↑(List.length b) : Int)))
 (.opt (samePs (List.getD a (Int.toNat c) [], List.getD b (Int.toNat c) [], ())) fun d =>
 (.cond (!d.1)
 (.ret (.inr (.inl (()))))
 (.ret (.inl (a, b, IntKind.wrap .i64 (c + 1), ())))))
 (.no))
 (.no))
 (.ret (.inr (.inr (())))))
noncomputable def sameMs_w0 : (zA23 × (zA23 × (Int × Unit))) → Option (Unit ⊕ Unit) := iterO fun x => (sameMs_l0 x).run
noncomputable def sameMs_B : (zA23 × (zA23 × Unit)) → Br (Bool × Unit) := fun (p0, p1, ()) =>
 (.cond ((↑(List.length p0) : Int) != (↑(List.length p1) : Int))
 (.ret (false, ()))
 (.opt (sameMs_w0 (p0, p1, 0, ())) fun a =>
 (.sum a (fun b =>
 (.ret (false, ()))) (fun c =>
 (.ret (true, ()))))))
noncomputable def sameMs : (zA23 × (zA23 × Unit)) → Option (Bool × Unit) := fun x => (sameMs_B x).run
abbrev sameMs_ins : List (Bool × Pat) := [(false, .ty true (.sl (.sl zA16))), (false, .ty true (.sl (.sl zA16)))]
abbrev sameMs_outs : List Pat := [.ty false .bool]
noncomputable abbrev sameMs_f : Func := Tryz.f11
noncomputable abbrev sameMs_P : Program := Tryz.prog
abbrev sameMs_kp : List Nat := kpOf sameMs_ins
abbrev sameMs_kf : List Nat := kfOf sameMs_ins
noncomputable def sameMs_c : Ctx := { cx_samePs with base := 1024 }
theorem sameMs_env : EnvFull sameMs_P sameMs_c := env_base (en_samePs) 1024
abbrev sameMs_H0 : List Hole := [.slot 0 true (.sl (.sl zA16)), .slot 1 true (.sl (.sl zA16)), .slot 5 false (.int .i64)]
def sameMs_S0 : Skel := ⟨27, [], []⟩
abbrev sameMs_H0e0 : List Hole := []
def sameMs_S0e0 : Skel := ⟨27, [(4, D.c C.ff)], []⟩
abbrev sameMs_H0e1 : List Hole := []
def sameMs_S0e1 : Skel := ⟨27, [], []⟩
def sameMs_h0 : Exit → Shape
 | .normal => ⟨[(0, .as true (.sl (.sl zA16))), (1, .as true (.sl (.sl zA16))), (5, .as false (.int .i64))], [], []⟩
 | .ret => ⟨[(4, .keep)], [], []⟩
 | .exit 0 => ⟨[], [], []⟩
 | _ => ⟨[], [], []⟩
def sameMs_e0 : (Unit ⊕ Unit) → Exit × St
 | (.inl u) => (.ret, sameMs_S0e0.fillK sameMs_kf sameMs_H0e0 u)
 | (.inr u) => (.exit 0, sameMs_S0e1.fillK sameMs_kf sameMs_H0e1 u)
def sameMs_t0 : (Unit ⊕ Unit) → Br (Exit × St) := fun z => .sum z (fun u => .ret (.ret, sameMs_S0e0.fillK sameMs_kf sameMs_H0e0 u)) (fun u => .ret (.exit 0, sameMs_S0e1.fillK sameMs_kf sameMs_H0e1 u))
noncomputable def sameMs_C0 : Code := loopAt 0 (bodyOf sameMs_f)
noncomputable def sameMs_o0 : St → Br (Exit × St) := loopF sameMs_kp sameMs_kf 1024 (sameMs_h0 .normal) (sameMs_S0.parseK sameMs_kf sameMs_H0) fun x => .opt (sameMs_w0 x) sameMs_t0
noncomputable def sameMs_p : Par := { sh := fun _ => none, k := 0, lo := fun i => bif Nat.beq i 4 then some sameMs_o0 else none }
theorem sameMs_r0 (a : zA23) (b : zA23) (c : Int) : roundF sameMs_kp sameMs_kf sameMs_c sameMs_p sameMs_h0 sameMs_C0 (sameMs_S0.fillK sameMs_kf sameMs_H0 (a, b, c, ())) = (sameMs_l0 (a, b, c, ())).bind (loopLeaf (fun x => sameMs_S0.fillK sameMs_kf sameMs_H0 x) sameMs_e0) := by kernel_rfl
theorem sameMs_ok0 (g : Cfg) (hg : ∀ n, Go.PI.look n g.m0 ≠ Option.none → n ∈ sameMs_kp) : LoopOk sameMs_P g sameMs_o0 sameMs_C0 := LoopOk.auto sameMs_env hg sameMs_p (LoOk.of (l := []) (by kernel_rfl) .nil) sameMs_h0 (fun x => sameMs_S0.fillK sameMs_kf sameMs_H0 x) (fun s x h => Skel.parseK_ok s x h) sameMs_l0 sameMs_e0 (fun z h => by rcases z with z | z <;> cases h) sameMs_t0 (fun z => by rcases z with z | z <;> rfl) (fun (a, b, c, ()) => sameMs_r0 a b c)
theorem sameMs_eq (p0 : zA23) (p1 : zA23) : ocRun sameMs_c sameMs_p sameMs_f sameMs_ins sameMs_outs (p0, p1, ()) = sameMs_B (p0, p1, ()) := by kernel_rfl
theorem sameMs_oc : OC sameMs_P 11 sameMs_ins sameMs_outs sameMs := OC.of_tree sameMs_env Tryz.func11 (by kernel_rfl) (by kernel_rfl) (p := sameMs_p) (fun g hg => LoOk.of (l := [sameMs_C0]) (by kernel_rfl) (.cons (sameMs_ok0 g hg) (by kernel_rfl) .nil)) (fun (p0, p1, ()) => sameMs_eq p0 p1)
noncomputable def cx_sameMs : Ctx := addO cx_samePs 11 (ocOrc sameMs_ins sameMs_outs sameMs)
theorem en_sameMs : EnvFull Tryz.prog cx_sameMs := env_add (en_samePs) sameMs_oc.callOk
noncomputable def timeT_B : (Int × Unit) → Br (Bool × Unit) := fun (p0, ()) =>
 (.cond (decide (p0 ≥ 0))
 (.ret (decide (p0 ≤ 1099511627776), ()))
 (.ret (false, ())))
noncomputable def timeT : (Int × Unit) → Option (Bool × Unit) := fun x => (timeT_B x).run
abbrev timeT_ins : List (Bool × Pat) := [(false, .ty false (.int .i64))]
abbrev timeT_outs : List Pat := [.ty false .bool]
noncomputable abbrev timeT_f : Func := Tryz.f72
noncomputable abbrev timeT_P : Program := Tryz.prog
noncomputable def timeT_c : Ctx := { cx_sameMs with base := 1024 }
theorem timeT_env : EnvFull timeT_P timeT_c := env_base (en_sameMs) 1024
noncomputable def timeT_p : Par := { sh := fun _ => none, k := 0, lo := fun _ => none }
theorem timeT_eq (p0 : Int) : ocRun timeT_c timeT_p timeT_f timeT_ins timeT_outs (p0, ()) = timeT_B (p0, ()) := by kernel_rfl
theorem timeT_oc : OC timeT_P 72 timeT_ins timeT_outs timeT := OC.of_tree timeT_env Tryz.func72 (by kernel_rfl) (by kernel_rfl) (p := timeT_p) (fun g hg => LoOk.of (l := []) (by kernel_rfl) .nil) (fun (p0, ()) => timeT_eq p0)
noncomputable def cx_timeT : Ctx := addO cx_sameMs 72 (ocOrc timeT_ins timeT_outs timeT)
theorem en_timeT : EnvFull Tryz.prog cx_timeT := env_add (en_sameMs) timeT_oc.callOk
noncomputable def withinT_B : (Int × (Int × (Int × Unit))) → Br (Bool × Unit) := fun (p0, p1, p2, ()) =>
 (.opt (timeT (p0, ())) fun y5 =>
 (.cond y5.1
 (.opt (timeT (p1, ())) fun y6 =>
 (.cond y6.1
 (.cond (decide (p0 ≤ p1))
 (.ret (decide (IntKind.wrap .i64 (p1 - p0) ≤ p2), ()))
 (.ret (false, ())))
 (.ret (false, ()))))
 (.ret (false, ()))))
noncomputable def withinT : (Int × (Int × (Int × Unit))) → Option (Bool × Unit) := fun x => (withinT_B x).run
abbrev withinT_ins : List (Bool × Pat) := [(false, .ty false (.int .i64)), (false, .ty false (.int .i64)), (false, .ty false (.int .i64))]
abbrev withinT_outs : List Pat := [.ty false .bool]
noncomputable abbrev withinT_f : Func := Tryz.f40
noncomputable abbrev withinT_P : Program := Tryz.prog
noncomputable def withinT_c : Ctx := { cx_timeT with base := 1024 }
theorem withinT_env : EnvFull withinT_P withinT_c := env_base (en_timeT) 1024
noncomputable def withinT_p : Par := { sh := fun _ => none, k := 0, lo := fun _ => none }
theorem withinT_eq (p0 : Int) (p1 : Int) (p2 : Int) : ocRun withinT_c withinT_p withinT_f withinT_ins withinT_outs (p0, p1, p2, ()) = withinT_B (p0, p1, p2, ()) := by kernel_rfl
theorem withinT_oc : OC withinT_P 40 withinT_ins withinT_outs withinT := OC.of_tree withinT_env Tryz.func40 (by kernel_rfl) (by kernel_rfl) (p := withinT_p) (fun g hg => LoOk.of (l := []) (by kernel_rfl) .nil) (fun (p0, p1, p2, ()) => withinT_eq p0 p1 p2)
noncomputable def cx_withinT : Ctx := addO cx_timeT 40 (ocOrc withinT_ins withinT_outs withinT)
theorem en_withinT : EnvFull Tryz.prog cx_withinT := env_add (en_timeT) withinT_oc.callOk
noncomputable def orderT_l1 : zT10 → Br (zT10 ⊕ (Unit ⊕ zT10)) := fun (a, b, c, d, e, f, g, ()) =>
 (.cond (decide (d < (↑(List.length b) : Int)))
 (.cond (decide (0 ≤ d) && decide (d < (↑(List.length b) : Int)))
 (.cond ((List.getD b (Int.toNat d) (0, 0)).1 == c)
 (.cond (decide (0 ≤ d) && decide (d < (↑(List.length b) : Int)))
 (.opt (findT (a, (List.getD b (Int.toNat d) (0, 0)).2, ())) fun h =>
 (.cond (decide (h.1.2 ≤ e))
 (.ret (.inr (.inl (()))))
 (.ret (.inl (a, b, c, IntKind.wrap .i64 (d + 1), h.1.2, IntKind.wrap .i64 (f + 1), g, ())))))
 (.no))
 (.ret (.inr (.inr (a, b, c, d, e, f, g, ())))))
 (.no))
 (.ret (.inr (.inr (a, b, c, d, e, f, g, ())))))
noncomputable def orderT_w1 : zT10 → Option (Unit ⊕ zT10) := iterO fun x => (orderT_l1 x).run
noncomputable def orderT_l0 : ((List zA2) × ((List (Int × Int)) × (Int × zT6))) → Br (((List zA2) × ((List (Int × Int)) × (Int × zT6))) ⊕ (Unit ⊕ zT2)) := fun (a, b, c, d, e, f, ()) =>
 (.cond (decide (c ≥ 0))
 (.opt (orderT_w1 (a, b, c, d, e, 0, f, ())) fun g =>
 (.sum g (fun h =>
 (.ret (.inr (.inl (()))))) (fun i =>
 (.cond (decide (0 ≤ i.2.2.1) && decide (i.2.2.1 < (↑(List.length i.2.2.2.2.2.2.1.1) : Int)))
 (.cond (decide (i.2.2.2.2.2.1 < (List.getD i.2.2.2.2.2.2.1.1 (Int.toNat i.2.2.1) zV2).2.2.2.1))
 (.ret (.inr (.inl (()))))
 (.cond (decide (0 ≤ i.2.2.1) && decide (i.2.2.1 < (↑(List.length i.2.2.2.2.2.2.1.1) : Int)))
 (.cond (decide (i.2.2.2.2.2.1 > (List.getD i.2.2.2.2.2.2.1.1 (Int.toNat i.2.2.1) zV2).2.2.2.2.1))
 (.ret (.inr (.inl (()))))
 (.opt (nextT (i.2.2.2.2.2.2.1, i.2.2.1, ())) fun j =>
 (.ret (.inl (i.1, i.2.1, j.1, i.2.2.2.1, i.2.2.2.2.1, i.2.2.2.2.2.2.1, ())))))
 (.no)))
 (.no)))))
 (.ret (.inr (.inr (b, d, ())))))
noncomputable def orderT_w0 : ((List zA2) × ((List (Int × Int)) × (Int × zT6))) → Option (Unit ⊕ zT2) := iterO fun x => (orderT_l0 x).run
noncomputable def orderT_B : (zA10 × ((List zA2) × zA31)) → Br (Bool × Unit) := fun (p0, p1, p2, ()) =>
 (.opt (nextT (p0, -1, ())) fun a =>
 (.opt (orderT_w0 (p1, p2, a.1, 0, -1, p0, ())) fun b =>
 (.sum b (fun c =>
 (.ret (false, ()))) (fun d =>
 (.ret (d.2.1 == (↑(List.length d.1) : Int), ()))))))
noncomputable def orderT : (zA10 × ((List zA2) × zA31)) → Option (Bool × Unit) := fun x => (orderT_B x).run
abbrev orderT_ins : List (Bool × Pat) := [(false, .ty true zA5), (false, .ty false (.sl zA9)), (false, .ty true (.sl zA16))]
abbrev orderT_outs : List Pat := [.ty false .bool]
noncomputable abbrev orderT_f : Func := Tryz.f38
noncomputable abbrev orderT_P : Program := Tryz.prog
abbrev orderT_kp : List Nat := kpOf orderT_ins
abbrev orderT_kf : List Nat := kfOf orderT_ins
noncomputable def orderT_c : Ctx := { cx_withinT with base := 1024 }
theorem orderT_env : EnvFull orderT_P orderT_c := env_base (en_withinT) 1024
abbrev orderT_H1 : List Hole := [.slot 1 false (.sl zA9), .slot 2 true (.sl zA16), .slot 7 false (.int .i64), .slot 8 false (.int .i64), .slot 9 false (.int .i64), .slot 10 false (.int .i64), .tv 1027 true zA5]
def orderT_S1 : Skel := ⟨73, [(3, D.c (C.ref 1027 0 0))], [(1027, [])]⟩
abbrev orderT_H1e0 : List Hole := []
def orderT_S1e0 : Skel := ⟨73, [(6, D.c C.ff)], []⟩
abbrev orderT_H1e1 : List Hole := [.slot 1 false (.sl zA9), .slot 2 true (.sl zA16), .slot 7 false (.int .i64), .slot 8 false (.int .i64), .slot 9 false (.int .i64), .slot 10 false (.int .i64), .tv 1027 true zA5]
def orderT_S1e1 : Skel := ⟨73, [(3, D.c (C.ref 1027 0 0))], [(1027, [])]⟩
def orderT_h1 : Exit → Shape
 | .normal => ⟨[(1, .as false (.sl zA9)), (2, .as true (.sl zA16)), (3, .keep), (7, .as false (.int .i64)), (8, .as false (.int .i64)), (9, .as false (.int .i64)), (10, .as false (.int .i64))], [], [(3, true)]⟩
 | .ret => ⟨[(6, .keep)], [], []⟩
 | .exit 2 => ⟨[(1, .as false (.sl zA9)), (2, .as true (.sl zA16)), (3, .keep), (7, .as false (.int .i64)), (8, .as false (.int .i64)), (9, .as false (.int .i64)), (10, .as false (.int .i64))], [], [(3, true)]⟩
 | _ => ⟨[], [], []⟩
def orderT_e1 : (Unit ⊕ zT10) → Exit × St
 | (.inl u) => (.ret, orderT_S1e0.fillK orderT_kf orderT_H1e0 u)
 | (.inr u) => (.exit 2, orderT_S1e1.fillK orderT_kf orderT_H1e1 u)
def orderT_t1 : (Unit ⊕ zT10) → Br (Exit × St) := fun z => .sum z (fun u => .ret (.ret, orderT_S1e0.fillK orderT_kf orderT_H1e0 u)) (fun u => .ret (.exit 2, orderT_S1e1.fillK orderT_kf orderT_H1e1 u))
noncomputable def orderT_C1 : Code := loopAt 1 (bodyOf orderT_f)
noncomputable def orderT_o1 : St → Br (Exit × St) := loopF orderT_kp orderT_kf 1024 (orderT_h1 .normal) (orderT_S1.parseK orderT_kf orderT_H1) fun x => .opt (orderT_w1 x) orderT_t1
abbrev orderT_H0 : List Hole := [.slot 1 false (.sl zA9), .slot 2 true (.sl zA16), .slot 7 false (.int .i64), .slot 8 false (.int .i64), .slot 9 false (.int .i64), .tv 1027 true zA5]
def orderT_S0 : Skel := ⟨73, [(3, D.c (C.ref 1027 0 0))], [(1027, [])]⟩
abbrev orderT_H0e0 : List Hole := []
def orderT_S0e0 : Skel := ⟨73, [(6, D.c C.ff)], []⟩
abbrev orderT_H0e1 : List Hole := [.slot 2 true (.sl zA16), .slot 8 false (.int .i64)]
def orderT_S0e1 : Skel := ⟨73, [], []⟩
def orderT_h0 : Exit → Shape
 | .normal => ⟨[(1, .as false (.sl zA9)), (2, .as true (.sl zA16)), (3, .keep), (7, .as false (.int .i64)), (8, .as false (.int .i64)), (9, .as false (.int .i64))], [], [(3, true)]⟩
 | .ret => ⟨[(6, .keep)], [], []⟩
 | .exit 0 => ⟨[(2, .as true (.sl zA16)), (8, .as false (.int .i64))], [], []⟩
 | _ => ⟨[], [], []⟩
def orderT_e0 : (Unit ⊕ zT2) → Exit × St
 | (.inl u) => (.ret, orderT_S0e0.fillK orderT_kf orderT_H0e0 u)
 | (.inr u) => (.exit 0, orderT_S0e1.fillK orderT_kf orderT_H0e1 u)
def orderT_t0 : (Unit ⊕ zT2) → Br (Exit × St) := fun z => .sum z (fun u => .ret (.ret, orderT_S0e0.fillK orderT_kf orderT_H0e0 u)) (fun u => .ret (.exit 0, orderT_S0e1.fillK orderT_kf orderT_H0e1 u))
noncomputable def orderT_C0 : Code := loopAt 0 (bodyOf orderT_f)
noncomputable def orderT_o0 : St → Br (Exit × St) := loopF orderT_kp orderT_kf 1024 (orderT_h0 .normal) (orderT_S0.parseK orderT_kf orderT_H0) fun x => .opt (orderT_w0 x) orderT_t0
noncomputable def orderT_p : Par := { sh := fun _ => none, k := 0, lo := fun i => bif Nat.beq i 3 then some orderT_o0 else bif Nat.beq i 5 then some orderT_o1 else none }
theorem orderT_r1 (a : (List zA2)) (b : (List (Int × Int))) (c : Int) (d : Int) (e : Int) (f : Int) (g : zA10) : roundF orderT_kp orderT_kf orderT_c orderT_p orderT_h1 orderT_C1 (orderT_S1.fillK orderT_kf orderT_H1 (a, b, c, d, e, f, g, ())) = (orderT_l1 (a, b, c, d, e, f, g, ())).bind (loopLeaf (fun x => orderT_S1.fillK orderT_kf orderT_H1 x) orderT_e1) := by kernel_rfl
theorem orderT_ok1 (g : Cfg) (hg : ∀ n, Go.PI.look n g.m0 ≠ Option.none → n ∈ orderT_kp) : LoopOk orderT_P g orderT_o1 orderT_C1 := LoopOk.auto orderT_env hg orderT_p (LoOk.of (l := []) (by kernel_rfl) .nil) orderT_h1 (fun x => orderT_S1.fillK orderT_kf orderT_H1 x) (fun s x h => Skel.parseK_ok s x h) orderT_l1 orderT_e1 (fun z h => by rcases z with z | z <;> cases h) orderT_t1 (fun z => by rcases z with z | z <;> rfl) (fun (a, b, c, d, e, f, i, ()) => orderT_r1 a b c d e f i)
theorem orderT_r0 (a : (List zA2)) (b : (List (Int × Int))) (c : Int) (d : Int) (e : Int) (f : zA10) : roundF orderT_kp orderT_kf orderT_c orderT_p orderT_h0 orderT_C0 (orderT_S0.fillK orderT_kf orderT_H0 (a, b, c, d, e, f, ())) = (orderT_l0 (a, b, c, d, e, f, ())).bind (loopLeaf (fun x => orderT_S0.fillK orderT_kf orderT_H0 x) orderT_e0) := by kernel_rfl
theorem orderT_ok0 (g : Cfg) (hg : ∀ n, Go.PI.look n g.m0 ≠ Option.none → n ∈ orderT_kp) : LoopOk orderT_P g orderT_o0 orderT_C0 := LoopOk.auto orderT_env hg orderT_p (LoOk.of (l := [orderT_C1]) (by kernel_rfl) (.cons (orderT_ok1 g hg) (by kernel_rfl) .nil)) orderT_h0 (fun x => orderT_S0.fillK orderT_kf orderT_H0 x) (fun s x h => Skel.parseK_ok s x h) orderT_l0 orderT_e0 (fun z h => by rcases z with z | z <;> cases h) orderT_t0 (fun z => by rcases z with z | z <;> rfl) (fun (a, b, c, d, e, f, ()) => orderT_r0 a b c d e f)
theorem orderT_eq (p0 : zA10) (p1 : (List zA2)) (p2 : (List (Int × Int))) : ocRun orderT_c orderT_p orderT_f orderT_ins orderT_outs (p0, p1, p2, ()) = orderT_B (p0, p1, p2, ()) := by kernel_rfl
theorem orderT_oc : OC orderT_P 38 orderT_ins orderT_outs orderT := OC.of_tree orderT_env Tryz.func38 (by kernel_rfl) (by kernel_rfl) (p := orderT_p) (fun g hg => LoOk.of (l := [orderT_C0, orderT_C1]) (by kernel_rfl) (.cons (orderT_ok0 g hg) (by kernel_rfl) (.cons (orderT_ok1 g hg) (by kernel_rfl) .nil))) (fun (p0, p1, p2, ()) => orderT_eq p0 p1 p2)
noncomputable def cx_orderT : Ctx := addO cx_withinT 38 (ocOrc orderT_ins orderT_outs orderT)
theorem en_orderT : EnvFull Tryz.prog cx_orderT := env_add (en_withinT) orderT_oc.callOk
noncomputable def freeT_l1 : zT11 → Br (zT11 ⊕ (Unit ⊕ zT5)) := fun (a, b, c, d, e, f, g, h, i, j, k, l, ()) =>
 (.cond (decide (h < f))
 (.cond (decide (0 ≤ 0) && decide (0 ≤ d) && decide (d ≤ (↑(List.length c) : Int)))
 (.cond (decide (0 ≤ h) && decide (h < (↑(List.length b) : Int)))
 (.opt (fitsT (a, l, b, List.drop (Int.toNat 0) (List.take (Int.toNat d) c), g, List.getD b (Int.toNat h) zV1, ())) fun m =>
 (.cond m.1
 (.ret (.inr (.inl (()))))
 (.ret (.inl (a, b, c, d, e, f, g, IntKind.wrap .i64 (h + 1), i, j, k, l, ())))))
 (.no))
 (.no))
 (.ret (.inr (.inr (a, b, c, d, e, f, i, j, k, l, ())))))
noncomputable def freeT_w1 : zT11 → Option (Unit ⊕ zT5) := iterO fun x => (freeT_l1 x).run
noncomputable def freeT_l0 : zT5 → Br (zT5 ⊕ (Unit ⊕ Unit)) := fun (a, b, c, d, e, f, g, h, i, j, ()) =>
 (.cond (decide (i < h))
 (.cond (decide (0 ≤ i) && decide (i < (↑(List.length g) : Int)))
 (.opt (freeT_w1 (a, b, c, d, e, f, List.getD g (Int.toNat i) 0, IntKind.wrap .i64 (e + 1), g, h, i, j, ())) fun k =>
 (.sum k (fun l =>
 (.ret (.inr (.inl (()))))) (fun m =>
 (.ret (.inl (m.1, m.2.1, m.2.2.1, m.2.2.2.1, m.2.2.2.2.1, m.2.2.2.2.2.1, m.2.2.2.2.2.2.1, m.2.2.2.2.2.2.2.1, IntKind.wrap .i64 (m.2.2.2.2.2.2.2.2.1 + 1), m.2.2.2.2.2.2.2.2.2.1, ()))))))
 (.no))
 (.ret (.inr (.inr (())))))
noncomputable def freeT_w0 : zT5 → Option (Unit ⊕ Unit) := iterO fun x => (freeT_l0 x).run
noncomputable def freeT_B : ((Option zA11) × (zA10 × ((List zA2) × zT2))) → Br (Bool × Unit) := fun (p0, p1, p2, p3, p4, ()) =>
 (.cond (decide (0 ≤ p4) && decide (p4 < (↑(List.length p3) : Int)))
 (.cond (decide (0 ≤ IntKind.wrap .i64 (p4 - 1)) && decide (IntKind.wrap .i64 (p4 - 1) < (↑(List.length p3) : Int)))
 (.cond ((List.getD p3 (Int.toNat p4) (0, 0)).1 == (List.getD p3 (Int.toNat (IntKind.wrap .i64 (p4 - 1))) (0, 0)).1)
 (.ret (true, ()))
 (.cond (decide (0 ≤ IntKind.wrap .i64 (p4 - 1)) && decide (IntKind.wrap .i64 (p4 - 1) < (↑(List.length p3) : Int)))
 (.opt (findT (p2, (List.getD p3 (Int.toNat (IntKind.wrap .i64 (p4 - 1))) (0, 0)).2, ())) fun a =>
 (.cond (decide (0 ≤ p4) && decide (p4 < (↑(List.length p3) : Int)))
 (.opt (findT (p2, (List.getD p3 (Int.toNat p4) (0, 0)).2, ())) fun b =>
 (.cond (decide (0 ≤ IntKind.wrap .i64 (p4 - 1)) && decide (IntKind.wrap .i64 (p4 - 1) < (↑(List.length p3) : Int)))
 (.opt (betwT (p1, (List.getD p3 (Int.toNat (IntKind.wrap .i64 (p4 - 1))) (0, 0)).1, ())) fun c =>
 (.opt (freeT_w0 (p0, p2, p3, p4, a.1.2, b.1.2, c.1, (↑(List.length c.1) : Int), 0, p1, ())) fun d =>
 (.sum d (fun e =>
 (.ret (false, ()))) (fun f =>
 (.ret (true, ()))))))
 (.no)))
 (.no)))
 (.no)))
 (.no))
 (.no))
noncomputable def freeT : ((Option zA11) × (zA10 × ((List zA2) × zT2))) → Option (Bool × Unit) := fun x => (freeT_B x).run
abbrev freeT_ins : List (Bool × Pat) := [(false, .ty true zA17), (false, .ty true zA5), (false, .ty false (.sl zA9)), (false, .ty true (.sl zA16)), (false, .ty false (.int .i64))]
abbrev freeT_outs : List Pat := [.ty false .bool]
noncomputable abbrev freeT_f : Func := Tryz.f39
noncomputable abbrev freeT_P : Program := Tryz.prog
abbrev freeT_kp : List Nat := kpOf freeT_ins
abbrev freeT_kf : List Nat := kfOf freeT_ins
noncomputable def freeT_c : Ctx := { cx_orderT with base := 1024 }
theorem freeT_env : EnvFull freeT_P freeT_c := env_base (en_orderT) 1024
abbrev freeT_H1 : List Hole := [.slot 0 true zA17, .slot 2 false (.sl zA9), .slot 3 true (.sl zA16), .slot 4 false (.int .i64), .slot 12 false (.int .i64), .slot 14 false (.int .i64), .slot 16 false (.int .i64), .slot 17 false (.int .i64), .slot 58 false (.sl (.int .i64)), .slot 59 false (.int .i64), .slot 60 false (.int .i64), .tv 1030 true zA5]
def freeT_S1 : Skel := ⟨84, [(6, D.c (C.ref 1030 0 0))], [(1030, [])]⟩
abbrev freeT_H1e0 : List Hole := []
def freeT_S1e0 : Skel := ⟨84, [(10, D.c C.ff)], []⟩
abbrev freeT_H1e1 : List Hole := [.slot 0 true zA17, .slot 2 false (.sl zA9), .slot 3 true (.sl zA16), .slot 4 false (.int .i64), .slot 12 false (.int .i64), .slot 14 false (.int .i64), .slot 58 false (.sl (.int .i64)), .slot 59 false (.int .i64), .slot 60 false (.int .i64), .tv 1030 true zA5]
def freeT_S1e1 : Skel := ⟨84, [(6, D.c (C.ref 1030 0 0))], [(1030, [])]⟩
def freeT_h1 : Exit → Shape
 | .normal => ⟨[(0, .as true zA17), (2, .as false (.sl zA9)), (3, .as true (.sl zA16)), (4, .as false (.int .i64)), (6, .keep), (12, .as false (.int .i64)), (14, .as false (.int .i64)), (16, .as false (.int .i64)), (17, .as false (.int .i64)), (58, .as false (.sl (.int .i64))), (59, .as false (.int .i64)), (60, .as false (.int .i64))], [], [(6, true)]⟩
 | .ret => ⟨[(10, .keep)], [], []⟩
 | .exit 2 => ⟨[(0, .as true zA17), (2, .as false (.sl zA9)), (3, .as true (.sl zA16)), (4, .as false (.int .i64)), (6, .keep), (12, .as false (.int .i64)), (14, .as false (.int .i64)), (58, .as false (.sl (.int .i64))), (59, .as false (.int .i64)), (60, .as false (.int .i64))], [], [(6, true)]⟩
 | _ => ⟨[], [], []⟩
def freeT_e1 : (Unit ⊕ zT5) → Exit × St
 | (.inl u) => (.ret, freeT_S1e0.fillK freeT_kf freeT_H1e0 u)
 | (.inr u) => (.exit 2, freeT_S1e1.fillK freeT_kf freeT_H1e1 u)
def freeT_t1 : (Unit ⊕ zT5) → Br (Exit × St) := fun z => .sum z (fun u => .ret (.ret, freeT_S1e0.fillK freeT_kf freeT_H1e0 u)) (fun u => .ret (.exit 2, freeT_S1e1.fillK freeT_kf freeT_H1e1 u))
noncomputable def freeT_C1 : Code := loopAt 1 (bodyOf freeT_f)
noncomputable def freeT_o1 : St → Br (Exit × St) := loopF freeT_kp freeT_kf 1024 (freeT_h1 .normal) (freeT_S1.parseK freeT_kf freeT_H1) fun x => .opt (freeT_w1 x) freeT_t1
abbrev freeT_H0 : List Hole := [.slot 0 true zA17, .slot 2 false (.sl zA9), .slot 3 true (.sl zA16), .slot 4 false (.int .i64), .slot 12 false (.int .i64), .slot 14 false (.int .i64), .slot 58 false (.sl (.int .i64)), .slot 59 false (.int .i64), .slot 60 false (.int .i64), .tv 1030 true zA5]
def freeT_S0 : Skel := ⟨84, [(6, D.c (C.ref 1030 0 0))], [(1030, [])]⟩
abbrev freeT_H0e0 : List Hole := []
def freeT_S0e0 : Skel := ⟨84, [(10, D.c C.ff)], []⟩
abbrev freeT_H0e1 : List Hole := []
def freeT_S0e1 : Skel := ⟨84, [], []⟩
def freeT_h0 : Exit → Shape
 | .normal => ⟨[(0, .as true zA17), (2, .as false (.sl zA9)), (3, .as true (.sl zA16)), (4, .as false (.int .i64)), (6, .keep), (12, .as false (.int .i64)), (14, .as false (.int .i64)), (58, .as false (.sl (.int .i64))), (59, .as false (.int .i64)), (60, .as false (.int .i64))], [], [(6, true)]⟩
 | .ret => ⟨[(10, .keep)], [], []⟩
 | .exit 0 => ⟨[], [], []⟩
 | _ => ⟨[], [], []⟩
def freeT_e0 : (Unit ⊕ Unit) → Exit × St
 | (.inl u) => (.ret, freeT_S0e0.fillK freeT_kf freeT_H0e0 u)
 | (.inr u) => (.exit 0, freeT_S0e1.fillK freeT_kf freeT_H0e1 u)
def freeT_t0 : (Unit ⊕ Unit) → Br (Exit × St) := fun z => .sum z (fun u => .ret (.ret, freeT_S0e0.fillK freeT_kf freeT_H0e0 u)) (fun u => .ret (.exit 0, freeT_S0e1.fillK freeT_kf freeT_H0e1 u))
noncomputable def freeT_C0 : Code := loopAt 0 (bodyOf freeT_f)
noncomputable def freeT_o0 : St → Br (Exit × St) := loopF freeT_kp freeT_kf 1024 (freeT_h0 .normal) (freeT_S0.parseK freeT_kf freeT_H0) fun x => .opt (freeT_w0 x) freeT_t0
noncomputable def freeT_p : Par := { sh := fun _ => none, k := 0, lo := fun i => bif Nat.beq i 6 then some freeT_o0 else bif Nat.beq i 9 then some freeT_o1 else none }
theorem freeT_r1 (a : (Option zA11)) (b : (List zA2)) (c : (List (Int × Int))) (d : Int) (e : Int) (f : Int) (g : Int) (h : Int) (i : (List Int)) (j : Int) (k : Int) (l : zA10) : roundF freeT_kp freeT_kf freeT_c freeT_p freeT_h1 freeT_C1 (freeT_S1.fillK freeT_kf freeT_H1 (a, b, c, d, e, f, g, h, i, j, k, l, ())) = (freeT_l1 (a, b, c, d, e, f, g, h, i, j, k, l, ())).bind (loopLeaf (fun x => freeT_S1.fillK freeT_kf freeT_H1 x) freeT_e1) := by kernel_rfl
theorem freeT_ok1 (g : Cfg) (hg : ∀ n, Go.PI.look n g.m0 ≠ Option.none → n ∈ freeT_kp) : LoopOk freeT_P g freeT_o1 freeT_C1 := LoopOk.auto freeT_env hg freeT_p (LoOk.of (l := []) (by kernel_rfl) .nil) freeT_h1 (fun x => freeT_S1.fillK freeT_kf freeT_H1 x) (fun s x h => Skel.parseK_ok s x h) freeT_l1 freeT_e1 (fun z h => by rcases z with z | z <;> cases h) freeT_t1 (fun z => by rcases z with z | z <;> rfl) (fun (a, b, c, d, e, f, i, j, k, m, o, p, ()) => freeT_r1 a b c d e f i j k m o p)
theorem freeT_r0 (a : (Option zA11)) (b : (List zA2)) (c : (List (Int × Int))) (d : Int) (e : Int) (f : Int) (g : (List Int)) (h : Int) (i : Int) (j : zA10) : roundF freeT_kp freeT_kf freeT_c freeT_p freeT_h0 freeT_C0 (freeT_S0.fillK freeT_kf freeT_H0 (a, b, c, d, e, f, g, h, i, j, ())) = (freeT_l0 (a, b, c, d, e, f, g, h, i, j, ())).bind (loopLeaf (fun x => freeT_S0.fillK freeT_kf freeT_H0 x) freeT_e0) := by kernel_rfl
theorem freeT_ok0 (g : Cfg) (hg : ∀ n, Go.PI.look n g.m0 ≠ Option.none → n ∈ freeT_kp) : LoopOk freeT_P g freeT_o0 freeT_C0 := LoopOk.auto freeT_env hg freeT_p (LoOk.of (l := [freeT_C1]) (by kernel_rfl) (.cons (freeT_ok1 g hg) (by kernel_rfl) .nil)) freeT_h0 (fun x => freeT_S0.fillK freeT_kf freeT_H0 x) (fun s x h => Skel.parseK_ok s x h) freeT_l0 freeT_e0 (fun z h => by rcases z with z | z <;> cases h) freeT_t0 (fun z => by rcases z with z | z <;> rfl) (fun (a, b, c, d, e, f, i, j, k, m, ()) => freeT_r0 a b c d e f i j k m)
theorem freeT_eq (p0 : (Option zA11)) (p1 : zA10) (p2 : (List zA2)) (p3 : (List (Int × Int))) (p4 : Int) : ocRun freeT_c freeT_p freeT_f freeT_ins freeT_outs (p0, p1, p2, p3, p4, ()) = freeT_B (p0, p1, p2, p3, p4, ()) := by kernel_rfl
theorem freeT_oc : OC freeT_P 39 freeT_ins freeT_outs freeT := OC.of_tree freeT_env Tryz.func39 (by kernel_rfl) (by kernel_rfl) (p := freeT_p) (fun g hg => LoOk.of (l := [freeT_C0, freeT_C1]) (by kernel_rfl) (.cons (freeT_ok0 g hg) (by kernel_rfl) (.cons (freeT_ok1 g hg) (by kernel_rfl) .nil))) (fun (p0, p1, p2, p3, p4, ()) => freeT_eq p0 p1 p2 p3 p4)
noncomputable def cx_freeT : Ctx := addO cx_orderT 39 (ocOrc freeT_ins freeT_outs freeT)
theorem en_freeT : EnvFull Tryz.prog cx_freeT := env_add (en_orderT) freeT_oc.callOk
noncomputable def matchT_l0 : zT8 → Br (zT8 ⊕ (Unit ⊕ zT9)) := fun (a, b, c, d, e, f, g, ()) =>
 (.cond (decide (f < e))
 (.cond (decide (0 ≤ f) && decide (f < (↑(List.length d) : Int)))
 (.opt (findT (b, (List.getD d (Int.toNat f) (0, 0)).2, ())) fun h =>
 (.cond (decide (0 ≤ 0) && decide (0 ≤ f) && decide (f ≤ (↑(List.length c) : Int)))
 (.opt (fitsT (a, g, b, List.drop (Int.toNat 0) (List.take (Int.toNat f) c), (List.getD d (Int.toNat f) (0, 0)).1, h.1.1, ())) fun i =>
 (.cond (!i.1)
 (.ret (.inr (.inl (()))))
 (.cond (decide (f > 0))
 (.opt (freeT (a, g, b, c, f, ())) fun j =>
 (.cond (!j.1)
 (.ret (.inr (.inl (()))))
 (.ret (.inl (a, b, c, d, e, IntKind.wrap .i64 (f + 1), g, ())))))
 (.ret (.inl (a, b, c, d, e, IntKind.wrap .i64 (f + 1), g, ()))))))
 (.no)))
 (.no))
 (.ret (.inr (.inr (b, c, g, ())))))
noncomputable def matchT_w0 : zT8 → Option (Unit ⊕ zT9) := iterO fun x => (matchT_l0 x).run
noncomputable def matchT_B : ((Option zA11) × (zA10 × ((List zA2) × zA31))) → Br (Bool × Unit) := fun (p0, p1, p2, p3, ()) =>
 (.cond ((↑(List.length p3) : Int) == 0)
 (.ret (false, ()))
 (.opt (orderT (p1, p2, p3, ())) fun a =>
 (.cond (!a.1)
 (.ret (false, ()))
 (.opt (matchT_w0 (p0, p2, p3, p3, (↑(List.length p3) : Int), 0, p1, ())) fun b =>
 (.sum b (fun c =>
 (.ret (false, ()))) (fun d =>
 (.cond (decide (0 ≤ 0) && decide (0 < (↑(List.length d.2.1) : Int)))
 (.opt (findT (d.1, (List.getD d.2.1 (Int.toNat 0) (0, 0)).2, ())) fun e =>
 (.cond (decide (0 ≤ IntKind.wrap .i64 ((↑(List.length d.2.1) : Int) - 1)) && decide (IntKind.wrap .i64 ((↑(List.length d.2.1) : Int) - 1) < (↑(List.length d.2.1) : Int)))
 (.opt (findT (d.1, (List.getD d.2.1 (Int.toNat (IntKind.wrap .i64 ((↑(List.length d.2.1) : Int) - 1))) (0, 0)).2, ())) fun f =>
 (.opt (withinT (e.1.1.2.2.1, f.1.1.2.2.1, d.2.2.1.2.1, ())) fun g =>
 (.ret (g.1, ()))))
 (.no)))
 (.no))))))))
noncomputable def matchT : ((Option zA11) × (zA10 × ((List zA2) × zA31))) → Option (Bool × Unit) := fun x => (matchT_B x).run
abbrev matchT_ins : List (Bool × Pat) := [(false, .ty true zA17), (false, .ty true zA5), (false, .ty false (.sl zA9)), (false, .ty true (.sl zA16))]
abbrev matchT_outs : List Pat := [.ty false .bool]
noncomputable abbrev matchT_f : Func := Tryz.f18
noncomputable abbrev matchT_P : Program := Tryz.prog
abbrev matchT_kp : List Nat := kpOf matchT_ins
abbrev matchT_kf : List Nat := kfOf matchT_ins
noncomputable def matchT_c : Ctx := { cx_freeT with base := 1024 }
theorem matchT_env : EnvFull matchT_P matchT_c := env_base (en_freeT) 1024
abbrev matchT_H0 : List Hole := [.slot 0 true zA17, .slot 2 false (.sl zA9), .slot 3 true (.sl zA16), .slot 27 true (.sl zA16), .slot 28 false (.int .i64), .slot 29 false (.int .i64), .tv 1029 true zA5]
def matchT_S0 : Skel := ⟨94, [(5, D.c (C.ref 1029 0 0))], [(1029, [])]⟩
abbrev matchT_H0e0 : List Hole := []
def matchT_S0e0 : Skel := ⟨94, [(8, D.c C.ff)], []⟩
abbrev matchT_H0e1 : List Hole := [.slot 2 false (.sl zA9), .slot 3 true (.sl zA16), .tv 1029 true zA5]
def matchT_S0e1 : Skel := ⟨94, [(5, D.c (C.ref 1029 0 0))], [(1029, [])]⟩
def matchT_h0 : Exit → Shape
 | .normal => ⟨[(0, .as true zA17), (2, .as false (.sl zA9)), (3, .as true (.sl zA16)), (5, .keep), (27, .as true (.sl zA16)), (28, .as false (.int .i64)), (29, .as false (.int .i64))], [], [(5, true)]⟩
 | .ret => ⟨[(8, .keep)], [], []⟩
 | .exit 0 => ⟨[(2, .as false (.sl zA9)), (3, .as true (.sl zA16)), (5, .keep)], [], [(5, true)]⟩
 | _ => ⟨[], [], []⟩
def matchT_e0 : (Unit ⊕ zT9) → Exit × St
 | (.inl u) => (.ret, matchT_S0e0.fillK matchT_kf matchT_H0e0 u)
 | (.inr u) => (.exit 0, matchT_S0e1.fillK matchT_kf matchT_H0e1 u)
def matchT_t0 : (Unit ⊕ zT9) → Br (Exit × St) := fun z => .sum z (fun u => .ret (.ret, matchT_S0e0.fillK matchT_kf matchT_H0e0 u)) (fun u => .ret (.exit 0, matchT_S0e1.fillK matchT_kf matchT_H0e1 u))
noncomputable def matchT_C0 : Code := loopAt 0 (bodyOf matchT_f)
noncomputable def matchT_o0 : St → Br (Exit × St) := loopF matchT_kp matchT_kf 1024 (matchT_h0 .normal) (matchT_S0.parseK matchT_kf matchT_H0) fun x => .opt (matchT_w0 x) matchT_t0
noncomputable def matchT_p : Par := { sh := fun _ => none, k := 0, lo := fun i => bif Nat.beq i 4 then some matchT_o0 else none }
theorem matchT_r0 (a : (Option zA11)) (b : (List zA2)) (c : (List (Int × Int))) (d : (List (Int × Int))) (e : Int) (f : Int) (g : zA10) : roundF matchT_kp matchT_kf matchT_c matchT_p matchT_h0 matchT_C0 (matchT_S0.fillK matchT_kf matchT_H0 (a, b, c, d, e, f, g, ())) = (matchT_l0 (a, b, c, d, e, f, g, ())).bind (loopLeaf (fun x => matchT_S0.fillK matchT_kf matchT_H0 x) matchT_e0) := by kernel_rfl
theorem matchT_ok0 (g : Cfg) (hg : ∀ n, Go.PI.look n g.m0 ≠ Option.none → n ∈ matchT_kp) : LoopOk matchT_P g matchT_o0 matchT_C0 := LoopOk.auto matchT_env hg matchT_p (LoOk.of (l := []) (by kernel_rfl) .nil) matchT_h0 (fun x => matchT_S0.fillK matchT_kf matchT_H0 x) (fun s x h => Skel.parseK_ok s x h) matchT_l0 matchT_e0 (fun z h => by rcases z with z | z <;> cases h) matchT_t0 (fun z => by rcases z with z | z <;> rfl) (fun (a, b, c, d, e, f, i, ()) => matchT_r0 a b c d e f i)
theorem matchT_eq (p0 : (Option zA11)) (p1 : zA10) (p2 : (List zA2)) (p3 : (List (Int × Int))) : ocRun matchT_c matchT_p matchT_f matchT_ins matchT_outs (p0, p1, p2, p3, ()) = matchT_B (p0, p1, p2, p3, ()) := by kernel_rfl
theorem matchT_oc : OC matchT_P 18 matchT_ins matchT_outs matchT := OC.of_tree matchT_env Tryz.func18 (by kernel_rfl) (by kernel_rfl) (p := matchT_p) (fun g hg => LoOk.of (l := [matchT_C0]) (by kernel_rfl) (.cons (matchT_ok0 g hg) (by kernel_rfl) .nil)) (fun (p0, p1, p2, p3, ()) => matchT_eq p0 p1 p2 p3)
noncomputable def cx_matchT : Ctx := addO cx_freeT 18 (ocOrc matchT_ins matchT_outs matchT)
theorem en_matchT : EnvFull Tryz.prog cx_matchT := env_add (en_freeT) matchT_oc.callOk
noncomputable def whyT_l0 : zT8 → Br (zT8 ⊕ ((Int × Unit) ⊕ ((Option zA11) × zT9))) := fun (a, b, c, d, e, f, g, ()) =>
 (.cond (decide (f < e))
 (.cond (decide (0 ≤ f) && decide (f < (↑(List.length d) : Int)))
 (.opt (findT (b, (List.getD d (Int.toNat f) (0, 0)).2, ())) fun h =>
 (.cond (decide (0 ≤ 0) && decide (0 ≤ f) && decide (f ≤ (↑(List.length c) : Int)))
 (.opt (fitsT (a, g, b, List.drop (Int.toNat 0) (List.take (Int.toNat f) c), (List.getD d (Int.toNat f) (0, 0)).1, h.1.1, ())) fun i =>
 (.cond (!i.1)
 (.ret (.inr (.inl (3, ()))))
 (.ret (.inl (a, b, c, d, e, IntKind.wrap .i64 (f + 1), g, ())))))
 (.no)))
 (.no))
 (.ret (.inr (.inr (a, b, c, g, ())))))
noncomputable def whyT_w0 : zT8 → Option ((Int × Unit) ⊕ ((Option zA11) × zT9)) := iterO fun x => (whyT_l0 x).run
noncomputable def whyT_l1 : ((Option zA11) × ((List zA2) × ((List (Int × Int)) × (Int × (zA10 × Unit))))) → Br (((Option zA11) × ((List zA2) × ((List (Int × Int)) × (Int × (zA10 × Unit))))) ⊕ ((Int × Unit) ⊕ ((Option zA11) × zT9))) := fun (a, b, c, d, e, ()) =>
 (.cond (decide (d < (↑(List.length c) : Int)))
 (.opt (freeT (a, e, b, c, d, ())) fun f =>
 (.cond (!f.1)
 (.ret (.inr (.inl (4, ()))))
 (.ret (.inl (a, b, c, IntKind.wrap .i64 (d + 1), e, ())))))
 (.ret (.inr (.inr (a, b, c, e, ())))))
noncomputable def whyT_w1 : ((Option zA11) × ((List zA2) × ((List (Int × Int)) × (Int × (zA10 × Unit))))) → Option ((Int × Unit) ⊕ ((Option zA11) × zT9)) := iterO fun x => (whyT_l1 x).run
noncomputable def whyT_B : ((Option zA11) × (zA10 × ((List zA2) × zA31))) → Br (Int × Unit) := fun (p0, p1, p2, p3, ()) =>
 (.cond ((↑(List.length p3) : Int) == 0)
 (.ret (1, ()))
 (.opt (orderT (p1, p2, p3, ())) fun a =>
 (.cond (!a.1)
 (.ret (2, ()))
 (.opt (whyT_w0 (p0, p2, p3, p3, (↑(List.length p3) : Int), 0, p1, ())) fun b =>
 (.sum b (fun c =>
 (.ret (c.1, ()))) (fun d =>
 (.opt (whyT_w1 (d.1, d.2.1, d.2.2.1, 1, d.2.2.2.1, ())) fun e =>
 (.sum e (fun f =>
 (.ret (f.1, ()))) (fun g =>
 (.opt (matchT (g.1, g.2.2.2.1, g.2.1, g.2.2.1, ())) fun h =>
 (.cond (!h.1)
 (.ret (5, ()))
 (.ret (0, ())))))))))))))
noncomputable def whyT : ((Option zA11) × (zA10 × ((List zA2) × zA31))) → Option (Int × Unit) := fun x => (whyT_B x).run
abbrev whyT_ins : List (Bool × Pat) := [(false, .ty true zA17), (false, .ty true zA5), (false, .ty false (.sl zA9)), (false, .ty true (.sl zA16))]
abbrev whyT_outs : List Pat := [.ty false (.int .i64)]
noncomputable abbrev whyT_f : Func := Tryz.f17
noncomputable abbrev whyT_P : Program := Tryz.prog
abbrev whyT_kp : List Nat := kpOf whyT_ins
abbrev whyT_kf : List Nat := kfOf whyT_ins
noncomputable def whyT_c : Ctx := { cx_matchT with base := 1024 }
theorem whyT_env : EnvFull whyT_P whyT_c := env_base (en_matchT) 1024
abbrev whyT_H0 : List Hole := [.slot 0 true zA17, .slot 2 false (.sl zA9), .slot 3 true (.sl zA16), .slot 24 true (.sl zA16), .slot 25 false (.int .i64), .slot 26 false (.int .i64), .tv 1029 true zA5]
def whyT_S0 : Skel := ⟨69, [(5, D.c (C.ref 1029 0 0))], [(1029, [])]⟩
abbrev whyT_H0e0 : List Hole := [.slot 8 false (.int .i64)]
def whyT_S0e0 : Skel := ⟨69, [], []⟩
abbrev whyT_H0e1 : List Hole := [.slot 0 true zA17, .slot 2 false (.sl zA9), .slot 3 true (.sl zA16), .tv 1029 true zA5]
def whyT_S0e1 : Skel := ⟨69, [(5, D.c (C.ref 1029 0 0))], [(1029, [])]⟩
def whyT_h0 : Exit → Shape
 | .normal => ⟨[(0, .as true zA17), (2, .as false (.sl zA9)), (3, .as true (.sl zA16)), (5, .keep), (24, .as true (.sl zA16)), (25, .as false (.int .i64)), (26, .as false (.int .i64))], [], [(5, true)]⟩
 | .ret => ⟨[(8, .as false (.int .i64))], [], []⟩
 | .exit 1 => ⟨[(0, .as true zA17), (2, .as false (.sl zA9)), (3, .as true (.sl zA16)), (5, .keep)], [], [(5, true)]⟩
 | _ => ⟨[], [], []⟩
def whyT_e0 : ((Int × Unit) ⊕ ((Option zA11) × zT9)) → Exit × St
 | (.inl u) => (.ret, whyT_S0e0.fillK whyT_kf whyT_H0e0 u)
 | (.inr u) => (.exit 1, whyT_S0e1.fillK whyT_kf whyT_H0e1 u)
def whyT_t0 : ((Int × Unit) ⊕ ((Option zA11) × zT9)) → Br (Exit × St) := fun z => .sum z (fun u => .ret (.ret, whyT_S0e0.fillK whyT_kf whyT_H0e0 u)) (fun u => .ret (.exit 1, whyT_S0e1.fillK whyT_kf whyT_H0e1 u))
noncomputable def whyT_C0 : Code := loopAt 0 (bodyOf whyT_f)
noncomputable def whyT_o0 : St → Br (Exit × St) := loopF whyT_kp whyT_kf 1024 (whyT_h0 .normal) (whyT_S0.parseK whyT_kf whyT_H0) fun x => .opt (whyT_w0 x) whyT_t0
abbrev whyT_H1 : List Hole := [.slot 0 true zA17, .slot 2 false (.sl zA9), .slot 3 true (.sl zA16), .slot 13 false (.int .i64), .tv 1029 true zA5]
def whyT_S1 : Skel := ⟨69, [(5, D.c (C.ref 1029 0 0))], [(1029, [])]⟩
abbrev whyT_H1e0 : List Hole := [.slot 8 false (.int .i64)]
def whyT_S1e0 : Skel := ⟨69, [], []⟩
abbrev whyT_H1e1 : List Hole := [.slot 0 true zA17, .slot 2 false (.sl zA9), .slot 3 true (.sl zA16), .tv 1029 true zA5]
def whyT_S1e1 : Skel := ⟨69, [(5, D.c (C.ref 1029 0 0))], [(1029, [])]⟩
def whyT_h1 : Exit → Shape
 | .normal => ⟨[(0, .as true zA17), (2, .as false (.sl zA9)), (3, .as true (.sl zA16)), (5, .keep), (13, .as false (.int .i64))], [], [(5, true)]⟩
 | .ret => ⟨[(8, .as false (.int .i64))], [], []⟩
 | .exit 3 => ⟨[(0, .as true zA17), (2, .as false (.sl zA9)), (3, .as true (.sl zA16)), (5, .keep)], [], [(5, true)]⟩
 | _ => ⟨[], [], []⟩
def whyT_e1 : ((Int × Unit) ⊕ ((Option zA11) × zT9)) → Exit × St
 | (.inl u) => (.ret, whyT_S1e0.fillK whyT_kf whyT_H1e0 u)
 | (.inr u) => (.exit 3, whyT_S1e1.fillK whyT_kf whyT_H1e1 u)
def whyT_t1 : ((Int × Unit) ⊕ ((Option zA11) × zT9)) → Br (Exit × St) := fun z => .sum z (fun u => .ret (.ret, whyT_S1e0.fillK whyT_kf whyT_H1e0 u)) (fun u => .ret (.exit 3, whyT_S1e1.fillK whyT_kf whyT_H1e1 u))
noncomputable def whyT_C1 : Code := loopAt 1 (bodyOf whyT_f)
noncomputable def whyT_o1 : St → Br (Exit × St) := loopF whyT_kp whyT_kf 1024 (whyT_h1 .normal) (whyT_S1.parseK whyT_kf whyT_H1) fun x => .opt (whyT_w1 x) whyT_t1
noncomputable def whyT_p : Par := { sh := fun _ => none, k := 0, lo := fun i => bif Nat.beq i 6 then some whyT_o0 else bif Nat.beq i 13 then some whyT_o1 else none }
theorem whyT_r0 (a : (Option zA11)) (b : (List zA2)) (c : (List (Int × Int))) (d : (List (Int × Int))) (e : Int) (f : Int) (g : zA10) : roundF whyT_kp whyT_kf whyT_c whyT_p whyT_h0 whyT_C0 (whyT_S0.fillK whyT_kf whyT_H0 (a, b, c, d, e, f, g, ())) = (whyT_l0 (a, b, c, d, e, f, g, ())).bind (loopLeaf (fun x => whyT_S0.fillK whyT_kf whyT_H0 x) whyT_e0) := by kernel_rfl
theorem whyT_ok0 (g : Cfg) (hg : ∀ n, Go.PI.look n g.m0 ≠ Option.none → n ∈ whyT_kp) : LoopOk whyT_P g whyT_o0 whyT_C0 := LoopOk.auto whyT_env hg whyT_p (LoOk.of (l := []) (by kernel_rfl) .nil) whyT_h0 (fun x => whyT_S0.fillK whyT_kf whyT_H0 x) (fun s x h => Skel.parseK_ok s x h) whyT_l0 whyT_e0 (fun z h => by rcases z with z | z <;> cases h) whyT_t0 (fun z => by rcases z with z | z <;> rfl) (fun (a, b, c, d, e, f, i, ()) => whyT_r0 a b c d e f i)
theorem whyT_r1 (a : (Option zA11)) (b : (List zA2)) (c : (List (Int × Int))) (d : Int) (e : zA10) : roundF whyT_kp whyT_kf whyT_c whyT_p whyT_h1 whyT_C1 (whyT_S1.fillK whyT_kf whyT_H1 (a, b, c, d, e, ())) = (whyT_l1 (a, b, c, d, e, ())).bind (loopLeaf (fun x => whyT_S1.fillK whyT_kf whyT_H1 x) whyT_e1) := by kernel_rfl
theorem whyT_ok1 (g : Cfg) (hg : ∀ n, Go.PI.look n g.m0 ≠ Option.none → n ∈ whyT_kp) : LoopOk whyT_P g whyT_o1 whyT_C1 := LoopOk.auto whyT_env hg whyT_p (LoOk.of (l := []) (by kernel_rfl) .nil) whyT_h1 (fun x => whyT_S1.fillK whyT_kf whyT_H1 x) (fun s x h => Skel.parseK_ok s x h) whyT_l1 whyT_e1 (fun z h => by rcases z with z | z <;> cases h) whyT_t1 (fun z => by rcases z with z | z <;> rfl) (fun (a, b, c, d, e, ()) => whyT_r1 a b c d e)
theorem whyT_eq (p0 : (Option zA11)) (p1 : zA10) (p2 : (List zA2)) (p3 : (List (Int × Int))) : ocRun whyT_c whyT_p whyT_f whyT_ins whyT_outs (p0, p1, p2, p3, ()) = whyT_B (p0, p1, p2, p3, ()) := by kernel_rfl
theorem whyT_oc : OC whyT_P 17 whyT_ins whyT_outs whyT := OC.of_tree whyT_env Tryz.func17 (by kernel_rfl) (by kernel_rfl) (p := whyT_p) (fun g hg => LoOk.of (l := [whyT_C0, whyT_C1]) (by kernel_rfl) (.cons (whyT_ok0 g hg) (by kernel_rfl) (.cons (whyT_ok1 g hg) (by kernel_rfl) .nil))) (fun (p0, p1, p2, p3, ()) => whyT_eq p0 p1 p2 p3)
noncomputable def cx_whyT : Ctx := addO cx_matchT 17 (ocOrc whyT_ins whyT_outs whyT)
theorem en_whyT : EnvFull Tryz.prog cx_whyT := env_add (en_matchT) whyT_oc.callOk
end Go.Proofs.YtiblijkhpmemeaaGreat
