/- Queries that are made: of one to four elements. -/
import Derived.Test.YtnhiplibodkciaaGbD
namespace Go.Proofs.Ytnhiplibodkciaa
open Go.PI Go

def BT {α : Type} (P : α → Prop) (b : Br α) : Prop := ∃ y, b.run = some y ∧ P y
theorem BT.ret {α : Type} {P : α → Prop} {y : α} (h : P y) : BT P (.ret y) := ⟨y, rfl, h⟩
theorem BT.fls {α : Type} {P : α → Prop} {a b : Br α} (h : BT P b) : BT P (.cond false a b) := h
theorem BT.yes {α : Type} {P : α → Prop} {c : Bool} {a : Br α} (hc : c = true) (h : BT P a) : BT P (.cond c a .no) := by subst hc; exact h
theorem BT.cond {α : Type} {P : α → Prop} {c : Bool} {a b : Br α} (h : c = true → BT P a) (k : c = false → BT P b) : BT P (.cond c a b) := by
  cases c
  · exact k rfl
  · exact h rfl
theorem BT.opt {α β : Type} {P : α → Prop} {o : Option β} {k : β → Br α} (h : ∃ v, o = some v ∧ BT P (k v)) : BT P (.opt o k) := by
  obtain ⟨v, rfl, h⟩ := h
  exact h

theorem typesQ_tot (m : Int) (h : 0 ≤ m) : ∃ l, typesQ (m, ()) = some (l, ()) ∧ l.length ≤ 1000 := by
  have h1 := Int.tmod_nonneg 6 h
  have h2 := Int.tmod_lt_of_pos m (show (0 : Int) < 6 by decide)
  unfold typesQ typesQ_B
  simp only [Br.run, cond_false]
  generalize Int.tmod m 6 = k at h1 h2
  obtain rfl | rfl | rfl | rfl | rfl | rfl : k = 0 ∨ k = 1 ∨ k = 2 ∨ k = 3 ∨ k = 4 ∨ k = 5 := by omega
  all_goals exact ⟨_, rfl, by decide⟩

theorem predQ_tot (x : Int) (v o : ByteArray) : ∃ l, predQ (x, v, o, ()) = some (l, ()) := by
  unfold predQ predQ_B fieldQ fieldQ_B numQ numQ_B
  simp only [Br.run, cond_false, cond_eq_ite, Bool.false_eq_true, ↓reduceIte]
  repeat' split
  all_goals exact ⟨_, rfl⟩

theorem varsQ_at : varsQ () = some ([{ data := #[97] }, { data := #[98] }, { data := #[99] }, { data := #[101] }], ()) := rfl

set_option maxHeartbeats 4000000 in
set_option maxRecDepth 10000 in
theorem queryQ_step (p : List Int) (n i c1 c2 : Int) (acc : List Elm) (h0 : 0 ≤ i) (h1 : i < n) (hn : n ≤ 4) (ha : (acc.length : Int) = i) :
    BT (fun y => ∃ e : Elm, y = .inl (p, n, i + 1, c1, c2, acc ++ [e], ()) ∧ e.2.1.length ≤ 1000) (queryQ_l0 (p, n, i, c1, c2, acc, ())) := by
  have hw : IntKind.wrap .i64 (i + 1) = i + 1 := Go.PI.wrap_small (by omega) (by omega)
  have hw37 : IntKind.wrap .i64 (i * 37) = i * 37 := Go.PI.wrap_small (by omega) (by omega)
  have hx := mask_in (List.getD p (Int.toNat (i + 1)) 0) 16777215 (by decide) (by decide)
  unfold queryQ_l0
  dsimp only
  rw [hw, hw37]
  generalize IntKind.wrap IntKind.i64 (↑(BitVec.toNat (BitVec.ofInt (IntKind.bits IntKind.i64) (List.getD p (Int.toNat (i + 1)) 0) &&& BitVec.ofInt (IntKind.bits IntKind.i64) 16777215)) : Int) = x at hx ⊢
  obtain ⟨tx, htx, ltx⟩ := typesQ_tot x hx.1
  obtain ⟨ty, hty, lty⟩ := typesQ_tot (i * 37) (by omega)
  have bnd : (acc.length + 1) * 88 ≤ 140737488355328 := by omega
  have hv4 : (decide (0 ≤ i) && decide (i < (4 : Int))) = true := by simp; omega
  rw [show (decide (i < n)) = true from decide_eq_true h1]
  refine BT.cond (fun _ => ?_) (fun h => by cases h)
  refine BT.cond (fun hlt => ?_) (fun _ => ?_)
  · refine BT.yes (by simp only [decide_eq_true_eq] at hlt; simp; omega) (BT.opt ⟨_, varsQ_at, ?_⟩)
    refine BT.yes hv4 (BT.opt ⟨_, htx, ?_⟩)
    repeat' first
      | exact BT.ret ⟨_, rfl, ltx⟩
      | with_reducible refine BT.fls ?_
      | (with_reducible refine BT.yes ?_ ?_; exact decide_eq_true bnd)
      | (with_reducible refine BT.yes ?_ ?_; (simp only [beq_eq_false_iff_ne] at *; simp; omega))
      | (with_reducible refine BT.opt ?_; refine (predQ_tot _ _ _).elim fun l hl => ⟨_, hl, ?_⟩)
      | (with_reducible refine BT.cond (fun _ => ?_) (fun _ => ?_))
  · refine BT.opt ⟨_, varsQ_at, ?_⟩
    refine BT.yes hv4 (BT.opt ⟨_, hty, ?_⟩)
    repeat' first
      | exact BT.ret ⟨_, rfl, lty⟩
      | with_reducible refine BT.fls ?_
      | (with_reducible refine BT.yes ?_ ?_; exact decide_eq_true bnd)
      | (with_reducible refine BT.yes ?_ ?_; (simp only [beq_eq_false_iff_ne] at *; simp; omega))
      | (with_reducible refine BT.opt ?_; refine (predQ_tot _ _ _).elim fun l hl => ⟨_, hl, ?_⟩)
      | (with_reducible refine BT.cond (fun _ => ?_) (fun _ => ?_))
end Go.Proofs.Ytnhiplibodkciaa
