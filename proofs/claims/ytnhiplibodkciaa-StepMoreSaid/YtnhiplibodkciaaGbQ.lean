/- Parts that the statements of guards and of steps share: trees, queries' parts, events. -/
import Derived.Test.YtnhiplibodkciaaGbB
import Derived.Test.YtnhiplibodkciaaR7a
namespace Go.Proofs.Ytnhiplibodkciaa
open Go.PI Go

abbrev evZ : Evt := (ByteArray.empty, ByteArray.empty, 0, 0, [])
theorem mkE_len (k : Int) (key : ByteArray) (t n : Int) (s : ByteArray) (b : Bool) : (mkE k key t n s b).2.2.2.2.length ≤ 3 := by
  unfold mkE
  dsimp only
  split <;> simp
abbrev run0 : RunT := (0, [], [], 0, (0, 0, 0), false)
def BT {α : Type} (P : α → Prop) (b : Br α) : Prop := ∃ y, b.run = some y ∧ P y
theorem BT.ret {α : Type} {P : α → Prop} {y : α} (h : P y) : BT P (.ret y) := ⟨y, rfl, h⟩
theorem BT.fls {α : Type} {P : α → Prop} {a b : Br α} (h : BT P b) : BT P (.cond false a b) := h
theorem BT.yes {α : Type} {P : α → Prop} {c : Bool} {a : Br α} (hc : c = true) (h : BT P a) : BT P (.cond c a .no) := by subst hc; exact h
theorem BT.cond {α : Type} {P : α → Prop} {c : Bool} {a b : Br α} (h : c = true → BT P a) (k : c = false → BT P b) : BT P (.cond c a b) := by
  cases c
  · exact k rfl
  · exact h rfl
theorem BT.opt {α β : Type} {P : α → Prop} {o : Option β} {k : β → Br α} (h : ∃ v, o = some v ∧ BT P (k v)) : BT P (.opt o k) := by
  obtain ⟨v, rfl, h⟩ := h
  exact h

theorem typesQ_tot (m : Int) (h : 0 ≤ m) : ∃ l, typesQ (m, ()) = some (l, ()) ∧ l.length ≤ 1000 := by
  have h1 := Int.tmod_nonneg 6 h
  have h2 := Int.tmod_lt_of_pos m (show (0 : Int) < 6 by decide)
  unfold typesQ typesQ_B
  simp only [Br.run, cond_false]
  generalize Int.tmod m 6 = k at h1 h2
  obtain rfl | rfl | rfl | rfl | rfl | rfl : k = 0 ∨ k = 1 ∨ k = 2 ∨ k = 3 ∨ k = 4 ∨ k = 5 := by omega
  all_goals exact ⟨_, rfl, by decide⟩

theorem predQ_tot (x : Int) (v o : ByteArray) : ∃ l, predQ (x, v, o, ()) = some (l, ()) := by
  unfold predQ predQ_B fieldQ fieldQ_B numQ numQ_B
  simp only [Br.run, cond_false, cond_eq_ite, Bool.false_eq_true, ↓reduceIte]
  repeat' split
  all_goals exact ⟨_, rfl⟩

theorem varsQ_at : varsQ () = some ([{ data := #[97] }, { data := #[98] }, { data := #[99] }, { data := #[101] }], ()) := rfl

end Go.Proofs.Ytnhiplibodkciaa
