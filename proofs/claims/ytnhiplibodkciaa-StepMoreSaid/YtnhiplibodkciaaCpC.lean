/- Blocks of cells: two stores at once. -/
import Derived.Test.YtnhiplibodkciaaChC
import Derived.Test.YtnhiplibodkciaaCpA
namespace Go.Proofs.Ytnhiplibodkciaa
open Go.RowKit Go.Shelf Go
variable {P : Program}

/-- Two cells at once. -/
def set2 (cur : Array Value) (o : Nat) (c0 c1 : Value) : Array Value := (cur.setIfInBounds o c0).setIfInBounds (o + 1) c1
theorem set2_size (cur : Array Value) (o : Nat) (c0 c1 : Value) : (set2 cur o c0 c1).size = cur.size := by simp [set2]
theorem set2_get (cur : Array Value) (o : Nat) (c0 c1 : Value) (h : o + 1 < cur.size) (j : Nat) : (set2 cur o c0 c1)[j]? = if j < o then cur[j]? else if j < o + 2 then [c0, c1][j - o]? else cur[j]? := by
  unfold set2
  simp only [Array.getElem?_setIfInBounds, Array.size_setIfInBounds]
  by_cases h1 : j < o
  · rw [if_pos h1, if_neg (by omega), if_neg (by omega)]
  rw [if_neg h1]
  by_cases h2 : j < o + 2
  · rw [if_pos h2]
    obtain ⟨d, rfl⟩ : ∃ d, j = o + d := ⟨j - o, by omega⟩
    have hd : d = 0 ∨ d = 1 := by omega
    have e : o + d - o = d := by omega
    rw [e]
    rcases hd with rfl | rfl <;> simp <;> omega
  · rw [if_neg h2, if_neg (by omega), if_neg (by omega)]

theorem Blk.store2 {W : World} {B : Nat} {t : TypeId} {cur : Array Value} (h : Blk W B t cur) {o : Nat} (ho : o + 1 < cur.size) {c0 c1 : Value} (ok : ∀ u ∈ [c0, c1], u.oneCell' = true) :
    ∃ W', ((Go.store ⟨B, o, none⟩ c0).run P W).andThen (fun _ w' => (Go.store ⟨B, o + 1, none⟩ c1).run P w') = Result.ok () W' ∧
      Blk W' B t (set2 cur o c0 c1) ∧ W.grownBy W' (some B) ∧ KeepsOthers W W' ∧ (∀ n₀, n₀ ≤ B → Below n₀ W W') := by
  have s1 := h.set o c0
  have s2 := s1.set (o + 1) c1
  refine ⟨_, ?_, s2, ?_, ?_, ?_⟩
  · rw [h.store (by omega) (ok _ (by simp))]
    simp only [Result.andThen_ok]
    rw [s1.store (by simp; omega) (ok _ (by simp))]
  · exact grown_trans (grownBy_setCell2 _ _ _ _) (grownBy_setCell2 _ _ _ _)
  · exact (KeepsOthers.setCell _ _ _).trans (KeepsOthers.setCell _ _ _)
  · intro n₀ hn
    exact ((Below.refl n₀ W).setCell (p := ⟨B, o, none⟩) hn _).setCell (p := ⟨B, o + 1, none⟩) hn _
end Go.Proofs.Ytnhiplibodkciaa
