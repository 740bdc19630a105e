/- Blocks of cells: stores. -/
import Derived.Test.YtnhiplibodkciaaChA
namespace Go.Proofs.Ytnhiplibodkciaa
open Go.RowKit Go.Shelf Go
variable {P : Program}

/-- A block of cells. -/
def Blk (W : World) (B : Nat) (t : TypeId) (cur : Array Value) : Prop := W.heap[B]? = some (.cells cur t (0, 0))
theorem Blk.lt {W : World} {B : Nat} {t : TypeId} {cur : Array Value} (h : Blk W B t cur) : B < W.heap.size := (Array.getElem?_eq_some_iff.1 h).1
theorem Blk.kept {W W' : World} {row : Option Nat} {B : Nat} {t : TypeId} {cur : Array Value} (h : Blk W B t cur) (hg : W.grownBy W' row) (hne : some B ≠ row) : Blk W' B t cur := (hg.block B h.lt hne).trans h
theorem Blk.alloc {W : World} {B : Nat} {t : TypeId} {cur : Array Value} (h : Blk W B t cur) (o : Obj) : Blk (W.alloc o) B t cur := h.kept (World.grownBy_alloc W o none) (by simp)
theorem Blk.new (W : World) (t : TypeId) (cur : Array Value) : Blk (W.alloc (.cells cur t)) W.heap.size t cur := World.alloc_heap_new W _
theorem Blk.cell {W : World} {B : Nat} {t : TypeId} {cur : Array Value} (h : Blk W B t cur) (j : Nat) : W.cell? ⟨B, j, none⟩ = cur[j]? := by simp [World.cell?, show W.heap[B]? = _ from h]
theorem Blk.frozen {W : World} {B : Nat} {t : TypeId} {cur : Array Value} (h : Blk W B t cur) (j : Nat) : W.frozen? ⟨B, j, none⟩ = false := by simp [World.frozen?, show W.heap[B]? = _ from h]
theorem Blk.own {β : Type} (B : Nat) (t : TypeId) (p : β → Array Value → Prop) : Own (fun s W => ∃ cur, Blk W B t cur ∧ p s cur) := fun s X Y row ⟨cur, hs, hp⟩ hg hrow =>
  ⟨cur, hs.kept hg (fun e => by
    obtain ⟨o, ho, hc⟩ := hrow B e.symm
    rw [show X.heap[B]? = _ from hs] at ho
    cases ho
    cases hc), hp⟩
theorem Blk.set {W : World} {B : Nat} {t : TypeId} {cur : Array Value} (h : Blk W B t cur) (o : Nat) (v : Value) : Blk (W.setCell ⟨B, o, none⟩ v) B t (cur.setIfInBounds o v) := by
  obtain ⟨hlt, hk⟩ := Array.getElem?_eq_some_iff.1 h
  show (W.heap.modify B _)[B]? = _
  rw [Array.getElem?_eq_getElem (by rw [Array.size_modify]; exact hlt), Array.getElem_modify_self, hk]
  rfl
theorem grownBy_setCell2 (W : World) (b o : Nat) (v : Value) : W.grownBy (W.setCell ⟨b, o, none⟩ v) (some b) :=
  ⟨rfl, rfl, rfl, (KeepsWalks.setCell W _ v).size, fun k _ hk => Below.heap_setCell _ _ _ k (fun e => hk (by rw [e]))⟩
theorem Blk.store {W : World} {B : Nat} {t : TypeId} {cur : Array Value} (h : Blk W B t cur) {o : Nat} (ho : o < cur.size) {v : Value} (hv : v.oneCell' = true) : (store ⟨B, o, none⟩ v).run P W = .ok () (W.setCell ⟨B, o, none⟩ v) := by
  rw [run_store P W _ v _ hv]
  have h1 := h.cell o
  rw [Array.getElem?_eq_getElem ho] at h1
  have h2 := h.frozen o
  simp only [stored, h1, h2]
  rfl

theorem grown_trans {A B C : World} {row : Option Nat} (h : A.grownBy B row) (k : B.grownBy C row) : A.grownBy C row :=
  ⟨k.os.trans h.os, k.tape.trans h.tape, k.output.trans h.output, Nat.le_trans h.size k.size, fun i hi hr => (k.block i (Nat.lt_of_lt_of_le hi h.size) hr).trans (h.block i hi hr)⟩

/-- Six cells at once. -/
def set6 (cur : Array Value) (o : Nat) (c0 c1 c2 c3 c4 c5 : Value) : Array Value := (((((cur.setIfInBounds o c0).setIfInBounds (o + 1) c1).setIfInBounds (o + 2) c2).setIfInBounds (o + 3) c3).setIfInBounds (o + 4) c4).setIfInBounds (o + 5) c5
theorem set6_size (cur : Array Value) (o : Nat) (c0 c1 c2 c3 c4 c5 : Value) : (set6 cur o c0 c1 c2 c3 c4 c5).size = cur.size := by simp [set6]
theorem set6_get (cur : Array Value) (o : Nat) (c0 c1 c2 c3 c4 c5 : Value) (h : o + 5 < cur.size) (j : Nat) : (set6 cur o c0 c1 c2 c3 c4 c5)[j]? = if j < o then cur[j]? else if j < o + 6 then [c0, c1, c2, c3, c4, c5][j - o]? else cur[j]? := by
  unfold set6
  simp only [Array.getElem?_setIfInBounds, Array.size_setIfInBounds]
  by_cases h1 : j < o
  · rw [if_pos h1, if_neg (by omega), if_neg (by omega), if_neg (by omega), if_neg (by omega), if_neg (by omega), if_neg (by omega)]
  rw [if_neg h1]
  by_cases h2 : j < o + 6
  · rw [if_pos h2]
    obtain ⟨d, rfl⟩ : ∃ d, j = o + d := ⟨j - o, by omega⟩
    have hd : d = 0 ∨ d = 1 ∨ d = 2 ∨ d = 3 ∨ d = 4 ∨ d = 5 := by omega
    have e : o + d - o = d := by omega
    rw [e]
    rcases hd with rfl | rfl | rfl | rfl | rfl | rfl <;> simp <;> omega
  · rw [if_neg h2, if_neg (by omega), if_neg (by omega), if_neg (by omega), if_neg (by omega), if_neg (by omega), if_neg (by omega)]

theorem Blk.store6 {W : World} {B : Nat} {t : TypeId} {cur : Array Value} (h : Blk W B t cur) {o : Nat} (ho : o + 5 < cur.size) {c0 c1 c2 c3 c4 c5 : Value} (ok : ∀ u ∈ [c0, c1, c2, c3, c4, c5], u.oneCell' = true) :
    ∃ W', ((Go.store ⟨B, o, none⟩ c0).run P W).andThen (fun _ w' => ((Go.store ⟨B, o + 1, none⟩ c1).run P w').andThen fun _ w' => ((Go.store ⟨B, o + 2, none⟩ c2).run P w').andThen fun _ w' => ((Go.store ⟨B, o + 3, none⟩ c3).run P w').andThen fun _ w' => ((Go.store ⟨B, o + 4, none⟩ c4).run P w').andThen fun _ w' => (Go.store ⟨B, o + 5, none⟩ c5).run P w') = Result.ok () W' ∧
      Blk W' B t (set6 cur o c0 c1 c2 c3 c4 c5) ∧ W.grownBy W' (some B) ∧ KeepsOthers W W' ∧ (∀ n₀, n₀ ≤ B → Below n₀ W W') := by
  have s1 := h.set o c0
  have s2 := s1.set (o + 1) c1
  have s3 := s2.set (o + 2) c2
  have s4 := s3.set (o + 3) c3
  have s5 := s4.set (o + 4) c4
  have s6 := s5.set (o + 5) c5
  refine ⟨_, ?_, s6, ?_, ?_, ?_⟩
  · rw [h.store (by omega) (ok _ (by simp))]
    simp only [Result.andThen_ok]
    rw [s1.store (by simp; omega) (ok _ (by simp))]
    simp only [Result.andThen_ok]
    rw [s2.store (by simp; omega) (ok _ (by simp))]
    simp only [Result.andThen_ok]
    rw [s3.store (by simp; omega) (ok _ (by simp))]
    simp only [Result.andThen_ok]
    rw [s4.store (by simp; omega) (ok _ (by simp))]
    simp only [Result.andThen_ok]
    rw [s5.store (by simp; omega) (ok _ (by simp))]
  · exact grown_trans (grown_trans (grown_trans (grown_trans (grown_trans (grownBy_setCell2 _ _ _ _) (grownBy_setCell2 _ _ _ _)) (grownBy_setCell2 _ _ _ _)) (grownBy_setCell2 _ _ _ _)) (grownBy_setCell2 _ _ _ _)) (grownBy_setCell2 _ _ _ _)
  · exact (((((KeepsOthers.setCell _ _ _).trans (KeepsOthers.setCell _ _ _)).trans (KeepsOthers.setCell _ _ _)).trans (KeepsOthers.setCell _ _ _)).trans (KeepsOthers.setCell _ _ _)).trans (KeepsOthers.setCell _ _ _)
  · intro n₀ hn
    exact ((((((Below.refl n₀ W).setCell (p := ⟨B, o, none⟩) hn _).setCell (p := ⟨B, o + 1, none⟩) hn _).setCell (p := ⟨B, o + 2, none⟩) hn _).setCell (p := ⟨B, o + 3, none⟩) hn _).setCell (p := ⟨B, o + 4, none⟩) hn _).setCell (p := ⟨B, o + 5, none⟩) hn _
end Go.Proofs.Ytnhiplibodkciaa
