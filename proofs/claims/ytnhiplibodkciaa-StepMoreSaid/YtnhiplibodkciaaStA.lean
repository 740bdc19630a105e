/- Patterns: the next element that must be there; a query's copy is it; the last. -/
import Derived.Test.YtnhiplibodkciaaQyA
import Derived.Test.YtnhiplibodkciaaS1a
namespace Go.Proofs.Ytnhiplibodkciaa
open Go.PI Go

abbrev eZ' : Elm := (ByteArray.empty, [], false, 0, 0, [])
theorem getD_lt {α : Type} (l : List α) (i : Nat) (d : α) (h : i < l.length) : l.getD i d = l[i] := by simp [List.getD, h]

/-- What comes next, from a place on. -/
theorem nextQ_w0_at (q : Qry) (hq : q.1.length ≤ 100) (k i : Int) (hk : k < q.1.length) (h0 : 0 ≤ i) (h1 : i ≤ q.1.length) (h2 : k < i) :
    ∃ z, nextQ_w0 (k, i, q, ()) = some z ∧ ((∃ j : Int, z = .inl (j, ()) ∧ k < j ∧ 0 ≤ j ∧ j < q.1.length ∧ (q.1.getD j.toNat eZ').2.2.1 = false) ∨ (z = .inr () ∧ ∀ j : Int, i ≤ j → j < q.1.length → (q.1.getD j.toNat eZ').2.2.1 = true)) := by
  refine iterO_rec (step := fun x => (nextQ_l0 x).run) (Q := fun y z => (∃ j : Int, z = .inl (j, ()) ∧ k < j ∧ 0 ≤ j ∧ j < q.1.length ∧ (q.1.getD j.toNat eZ').2.2.1 = false) ∨ (z = .inr () ∧ ∀ j : Int, y.2.1 ≤ j → j < q.1.length → (q.1.getD j.toNat eZ').2.2.1 = true))
    (fun y => y.1 = k ∧ y.2.2.1 = q ∧ 0 ≤ y.2.1 ∧ y.2.1 ≤ q.1.length ∧ k < y.2.1) (fun y => ((q.1.length : Int) - y.2.1).toNat) ?_ _ ⟨rfl, rfl, h0, h1, h2⟩
  rintro ⟨k', i, q', ⟨⟩⟩ hx
  dsimp only at hx ⊢
  obtain ⟨rfl, rfl, h0, h1, h2⟩ := hx
  unfold nextQ_l0
  by_cases hi : i < (q'.1.length : Int)
  · have hw : IntKind.wrap .i64 (i + 1) = i + 1 := Go.PI.wrap_small (by omega) (by omega)
    simp only [Br.run, decide_eq_true hi, decide_eq_true hk, decide_eq_true h0, Bool.and_self, cond_true, hw, cond_eq_ite]
    by_cases hc : (q'.1.getD i.toNat eZ').2.2.1 = true
    · simp only [hc, Bool.not_true, Bool.false_eq_true, ↓reduceIte]
      refine .inl ⟨_, rfl, ⟨rfl, rfl, by dsimp only; omega, by dsimp only; omega, by dsimp only; omega⟩, by dsimp only; omega, fun z hz => ?_⟩
      rcases hz with hz | ⟨rfl, hz⟩
      · exact .inl hz
      · refine .inr ⟨rfl, fun j h3 h4 => ?_⟩
        by_cases e : j = i
        · rw [e]; exact hc
        · exact hz j (by dsimp only; omega) h4
    · simp only [Bool.not_eq_true] at hc
      simp only [hc, Bool.not_false, ↓reduceIte]
      exact .inr ⟨_, rfl, .inl ⟨i, rfl, h2, h0, hi, hc⟩⟩
  · simp only [Br.run, decide_eq_false hi, cond_false]
    exact .inr ⟨_, rfl, .inr ⟨rfl, fun j h3 h4 => by omega⟩⟩

theorem nextQ_at (q : Qry) (hq : q.1.length ≤ 100) (k : Int) (hk : k < q.1.length) (hk0 : -1 ≤ k) :
    ∃ j : Int, nextQ (q, k, ()) = some (j, ()) ∧ ((k < j ∧ 0 ≤ j ∧ j < q.1.length ∧ (q.1.getD j.toNat eZ').2.2.1 = false) ∨ (j = -1 ∧ ∀ i : Int, k < i → i < q.1.length → (q.1.getD i.toNat eZ').2.2.1 = true)) := by
  unfold nextQ nextQ_B
  have hw : IntKind.wrap .i64 (k + 1) = k + 1 := Go.PI.wrap_small (by omega) (by omega)
  have hn : ¬ (k + 1 < 0) := by omega
  dsimp only
  rw [hw, if_neg hn]
  obtain ⟨z, hz, h⟩ := nextQ_w0_at q hq k (k + 1) hk (by omega) (by omega) (by omega)
  simp only [Br.run, hz]
  rcases h with ⟨j, rfl, h1, h2, h3, h4⟩ | ⟨rfl, h⟩
  · exact ⟨j, rfl, .inl ⟨h1, h2, h3, h4⟩⟩
  · exact ⟨-1, rfl, .inr ⟨rfl, fun i h1 h2 => h i (by omega) h2⟩⟩

theorem lastQ_w0_tot (q : Qry) (hq : q.1.length ≤ 100) (i : Int) (h0 : -1 ≤ i) (h1 : i < q.1.length) : ∃ z, lastQ_w0 (i, q, ()) = some z ∧ True := by
  refine iterO_rec (step := fun x => (lastQ_l0 x).run) (Q := fun _ _ => True) (fun y => y.2.1 = q ∧ -1 ≤ y.1 ∧ y.1 < q.1.length) (fun y => (y.1 + 1).toNat) ?_ _ ⟨rfl, h0, h1⟩
  rintro ⟨i, q', ⟨⟩⟩ hx
  dsimp only at hx ⊢
  obtain ⟨rfl, h0, h1⟩ := hx
  unfold lastQ_l0
  by_cases hi : i ≥ 0
  · have hw : IntKind.wrap .i64 (i - 1) = i - 1 := Go.PI.wrap_small (by omega) (by omega)
    have h0' : (0 : Int) ≤ i := hi
    simp only [Br.run, decide_eq_true hi, decide_eq_true h0', decide_eq_true h1, Bool.and_self, cond_true, hw, cond_eq_ite]
    cases hc : (q'.1.getD i.toNat (ByteArray.empty, [], false, 0, 0, [])).2.2.1
    · simp only [Bool.not_false, ↓reduceIte]
      exact .inr ⟨_, rfl, trivial⟩
    · simp only [Bool.not_true, Bool.false_eq_true, ↓reduceIte]
      exact .inl ⟨_, rfl, ⟨rfl, by dsimp only; omega, by dsimp only; omega⟩, by dsimp only; omega, fun z hz => hz⟩
  · simp only [Br.run, decide_eq_false hi, cond_false]
    exact .inr ⟨_, rfl, trivial⟩
theorem lastQ_tot (q : Qry) (hq : q.1.length ≤ 100) : ∃ j : Int, lastQ (q, ()) = some (j, ()) := by
  unfold lastQ lastQ_B
  have hw : IntKind.wrap .i64 ((q.1.length : Int) - 1) = (q.1.length : Int) - 1 := Go.PI.wrap_small (by omega) (by omega)
  dsimp only
  rw [hw]
  obtain ⟨z, hz, -⟩ := lastQ_w0_tot q hq ((q.1.length : Int) - 1) (by omega) (by omega)
  simp only [Br.run, hz]
  cases z <;> exact ⟨_, rfl⟩

/-- A query whose predicates, too, are of few parts. -/
def QFew (q : Qry) : Prop := q.1.length ≤ 100 ∧ ∀ e ∈ q.1, e.2.1.length ≤ 1000 ∧ e.2.2.2.2.2.length ≤ 1000
theorem set_self {α : Type} (l : List α) (i : Nat) (d x : α) (h : i < l.length) (hx : x = l.getD i d) : l.set i x = l := by
  subst hx
  rw [getD_lt l i d h, List.set_getElem_self]

theorem copyQ_w0_at (l : List Elm) (hl : l.length ≤ 100) (hf : ∀ e ∈ l, e.2.1.length ≤ 1000 ∧ e.2.2.2.2.2.length ≤ 1000) (a b c d i : Int) (h0 : 0 ≤ i) (h1 : i ≤ l.length) :
    copyQ_w0 ((l.length : Int), i, a, b, c, d, l, ()) = some (a, b, c, d, l, ()) ∨ ∃ c' d', copyQ_w0 ((l.length : Int), i, a, b, c, d, l, ()) = some (a, b, c', d', l, ()) := by
  suffices h : ∃ z, copyQ_w0 ((l.length : Int), i, a, b, c, d, l, ()) = some z ∧ ∃ c' d', z = (a, b, c', d', l, ()) by
    obtain ⟨z, h, c', d', rfl⟩ := h
    exact .inr ⟨c', d', h⟩
  refine iterO_rec (step := fun x => (copyQ_l0 x).run) (Q := fun y z => ∃ c' d', z = (a, b, c', d', l, ())) (fun y => y.1 = (l.length : Int) ∧ 0 ≤ y.2.1 ∧ y.2.1 ≤ l.length ∧ y.2.2.1 = a ∧ y.2.2.2.1 = b ∧ y.2.2.2.2.2.2.1 = l) (fun y => ((l.length : Int) - y.2.1).toNat) ?_ _ ⟨rfl, h0, h1, rfl, rfl, rfl⟩
  rintro ⟨n, i, a', b', c', d', l', ⟨⟩⟩ hx
  dsimp only at hx ⊢
  obtain ⟨rfl, h0, h1, rfl, rfl, rfl⟩ := hx
  unfold copyQ_l0
  by_cases hi : i < (l'.length : Int)
  · have hw : IntKind.wrap .i64 (i + 1) = i + 1 := Go.PI.wrap_small (by omega) (by omega)
    have hlt : i.toNat < l'.length := by omega
    have hm : l'.getD i.toNat eZ' ∈ l' := by rw [getD_lt l' _ _ hlt]; exact List.getElem_mem hlt
    have hb1 : bound (0 + (l'.getD i.toNat eZ').2.1.length) 16 = true := by have := (hf _ hm).1; unfold bound; exact decide_eq_true (by omega)
    have hb2 : bound (0 + (l'.getD i.toNat eZ').2.2.2.2.2.length) 80 = true := by have := (hf _ hm).2; unfold bound; exact decide_eq_true (by omega)
    simp only [Br.run, decide_eq_true hi, decide_eq_true h0, Bool.and_self, cond_true, hw, cloneStrs, cloneNodes, hb1, hb2]
    have e1 : l'.set i.toNat ((l'.getD i.toNat eZ').1, (l'.getD i.toNat eZ').2.1, (l'.getD i.toNat eZ').2.2) = l' := set_self _ _ eZ' _ hlt rfl
    refine .inl ⟨_, rfl, ⟨rfl, by dsimp only; omega, by dsimp only; omega, rfl, rfl, ?_⟩, by dsimp only; omega, fun z hz => hz⟩
    dsimp only
    rw [e1]
    exact set_self _ _ eZ' _ hlt rfl
  · simp only [Br.run, decide_eq_false hi, cond_false]
    exact .inr ⟨_, rfl, _, _, rfl⟩
theorem copyQ_at {q : Qry} (h : QFew q) : copyQ (q, ()) = some (q, ()) := by
  unfold copyQ copyQ_B cloneElem
  have hb : bound (0 + q.1.length) 88 = true := by have := h.1; unfold bound; exact decide_eq_true (by omega)
  obtain ⟨c', d', hz⟩ : ∃ c' d', copyQ_w0 ((q.1.length : Int), 0, q.2.1, q.2.2, 0, 0, q.1, ()) = some (q.2.1, q.2.2, c', d', q.1, ()) := by
    rcases copyQ_w0_at q.1 h.1 h.2 q.2.1 q.2.2 0 0 0 (by omega) (by omega) with h | h
    · exact ⟨_, _, h⟩
    · exact h
  simp only [Br.run, hb, cond_true, hz]
end Go.Proofs.Ytnhiplibodkciaa
