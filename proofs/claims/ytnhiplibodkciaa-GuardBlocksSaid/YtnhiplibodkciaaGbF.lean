/- GuardBlocks: the statement comes to true. -/
import Derived.Test.YtnhiplibodkciaaGbE
namespace Go.Proofs.Ytnhiplibodkciaa
open Go.PI Go

theorem queryQ_w0_at (p : List Int) (n c1 c2 : Int) (hn : n ≤ 4) (hn1 : 1 ≤ n) : ∃ l : List Elm, queryQ_w0 (p, n, 0, c1, c2, [], ()) = some (c1, c2, l, ()) ∧ (l.length : Int) = n ∧ ∀ e ∈ l, e.2.1.length ≤ 1000 := by
  obtain ⟨z, hz, l, rfl, h1, h2⟩ : ∃ z, queryQ_w0 (p, n, 0, c1, c2, [], ()) = some z ∧ ∃ l : List Elm, z = (c1, c2, l, ()) ∧ (l.length : Int) = n ∧ ∀ e ∈ l, e.2.1.length ≤ 1000 := by
    refine iterO_rec (step := fun x => (queryQ_l0 x).run) (Q := fun _ z => ∃ l : List Elm, z = (c1, c2, l, ()) ∧ (l.length : Int) = n ∧ ∀ e ∈ l, e.2.1.length ≤ 1000)
      (fun y => y.1 = p ∧ y.2.1 = n ∧ 0 ≤ y.2.2.1 ∧ y.2.2.1 ≤ n ∧ y.2.2.2.1 = c1 ∧ y.2.2.2.2.1 = c2 ∧ (y.2.2.2.2.2.1.length : Int) = y.2.2.1 ∧ ∀ e ∈ y.2.2.2.2.2.1, e.2.1.length ≤ 1000) (fun y => (n - y.2.2.1).toNat) ?_ _ ⟨rfl, rfl, by dsimp only; omega, by dsimp only; omega, rfl, rfl, by simp, by simp⟩
    rintro ⟨p', n', i, d1, d2, acc, ⟨⟩⟩ hx
    dsimp only at hx ⊢
    obtain ⟨rfl, rfl, h0, h1, rfl, rfl, h2, h3⟩ := hx
    by_cases hi : i < n'
    · obtain ⟨y, hy, e, rfl, he⟩ := queryQ_step p' n' i d1 d2 acc h0 hi hn h2
      refine .inl ⟨_, hy, ?_, ?_, fun z hz => hz⟩
      · refine ⟨rfl, rfl, by dsimp only; omega, by dsimp only; omega, rfl, rfl, ?_, fun u hu => ?_⟩
        · show (((acc ++ [e]).length : Nat) : Int) = i + 1
          rw [List.length_append, List.length_singleton]; omega
        · rcases List.mem_append.1 hu with h | h
          · exact h3 u h
          · obtain rfl := List.mem_singleton.1 h
            exact he
      · dsimp only; omega
    · refine .inr ⟨(d1, d2, acc, ()), ?_, acc, rfl, by omega, h3⟩
      unfold queryQ_l0
      dsimp only
      rw [show decide (i < n') = false from decide_eq_false hi]
      rfl
  exact ⟨l, hz, h1, h2⟩

theorem queryQ_at (p : List Int) : ∃ q : Qry, queryQ (p, ()) = some (q, ()) ∧ QOk q ∧ 1 ≤ q.1.length ∧ q.1.length ≤ 4 := by
  unfold queryQ queryQ_B
  dsimp only
  have hx := mask_in (List.getD p (Int.toNat 0) 0) 16777215 (by decide) (by decide)
  generalize IntKind.wrap IntKind.i64 (↑(BitVec.toNat (BitVec.ofInt (IntKind.bits IntKind.i64) (List.getD p (Int.toNat 0) 0) &&& BitVec.ofInt (IntKind.bits IntKind.i64) 16777215)) : Int) = x at hx ⊢
  have h3 := mask_in x 3 (by decide) (by decide)
  generalize IntKind.wrap IntKind.i64 (↑(BitVec.toNat (BitVec.ofInt (IntKind.bits IntKind.i64) x &&& BitVec.ofInt (IntKind.bits IntKind.i64) 3)) : Int) = m at h3 ⊢
  have h6 := mask_in (Int.fdiv x (2 ^ min (Int.toNat 6) (IntKind.bits IntKind.i64))) 3 (by decide) (by decide)
  generalize IntKind.wrap IntKind.i64 (↑(BitVec.toNat (BitVec.ofInt (IntKind.bits IntKind.i64) (Int.fdiv x (2 ^ min (Int.toNat 6) (IntKind.bits IntKind.i64))) &&& BitVec.ofInt (IntKind.bits IntKind.i64) 3)) : Int) = c at h6 ⊢
  have hw : IntKind.wrap .i64 (m + 1) = m + 1 := Go.PI.wrap_small (by omega) (by omega)
  rw [hw]
  suffices h : BT (fun y : Qry × Unit => QOk y.1 ∧ 1 ≤ y.1.1.length ∧ y.1.1.length ≤ 4) _ by
    obtain ⟨⟨q, ⟨⟩⟩, hq, h1, h2⟩ := h
    exact ⟨q, hq, h1, h2⟩
  refine BT.cond (fun hp => ?_) (fun _ => ?_)
  · refine BT.yes (by simp only [decide_eq_true_eq] at hp; simp; omega) ?_
    refine BT.fls (BT.fls (BT.yes ?_ (BT.opt ?_)))
    · show (decide (0 ≤ c) && decide (c < (4 : Int))) = true
      simp; omega
    · obtain ⟨l, hl, l1, l2⟩ := queryQ_w0_at p (m + 1) _ _ (by omega) (by omega)
      exact ⟨_, hl, BT.ret ⟨l2, by dsimp only; omega, by dsimp only; omega⟩⟩
  · refine BT.fls (BT.fls (BT.yes rfl (BT.opt ?_)))
    obtain ⟨l, hl, l1, l2⟩ := queryQ_w0_at p 1 1 100 (by omega) (by omega)
    exact ⟨_, hl, BT.ret ⟨l2, by dsimp only; omega, by dsimp only; omega⟩⟩

theorem guardBlocks_at (p : List Int) (l : List Evt) (n : Int) : guardBlocks (p, l, n, ()) = some (true, ()) := by
  obtain ⟨q, hq, h, h1, h4⟩ := queryQ_at p
  exact guardBlocks_of p l n hq h h1 h4
end Go.Proofs.Ytnhiplibodkciaa
