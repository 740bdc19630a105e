/- Blocks: whether one of the elements that must not be there fits; the statement's own loop comes to the same. -/
import Derived.Test.YtnhiplibodkciaaGbA
import Derived.Test.YtnhiplibodkciaaR8
namespace Go.Proofs.Ytnhiplibodkciaa
open Go.PI Go

/-- The places that must not be there, from one on. -/
def negsF : Int → List Elm → List Int
  | _, [] => []
  | i, e :: r => if e.2.2.1 = true then i :: negsF (i + 1) r else []
theorem negsF_len : ∀ (l : List Elm) (i : Int), (negsF i l).length ≤ l.length
  | [], _ => Nat.le_refl _
  | e :: r, i => by
    unfold negsF
    split
    · simp only [List.length_cons]; have := negsF_len r (i + 1); omega
    · simp

theorem betwQ_w0_at (q : Qry) (hq : q.1.length ≤ 100) (k : Int) (hk : k < q.1.length) (i : Int) (acc : List Int) (h0 : 0 ≤ i) (h1 : i ≤ q.1.length) (h2 : (acc.length : Int) ≤ i) :
    betwQ_w0 (k, i, q, acc, ()) = some (acc ++ negsF i (q.1.drop i.toNat), ()) := by
  suffices h : ∃ z, betwQ_w0 (k, i, q, acc, ()) = some z ∧ z = (acc ++ negsF i (q.1.drop i.toNat), ()) by
    obtain ⟨z, h, rfl⟩ := h
    exact h
  refine iterO_rec (step := fun x => (betwQ_l0 x).run) (Q := fun x z => z = (x.2.2.2.1 ++ negsF x.2.1 (q.1.drop x.2.1.toNat), ())) (fun x => x.1 = k ∧ x.2.2.1 = q ∧ 0 ≤ x.2.1 ∧ x.2.1 ≤ q.1.length ∧ (x.2.2.2.1.length : Int) ≤ x.2.1) (fun x => ((q.1.length : Int) - x.2.1).toNat) ?_ _ ⟨rfl, rfl, h0, h1, h2⟩
  rintro ⟨k', i, q', acc, ⟨⟩⟩ hx
  dsimp only at hx ⊢
  obtain ⟨rfl, rfl, h0, h1, h2⟩ := hx
  unfold betwQ_l0
  by_cases hi : i < (q'.1.length : Int)
  · have hw : IntKind.wrap .i64 (i + 1) = i + 1 := Go.PI.wrap_small (by omega) (by omega)
    rw [drop_get q'.1 i (ByteArray.empty, [], false, 0, 0, []) h0 hi]
    simp only [Br.run, decide_eq_true hi, decide_eq_true hk, decide_eq_true h0, Bool.and_self, cond_true, hw, cond_eq_ite, negsF]
    by_cases hc : (q'.1.getD i.toNat (ByteArray.empty, [], false, 0, 0, [])).2.2.1 = true
    · simp only [hc, ↓reduceIte, decide_eq_true_eq]
      refine .inl ⟨_, if_pos ?_, ?_, ?_, fun z hz => ?_⟩
      · show (acc.length + 1) * 8 ≤ 140737488355328
        omega
      · refine ⟨rfl, rfl, by dsimp only; omega, by dsimp only; omega, ?_⟩
        show (((acc ++ [i]).length : Nat) : Int) ≤ i + 1
        rw [List.length_append, List.length_singleton]; omega
      · dsimp only; omega
      · rw [hz]
        show ((acc ++ [i]) ++ _, ()) = _
        rw [List.append_assoc]
        rfl
    · simp only [hc, ↓reduceIte, Bool.false_eq_true, List.append_nil]
      exact .inr ⟨_, rfl, rfl⟩
  · simp only [Br.run, decide_eq_false hi, cond_false]
    have : q'.1.drop i.toNat = [] := List.drop_eq_nil_of_le (by omega)
    rw [this]
    exact .inr ⟨_, rfl, by simp [negsF]⟩

theorem betwQ_at (q : Qry) (hq : q.1.length ≤ 100) (k : Int) (hk : k < q.1.length) (hk0 : 0 ≤ k) : betwQ (q, k, ()) = some (negsF (k + 1) (q.1.drop (k + 1).toNat), ()) := by
  unfold betwQ betwQ_B
  have hw : IntKind.wrap .i64 (k + 1) = k + 1 := Go.PI.wrap_small (by omega) (by omega)
  have hn : ¬ (k + 1 < 0) := by omega
  simp only [Br.run, hw, if_neg hn]
  rw [betwQ_w0_at q hq k hk (k + 1) [] (by omega) (by omega) (by simp; omega)]
  rfl

/-- Does an element fit? -/
noncomputable def fitP (q : Qry) (r : RunT) (e : Evt) (i : Int) : Bool := match fitsG (sch3, q, r, i, e, ()) with
  | some (b, ()) => b
  | none => false
theorem fitsG_at {q : Qry} (h : QOk q) (r : RunT) (hr : r.2.2.1.length ≤ 60) (e : Evt) (i : Int) : fitsG (sch3, q, r, i, e, ()) = some (fitP q r e i, ()) := by
  obtain ⟨b, hb⟩ := fitsG_tot h r hr i e
  simp only [fitP, hb]

theorem blocksG_w0_at {q : Qry} (h : QOk q) (r : RunT) (hr : r.2.2.1.length ≤ 60) (e : Evt) (L : List Int) (hL : L.length ≤ 100) (j : Int) (h0 : 0 ≤ j) (h1 : j ≤ L.length) :
    blocksG_w0 (sch3, L, (L.length : Int), j, q, r, e, ()) = some (if (L.drop j.toNat).any (fitP q r e) = true then .inl () else .inr ()) := by
  suffices hh : ∃ z, blocksG_w0 (sch3, L, (L.length : Int), j, q, r, e, ()) = some z ∧ z = (if (L.drop j.toNat).any (fitP q r e) = true then .inl () else .inr ()) by
    obtain ⟨z, hh, rfl⟩ := hh
    exact hh
  refine iterO_rec (step := fun x => (blocksG_l0 x).run) (Q := fun x z => z = (if (L.drop x.2.2.2.1.toNat).any (fitP q r e) = true then .inl () else .inr ())) (fun x => x.1 = sch3 ∧ x.2.1 = L ∧ x.2.2.1 = (L.length : Int) ∧ 0 ≤ x.2.2.2.1 ∧ x.2.2.2.1 ≤ L.length ∧ x.2.2.2.2.1 = q ∧ x.2.2.2.2.2.1 = r ∧ x.2.2.2.2.2.2.1 = e) (fun x => ((L.length : Int) - x.2.2.2.1).toNat) ?_ _ ⟨rfl, rfl, rfl, h0, h1, rfl, rfl, rfl⟩
  rintro ⟨s', L', n, j, q', r', e', ⟨⟩⟩ hx
  dsimp only at hx ⊢
  obtain ⟨rfl, rfl, rfl, h0, h1, rfl, rfl, rfl⟩ := hx
  unfold blocksG_l0
  by_cases hi : j < (L'.length : Int)
  · have hw : IntKind.wrap .i64 (j + 1) = j + 1 := Go.PI.wrap_small (by omega) (by omega)
    rw [drop_get L' j 0 h0 hi]
    simp only [Br.run, decide_eq_true hi, decide_eq_true h0, Bool.and_self, cond_true, hw, fitsG_at h r' hr, cond_eq_ite, List.any_cons]
    by_cases hc : fitP q' r' e' (L'.getD j.toNat 0) = true
    · simp only [hc, ↓reduceIte, Bool.true_or]
      exact .inr ⟨_, rfl, rfl⟩
    · simp only [hc, ↓reduceIte, Bool.false_eq_true, Bool.false_or]
      refine .inl ⟨_, rfl, ?_, ?_, fun z hz => ?_⟩
      · exact ⟨rfl, rfl, rfl, by dsimp only; omega, by dsimp only; omega, rfl, rfl, rfl⟩
      · dsimp only; omega
      · rw [hz]
  · simp only [Br.run, decide_eq_false hi, cond_false]
    have : L'.drop j.toNat = [] := List.drop_eq_nil_of_le (by omega)
    rw [this]
    exact .inr ⟨_, rfl, rfl⟩
end Go.Proofs.Ytnhiplibodkciaa
