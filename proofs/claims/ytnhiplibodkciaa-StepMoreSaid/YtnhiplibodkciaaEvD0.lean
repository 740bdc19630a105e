/- What parts of values come to: loops, and how two stand. -/
import Derived.Test.YtnhiplibodkciaaEvA
namespace Go.Proofs.Ytnhiplibodkciaa
open Go.PI Go

abbrev zV : Val := (0, 0, ByteArray.empty, false)
abbrev iV (i : Int) : Val := (1, i, ByteArray.empty, false)
abbrev sV (s : ByteArray) : Val := (2, 0, s, false)
abbrev bV (b : Bool) : Val := (3, 0, ByteArray.empty, b)
theorem numbersE_w0_at (op : Int) (k : List Val) (hk : k.length ≤ 64) (i : Int) (h0 : 0 ≤ i) (h1 : i ≤ k.length) (v : Val) :
    numbersE_w0 (op, k, k, (k.length : Int), i, v, ()) = some (if (k.drop i.toNat).all (fun x => x.1 == 1) = true then .inr (op, k, v, ()) else .inl (zV, ())) := by
  suffices h : ∃ z, numbersE_w0 (op, k, k, (k.length : Int), i, v, ()) = some z ∧ z = (if (k.drop i.toNat).all (fun x => x.1 == 1) = true then .inr (op, k, v, ()) else .inl (zV, ())) by
    obtain ⟨z, h, rfl⟩ := h
    exact h
  refine iterO_rec (step := fun x => (numbersE_l0 x).run) (Q := fun x z => z = (if (k.drop x.2.2.2.2.1.toNat).all (fun x => x.1 == 1) = true then .inr (op, k, v, ()) else .inl (zV, ()))) (fun x => x.1 = op ∧ x.2.1 = k ∧ x.2.2.1 = k ∧ x.2.2.2.1 = (k.length : Int) ∧ 0 ≤ x.2.2.2.2.1 ∧ x.2.2.2.2.1 ≤ k.length ∧ x.2.2.2.2.2.1 = v) (fun x => ((k.length : Int) - x.2.2.2.2.1).toNat) ?_ _ ⟨rfl, rfl, rfl, rfl, h0, h1, rfl⟩
  rintro ⟨op', k', k'', n, i, v', ⟨⟩⟩ hx
  dsimp only at hx ⊢
  obtain ⟨rfl, rfl, rfl, rfl, h0, h1, rfl⟩ := hx
  unfold numbersE_l0
  by_cases hi : i < (k''.length : Int)
  · have hw : IntKind.wrap .i64 (i + 1) = i + 1 := wrap_small (by omega) (by omega)
    rw [drop_get k'' i (0, 0, ByteArray.empty, false) h0 hi]
    simp only [Br.run, decide_eq_true hi, decide_eq_true h0, Bool.and_self, cond_true, hw, cond_eq_ite, List.all_cons, bne]
    by_cases hq : ((k''.getD i.toNat (0, 0, ByteArray.empty, false)).1 == 1) = true
    · simp only [hq, Bool.true_and, Bool.not_true, Bool.false_eq_true, ↓reduceIte]
      exact .inl ⟨_, rfl, ⟨rfl, rfl, rfl, rfl, by dsimp only; omega, by dsimp only; omega, rfl⟩, by dsimp only; omega, fun z hz => hz⟩
    · simp only [hq, Bool.false_and, Bool.not_false, Bool.false_eq_true, ↓reduceIte]
      exact .inr ⟨_, rfl, rfl⟩
  · simp only [Br.run, decide_eq_false hi, cond_false]
    have : k''.drop i.toNat = [] := List.drop_eq_nil_of_le (by omega)
    rw [this]
    exact .inr ⟨_, rfl, rfl⟩

theorem truthsE_w0_at (op : Int) (k : List Val) (hk : k.length ≤ 64) (i : Int) (h0 : 0 ≤ i) (h1 : i ≤ k.length) (v : Val) :
    truthsE_w0 (op, k, k, (k.length : Int), i, v, ()) = some (if (k.drop i.toNat).all (fun x => x.1 == 3) = true then .inr (op, k, v, ()) else .inl (zV, ())) := by
  suffices h : ∃ z, truthsE_w0 (op, k, k, (k.length : Int), i, v, ()) = some z ∧ z = (if (k.drop i.toNat).all (fun x => x.1 == 3) = true then .inr (op, k, v, ()) else .inl (zV, ())) by
    obtain ⟨z, h, rfl⟩ := h
    exact h
  refine iterO_rec (step := fun x => (truthsE_l0 x).run) (Q := fun x z => z = (if (k.drop x.2.2.2.2.1.toNat).all (fun x => x.1 == 3) = true then .inr (op, k, v, ()) else .inl (zV, ()))) (fun x => x.1 = op ∧ x.2.1 = k ∧ x.2.2.1 = k ∧ x.2.2.2.1 = (k.length : Int) ∧ 0 ≤ x.2.2.2.2.1 ∧ x.2.2.2.2.1 ≤ k.length ∧ x.2.2.2.2.2.1 = v) (fun x => ((k.length : Int) - x.2.2.2.2.1).toNat) ?_ _ ⟨rfl, rfl, rfl, rfl, h0, h1, rfl⟩
  rintro ⟨op', k', k'', n, i, v', ⟨⟩⟩ hx
  dsimp only at hx ⊢
  obtain ⟨rfl, rfl, rfl, rfl, h0, h1, rfl⟩ := hx
  unfold truthsE_l0
  by_cases hi : i < (k''.length : Int)
  · have hw : IntKind.wrap .i64 (i + 1) = i + 1 := wrap_small (by omega) (by omega)
    rw [drop_get k'' i (0, 0, ByteArray.empty, false) h0 hi]
    simp only [Br.run, decide_eq_true hi, decide_eq_true h0, Bool.and_self, cond_true, hw, cond_eq_ite, List.all_cons, bne]
    by_cases hq : ((k''.getD i.toNat (0, 0, ByteArray.empty, false)).1 == 3) = true
    · simp only [hq, Bool.true_and, Bool.not_true, Bool.false_eq_true, ↓reduceIte]
      exact .inl ⟨_, rfl, ⟨rfl, rfl, rfl, rfl, by dsimp only; omega, by dsimp only; omega, rfl⟩, by dsimp only; omega, fun z hz => hz⟩
    · simp only [hq, Bool.false_and, Bool.not_false, Bool.false_eq_true, ↓reduceIte]
      exact .inr ⟨_, rfl, rfl⟩
  · simp only [Br.run, decide_eq_false hi, cond_false]
    have : k''.drop i.toNat = [] := List.drop_eq_nil_of_le (by omega)
    rw [this]
    exact .inr ⟨_, rfl, rfl⟩

def cmpT (op : Int) (lt eq : Bool) : Bool := if op = 7 then eq else if op = 8 then !eq else if op = 9 then lt else if op = 10 then lt || eq else if op = 11 then !lt && !eq else !lt

theorem holdsE_at (op c : Int) : holdsE (op, c, ()) = some (cmpT op (decide (c < 0)) (decide (c = 0)), ()) := by
  unfold holdsE holdsE_B cmpT
  simp only [Br.run, cond_eq_ite, beq_iff_eq]
  by_cases h7 : op = 7
  · simp only [h7, ↓reduceIte]; rfl
  by_cases h8 : op = 8
  · simp only [h8, ↓reduceIte]; rfl
  by_cases h9 : op = 9
  · simp only [h9, ↓reduceIte]; rfl
  by_cases h10 : op = 10
  · simp only [h10, ↓reduceIte]
    have : decide (c ≤ 0) = (decide (c < 0) || decide (c = 0)) := by
      rw [Bool.eq_iff_iff]; simp; omega
    rw [this]; rfl
  by_cases h11 : op = 11
  · simp only [h11, ↓reduceIte]
    have : decide (c > 0) = (!decide (c < 0) && !decide (c = 0)) := by
      rw [Bool.eq_iff_iff]; simp; omega
    rw [this]; rfl
  simp only [h7, h8, h9, h10, h11, ↓reduceIte]
  have : decide (c ≥ 0) = !decide (c < 0) := by
    rw [Bool.eq_iff_iff]; simp
  rw [this]

end Go.Proofs.Ytnhiplibodkciaa
