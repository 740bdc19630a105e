/- What a part comes to, of values of kinds: both sides. -/
import Derived.Test.YtnhiplibodkciaaEvC
namespace Go.Proofs.Ytnhiplibodkciaa
open Go.PI Go

abbrev zV : Val := (0, 0, ByteArray.empty, false)
abbrev iV (i : Int) : Val := (1, i, ByteArray.empty, false)
abbrev sV (s : ByteArray) : Val := (2, 0, s, false)
abbrev bV (b : Bool) : Val := (3, 0, ByteArray.empty, b)
/-- A value that may be. -/
inductive VN : Val → Prop
  | i (n : Int) (h : In64 n) : VN (iV n)
  | s (x : ByteArray) : VN (sV x)
  | b (t : Bool) : VN (bV t)

theorem numbersE_w0_at (op : Int) (k : List Val) (hk : k.length ≤ 64) (i : Int) (h0 : 0 ≤ i) (h1 : i ≤ k.length) (v : Val) :
    numbersE_w0 (op, k, k, (k.length : Int), i, v, ()) = some (if (k.drop i.toNat).all (fun x => x.1 == 1) = true then .inr (op, k, v, ()) else .inl (zV, ())) := by
  suffices h : ∃ z, numbersE_w0 (op, k, k, (k.length : Int), i, v, ()) = some z ∧ z = (if (k.drop i.toNat).all (fun x => x.1 == 1) = true then .inr (op, k, v, ()) else .inl (zV, ())) by
    obtain ⟨z, h, rfl⟩ := h
    exact h
  refine iterO_rec (step := fun x => (numbersE_l0 x).run) (Q := fun x z => z = (if (k.drop x.2.2.2.2.1.toNat).all (fun x => x.1 == 1) = true then .inr (op, k, v, ()) else .inl (zV, ()))) (fun x => x.1 = op ∧ x.2.1 = k ∧ x.2.2.1 = k ∧ x.2.2.2.1 = (k.length : Int) ∧ 0 ≤ x.2.2.2.2.1 ∧ x.2.2.2.2.1 ≤ k.length ∧ x.2.2.2.2.2.1 = v) (fun x => ((k.length : Int) - x.2.2.2.2.1).toNat) ?_ _ ⟨rfl, rfl, rfl, rfl, h0, h1, rfl⟩
  rintro ⟨op', k', k'', n, i, v', ⟨⟩⟩ hx
  dsimp only at hx ⊢
  obtain ⟨rfl, rfl, rfl, rfl, h0, h1, rfl⟩ := hx
  unfold numbersE_l0
  by_cases hi : i < (k''.length : Int)
  · have hw : IntKind.wrap .i64 (i + 1) = i + 1 := wrap_small (by omega) (by omega)
    rw [drop_get k'' i (0, 0, ByteArray.empty, false) h0 hi]
    simp only [Br.run, decide_eq_true hi, decide_eq_true h0, Bool.and_self, cond_true, hw, cond_eq_ite, List.all_cons, bne]
    by_cases hq : ((k''.getD i.toNat (0, 0, ByteArray.empty, false)).1 == 1) = true
    · simp only [hq, Bool.true_and, Bool.not_true, Bool.false_eq_true, ↓reduceIte]
      exact .inl ⟨_, rfl, ⟨rfl, rfl, rfl, rfl, by dsimp only; omega, by dsimp only; omega, rfl⟩, by dsimp only; omega, fun z hz => hz⟩
    · simp only [hq, Bool.false_and, Bool.not_false, Bool.false_eq_true, ↓reduceIte]
      exact .inr ⟨_, rfl, rfl⟩
  · simp only [Br.run, decide_eq_false hi, cond_false]
    have : k''.drop i.toNat = [] := List.drop_eq_nil_of_le (by omega)
    rw [this]
    exact .inr ⟨_, rfl, rfl⟩

theorem truthsE_w0_at (op : Int) (k : List Val) (hk : k.length ≤ 64) (i : Int) (h0 : 0 ≤ i) (h1 : i ≤ k.length) (v : Val) :
    truthsE_w0 (op, k, k, (k.length : Int), i, v, ()) = some (if (k.drop i.toNat).all (fun x => x.1 == 3) = true then .inr (op, k, v, ()) else .inl (zV, ())) := by
  suffices h : ∃ z, truthsE_w0 (op, k, k, (k.length : Int), i, v, ()) = some z ∧ z = (if (k.drop i.toNat).all (fun x => x.1 == 3) = true then .inr (op, k, v, ()) else .inl (zV, ())) by
    obtain ⟨z, h, rfl⟩ := h
    exact h
  refine iterO_rec (step := fun x => (truthsE_l0 x).run) (Q := fun x z => z = (if (k.drop x.2.2.2.2.1.toNat).all (fun x => x.1 == 3) = true then .inr (op, k, v, ()) else .inl (zV, ()))) (fun x => x.1 = op ∧ x.2.1 = k ∧ x.2.2.1 = k ∧ x.2.2.2.1 = (k.length : Int) ∧ 0 ≤ x.2.2.2.2.1 ∧ x.2.2.2.2.1 ≤ k.length ∧ x.2.2.2.2.2.1 = v) (fun x => ((k.length : Int) - x.2.2.2.2.1).toNat) ?_ _ ⟨rfl, rfl, rfl, rfl, h0, h1, rfl⟩
  rintro ⟨op', k', k'', n, i, v', ⟨⟩⟩ hx
  dsimp only at hx ⊢
  obtain ⟨rfl, rfl, rfl, rfl, h0, h1, rfl⟩ := hx
  unfold truthsE_l0
  by_cases hi : i < (k''.length : Int)
  · have hw : IntKind.wrap .i64 (i + 1) = i + 1 := wrap_small (by omega) (by omega)
    rw [drop_get k'' i (0, 0, ByteArray.empty, false) h0 hi]
    simp only [Br.run, decide_eq_true hi, decide_eq_true h0, Bool.and_self, cond_true, hw, cond_eq_ite, List.all_cons, bne]
    by_cases hq : ((k''.getD i.toNat (0, 0, ByteArray.empty, false)).1 == 3) = true
    · simp only [hq, Bool.true_and, Bool.not_true, Bool.false_eq_true, ↓reduceIte]
      exact .inl ⟨_, rfl, ⟨rfl, rfl, rfl, rfl, by dsimp only; omega, by dsimp only; omega, rfl⟩, by dsimp only; omega, fun z hz => hz⟩
    · simp only [hq, Bool.false_and, Bool.not_false, Bool.false_eq_true, ↓reduceIte]
      exact .inr ⟨_, rfl, rfl⟩
  · simp only [Br.run, decide_eq_false hi, cond_false]
    have : k''.drop i.toNat = [] := List.drop_eq_nil_of_le (by omega)
    rw [this]
    exact .inr ⟨_, rfl, rfl⟩

theorem cmpB : ∀ x y : List UInt8, (decide (Lib.compareBytes x y < 0) = Op.bytesLess x y) ∧ (decide (Lib.compareBytes x y = 0) = (x == y))
  | [], [] => ⟨rfl, rfl⟩
  | [], _ :: _ => ⟨rfl, rfl⟩
  | _ :: _, [] => ⟨rfl, rfl⟩
  | a :: x, b :: y => by
    have ih := cmpB x y
    unfold Lib.compareBytes Op.bytesLess
    rw [List.cons_beq_cons]
    by_cases h : a < b
    · have hne : (a == b) = false := by
        rw [beq_eq_false_iff_ne]
        rintro rfl
        exact absurd h (by simp)
      rw [if_pos h, hne]
      simp [h]
    · rw [if_neg h]
      by_cases h2 : b < a
      · have hne : (a == b) = false := by
          rw [beq_eq_false_iff_ne]
          rintro rfl
          exact absurd h2 (by simp)
        rw [if_pos h2, hne]
        simp [h]
      · have he : a = b := by
          have h1 : ¬ a.toNat < b.toNat := fun q => h (UInt8.lt_iff_toNat_lt.2 q)
          have h3 : ¬ b.toNat < a.toNat := fun q => h2 (UInt8.lt_iff_toNat_lt.2 q)
          exact UInt8.toNat_inj.1 (by omega)
        subst he
        rw [if_neg h2, ih.1, ih.2]
        simp
theorem cmpB_small (x y : List UInt8) : Lib.compareBytes x y = -1 ∨ Lib.compareBytes x y = 0 ∨ Lib.compareBytes x y = 1 := by
  have := Go.PI.cmp_small x y
  omega

def cmpT (op : Int) (lt eq : Bool) : Bool := if op = 7 then eq else if op = 8 then !eq else if op = 9 then lt else if op = 10 then lt || eq else if op = 11 then !lt && !eq else !lt

theorem holdsE_at (op c : Int) : holdsE (op, c, ()) = some (cmpT op (decide (c < 0)) (decide (c = 0)), ()) := by
  unfold holdsE holdsE_B cmpT
  simp only [Br.run, cond_eq_ite, beq_iff_eq]
  by_cases h7 : op = 7
  · simp only [h7, ↓reduceIte]; rfl
  by_cases h8 : op = 8
  · simp only [h8, ↓reduceIte]; rfl
  by_cases h9 : op = 9
  · simp only [h9, ↓reduceIte]; rfl
  by_cases h10 : op = 10
  · simp only [h10, ↓reduceIte]
    have : decide (c ≤ 0) = (decide (c < 0) || decide (c = 0)) := by
      rw [Bool.eq_iff_iff]; simp; omega
    rw [this]; rfl
  by_cases h11 : op = 11
  · simp only [h11, ↓reduceIte]
    have : decide (c > 0) = (!decide (c < 0) && !decide (c = 0)) := by
      rw [Bool.eq_iff_iff]; simp; omega
    rw [this]; rfl
  simp only [h7, h8, h9, h10, h11, ↓reduceIte]
  have : decide (c ≥ 0) = !decide (c < 0) := by
    rw [Bool.eq_iff_iff]; simp
  rw [this]

def lessV (a b : Val) : Bool := if a.1 = 1 then decide (a.2.1 < b.2.1) else if a.1 = 2 then Op.bytesLess (bl a.2.2.1) (bl b.2.2.1) else !a.2.2.2 && b.2.2.2
def sameV (a b : Val) : Bool := if a.1 = 1 then decide (a.2.1 = b.2.1) else if a.1 = 2 then bl a.2.2.1 == bl b.2.2.1 else a.2.2.2 == b.2.2.2

theorem compareV_at {a b : Val} (ha : VN a) (hb : VN b) : ∃ c, compareV (a, b, ()) = some (if a.1 = b.1 then (c, true) else (0, false), ()) ∧ (a.1 = b.1 → decide (c < 0) = lessV a b ∧ decide (c = 0) = sameV a b) := by
  cases ha with
  | i n hn =>
    cases hb with
    | i m hm =>
      rcases Int.lt_trichotomy n m with h | h | h
      · have h1 : ¬ (n > m) := by omega
        refine ⟨-1, ?_, fun _ => ⟨by simp [lessV, h], by simp [sameV]; omega⟩⟩
        unfold compareV compareV_B bitV bitV_B
        simp only [Br.run, decide_eq_false h1, decide_eq_true h, cond_true, cond_false]
        rfl
      · subst h
        have h1 : ¬ (n > n) := by omega
        have h2 : ¬ (n < n) := by omega
        refine ⟨0, ?_, fun _ => ⟨by simp [lessV], by simp [sameV]⟩⟩
        unfold compareV compareV_B bitV bitV_B
        simp only [Br.run, decide_eq_false h1, decide_eq_false h2, cond_true, cond_false]
        rfl
      · have h1 : ¬ (n < m) := by omega
        have h2 : n > m := h
        refine ⟨1, ?_, fun _ => ⟨by simp [lessV]; omega, by simp [sameV]; omega⟩⟩
        unfold compareV compareV_B bitV bitV_B
        simp only [Br.run, decide_eq_false h1, decide_eq_true h2, cond_true, cond_false]
        rfl
    | s x => exact ⟨0, rfl, fun h => by cases h⟩
    | b t => exact ⟨0, rfl, fun h => by cases h⟩
  | s x =>
    cases hb with
    | i m hm => exact ⟨0, rfl, fun h => by cases h⟩
    | s y =>
      obtain ⟨c1, c2⟩ := cmpB (bl x) (bl y)
      refine ⟨Lib.compareBytes (bl x) (bl y), ?_, fun _ => ⟨by simpa [lessV] using c1, by simpa [sameV] using c2⟩⟩
      unfold compareV compareV_B compareS compareS_B cmpStr signV signV_B
      have e : ∀ z : ByteArray, z.data.toList = bl z := fun _ => rfl
      simp only [Br.run, e]
      rcases cmpB_small (bl x) (bl y) with h | h | h <;> rw [h] <;> rfl
    | b t => exact ⟨0, rfl, fun h => by cases h⟩
  | b t =>
    cases hb with
    | i m hm => exact ⟨0, rfl, fun h => by cases h⟩
    | s y => exact ⟨0, rfl, fun h => by cases h⟩
    | b u => cases t <;> cases u
             · exact ⟨0, rfl, fun _ => ⟨rfl, rfl⟩⟩
             · exact ⟨-1, rfl, fun _ => ⟨rfl, rfl⟩⟩
             · exact ⟨1, rfl, fun _ => ⟨rfl, rfl⟩⟩
             · exact ⟨0, rfl, fun _ => ⟨rfl, rfl⟩⟩
end Go.Proofs.Ytnhiplibodkciaa
