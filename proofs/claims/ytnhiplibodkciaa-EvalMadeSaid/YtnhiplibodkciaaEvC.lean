/- Numbers together, the other side. -/
import Derived.Test.YtnhiplibodkciaaEvB
namespace Go.Proofs.Ytnhiplibodkciaa
open Go.PI Go

theorem halfR_at {a : Int} (ha : In64 a) : halfR (a, ()) = some ((a / 4294967296, a % 4294967296), ()) := by
  obtain ⟨a1, a2⟩ := ha
  unfold halfR halfR_B
  have em : Int.tmod a 4294967296 = a % 4294967296 - if 0 ≤ a ∨ (4294967296 : Int) ∣ a then 0 else 4294967296 := by
    rw [Int.tmod_eq_emod]; split <;> rfl
  have ed : ∀ x : Int, Int.tdiv x 4294967296 = x / 4294967296 + if 0 ≤ x ∨ (4294967296 : Int) ∣ x then 0 else 1 := fun x => by
    rw [Int.tdiv_eq_ediv]; split <;> rfl
  simp only [Br.run, cond_false, cond_eq_ite, decide_eq_true_eq, Bool.false_eq_true, ↓reduceIte]
  split
  · rename_i h
    have hl : 0 ≤ Int.tmod a 4294967296 + 4294967296 ∧ Int.tmod a 4294967296 + 4294967296 = a % 4294967296 := by
      split at em <;> omega
    have w1 : IntKind.wrap .i64 (Int.tmod a 4294967296 + 4294967296) = a % 4294967296 := by rw [hl.2, wrap_small (by omega) (by omega)]
    have w2 : IntKind.wrap .i64 (a - a % 4294967296) = a - a % 4294967296 := wrap_small (by omega) (by omega)
    have hd := ed (a - a % 4294967296)
    have w3 : Int.tdiv (a - a % 4294967296) 4294967296 = a / 4294967296 := by
      rw [hd, if_pos (.inr (by omega))]; omega
    rw [w1, w2, w3, wrap_small (by omega) (by omega)]
  · rename_i h
    have hl : Int.tmod a 4294967296 = a % 4294967296 := by
      split at em <;> omega
    have w2 : IntKind.wrap .i64 (a - a % 4294967296) = a - a % 4294967296 := wrap_small (by omega) (by omega)
    have hd := ed (a - a % 4294967296)
    have w3 : Int.tdiv (a - a % 4294967296) 4294967296 = a / 4294967296 := by
      rw [hd, if_pos (.inr (by omega))]; omega
    rw [hl, w2, w3, wrap_small (by omega) (by omega)]

theorem fitsR_w0_at {l h : Int} (h1 : -4294967296 ≤ l) (h2 : l < 8589934592) (h3 : -4294967297 ≤ h) (h4 : h ≤ 4294967297) :
    fitsR_w0 (l, h, ()) = some (if l ≥ 4294967296 then (l - 4294967296, h + 1, ()) else (l, h, ())) := by
  by_cases c : l ≥ 4294967296
  · rw [if_pos c]
    have w1 : IntKind.wrap .i64 (l - 4294967296) = l - 4294967296 := wrap_small (by omega) (by omega)
    have w2 : IntKind.wrap .i64 (h + 1) = h + 1 := wrap_small (by omega) (by omega)
    have c2 : ¬ (l - 4294967296 ≥ 4294967296) := by omega
    refine (iterO_inl (x' := (l - 4294967296, h + 1, ())) ?_).trans (iterO_inr ?_)
    · unfold fitsR_l0
      simp only [Br.run, decide_eq_true c, cond_true, w1, w2]
    · unfold fitsR_l0
      simp only [Br.run, decide_eq_false c2, cond_false]
  · rw [if_neg c]
    refine iterO_inr ?_
    unfold fitsR_l0
    simp only [Br.run, decide_eq_false c, cond_false]

theorem fitsR_w1_at {l h : Int} (h1 : -4294967296 ≤ l) (h2 : l < 8589934592) (h3 : -4294967297 ≤ h) (h4 : h ≤ 4294967298) :
    fitsR_w1 (l, h, ()) = some (if l < 0 then (h - 1, ()) else (h, ())) := by
  by_cases c : l < 0
  · rw [if_pos c]
    have w1 : IntKind.wrap .i64 (l + 4294967296) = l + 4294967296 := wrap_small (by omega) (by omega)
    have w2 : IntKind.wrap .i64 (h - 1) = h - 1 := wrap_small (by omega) (by omega)
    have c2 : ¬ (l + 4294967296 < 0) := by omega
    refine (iterO_inl (x' := (l + 4294967296, h - 1, ())) ?_).trans (iterO_inr ?_)
    · unfold fitsR_l1
      simp only [Br.run, decide_eq_true c, cond_true, w1, w2]
    · unfold fitsR_l1
      simp only [Br.run, decide_eq_false c2, cond_false]
  · rw [if_neg c]
    refine iterO_inr ?_
    unfold fitsR_l1
    simp only [Br.run, decide_eq_false c, cond_false]

theorem fitsR_add {a b : Int} (ha : In64 a) (hb : In64 b) : fitsR (a, b, false, ()) = some (decide (In64 (a + b)), ()) := by
  unfold fitsR fitsR_B
  have e1 := halfR_at ha
  have e2 := halfR_at hb
  obtain ⟨a1, a2⟩ := ha
  obtain ⟨b1, b2⟩ := hb
  have w1 : IntKind.wrap .i64 (a % 4294967296 + b % 4294967296) = a % 4294967296 + b % 4294967296 := wrap_small (by omega) (by omega)
  have w2 : IntKind.wrap .i64 (a / 4294967296 + b / 4294967296) = a / 4294967296 + b / 4294967296 := wrap_small (by omega) (by omega)
  simp only [Br.run, e1, e2, cond_false, w1, w2]
  rw [fitsR_w0_at (by omega) (by omega) (by omega) (by omega)]
  by_cases c : a % 4294967296 + b % 4294967296 ≥ 4294967296
  · simp only [if_pos c, Br.run]
    rw [fitsR_w1_at (by omega) (by omega) (by omega) (by omega)]
    have c2 : ¬ (a % 4294967296 + b % 4294967296 - 4294967296 < 0) := by omega
    simp only [if_neg c2, Br.run, cond_eq_ite, decide_eq_true_eq]
    split
    · have : (a / 4294967296 + b / 4294967296 + 1 ≤ 2147483647) ↔ In64 (a + b) := by unfold In64; omega
      simp only [this]
    · have : ¬ In64 (a + b) := by unfold In64; omega
      simp only [decide_eq_false this]
  · simp only [if_neg c, Br.run]
    rw [fitsR_w1_at (by omega) (by omega) (by omega) (by omega)]
    have c2 : ¬ (a % 4294967296 + b % 4294967296 < 0) := by omega
    simp only [if_neg c2, Br.run, cond_eq_ite, decide_eq_true_eq]
    split
    · have : (a / 4294967296 + b / 4294967296 ≤ 2147483647) ↔ In64 (a + b) := by unfold In64; omega
      simp only [this]
    · have : ¬ In64 (a + b) := by unfold In64; omega
      simp only [decide_eq_false this]

theorem fitsR_sub {a b : Int} (ha : In64 a) (hb : In64 b) : fitsR (a, b, true, ()) = some (decide (In64 (a - b)), ()) := by
  unfold fitsR fitsR_B
  have e1 := halfR_at ha
  have e2 := halfR_at hb
  obtain ⟨a1, a2⟩ := ha
  obtain ⟨b1, b2⟩ := hb
  have w0 : IntKind.wrap .i64 (0 - b % 4294967296) = 0 - b % 4294967296 := wrap_small (by omega) (by omega)
  have w3 : IntKind.wrap .i64 (0 - b / 4294967296) = 0 - b / 4294967296 := wrap_small (by omega) (by omega)
  have w1 : IntKind.wrap .i64 (a % 4294967296 + (0 - b % 4294967296)) = a % 4294967296 + (0 - b % 4294967296) := wrap_small (by omega) (by omega)
  have w2 : IntKind.wrap .i64 (a / 4294967296 + (0 - b / 4294967296)) = a / 4294967296 + (0 - b / 4294967296) := wrap_small (by omega) (by omega)
  simp only [Br.run, e1, e2, cond_true, w0, w3, w1, w2]
  rw [fitsR_w0_at (by omega) (by omega) (by omega) (by omega)]
  have c : ¬ (a % 4294967296 + (0 - b % 4294967296) ≥ 4294967296) := by omega
  simp only [if_neg c, Br.run]
  rw [fitsR_w1_at (by omega) (by omega) (by omega) (by omega)]
  by_cases c2 : a % 4294967296 + (0 - b % 4294967296) < 0
  · simp only [if_pos c2, Br.run, cond_eq_ite, decide_eq_true_eq]
    split
    · have : (a / 4294967296 + (0 - b / 4294967296) - 1 ≤ 2147483647) ↔ In64 (a - b) := by unfold In64; omega
      simp only [this]
    · have : ¬ In64 (a - b) := by unfold In64; omega
      simp only [decide_eq_false this]
  · simp only [if_neg c2, Br.run, cond_eq_ite, decide_eq_true_eq]
    split
    · have : (a / 4294967296 + (0 - b / 4294967296) ≤ 2147483647) ↔ In64 (a - b) := by unfold In64; omega
      simp only [this]
    · have : ¬ In64 (a - b) := by unfold In64; omega
      simp only [decide_eq_false this]

theorem le_tdiv {M x y : Int} (hM : 0 ≤ M) (hy : 0 < y) : x ≤ M.tdiv y ↔ x * y ≤ M := by
  rw [Int.tdiv_eq_ediv_of_nonneg hM]
  exact Int.le_ediv_iff_mul_le hy
theorem ge_tdiv {M x y : Int} (hM : 0 ≤ M) (hy : 0 < y) : x ≥ (-M).tdiv y ↔ -M ≤ x * y := by
  rw [Int.neg_tdiv]
  have := le_tdiv (x := -x) hM hy
  rw [Int.neg_mul] at this
  constructor
  · intro h
    have := this.1 (by omega)
    omega
  · intro h
    have := this.2 (by omega)
    omega
theorem tdiv_in {M y : Int} (h : In64 M) (hy : y ≠ 0) (h' : ¬ (M = -9223372036854775808 ∧ y = -1)) : In64 (M.tdiv y) := by
  by_cases h1 : y = 1
  · rw [h1, Int.tdiv_one]; exact h
  obtain ⟨m1, m2⟩ := h
  by_cases h2 : y = -1
  · rw [h2, Int.tdiv_neg, Int.tdiv_one]
    unfold In64; omega
  · have hya : 2 ≤ y.natAbs := by omega
    have h3 := Nat.div_le_div_left (a := M.natAbs) hya (by decide)
    have h4 : (M.tdiv y).natAbs = M.natAbs / y.natAbs := Int.natAbs_tdiv M y
    unfold In64
    omega

theorem productR_at {a b : Int} (ha : In64 a) (hb : In64 b) : productR (a, b, ()) = some (decide (In64 (a * b)), ()) := by
  have hMx : In64 9223372036854775807 := by decide
  have hMn : In64 (-9223372036854775808) := by decide
  unfold productR productR_B
  simp only [Br.run, cond_eq_ite, decide_eq_true_eq, beq_iff_eq, bne_iff_ne, gt_iff_lt, ge_iff_le]
  by_cases a0 : a = 0
  · subst a0
    have : In64 0 := by decide
    simp only [if_true, Int.zero_mul, decide_eq_true this]
  by_cases b0 : b = 0
  · subst b0
    have : In64 0 := by decide
    simp only [a0, if_true, if_false, Int.mul_zero, decide_eq_true this]
  simp only [a0, b0, if_false]
  rcases Int.lt_or_gt_of_ne a0 with an | ap
  · have ap' : ¬ 0 < a := by omega
    simp only [ap', an, if_true, if_false]
    rcases Int.lt_or_gt_of_ne b0 with bn | bp
    · simp only [bn, if_true]
      have hpos : 0 < a * b := Int.mul_pos_of_neg_of_neg an bn
      by_cases bm : b = -9223372036854775808
      · have hno : ¬ In64 (a * b) := by
          intro h; obtain ⟨_, h⟩ := h; subst bm
          omega
        simp only [bm, ne_eq, not_true_eq_false, if_false]
        rw [bm] at hno
        have h1 : ¬ ((-9223372036854775808 : Int) = -1) := by decide
        by_cases a1 : a = -1
        · simp only [a1, if_true, h1, if_false]
          rw [a1] at hno
          simp only [decide_eq_false hno]
        · simp only [a1, if_false, h1, decide_eq_false hno]
      · simp only [ne_eq, bm, not_false_eq_true, if_true]
        by_cases am : a = -9223372036854775808
        · have hno : ¬ In64 (a * b) := by
            intro h; obtain ⟨_, h⟩ := h; subst am
            omega
          simp only [am, not_true_eq_false, if_false]
          rw [am] at hno
          have h1 : ¬ ((-9223372036854775808 : Int) = -1) := by decide
          by_cases b1 : b = -1
          · simp only [b1, if_true, h1, if_false]
            rw [b1] at hno
            simp only [decide_eq_false hno]
            rfl
          · simp only [b1, if_false, h1, decide_eq_false hno]
        · simp only [am, not_false_eq_true, if_true]
          obtain ⟨x1, x2⟩ := ha
          obtain ⟨y1, y2⟩ := hb
          have w1 : IntKind.wrap .i64 (0 - a) = -a := by rw [wrap_small (by omega) (by omega)]; omega
          have w2 : IntKind.wrap .i64 (0 - b) = -b := by rw [wrap_small (by omega) (by omega)]; omega
          have hnb : ¬ (-b = 0) := by omega
          have w3 : IntKind.wrap .i64 (Int.tdiv 9223372036854775807 (-b)) = Int.tdiv 9223372036854775807 (-b) := wrap_in (tdiv_in hMx hnb (by omega))
          simp only [w1, w2, hnb, if_false, w3]
          have key := le_tdiv (M := 9223372036854775807) (x := -a) (y := -b) (by omega) (by omega)
          rw [Int.neg_mul_neg] at key
          have hin : In64 (a * b) ↔ a * b ≤ 9223372036854775807 := by unfold In64; omega
          by_cases hk : -a ≤ Int.tdiv 9223372036854775807 (-b)
          · have : In64 (a * b) := hin.2 (key.1 hk)
            simp only [hk, if_true, decide_eq_true this]
          · have hno : ¬ In64 (a * b) := fun h => hk (key.2 (hin.1 h))
            simp only [hk, if_false]
            by_cases a1 : a = -1
            · exfalso
              subst a1
              apply hno
              unfold In64
              omega
            · by_cases b1 : b = -1
              · exfalso
                subst b1
                apply hno
                unfold In64
                omega
              · simp only [a1, b1, if_false, decide_eq_false hno]
    · have bn' : ¬ b < 0 := by omega
      have bp' : 0 < b := bp
      have w3 : IntKind.wrap .i64 (Int.tdiv (-9223372036854775808) b) = Int.tdiv (-9223372036854775808) b := wrap_in (tdiv_in hMn b0 (by omega))
      simp only [bn', if_false, w3]
      have key := ge_tdiv (M := 9223372036854775808) (x := a) (y := b) (by omega) bp
      have hneg : a * b < 0 := Int.mul_neg_of_neg_of_pos an bp
      have hin : (Int.tdiv (-9223372036854775808) b ≤ a) ↔ In64 (a * b) := by
        rw [show (Int.tdiv (-9223372036854775808) b ≤ a) ↔ _ from key]
        unfold In64; omega
      simp only [hin]
  · have an' : ¬ a < 0 := by omega
    have ap' : 0 < a := ap
    simp only [ap', if_true]
    rcases Int.lt_or_gt_of_ne b0 with bn | bp
    · have bp' : ¬ 0 < b := by omega
      simp only [bp', an', if_false]
      have w3 : IntKind.wrap .i64 (Int.tdiv (-9223372036854775808) a) = Int.tdiv (-9223372036854775808) a := wrap_in (tdiv_in hMn a0 (by omega))
      simp only [w3]
      have key := ge_tdiv (M := 9223372036854775808) (x := b) (y := a) (by omega) ap
      have hneg : a * b < 0 := Int.mul_neg_of_pos_of_neg ap bn
      have hin : (Int.tdiv (-9223372036854775808) a ≤ b) ↔ In64 (a * b) := by
        rw [show (Int.tdiv (-9223372036854775808) a ≤ b) ↔ _ from key, Int.mul_comm b a]
        unfold In64; omega
      simp only [hin]
    · have bp' : 0 < b := bp
      have w3 : IntKind.wrap .i64 (Int.tdiv 9223372036854775807 b) = Int.tdiv 9223372036854775807 b := wrap_in (tdiv_in hMx b0 (by omega))
      simp only [bp', if_true, w3]
      have key := le_tdiv (M := 9223372036854775807) (x := a) (y := b) (by omega) bp
      have hpos : 0 < a * b := Int.mul_pos ap bp
      have hin : (a ≤ Int.tdiv 9223372036854775807 b) ↔ In64 (a * b) := by
        rw [key]; unfold In64; omega
      simp only [hin]

theorem negN_at {a : Int} (ha : In64 a) : negN (a, ()) = some (if a ≠ -9223372036854775808 then (-a, true) else (0, false), ()) := by
  unfold negN negN_B
  have h0 : In64 0 := by decide
  simp only [Br.run, subN_at h0 ha]
  obtain ⟨a1, a2⟩ := ha
  by_cases h : a = -9223372036854775808
  · subst h; rfl
  · have : In64 (0 - a) := by unfold In64; omega
    simp only [this, if_true, ne_eq, h, not_false_eq_true]
    have e : 0 - a = -a := by omega
    rw [e]
end Go.Proofs.Ytnhiplibodkciaa
