/- Numbers together: what the two sides come to. Numbers together, the other side. What parts of values come to: loops, and how two stand. What Eval comes to: part by part. What Eval comes to: part by part, on a stack. -/
import Derived.Test.YtnhiplibodkciaaHb
import Derived.Test.YtnhiplibodkciaaR3b
namespace Go.Proofs.Ytnhiplibodkciaa
open Go.PI Go

def In64 (x : Int) : Prop := -9223372036854775808 ≤ x ∧ x ≤ 9223372036854775807
instance (x : Int) : Decidable (In64 x) := by unfold In64; infer_instance
theorem inK_64 {x : Int} : InK .i64 x ↔ In64 x := by
  have h1 : IntKind.min .i64 = -9223372036854775808 := by decide
  have h2 : IntKind.max .i64 = 9223372036854775807 := by decide
  unfold InK In64
  rw [h1, h2]
theorem wrap_in {x : Int} (h : In64 x) : IntKind.wrap .i64 x = x := wrap_small h.1 h.2
theorem wrap_in64 (x : Int) : In64 (IntKind.wrap .i64 x) := inK_64.1 (inK_wrap .i64 x)
end Go.Proofs.Ytnhiplibodkciaa

namespace Go.Proofs.Ytnhiplibodkciaa
open Go.PI Go

theorem halfR_at {a : Int} (ha : In64 a) : halfR (a, ()) = some ((a / 4294967296, a % 4294967296), ()) := by
  obtain ⟨a1, a2⟩ := ha
  unfold halfR halfR_B
  have em : Int.tmod a 4294967296 = a % 4294967296 - if 0 ≤ a ∨ (4294967296 : Int) ∣ a then 0 else 4294967296 := by
    rw [Int.tmod_eq_emod]; split <;> rfl
  have ed : ∀ x : Int, Int.tdiv x 4294967296 = x / 4294967296 + if 0 ≤ x ∨ (4294967296 : Int) ∣ x then 0 else 1 := fun x => by
    rw [Int.tdiv_eq_ediv]; split <;> rfl
  simp only [Br.run, cond_false, cond_eq_ite, decide_eq_true_eq, Bool.false_eq_true, ↓reduceIte]
  split
  · rename_i h
    have hl : 0 ≤ Int.tmod a 4294967296 + 4294967296 ∧ Int.tmod a 4294967296 + 4294967296 = a % 4294967296 := by
      split at em <;> omega
    have w1 : IntKind.wrap .i64 (Int.tmod a 4294967296 + 4294967296) = a % 4294967296 := by rw [hl.2, wrap_small (by omega) (by omega)]
    have w2 : IntKind.wrap .i64 (a - a % 4294967296) = a - a % 4294967296 := wrap_small (by omega) (by omega)
    have hd := ed (a - a % 4294967296)
    have w3 : Int.tdiv (a - a % 4294967296) 4294967296 = a / 4294967296 := by
      rw [hd, if_pos (.inr (by omega))]; omega
    rw [w1, w2, w3, wrap_small (by omega) (by omega)]
  · rename_i h
    have hl : Int.tmod a 4294967296 = a % 4294967296 := by
      split at em <;> omega
    have w2 : IntKind.wrap .i64 (a - a % 4294967296) = a - a % 4294967296 := wrap_small (by omega) (by omega)
    have hd := ed (a - a % 4294967296)
    have w3 : Int.tdiv (a - a % 4294967296) 4294967296 = a / 4294967296 := by
      rw [hd, if_pos (.inr (by omega))]; omega
    rw [hl, w2, w3, wrap_small (by omega) (by omega)]

theorem fitsR_w0_at {l h : Int} (h1 : -4294967296 ≤ l) (h2 : l < 8589934592) (h3 : -4294967297 ≤ h) (h4 : h ≤ 4294967297) :
    fitsR_w0 (l, h, ()) = some (if l ≥ 4294967296 then (l - 4294967296, h + 1, ()) else (l, h, ())) := by
  by_cases c : l ≥ 4294967296
  · rw [if_pos c]
    have w1 : IntKind.wrap .i64 (l - 4294967296) = l - 4294967296 := wrap_small (by omega) (by omega)
    have w2 : IntKind.wrap .i64 (h + 1) = h + 1 := wrap_small (by omega) (by omega)
    have c2 : ¬ (l - 4294967296 ≥ 4294967296) := by omega
    refine (iterO_inl (x' := (l - 4294967296, h + 1, ())) ?_).trans (iterO_inr ?_)
    · unfold fitsR_l0
      simp only [Br.run, decide_eq_true c, cond_true, w1, w2]
    · unfold fitsR_l0
      simp only [Br.run, decide_eq_false c2, cond_false]
  · rw [if_neg c]
    refine iterO_inr ?_
    unfold fitsR_l0
    simp only [Br.run, decide_eq_false c, cond_false]

theorem fitsR_w1_at {l h : Int} (h1 : -4294967296 ≤ l) (h2 : l < 8589934592) (h3 : -4294967297 ≤ h) (h4 : h ≤ 4294967298) :
    fitsR_w1 (l, h, ()) = some (if l < 0 then (h - 1, ()) else (h, ())) := by
  by_cases c : l < 0
  · rw [if_pos c]
    have w1 : IntKind.wrap .i64 (l + 4294967296) = l + 4294967296 := wrap_small (by omega) (by omega)
    have w2 : IntKind.wrap .i64 (h - 1) = h - 1 := wrap_small (by omega) (by omega)
    have c2 : ¬ (l + 4294967296 < 0) := by omega
    refine (iterO_inl (x' := (l + 4294967296, h - 1, ())) ?_).trans (iterO_inr ?_)
    · unfold fitsR_l1
      simp only [Br.run, decide_eq_true c, cond_true, w1, w2]
    · unfold fitsR_l1
      simp only [Br.run, decide_eq_false c2, cond_false]
  · rw [if_neg c]
    refine iterO_inr ?_
    unfold fitsR_l1
    simp only [Br.run, decide_eq_false c, cond_false]

theorem fitsR_add {a b : Int} (ha : In64 a) (hb : In64 b) : fitsR (a, b, false, ()) = some (decide (In64 (a + b)), ()) := by
  unfold fitsR fitsR_B
  have e1 := halfR_at ha
  have e2 := halfR_at hb
  obtain ⟨a1, a2⟩ := ha
  obtain ⟨b1, b2⟩ := hb
  have w1 : IntKind.wrap .i64 (a % 4294967296 + b % 4294967296) = a % 4294967296 + b % 4294967296 := wrap_small (by omega) (by omega)
  have w2 : IntKind.wrap .i64 (a / 4294967296 + b / 4294967296) = a / 4294967296 + b / 4294967296 := wrap_small (by omega) (by omega)
  simp only [Br.run, e1, e2, cond_false, w1, w2]
  rw [fitsR_w0_at (by omega) (by omega) (by omega) (by omega)]
  by_cases c : a % 4294967296 + b % 4294967296 ≥ 4294967296
  · simp only [if_pos c, Br.run]
    rw [fitsR_w1_at (by omega) (by omega) (by omega) (by omega)]
    have c2 : ¬ (a % 4294967296 + b % 4294967296 - 4294967296 < 0) := by omega
    simp only [if_neg c2, Br.run, cond_eq_ite, decide_eq_true_eq]
    split
    · have : (a / 4294967296 + b / 4294967296 + 1 ≤ 2147483647) ↔ In64 (a + b) := by unfold In64; omega
      simp only [this]
    · have : ¬ In64 (a + b) := by unfold In64; omega
      simp only [decide_eq_false this]
  · simp only [if_neg c, Br.run]
    rw [fitsR_w1_at (by omega) (by omega) (by omega) (by omega)]
    have c2 : ¬ (a % 4294967296 + b % 4294967296 < 0) := by omega
    simp only [if_neg c2, Br.run, cond_eq_ite, decide_eq_true_eq]
    split
    · have : (a / 4294967296 + b / 4294967296 ≤ 2147483647) ↔ In64 (a + b) := by unfold In64; omega
      simp only [this]
    · have : ¬ In64 (a + b) := by unfold In64; omega
      simp only [decide_eq_false this]

theorem fitsR_sub {a b : Int} (ha : In64 a) (hb : In64 b) : fitsR (a, b, true, ()) = some (decide (In64 (a - b)), ()) := by
  unfold fitsR fitsR_B
  have e1 := halfR_at ha
  have e2 := halfR_at hb
  obtain ⟨a1, a2⟩ := ha
  obtain ⟨b1, b2⟩ := hb
  have w0 : IntKind.wrap .i64 (0 - b % 4294967296) = 0 - b % 4294967296 := wrap_small (by omega) (by omega)
  have w3 : IntKind.wrap .i64 (0 - b / 4294967296) = 0 - b / 4294967296 := wrap_small (by omega) (by omega)
  have w1 : IntKind.wrap .i64 (a % 4294967296 + (0 - b % 4294967296)) = a % 4294967296 + (0 - b % 4294967296) := wrap_small (by omega) (by omega)
  have w2 : IntKind.wrap .i64 (a / 4294967296 + (0 - b / 4294967296)) = a / 4294967296 + (0 - b / 4294967296) := wrap_small (by omega) (by omega)
  simp only [Br.run, e1, e2, cond_true, w0, w3, w1, w2]
  rw [fitsR_w0_at (by omega) (by omega) (by omega) (by omega)]
  have c : ¬ (a % 4294967296 + (0 - b % 4294967296) ≥ 4294967296) := by omega
  simp only [if_neg c, Br.run]
  rw [fitsR_w1_at (by omega) (by omega) (by omega) (by omega)]
  by_cases c2 : a % 4294967296 + (0 - b % 4294967296) < 0
  · simp only [if_pos c2, Br.run, cond_eq_ite, decide_eq_true_eq]
    split
    · have : (a / 4294967296 + (0 - b / 4294967296) - 1 ≤ 2147483647) ↔ In64 (a - b) := by unfold In64; omega
      simp only [this]
    · have : ¬ In64 (a - b) := by unfold In64; omega
      simp only [decide_eq_false this]
  · simp only [if_neg c2, Br.run, cond_eq_ite, decide_eq_true_eq]
    split
    · have : (a / 4294967296 + (0 - b / 4294967296) ≤ 2147483647) ↔ In64 (a - b) := by unfold In64; omega
      simp only [this]
    · have : ¬ In64 (a - b) := by unfold In64; omega
      simp only [decide_eq_false this]

theorem le_tdiv {M x y : Int} (hM : 0 ≤ M) (hy : 0 < y) : x ≤ M.tdiv y ↔ x * y ≤ M := by
  rw [Int.tdiv_eq_ediv_of_nonneg hM]
  exact Int.le_ediv_iff_mul_le hy
theorem ge_tdiv {M x y : Int} (hM : 0 ≤ M) (hy : 0 < y) : x ≥ (-M).tdiv y ↔ -M ≤ x * y := by
  rw [Int.neg_tdiv]
  have := le_tdiv (x := -x) hM hy
  rw [Int.neg_mul] at this
  constructor
  · intro h
    have := this.1 (by omega)
    omega
  · intro h
    have := this.2 (by omega)
    omega
theorem tdiv_in {M y : Int} (h : In64 M) (hy : y ≠ 0) (h' : ¬ (M = -9223372036854775808 ∧ y = -1)) : In64 (M.tdiv y) := by
  by_cases h1 : y = 1
  · rw [h1, Int.tdiv_one]; exact h
  obtain ⟨m1, m2⟩ := h
  by_cases h2 : y = -1
  · rw [h2, Int.tdiv_neg, Int.tdiv_one]
    unfold In64; omega
  · have hya : 2 ≤ y.natAbs := by omega
    have h3 := Nat.div_le_div_left (a := M.natAbs) hya (by decide)
    have h4 : (M.tdiv y).natAbs = M.natAbs / y.natAbs := Int.natAbs_tdiv M y
    unfold In64
    omega

theorem productR_at {a b : Int} (ha : In64 a) (hb : In64 b) : productR (a, b, ()) = some (decide (In64 (a * b)), ()) := by
  have hMx : In64 9223372036854775807 := by decide
  have hMn : In64 (-9223372036854775808) := by decide
  unfold productR productR_B
  simp only [Br.run, cond_eq_ite, decide_eq_true_eq, beq_iff_eq, bne_iff_ne, gt_iff_lt, ge_iff_le]
  by_cases a0 : a = 0
  · subst a0
    have : In64 0 := by decide
    simp only [if_true, Int.zero_mul, decide_eq_true this]
  by_cases b0 : b = 0
  · subst b0
    have : In64 0 := by decide
    simp only [a0, if_true, if_false, Int.mul_zero, decide_eq_true this]
  simp only [a0, b0, if_false]
  rcases Int.lt_or_gt_of_ne a0 with an | ap
  · have ap' : ¬ 0 < a := by omega
    simp only [ap', an, if_true, if_false]
    rcases Int.lt_or_gt_of_ne b0 with bn | bp
    · simp only [bn, if_true]
      have hpos : 0 < a * b := Int.mul_pos_of_neg_of_neg an bn
      by_cases bm : b = -9223372036854775808
      · have hno : ¬ In64 (a * b) := by
          intro h; obtain ⟨_, h⟩ := h; subst bm
          omega
        simp only [bm, ne_eq, not_true_eq_false, if_false]
        rw [bm] at hno
        have h1 : ¬ ((-9223372036854775808 : Int) = -1) := by decide
        by_cases a1 : a = -1
        · simp only [a1, if_true, h1, if_false]
          rw [a1] at hno
          simp only [decide_eq_false hno]
        · simp only [a1, if_false, h1, decide_eq_false hno]
      · simp only [ne_eq, bm, not_false_eq_true, if_true]
        by_cases am : a = -9223372036854775808
        · have hno : ¬ In64 (a * b) := by
            intro h; obtain ⟨_, h⟩ := h; subst am
            omega
          simp only [am, not_true_eq_false, if_false]
          rw [am] at hno
          have h1 : ¬ ((-9223372036854775808 : Int) = -1) := by decide
          by_cases b1 : b = -1
          · simp only [b1, if_true, h1, if_false]
            rw [b1] at hno
            simp only [decide_eq_false hno]
            rfl
          · simp only [b1, if_false, h1, decide_eq_false hno]
        · simp only [am, not_false_eq_true, if_true]
          obtain ⟨x1, x2⟩ := ha
          obtain ⟨y1, y2⟩ := hb
          have w1 : IntKind.wrap .i64 (0 - a) = -a := by rw [wrap_small (by omega) (by omega)]; omega
          have w2 : IntKind.wrap .i64 (0 - b) = -b := by rw [wrap_small (by omega) (by omega)]; omega
          have hnb : ¬ (-b = 0) := by omega
          have w3 : IntKind.wrap .i64 (Int.tdiv 9223372036854775807 (-b)) = Int.tdiv 9223372036854775807 (-b) := wrap_in (tdiv_in hMx hnb (by omega))
          simp only [w1, w2, hnb, if_false, w3]
          have key := le_tdiv (M := 9223372036854775807) (x := -a) (y := -b) (by omega) (by omega)
          rw [Int.neg_mul_neg] at key
          have hin : In64 (a * b) ↔ a * b ≤ 9223372036854775807 := by unfold In64; omega
          by_cases hk : -a ≤ Int.tdiv 9223372036854775807 (-b)
          · have : In64 (a * b) := hin.2 (key.1 hk)
            simp only [hk, if_true, decide_eq_true this]
          · have hno : ¬ In64 (a * b) := fun h => hk (key.2 (hin.1 h))
            simp only [hk, if_false]
            by_cases a1 : a = -1
            · exfalso
              subst a1
              apply hno
              unfold In64
              omega
            · by_cases b1 : b = -1
              · exfalso
                subst b1
                apply hno
                unfold In64
                omega
              · simp only [a1, b1, if_false, decide_eq_false hno]
    · have bn' : ¬ b < 0 := by omega
      have bp' : 0 < b := bp
      have w3 : IntKind.wrap .i64 (Int.tdiv (-9223372036854775808) b) = Int.tdiv (-9223372036854775808) b := wrap_in (tdiv_in hMn b0 (by omega))
      simp only [bn', if_false, w3]
      have key := ge_tdiv (M := 9223372036854775808) (x := a) (y := b) (by omega) bp
      have hneg : a * b < 0 := Int.mul_neg_of_neg_of_pos an bp
      have hin : (Int.tdiv (-9223372036854775808) b ≤ a) ↔ In64 (a * b) := by
        rw [show (Int.tdiv (-9223372036854775808) b ≤ a) ↔ _ from key]
        unfold In64; omega
      simp only [hin]
  · have an' : ¬ a < 0 := by omega
    have ap' : 0 < a := ap
    simp only [ap', if_true]
    rcases Int.lt_or_gt_of_ne b0 with bn | bp
    · have bp' : ¬ 0 < b := by omega
      simp only [bp', an', if_false]
      have w3 : IntKind.wrap .i64 (Int.tdiv (-9223372036854775808) a) = Int.tdiv (-9223372036854775808) a := wrap_in (tdiv_in hMn a0 (by omega))
      simp only [w3]
      have key := ge_tdiv (M := 9223372036854775808) (x := b) (y := a) (by omega) ap
      have hneg : a * b < 0 := Int.mul_neg_of_pos_of_neg ap bn
      have hin : (Int.tdiv (-9223372036854775808) a ≤ b) ↔ In64 (a * b) := by
        rw [show (Int.tdiv (-9223372036854775808) a ≤ b) ↔ _ from key, Int.mul_comm b a]
        unfold In64; omega
      simp only [hin]
    · have bp' : 0 < b := bp
      have w3 : IntKind.wrap .i64 (Int.tdiv 9223372036854775807 b) = Int.tdiv 9223372036854775807 b := wrap_in (tdiv_in hMx b0 (by omega))
      simp only [bp', if_true, w3]
      have key := le_tdiv (M := 9223372036854775807) (x := a) (y := b) (by omega) bp
      have hpos : 0 < a * b := Int.mul_pos ap bp
      have hin : (a ≤ Int.tdiv 9223372036854775807 b) ↔ In64 (a * b) := by
        rw [key]; unfold In64; omega
      simp only [hin]

end Go.Proofs.Ytnhiplibodkciaa

namespace Go.Proofs.Ytnhiplibodkciaa
open Go.PI Go

abbrev zV : Val := (0, 0, ByteArray.empty, false)
abbrev iV (i : Int) : Val := (1, i, ByteArray.empty, false)
abbrev sV (s : ByteArray) : Val := (2, 0, s, false)
abbrev bV (b : Bool) : Val := (3, 0, ByteArray.empty, b)
theorem numbersE_w0_at (op : Int) (k : List Val) (hk : k.length ≤ 64) (i : Int) (h0 : 0 ≤ i) (h1 : i ≤ k.length) (v : Val) :
    numbersE_w0 (op, k, k, (k.length : Int), i, v, ()) = some (if (k.drop i.toNat).all (fun x => x.1 == 1) = true then .inr (op, k, v, ()) else .inl (zV, ())) := by
  suffices h : ∃ z, numbersE_w0 (op, k, k, (k.length : Int), i, v, ()) = some z ∧ z = (if (k.drop i.toNat).all (fun x => x.1 == 1) = true then .inr (op, k, v, ()) else .inl (zV, ())) by
    obtain ⟨z, h, rfl⟩ := h
    exact h
  refine iterO_rec (step := fun x => (numbersE_l0 x).run) (Q := fun x z => z = (if (k.drop x.2.2.2.2.1.toNat).all (fun x => x.1 == 1) = true then .inr (op, k, v, ()) else .inl (zV, ()))) (fun x => x.1 = op ∧ x.2.1 = k ∧ x.2.2.1 = k ∧ x.2.2.2.1 = (k.length : Int) ∧ 0 ≤ x.2.2.2.2.1 ∧ x.2.2.2.2.1 ≤ k.length ∧ x.2.2.2.2.2.1 = v) (fun x => ((k.length : Int) - x.2.2.2.2.1).toNat) ?_ _ ⟨rfl, rfl, rfl, rfl, h0, h1, rfl⟩
  rintro ⟨op', k', k'', n, i, v', ⟨⟩⟩ hx
  dsimp only at hx ⊢
  obtain ⟨rfl, rfl, rfl, rfl, h0, h1, rfl⟩ := hx
  unfold numbersE_l0
  by_cases hi : i < (k''.length : Int)
  · have hw : IntKind.wrap .i64 (i + 1) = i + 1 := wrap_small (by omega) (by omega)
    rw [drop_get k'' i (0, 0, ByteArray.empty, false) h0 hi]
    simp only [Br.run, decide_eq_true hi, decide_eq_true h0, Bool.and_self, cond_true, hw, cond_eq_ite, List.all_cons, bne]
    by_cases hq : ((k''.getD i.toNat (0, 0, ByteArray.empty, false)).1 == 1) = true
    · simp only [hq, Bool.true_and, Bool.not_true, Bool.false_eq_true, ↓reduceIte]
      exact .inl ⟨_, rfl, ⟨rfl, rfl, rfl, rfl, by dsimp only; omega, by dsimp only; omega, rfl⟩, by dsimp only; omega, fun z hz => hz⟩
    · simp only [hq, Bool.false_and, Bool.not_false, Bool.false_eq_true, ↓reduceIte]
      exact .inr ⟨_, rfl, rfl⟩
  · simp only [Br.run, decide_eq_false hi, cond_false]
    have : k''.drop i.toNat = [] := List.drop_eq_nil_of_le (by omega)
    rw [this]
    exact .inr ⟨_, rfl, rfl⟩

theorem truthsE_w0_at (op : Int) (k : List Val) (hk : k.length ≤ 64) (i : Int) (h0 : 0 ≤ i) (h1 : i ≤ k.length) (v : Val) :
    truthsE_w0 (op, k, k, (k.length : Int), i, v, ()) = some (if (k.drop i.toNat).all (fun x => x.1 == 3) = true then .inr (op, k, v, ()) else .inl (zV, ())) := by
  suffices h : ∃ z, truthsE_w0 (op, k, k, (k.length : Int), i, v, ()) = some z ∧ z = (if (k.drop i.toNat).all (fun x => x.1 == 3) = true then .inr (op, k, v, ()) else .inl (zV, ())) by
    obtain ⟨z, h, rfl⟩ := h
    exact h
  refine iterO_rec (step := fun x => (truthsE_l0 x).run) (Q := fun x z => z = (if (k.drop x.2.2.2.2.1.toNat).all (fun x => x.1 == 3) = true then .inr (op, k, v, ()) else .inl (zV, ()))) (fun x => x.1 = op ∧ x.2.1 = k ∧ x.2.2.1 = k ∧ x.2.2.2.1 = (k.length : Int) ∧ 0 ≤ x.2.2.2.2.1 ∧ x.2.2.2.2.1 ≤ k.length ∧ x.2.2.2.2.2.1 = v) (fun x => ((k.length : Int) - x.2.2.2.2.1).toNat) ?_ _ ⟨rfl, rfl, rfl, rfl, h0, h1, rfl⟩
  rintro ⟨op', k', k'', n, i, v', ⟨⟩⟩ hx
  dsimp only at hx ⊢
  obtain ⟨rfl, rfl, rfl, rfl, h0, h1, rfl⟩ := hx
  unfold truthsE_l0
  by_cases hi : i < (k''.length : Int)
  · have hw : IntKind.wrap .i64 (i + 1) = i + 1 := wrap_small (by omega) (by omega)
    rw [drop_get k'' i (0, 0, ByteArray.empty, false) h0 hi]
    simp only [Br.run, decide_eq_true hi, decide_eq_true h0, Bool.and_self, cond_true, hw, cond_eq_ite, List.all_cons, bne]
    by_cases hq : ((k''.getD i.toNat (0, 0, ByteArray.empty, false)).1 == 3) = true
    · simp only [hq, Bool.true_and, Bool.not_true, Bool.false_eq_true, ↓reduceIte]
      exact .inl ⟨_, rfl, ⟨rfl, rfl, rfl, rfl, by dsimp only; omega, by dsimp only; omega, rfl⟩, by dsimp only; omega, fun z hz => hz⟩
    · simp only [hq, Bool.false_and, Bool.not_false, Bool.false_eq_true, ↓reduceIte]
      exact .inr ⟨_, rfl, rfl⟩
  · simp only [Br.run, decide_eq_false hi, cond_false]
    have : k''.drop i.toNat = [] := List.drop_eq_nil_of_le (by omega)
    rw [this]
    exact .inr ⟨_, rfl, rfl⟩

def cmpT (op : Int) (lt eq : Bool) : Bool := if op = 7 then eq else if op = 8 then !eq else if op = 9 then lt else if op = 10 then lt || eq else if op = 11 then !lt && !eq else !lt

theorem holdsE_at (op c : Int) : holdsE (op, c, ()) = some (cmpT op (decide (c < 0)) (decide (c = 0)), ()) := by
  unfold holdsE holdsE_B cmpT
  simp only [Br.run, cond_eq_ite, beq_iff_eq]
  by_cases h7 : op = 7
  · simp only [h7, ↓reduceIte]; rfl
  by_cases h8 : op = 8
  · simp only [h8, ↓reduceIte]; rfl
  by_cases h9 : op = 9
  · simp only [h9, ↓reduceIte]; rfl
  by_cases h10 : op = 10
  · simp only [h10, ↓reduceIte]
    have : decide (c ≤ 0) = (decide (c < 0) || decide (c = 0)) := by
      rw [Bool.eq_iff_iff]; simp; omega
    rw [this]; rfl
  by_cases h11 : op = 11
  · simp only [h11, ↓reduceIte]
    have : decide (c > 0) = (!decide (c < 0) && !decide (c = 0)) := by
      rw [Bool.eq_iff_iff]; simp; omega
    rw [this]; rfl
  simp only [h7, h8, h9, h10, h11, ↓reduceIte]
  have : decide (c ≥ 0) = !decide (c < 0) := by
    rw [Bool.eq_iff_iff]; simp
  rw [this]

end Go.Proofs.Ytnhiplibodkciaa

namespace Go.Proofs.Ytnhiplibodkciaa
open Go.PI Go

theorem addN_tot (a b : Int) : ∃ v t, addN (a, b, ()) = some ((v, t), ()) := by
  unfold addN addN_B
  simp only [Br.run, cond_eq_ite]
  repeat' split
  all_goals exact ⟨_, _, rfl⟩
theorem subN_tot (a b : Int) : ∃ v t, subN (a, b, ()) = some ((v, t), ()) := by
  unfold subN subN_B
  simp only [Br.run, cond_eq_ite]
  repeat' split
  all_goals exact ⟨_, _, rfl⟩
theorem mulN_tot (a b : Int) : ∃ v t, mulN (a, b, ()) = some ((v, t), ()) := by
  unfold mulN mulN_B
  simp only [Br.run, cond_eq_ite, beq_iff_eq, decide_eq_true_eq]
  by_cases b0 : b = 0
  · simp only [b0, ↓reduceIte]
    split <;> exact ⟨_, _, rfl⟩
  simp only [b0, ↓reduceIte]
  repeat' split
  all_goals exact ⟨_, _, rfl⟩
theorem negN_tot (a : Int) : ∃ v t, negN (a, ()) = some ((v, t), ()) := by
  unfold negN negN_B
  obtain ⟨v, t, h⟩ := subN_tot 0 a
  simp only [Br.run, h]
  exact ⟨_, _, rfl⟩
theorem compareV_tot (a b : Val) : ∃ v t, compareV (a, b, ()) = some ((v, t), ()) := by
  unfold compareV compareV_B bitV bitV_B compareS compareS_B cmpStr signV signV_B
  simp only [Br.run, cond_eq_ite]
  repeat' split
  all_goals first
    | exact ⟨_, _, rfl⟩
    | (cases decide (a.2.1 > b.2.1) <;> cases decide (a.2.1 < b.2.1) <;> exact ⟨_, _, rfl⟩)
    | (cases a.2.2.2 <;> cases b.2.2.2 <;> exact ⟨_, _, rfl⟩)
theorem numbersE_tot (op : Int) (k : List Val) (hk : k.length ≤ 64) (h1 : 1 ≤ k.length) (h2 : op ≠ 3 → 2 ≤ k.length) : ∃ v t, numbersE (op, k, ()) = some ((v, t), ()) := by
  unfold numbersE numbersE_B numV numV_B
  simp only [Br.run]
  rw [numbersE_w0_at op k hk 0 (by omega) (by omega)]
  split
  · simp only [Br.run]
    have e0 : (decide ((0 : Int) ≤ 0) && decide ((0 : Int) < ((List.length k : Nat) : Int))) = true := by simp; omega
    have e0' : (decide ((0 : Nat) ≤ 0) && decide ((0 : Int) < ((List.length k : Nat) : Int))) = true := by simp; omega
    obtain ⟨v3, t3, q3⟩ := negN_tot (Prod.fst (Prod.snd (List.getD k (Int.toNat 0) (0, 0, ByteArray.empty, false))))
    obtain ⟨v4, t4, q4⟩ := addN_tot (Prod.fst (Prod.snd (List.getD k (Int.toNat 0) (0, 0, ByteArray.empty, false)))) (Prod.fst (Prod.snd (List.getD k (Int.toNat 1) (0, 0, ByteArray.empty, false))))
    obtain ⟨v5, t5, q5⟩ := subN_tot (Prod.fst (Prod.snd (List.getD k (Int.toNat 0) (0, 0, ByteArray.empty, false)))) (Prod.fst (Prod.snd (List.getD k (Int.toNat 1) (0, 0, ByteArray.empty, false))))
    obtain ⟨v6, t6, q6⟩ := mulN_tot (Prod.fst (Prod.snd (List.getD k (Int.toNat 0) (0, 0, ByteArray.empty, false)))) (Prod.fst (Prod.snd (List.getD k (Int.toNat 1) (0, 0, ByteArray.empty, false))))
    simp only [e0, e0', cond_true, q3, q4, q5, q6, Br.run]
    by_cases c3 : op = 3
    · simp only [c3, cond_eq_ite, beq_self_eq_true, ↓reduceIte]
      cases t3 <;> exact ⟨_, _, rfl⟩
    · have e1 : (decide ((0 : Int) ≤ 1) && decide ((1 : Int) < ((List.length k : Nat) : Int))) = true := by have := h2 c3; simp; omega
      have e1' : (decide ((0 : Nat) ≤ 1) && decide ((1 : Int) < ((List.length k : Nat) : Int))) = true := by have := h2 c3; simp; omega
      have hk1 : (1 : Int) < ((List.length k : Nat) : Int) := by have := h2 c3; omega
      simp only [e1, e1', cond_true, cond_eq_ite, decide_eq_true hk1, Int.reduceLE, Nat.reduceLeDiff, decide_true, Bool.and_self, ↓reduceIte]
      repeat' split
      all_goals exact ⟨_, _, rfl⟩
  · exact ⟨_, _, rfl⟩
theorem truthsE_tot (op : Int) (k : List Val) (hk : k.length ≤ 64) (h1 : 1 ≤ k.length) (h2 : op ≠ 13 → 2 ≤ k.length) : ∃ v t, truthsE (op, k, ()) = some ((v, t), ()) := by
  unfold truthsE truthsE_B truthV truthV_B
  simp only [Br.run]
  rw [truthsE_w0_at op k hk 0 (by omega) (by omega)]
  split
  · simp only [Br.run]
    have e0 : (decide ((0 : Int) ≤ 0) && decide ((0 : Int) < ((List.length k : Nat) : Int))) = true := by simp; omega
    have e0' : (decide ((0 : Nat) ≤ 0) && decide ((0 : Int) < ((List.length k : Nat) : Int))) = true := by simp; omega
    simp only [e0, e0', cond_true, Br.run]
    by_cases c3 : op = 13
    · simp only [c3, cond_eq_ite, beq_self_eq_true, ↓reduceIte]
      exact ⟨_, _, rfl⟩
    · have e1 : (decide ((0 : Int) ≤ 1) && decide ((1 : Int) < ((List.length k : Nat) : Int))) = true := by have := h2 c3; simp; omega
      have e1' : (decide ((0 : Nat) ≤ 1) && decide ((1 : Int) < ((List.length k : Nat) : Int))) = true := by have := h2 c3; simp; omega
      have hk1 : (1 : Int) < ((List.length k : Nat) : Int) := by have := h2 c3; omega
      simp only [e1, e1', cond_true, cond_eq_ite, decide_eq_true hk1, Int.reduceLE, Nat.reduceLeDiff, decide_true, Bool.and_self, ↓reduceIte]
      repeat' split
      all_goals exact ⟨_, _, rfl⟩
  · exact ⟨_, _, rfl⟩
theorem applyE_tot (op : Int) (k : List Val) (hk : k.length ≤ 64) (h0 : 1 ≤ pt op) (h1 : k.length = (pt op).toNat) : ∃ v t, applyE (op, k, ()) = some ((v, t), ()) := by
  have hl : 1 ≤ k.length ∧ (op ≠ 3 → op ≠ 13 → 2 ≤ k.length) ∧ (op = 3 ∨ 4 ≤ op) := by
    unfold pt at h0 h1
    repeat' split at h0
    all_goals first | omega | (refine ⟨?_, ?_, ?_⟩ <;> (repeat' split at h1) <;> omega)
  unfold applyE applyE_B truthV truthV_B
  simp only [Br.run, cond_eq_ite, decide_eq_true_eq]
  by_cases c1 : op ≤ 6
  · obtain ⟨v, t, q⟩ := numbersE_tot op k hk hl.1 (fun h3 => hl.2.1 h3 (by omega))
    simp only [c1, ↓reduceIte, q, Br.run]
    exact ⟨_, _, rfl⟩
  simp only [c1, ↓reduceIte]
  by_cases c2 : op ≤ 12
  · obtain ⟨v, t, q⟩ := compareV_tot (List.getD k (Int.toNat 0) (0, 0, ByteArray.empty, false)) (List.getD k (Int.toNat 1) (0, 0, ByteArray.empty, false))
    have h2 := hl.2.1 (by omega) (by omega)
    have e0 : (decide ((0 : Int) ≤ 0) && decide ((0 : Int) < ((List.length k : Nat) : Int))) = true := by simp; omega
    have e0' : (decide ((0 : Nat) ≤ 0) && decide ((0 : Int) < ((List.length k : Nat) : Int))) = true := by simp; omega
    have e1 : (decide ((0 : Int) ≤ 1) && decide ((1 : Int) < ((List.length k : Nat) : Int))) = true := by simp; omega
    have e1' : (decide ((0 : Nat) ≤ 1) && decide ((1 : Int) < ((List.length k : Nat) : Int))) = true := by simp; omega
    simp only [c2, ↓reduceIte, e0, e0', e1, e1', q, Br.run, holdsE_at]
    cases t <;> exact ⟨_, _, rfl⟩
  · obtain ⟨v, t, q⟩ := truthsE_tot op k hk hl.1 (fun h3 => hl.2.1 (by omega) h3)
    simp only [c2, ↓reduceIte, q, Br.run]
    exact ⟨_, _, rfl⟩
end Go.Proofs.Ytnhiplibodkciaa

namespace Go.Proofs.Ytnhiplibodkciaa
open Go.PI Go

def FvTot (s : Sch) (env : List Bnd) : Prop := ∀ n : Nd, ∃ v b, fieldV (s, env, n, ()) = some ((v, b), ())
def optV : Option ((Val × Bool) × Unit) → Option Val
  | some ((v, true), ()) => some v
  | _ => none
noncomputable def valS (s : Sch) (env : List Bnd) (st : List Val) (n : Nd) : Option Val :=
  if n.1 = 1 then some n.2.1 else if n.1 = 2 then optV (fieldV (s, env, n, ())) else optV (applyE (n.1, st.drop (st.length - (pt n.1).toNat), ()))
noncomputable def foldS (s : Sch) (env : List Bnd) : List Val → List Nd → Option (List Val)
  | st, [] => some st
  | st, n :: r => match valS s env st n with
    | some v => foldS s env (st.take (st.length - (pt n.1).toNat) ++ [v]) r
    | none => none

theorem push_eq (st : List Val) (q : Int) (v : Val) (h0 : 0 ≤ q) (h1 : q ≤ st.length) : List.take (Int.toNat ((st.length : Int) - q) - Int.toNat 0) (List.drop (0 + Int.toNat 0) st) ++ List.set (List.replicate 1 (0, 0, ByteArray.empty, false)) 0 v = st.take (st.length - q.toNat) ++ [v] := by
  have e : Int.toNat ((st.length : Int) - q) - Int.toNat 0 = st.length - q.toNat := by omega
  rw [e]
  rfl
theorem pop_eq (st : List Val) (q : Int) (h0 : 0 ≤ q) (h1 : q ≤ st.length) : List.take (Int.toNat (st.length : Int) - Int.toNat ((st.length : Int) - q)) (List.drop (0 + Int.toNat ((st.length : Int) - q)) st) = st.drop (st.length - q.toNat) := by
  have e : 0 + Int.toNat ((st.length : Int) - q) = st.length - q.toNat := by omega
  rw [e]
  refine List.take_of_length_le ?_
  rw [List.length_drop]
  omega

theorem evalE_w0_at {s : Sch} {env : List Bnd} (hF : FvTot s env) (l : List Nd) (hl : l.length ≤ 64) (v : Val) (i : Int) (st : List Val) (h0 : 0 ≤ i) (h1 : i ≤ l.length) (h2 : (st.length : Int) ≤ i) (h3 : runD st.length (l.drop i.toNat) ≠ none) :
    evalE_w0 (s, env, l, (l.length : Int), i, v, st, ()) = some (match foldS s env st (l.drop i.toNat) with | none => .inl (zV, ()) | some st' => .inr (v, st', ())) := by
  suffices h : ∃ z, evalE_w0 (s, env, l, (l.length : Int), i, v, st, ()) = some z ∧ z = (match foldS s env st (l.drop i.toNat) with | none => .inl (zV, ()) | some st' => .inr (v, st', ())) by
    obtain ⟨z, h, rfl⟩ := h
    exact h
  refine iterO_rec (step := fun x => (evalE_l0 x).run) (Q := fun x z => z = (match foldS s env x.2.2.2.2.2.2.1 (l.drop x.2.2.2.2.1.toNat) with | none => .inl (zV, ()) | some st' => .inr (v, st', ())))
    (fun x => x.1 = s ∧ x.2.1 = env ∧ x.2.2.1 = l ∧ x.2.2.2.1 = (l.length : Int) ∧ 0 ≤ x.2.2.2.2.1 ∧ x.2.2.2.2.1 ≤ l.length ∧ x.2.2.2.2.2.1 = v ∧ (x.2.2.2.2.2.2.1.length : Int) ≤ x.2.2.2.2.1 ∧ runD x.2.2.2.2.2.2.1.length (l.drop x.2.2.2.2.1.toNat) ≠ none)
    (fun x => ((l.length : Int) - x.2.2.2.2.1).toNat) ?_ _ ⟨rfl, rfl, rfl, rfl, h0, h1, rfl, h2, h3⟩
  rintro ⟨s', env', l', n, i, v', st, ⟨⟩⟩ hx
  dsimp only at hx ⊢
  obtain ⟨rfl, rfl, rfl, rfl, h0, h1, rfl, h2, h3⟩ := hx
  unfold evalE_l0
  by_cases hi : i < (l'.length : Int)
  · have hw : IntKind.wrap .i64 (i + 1) = i + 1 := wrap_small (by omega) (by omega)
    rw [drop_get l' i (0, (0, 0, ByteArray.empty, false), ByteArray.empty, ByteArray.empty) h0 hi] at h3 ⊢
    generalize hnd : l'.getD i.toNat (0, (0, 0, ByteArray.empty, false), ByteArray.empty, ByteArray.empty) = nd at h3 ⊢
    simp only [runD] at h3
    have p1 : ¬ pt nd.1 < 0 := fun h => by simp only [h, ↓reduceIte] at h3; exact h3 rfl
    simp only [p1, ↓reduceIte] at h3
    have p2 : ¬ nodeOk nd = false := fun h => by simp only [h, ↓reduceIte] at h3; exact h3 rfl
    simp only [p2, ↓reduceIte] at h3
    have p3 : ¬ (st.length : Int) < pt nd.1 := fun h => by simp only [h, ↓reduceIte] at h3; exact h3 rfl
    simp only [p3, ↓reduceIte] at h3
    obtain ⟨hp2, hp1⟩ := pt_le nd.1
    have hq : IntKind.wrap .i64 ((st.length : Int) - pt nd.1) = (st.length : Int) - pt nd.1 := wrap_small (by omega) (by omega)
    have f1 : 0 ≤ (st.length : Int) - pt nd.1 := by omega
    have f2 : (st.length : Int) - pt nd.1 ≤ (st.length : Int) := by omega
    have c2 : (decide (0 ≤ (st.length : Int) - pt nd.1) && decide ((st.length : Int) - pt nd.1 ≤ (st.length : Int)) && decide ((st.length : Int) ≤ (st.length : Int))) = true := by simp; omega
    have c3 : ∀ v : Val, (decide ((List.length (List.take (Int.toNat ((st.length : Int) - pt nd.1) - Int.toNat 0) (List.drop (0 + Int.toNat 0) st)) + List.length (List.set (List.replicate 1 ((0, 0, ByteArray.empty, false) : Val)) 0 v)) * 40 ≤ 140737488355328) && decide (0 < List.length (List.set (List.replicate 1 ((0, 0, ByteArray.empty, false) : Val)) 0 v))) = true := by
      intro v
      have e1 : (List.set (List.replicate 1 ((0, 0, ByteArray.empty, false) : Val)) 0 v).length = 1 := rfl
      have e2 : (List.take (Int.toNat ((st.length : Int) - pt nd.1) - Int.toNat 0) (List.drop (0 + Int.toNat 0) st)).length ≤ st.length := by
        rw [List.length_take, List.length_drop]; omega
      rw [e1]
      simp only [Bool.and_eq_true, decide_eq_true_eq]
      omega
    have hnext : ∀ w : Val, valS s' env' st nd = some w → (0 ≤ i + 1 ∧ i + 1 ≤ (l'.length : Int) ∧ (((st.take (st.length - (pt nd.1).toNat) ++ [w]).length : Nat) : Int) ≤ i + 1 ∧ runD ((st.take (st.length - (pt nd.1).toNat) ++ [w]).length : Nat) (l'.drop (i + 1).toNat) ≠ none) := by
      intro w _
      have e : (((st.take (st.length - (pt nd.1).toNat) ++ [w]).length : Nat) : Int) = st.length + 1 - pt nd.1 := by
        rw [List.length_append, List.length_take, List.length_singleton]; omega
      rw [e]
      exact ⟨by omega, by omega, by omega, h3⟩
    simp only [Br.run, decide_eq_true hi, decide_eq_true h0, Bool.and_self, cond_true, hw, hnd, partsT_at, hq]
    by_cases o1 : nd.1 = 1
    · have b1 : (nd.1 == 1) = true := by rw [o1]; rfl
      have hv : valS s' env' st nd = some nd.2.1 := by unfold valS; rw [if_pos o1]
      simp only [b1, cond_true, decide_eq_true f1, decide_eq_true f2, decide_eq_true (Nat.le_refl 0), decide_eq_true (Int.le_refl 0), decide_true, Bool.and_self, c3, push_eq st (pt nd.1) nd.2.1 (by omega) (by omega)]
      obtain ⟨g1, g2, g3, g4⟩ := hnext _ hv
      refine .inl ⟨_, rfl, ?_, ?_, ?_⟩
      · exact ⟨rfl, rfl, rfl, rfl, g1, g2, rfl, g3, g4⟩
      · dsimp only; omega
      · intro z hz
        rw [hz, foldS, hv]
    · have b1 : (nd.1 == 1) = false := by rw [beq_eq_false_iff_ne]; exact o1
      by_cases o2 : nd.1 = 2
      · have b2 : (nd.1 == 2) = true := by rw [o2]; rfl
        obtain ⟨w, t, hf⟩ := hF nd
        simp only [b1, b2, cond_true, cond_false, hf, Br.run]
        cases t with
        | false =>
          have hv : valS s' env' st nd = none := by unfold valS; rw [if_neg o1, if_pos o2, hf]; rfl
          refine .inr ⟨_, rfl, ?_⟩
          rw [foldS, hv]
        | true =>
          have hv : valS s' env' st nd = some w := by unfold valS; rw [if_neg o1, if_pos o2, hf]; rfl
          simp only [Bool.not_true, cond_false, decide_eq_true f1, decide_eq_true f2, decide_eq_true (Nat.le_refl 0), decide_eq_true (Int.le_refl 0), decide_true, Bool.and_self, c3, cond_true, push_eq st (pt nd.1) w (by omega) (by omega)]
          obtain ⟨g1, g2, g3, g4⟩ := hnext _ hv
          refine .inl ⟨_, rfl, ?_, ?_, ?_⟩
          · exact ⟨rfl, rfl, rfl, rfl, g1, g2, rfl, g3, g4⟩
          · dsimp only; omega
          · intro z hz
            rw [hz, foldS, hv]
      · have b2 : (nd.1 == 2) = false := by rw [beq_eq_false_iff_ne]; exact o2
        have hpos : 1 ≤ pt nd.1 := by
          have := p1
          unfold pt at this ⊢
          simp only [o1, o2, ↓reduceIte] at this ⊢
          repeat' split
          all_goals first | omega | (simp only [*, ↓reduceIte] at this; omega)
        have hlen : (st.drop (st.length - (pt nd.1).toNat)).length = (pt nd.1).toNat := by
          rw [List.length_drop]; omega
        obtain ⟨w, t, hf⟩ := applyE_tot nd.1 (st.drop (st.length - (pt nd.1).toNat)) (by omega) hpos hlen
        simp only [b1, b2, cond_true, cond_false, c2, pop_eq st (pt nd.1) (by omega) (by omega), hf, Br.run]
        cases t with
        | false =>
          have hv : valS s' env' st nd = none := by unfold valS; rw [if_neg o1, if_neg o2, hf]; rfl
          refine .inr ⟨_, rfl, ?_⟩
          rw [foldS, hv]
        | true =>
          have hv : valS s' env' st nd = some w := by unfold valS; rw [if_neg o1, if_neg o2, hf]; rfl
          simp only [Bool.not_true, cond_false, decide_eq_true f1, decide_eq_true f2, decide_eq_true (Nat.le_refl 0), decide_eq_true (Int.le_refl 0), decide_true, Bool.and_self, c3, cond_true, push_eq st (pt nd.1) w (by omega) (by omega)]
          obtain ⟨g1, g2, g3, g4⟩ := hnext _ hv
          refine .inl ⟨_, rfl, ?_, ?_, ?_⟩
          · exact ⟨rfl, rfl, rfl, rfl, g1, g2, rfl, g3, g4⟩
          · dsimp only; omega
          · intro z hz
            rw [hz, foldS, hv]
  · simp only [Br.run, decide_eq_false hi, cond_false]
    have : l'.drop i.toNat = [] := List.drop_eq_nil_of_le (by omega)
    rw [this]
    exact .inr ⟨_, rfl, rfl⟩

theorem foldS_len {s : Sch} {env : List Bnd} : ∀ (l : List Nd) (st st' : List Val), runD st.length l = some 1 → foldS s env st l = some st' → st'.length = 1
  | [], st, st', h, h2 => by
    simp only [runD, foldS, Option.some.injEq] at h h2
    subst h2; omega
  | n :: r, st, st', h, h2 => by
    simp only [runD] at h
    have p1 : ¬ pt n.1 < 0 := fun q => by simp only [q, ↓reduceIte] at h; cases h
    simp only [p1, ↓reduceIte] at h
    have p2 : ¬ nodeOk n = false := fun q => by simp only [q, ↓reduceIte] at h; cases h
    simp only [p2, ↓reduceIte] at h
    have p3 : ¬ (st.length : Int) < pt n.1 := fun q => by simp only [q, ↓reduceIte] at h; cases h
    simp only [p3, ↓reduceIte] at h
    simp only [foldS] at h2
    cases hv : valS s env st n with
    | none => rw [hv] at h2; cases h2
    | some v =>
      rw [hv] at h2
      refine foldS_len r _ _ ?_ h2
      have e : (((st.take (st.length - (pt n.1).toNat) ++ [v]).length : Nat) : Int) = st.length + 1 - pt n.1 := by
        rw [List.length_append, List.length_take, List.length_singleton]; omega
      rw [e]
      exact h

theorem evalE_at {s : Sch} {env : List Bnd} (hF : FvTot s env) (l : List Nd) :
    evalE (s, l, env, ()) = some (if l.length ≤ 64 ∧ runD 0 l = some 1 then (match foldS s env [] l with | some st => (st.getD 0 zV, true) | none => (zV, false)) else (zV, false), ()) := by
  unfold evalE evalE_B
  simp only [Br.run, mayT_at]
  by_cases hm : l.length ≤ 64 ∧ runD 0 l = some 1
  · obtain ⟨hl, hr⟩ := hm
    have e : (!(decide (l.length ≤ 64) && (runD 0 l == some 1))) = false := by simp [hl, hr]
    simp only [e, cond_false]
    rw [evalE_w0_at hF l hl _ 0 [] (by omega) (by omega) (by simp) (by
      show runD 0 (l.drop (Int.toNat 0)) ≠ none
      rw [Int.toNat_zero, List.drop_zero, hr]; exact fun h => by cases h)]
    rw [Int.toNat_zero, List.drop_zero, if_pos ⟨hl, hr⟩]
    cases hf : foldS s env [] l with
    | none => rfl
    | some st =>
      have h1 := foldS_len l [] st hr hf
      match st, h1 with
      | [v], _ => rfl
  · rw [if_neg hm]
    have e : (!(decide (l.length ≤ 64) && (runD 0 l == some 1))) = true := by
      simp only [Bool.not_eq_true', Bool.and_eq_false_iff, decide_eq_false_iff_not]
      by_cases h : l.length ≤ 64
      · right
        rw [beq_eq_false_iff_ne]
        exact fun q => hm ⟨h, q⟩
      · exact .inl h
    simp only [e, cond_true]
end Go.Proofs.Ytnhiplibodkciaa
