/- Numbers together: what the two sides come to. -/
import Derived.Test.YtnhiplibodkciaaEvA
namespace Go.Proofs.Ytnhiplibodkciaa
open Go.PI Go

/-- Within what 64 bits hold. -/
def In64 (x : Int) : Prop := -9223372036854775808 ≤ x ∧ x ≤ 9223372036854775807
instance (x : Int) : Decidable (In64 x) := by unfold In64; infer_instance
theorem inK_64 {x : Int} : InK .i64 x ↔ In64 x := by
  have h1 : IntKind.min .i64 = -9223372036854775808 := by decide
  have h2 : IntKind.max .i64 = 9223372036854775807 := by decide
  unfold InK In64
  rw [h1, h2]
theorem wrap_in {x : Int} (h : In64 x) : IntKind.wrap .i64 x = x := wrap_small h.1 h.2
theorem wrap_in64 (x : Int) : In64 (IntKind.wrap .i64 x) := inK_64.1 (inK_wrap .i64 x)
theorem wrap_mod (x : Int) : ∃ k : Int, IntKind.wrap .i64 x = x + k * 18446744073709551616 := by
  have hb : (2 ^ IntKind.bits .i64 : Int) = 18446744073709551616 := by decide
  have hs : (2 ^ (IntKind.bits .i64 - 1) : Int) = 9223372036854775808 := by decide
  unfold IntKind.wrap
  rw [hb, hs]
  have h := Int.emod_add_mul_ediv x 18446744073709551616
  show ∃ k : Int, (if (IntKind.signed .i64 && decide (x % 18446744073709551616 ≥ 9223372036854775808)) = true then x % 18446744073709551616 - 18446744073709551616 else x % 18446744073709551616) = x + k * 18446744073709551616
  by_cases hc : (IntKind.signed .i64 && decide (x % 18446744073709551616 ≥ 9223372036854775808)) = true
  · refine ⟨-(x / 18446744073709551616) - 1, ?_⟩
    simp only [hc, if_true]
    omega
  · refine ⟨-(x / 18446744073709551616), ?_⟩
    simp only [hc]
    simp only [Bool.false_eq_true, if_false]
    omega

theorem addN_at {a b : Int} (ha : In64 a) (hb : In64 b) : addN (a, b, ()) = some (if In64 (a + b) then (a + b, true) else (0, false), ()) := by
  obtain ⟨a1, a2⟩ := ha
  obtain ⟨b1, b2⟩ := hb
  unfold addN addN_B
  simp only [Br.run, cond_eq_ite, decide_eq_true_eq, gt_iff_lt]
  by_cases h : In64 (a + b)
  · have h' := h
    obtain ⟨h1, h2⟩ := h'
    rw [if_pos h, wrap_in h]
    have e1 : 0 < b → IntKind.wrap .i64 (9223372036854775807 - b) = 9223372036854775807 - b := fun _ => wrap_small (by omega) (by omega)
    have e2 : b < 0 → IntKind.wrap .i64 (-9223372036854775808 - b) = -9223372036854775808 - b := fun _ => wrap_small (by omega) (by omega)
    by_cases p : 0 < b
    · have q : ¬ b < 0 := by omega
      have r : ¬ (9223372036854775807 - b < a) := by omega
      simp only [p, q, e1 p, r, if_true, if_false]
    · by_cases q : b < 0
      · have r : ¬ (a < -9223372036854775808 - b) := by omega
        simp only [p, q, e2 q, r, if_true, if_false]
      · simp only [p, q, if_true, if_false]
  · rw [if_neg h]
    have e1 : 0 < b → IntKind.wrap .i64 (9223372036854775807 - b) = 9223372036854775807 - b := fun _ => wrap_small (by omega) (by omega)
    have e2 : b < 0 → IntKind.wrap .i64 (-9223372036854775808 - b) = -9223372036854775808 - b := fun _ => wrap_small (by omega) (by omega)
    unfold In64 at h
    by_cases p : 0 < b
    · have r : (9223372036854775807 - b < a) := by omega
      simp only [p, e1 p, r, if_true, if_false]
    · by_cases q : b < 0
      · have r : (a < -9223372036854775808 - b) := by omega
        simp only [p, q, e2 q, r, if_true, if_false]
      · exfalso; omega

theorem subN_at {a b : Int} (ha : In64 a) (hb : In64 b) : subN (a, b, ()) = some (if In64 (a - b) then (a - b, true) else (0, false), ()) := by
  obtain ⟨a1, a2⟩ := ha
  obtain ⟨b1, b2⟩ := hb
  unfold subN subN_B
  simp only [Br.run, cond_eq_ite, decide_eq_true_eq, gt_iff_lt]
  have e1 : b < 0 → IntKind.wrap .i64 (9223372036854775807 + b) = 9223372036854775807 + b := fun _ => wrap_small (by omega) (by omega)
  have e2 : 0 < b → IntKind.wrap .i64 (-9223372036854775808 + b) = -9223372036854775808 + b := fun _ => wrap_small (by omega) (by omega)
  by_cases h : In64 (a - b)
  · have h' := h
    obtain ⟨h1, h2⟩ := h'
    rw [if_pos h, wrap_in h]
    by_cases p : b < 0
    · have q : ¬ 0 < b := by omega
      have r : ¬ (9223372036854775807 + b < a) := by omega
      simp only [p, q, e1 p, r, if_true, if_false]
    · by_cases q : 0 < b
      · have r : ¬ (a < -9223372036854775808 + b) := by omega
        simp only [p, q, e2 q, r, if_true, if_false]
      · simp only [p, q, if_true, if_false]
  · rw [if_neg h]
    unfold In64 at h
    by_cases p : b < 0
    · have r : (9223372036854775807 + b < a) := by omega
      simp only [p, e1 p, r, if_true, if_false]
    · by_cases q : 0 < b
      · have r : (a < -9223372036854775808 + b) := by omega
        simp only [p, q, e2 q, r, if_true, if_false]
      · exfalso; omega

theorem mul_back {a b : Int} (ha : In64 a) (hb : In64 b) (h0 : b ≠ 0) (h1 : ¬ (a = -9223372036854775808 ∧ b = -1)) : IntKind.wrap .i64 (Int.tdiv (IntKind.wrap .i64 (a * b)) b) = a ↔ In64 (a * b) := by
  constructor
  · intro h
    have hp := wrap_in64 (a * b)
    obtain ⟨k, hk⟩ := wrap_mod (a * b)
    generalize IntKind.wrap .i64 (a * b) = p at h hp hk
    have hd := Int.tmod_add_mul_tdiv p b
    have hm : (p.tmod b).natAbs < b.natAbs := by
      rw [Int.natAbs_tmod]
      exact Nat.mod_lt _ (by omega)
    have habs : (p.tdiv b).natAbs ≤ p.natAbs := Int.natAbs_tdiv_le_natAbs p b
    have hq : IntKind.wrap .i64 (p.tdiv b) = p.tdiv b := by
      by_cases hin : In64 (p.tdiv b)
      · exact wrap_in hin
      · exfalso
        obtain ⟨p1, p2⟩ := hp
        unfold In64 at hin
        have hpm : p.tdiv b = 9223372036854775808 := by omega
        have e : IntKind.wrap .i64 (9223372036854775808 : Int) = -9223372036854775808 := by decide
        rw [hpm, e] at h
        rw [hpm] at hd
        apply h1
        refine ⟨h.symm, ?_⟩
        obtain ⟨b1, b2⟩ := hb
        omega
    rw [hq] at h
    rw [h] at hd
    obtain ⟨b1, b2⟩ := hb
    have hmul : b * a = a * b := Int.mul_comm b a
    rw [hmul] at hd
    have : k = 0 := by omega
    subst this
    have e : a * b = p := by omega
    rw [e]
    exact hp
  · intro h
    rw [wrap_in h, Int.mul_tdiv_cancel _ h0, wrap_in ha]

theorem mulN_at {a b : Int} (ha : In64 a) (hb : In64 b) : mulN (a, b, ()) = some (if In64 (a * b) then (a * b, true) else (0, false), ()) := by
  unfold mulN mulN_B
  simp only [Br.run, cond_eq_ite, decide_eq_true_eq, beq_iff_eq, bne_iff_ne]
  by_cases a0 : a = 0
  · subst a0
    have : In64 0 := by decide
    simp only [if_true, Int.zero_mul, if_pos this]
  by_cases b0 : b = 0
  · subst b0
    have : In64 0 := by decide
    simp only [a0, if_true, if_false, Int.mul_zero, if_pos this]
  simp only [a0, b0, if_false]
  have key : ¬ (a = -9223372036854775808 ∧ b = -1) → (if IntKind.wrap .i64 (Int.tdiv (IntKind.wrap .i64 (a * b)) b) ≠ a then some (((0 : Int), false), ()) else some ((IntKind.wrap .i64 (a * b), true), ())) = some (if In64 (a * b) then (a * b, true) else (0, false), ()) := by
    intro h1
    by_cases h : In64 (a * b)
    · rw [if_neg (by rw [(mul_back ha hb b0 h1).2 h]; exact fun h => h rfl), if_pos h, wrap_in h]
    · rw [if_pos (fun h2 => h ((mul_back ha hb b0 h1).1 h2)), if_neg h]
  by_cases a1 : a = -1
  · by_cases bm : b = -9223372036854775808
    · have : ¬ In64 (a * b) := by subst a1; subst bm; decide
      simp only [a1, bm, if_true]
      subst a1; subst bm
      rw [if_neg this]
    · simp only [a1, bm, if_true, if_false]
      have hk := key (by omega)
      subst a1
      have hn : ¬ ((-1 : Int) = -9223372036854775808) := by decide
      simp only [hn, if_false]
      by_cases b1 : b = -1
      · simp only [b1, if_true]
        subst b1
        exact hk
      · simp only [b1, if_false]
        exact hk
  · simp only [a1, if_false]
    by_cases b1 : b = -1
    · simp only [b1, if_true]
      by_cases am : a = -9223372036854775808
      · have : ¬ In64 (a * b) := by subst am; subst b1; decide
        subst b1
        simp only [am, if_true]
        subst am
        rw [if_neg this]
      · simp only [am, if_false]
        have hk := key (by omega)
        subst b1
        exact hk
    · simp only [b1, if_false]
      exact key (by omega)
end Go.Proofs.Ytnhiplibodkciaa
