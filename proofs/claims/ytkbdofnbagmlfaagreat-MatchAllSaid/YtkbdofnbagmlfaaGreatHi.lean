/- Numbers together: what the two sides come to. Numbers together, the other side. What a part comes to, of values of kinds: both sides. Parts of values: both sides come to the same. -/
import Derived.Test.YtkbdofnbagmlfaaGreatHc
import Derived.Test.YtkbdofnbagmlfaaGreatR3b
namespace Go.Proofs.YtkbdofnbagmlfaaGreat
open Go.PI Go
def Zab (x : Int) : Prop := -9223372036854775808 <= x /\ x <= 9223372036854775807
instance (x : Int) : Decidable (Zab x) := by unfold Zab; infer_instance
theorem inK_64 {x : Int} : InK .i64 x ↔ Zab x := by
 have h1 : IntKind.min .i64 = -9223372036854775808 := by decide
 have h2 : IntKind.max .i64 = 9223372036854775807 := by decide
 unfold InK Zab
 rw [h1, h2]
theorem ZbL {x : Int} (h : Zab x) : IntKind.wrap .i64 x = x := Go.PI.wrap_small h.1 h.2
theorem ZhP (x : Int) : Zab (IntKind.wrap .i64 x) := inK_64.1 (Zde .i64 x)
theorem wrap_mod (x : Int) : ∃ k : Int, IntKind.wrap .i64 x = x + k * 18446744073709551616 := by
 have hb : (2 ^ IntKind.bits .i64 : Int) = 18446744073709551616 := by decide
 have hs : (2 ^ (IntKind.bits .i64 - 1) : Int) = 9223372036854775808 := by decide
 unfold IntKind.wrap
 rw [hb, hs]
 have h := Int.emod_add_mul_ediv x 18446744073709551616
 show ∃ k : Int, (if (IntKind.signed .i64 && decide (x % 18446744073709551616 >= 9223372036854775808)) = true then x % 18446744073709551616 - 18446744073709551616 else x % 18446744073709551616) = x + k * 18446744073709551616
 by_cases hc : (IntKind.signed .i64 && decide (x % 18446744073709551616 >= 9223372036854775808)) = true
 ·refine ⟨-(x / 18446744073709551616) - 1, ?_⟩
  simp only [hc, if_true]
  omega
 ·refine ⟨-(x / 18446744073709551616), ?_⟩
  simp only [hc]
  simp only [Bool.false_eq_true, if_false]
  omega
theorem addN_at {a b : Int} (ha : Zab a) (hb : Zab b) : addN (a, b, ()) = some (if Zab (a + b) then (a + b, true) else (0, false), ()) := by
 obtain ⟨a1, a2⟩ := ha
 obtain ⟨b1, b2⟩ := hb
 unfold addN Zo6
 simp only [Br.run, cond_eq_ite, decide_eq_true_eq, gt_iff_lt]
 by_cases h : Zab (a + b)
 ·have h' := h
  obtain ⟨h1, h2⟩ := h'
  rw [if_pos h, ZbL h]
  have e1 : 0 < b -> IntKind.wrap .i64 (9223372036854775807 - b) = 9223372036854775807 - b := fun _ => Go.PI.wrap_small (by omega) (by omega)
  have e2 : b < 0 -> IntKind.wrap .i64 (-9223372036854775808 - b) = -9223372036854775808 - b := fun _ => Go.PI.wrap_small (by omega) (by omega)
  by_cases p : 0 < b
  ·have q : ¬ b < 0 := by omega
   have r : ¬ (9223372036854775807 - b < a) := by omega
   simp only [p, q, e1 p, r, if_true, if_false]
  ·by_cases q : b < 0
   ·have r : ¬ (a < -9223372036854775808 - b) := by omega
    simp only [p, q, e2 q, r, if_true, if_false]
   ·simp only [p, q, if_true, if_false]
 ·rw [if_neg h]
  have e1 : 0 < b -> IntKind.wrap .i64 (9223372036854775807 - b) = 9223372036854775807 - b := fun _ => Go.PI.wrap_small (by omega) (by omega)
  have e2 : b < 0 -> IntKind.wrap .i64 (-9223372036854775808 - b) = -9223372036854775808 - b := fun _ => Go.PI.wrap_small (by omega) (by omega)
  unfold Zab at h
  by_cases p : 0 < b
  ·have r : (9223372036854775807 - b < a) := by omega
   simp only [p, e1 p, r, if_true, if_false]
  ·by_cases q : b < 0
   ·have r : (a < -9223372036854775808 - b) := by omega
    simp only [p, q, e2 q, r, if_true, if_false]
   ·exfalso; omega
theorem ZsG {a b : Int} (ha : Zab a) (hb : Zab b) : subN (a, b, ()) = some (if Zab (a - b) then (a - b, true) else (0, false), ()) := by
 obtain ⟨a1, a2⟩ := ha
 obtain ⟨b1, b2⟩ := hb
 unfold subN Zn6
 simp only [Br.run, cond_eq_ite, decide_eq_true_eq, gt_iff_lt]
 have e1 : b < 0 -> IntKind.wrap .i64 (9223372036854775807 + b) = 9223372036854775807 + b := fun _ => Go.PI.wrap_small (by omega) (by omega)
 have e2 : 0 < b -> IntKind.wrap .i64 (-9223372036854775808 + b) = -9223372036854775808 + b := fun _ => Go.PI.wrap_small (by omega) (by omega)
 by_cases h : Zab (a - b)
 ·have h' := h
  obtain ⟨h1, h2⟩ := h'
  rw [if_pos h, ZbL h]
  by_cases p : b < 0
  ·have q : ¬ 0 < b := by omega
   have r : ¬ (9223372036854775807 + b < a) := by omega
   simp only [p, q, e1 p, r, if_true, if_false]
  ·by_cases q : 0 < b
   ·have r : ¬ (a < -9223372036854775808 + b) := by omega
    simp only [p, q, e2 q, r, if_true, if_false]
   ·simp only [p, q, if_true, if_false]
 ·rw [if_neg h]
  unfold Zab at h
  by_cases p : b < 0
  ·have r : (9223372036854775807 + b < a) := by omega
   simp only [p, e1 p, r, if_true, if_false]
  ·by_cases q : 0 < b
   ·have r : (a < -9223372036854775808 + b) := by omega
    simp only [p, q, e2 q, r, if_true, if_false]
   ·exfalso; omega
theorem Zqe {a b : Int} (ha : Zab a) (hb : Zab b) (h0 : b ≠ 0) (h1 : ¬ (a = -9223372036854775808 /\ b = -1)) : IntKind.wrap .i64 (Int.tdiv (IntKind.wrap .i64 (a * b)) b) = a ↔ Zab (a * b) := by
 constructor
 ·intro h
  have hp := ZhP (a * b)
  obtain ⟨k, hk⟩ := wrap_mod (a * b)
  generalize IntKind.wrap .i64 (a * b) = p at h hp hk
  have hd := Int.tmod_add_mul_tdiv p b
  have hm : (p.tmod b).natAbs < b.natAbs := by
   rw [Int.natAbs_tmod]
   exact Nat.mod_lt _ (by omega)
  have habs : (p.tdiv b).natAbs <= p.natAbs := Int.natAbs_tdiv_le_natAbs p b
  have hq : IntKind.wrap .i64 (p.tdiv b) = p.tdiv b := by
   by_cases hin : Zab (p.tdiv b)
   ·exact ZbL hin
   ·exfalso
    obtain ⟨p1, p2⟩ := hp
    unfold Zab at hin
    have hpm : p.tdiv b = 9223372036854775808 := by omega
    have e : IntKind.wrap .i64 (9223372036854775808 : Int) = -9223372036854775808 := by decide
    rw [hpm, e] at h
    rw [hpm] at hd
    apply h1
    refine ⟨h.symm, ?_⟩
    obtain ⟨b1, b2⟩ := hb
    omega
  rw [hq] at h
  rw [h] at hd
  obtain ⟨b1, b2⟩ := hb
  have hmul : b * a = a * b := Int.mul_comm b a
  rw [hmul] at hd
  have : k = 0 := by omega
  subst this
  have e : a * b = p := by omega
  rw [e]
  exact hp
 ·intro h
  rw [ZbL h, Int.mul_tdiv_cancel _ h0, ZbL ha]
theorem mulN_at {a b : Int} (ha : Zab a) (hb : Zab b) : mulN (a, b, ()) = some (if Zab (a * b) then (a * b, true) else (0, false), ()) := by
 unfold mulN ZqG
 simp only [Br.run, cond_eq_ite, decide_eq_true_eq, beq_iff_eq, bne_iff_ne]
 by_cases a0 : a = 0
 ·subst a0
  have : Zab 0 := by decide
  simp only [if_true, Int.zero_mul, if_pos this]
 by_cases b0 : b = 0
 ·subst b0
  have : Zab 0 := by decide
  simp only [a0, if_true, if_false, Int.mul_zero, if_pos this]
 simp only [a0, b0, if_false]
 have key : ¬ (a = -9223372036854775808 /\ b = -1) -> (if IntKind.wrap .i64 (Int.tdiv (IntKind.wrap .i64 (a * b)) b) ≠ a then some (((0 : Int), false), ()) else some ((IntKind.wrap .i64 (a * b), true), ())) = some (if Zab (a * b) then (a * b, true) else (0, false), ()) := by
  intro h1
  by_cases h : Zab (a * b)
  ·rw [if_neg (by rw [(Zqe ha hb b0 h1).2 h]; exact fun h => h rfl), if_pos h, ZbL h]
  ·rw [if_pos (fun h2 => h ((Zqe ha hb b0 h1).1 h2)), if_neg h]
 by_cases a1 : a = -1
 ·by_cases bm : b = -9223372036854775808
  ·have : ¬ Zab (a * b) := by subst a1; subst bm; decide
   simp only [a1, bm, if_true]
   subst a1; subst bm
   rw [if_neg this]
  ·simp only [a1, bm, if_true, if_false]
   have hk := key (by omega)
   subst a1
   have hn : ¬ ((-1 : Int) = -9223372036854775808) := by decide
   simp only [hn, if_false]
   by_cases b1 : b = -1
   ·simp only [b1, if_true]
    subst b1
    exact hk
   ·simp only [b1, if_false]
    exact hk
 ·simp only [a1, if_false]
  by_cases b1 : b = -1
  ·simp only [b1, if_true]
   by_cases am : a = -9223372036854775808
   ·have : ¬ Zab (a * b) := by subst am; subst b1; decide
    subst b1
    simp only [am, if_true]
    subst am
    rw [if_neg this]
   ·simp only [am, if_false]
    have hk := key (by omega)
    subst b1
    exact hk
  ·simp only [b1, if_false]
   exact key (by omega)
end Go.Proofs.YtkbdofnbagmlfaaGreat

namespace Go.Proofs.YtkbdofnbagmlfaaGreat
open Go.PI Go
theorem Zhe {a : Int} (ha : Zab a) : halfR (a, ()) = some ((a / 4294967296, a % 4294967296), ()) := by
 obtain ⟨a1, a2⟩ := ha
 unfold halfR ZsN
 have em : Int.tmod a 4294967296 = a % 4294967296 - if 0 <= a \/ (4294967296 : Int) ∣ a then 0 else 4294967296 := by
  rw [Int.tmod_eq_emod]; split <;> rfl
 have ed : ∀ x : Int, Int.tdiv x 4294967296 = x / 4294967296 + if 0 <= x \/ (4294967296 : Int) ∣ x then 0 else 1 := fun x => by
  rw [Int.tdiv_eq_ediv]; split <;> rfl
 simp only [Br.run, cond_false, cond_eq_ite, decide_eq_true_eq, Bool.false_eq_true, ↓reduceIte]
 split
 ·rename_i h
  have hl : 0 <= Int.tmod a 4294967296 + 4294967296 /\ Int.tmod a 4294967296 + 4294967296 = a % 4294967296 := by
   split at em <;> omega
  have w1 : IntKind.wrap .i64 (Int.tmod a 4294967296 + 4294967296) = a % 4294967296 := by rw [hl.2, Go.PI.wrap_small (by omega) (by omega)]
  have w2 : IntKind.wrap .i64 (a - a % 4294967296) = a - a % 4294967296 := Go.PI.wrap_small (by omega) (by omega)
  have hd := ed (a - a % 4294967296)
  have w3 : Int.tdiv (a - a % 4294967296) 4294967296 = a / 4294967296 := by
   rw [hd, if_pos (.inr (by omega))]; omega
  rw [w1, w2, w3, Go.PI.wrap_small (by omega) (by omega)]
 ·rename_i h
  have hl : Int.tmod a 4294967296 = a % 4294967296 := by
   split at em <;> omega
  have w2 : IntKind.wrap .i64 (a - a % 4294967296) = a - a % 4294967296 := Go.PI.wrap_small (by omega) (by omega)
  have hd := ed (a - a % 4294967296)
  have w3 : Int.tdiv (a - a % 4294967296) 4294967296 = a / 4294967296 := by
   rw [hd, if_pos (.inr (by omega))]; omega
  rw [hl, w2, w3, Go.PI.wrap_small (by omega) (by omega)]
theorem Zji {l h : Int} (h1 : -4294967296 <= l) (h2 : l < 8589934592) (h3 : -4294967297 <= h) (h4 : h <= 4294967297) :
  fitsR_w0 (l, h, ()) = some (if l >= 4294967296 then (l - 4294967296, h + 1, ()) else (l, h, ())) := by
 by_cases c : l >= 4294967296
 ·rw [if_pos c]
  have w1 : IntKind.wrap .i64 (l - 4294967296) = l - 4294967296 := Go.PI.wrap_small (by omega) (by omega)
  have w2 : IntKind.wrap .i64 (h + 1) = h + 1 := Go.PI.wrap_small (by omega) (by omega)
  have c2 : ¬ (l - 4294967296 >= 4294967296) := by omega
  refine (ZhY (x' := (l - 4294967296, h + 1, ())) ?_).trans (Zdn ?_)
  ·unfold Zfr
   simp only [Br.run, decide_eq_true c, cond_true, w1, w2]
  ·unfold Zfr
   simp only [Br.run, decide_eq_false c2, cond_false]
 ·rw [if_neg c]
  refine Zdn ?_
  unfold Zfr
  simp only [Br.run, decide_eq_false c, cond_false]
theorem Zga {l h : Int} (h1 : -4294967296 <= l) (h2 : l < 8589934592) (h3 : -4294967297 <= h) (h4 : h <= 4294967298) :
  fitsR_w1 (l, h, ()) = some (if l < 0 then (h - 1, ()) else (h, ())) := by
 by_cases c : l < 0
 ·rw [if_pos c]
  have w1 : IntKind.wrap .i64 (l + 4294967296) = l + 4294967296 := Go.PI.wrap_small (by omega) (by omega)
  have w2 : IntKind.wrap .i64 (h - 1) = h - 1 := Go.PI.wrap_small (by omega) (by omega)
  have c2 : ¬ (l + 4294967296 < 0) := by omega
  refine (ZhY (x' := (l + 4294967296, h - 1, ())) ?_).trans (Zdn ?_)
  ·unfold Zfb
   simp only [Br.run, decide_eq_true c, cond_true, w1, w2]
  ·unfold Zfb
   simp only [Br.run, decide_eq_false c2, cond_false]
 ·rw [if_neg c]
  refine Zdn ?_
  unfold Zfb
  simp only [Br.run, decide_eq_false c, cond_false]
theorem ZnC {a b : Int} (ha : Zab a) (hb : Zab b) : fitsR (a, b, false, ()) = some (decide (Zab (a + b)), ()) := by
 unfold fitsR ZlI
 have e1 := Zhe ha
 have e2 := Zhe hb
 obtain ⟨a1, a2⟩ := ha
 obtain ⟨b1, b2⟩ := hb
 have w1 : IntKind.wrap .i64 (a % 4294967296 + b % 4294967296) = a % 4294967296 + b % 4294967296 := Go.PI.wrap_small (by omega) (by omega)
 have w2 : IntKind.wrap .i64 (a / 4294967296 + b / 4294967296) = a / 4294967296 + b / 4294967296 := Go.PI.wrap_small (by omega) (by omega)
 simp only [Br.run, e1, e2, cond_false, w1, w2]
 rw [Zji (by omega) (by omega) (by omega) (by omega)]
 by_cases c : a % 4294967296 + b % 4294967296 >= 4294967296
 ·simp only [if_pos c, Br.run]
  rw [Zga (by omega) (by omega) (by omega) (by omega)]
  have c2 : ¬ (a % 4294967296 + b % 4294967296 - 4294967296 < 0) := by omega
  simp only [if_neg c2, Br.run, cond_eq_ite, decide_eq_true_eq]
  split
  ·have : (a / 4294967296 + b / 4294967296 + 1 <= 2147483647) ↔ Zab (a + b) := by unfold Zab; omega
   simp only [this]
  ·have : ¬ Zab (a + b) := by unfold Zab; omega
   simp only [decide_eq_false this]
 ·simp only [if_neg c, Br.run]
  rw [Zga (by omega) (by omega) (by omega) (by omega)]
  have c2 : ¬ (a % 4294967296 + b % 4294967296 < 0) := by omega
  simp only [if_neg c2, Br.run, cond_eq_ite, decide_eq_true_eq]
  split
  ·have : (a / 4294967296 + b / 4294967296 <= 2147483647) ↔ Zab (a + b) := by unfold Zab; omega
   simp only [this]
  ·have : ¬ Zab (a + b) := by unfold Zab; omega
   simp only [decide_eq_false this]
theorem ZmC {a b : Int} (ha : Zab a) (hb : Zab b) : fitsR (a, b, true, ()) = some (decide (Zab (a - b)), ()) := by
 unfold fitsR ZlI
 have e1 := Zhe ha
 have e2 := Zhe hb
 obtain ⟨a1, a2⟩ := ha
 obtain ⟨b1, b2⟩ := hb
 have w0 : IntKind.wrap .i64 (0 - b % 4294967296) = 0 - b % 4294967296 := Go.PI.wrap_small (by omega) (by omega)
 have w3 : IntKind.wrap .i64 (0 - b / 4294967296) = 0 - b / 4294967296 := Go.PI.wrap_small (by omega) (by omega)
 have w1 : IntKind.wrap .i64 (a % 4294967296 + (0 - b % 4294967296)) = a % 4294967296 + (0 - b % 4294967296) := Go.PI.wrap_small (by omega) (by omega)
 have w2 : IntKind.wrap .i64 (a / 4294967296 + (0 - b / 4294967296)) = a / 4294967296 + (0 - b / 4294967296) := Go.PI.wrap_small (by omega) (by omega)
 simp only [Br.run, e1, e2, cond_true, w0, w3, w1, w2]
 rw [Zji (by omega) (by omega) (by omega) (by omega)]
 have c : ¬ (a % 4294967296 + (0 - b % 4294967296) >= 4294967296) := by omega
 simp only [if_neg c, Br.run]
 rw [Zga (by omega) (by omega) (by omega) (by omega)]
 by_cases c2 : a % 4294967296 + (0 - b % 4294967296) < 0
 ·simp only [if_pos c2, Br.run, cond_eq_ite, decide_eq_true_eq]
  split
  ·have : (a / 4294967296 + (0 - b / 4294967296) - 1 <= 2147483647) ↔ Zab (a - b) := by unfold Zab; omega
   simp only [this]
  ·have : ¬ Zab (a - b) := by unfold Zab; omega
   simp only [decide_eq_false this]
 ·simp only [if_neg c2, Br.run, cond_eq_ite, decide_eq_true_eq]
  split
  ·have : (a / 4294967296 + (0 - b / 4294967296) <= 2147483647) ↔ Zab (a - b) := by unfold Zab; omega
   simp only [this]
  ·have : ¬ Zab (a - b) := by unfold Zab; omega
   simp only [decide_eq_false this]
theorem Zl1 {M x y : Int} (hM : 0 <= M) (hy : 0 < y) : x <= M.tdiv y ↔ x * y <= M := by
 rw [Int.tdiv_eq_ediv_of_nonneg hM]
 exact Int.le_ediv_iff_mul_le hy
theorem Zs5 {M x y : Int} (hM : 0 <= M) (hy : 0 < y) : x >= (-M).tdiv y ↔ -M <= x * y := by
 rw [Int.neg_tdiv]
 have := Zl1 (x := -x) hM hy
 rw [Int.neg_mul] at this
 constructor
 ·intro h
  have := this.1 (by omega)
  omega
 ·intro h
  have := this.2 (by omega)
  omega
theorem Zin {M y : Int} (h : Zab M) (hy : y ≠ 0) (h' : ¬ (M = -9223372036854775808 /\ y = -1)) : Zab (M.tdiv y) := by
 by_cases h1 : y = 1
 ·rw [h1, Int.tdiv_one]; exact h
 obtain ⟨m1, m2⟩ := h
 by_cases h2 : y = -1
 ·rw [h2, Int.tdiv_neg, Int.tdiv_one]
  unfold Zab; omega
 ·have hya : 2 <= y.natAbs := by omega
  have h3 := Nat.div_le_div_left (a := M.natAbs) hya (by decide)
  have h4 : (M.tdiv y).natAbs = M.natAbs / y.natAbs := Int.natAbs_tdiv M y
  unfold Zab
  omega
theorem ZiP {a b : Int} (ha : Zab a) (hb : Zab b) : productR (a, b, ()) = some (decide (Zab (a * b)), ()) := by
 have hMx : Zab 9223372036854775807 := by decide
 have hMn : Zab (-9223372036854775808) := by decide
 unfold productR ZkQ
 simp only [Br.run, cond_eq_ite, decide_eq_true_eq, beq_iff_eq, bne_iff_ne, gt_iff_lt, ge_iff_le]
 by_cases a0 : a = 0
 ·subst a0
  have : Zab 0 := by decide
  simp only [if_true, Int.zero_mul, decide_eq_true this]
 by_cases b0 : b = 0
 ·subst b0
  have : Zab 0 := by decide
  simp only [a0, if_true, if_false, Int.mul_zero, decide_eq_true this]
 simp only [a0, b0, if_false]
 rcases Int.lt_or_gt_of_ne a0 with an | ap
 ·have ap' : ¬ 0 < a := by omega
  simp only [ap', an, if_true, if_false]
  rcases Int.lt_or_gt_of_ne b0 with bn | bp
  ·simp only [bn, if_true]
   have hpos : 0 < a * b := Int.mul_pos_of_neg_of_neg an bn
   by_cases bm : b = -9223372036854775808
   ·have hno : ¬ Zab (a * b) := by
     intro h; obtain ⟨_, h⟩ := h; subst bm
     omega
    simp only [bm, ne_eq, not_true_eq_false, if_false]
    rw [bm] at hno
    have h1 : ¬ ((-9223372036854775808 : Int) = -1) := by decide
    by_cases a1 : a = -1
    ·simp only [a1, if_true, h1, if_false]
     rw [a1] at hno
     simp only [decide_eq_false hno]
    ·simp only [a1, if_false, h1, decide_eq_false hno]
   ·simp only [ne_eq, bm, not_false_eq_true, if_true]
    by_cases am : a = -9223372036854775808
    ·have hno : ¬ Zab (a * b) := by
      intro h; obtain ⟨_, h⟩ := h; subst am
      omega
     simp only [am, not_true_eq_false, if_false]
     rw [am] at hno
     have h1 : ¬ ((-9223372036854775808 : Int) = -1) := by decide
     by_cases b1 : b = -1
     ·simp only [b1, if_true, h1, if_false]
      rw [b1] at hno
      simp only [decide_eq_false hno]
      rfl
     ·simp only [b1, if_false, h1, decide_eq_false hno]
    ·simp only [am, not_false_eq_true, if_true]
     obtain ⟨x1, x2⟩ := ha
     obtain ⟨y1, y2⟩ := hb
     have w1 : IntKind.wrap .i64 (0 - a) = -a := by rw [Go.PI.wrap_small (by omega) (by omega)]; omega
     have w2 : IntKind.wrap .i64 (0 - b) = -b := by rw [Go.PI.wrap_small (by omega) (by omega)]; omega
     have hnb : ¬ (-b = 0) := by omega
     have w3 : IntKind.wrap .i64 (Int.tdiv 9223372036854775807 (-b)) = Int.tdiv 9223372036854775807 (-b) := ZbL (Zin hMx hnb (by omega))
     simp only [w1, w2, hnb, if_false, w3]
     have key := Zl1 (M := 9223372036854775807) (x := -a) (y := -b) (by omega) (by omega)
     rw [Int.neg_mul_neg] at key
     have hin : Zab (a * b) ↔ a * b <= 9223372036854775807 := by unfold Zab; omega
     by_cases hk : -a <= Int.tdiv 9223372036854775807 (-b)
     ·have : Zab (a * b) := hin.2 (key.1 hk)
      simp only [hk, if_true, decide_eq_true this]
     ·have hno : ¬ Zab (a * b) := fun h => hk (key.2 (hin.1 h))
      simp only [hk, if_false]
      by_cases a1 : a = -1
      ·exfalso
       subst a1
       apply hno
       unfold Zab
       omega
      ·by_cases b1 : b = -1
       ·exfalso
        subst b1
        apply hno
        unfold Zab
        omega
       ·simp only [a1, b1, if_false, decide_eq_false hno]
  ·have bn' : ¬ b < 0 := by omega
   have bp' : 0 < b := bp
   have w3 : IntKind.wrap .i64 (Int.tdiv (-9223372036854775808) b) = Int.tdiv (-9223372036854775808) b := ZbL (Zin hMn b0 (by omega))
   simp only [bn', if_false, w3]
   have key := Zs5 (M := 9223372036854775808) (x := a) (y := b) (by omega) bp
   have hneg : a * b < 0 := Int.mul_neg_of_neg_of_pos an bp
   have hin : (Int.tdiv (-9223372036854775808) b <= a) ↔ Zab (a * b) := by
    rw [show (Int.tdiv (-9223372036854775808) b <= a) ↔ _ from key]
    unfold Zab; omega
   simp only [hin]
 ·have an' : ¬ a < 0 := by omega
  have ap' : 0 < a := ap
  simp only [ap', if_true]
  rcases Int.lt_or_gt_of_ne b0 with bn | bp
  ·have bp' : ¬ 0 < b := by omega
   simp only [bp', an', if_false]
   have w3 : IntKind.wrap .i64 (Int.tdiv (-9223372036854775808) a) = Int.tdiv (-9223372036854775808) a := ZbL (Zin hMn a0 (by omega))
   simp only [w3]
   have key := Zs5 (M := 9223372036854775808) (x := b) (y := a) (by omega) ap
   have hneg : a * b < 0 := Int.mul_neg_of_pos_of_neg ap bn
   have hin : (Int.tdiv (-9223372036854775808) a <= b) ↔ Zab (a * b) := by
    rw [show (Int.tdiv (-9223372036854775808) a <= b) ↔ _ from key, Int.mul_comm b a]
    unfold Zab; omega
   simp only [hin]
  ·have bp' : 0 < b := bp
   have w3 : IntKind.wrap .i64 (Int.tdiv 9223372036854775807 b) = Int.tdiv 9223372036854775807 b := ZbL (Zin hMx b0 (by omega))
   simp only [bp', if_true, w3]
   have key := Zl1 (M := 9223372036854775807) (x := a) (y := b) (by omega) bp
   have hpos : 0 < a * b := Int.mul_pos ap bp
   have hin : (a <= Int.tdiv 9223372036854775807 b) ↔ Zab (a * b) := by
    rw [key]; unfold Zab; omega
   simp only [hin]
theorem negN_at {a : Int} (ha : Zab a) : negN (a, ()) = some (if a ≠ -9223372036854775808 then (-a, true) else (0, false), ()) := by
 unfold negN Zp4
 have h0 : Zab 0 := by decide
 simp only [Br.run, ZsG h0 ha]
 obtain ⟨a1, a2⟩ := ha
 by_cases h : a = -9223372036854775808
 ·subst h; rfl
 ·have : Zab (0 - a) := by unfold Zab; omega
  simp only [this, if_true, ne_eq, h, not_false_eq_true]
  have e : 0 - a = -a := by omega
  rw [e]
end Go.Proofs.YtkbdofnbagmlfaaGreat

namespace Go.Proofs.YtkbdofnbagmlfaaGreat
open Go.PI Go
inductive VN : Val -> Prop
 | i (n : Int) (h : Zab n) : VN (iV n)
 | s (x : ByteArray) : VN (sV x)
 | b (t : Bool) : VN (bV t)
theorem cmpB : ∀ x y : List UInt8, (decide (Lib.compareBytes x y < 0) = Op.bytesLess x y) /\ (decide (Lib.compareBytes x y = 0) = (x == y))
 | [], [] => ⟨rfl, rfl⟩
 | [], _ :: _ => ⟨rfl, rfl⟩
 | _ :: _, [] => ⟨rfl, rfl⟩
 | a :: x, b :: y => by
  have ih := cmpB x y
  unfold Lib.compareBytes Op.bytesLess
  rw [List.cons_beq_cons]
  by_cases h : a < b
  ·have hne : (a == b) = false := by
    rw [beq_eq_false_iff_ne]
    rintro rfl
    exact absurd h (by simp)
   rw [if_pos h, hne]
   simp [h]
  ·rw [if_neg h]
   by_cases h2 : b < a
   ·have hne : (a == b) = false := by
     rw [beq_eq_false_iff_ne]
     rintro rfl
     exact absurd h2 (by simp)
    rw [if_pos h2, hne]
    simp [h]
   ·have he : a = b := by
     have h1 : ¬ a.toNat < b.toNat := fun q => h (UInt8.lt_iff_toNat_lt.2 q)
     have h3 : ¬ b.toNat < a.toNat := fun q => h2 (UInt8.lt_iff_toNat_lt.2 q)
     exact UInt8.toNat_inj.1 (by omega)
    subst he
    rw [if_neg h2, ih.1, ih.2]
    simp
theorem ZtM (x y : List UInt8) : Lib.compareBytes x y = -1 \/ Lib.compareBytes x y = 0 \/ Lib.compareBytes x y = 1 := by
 have := Go.PI.cmp_small x y
 omega
def Zef (a b : Val) : Bool := if a.1 = 1 then decide (a.2.1 < b.2.1) else if a.1 = 2 then Op.bytesLess (bl a.2.2.1) (bl b.2.2.1) else !a.2.2.2 && b.2.2.2
def Zee (a b : Val) : Bool := if a.1 = 1 then decide (a.2.1 = b.2.1) else if a.1 = 2 then bl a.2.2.1 == bl b.2.2.1 else a.2.2.2 == b.2.2.2
theorem Zrc {a b : Val} (ha : VN a) (hb : VN b) : ∃ c, compareV (a, b, ()) = some (if a.1 = b.1 then (c, true) else (0, false), ()) /\ (a.1 = b.1 -> decide (c < 0) = Zef a b /\ decide (c = 0) = Zee a b) := by
 cases ha with
 | i n hn =>
  cases hb with
  | i m hm =>
   rcases Int.lt_trichotomy n m with h | h | h
   ·have h1 : ¬ (n > m) := by omega
    refine ⟨-1, ?_, fun _ => ⟨by simp [Zef, h], by simp [Zee]; omega⟩⟩
    unfold compareV Zc2 bitV ZhC
    simp only [Br.run, decide_eq_false h1, decide_eq_true h, cond_true, cond_false]
    rfl
   ·subst h
    have h1 : ¬ (n > n) := by omega
    have h2 : ¬ (n < n) := by omega
    refine ⟨0, ?_, fun _ => ⟨by simp [Zef], by simp [Zee]⟩⟩
    unfold compareV Zc2 bitV ZhC
    simp only [Br.run, decide_eq_false h1, decide_eq_false h2, cond_true, cond_false]
    rfl
   ·have h1 : ¬ (n < m) := by omega
    have h2 : n > m := h
    refine ⟨1, ?_, fun _ => ⟨by simp [Zef]; omega, by simp [Zee]; omega⟩⟩
    unfold compareV Zc2 bitV ZhC
    simp only [Br.run, decide_eq_false h1, decide_eq_true h2, cond_true, cond_false]
    rfl
  | s x => exact ⟨0, rfl, fun h => by cases h⟩
  | b t => exact ⟨0, rfl, fun h => by cases h⟩
 | s x =>
  cases hb with
  | i m hm => exact ⟨0, rfl, fun h => by cases h⟩
  | s y =>
   obtain ⟨c1, c2⟩ := cmpB (bl x) (bl y)
   refine ⟨Lib.compareBytes (bl x) (bl y), ?_, fun _ => ⟨by simpa [Zef] using c1, by simpa [Zee] using c2⟩⟩
   unfold compareV Zc2 compareS Zhj ZhA signV ZlH
   have e : ∀ z : ByteArray, z.data.toList = bl z := fun _ => rfl
   simp only [Br.run, e]
   rcases ZtM (bl x) (bl y) with h | h | h <;> rw [h] <;> rfl
  | b t => exact ⟨0, rfl, fun h => by cases h⟩
 | b t =>
  cases hb with
  | i m hm => exact ⟨0, rfl, fun h => by cases h⟩
  | s y => exact ⟨0, rfl, fun h => by cases h⟩
  | b u => cases t <;> cases u
           ·exact ⟨0, rfl, fun _ => ⟨rfl, rfl⟩⟩
           ·exact ⟨-1, rfl, fun _ => ⟨rfl, rfl⟩⟩
           ·exact ⟨1, rfl, fun _ => ⟨rfl, rfl⟩⟩
           ·exact ⟨0, rfl, fun _ => ⟨rfl, rfl⟩⟩
end Go.Proofs.YtkbdofnbagmlfaaGreat

namespace Go.Proofs.YtkbdofnbagmlfaaGreat
open Go.PI Go
def okV (c : Bool) (v : Val) : Val × Bool := if c = true then (v, true) else (zV, false)
def un (op : Int) (a : Val) : Val × Bool := if op = 3 then okV (decide (a.1 = 1 /\ a.2.1 ≠ -9223372036854775808)) (iV (-a.2.1)) else okV (decide (a.1 = 3)) (bV (!a.2.2.2))
def bi0 (op : Int) (a b : Val) : Val × Bool :=
 if op = 4 then okV (decide (a.1 = 1 /\ Zab (a.2.1 + b.2.1))) (iV (a.2.1 + b.2.1))
 else if op = 5 then okV (decide (a.1 = 1 /\ Zab (a.2.1 - b.2.1))) (iV (a.2.1 - b.2.1))
 else if op = 6 then okV (decide (a.1 = 1 /\ Zab (a.2.1 * b.2.1))) (iV (a.2.1 * b.2.1))
 else if op = 14 then okV (decide (a.1 = 3)) (bV (a.2.2.2 && b.2.2.2))
 else if op = 15 then okV (decide (a.1 = 3)) (bV (a.2.2.2 || b.2.2.2))
 else (bV (cmpT op (Zef a b) (Zee a b)), true)
def bi (op : Int) (a b : Val) : Val × Bool := if a.1 = b.1 then bi0 op a b else (zV, false)
theorem un_VN {op : Int} {a : Val} (ha : VN a) (h : (un op a).2 = true) : VN (un op a).1 := by
 unfold un okV at h ⊢
 split
 ·rename_i h3
  simp only [h3, ↓reduceIte] at h
  split
  ·rename_i hc
   simp only [decide_eq_true_eq] at hc
   cases ha with
   | i n hn =>
    refine .i _ ?_
    obtain ⟨n1, n2⟩ := hn
    have := hc.2
    dsimp only at this ⊢
    unfold Zab; omega
   | s x => exact absurd (show (2 : Int) = 1 from hc.1) (by decide)
   | b t => exact absurd (show (3 : Int) = 1 from hc.1) (by decide)
  ·rename_i hc; simp only [hc] at h; cases h
 ·rename_i h3
  simp only [h3, ↓reduceIte] at h
  split
  ·exact .b _
  ·rename_i hc; simp only [hc] at h; cases h
theorem bi_VN {op : Int} {a b : Val} (h : (bi op a b).2 = true) : VN (bi op a b).1 := by
 unfold bi bi0 okV at h ⊢
 by_cases he : a.1 = b.1
 ·simp only [he, ↓reduceIte] at h ⊢
  repeat' split
  all_goals first
   | exact .b _
   | (rename_i hc; simp only [decide_eq_true_eq] at hc; exact .i _ hc.2)
   | (exfalso; simp only [*, ↓reduceIte] at h; cases h)
 ·simp only [he, ↓reduceIte] at h; cases h
theorem numbers1 (a : Val) (ha : VN a) : numbersE (3, [a], ()) = some (un 3 a, ()) := by
 unfold numbersE ZeW
 simp only [Br.run]
 rw [ZdX 3 [a] (by simp) 0 (by omega) (by simp)]
 cases ha with
 | i n hn =>
  have e : ((List.drop (Int.toNat 0) [iV n]).all fun x => x.1 == 1) = true := rfl
  have el : (decide ((0 : Nat) <= 0) && decide ((0 : Int) < ((List.length [iV n] : Nat) : Int))) = true := rfl
  rw [if_pos e]
  simp only [Br.run]
  show (bif (decide ((0 : Int) <= 0) && decide ((0 : Int) < ((List.length [iV n] : Nat) : Int))) then _ else _) = _
  show Br.run (.opt (negN (n, ())) _) = _
  rw [negN_at hn]
  by_cases h : n = -9223372036854775808
  ·subst h; rfl
  ·simp only [ne_eq, h, not_false_eq_true, ↓reduceIte, Br.run, un, okV, true_and, decide_true]
   unfold numV ZhW
   simp only [Br.run, Bool.not_true, cond_false]
 | s x => rfl
 | b t => rfl
theorem truths1 (op : Int) (h : op = 13) (a : Val) (ha : VN a) : truthsE (op, [a], ()) = some (un op a, ()) := by
 subst h
 unfold truthsE ZfT
 simp only [Br.run]
 rw [ZeD 13 [a] (by simp) 0 (by omega) (by simp)]
 cases ha with
 | i n hn => rfl
 | s x => rfl
 | b t => rfl
theorem apply1 {op : Int} (h : op = 3 \/ op = 13) {a : Val} (ha : VN a) : applyE (op, [a], ()) = some (un op a, ()) := by
 unfold applyE Zgz
 rcases h with rfl | rfl
 ·have : decide ((3 : Int) <= 6) = true := rfl
  simp only [Br.run, this, cond_true, numbers1 a ha]
 ·have : decide ((13 : Int) <= 6) = false := rfl
  have h2 : decide ((13 : Int) <= 12) = false := rfl
  simp only [Br.run, this, h2, cond_false, truths1 13 rfl a ha]
theorem numbers2 (op : Int) (h : op = 4 \/ op = 5 \/ op = 6) {a b : Val} (ha : VN a) (hb : VN b) : numbersE (op, [a, b], ()) = some (bi op a b, ()) := by
 unfold numbersE ZeW
 simp only [Br.run]
 rw [ZdX op [a, b] (by simp) 0 (by omega) (by simp)]
 cases ha with
 | i n hn =>
  cases hb with
  | i m hm =>
   have e : ((List.drop (Int.toNat 0) [iV n, iV m]).all fun x => x.1 == 1) = true := rfl
   rw [if_pos e]
   simp only [Br.run]
   rcases h with rfl | rfl | rfl
   ·show Br.run (.opt (addN (n, m, ())) _) = _
    rw [addN_at hn hm]
    by_cases h : Zab (n + m)
    ·simp only [h, ↓reduceIte, Br.run, bi, bi0, okV, true_and, decide_true]
     rfl
    ·simp only [h, ↓reduceIte, Br.run, bi, bi0, okV, true_and, decide_false]
     rfl
   ·show Br.run (.opt (subN (n, m, ())) _) = _
    rw [ZsG hn hm]
    by_cases h : Zab (n - m)
    ·have e : bi 5 (iV n) (iV m) = okV (decide ((1 : Int) = 1 /\ Zab (n - m))) (iV (n - m)) := rfl
     rw [e]
     simp only [h, ↓reduceIte, Br.run, okV, true_and, decide_true]
     rfl
    ·have e : bi 5 (iV n) (iV m) = okV (decide ((1 : Int) = 1 /\ Zab (n - m))) (iV (n - m)) := rfl
     rw [e]
     simp only [h, ↓reduceIte, Br.run, okV, true_and, decide_false]
     rfl
   ·show Br.run (.opt (mulN (n, m, ())) _) = _
    rw [mulN_at hn hm]
    by_cases h : Zab (n * m)
    ·have e : bi 6 (iV n) (iV m) = okV (decide ((1 : Int) = 1 /\ Zab (n * m))) (iV (n * m)) := rfl
     rw [e]
     simp only [h, ↓reduceIte, Br.run, okV, true_and, decide_true]
     rfl
    ·have e : bi 6 (iV n) (iV m) = okV (decide ((1 : Int) = 1 /\ Zab (n * m))) (iV (n * m)) := rfl
     rw [e]
     simp only [h, ↓reduceIte, Br.run, okV, true_and, decide_false]
     rfl
  | s y => rcases h with rfl | rfl | rfl <;> rfl
  | b t => rcases h with rfl | rfl | rfl <;> rfl
 | s x => cases hb <;> rcases h with rfl | rfl | rfl <;> rfl
 | b t => cases hb <;> rcases h with rfl | rfl | rfl <;> rfl
theorem truths2 (op : Int) (h : op = 14 \/ op = 15) {a b : Val} (ha : VN a) (hb : VN b) : truthsE (op, [a, b], ()) = some (bi op a b, ()) := by
 unfold truthsE ZfT
 simp only [Br.run]
 rw [ZeD op [a, b] (by simp) 0 (by omega) (by simp)]
 cases ha with
 | i n hn => cases hb <;> rcases h with rfl | rfl <;> rfl
 | s x => cases hb <;> rcases h with rfl | rfl <;> rfl
 | b t =>
  cases hb with
  | i m hm => cases t <;> rcases h with rfl | rfl <;> rfl
  | s y => cases t <;> rcases h with rfl | rfl <;> rfl
  | b u => cases t <;> cases u <;> rcases h with rfl | rfl <;> rfl
theorem apply2 {op : Int} (h1 : 4 <= op) (h2 : op <= 15) (h3 : op ≠ 13) {a b : Val} (ha : VN a) (hb : VN b) : applyE (op, [a, b], ()) = some (bi op a b, ()) := by
 unfold applyE Zgz
 simp only [Br.run, cond_eq_ite, decide_eq_true_eq]
 by_cases c1 : op <= 6
 ·simp only [c1, ↓reduceIte, numbers2 op (by omega) ha hb, Br.run]
 simp only [c1, ↓reduceIte]
 by_cases c2 : op <= 12
 ·simp only [c2, ↓reduceIte]
  obtain ⟨c, hc, hk⟩ := Zrc ha hb
  have e0 : (decide ((0 : Int) <= 0) && decide ((0 : Int) < ((List.length [a, b] : Nat) : Int))) = true := rfl
  have e1 : (decide ((0 : Int) <= 1) && decide ((1 : Int) < ((List.length [a, b] : Nat) : Int))) = true := rfl
  show (if (decide ((0 : Int) <= 0) && decide ((0 : Int) < ((List.length [a, b] : Nat) : Int))) = true then _ else _) = _
  rw [if_pos e0]
  show (if (decide ((0 : Int) <= 1) && decide ((1 : Int) < ((List.length [a, b] : Nat) : Int))) = true then _ else _) = _
  rw [if_pos e1]
  show Br.run (.opt (compareV (a, b, ())) _) = _
  rw [hc]
  by_cases he : a.1 = b.1
  ·obtain ⟨k1, k2⟩ := hk he
   simp only [he, ↓reduceIte, Br.run, Bool.not_true, Bool.false_eq_true, Zm7, k1, k2, truthV, ZcR, cond_false]
   unfold bi bi0
   have q1 : op ≠ 4 := by omega
   have q2 : op ≠ 5 := by omega
   have q3 : op ≠ 6 := by omega
   have q4 : op ≠ 14 := by omega
   have q5 : op ≠ 15 := by omega
   simp only [he, q1, q2, q3, q4, q5, ↓reduceIte]
  ·simp only [he, ↓reduceIte, Br.run, Bool.not_false, cond_true, bi]
 ·simp only [c2, ↓reduceIte, truths2 op (by omega) ha hb, Br.run]
theorem both_at {op : Int} (h1 : 4 <= op) (h2 : op <= 15) (h3 : op ≠ 13) {a b : Val} (ha : VN a) (hb : VN b) (he : a.1 = b.1) :
  ∃ v, bothR (op, a, b, ()) = some ((v, (bi op a b).2), ()) /\ ((bi op a b).2 = true -> v = (bi op a b).1) := by
 have hop : op = 4 \/ op = 5 \/ op = 6 \/ op = 7 \/ op = 8 \/ op = 9 \/ op = 10 \/ op = 11 \/ op = 12 \/ op = 14 \/ op = 15 := by omega
 cases ha with
 | i n hn =>
  cases hb with
  | i m hm =>
   rcases hop with rfl | rfl | rfl | rfl | rfl | rfl | rfl | rfl | rfl | rfl | rfl
   ·refine ⟨iV (IntKind.wrap .i64 (n + m)), ?_, ?_⟩
    ·show Br.run (.opt (fitsR (n, m, false, ())) _) = _
     rw [ZnC hn hm]
     show some _ = some ((iV (IntKind.wrap .i64 (n + m)), (okV (decide ((1 : Int) = 1 /\ Zab (n + m))) (iV (n + m))).2), ())
     by_cases h : Zab (n + m) <;> simp [okV, h, Br.run]
    ·intro h
     have h : (okV (decide ((1 : Int) = 1 /\ Zab (n + m))) (iV (n + m))).2 = true := h
     show _ = (okV (decide ((1 : Int) = 1 /\ Zab (n + m))) (iV (n + m))).1
     by_cases hi : Zab (n + m)
     ·simp [okV, hi, ZbL hi]
     ·simp [okV, hi] at h
   ·refine ⟨iV (IntKind.wrap .i64 (n - m)), ?_, ?_⟩
    ·show Br.run (.opt (fitsR (n, m, true, ())) _) = _
     rw [ZmC hn hm]
     show some _ = some ((iV (IntKind.wrap .i64 (n - m)), (okV (decide ((1 : Int) = 1 /\ Zab (n - m))) (iV (n - m))).2), ())
     by_cases h : Zab (n - m) <;> simp [okV, h, Br.run]
    ·intro h
     have h : (okV (decide ((1 : Int) = 1 /\ Zab (n - m))) (iV (n - m))).2 = true := h
     show _ = (okV (decide ((1 : Int) = 1 /\ Zab (n - m))) (iV (n - m))).1
     by_cases hi : Zab (n - m)
     ·simp [okV, hi, ZbL hi]
     ·simp [okV, hi] at h
   ·refine ⟨iV (IntKind.wrap .i64 (n * m)), ?_, ?_⟩
    ·show Br.run (.opt (productR (n, m, ())) _) = _
     rw [ZiP hn hm]
     show some _ = some ((iV (IntKind.wrap .i64 (n * m)), (okV (decide ((1 : Int) = 1 /\ Zab (n * m))) (iV (n * m))).2), ())
     by_cases h : Zab (n * m) <;> simp [okV, h, Br.run]
    ·intro h
     have h : (okV (decide ((1 : Int) = 1 /\ Zab (n * m))) (iV (n * m))).2 = true := h
     show _ = (okV (decide ((1 : Int) = 1 /\ Zab (n * m))) (iV (n * m))).1
     by_cases hi : Zab (n * m)
     ·simp [okV, hi, ZbL hi]
     ·simp [okV, hi] at h
   iterate 6
    ·refine ⟨_, ?_, fun _ => rfl⟩
     by_cases hl : n < m
     ·have hne : ¬ n = m := by omega
      unfold bothR Zd1
      simp [Br.run, bi, bi0, Zef, Zee, cmpT, hl, hne]
     ·by_cases hq : n = m
      ·unfold bothR Zd1
       subst hq
       simp [Br.run, bi, bi0, Zef, Zee, cmpT]
      ·unfold bothR Zd1
       simp [Br.run, bi, bi0, Zef, Zee, cmpT, hl, hq]
   ·exact ⟨_, rfl, fun h => by cases h⟩
   ·exact ⟨_, rfl, fun h => by cases h⟩
  | s y => cases he
  | b t => cases he
 | s x =>
  cases hb with
  | i m hm => cases he
  | s y =>
   rcases hop with rfl | rfl | rfl | rfl | rfl | rfl | rfl | rfl | rfl | rfl | rfl
   iterate 3
    ·exact ⟨_, rfl, fun h => by cases h⟩
   iterate 6
    ·refine ⟨_, ?_, fun _ => rfl⟩
     unfold bothR Zd1
     cases hl : Op.bytesLess (bl x) (bl y) <;> cases hq : (bl x == bl y) <;> simp [Br.run, bi, bi0, Zef, Zee, cmpT, hl, hq]
   ·exact ⟨_, rfl, fun h => by cases h⟩
   ·exact ⟨_, rfl, fun h => by cases h⟩
  | b t => cases he
 | b t =>
  cases hb with
  | i m hm => cases he
  | s y => cases he
  | b u =>
   rcases hop with rfl | rfl | rfl | rfl | rfl | rfl | rfl | rfl | rfl | rfl | rfl
   iterate 3
    ·exact ⟨_, rfl, fun h => by cases h⟩
   iterate 8
    ·cases t <;> cases u <;> exact ⟨_, rfl, fun _ => rfl⟩
end Go.Proofs.YtkbdofnbagmlfaaGreat
