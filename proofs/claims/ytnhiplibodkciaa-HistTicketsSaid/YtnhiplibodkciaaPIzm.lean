/- What is left of a region that draws its order. -/
import Derived.Test.YtnhiplibodkciaaPIzl
namespace Go.PI
open Go.RowKit

def leftOf (n : Nat) (listed : Array Bool) : List Nat := (List.range n).filter fun i => !listed.getD i true

theorem leftOf_mem {n : Nat} {listed : Array Bool} (hs : listed.size = n) {i : Nat} : i ∈ leftOf n listed ↔ i < n ∧ listed.getD i false = false := by
  unfold leftOf
  rw [List.mem_filter, List.mem_range]
  constructor
  · rintro ⟨h1, h2⟩
    refine ⟨h1, ?_⟩
    have : i < listed.size := by omega
    simpa [Array.getD, this] using h2
  · rintro ⟨h1, h2⟩
    refine ⟨h1, ?_⟩
    have : i < listed.size := by omega
    simpa [Array.getD, this] using h2

theorem textB_ok : ∀ {l : List Oper} {k : Nat}, textB k l = true → ∀ j o, l[j]? = some o → ∀ e ∈ o.after.toList, Region.binds .any e = true → e.on < k + j
  | [], k, _, j, o, h, _, _, _ => by simp at h
  | o' :: l, k, hb, j, o, h, e, he, hbe => by
    simp only [textB, Bool.and_eq_true, List.all_eq_true] at hb
    cases j with
    | zero =>
      simp only [List.getElem?_cons_zero, Option.some.injEq] at h
      subst h
      have := hb.1 e he
      rw [hbe] at this
      simp only [Bool.not_true, Bool.false_or] at this
      have := Nat.le_of_ble_eq_true this
      omega
    | succ j =>
      simp only [List.getElem?_cons_succ] at h
      have := textB_ok hb.2 j o h e he hbe
      omega

theorem getD_set {listed : Array Bool} {i k : Nat} (hi : i < listed.size) : (listed.setIfInBounds i true).getD k false = (decide (k = i) || listed.getD k false) := by
  rw [Array.getD_eq_getD_getElem?, Array.getD_eq_getD_getElem?, Array.getElem?_setIfInBounds]
  by_cases h : i = k
  · subst h; simp [hi]
  · rw [if_neg h]; simp [Ne.symm h]

theorem left_set {n : Nat} {listed : Array Bool} (hs : listed.size = n) {i : Nat} (hi : i ∈ leftOf n listed) : ∃ pre post, leftOf n listed = pre ++ i :: post ∧ leftOf n (listed.setIfInBounds i true) = pre ++ post := by
  have hin := (leftOf_mem hs).1 hi
  obtain ⟨pre, post, e⟩ := List.append_of_mem hi
  refine ⟨pre, post, e, ?_⟩
  have hnd : (leftOf n listed).Nodup := List.Pairwise.filter _ List.nodup_range
  have e2 : leftOf n (listed.setIfInBounds i true) = (leftOf n listed).filter fun k => decide (k ≠ i) := by
    unfold leftOf
    rw [List.filter_filter]
    apply List.filter_congr
    intro k hk
    rw [List.mem_range] at hk
    have hk' : k < listed.size := by omega
    have h1 := getD_set (k := k) (listed := listed) (i := i) (by omega)
    have h2 : (listed.setIfInBounds i true).getD k true = (listed.setIfInBounds i true).getD k false := by simp [Array.getD, hk']
    have h3 : listed.getD k true = listed.getD k false := by simp [Array.getD, hk']
    rw [h2, h1, h3]
    by_cases h : k = i <;> simp [h]
  rw [e2, e, List.filter_append, List.filter_cons_of_neg (by simp)]
  rw [e] at hnd
  have hnd' := List.nodup_append.1 hnd
  have h1 : ∀ k ∈ pre, k ≠ i := fun k hk => hnd'.2.2 k hk i (by simp)
  have h2 : ∀ k ∈ post, k ≠ i := fun k hk e => (List.nodup_cons.1 hnd'.2.1).1 (e ▸ hk)
  rw [List.filter_eq_self.2 (by simpa using h1), List.filter_eq_self.2 (by simpa using h2)]

end Go.PI
