/- What a step looks at decides what it does. -/
import Derived.Test.YtnhiplibodkciaaPIzb
namespace Go.PI
open Go.RowKit

theorem cellNms_eq {m m' : Mem} : ∀ {ns : List Nat}, (∀ n ∈ ns, look n m = look n m') → cellNms m ns = cellNms m' ns
  | [], _ => rfl
  | n :: r, h => by
    simp only [cellNms]
    rw [h n List.mem_cons_self, cellNms_eq (ns := r) fun k hk => h k (List.mem_cons_of_mem _ hk)]

theorem mem_addAll {n : Nat} : ∀ {l ns : List Nat}, n ∈ addAll l ns ↔ n ∈ l ∨ n ∈ ns
  | [], ns => by simp [addAll]
  | k :: r, ns => by
    simp only [addAll]
    cases hk : memb k ns with
    | true =>
      simp only [cond_true, mem_addAll (l := r), List.mem_cons]
      constructor
      · rintro (h | h)
        · exact .inl (.inr h)
        · exact .inr h
      · rintro ((rfl | h) | h)
        · exact .inr (memb_iff.1 hk)
        · exact .inl h
        · exact .inr h
    | false =>
      simp only [cond_false, mem_addAll (l := r), List.mem_cons]
      constructor
      · rintro (h | h | h)
        · exact .inl (.inr h)
        · exact .inl (.inl h)
        · exact .inr h
      · rintro ((h | h) | h)
        · exact .inr (.inl h)
        · exact .inl h
        · exact .inr (.inr h)

theorem closeN_sub {m : Mem} : ∀ (f : Nat) {ns : List Nat} {n : Nat}, n ∈ ns → n ∈ closeN m f ns
  | 0, _, _, h => h
  | f + 1, _, _, h => closeN_sub f (mem_addAll.2 (.inr h))

theorem closeN_eq {m m' : Mem} : ∀ (f : Nat) {ns : List Nat}, (∀ n ∈ closeN m f ns, look n m = look n m') → closeN m f ns = closeN m' f ns
  | 0, _, _ => rfl
  | f + 1, ns, h => by
    simp only [closeN] at h ⊢
    have e : cellNms m ns = cellNms m' ns := cellNms_eq fun n hn => h n (closeN_sub f (mem_addAll.2 (.inr hn)))
    rw [← e]
    exact closeN_eq f h

theorem nmsOf_eq {t t' : List D} : ∀ {l : List Nat}, (∀ i ∈ l, t.getD i (.c .bad) = t'.getD i (.c .bad)) → nmsOf t l = nmsOf t' l
  | [], _ => rfl
  | i :: r, h => by
    simp only [nmsOf]
    rw [h i List.mem_cons_self, nmsOf_eq (l := r) fun k hk => h k (List.mem_cons_of_mem _ hk)]

/-- Two states that say the same of what is looked at. -/
structure Same (l F : List Nat) (s s' : St) : Prop where
  len : s.t.length = s'.t.length
  t : ∀ i ∈ l, s.t.getD i (.c .bad) = s'.t.getD i (.c .bad)
  m : ∀ n ∈ F, look n s.m = look n s'.m

theorem Same.names {l : List Nat} {s s' : St} (h : Same l (namesAt s l) s s') : namesAt s' l = namesAt s l := by
  unfold namesAt at *
  rw [← nmsOf_eq h.t]
  exact (closeN_eq 3 h.m).symm

theorem memAt_eq {m m' : Mem} : ∀ {ns : List Nat}, (∀ n ∈ ns, look n m = look n m') → memAt m ns = memAt m' ns
  | [], _ => rfl
  | n :: r, h => by
    simp only [memAt]
    rw [h n List.mem_cons_self, memAt_eq (ns := r) fun k hk => h k (List.mem_cons_of_mem _ hk)]

theorem maskT_eq {l : List Nat} {t t' : List D} (hlen : t.length = t'.length) (h : ∀ i ∈ l, t.getD i (.c .bad) = t'.getD i (.c .bad)) : maskT l 0 t = maskT l 0 t' := by
  apply List.ext_getElem?
  intro i
  rw [maskT_get, maskT_get, Nat.zero_add]
  cases hm : memb i l with
  | true =>
    have := h i (memb_iff.1 hm)
    by_cases hi : i < t.length
    · have hi' : i < t'.length := hlen ▸ hi
      simp only [List.getD, List.getElem?_eq_getElem hi, List.getElem?_eq_getElem hi', Option.getD_some] at this
      rw [List.getElem?_eq_getElem hi, List.getElem?_eq_getElem hi', this]
    · rw [List.getElem?_eq_none (Nat.not_lt.1 hi), List.getElem?_eq_none (hlen ▸ Nat.not_lt.1 hi)]
  | false =>
    by_cases hi : i < t.length
    · have hi' : i < t'.length := hlen ▸ hi
      rw [List.getElem?_eq_getElem hi, List.getElem?_eq_getElem hi']; rfl
    · rw [List.getElem?_eq_none (Nat.not_lt.1 hi), List.getElem?_eq_none (hlen ▸ Nat.not_lt.1 hi)]

theorem Same.cut {l F : List Nat} {s s' : St} (h : Same l F s s') : s.cut l F = s'.cut l F := by
  unfold St.cut
  rw [maskT_eq h.len h.t, memAt_eq h.m]

theorem Same.good {l F : List Nat} {s s' : St} (h : Same l F s s') : goodAt s l F = goodAt s' l F := by
  unfold goodAt
  rw [nmsOf_eq h.t]
  congr 1
  · congr 1
    rw [Bool.eq_iff_iff, List.all_eq_true, List.all_eq_true]
    exact ⟨fun k i hi => by rw [← h.t i hi]; exact k i hi, fun k i hi => by rw [h.t i hi]; exact k i hi⟩
  · rw [Bool.eq_iff_iff, List.all_eq_true, List.all_eq_true]
    exact ⟨fun k i hi => by rw [← h.m i hi]; exact k i hi, fun k i hi => by rw [h.m i hi]; exact k i hi⟩

theorem Same.look {o : Op} {F : List Nat} {s s' : St} (h : Same (lookSlots s o) F s s') : lookSlots s' o = lookSlots s o := by
  unfold lookSlots at *
  split at h
  · rename_i k a b
    have e : opd s' k = opd s k := by
      cases k with
      | tmp t =>
        have : t ∈ (match opd s (.tmp t) with
          | .c .tt => slotsOf [.tmp t, a]
          | .c .ff => slotsOf [.tmp t, b]
          | _ => slotsOf [.tmp t, a, b]) := by split <;> simp [slotsOf]
        exact (h.t t this).symm
      | _ => rfl
    simp only [e]
  · rfl

end Go.PI
