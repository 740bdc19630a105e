/- Regions that draw their order. -/
import Derived.Test.YtnhiplibodkciaaPIzk
namespace Go.PI
open Go.RowKit

variable {P : Program} {c : Ctx} {g : Cfg} {s st : St} {a : Act} {w : World}

theorem ancOf_mem {tab : List (List Nat)} {k : Nat} : ∀ {l : List Edge}, k ∈ ancOf tab l → ∃ e ∈ l, Region.binds .any e = true ∧ (k = e.on ∨ k ∈ tab.getD e.on [])
  | [], h => by simp [ancOf] at h
  | e :: r, h => by
    simp only [ancOf] at h
    cases hb : Region.binds .any e with
    | true =>
      rw [hb] at h
      simp only [cond_true] at h
      rcases mem_addAll.1 h with h | h
      · rcases List.mem_cons.1 h with h | h
        · exact ⟨e, List.mem_cons_self, hb, .inl h⟩
        · exact ⟨e, List.mem_cons_self, hb, .inr h⟩
      · obtain ⟨e', h1, h2⟩ := ancOf_mem h
        exact ⟨e', List.mem_cons_of_mem _ h1, h2⟩
    | false =>
      rw [hb] at h
      obtain ⟨e', h1, h2⟩ := ancOf_mem (l := r) h
      exact ⟨e', List.mem_cons_of_mem _ h1, h2⟩

/-- The table's rows are listed, where an operation's own edges are. -/
def TabOk (ops : List Oper) (L : Nat → Prop) (t : List (List Nat)) : Prop :=
  ∀ i o, i < t.length → ops[i]? = some o → (∀ e ∈ o.after.toList, Region.binds .any e = true → L e.on) → ∀ k ∈ t.getD i [], L k

theorem ancTab_ok {all : List Oper} {L : Nat → Prop} (hL : ∀ i o, all[i]? = some o → L i → ∀ e ∈ o.after.toList, Region.binds .any e = true → L e.on) (hin : ∀ i, L i → i < all.length) : ∀ {r : List Oper} {t : List (List Nat)}, (∀ j, r[j]? = all[t.length + j]?) → TabOk all L t → TabOk all L (ancTab t r)
  | [], t, _, ht => ht
  | o :: r, t, hr, ht => by
    refine ancTab_ok hL hin (r := r) (t := t ++ [ancOf t o.after.toList]) (fun j => ?_) ?_
    · have := hr (j + 1)
      simp only [List.getElem?_cons_succ] at this
      rw [this, List.length_append]
      show all[t.length + (j + 1)]? = all[t.length + 1 + j]?
      rw [show t.length + (j + 1) = t.length + 1 + j by omega]
    · intro i o' hi ho' he k hk
      rw [List.length_append] at hi
      have hi : i < t.length + 1 := hi
      by_cases hlt : i < t.length
      · refine ht i o' hlt ho' he k ?_
        simpa [List.getD, List.getElem?_append_left hlt] using hk
      · have e : i = t.length := by omega
        subst e
        have h0 := hr 0
        simp only [List.getElem?_cons_zero, Nat.add_zero] at h0
        rw [← h0] at ho'
        obtain rfl := Option.some.inj ho'
        have hk : k ∈ ancOf t o.after.toList := by simpa [List.getD] using hk
        obtain ⟨e, h1, h2, h3⟩ := ancOf_mem hk
        have hl := he e h1 h2
        rcases h3 with rfl | h3
        · exact hl
        · have hlt := hin _ hl
          have hsome := List.getElem?_eq_getElem hlt
          by_cases htl : e.on < t.length
          · exact ht e.on _ htl hsome (hL _ _ hsome hl) k h3
          · simp [List.getD, List.getElem?_eq_none (Nat.not_lt.1 htl)] at h3

theorem pairs_mem {ops : Array Oper} {tab : List (List Nat)} {y : Rec} {lq : List Rec} : ∀ {lp : List Rec}, pairsB ops tab (lp ++ y :: lq) = true → (∀ x ∈ lp, memb x.i (tab.getD y.i []) = true ∨ indep ops x y = true) ∧ pairsB ops tab (lp ++ lq) = true
  | [], h => by
    simp only [List.nil_append, pairsB, Bool.and_eq_true] at h
    exact ⟨fun x hx => by simp at hx, h.2⟩
  | z :: lp, h => by
    simp only [List.cons_append, pairsB, Bool.and_eq_true, List.all_eq_true] at h
    obtain ⟨h1, h2⟩ := pairs_mem (lp := lp) h.2
    refine ⟨fun x hx => ?_, ?_⟩
    · rcases List.mem_cons.1 hx with rfl | hx
      · have := h.1 y (by simp)
        simpa [Bool.or_eq_true] using this
      · exact h1 x hx
    · simp only [List.cons_append, pairsB, Bool.and_eq_true, List.all_eq_true]
      exact ⟨fun v hv => h.1 v (by
        rcases List.mem_append.1 hv with hv | hv
        · exact List.mem_append.2 (.inl hv)
        · exact List.mem_append.2 (.inr (List.mem_cons_of_mem _ hv))), h2⟩

end Go.PI
