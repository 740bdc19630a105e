/- GuardBlocks: the statement's parts. -/
import Derived.Test.YtnhiplibodkciaaGbB
namespace Go.Proofs.Ytnhiplibodkciaa
open Go.PI Go

abbrev evZ : Evt := (ByteArray.empty, ByteArray.empty, 0, 0, [])
theorem guard_w0_at {q : Qry} (h : QOk q) (hq : q.1.length ≤ 100) (r : RunT) (hr : r.2.2.1.length ≤ 60) (x : List Evt) (hx1 : 1 < x.length) (want : Bool) (i : Int) (h0 : 0 ≤ i) (h1 : i ≤ q.1.length) :
    guardBlocks_w0 (sch3, x, want, i, q, r, ()) = some (sch3, x, want || (negsF i (q.1.drop i.toNat)).any (fitP q r (x.getD 1 evZ)), q, r, ()) := by
  suffices hh : ∃ z, guardBlocks_w0 (sch3, x, want, i, q, r, ()) = some z ∧ z = (sch3, x, want || (negsF i (q.1.drop i.toNat)).any (fitP q r (x.getD 1 evZ)), q, r, ()) by
    obtain ⟨z, hh, rfl⟩ := hh
    exact hh
  refine iterO_rec (step := fun x => (guardBlocks_l0 x).run) (Q := fun y z => z = (sch3, x, y.2.2.1 || (negsF y.2.2.2.1 (q.1.drop y.2.2.2.1.toNat)).any (fitP q r (x.getD 1 evZ)), q, r, ())) (fun y => y.1 = sch3 ∧ y.2.1 = x ∧ 0 ≤ y.2.2.2.1 ∧ y.2.2.2.1 ≤ q.1.length ∧ y.2.2.2.2.1 = q ∧ y.2.2.2.2.2.1 = r) (fun y => ((q.1.length : Int) - y.2.2.2.1).toNat) ?_ _ ⟨rfl, rfl, h0, h1, rfl, rfl⟩
  rintro ⟨s', x', want, i, q', r', ⟨⟩⟩ hx
  dsimp only at hx ⊢
  obtain ⟨rfl, rfl, h0, h1, rfl, rfl⟩ := hx
  unfold guardBlocks_l0
  by_cases hi : i < (q'.1.length : Int)
  · have hw : IntKind.wrap .i64 (i + 1) = i + 1 := Go.PI.wrap_small (by omega) (by omega)
    have hx1' : (1 : Int) < (x'.length : Int) := by omega
    have e01 : (decide ((0 : Int) ≤ 1) && decide ((1 : Int) < (x'.length : Int))) = true := by simp; omega
    rw [drop_get q'.1 i (ByteArray.empty, [], false, 0, 0, []) h0 hi]
    have e1 : Int.toNat 1 = 1 := rfl
    simp only [Br.run, decide_eq_true hi, decide_eq_true h0, Bool.and_self, cond_true, hw, cond_eq_ite, negsF, e1, fitsG_at h r' hr]
    by_cases hc : (q'.1.getD i.toNat (ByteArray.empty, [], false, 0, 0, [])).2.2.1 = true
    · simp only [hc, ↓reduceIte]
      cases want
      · simp only [Bool.false_eq_true, ↓reduceIte]
        refine .inl ⟨_, (if_pos ?_), ?_, ?_, fun z hz => ?_⟩
        · simp only [Bool.and_eq_true, decide_eq_true_eq]
          exact ⟨by decide, hx1'⟩
        · exact ⟨rfl, rfl, by dsimp only; omega, by dsimp only; omega, rfl, rfl⟩
        · dsimp only; omega
        · rw [hz]
          simp only [List.any_cons, Bool.false_or]
      · simp only [↓reduceIte]
        refine .inl ⟨_, rfl, ?_, ?_, fun z hz => ?_⟩
        · exact ⟨rfl, rfl, by dsimp only; omega, by dsimp only; omega, rfl, rfl⟩
        · dsimp only; omega
        · rw [hz]
          simp only [Bool.true_or]
    · simp only [hc, ↓reduceIte, Bool.false_eq_true]
      exact .inr ⟨_, rfl, by simp⟩
  · simp only [Br.run, decide_eq_false hi, cond_false]
    have : q'.1.drop i.toNat = [] := List.drop_eq_nil_of_le (by omega)
    rw [this]
    exact .inr ⟨_, rfl, by simp [negsF]⟩

theorem mkE_len (k : Int) (key : ByteArray) (t n : Int) (s : ByteArray) (b : Bool) : (mkE k key t n s b).2.2.2.2.length ≤ 3 := by
  unfold mkE
  dsimp only
  split <;> simp
theorem eventsR_tot (l : List Evt) : ∃ x, eventsR (l, 5, ()) = some (x, ()) ∧ ∀ e ∈ x, e.2.2.2.2.length ≤ 3 := by
  unfold eventsR eventsR_B
  obtain ⟨z, hz, hq⟩ : ∃ z, eventsR_w0 (l, 5, 0, [], ()) = some z ∧ ∀ e ∈ z.1, e.2.2.2.2.length ≤ 3 := by
    refine iterO_rec (step := fun x => (eventsR_l0 x).run) (Q := fun _ z => ∀ e ∈ z.1, e.2.2.2.2.length ≤ 3) (fun y => y.1 = l ∧ y.2.1 = 5 ∧ 0 ≤ y.2.2.1 ∧ y.2.2.1 ≤ 5 ∧ (y.2.2.2.1.length : Int) ≤ y.2.2.1 ∧ ∀ e ∈ y.2.2.2.1, e.2.2.2.2.length ≤ 3) (fun y => ((5 : Int) - y.2.2.1).toNat) ?_ _ ⟨rfl, rfl, by dsimp only; omega, by dsimp only; omega, by simp, by simp⟩
    rintro ⟨l', m, i, acc, ⟨⟩⟩ hx
    dsimp only at hx ⊢
    obtain ⟨rfl, rfl, h0, h1, h2, h3⟩ := hx
    unfold eventsR_l0
    by_cases hi : i < (l'.length : Int)
    · by_cases hi5 : i < 5
      · have hw : IntKind.wrap .i64 (i + 1) = i + 1 := Go.PI.wrap_small (by omega) (by omega)
        obtain ⟨k, key, t, n, s, b, -, -, -, he⟩ := eventR_at (List.getD l' (Int.toNat i) (ByteArray.empty, ByteArray.empty, 0, 0, []))
        simp only [Br.run, decide_eq_true hi, decide_eq_true hi5, decide_eq_true h0, Bool.and_self, cond_true, hw, he, Bool.cond_decide]
        refine .inl ⟨_, if_pos ?_, ?_, ?_, fun z hz => hz⟩
        · show (acc.length + 1) * 72 ≤ 140737488355328
          omega
        · refine ⟨rfl, rfl, by dsimp only; omega, by dsimp only; omega, ?_, fun e he' => ?_⟩
          · show (((acc ++ [_]).length : Nat) : Int) ≤ i + 1
            rw [List.length_append, List.length_singleton]; omega
          · rcases List.mem_append.1 he' with h | h
            · exact h3 e h
            · obtain rfl := List.mem_singleton.1 h
              exact mkE_len k key t n s b
        · dsimp only; omega
      · simp only [Br.run, decide_eq_true hi, decide_eq_false hi5, cond_true, cond_false]
        exact .inr ⟨_, rfl, h3⟩
    · simp only [Br.run, decide_eq_false hi, cond_false]
      exact .inr ⟨_, rfl, h3⟩
  simp only [Br.run, hz]
  exact ⟨_, rfl, hq⟩

abbrev run0 : RunT := (0, [], [], 0, (0, 0, 0), false)
theorem runWith0 (q : Qry) (k : Int) (hk0 : 0 ≤ k) (hk : k < q.1.length) (e : Evt) (he : e.2.2.2.2.length ≤ 1000) : ∃ r : RunT, runWith (run0, q, 1, k, e, ()) = some (r, ()) ∧ r.2.2.1.length ≤ 60 ∧ r.2.1 = [(k, e.2.2.2.1)] := by
  unfold runWith runWith_B withP withB stampE stampE_B runLen runLen_B copyE copyE_B cloneVal
  have hb : bound (0 + e.2.2.2.2.length) 40 = true := by unfold bound; exact decide_eq_true (by omega)
  have hk0' : k ≥ 0 := hk0
  simp only [Br.run, lenP_at, List.length_nil, decide_eq_true hk0, decide_eq_true hk0', decide_eq_true hk, Bool.and_self, cond_true, hb, decide_true, Nat.lt_of_lt_of_le (show 0 < 1 by decide) (show 1 ≤ 9223372036854775807 by decide)]
  cases hc : ((Prod.fst (Prod.snd (Prod.snd (Prod.snd (Prod.snd (List.getD (Prod.fst q) (Int.toNat k) (ByteArray.empty, [], false, 0, 0, [])))))) == 1))
  · exact ⟨_, rfl, by simp, rfl⟩
  · exact ⟨_, rfl, by simp, rfl⟩
end Go.Proofs.Ytnhiplibodkciaa
