/- Runs: one more event; alike ones are the same; queries that are alike. -/
import Derived.Test.YtnhiplibodkciaaStB
import Derived.Test.YtnhiplibodkciaaS3a
import Derived.Test.YtnhiplibodkciaaGbQ
namespace Go.Proofs.Ytnhiplibodkciaa
open Go.PI Go

/-- A run with one more event. -/
def withR (r : RunT) (q : Qry) (st el : Int) (e : Evt) : RunT :=
  (st, (el, e.2.2.2.1) :: r.2.1, (if 0 ≤ el ∧ el < q.1.length ∧ (q.1.getD el.toNat eZ').2.2.2.2.1 = 1 then ((q.1.getD el.toNat eZ').1, e) :: r.2.2.1 else r.2.2.1), (if r.2.1 = [] then e.2.2.1 else r.2.2.2.1), (e.2.2.1, e.2.2.2.1, 0), false)
theorem runWith_at (r : RunT) (q : Qry) (st el : Int) (e : Evt) (hm : r.2.1.length ≤ 1000000) (he : r.2.2.1.length ≤ 1000000) (hv : e.2.2.2.2.length ≤ 1000) : runWith (r, q, st, el, e, ()) = some (withR r q st el e, ()) := by
  unfold runWith runWith_B withP withB stampE stampE_B runLen runLen_B copyE copyE_B cloneVal
  have hb : bound (0 + e.2.2.2.2.length) 40 = true := by unfold bound; exact decide_eq_true (by omega)
  have hm' : r.2.1.length < 9223372036854775807 := by omega
  have he' : r.2.2.1.length < 9223372036854775807 := by omega
  obtain ⟨r1, rm, re, rf, rs, rb⟩ := r
  obtain ⟨e1, e2, e3, e4, e5⟩ := e
  dsimp only at hm he hv hb hm' he' ⊢
  by_cases h0 : 0 ≤ el
  · have h0' : el ≥ 0 := h0
    by_cases h1 : el < q.1.length
    · by_cases h2 : (q.1.getD el.toNat eZ').2.2.2.2.1 = 1
      · have h2' : ((q.1.getD el.toNat eZ').2.2.2.2.1 == 1) = true := by rw [h2]; rfl
        cases rm with
        | nil => simp only [Br.run, lenP_at, List.length_nil, decide_eq_true hm', decide_eq_true he', cond_true, decide_eq_true h0, decide_eq_true h0', decide_eq_true h1, Bool.and_self, h2', hb, withR, h0, h1, h2, and_self, if_true]; rfl
        | cons a m => 
          have hl : (((a :: m).length : Int) == 0) = false := by simp; omega
          have hl' : (a :: m).length < 9223372036854775807 := hm'
          simp only [Br.run, lenP_at, hl, decide_eq_true hl', decide_eq_true he', cond_true, cond_false, decide_eq_true h0, decide_eq_true h0', decide_eq_true h1, Bool.and_self, h2', hb, withR, h0, h1, h2, and_self, if_true]; rfl
      · have h2' : ((q.1.getD el.toNat eZ').2.2.2.2.1 == 1) = false := by simpa using h2
        cases rm with
        | nil => simp only [Br.run, lenP_at, List.length_nil, decide_eq_true hm', decide_eq_true he', cond_true, cond_false, decide_eq_true h0, decide_eq_true h0', decide_eq_true h1, Bool.and_self, h2', hb, withR, h2, and_false, if_false]; rfl
        | cons a m => 
          have hl : (((a :: m).length : Int) == 0) = false := by simp; omega
          have hl' : (a :: m).length < 9223372036854775807 := hm'
          simp only [Br.run, lenP_at, hl, decide_eq_true hl', decide_eq_true he', cond_true, cond_false, decide_eq_true h0, decide_eq_true h0', decide_eq_true h1, Bool.and_self, h2', hb, withR, h2, and_false, if_false]; rfl
    · cases rm with
      | nil => simp only [Br.run, lenP_at, List.length_nil, decide_eq_true hm', cond_true, cond_false, decide_eq_true h0', decide_eq_false h1, withR, h1, false_and, and_false, if_false]; rfl
      | cons a m => 
        have hl : (((a :: m).length : Int) == 0) = false := by simp; omega
        have hl' : (a :: m).length < 9223372036854775807 := hm'
        simp only [Br.run, lenP_at, hl, decide_eq_true hl', cond_true, cond_false, decide_eq_true h0', decide_eq_false h1, withR, h1, false_and, and_false, if_false]; rfl
  · have h0' : ¬ el ≥ 0 := h0
    cases rm with
    | nil => simp only [Br.run, lenP_at, List.length_nil, decide_eq_true hm', cond_true, cond_false, decide_eq_false h0', withR, h0, false_and, if_false]; rfl
    | cons a m => 
      have hl : (((a :: m).length : Int) == 0) = false := by simp; omega
      have hl' : (a :: m).length < 9223372036854775807 := hm'
      simp only [Br.run, lenP_at, hl, decide_eq_true hl', cond_true, cond_false, decide_eq_false h0', withR, h0, false_and, if_false]; rfl

/-- The element a run is at. -/
def elemR (r : RunT) : Int := match r.2.1 with
  | [] => -1
  | x :: _ => x.1
theorem runElem_at (r : RunT) : runElem (r, ()) = some (elemR r, ()) := by
  unfold runElem runElem_B newestP newestP_B
  obtain ⟨r1, rm, rest⟩ := r
  cases rm with
  | nil => simp only [Br.run, lenP_at]; rfl
  | cons a m =>
    have hl : (((a :: m).length : Int) == 0) = false := by simp; omega
    simp only [Br.run, lenP_at, hl, cond_false]; rfl
theorem runLen_at (r : RunT) : runLen (r, ()) = some ((r.2.1.length : Int), ()) := by
  unfold runLen runLen_B
  simp only [Br.run, lenP_at]
theorem runState_at (r : RunT) : runState (r, ()) = some (r.1, ()) := rfl
theorem runBlkd_at (r : RunT) : runBlkd (r, ()) = some (r.2.2.2.2.2, ()) := rfl
theorem runBlock_at (r : RunT) : runBlock (r, ()) = some ((r.1, r.2.1, r.2.2.1, r.2.2.2.1, r.2.2.2.2.1, true), ()) := rfl

theorem eqPairs_same (l : List Prs) (hl : l.length ≤ 1000000) : eqPairs (l, l, ()) = some (true, ()) := by
  unfold eqPairs eqPairs_B
  obtain ⟨z, hz, hq⟩ : ∃ z, eqPairs_w0 (l, l, (l.length : Int), 0, ()) = some z ∧ z = .inr () := by
    refine iterO_rec (step := fun x => (eqPairs_l0 x).run) (Q := fun _ z => z = .inr ()) (fun y => y.1 = l ∧ y.2.1 = l ∧ y.2.2.1 = (l.length : Int) ∧ 0 ≤ y.2.2.2.1 ∧ y.2.2.2.1 ≤ l.length) (fun y => ((l.length : Int) - y.2.2.2.1).toNat) ?_ _ ⟨rfl, rfl, rfl, Int.le_refl 0, by dsimp only; omega⟩
    rintro ⟨l1, l2, n, i, ⟨⟩⟩ hx
    dsimp only at hx ⊢
    obtain ⟨rfl, rfl, rfl, h0, h1⟩ := hx
    unfold eqPairs_l0
    by_cases hi : i < (l2.length : Int)
    · have hw : IntKind.wrap .i64 (i + 1) = i + 1 := Go.PI.wrap_small (by omega) (by omega)
      simp only [Br.run, decide_eq_true hi, decide_eq_true h0, Bool.and_self, cond_true, hw, decide_true, Bool.not_true, cond_false]
      exact .inl ⟨_, rfl, ⟨rfl, rfl, rfl, by dsimp only; omega, by dsimp only; omega⟩, by dsimp only; omega, fun z hz => hz⟩
    · simp only [Br.run, decide_eq_false hi, cond_false]
      exact .inr ⟨_, rfl, rfl⟩
  subst hq
  have hn : ((l.length : Int) != (l.length : Int)) = false := by simp
  simp only [Br.run, hn, cond_false, hz]
theorem runSame_same (r : RunT) (hr : r.2.1.length ≤ 1000000) : runSame (r, r, ()) = some (true, ()) := by
  unfold runSame runSame_B runPairs runPairs_B listP
  have hb : r.2.1.length * 16 ≤ 140737488355328 := by omega
  have e : eqPairs (r.2.1.reverse, r.2.1.reverse, ()) = some (true, ()) := eqPairs_same _ (by rw [List.length_reverse]; exact hr)
  simp only [Br.run, beq_self_eq_true, cond_true, decide_true, Bool.and_self, hb, e]

theorem same11_same (l : List Nd) (hl : l.length ≤ 1000000) : same11 (l, l, ()) = some (true, ()) := by
  unfold same11 same11_B
  obtain ⟨z, hz, hq⟩ : ∃ z, same11_w0 (l, l, 0, ()) = some z ∧ z = .inr () := by
    refine iterO_rec (step := fun x => (same11_l0 x).run) (Q := fun _ z => z = .inr ()) (fun y => y.1 = l ∧ y.2.1 = l ∧ 0 ≤ y.2.2.1 ∧ y.2.2.1 ≤ l.length) (fun y => ((l.length : Int) - y.2.2.1).toNat) ?_ _ ⟨rfl, rfl, Int.le_refl 0, by dsimp only; omega⟩
    rintro ⟨l1, l2, i, ⟨⟩⟩ hx
    dsimp only at hx ⊢
    obtain ⟨rfl, rfl, h0, h1⟩ := hx
    unfold same11_l0
    by_cases hi : i < (l2.length : Int)
    · have hw : IntKind.wrap .i64 (i + 1) = i + 1 := Go.PI.wrap_small (by omega) (by omega)
      simp only [Br.run, decide_eq_true hi, decide_eq_true h0, Bool.and_self, cond_true, hw, decide_true, beq_self_eq_true, Bool.not_true, cond_false]
      exact .inl ⟨_, rfl, ⟨rfl, rfl, by dsimp only; omega, by dsimp only; omega⟩, by dsimp only; omega, fun z hz => hz⟩
    · simp only [Br.run, decide_eq_false hi, cond_false]
      exact .inr ⟨_, rfl, rfl⟩
  subst hq
  have hn : ((l.length : Int) != (l.length : Int)) = false := by simp
  simp only [Br.run, hn, cond_false, hz]
end Go.Proofs.Ytnhiplibodkciaa
