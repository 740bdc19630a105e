/- What guards come to: whatever is asked, an answer. -/
import Derived.Test.YtnhiplibodkciaaEvH0
import Derived.Test.YtnhiplibodkciaaR8
namespace Go.Proofs.Ytnhiplibodkciaa
open Go.PI Go

abbrev Elm := ByteArray × (List ByteArray × (Bool × (Int × (Int × List Nd))))
abbrev Qry := List Elm × (Int × Int)
abbrev Prs := Int × Int
abbrev Stp := Int × (Int × Int)
abbrev RunT := Int × (List Prs × (List Bnd × (Int × (Stp × Bool))))
abbrev eZ : Elm := (ByteArray.empty, [], false, 0, 0, [])

theorem idxStr_tot (l : List ByteArray) (hl : l.length ≤ 1000) (s : ByteArray) : ∃ r, idxStr (l, s, ()) = some (r, ()) := by
  unfold idxStr idxStr_B
  obtain ⟨z, hz, -⟩ : ∃ z, idxStr_w0 (l, s, (↑(List.length l) : Int), 0, ()) = some z ∧ True := by
    refine iterO_rec (step := fun x => (idxStr_l0 x).run) (Q := fun _ _ => True) (fun x => x.1 = l ∧ x.2.1 = s ∧ x.2.2.1 = (l.length : Int) ∧ 0 ≤ x.2.2.2.1 ∧ x.2.2.2.1 ≤ (l.length : Int)) (fun x => ((l.length : Int) - x.2.2.2.1).toNat) ?_ _ ⟨rfl, rfl, rfl, by dsimp only; omega, by dsimp only; omega⟩
    rintro ⟨l', s', m, i, ⟨⟩⟩ hx
    dsimp only at hx ⊢
    obtain ⟨rfl, rfl, rfl, h0, h1⟩ := hx
    unfold idxStr_l0
    by_cases hi : i < (l'.length : Int)
    · have hw : IntKind.wrap .i64 (i + 1) = i + 1 := Go.PI.wrap_small (by omega) (by omega)
      simp only [Br.run, decide_eq_true hi, decide_eq_true h0, Bool.and_self, cond_true, hw, cond_eq_ite]
      by_cases hc : (bl s' == bl (l'.getD i.toNat ByteArray.empty)) = true <;> simp only [hc, ↓reduceIte, Bool.false_eq_true]
      · exact .inr ⟨_, rfl, trivial⟩
      · refine .inl ⟨_, rfl, ?_, ?_, fun z hz => hz⟩
        · exact ⟨rfl, rfl, rfl, by dsimp only; omega, by dsimp only; omega⟩
        · dsimp only; omega
    · simp only [Br.run, decide_eq_false hi, cond_false]
      exact .inr ⟨_, rfl, trivial⟩
  simp only [Br.run, hz]
  cases z <;> exact ⟨_, rfl⟩
theorem hasStr_tot (l : List ByteArray) (hl : l.length ≤ 1000) (s : ByteArray) : ∃ b, hasStr (l, s, ()) = some (b, ()) := by
  unfold hasStr hasStr_B
  obtain ⟨r, h⟩ := idxStr_tot l hl s
  simp only [Br.run, h]
  exact ⟨_, rfl⟩

theorem holdsF_tot (l : List Nd) (env : List Bnd) (he : env.length ≤ 64) : ∃ b, holdsF (sch3, l, env, ()) = some (b, ()) := by
  unfold holdsF holdsF_B truthV truthV_B
  simp only [Br.run, evalE_at (fv_tot env he), cond_eq_ite]
  split
  · exact ⟨_, rfl⟩
  · split
    all_goals (split <;> exact ⟨_, rfl⟩)

/-- A query whose elements' types are few. -/
def QOk (q : Qry) : Prop := ∀ e ∈ q.1, e.2.1.length ≤ 1000
theorem qok_get {q : Qry} (h : QOk q) (i : Nat) : (q.1.getD i eZ).2.1.length ≤ 1000 := by
  by_cases hi : i < q.1.length
  · have : q.1.getD i eZ = q.1[i] := by simp [List.getD, hi]
    rw [this]
    exact h _ (List.getElem_mem hi)
  · have : q.1.getD i eZ = eZ := by simp [List.getD, Nat.le_of_not_lt hi]
    rw [this]; decide

theorem fitsG_tot {q : Qry} (h : QOk q) (r : RunT) (hr : r.2.2.1.length ≤ 60) (at' : Int) (e : Evt) : ∃ b, fitsG (sch3, q, r, at', e, ()) = some (b, ()) := by
  unfold fitsG fitsG_B envR envR_B listB
  by_cases h0 : at' < 0
  · simp only [Br.run, decide_eq_true h0, cond_true]
    exact ⟨_, rfl⟩
  by_cases h1 : at' ≥ (↑(List.length q.1) : Int)
  · simp only [Br.run, decide_eq_false h0, decide_eq_true h1, cond_true, cond_false]
    exact ⟨_, rfl⟩
  obtain ⟨b, hb⟩ := hasStr_tot _ (qok_get h at'.toNat) e.1
  have g0 : 0 ≤ at' := by omega
  have g1 : at' < (↑(List.length q.1) : Int) := by omega
  have g2 : r.2.2.1.length * 88 ≤ 140737488355328 := by omega
  have hb' : hasStr ((q.1.getD at'.toNat (ByteArray.empty, [], false, 0, 0, [])).2.1, e.1, ()) = some (b, ()) := hb
  simp only [Br.run, decide_eq_false h0, decide_eq_false h1, decide_eq_true g0, decide_eq_true g1, Bool.and_self, cond_true, cond_false, hb', decide_eq_true g2]
  cases b
  · exact ⟨_, rfl⟩
  · obtain ⟨v, hv⟩ := holdsF_tot (q.1.getD at'.toNat (ByteArray.empty, [], false, 0, 0, [])).2.2.2.2.2 (r.2.2.1.reverse ++ List.set (List.replicate 1 (ByteArray.empty, ByteArray.empty, ByteArray.empty, 0, 0, [])) 0 ((q.1.getD at'.toNat (ByteArray.empty, [], false, 0, 0, [])).1, e)) (by
      rw [List.length_append, List.length_reverse]
      show _ + 1 ≤ 64
      omega)
    simp only [Bool.not_true, cond_false, Bool.cond_decide]
    rw [if_pos (by
      show (r.2.2.1.reverse.length + 1) * 88 ≤ 140737488355328
      rw [List.length_reverse]
      omega)]
    simp only [hv, Br.run]
    exact ⟨_, rfl⟩
end Go.Proofs.Ytnhiplibodkciaa
