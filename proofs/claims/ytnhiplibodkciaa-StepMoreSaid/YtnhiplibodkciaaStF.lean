/- StepMore: the statement comes to true. -/
import Derived.Test.YtnhiplibodkciaaStE
namespace Go.Proofs.Ytnhiplibodkciaa
open Go.PI Go

theorem awake24_at : awake24 () = some (true, ()) := awake24_le 100 _ _ (by kernel_rfl)

theorem step_w0_at {q : Qry} (h : QMade q) {L : List Stt} (hL2 : L.length ≤ 100) (hs : ∀ s ∈ L, StOk q s) (M : Option (Sch × (Qry × Option (Qry × List Stt)))) (c : Int) (r : RunT) (hm : r.2.1.length ≤ 100) (hr : r.2.2.1.length ≤ 60) (e : Evt) (he : e.2.2.2.2.length ≤ 3) (v : List Int) (hv : v.length ≤ 2) (hv2 : ∀ j ∈ v, 0 ≤ j ∧ j < L.length) :
    stepMore_w0 (sch3, some (q, L), M, v, 0, q, r, e, [], ()) = some (M, q, r, e, moreF q L r e v, ()) := by
  suffices hh : ∃ z, stepMore_w0 (sch3, some (q, L), M, v, 0, q, r, e, [], ()) = some z ∧ z = (M, q, r, e, [] ++ moreF q L r e (v.drop (Int.toNat 0)), ()) by
    obtain ⟨z, hz, rfl⟩ := hh
    exact hz
  refine iterO_rec (step := fun x => (stepMore_l0 x).run) (Q := fun y z => z = (M, q, r, e, y.2.2.2.2.2.2.2.2.1 ++ moreF q L r e (v.drop y.2.2.2.2.1.toNat), ()))
    (fun y => ∃ (i : Int) (acc : List RunT), y = (sch3, some (q, L), M, v, i, q, r, e, acc, ()) ∧ 0 ≤ i ∧ i ≤ v.length ∧ (acc.length : Int) ≤ i) (fun y => ((v.length : Int) - y.2.2.2.2.1).toNat) ?_ _ ⟨0, [], rfl, Int.le_refl 0, by omega, by simp⟩
  rintro y ⟨i, acc, rfl, h0, h1, h2⟩
  unfold stepMore_l0
  dsimp only
  by_cases hi : i < (v.length : Int)
  · have hw : IntKind.wrap .i64 (i + 1) = i + 1 := Go.PI.wrap_small (by omega) (by omega)
    have hlt : i.toNat < v.length := by omega
    obtain ⟨k0, k1⟩ := hv2 (v.getD i.toNat 0) (by rw [getD_lt _ _ _ hlt]; exact List.getElem_mem hlt)
    rw [drop_get v i 0 h0 hi]
    generalize v.getD i.toNat 0 = k at k0 k1 ⊢
    have ha := atN_at q L k k0 k1
    have hf := fitsG_at h.qok r hr e (L.getD k.toNat (0, 0)).1
    have hwi := runWith_at r q k (L.getD k.toNat (0, 0)).1 e (by omega) (by omega) (by omega)
    have hb : (acc.length + List.length (List.set (List.replicate 1 ((0, [], [], 0, (0, 0, 0), false) : RunT)) 0 (withR r q k (L.getD k.toNat (0, 0)).1 e))) * 64 ≤ 140737488355328 := by
      show (acc.length + 1) * 64 ≤ _
      omega
    have eA : ∀ x : RunT, acc ++ List.set (List.replicate 1 ((0, [], [], 0, (0, 0, 0), false) : RunT)) 0 x = acc ++ [x] := fun x => rfl
    have step : ∀ acc' : List RunT, (acc'.length : Int) ≤ i + 1 → acc' ++ moreF q L r e (v.drop (i + 1).toNat) = acc ++ moreF q L r e (k :: v.drop (i + 1).toNat) →
        (∃ x', (some (Sum.inl (sch3, some (q, L), M, v, i + 1, q, r, e, acc', ())) : Option (_ ⊕ (Option (Sch × (Qry × Option (Qry × List Stt))) × (Qry × (RunT × (Evt × (List RunT × Unit))))))) = some (.inl x') ∧ (∃ (i : Int) (acc : List RunT), x' = (sch3, some (q, L), M, v, i, q, r, e, acc, ()) ∧ 0 ≤ i ∧ i ≤ v.length ∧ (acc.length : Int) ≤ i) ∧ ((v.length : Int) - x'.2.2.2.2.1).toNat < ((v.length : Int) - i).toNat ∧
          ∀ z, z = (M, q, r, e, x'.2.2.2.2.2.2.2.2.1 ++ moreF q L r e (v.drop x'.2.2.2.2.1.toNat), ()) → z = (M, q, r, e, acc ++ moreF q L r e (k :: v.drop (i + 1).toNat), ())) := by
      intro acc' a1 a2
      refine ⟨_, rfl, ⟨i + 1, acc', rfl, by omega, by omega, a1⟩, by dsimp only; omega, fun z hz => ?_⟩
      rw [hz, ← a2]
    cases c2 : fitP q r e (L.getD k.toNat (0, 0)).1
    · rw [c2] at hf
      simp only [Br.run, decide_eq_true hi, decide_eq_true h0, Bool.and_self, cond_true, cond_false, hw, ha, hf]
      refine .inl (step acc (by omega) ?_)
      simp only [moreF, c2, Bool.false_and, Bool.false_eq_true, ↓reduceIte]
    · rw [c2] at hf
      cases c3 : r.2.2.2.2.2
      · simp only [Br.run, decide_eq_true hi, decide_eq_true h0, Bool.and_self, cond_true, cond_false, hw, ha, hf, runBlkd_at, c3, Bool.not_false, hwi, decide_eq_true hb, eA]
        refine .inl (step _ (by rw [List.length_append, List.length_singleton]; omega) ?_)
        simp only [moreF, c2, c3, Bool.not_false, Bool.true_or, Bool.and_self, ↓reduceIte, List.append_assoc, List.singleton_append]
      · cases c1 : (L.getD k.toNat (0, 0)).1 == elemR r
        · simp only [Br.run, decide_eq_true hi, decide_eq_true h0, Bool.and_self, cond_true, cond_false, hw, ha, hf, runBlkd_at, c3, Bool.not_true, runElem_at, c1]
          refine .inl (step acc (by omega) ?_)
          simp only [moreF, c3, c1, Bool.not_true, Bool.or_self, Bool.and_false, Bool.false_eq_true, ↓reduceIte]
        · simp only [Br.run, decide_eq_true hi, decide_eq_true h0, Bool.and_self, cond_true, cond_false, hw, ha, hf, runBlkd_at, c3, Bool.not_true, runElem_at, c1, hwi, decide_eq_true hb, eA]
          refine .inl (step _ (by rw [List.length_append, List.length_singleton]; omega) ?_)
          simp only [moreF, c2, c1, Bool.or_true, Bool.and_self, ↓reduceIte, List.append_assoc, List.singleton_append]
  · simp only [Br.run, decide_eq_false hi, cond_false]
    have : v.drop i.toNat = [] := List.drop_eq_nil_of_le (by omega)
    rw [this]
    exact .inr ⟨_, rfl, by simp [moreF]⟩

theorem step_w1_at (M : Option (Sch × (Qry × Option (Qry × List Stt)))) (q : Qry) (l : List RunT) (hl : l.length ≤ 100) (hr : ∀ r ∈ l, r.2.1.length ≤ 1000000) : stepMore_w1 (M, l, 0, q, l, ()) = some (.inr (M, q, ())) := by
  suffices hh : ∃ z, stepMore_w1 (M, l, 0, q, l, ()) = some z ∧ z = .inr (M, q, ()) by
    obtain ⟨z, hz, rfl⟩ := hh
    exact hz
  refine iterO_rec (step := fun x => (stepMore_l1 x).run) (Q := fun y z => z = .inr (M, q, ())) (fun y => ∃ i : Int, y = (M, l, i, q, l, ()) ∧ 0 ≤ i ∧ i ≤ l.length) (fun y => ((l.length : Int) - y.2.2.1).toNat) ?_ _ ⟨0, rfl, Int.le_refl 0, by omega⟩
  rintro y ⟨i, rfl, h0, h1⟩
  unfold stepMore_l1
  dsimp only
  by_cases hi : i < (l.length : Int)
  · have hw : IntKind.wrap .i64 (i + 1) = i + 1 := Go.PI.wrap_small (by omega) (by omega)
    have hlt : i.toNat < l.length := by omega
    have hs := runSame_same (l.getD i.toNat run0) (hr _ (by rw [getD_lt _ _ _ hlt]; exact List.getElem_mem hlt))
    simp only [Br.run, decide_eq_true hi, decide_eq_true h0, Bool.and_self, cond_true, cond_false, hw, hs, Bool.not_true]
    exact .inl ⟨_, rfl, ⟨i + 1, rfl, by omega, by omega⟩, by dsimp only; omega, fun z hz => hz⟩
  · simp only [Br.run, decide_eq_false hi, cond_false]
    exact .inr ⟨_, rfl, rfl⟩

theorem moreF_small (q : Qry) (L : List Stt) (r : RunT) (hm : r.2.1.length ≤ 100) (e : Evt) : ∀ v, ∀ x ∈ moreF q L r e v, x.2.1.length ≤ 1000000
  | [], x, h => by simp [moreF] at h
  | k :: v, x, h => by
    unfold moreF at h
    split at h
    · rcases List.mem_cons.1 h with rfl | h
      · show r.2.1.length + 1 ≤ _
        omega
      · exact moreF_small q L r hm e v x h
    · exact moreF_small q L r hm e v x h

/-- What follows the choice of the run. -/
theorem step_tail {q : Qry} (h : QMade q) {L : List Stt} (hL2 : L.length ≤ 100) (hs : ∀ s ∈ L, StOk q s) (r : RunT) (hr0 : 0 ≤ r.1) (hr1 : r.1 < L.length) (hm : r.2.1.length ≤ 100) (hr : r.2.2.1.length ≤ 60) (e : Evt) (he : e.2.2.2.2.length ≤ 3) :
    ∃ v, movesN (some (q, L), r.1, ()) = some (v, ()) ∧ stepMore_w0 (sch3, some (q, L), some (sch3, q, some (q, L)), v, 0, q, r, e, [], ()) = some (some (sch3, q, some (q, L)), q, r, e, moreF q L r e v, ()) ∧
      moreM (some (sch3, q, some (q, L)), r, e, ()) = some (moreF q L r e v, ()) ∧ stepMore_w1 (some (sch3, q, some (q, L)), moreF q L r e v, 0, q, moreF q L r e v, ()) = some (.inr (some (sch3, q, some (q, L)), q, ())) := by
  obtain ⟨v, hv, hv1, hv2⟩ := movesN_at h hL2 hs r.1 hr0 hr1
  refine ⟨v, hv, step_w0_at h hL2 hs _ 0 r hm hr e he v hv1 hv2, ?_, step_w1_at _ q _ (Nat.le_trans (moreF_len q L r e v) (by omega)) (moreF_small q L r hm e v)⟩
  unfold moreM moreM_B
  simp only [Br.run, Option.isNone_some, cond_false, Option.isSome_some, cond_true, runState_at, hv, moreM_w0_at h hL2 hs r hm hr e he v hv1 hv2]

theorem queryN_at {q : Qry} (h : QFew q) (L : List Stt) : queryN (some (q, L), ()) = some (q, ()) := by
  unfold queryN queryN_B
  simp only [Br.run, Option.isNone_some, cond_false, Option.isSome_some, cond_true, copyQ_at h]
theorem newM_at {q : Qry} (h : QFew q) {L : List Stt} (hn : newN (q, ()) = some (some (q, L), ())) : newM (sch3, q, ()) = some (some (sch3, q, some (q, L)), ()) := by
  unfold newM newM_B
  simp only [Br.run, hn, queryN_at h]
theorem queryM_at {q : Qry} (h : QFew q) (L : List Stt) : queryM (some (sch3, q, some (q, L)), ()) = some (q, ()) := by
  unfold queryM queryM_B
  simp only [Br.run, Option.isNone_some, cond_false, Option.isSome_some, cond_true, queryN_at h]

theorem stepMore_at (p : List Int) (l : List Evt) (k : Int) : stepMore (p, l, k, ()) = some (true, ()) := by
  obtain ⟨q, hq, h1, h2, h3⟩ := queryQ_at2 p
  have h : QMade q := ⟨h1, h2, h3⟩
  obtain ⟨L, hN, hL1, hL2, hs⟩ := newN_at h
  have hM := newM_at h.few hN
  obtain ⟨x, hx, hx1, hx2, -⟩ := eventsR_at l 5 (by decide) (by decide)
  obtain ⟨r, hr, hr0, hr1, hr2, hr3⟩ := at24_at q L hL1 hL2 x hx1 (by omega) k
  unfold stepMore stepMore_B
  dsimp only
  have hl2 : ¬ ((L.length : Int) < 2) := by omega
  simp only [Br.run, typesR_at, newS_T3, hq, hN, hM, lenN_at, decide_eq_false hl2, cond_false, hx, hr]
  by_cases hlen : x.length = 0
  · have hz : ((x.length : Int) == 0) = true := by rw [hlen]; rfl
    simp only [hz, cond_true, awake24_at, Br.run]
  · have hz : ((x.length : Int) == 0) = false := beq_eq_false_iff_ne.2 (by omega)
    have hw : IntKind.wrap .i64 ((x.length : Int) - 1) = (x.length : Int) - 1 := Go.PI.wrap_small (by omega) (by omega)
    have g0 : (0 : Int) ≤ (x.length : Int) - 1 := by omega
    have g1 : (x.length : Int) - 1 < (x.length : Int) := by omega
    have he := (hx1.get (i := ((x.length : Int) - 1).toNat) (by omega)).1
    simp only [hz, cond_false, hw, decide_eq_true g0, decide_eq_true g1, Bool.and_self, cond_true]
    generalize hb : (IntKind.wrap IntKind.i64 (↑(BitVec.toNat (BitVec.ofInt (IntKind.bits IntKind.i64) (Int.fdiv k (2 ^ min (Int.toNat 8) (IntKind.bits IntKind.i64))) &&& BitVec.ofInt (IntKind.bits IntKind.i64) 1)) : Int) == 1) = bit
    generalize x.getD ((x.length : Int) - 1).toNat (ByteArray.empty, ByteArray.empty, 0, 0, []) = e at he ⊢
    have tail : ∀ r : RunT, 0 ≤ r.1 → r.1 < L.length → r.2.1.length ≤ 50 → r.2.2.1.length ≤ 50 → _ := fun r a1 a2 a3 a4 => step_tail h hL2 hs r a1 a2 (by omega) (by omega) e (by omega)
    have hn : ∀ l : List RunT, ((l.length : Int) != (l.length : Int)) = false := fun l => bne_self_eq_false _
    have plain : ∀ {α : Type} (a : α), a = a := fun _ => rfl
    obtain ⟨v, t1, t2, t3, t4⟩ := tail r hr0 hr1 hr2 hr3
    obtain ⟨v', u1, u2, u3, u4⟩ := tail (r.1, r.2.1, r.2.2.1, r.2.2.2.1, r.2.2.2.2.1, true) hr0 hr1 hr2 hr3
    cases bit
    · simp only [Br.run, cond_false, runState_at, t1, t2, t3, t4, hn, awake24_at, cond_true, queryM_at h.few, same16_same h.few]
    · by_cases hl : (r.2.1.length : Int) > 0
      · simp only [Br.run, cond_true, runLen_at, decide_eq_true hl, runBlock_at, runState_at, u1, u2, u3, u4, hn, cond_false, awake24_at, queryM_at h.few, same16_same h.few]
      · simp only [Br.run, cond_true, runLen_at, decide_eq_false hl, runState_at, t1, t2, t3, t4, hn, cond_false, awake24_at, queryM_at h.few, same16_same h.few]
end Go.Proofs.Ytnhiplibodkciaa
