/- HistSpans: each round of the statement's loop does what an event does to the spans. -/
import Derived.Test.YtnhiplibodkciaaHisL
namespace Go.Proofs.Ytnhiplibodkciaa
open Go.PI

theorem lidx_in (c n : Int) : ∀ (l : List SpanV) (j k : Int), lidx c n l j k = k ∨ (j ≤ lidx c n l j k ∧ lidx c n l j k < j + l.length)
  | [], _, _ => .inl rfl
  | s :: r, j, k => by
    simp only [lidx]
    cases sameB c n s with
    | true =>
      simp only [cond_true, List.length_cons]
      rcases lidx_in c n r (j + 1) j with h | ⟨h1, h2⟩
      · right; omega
      · right; omega
    | false =>
      simp only [cond_false, List.length_cons]
      rcases lidx_in c n r (j + 1) k with h | ⟨h1, h2⟩
      · exact .inl h
      · right; omega

def outM (h : List EvtV) (i : Int) (w : List SpanV) : Option (List SpanV) → Option (Exit × St)
  | none => some (.normal, mSkel.fill mHoles (h, false, i + 1, w, ()))
  | some out => some (.normal, mSkel.fill mHoles (h, true, i + 1, out, ()))
theorem outM_bif (h : List EvtV) (i : Int) (w : List SpanV) (b : Bool) (x y : Option (List SpanV)) : outM h i w (bif b then x else y) = bif b then outM h i w x else outM h i w y := by cases b <;> rfl

theorem mTree_step {h : List EvtV} {i : Int} {w : List SpanV} (h1 : i < (h.length : Int)) (i0 : 0 ≤ i) (hm : h.length ≤ 1000) (ho : (w.length : Int) ≤ i) :
    mTree h true i w = outM h i w (evStepS (lk (eAt h i) w) (lp (eAt h i) w) w i (eAt h i)) := by
  have e1 : IntKind.wrap .i64 (i + 1) = i + 1 := wrap_small (by omega) (by omega)
  have hN : tru (NI 0 w) = true := tru_iff.2 ⟨by omega, by omega, by omega⟩
  have hap : (w.length + 1) * 104 ≤ 140737488355328 := by omega
  have hk := lidx_in (eC (eAt h i)) (eN (eAt h i)) (List.drop (Int.toNat 0) w) 0 (-1)
  have hp := lidx_in (eC (eAt h i)) (IntKind.wrap .i64 (eN (eAt h i) - 1)) (List.drop (Int.toNat 0) w) 0 (-1)
  have hd : List.drop (Int.toNat 0) w = w := rfl
  unfold mTree evStepS
  have fk : lk (eAt h i) w = lidx (eC (eAt h i)) (eN (eAt h i)) (List.drop (Int.toNat 0) w) 0 (-1) := rfl
  have fp : lp (eAt h i) w = lidx (eC (eAt h i)) (IntKind.wrap .i64 (eN (eAt h i) - 1)) (List.drop (Int.toNat 0) w) 0 (-1) := rfl
  rw [← fk, hd] at hk
  rw [← fp, hd] at hp
  generalize lk (eAt h i) w = k at *
  generalize lp (eAt h i) w = a at *
  generalize eAt h i = e at *
  simp only [h1, i0, hN, e1, decide_true, Bool.and_self, cond_true, outM_bif, List.length_set, List.length_singleton, hap]
  cases eK e == 1 with
  | true =>
    simp only [cond_true]
    by_cases hk0 : k < 0
    · have d1 : decide (k < 0) = true := decide_eq_true hk0
      have d2 : decide (k ≥ 0) = false := decide_eq_false (by omega)
      simp only [d1, d2, cond_true, cond_false]
      by_cases hN0 : eN e ≥ 0
      · have n1 : decide (eN e ≥ 0) = true := decide_eq_true hN0
        have n2 : decide (eN e < 0) = false := decide_eq_false (by omega)
        simp only [n1, n2, cond_true, cond_false]
        by_cases hz : eN e = 0
        · have z1 : (eN e == 0) = true := by rw [hz]; rfl
          have z2 : decide (eN e > 0) = false := decide_eq_false (by omega)
          simp only [z1, z2, cond_true, cond_false]
          rfl
        · have z1 : (eN e == 0) = false := by simpa using hz
          have z2 : decide (eN e > 0) = true := decide_eq_true (by omega)
          simp only [z1, z2, cond_true, cond_false]
          by_cases ha : a ≥ 0
          · have a1 : decide (a ≥ 0) = true := decide_eq_true ha
            have a2 : decide (a < (w.length : Int)) = true := decide_eq_true (by omega)
            have a3 : decide (0 ≤ a) = true := decide_eq_true ha
            simp only [a1, a2, a3, Bool.and_self, cond_true]
            show (bif decide ((sAt w a).reply ≥ 0) then some (Exit.normal, mSkel.fill mHoles (h, decide ((sAt w a).reply ≥ 0), i + 1, w ++ [newS e i], ())) else some (Exit.normal, mSkel.fill mHoles (h, decide ((sAt w a).reply ≥ 0), i + 1, w, ()))) = _
            cases decide ((sAt w a).reply ≥ 0) <;> rfl
          · have a1 : decide (a ≥ 0) = false := decide_eq_false ha
            simp only [a1, cond_false]
            rfl
      · have n1 : decide (eN e ≥ 0) = false := decide_eq_false hN0
        have n2 : decide (eN e < 0) = true := decide_eq_true (by omega)
        have n3 : decide (eN e > 0) = false := decide_eq_false (by omega)
        simp only [n1, n2, n3, cond_true, cond_false]
        rfl
    · have d1 : decide (k < 0) = false := decide_eq_false hk0
      have d2 : decide (k ≥ 0) = true := decide_eq_true (by omega)
      simp only [d1, d2, cond_true, cond_false]
      rfl
  | false =>
    simp only [cond_false]
    by_cases hk0 : k < 0
    · have d1 : decide (k < 0) = true := decide_eq_true hk0
      have d2 : decide (k ≥ 0) = false := decide_eq_false (by omega)
      simp only [d1, d2, cond_true, cond_false]
      cases eK e == 2 <;> cases eK e == 3 <;> rfl
    · have d1 : decide (k < 0) = false := decide_eq_false hk0
      have d2 : decide (k ≥ 0) = true := decide_eq_true (by omega)
      have d3 : decide (k < (w.length : Int)) = true := decide_eq_true (by omega)
      have d4 : decide (0 ≤ k) = true := decide_eq_true (by omega)
      simp only [d1, d2, d3, d4, Bool.and_self, cond_true, cond_false]
      have neg : ∀ x : Int, decide (x ≥ 0) = !decide (x < 0) := by
        intro x
        by_cases hx : x < 0
        · rw [decide_eq_true hx, decide_eq_false (by omega)]; rfl
        · rw [decide_eq_false hx, decide_eq_true (by omega)]; rfl
      have f1 : (sAt w k).2.2.2.1 = (sAt w k).turn := rfl
      have f2 : (sAt w k).2.2.2.2.1 = (sAt w k).reply := rfl
      simp only [neg]
      cases eK e == 2 with
      | true =>
        simp only [cond_true]
        show (bif decide ((sAt w k).turn < 0) then (bif decide ((sAt w k).reply < 0) then some (Exit.normal, mSkel.fill mHoles (h, decide ((sAt w k).reply < 0), i + 1, retS (turnS w k i) k (eR e), ())) else some (Exit.normal, mSkel.fill mHoles (h, decide ((sAt w k).reply < 0), i + 1, w, ()))) else some (Exit.normal, mSkel.fill mHoles (h, false, i + 1, w, ()))) = _
        cases decide ((sAt w k).turn < 0) <;> cases decide ((sAt w k).reply < 0) <;> rfl
      | false =>
        simp only [cond_false]
        cases eK e == 3 with
        | false => rfl
        | true =>
          simp only [cond_true]
          show (bif decide ((sAt w k).reply < 0) then (bif decide ((sAt w k).turn < 0) then some (Exit.normal, mSkel.fill mHoles (h, true, i + 1, retS (replyS w k i) k (eR e), ())) else (bif retEq (sAt w k).ret (eR e) then some (Exit.normal, mSkel.fill mHoles (h, retEq (sAt w k).ret (eR e), i + 1, retS (replyS w k i) k (eR e), ())) else some (Exit.normal, mSkel.fill mHoles (h, retEq (sAt w k).ret (eR e), i + 1, w, ())))) else some (Exit.normal, mSkel.fill mHoles (h, false, i + 1, w, ()))) = _
          cases decide ((sAt w k).reply < 0) <;> cases decide ((sAt w k).turn < 0) <;> cases retEq (sAt w k).ret (eR e) <;> rfl

theorem mTree_end {h : List EvtV} {b : Bool} {i : Int} {w : List SpanV} (hn : ¬ (i < (h.length : Int) ∧ b = true)) : mTree h b i w = some (.exit 0, mSkel.fill zHoles (h, b, w, ())) := by
  unfold mTree
  by_cases h1 : i < (h.length : Int)
  · have hb : b = false := by
      cases b with
      | false => rfl
      | true => exact absurd ⟨h1, rfl⟩ hn
    subst hb
    simp only [h1, decide_true, cond_true, cond_false]
  · simp only [h1, decide_false, cond_false]

/-! ### each call has one span -/
def skey (s : SpanV) : Int × Int := (s.1, s.2.1)
def Uniq (w : List SpanV) : Prop := (w.map skey).Nodup

theorem sameB_iff {c n : Int} {s : SpanV} : sameB c n s = true ↔ skey s = (c, n) := by
  unfold sameB skey
  rw [Bool.and_eq_true, beq_iff_eq, beq_iff_eq, Prod.mk.injEq]
theorem any_iff {c n : Int} {w : List SpanV} : w.any (sameB c n) = true ↔ (c, n) ∈ w.map skey := by
  rw [List.any_eq_true, List.mem_map]
  constructor
  · rintro ⟨s, h1, h2⟩; exact ⟨s, h1, sameB_iff.1 h2⟩
  · rintro ⟨s, h1, h2⟩; exact ⟨s, h1, sameB_iff.2 h2⟩

theorem lidx_none {c n : Int} : ∀ {w : List SpanV} {j k : Int}, w.any (sameB c n) = false → lidx c n w j k = k
  | [], _, _, _ => rfl
  | s :: r, j, k, h => by
    simp only [List.any_cons, Bool.or_eq_false_iff] at h
    simp only [lidx, h.1, cond_false]
    exact lidx_none h.2

theorem lidx_uniq {c n : Int} : ∀ {w : List SpanV} {j : Int}, Uniq w → lidx c n w j (-1) = idx c n w j
  | [], _, _ => rfl
  | s :: r, j, h => by
    have h' := List.nodup_cons.1 (show (skey s :: r.map skey).Nodup from h)
    simp only [lidx, idx]
    cases hs : sameB c n s with
    | false => simp only [cond_false]; exact lidx_uniq h'.2
    | true =>
      simp only [cond_true]
      refine lidx_none ?_
      cases ha : r.any (sameB c n) with
      | false => rfl
      | true => exact absurd (by rw [sameB_iff.1 hs]; exact any_iff.1 ha) h'.1

theorem idx_any {c n : Int} {w : List SpanV} (h : idx c n w 0 < 0) : w.any (sameB c n) = false := by
  have gen : ∀ (w : List SpanV) (i : Int), 0 ≤ i → w.any (sameB c n) = true → 0 ≤ idx c n w i := by
    intro w
    induction w with
    | nil => intro i _ h; cases h
    | cons s r ih =>
      intro i hi h
      simp only [idx]
      cases hs : sameB c n s with
      | true => exact hi
      | false =>
        simp only [cond_false]
        refine ih (i + 1) (by omega) ?_
        simpa [hs] using h
  cases ha : w.any (sameB c n) with
  | false => rfl
  | true => have := gen w 0 (by omega) ha; omega

theorem set_keys {w : List SpanV} {k : Int} {v : SpanV} (h : skey v = skey (sAt w k)) : (List.set w (Int.toNat k) v).map skey = w.map skey := by
  rw [List.map_set, h]
  apply List.ext_getElem?
  intro j
  rw [List.getElem?_set]
  by_cases hj : k.toNat = j
  · subst hj
    by_cases hl : k.toNat < w.length
    · have e : sAt w k = w[k.toNat] := by unfold sAt; simp [List.getD, List.getElem?_eq_getElem hl]
      simp [hl, e]
    · simp [hl]
  · simp [hj]

theorem evStepS_uniq {out out' : List SpanV} {i : Int} {e : EvtV} (hu : Uniq out) (h : evStepS (kk e out) (pp e out) out i e = some out') : Uniq out' := by
  have l1 : ∀ (o : List SpanV) (k i : Int), (turnS o k i).map skey = o.map skey := fun o k i => set_keys rfl
  have l2 : ∀ (o : List SpanV) (k i : Int), (replyS o k i).map skey = o.map skey := fun o k i => set_keys rfl
  have l3 : ∀ (o : List SpanV) (k : Int) (r : RetV), (retS o k r).map skey = o.map skey := fun o k r => set_keys rfl
  have addOk : ¬ kk e out ≥ 0 → Uniq (out ++ [newS e i]) := by
    intro hk
    have hn := idx_any (c := eC e) (n := eN e) (w := out) (by unfold kk at hk; omega)
    unfold Uniq
    rw [List.map_append, List.map_cons, List.map_nil]
    refine List.nodup_append.2 ⟨hu, by simp, fun a ha b hb => ?_⟩
    rw [List.mem_singleton.1 hb]
    rintro rfl
    have := any_iff.2 (show (eC e, eN e) ∈ out.map skey from ha)
    rw [hn] at this
    cases this
  unfold evStepS at h
  simp only [Bool.cond_eq_ite] at h
  by_cases hk : kk e out ≥ 0
  · repeat' split at h
    all_goals first
      | cases h; done
      | (obtain rfl := Option.some.inj h; unfold Uniq; rw [l3]; first | (rw [l1]; exact hu) | (rw [l2]; exact hu))
      | (exfalso; simp_all; done)
  · repeat' split at h
    all_goals first
      | cases h; done
      | (obtain rfl := Option.some.inj h; exact addOk hk)
      | (obtain rfl := Option.some.inj h; unfold Uniq; rw [l3]; first | (rw [l1]; exact hu) | (rw [l2]; exact hu))

/-- The spans where the history stops to be one. -/
def stopGo : List EvtV → Int → List SpanV → List SpanV
  | [], _, out => out
  | e :: r, i, out => match evStepS (kk e out) (pp e out) out i e with
    | none => out
    | some out' => stopGo r (i + 1) out'
theorem stop_some : ∀ {l : List EvtV} {i : Int} {out o : List SpanV}, spGo l i out = some o → stopGo l i out = o
  | [], _, _, _, h => Option.some.inj h
  | e :: r, i, out, o, h => by
    simp only [spGo] at h
    simp only [stopGo]
    cases he : evStepS (kk e out) (pp e out) out i e with
    | none => rw [he] at h; cases h
    | some out' => rw [he] at h; exact stop_some h

structure MI (h : List EvtV) (b : Bool) (i : Int) (w : List SpanV) : Prop where
  i0 : 0 ≤ i
  i1 : i ≤ (h.length : Int)
  hl : h.length ≤ 1000
  wl : (w.length : Int) ≤ i
  un : b = true → Uniq w
def mEnd (h : List EvtV) (b : Bool) (i : Int) (w : List SpanV) : Exit × St := (.exit 0, mSkel.fill zHoles (h, (bif b then (spGo (h.drop i.toNat) i w).isSome else false), (bif b then stopGo (h.drop i.toNat) i w else w), ()))
noncomputable def mF (x : Holes mHoles) : Br (Exit × St) := .cond (tru (MI x.1 x.2.1 x.2.2.1 x.2.2.2.1))
  (.ret (.exit 0, mSkel.fill zHoles (x.1, (bif x.2.1 then (spGo (List.drop x.2.2.1.toNat x.1) x.2.2.1 x.2.2.2.1).isSome else false), (bif x.2.1 then stopGo (List.drop x.2.2.1.toNat x.1) x.2.2.1 x.2.2.2.1 else x.2.2.2.1), ()))) .no
theorem mF_run {h : List EvtV} {b : Bool} {i : Int} {w : List SpanV} (H : MI h b i w) : (mF (h, b, i, w, ())).run = some (mEnd h b i w) := by
  unfold mF
  rw [cond_ret, if_pos (tru_iff.2 H)]
  rfl

theorem m_hr (h : List EvtV) (b : Bool) (i : Int) (w : List SpanV) (r : Exit × St) (hr : (mF (h, b, i, w, ())).run = some r) :
    (∃ x' : Holes mHoles, (round tb3 pN mShape mLoop (mSkel.fill mHoles (h, b, i, w, ()))).run = some (.normal, mSkel.fill mHoles x') ∧ ((List.length x'.1 : Int) - x'.2.2.1).toNat < ((h.length : Int) - i).toNat ∧ (mF x').run = some r) ∨ (r.1 ≠ .normal ∧ (round tb3 pN mShape mLoop (mSkel.fill mHoles (h, b, i, w, ()))).run = some r) := by
  by_cases H : MI h b i w
  · rw [mF_run H] at hr
    obtain rfl := Option.some.inj hr
    by_cases hlt : i < (h.length : Int) ∧ b = true
    · left
      obtain ⟨hlt, rfl⟩ := hlt
      have hu := H.un rfl
      have hl := H.hl
      have hi0 := H.i0
      have hwl := H.wl
      have hlen : i.toNat < h.length := by omega
      have hd : h.drop i.toNat = eAt h i :: h.drop (i + 1).toNat := by rw [drop_step hlen evtZ]; unfold eAt; congr 2; omega
      have ek : lk (eAt h i) w = kk (eAt h i) w := by unfold lk kk; exact lidx_uniq hu
      have ep : lp (eAt h i) w = pp (eAt h i) w := by unfold lp pp; exact lidx_uniq hu
      have hstep := (m_round h true i w).trans (mTree_step hlt hi0 hl hwl)
      rw [ek, ep] at hstep
      unfold mEnd
      rw [hd]
      simp only [cond_true, spGo, stopGo]
      cases he : evStepS (kk (eAt h i) w) (pp (eAt h i) w) w i (eAt h i) with
      | none =>
        rw [he] at hstep
        refine ⟨(h, false, i + 1, w, ()), hstep, ?_, ?_⟩
        · show ((h.length : Int) - (i + 1)).toNat < ((h.length : Int) - i).toNat
          omega
        · rw [mF_run ⟨by omega, by omega, hl, by omega, fun e => by cases e⟩]
          rfl
      | some out' =>
        rw [he] at hstep
        have hl2 := evStepS_len he
        refine ⟨(h, true, i + 1, out', ()), hstep, ?_, ?_⟩
        · show ((h.length : Int) - (i + 1)).toNat < ((h.length : Int) - i).toNat
          omega
        · rw [mF_run ⟨by omega, by omega, hl, by omega, fun _ => evStepS_uniq hu he⟩]
          rfl
    · right
      refine ⟨fun h => (by cases h), (m_round h b i w).trans ((mTree_end hlt).trans ?_)⟩
      unfold mEnd
      cases b with
      | false => rfl
      | true =>
        have e0 : h.drop i.toNat = [] := List.drop_eq_nil_of_le (by
          have : ¬ i < (h.length : Int) := fun e => hlt ⟨e, rfl⟩
          omega)
        rw [e0]
        rfl
  · unfold mF at hr
    rw [cond_ret, if_neg (fun e => H (tru_iff.1 e))] at hr
    cases hr

theorem m_loops : loopsOf mLoop = [nLoop] := by kernel_rfl
theorem m_loop (g : Cfg) (hg : g.m0 = []) : LoopOk Try.prog g (loopO 1024 (mShape .normal) (mSkel.parse mHoles) mF) mLoop :=
  LoopOk.mk etb3 hg pN (LoOk.one m_loops fun o ho => (n_loop g hg).of (by kernel_rfl) ho) mShape (fun x => mSkel.fill mHoles x) (fun x => ((List.length x.1 : Int) - x.2.2.1).toNat) (fun s x h => Skel.parse_ok h) mF fun x r hr => m_hr x.1 x.2.1 x.2.2.1 x.2.2.2.1 r hr

theorem body_loops : loopsOf (bodyOf Try.f3) = [mLoop, nLoop, cLoop] := by kernel_rfl
noncomputable def pM : Par := { sh := fun _ => none, k := 3, lo := fun i => bif Nat.beq i 4 then some (loopO 1024 (mShape .normal) (mSkel.parse mHoles) mF) else bif Nat.beq i 32 then some (loopO 1024 (cShape .normal) (cSkel.parse cHoles) cF) else none }

end Go.Proofs.Ytnhiplibodkciaa
