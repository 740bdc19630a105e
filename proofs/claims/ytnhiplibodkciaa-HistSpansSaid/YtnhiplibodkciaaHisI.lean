/- Package hist: Spans, as a contract. -/
import Derived.Test.YtnhiplibodkciaaHisH
namespace Go.Proofs.Ytnhiplibodkciaa
open Go.PI

def SpanV.turn (s : SpanV) : Int := s.2.2.2.1
def SpanV.reply (s : SpanV) : Int := s.2.2.2.2.1
def SpanV.ret (s : SpanV) : RetV := s.2.2.2.2.2
def retEq (a b : RetV) : Bool := decide (a.1 = b.1) && (decide (a.2.1 = b.2.1) && decide (a.2.2 = b.2.2))
def turnS (out : List SpanV) (k i : Int) : List SpanV := List.set out (Int.toNat k) ((sAt out k).1, (sAt out k).2.1, (sAt out k).2.2.1, i, (sAt out k).2.2.2.2)
def replyS (out : List SpanV) (k i : Int) : List SpanV := List.set out (Int.toNat k) ((sAt out k).1, (sAt out k).2.1, (sAt out k).2.2.1, (sAt out k).2.2.2.1, i, (sAt out k).2.2.2.2.2)
def retS (out : List SpanV) (k : Int) (r : RetV) : List SpanV := List.set out (Int.toNat k) ((sAt out k).1, (sAt out k).2.1, (sAt out k).2.2.1, (sAt out k).2.2.2.1, (sAt out k).2.2.2.2.1, r)
def newS (e : EvtV) (i : Int) : SpanV := (eC e, eN e, i, -1, -1, 0, 0, List.replicate 6 0)

/-- What an event does to the spans, by the places of its span (k), and of the one ahead of it (a); none: it may not be. -/
def evStepS (k a : Int) (out : List SpanV) (i : Int) (e : EvtV) : Option (List SpanV) :=
  bif eK e == 1 then (bif decide (k ≥ 0) then none else (bif decide (eN e > 0) then (bif decide (a ≥ 0) then (bif !decide ((sAt out a).reply ≥ 0) then none else some (out ++ [newS e i])) else none) else (bif decide (eN e < 0) then none else some (out ++ [newS e i]))))
  else (bif eK e == 2 then (bif decide (k < 0) then none else (bif decide ((sAt out k).turn ≥ 0) then none else (bif decide ((sAt out k).reply ≥ 0) then none else some (retS (turnS out k i) k (eR e)))))
  else (bif eK e == 3 then (bif decide (k < 0) then none else (bif decide ((sAt out k).reply ≥ 0) then none else (bif decide ((sAt out k).turn ≥ 0) then (bif !retEq (sAt out k).ret (eR e) then none else some (retS (replyS out k i) k (eR e))) else some (retS (replyS out k i) k (eR e)))))
  else none))

def outO (h : List EvtV) (n i : Int) : Option (List SpanV) → Option (Exit × St)
  | none => some (.ret, sBad)
  | some out => some (.normal, sSkel.fill sHoles (h, n, i + 1, out, ()))

theorem idx_in (c n : Int) : ∀ (l : List SpanV) (i : Int), 0 ≤ i → idx c n l i = -1 ∨ (i ≤ idx c n l i ∧ idx c n l i < i + l.length)
  | [], _, _ => .inl rfl
  | s :: r, i, hi => by
    simp only [idx]
    cases sameB c n s with
    | true =>
      right
      simp only [cond_true, List.length_cons]
      omega
    | false =>
      simp only [cond_false]
      rcases idx_in c n r (i + 1) (by omega) with h | ⟨h1, h2⟩
      · exact .inl h
      · right
        rw [List.length_cons]
        omega

theorem outO_bif (h : List EvtV) (n i : Int) (b : Bool) (x y : Option (List SpanV)) : outO h n i (bif b then x else y) = bif b then outO h n i x else outO h n i y := by cases b <;> rfl

theorem sTree_step {h : List EvtV} {n i : Int} {out : List SpanV} (h1 : i < n) (i0 : 0 ≤ i) (hn : n = (h.length : Int)) (hm : n ≤ 1000) (ho : (out.length : Int) ≤ i) : sTree h n i out = outO h n i (evStepS (kk (eAt h i) out) (pp (eAt h i) out) out i (eAt h i)) := by
  have e1 : IntKind.wrap .i64 (i + 1) = i + 1 := wrap_small (by omega) (by omega)
  have hlen : i < (h.length : Int) := by omega
  have hl : out.length ≤ 1000000 := by omega
  have hap : (out.length + 1) * 104 ≤ 140737488355328 := by omega
  have hk := idx_in (eC (eAt h i)) (eN (eAt h i)) out 0 (by omega)
  have hp := idx_in (eC (eAt h i)) (IntKind.wrap .i64 (eN (eAt h i) - 1)) out 0 (by omega)
  unfold sTree evStepS
  have fk : kk (eAt h i) out = idx (eC (eAt h i)) (eN (eAt h i)) out 0 := rfl
  have fp : pp (eAt h i) out = idx (eC (eAt h i)) (IntKind.wrap .i64 (eN (eAt h i) - 1)) out 0 := rfl
  rw [← fk] at hk
  rw [← fp] at hp
  generalize kk (eAt h i) out = k at *
  generalize pp (eAt h i) out = a at *
  generalize eAt h i = e at *
  simp only [h1, i0, hlen, hl, e1, decide_true, Bool.and_self, cond_true, outO_bif]
  cases eK e == 1 with
  | true =>
    simp only [cond_true]
    cases hk0 : decide (k ≥ 0) with
    | true => rfl
    | false =>
      simp only [cond_false]
      simp only [List.length_set, List.length_singleton, hap, decide_true, cond_true]
      cases hN : decide (eN e > 0) with
      | true =>
        simp only [cond_true]
        cases ha : decide (a ≥ 0) with
        | false => rfl
        | true =>
          have ha0 := of_decide_eq_true ha
          have ha1 : a < (out.length : Int) := by omega
          have hb : decide (a < (out.length : Int)) = true := decide_eq_true ha1
          rw [hb]
          have hN' : decide (eN e < 0) = false := decide_eq_false (by have := of_decide_eq_true hN; omega)
          rw [hN']
          rfl
      | false =>
        rfl
  | false =>
    simp only [cond_false]
    by_cases hk0 : k < 0
    · have d1 : decide (k < 0) = true := decide_eq_true hk0
      simp only [d1, cond_true]
      rfl
    · have d1 : decide (k < 0) = false := decide_eq_false hk0
      have hb : (decide (0 ≤ k) && decide (k < (out.length : Int))) = true := by rw [decide_eq_true (show 0 ≤ k by omega), decide_eq_true (show k < (out.length : Int) by omega)]; rfl
      have hb2 : ∀ v : SpanV, (decide (0 ≤ k) && decide (k < ((List.set out (Int.toNat k) v).length : Int))) = true := by intro v; rw [List.length_set]; exact hb
      simp only [d1, cond_false, hb, hb2, cond_true]
      rfl

/-- What the events of a history come to. -/
def spGo : List EvtV → Int → List SpanV → Option (List SpanV)
  | [], _, out => some out
  | e :: r, i, out => match evStepS (kk e out) (pp e out) out i e with
    | none => none
    | some out' => spGo r (i + 1) out'

structure SI (h : List EvtV) (n i : Int) (out : List SpanV) : Prop where
  i0 : 0 ≤ i
  i1 : i ≤ n
  n1 : n = (h.length : Int)
  n2 : n ≤ 1000
  ol : (out.length : Int) ≤ i
noncomputable def sF (x : Holes sHoles) : Br (Exit × St) := .cond (tru (SI x.1 x.2.1 x.2.2.1 x.2.2.2.1))
  (.cond (spGo (List.drop x.2.2.1.toNat x.1) x.2.2.1 x.2.2.2.1).isSome (.ret (.exit 0, szSkel.fill [.ar 2000 false 33 spanT] ((spGo (List.drop x.2.2.1.toNat x.1) x.2.2.1 x.2.2.2.1).getD [], ()))) (.ret (.ret, sBad))) .no

theorem evStepS_len {k a : Int} {out out' : List SpanV} {i : Int} {e : EvtV} (h : evStepS k a out i e = some out') : out'.length ≤ out.length + 1 := by
  have l1 : ∀ (o : List SpanV) (k i : Int), (turnS o k i).length = o.length := fun o k i => List.length_set
  have l2 : ∀ (o : List SpanV) (k i : Int), (replyS o k i).length = o.length := fun o k i => List.length_set
  have l3 : ∀ (o : List SpanV) (k : Int) (r : RetV), (retS o k r).length = o.length := fun o k r => List.length_set
  unfold evStepS at h
  simp only [Bool.cond_eq_ite] at h
  repeat' split at h
  all_goals first
    | cases h; done
    | (obtain rfl := Option.some.inj h; simp [l1, l2, l3])

theorem sF_run {h : List EvtV} {n i : Int} {out : List SpanV} (H : SI h n i out) : (sF (h, n, i, out, ())).run = (match spGo (h.drop i.toNat) i out with
    | some o => some (.exit 0, szSkel.fill [.ar 2000 false 33 spanT] (o, ()))
    | none => some (.ret, sBad)) := by
  unfold sF
  rw [run_bif, tru_iff.2 H]
  show (bif (spGo (h.drop i.toNat) i out).isSome then _ else _) = _
  cases spGo (h.drop i.toNat) i out <;> rfl

theorem s_hr (h : List EvtV) (n i : Int) (out : List SpanV) (r : Exit × St) (hr : (sF (h, n, i, out, ())).run = some r) :
    (∃ x' : Holes sHoles, (round sb2 p5 sShape sLoop (sSkel.fill sHoles (h, n, i, out, ()))).run = some (.normal, sSkel.fill sHoles x') ∧ (x'.2.1 - x'.2.2.1).toNat < (n - i).toNat ∧ (sF x').run = some r) ∨ (r.1 ≠ .normal ∧ (round sb2 p5 sShape sLoop (sSkel.fill sHoles (h, n, i, out, ()))).run = some r) := by
  by_cases H : SI h n i out
  · rw [sF_run H] at hr
    obtain ⟨h0, h1, h2, h3, h4⟩ := H
    by_cases hlt : i < n
    · have hstep := (s_round h n i out).trans (sTree_step hlt h0 h2 h3 h4)
      have hlen : i.toNat < h.length := by omega
      have hd : h.drop i.toNat = eAt h i :: h.drop (i + 1).toNat := by rw [drop_step hlen evtZ]; unfold eAt; congr 2; omega
      rw [hd] at hr
      simp only [spGo] at hr
      cases he : evStepS (kk (eAt h i) out) (pp (eAt h i) out) out i (eAt h i) with
      | none =>
        right
        rw [he] at hr hstep
        obtain rfl := Option.some.inj hr
        exact ⟨fun h => (by cases h), hstep⟩
      | some out' =>
        left
        rw [he] at hr hstep
        have hl := evStepS_len he
        refine ⟨(h, n, i + 1, out', ()), hstep, ?_, ?_⟩
        · show (n - (i + 1)).toNat < (n - i).toNat
          omega
        · rw [sF_run ⟨by omega, by omega, h2, h3, by omega⟩]
          exact hr
    · right
      have e0 : h.drop i.toNat = [] := List.drop_eq_nil_of_le (by omega)
      rw [e0] at hr
      simp only [spGo] at hr
      obtain rfl := Option.some.inj hr
      refine ⟨fun h => (by cases h), (s_round h n i out).trans ?_⟩
      unfold sTree
      simp only [hlt, decide_false, cond_false]
  · unfold sF at hr
    rw [run_bif] at hr
    cases ht : tru (SI h n i out) with
    | true => exact absurd (tru_iff.1 ht) H
    | false => rw [ht] at hr; cases hr

theorem s_loop (g : Cfg) (hg : g.m0 = []) : LoopOk Try.prog g (loopO 1024 (sShape .normal) (sSkel.parse sHoles) sF) sLoop :=
  LoopOk.mk esb2 hg p5 (LoOk.none l5) sShape (fun x => sSkel.fill sHoles x) (fun x => (x.2.1 - x.2.2.1).toNat) (fun s x h => Skel.parse_ok h) sF fun x r hr => s_hr x.1 x.2.1 x.2.2.1 x.2.2.2.1 r hr
noncomputable def pS : Par := { sh := fun _ => none, k := 3, lo := fun i => bif Nat.beq i 3 then some (loopO 1024 (sShape .normal) (sSkel.parse sHoles) sF) else none }

set_option maxRecDepth 100000 in
theorem spans_eq (h : List EvtV) : ((inl s2 pS Try.f15 (bodyOf Try.f15) 0 (argsD [(false, .sl evtT)] (h, ())) []).bind fun r => .ofOpt (outsD r.2.1 [.sl spanT, .bool] r.1)).run =
    bif tru (SI h (h.length : Int) 0 []) then (bif (spGo (h.drop 0) 0 []).isSome then some (false, ((spGo (h.drop 0) 0 []).getD [], true)) else some (false, ([], false))) else none := by kernel_rfl

theorem spans_spec : TSpec Try.prog 15 [(false, .sl evtT)] [.sl spanT, .bool] (fun xs => decide (List.length xs.1 ≤ 1000)) (fun xs => ((spGo xs.1 0 []).getD [], (spGo xs.1 0 []).isSome)) := by
  refine TSpec.of_outs es2 Try.func15 (by kernel_rfl) (p := pS) (fun g hg => LoOk.one (a := sLoop) (by kernel_rfl) fun o ho => (s_loop g hg).of (by kernel_rfl) ho) fun xs hx => ?_
  refine (spans_eq xs.1).trans ?_
  have hx : List.length xs.1 ≤ 1000 := of_decide_eq_true hx
  have H : SI xs.1 (List.length xs.1 : Int) 0 [] := ⟨by omega, by omega, rfl, by omega, by simp⟩
  rw [tru_iff.2 H]
  simp only [cond_true, List.drop_zero]
  cases spGo xs.1 0 [] <;> rfl

end Go.Proofs.Ytnhiplibodkciaa
