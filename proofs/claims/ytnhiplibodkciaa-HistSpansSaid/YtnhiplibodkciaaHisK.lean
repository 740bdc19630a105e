/- HistSpans: its inner loops. -/
import Derived.Test.YtnhiplibodkciaaHisJ
namespace Go.Proofs.Ytnhiplibodkciaa
open Go.PI

def nTree (k a j : Int) (e : EvtV) (h : List EvtV) (b : Bool) (i : Int) (w : List SpanV) : Option (Exit × St) :=
(bif decide (j < (Nat.cast (List.length w) : Int)) then
 (bif decide (0 ≤ j) && decide (j < (Nat.cast (List.length w) : Int)) then
  (bif Prod.fst (sAt w j) == Prod.fst (Prod.snd e) then
   (bif decide (0 ≤ j) && decide (j < (Nat.cast (List.length w) : Int)) then
    (bif Prod.fst (Prod.snd (sAt w j)) == Prod.fst (Prod.snd (Prod.snd e)) then
     (bif decide (0 ≤ j) && decide (j < (Nat.cast (List.length w) : Int)) then
      (bif Prod.fst (sAt w j) == Prod.fst (Prod.snd e) then
       (bif decide (0 ≤ j) && decide (j < (Nat.cast (List.length w) : Int)) then
        (bif Prod.fst (Prod.snd (sAt w j)) == IntKind.wrap .i64 (Prod.fst (Prod.snd (Prod.snd e)) - 1) then
         some (.normal, nSkel.fill nHoles (j, j, IntKind.wrap .i64 (j + 1), e, h, b, i, w, ()))
         else some (.normal, nSkel.fill nHoles (j, a, IntKind.wrap .i64 (j + 1), e, h, b, i, w, ())))
        else none)
       else some (.normal, nSkel.fill nHoles (j, a, IntKind.wrap .i64 (j + 1), e, h, b, i, w, ())))
      else none)
     else (bif decide (0 ≤ j) && decide (j < (Nat.cast (List.length w) : Int)) then
      (bif Prod.fst (sAt w j) == Prod.fst (Prod.snd e) then
       (bif decide (0 ≤ j) && decide (j < (Nat.cast (List.length w) : Int)) then
        (bif Prod.fst (Prod.snd (sAt w j)) == IntKind.wrap .i64 (Prod.fst (Prod.snd (Prod.snd e)) - 1) then
         some (.normal, nSkel.fill nHoles (k, j, IntKind.wrap .i64 (j + 1), e, h, b, i, w, ()))
         else some (.normal, nSkel.fill nHoles (k, a, IntKind.wrap .i64 (j + 1), e, h, b, i, w, ())))
        else none)
       else some (.normal, nSkel.fill nHoles (k, a, IntKind.wrap .i64 (j + 1), e, h, b, i, w, ())))
      else none))
    else none)
   else (bif decide (0 ≤ j) && decide (j < (Nat.cast (List.length w) : Int)) then
    (bif Prod.fst (sAt w j) == Prod.fst (Prod.snd e) then
     (bif decide (0 ≤ j) && decide (j < (Nat.cast (List.length w) : Int)) then
      (bif Prod.fst (Prod.snd (sAt w j)) == IntKind.wrap .i64 (Prod.fst (Prod.snd (Prod.snd e)) - 1) then
       some (.normal, nSkel.fill nHoles (k, j, IntKind.wrap .i64 (j + 1), e, h, b, i, w, ()))
       else some (.normal, nSkel.fill nHoles (k, a, IntKind.wrap .i64 (j + 1), e, h, b, i, w, ())))
      else none)
     else some (.normal, nSkel.fill nHoles (k, a, IntKind.wrap .i64 (j + 1), e, h, b, i, w, ())))
    else none))
  else none)
 else some ((.exit 2), nSkel.fill oHoles (k, a, e, h, b, i, w, ())))

set_option maxRecDepth 100000 in
theorem n_round (k a j : Int) (e : EvtV) (h : List EvtV) (b : Bool) (i : Int) (w : List SpanV) : (round tb3 p5 nShape nLoop (nSkel.fill nHoles (k, a, j, e, h, b, i, w, ()))).run = nTree k a j e h b i w := by kernel_rfl

/-- The last place of a span of that client and number. -/
def lidx (c n : Int) : List SpanV → Int → Int → Int
  | [], _, k => k
  | s :: r, j, k => lidx c n r (j + 1) (bif sameB c n s then j else k)

structure NI (j : Int) (w : List SpanV) : Prop where
  j0 : 0 ≤ j
  j1 : j ≤ (w.length : Int)
  w1 : w.length ≤ 1000
noncomputable def nF (x : Holes nHoles) : Br (Exit × St) := .cond (tru (NI x.2.2.1 x.2.2.2.2.2.2.2.1))
  (.ret (.exit 2, nSkel.fill oHoles (lidx (eC x.2.2.2.1) (eN x.2.2.2.1) (List.drop x.2.2.1.toNat x.2.2.2.2.2.2.2.1) x.2.2.1 x.1, lidx (eC x.2.2.2.1) (IntKind.wrap .i64 (eN x.2.2.2.1 - 1)) (List.drop x.2.2.1.toNat x.2.2.2.2.2.2.2.1) x.2.2.1 x.2.1, x.2.2.2.1, x.2.2.2.2.1, x.2.2.2.2.2.1, x.2.2.2.2.2.2.1, x.2.2.2.2.2.2.2.1, ()))) .no

def nEnd (k a j : Int) (e : EvtV) (h : List EvtV) (b : Bool) (i : Int) (w : List SpanV) : Exit × St :=
  (.exit 2, nSkel.fill oHoles (lidx (eC e) (eN e) (w.drop j.toNat) j k, lidx (eC e) (IntKind.wrap .i64 (eN e - 1)) (w.drop j.toNat) j a, e, h, b, i, w, ()))
theorem nF_run {k a j : Int} {e : EvtV} {h : List EvtV} {b : Bool} {i : Int} {w : List SpanV} (H : NI j w) : (nF (k, a, j, e, h, b, i, w, ())).run = some (nEnd k a j e h b i w) := by
  unfold nF
  rw [cond_ret, if_pos (tru_iff.2 H)]
  rfl

theorem nTree_step {k a j : Int} {e : EvtV} {h : List EvtV} {b : Bool} {i : Int} {w : List SpanV} (hj : j < (w.length : Int)) (j0 : 0 ≤ j) (hw : w.length ≤ 1000) :
    nTree k a j e h b i w = some (.normal, nSkel.fill nHoles ((bif sameB (eC e) (eN e) (sAt w j) then j else k), (bif sameB (eC e) (IntKind.wrap .i64 (eN e - 1)) (sAt w j) then j else a), j + 1, e, h, b, i, w, ())) := by
  have e1 : IntKind.wrap .i64 (j + 1) = j + 1 := wrap_small (by omega) (by omega)
  unfold nTree sameB eC eN
  simp only [hj, j0, e1, decide_true, Bool.and_self, cond_true]
  cases (sAt w j).1 == e.2.1 with
  | false => simp only [cond_false, Bool.false_and]
  | true =>
    simp only [cond_true, Bool.true_and]
    cases (sAt w j).2.1 == e.2.2.1 <;> cases (sAt w j).2.1 == IntKind.wrap .i64 (e.2.2.1 - 1) <;> rfl

theorem n_hr (k a j : Int) (e : EvtV) (h : List EvtV) (b : Bool) (i : Int) (w : List SpanV) (r : Exit × St) (hr : (nF (k, a, j, e, h, b, i, w, ())).run = some r) :
    (∃ x' : Holes nHoles, (round tb3 p5 nShape nLoop (nSkel.fill nHoles (k, a, j, e, h, b, i, w, ()))).run = some (.normal, nSkel.fill nHoles x') ∧ ((List.length x'.2.2.2.2.2.2.2.1 : Int) - x'.2.2.1).toNat < ((w.length : Int) - j).toNat ∧ (nF x').run = some r) ∨
    (r.1 ≠ .normal ∧ (round tb3 p5 nShape nLoop (nSkel.fill nHoles (k, a, j, e, h, b, i, w, ()))).run = some r) := by
  by_cases H : NI j w
  · rw [nF_run H] at hr
    obtain rfl := Option.some.inj hr
    obtain ⟨j0, j1, hw⟩ := H
    by_cases hlt : j < (w.length : Int)
    · left
      have hlen : j.toNat < w.length := by omega
      have hd : w.drop j.toNat = sAt w j :: w.drop (j + 1).toNat := by rw [drop_step hlen spanZ]; unfold sAt; congr 2; omega
      refine ⟨_, (n_round k a j e h b i w).trans (nTree_step hlt j0 hw), ?_, ?_⟩
      · show ((w.length : Int) - (j + 1)).toNat < ((w.length : Int) - j).toNat
        omega
      · rw [nF_run ⟨by omega, by omega, hw⟩]
        unfold nEnd
        rw [hd]
        rfl
    · right
      have e0 : w.drop j.toNat = [] := List.drop_eq_nil_of_le (by omega)
      refine ⟨fun h => (by cases h), (n_round k a j e h b i w).trans ?_⟩
      unfold nEnd nTree
      rw [e0]
      simp only [hlt, decide_false, cond_false]
      rfl
  · unfold nF at hr
    rw [cond_ret, if_neg (fun e => H (tru_iff.1 e))] at hr
    cases hr

theorem n_loop (g : Cfg) (hg : g.m0 = []) : LoopOk Try.prog g (loopO 1024 (nShape .normal) (nSkel.parse nHoles) nF) nLoop :=
  LoopOk.mk etb3 hg p5 (LoOk.none l5) nShape (fun x => nSkel.fill nHoles x) (fun x => ((List.length x.2.2.2.2.2.2.2.1 : Int) - x.2.2.1).toNat) (fun s x h => Skel.parse_ok h) nF fun x r hr => n_hr x.1 x.2.1 x.2.2.1 x.2.2.2.1 x.2.2.2.2.1 x.2.2.2.2.2.1 x.2.2.2.2.2.2.1 x.2.2.2.2.2.2.2.1 r hr

/-- Are two spans alike? -/
def spanEq (a b : SpanV) : Bool := decide (a.1 = b.1) && (decide (a.2.1 = b.2.1) && (decide (a.2.2.1 = b.2.2.1) && (decide (a.2.2.2.1 = b.2.2.2.1) && (decide (a.2.2.2.2.1 = b.2.2.2.2.1) && (decide (a.2.2.2.2.2.1 = b.2.2.2.2.2.1) && (decide (a.2.2.2.2.2.2.1 = b.2.2.2.2.2.2.1) && decide (a.2.2.2.2.2.2.2 = b.2.2.2.2.2.2.2)))))))
theorem spanEq_refl (a : SpanV) : spanEq a a = true := by unfold spanEq; simp
def allBad : St := (⟨233, [], []⟩ : Skel).bare

set_option maxRecDepth 100000 in
theorem c_round (g : List SpanV) (i : Int) (w : List SpanV) : (round tb3 p5 cShape cLoop (cSkel.fill cHoles (g, i, w, ()))).run =
    bif decide (i < (g.length : Int)) then (bif decide (0 ≤ i) && decide (i < (g.length : Int)) then (bif decide (0 ≤ i) && decide (i < (w.length : Int)) then
      (bif !spanEq (sAt g i) (sAt w i) then some (.ret, only 233 4 .ff) else some (.normal, cSkel.fill cHoles (g, IntKind.wrap .i64 (i + 1), w, ()))) else none) else none) else some (.exit 5, allBad) := by kernel_rfl

structure CI (g : List SpanV) (i : Int) (w : List SpanV) : Prop where
  i0 : 0 ≤ i
  i1 : i ≤ (g.length : Int)
  n : g.length ≤ 1000
  same : g = w ∨ g = []
noncomputable def cF (x : Holes cHoles) : Br (Exit × St) := .cond (tru (CI x.1 x.2.1 x.2.2.1)) (.ret (.exit 5, allBad)) .no

theorem c_hr (g : List SpanV) (i : Int) (w : List SpanV) (r : Exit × St) (hr : (cF (g, i, w, ())).run = some r) :
    (∃ x' : Holes cHoles, (round tb3 p5 cShape cLoop (cSkel.fill cHoles (g, i, w, ()))).run = some (.normal, cSkel.fill cHoles x') ∧ ((List.length x'.1 : Int) - x'.2.1).toNat < ((g.length : Int) - i).toNat ∧ (cF x').run = some r) ∨ (r.1 ≠ .normal ∧ (round tb3 p5 cShape cLoop (cSkel.fill cHoles (g, i, w, ()))).run = some r) := by
  have hh := hr
  unfold cF at hh
  rw [cond_ret] at hh
  split at hh
  · rename_i hi
    have h : CI g i w := tru_iff.1 hi
    obtain rfl := Option.some.inj hh
    obtain ⟨h0, h1, h2, h3⟩ := h
    by_cases hlt : i < (g.length : Int)
    · left
      obtain rfl : g = w := by
        rcases h3 with e | e
        · exact e
        · rw [e] at hlt; simp at hlt; omega
      have hround := c_round g i g
      have hw : IntKind.wrap .i64 (i + 1) = i + 1 := wrap_small (by omega) (by omega)
      simp only [hlt, h0, decide_true, Bool.and_self, cond_true, hw, spanEq_refl, Bool.not_true, cond_false] at hround
      refine ⟨(g, i + 1, g, ()), hround, ?_, ?_⟩
      · show ((g.length : Int) - (i + 1)).toNat < ((g.length : Int) - i).toNat
        omega
      · have hT : CI g (i + 1) g := ⟨by omega, by omega, h2, .inl rfl⟩
        unfold cF
        rw [cond_ret, if_pos (tru_iff.2 hT)]
    · right
      have hround := c_round g i w
      simp only [hlt, decide_false, cond_false] at hround
      exact ⟨fun h => (by cases h), hround⟩
  · cases hh

theorem c_loop (g : Cfg) (hg : g.m0 = []) : LoopOk Try.prog g (loopO 1024 (cShape .normal) (cSkel.parse cHoles) cF) cLoop :=
  LoopOk.mk etb3 hg p5 (LoOk.none l5) cShape (fun x => cSkel.fill cHoles x) (fun x => ((List.length x.1 : Int) - x.2.1).toNat) (fun s x h => Skel.parse_ok h) cF fun x r hr => c_hr x.1 x.2.1 x.2.2.1 r hr

noncomputable def pN : Par := { sh := fun _ => none, k := 3, lo := fun i => bif Nat.beq i 8 then some (loopO 1024 (nShape .normal) (nSkel.parse nHoles) nF) else none }

end Go.Proofs.Ytnhiplibodkciaa
