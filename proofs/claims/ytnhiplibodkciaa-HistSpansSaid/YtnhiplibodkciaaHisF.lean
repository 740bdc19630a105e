/- Package hist: the place of a call's span, as a contract. -/
import Derived.Test.YtnhiplibodkciaaHisE
namespace Go.Proofs.Ytnhiplibodkciaa
open Go.PI

noncomputable def q1 : Ctx := addO c0 114 (inl c0 p5 Try.f114 (bodyOf Try.f114))
theorem eq1 : EnvFull Try.prog q1 := env_add e0 (.inl' e0 p5 l5 Try.func114 (by kernel_rfl))
noncomputable def qb1 : Ctx := { q1 with base := 1056768 }
theorem eqb1 : EnvFull Try.prog qb1 := env_base eq1 1056768

def iHoles : List Hole := [.slot 0 true (.sl spanT), .slot 7 false i64, .slot 8 false i64, .tv 1027 false evtT]
def iSkel : Skel := ⟨19, [(1, .fn 114 [.ref 1027 0 0])], [(1027, [])]⟩
def jSkel : Skel := ⟨19, [], [(1027, [])]⟩
def iShape : Exit → Shape
  | .normal => ⟨[(0, .keep), (1, .keep), (7, .keep), (8, .keep)], [], []⟩
  | .ret => ⟨[(4, .keep)], [], []⟩
  | _ => ⟨[], [], []⟩
noncomputable def iLoop : Code := loopAt 0 (bodyOf Try.f113)

def sameB (c n : Int) (s : SpanV) : Bool := s.1 == c && s.2.1 == n
/-- The first place of a span of that client and number, counted from i. -/
def idx (c n : Int) : List SpanV → Int → Int
  | [], _ => -1
  | s :: r, i => bif sameB c n s then i else idx c n r (i + 1)

def iS (l : List SpanV) (n i : Int) (e : EvtV) : St := iSkel.fill iHoles (l, n, i, e, ())
set_option maxRecDepth 100000 in
theorem i_round (l : List SpanV) (n i : Int) (e : EvtV) : (roundK [1027] qb1 p5 iShape iLoop (iS l n i e)).run =
    bif decide (i < n) then (bif decide (0 ≤ i) && decide (i < (l.length : Int)) then (bif (l.getD i.toNat spanZ).1 == e.2.1 then
      (bif (l.getD i.toNat spanZ).2.1 == e.2.2.1 then some (.ret, jSkel.fill [.slot 4 false i64, .tv 1027 false evtT] (i, e, ())) else some (.normal, iS l n (IntKind.wrap .i64 (i + 1)) e))
      else some (.normal, iS l n (IntKind.wrap .i64 (i + 1)) e)) else none)
    else some (.exit 0, jSkel.fill [.tv 1027 false evtT] (e, ())) := by kernel_rfl

structure II (l : List SpanV) (n i : Int) : Prop where
  i0 : 0 ≤ i
  i1 : i ≤ n
  n1 : n = (l.length : Int)
  n2 : n ≤ 1000000
noncomputable def iF (x : Holes iHoles) : Br (Exit × St) := .cond (tru (II x.1 x.2.1 x.2.2.1))
  (.cond ((List.drop x.2.2.1.toNat x.1).any (sameB x.2.2.2.1.2.1 x.2.2.2.1.2.2.1)) (.ret (.ret, jSkel.fill [.slot 4 false i64, .tv 1027 false evtT] (idx x.2.2.2.1.2.1 x.2.2.2.1.2.2.1 (List.drop x.2.2.1.toNat x.1) x.2.2.1, x.2.2.2.1, ())))
    (.ret (.exit 0, jSkel.fill [.tv 1027 false evtT] (x.2.2.2.1, ())))) .no

theorem iF_run {l : List SpanV} {n i : Int} {e : EvtV} (h : II l n i) : (iF (l, n, i, e, ())).run = bif (l.drop i.toNat).any (sameB e.2.1 e.2.2.1) then some (.ret, jSkel.fill [.slot 4 false i64, .tv 1027 false evtT] (idx e.2.1 e.2.2.1 (l.drop i.toNat) i, e, ())) else some (.exit 0, jSkel.fill [.tv 1027 false evtT] (e, ())) := by
  unfold iF
  rw [run_bif, tru_iff.2 h]
  rfl

theorem i_hr (l : List SpanV) (n i : Int) (e : EvtV) (r : Exit × St) (hr : (iF (l, n, i, e, ())).run = some r) :
    (∃ x' : Holes iHoles, (roundK [1027] qb1 p5 iShape iLoop (iS l n i e)).run = some (.normal, iSkel.fill iHoles x') ∧ (x'.2.1 - x'.2.2.1).toNat < (n - i).toNat ∧ (iF x').run = some r) ∨ (r.1 ≠ .normal ∧ (roundK [1027] qb1 p5 iShape iLoop (iS l n i e)).run = some r) := by
  by_cases h : II l n i
  · rw [iF_run h] at hr
    obtain ⟨h0, h1, h2, h3⟩ := h
    have hround := i_round l n i e
    by_cases hlt : i < n
    · have hlen : i.toNat < l.length := by omega
      have hb : decide (i < (l.length : Int)) = true := decide_eq_true (by omega)
      have hw : IntKind.wrap .i64 (i + 1) = i + 1 := wrap_small (by omega) (by omega)
      have hd : l.drop i.toNat = l.getD i.toNat spanZ :: l.drop (i + 1).toNat := by rw [drop_step hlen spanZ]; congr 2; omega
      simp only [hlt, h0, decide_true, hb, Bool.and_self, cond_true, hw] at hround
      rw [hd] at hr
      simp only [List.any_cons, idx] at hr
      have hT : II l n (i + 1) := ⟨by omega, by omega, h2, h3⟩
      have goOn : sameB e.2.1 e.2.2.1 (l.getD i.toNat spanZ) = false → (roundK [1027] qb1 p5 iShape iLoop (iS l n i e)).run = some (.normal, iS l n (i + 1) e) := by
        intro hs
        unfold sameB at hs
        cases ha : (l.getD i.toNat spanZ).1 == e.2.1 with
        | false => rw [ha] at hround; exact hround
        | true =>
          rw [ha] at hs hround
          rw [Bool.true_and] at hs
          rw [hs] at hround
          exact hround
      cases hs : sameB e.2.1 e.2.2.1 (l.getD i.toNat spanZ) with
      | false =>
        left
        refine ⟨(l, n, i + 1, e, ()), goOn hs, ?_, ?_⟩
        · show (n - (i + 1)).toNat < (n - i).toNat
          omega
        · rw [iF_run hT]
          rw [hs] at hr
          exact hr
      | true =>
        right
        rw [hs] at hr
        simp only [Bool.true_or, cond_true] at hr
        obtain rfl := Option.some.inj hr
        unfold sameB at hs
        rw [Bool.and_eq_true] at hs
        rw [hs.1, hs.2] at hround
        exact ⟨fun h => (by cases h), hround⟩
    · right
      have e0 : l.drop i.toNat = [] := List.drop_eq_nil_of_le (by omega)
      simp only [hlt, decide_false, cond_false] at hround
      rw [e0] at hr
      simp only [List.any_nil, cond_false] at hr
      obtain rfl := Option.some.inj hr
      exact ⟨fun h => (by cases h), hround⟩
  · unfold iF at hr
    rw [run_bif] at hr
    cases ht : tru (II l n i) with
    | true => exact absurd (tru_iff.1 ht) h
    | false => rw [ht] at hr; cases hr

theorem i_loop (g : Cfg) (hg : ∀ n, Go.PI.look n g.m0 ≠ none → n ∈ [1027]) : LoopOk Try.prog g (loopK [1027] 1056768 (iShape .normal) (iSkel.parse iHoles) iF) iLoop :=
  LoopOk.mkK (c := qb1) eqb1 hg p5 (LoOk.none l5) iShape (fun x => iSkel.fill iHoles x) (fun x => (x.2.1 - x.2.2.1).toNat) (fun s x h => Skel.parse_ok h) iF fun x r hr => i_hr x.1 x.2.1 x.2.2.1 x.2.2.2.1 r hr

noncomputable def pI : Par := { sh := fun _ => none, k := 3, lo := fun i => bif Nat.beq i 2 then some (loopK [1027] 1056768 (iShape .normal) (iSkel.parse iHoles) iF) else none }

def aHoles : List Hole := [.slot 0 true (.sl spanT), .tv 1027 false evtT]
def aSkel : Skel := ⟨2, [(1, .fn 114 [.ref 1027 0 0])], [(1027, [])]⟩
set_option maxRecDepth 100000 in
theorem index_eq (l : List SpanV) (e : EvtV) : (inl q1 pI Try.f113 (bodyOf Try.f113) 1031 (aSkel.fill aHoles (l, e, ())).t (aSkel.fill aHoles (l, e, ())).m).run =
    bif tru (II l (l.length : Int) 0) then (bif (l.drop 0).any (sameB e.2.1 e.2.2.1) then some (.c (.ty false i64 (idx e.2.1 e.2.2.1 (l.drop 0) 0)), (aSkel.fill aHoles (l, e, ())).m, []) else some (.c (.ty false i64 (-1)), (aSkel.fill aHoles (l, e, ())).m, [])) else none := by kernel_rfl

theorem idx_none {c n : Int} : ∀ {l : List SpanV} {i : Int}, l.any (sameB c n) = false → idx c n l i = -1
  | [], _, _ => rfl
  | s :: r, i, h => by
    simp only [List.any_cons, Bool.or_eq_false_iff] at h
    simp only [idx, h.1, cond_false]
    exact idx_none h.2

noncomputable def idxF (x : Holes aHoles) : Br (D × Mem × List Nat) := .cond (decide (List.length x.1 ≤ 1000000)) (.ret (.c (.ty false i64 (idx x.2.1.2.1 x.2.1.2.2.1 x.1 0)), (aSkel.fill aHoles x).m, [])) .no

theorem index_run (l : List SpanV) (e : EvtV) (r : D × Mem × List Nat) (hr : (idxF (l, e, ())).run = some r) : (inl q1 pI Try.f113 (bodyOf Try.f113) 1031 (aSkel.fill aHoles (l, e, ())).t (aSkel.fill aHoles (l, e, ())).m).run = some r := by
  unfold idxF at hr
  rw [cond_ret] at hr
  split at hr
  · rename_i hl
    have hl : l.length ≤ 1000000 := of_decide_eq_true hl
    obtain rfl := Option.some.inj hr
    have h : II l (l.length : Int) 0 := ⟨by omega, by omega, rfl, by omega⟩
    rw [index_eq, tru_iff.2 h]
    simp only [cond_true, List.drop_zero]
    cases ha : l.any (sameB e.2.1 e.2.2.1) with
    | true => rfl
    | false => simp only [cond_false]; rw [idx_none ha]
  · cases hr

theorem index_ok : CallOk Try.prog 113 (atO 1031 aSkel aHoles idxF) :=
  CallOk.at eq1 Try.func113 (by kernel_rfl) (bodyOf_ok (by kernel_rfl)) (p := pI) [1027] (fun g hg => LoOk.one (a := iLoop) (by kernel_rfl) fun o ho => (i_loop g hg).of (by kernel_rfl) ho)
    (fun x n hn => by
      have e : (aSkel.fill aHoles x).m = [(1027, .tv false evtT x.2.1)] := rfl
      rw [e] at hn
      simp only [Go.PI.look] at hn
      cases hb : Nat.beq 1027 n with
      | true => rw [← Nat.eq_of_beq_eq_true hb]; exact List.mem_singleton.2 rfl
      | false => rw [hb] at hn; exact absurd rfl hn)
    (fun x r hr => index_run x.1 x.2.1 r hr)

noncomputable def q2 : Ctx := addO q1 113 (atO 1031 aSkel aHoles idxF)
theorem eq2 : EnvFull Try.prog q2 := env_add eq1 index_ok

set_option maxRecDepth 100000 in
theorem at_eq (l : List SpanV) (e : EvtV) : ((inl q2 p5 Try.f70 (bodyOf Try.f70) 0 (argsD [(false, .sl spanT), (true, evtT)] (l, e, ())) []).bind fun r => .ofOpt (outsD r.2.1 [i64] r.1)).run =
    bif decide (l.length ≤ 1000000) then some (false, idx e.2.1 e.2.2.1 l 0) else none := by kernel_rfl

theorem at_spec : TSpec Try.prog 70 [(false, .sl spanT), (true, evtT)] [i64] (fun xs => decide (List.length xs.1 ≤ 1000000)) (fun xs => idx xs.2.1.2.1 xs.2.1.2.2.1 xs.1 0) := by
  refine TSpec.of_outs eq2 Try.func70 (by kernel_rfl) (p := p5) (fun g _ => LoOk.none l5) fun xs hx => ?_
  refine (at_eq xs.1 xs.2.1).trans ?_
  rw [hx]
  rfl

end Go.Proofs.Ytnhiplibodkciaa
