/- HistTickets: contexts, and its loops' heads. -/
import Derived.Test.YtnhiplibodkciaaHisA
namespace Go.Proofs.Ytnhiplibodkciaa
open Go.PI

noncomputable def d1 : Ctx := addO c0 16 (typedOrc [] [.bool] (fun _ => true) (fun _ => true))
noncomputable def d2 : Ctx := addO d1 26 (typedOrc [(false, .sl spanT)] [.sl i64] (fun xs => decide (List.length xs.1 ≤ 1000000)) (fun xs => ticketsOf xs.1))
noncomputable def d3 : Ctx := addO d2 27 (typedOrc [(false, .sl i64)] [.bool] (fun xs => decide (List.length xs.1 ≤ 1000000)) (fun xs => rise xs.1 0))
theorem k1 : EnvFull Try.prog d1 := env_add e0 awake_spec.callOk
theorem k2 : EnvFull Try.prog d2 := env_add k1 tickets_spec.callOk
theorem k3 : EnvFull Try.prog d3 := env_add k2 rising_spec.callOk
noncomputable def db3 : Ctx := { d3 with base := 1024 }
theorem kb3 : EnvFull Try.prog db3 := env_base k3 1024

def mHoles : List Hole := [.slot 0 false (.sl i64), .slot 5 false .bool, .slot 6 false i64, .ar 2000 false 33 spanT, .ar 2001 false 2 i64]
def mSkel : Skel := ⟨90, [(2, .c .ff), (3, .c (.mfull 2000)), (4, .c (.mfull 2001))], [(2000, []), (2001, [])]⟩
def nHoles : List Hole := [.slot 5 false .bool, .ar 2000 false 33 spanT, .ar 2001 false 2 i64]
def mShape : Exit → Shape
  | .normal => ⟨[(0, .keep), (2, .keep), (3, .row 976 false 33 spanT), (4, .row 977 false 2 i64), (5, .as false .bool), (6, .as false i64)], [], [(976, false), (977, false)]⟩
  | _ => ⟨[(2, .keep), (3, .row 976 false 33 spanT), (4, .row 977 false 2 i64), (5, .as false .bool)], [], [(976, false), (977, false)]⟩
noncomputable def mLoop : Code := loopAt 0 (bodyOf Try.f6)

def cHoles : List Hole := [.slot 5 false .bool, .slot 8 false (.sl i64), .slot 9 false i64, .ar 2001 false 2 i64]
def cSkel : Skel := ⟨90, [(2, .c .ff), (4, .c (.mfull 2001))], [(2001, [])]⟩
def zHoles : List Hole := [.slot 5 false .bool, .slot 8 false (.sl i64)]
def zSkel : Skel := ⟨90, [], []⟩
def cShape : Exit → Shape
  | .normal => ⟨[(2, .keep), (4, .row 977 false 2 i64), (5, .keep), (8, .keep), (9, .as false i64)], [], [(977, false)]⟩
  | .ret => ⟨[(2, .keep)], [], []⟩
  | _ => ⟨[(5, .keep), (8, .keep)], [], []⟩
noncomputable def cLoop : Code := loopAt 1 (bodyOf Try.f6)


def mkS (t : Int) : SpanV := (0, 0, 0, 0, 0, 0, t, List.replicate 6 0)
def evT (l : List Int) (i : Int) : Int := IntKind.wrap .i64 (Nat.cast (BitVec.toNat (BitVec.ofInt (IntKind.bits IntKind.i64) (List.getD l (Int.toNat i) 0) &&& BitVec.ofInt (IntKind.bits IntKind.i64) 7)) : Int)
def evn (i : Int) : Bool := IntKind.wrap .i64 (Nat.cast (BitVec.toNat (BitVec.ofInt (IntKind.bits IntKind.i64) i &&& BitVec.ofInt (IntKind.bits IntKind.i64) 1)) : Int) == 0
def mS (l : List Int) (b : Bool) (i : Int) (s : List SpanV) (w : List Int) : St := mSkel.fill mHoles (l, b, i, s, w, ())
def aft (l : List Int) (b : Bool) (i : Int) (s : List SpanV) (w : List Int) (t : Int) : Option (Exit × St) :=
  bif decide ((s.length + 1) * 104 ≤ 140737488355328) then (bif decide (t > 0) then (bif decide ((w.length + 1) * 8 ≤ 140737488355328) then
    (bif b then some (.normal, mS l (t == ((w ++ [t]).length : Int)) (IntKind.wrap .i64 (i + 1)) (s ++ [mkS t]) (w ++ [t])) else some (.normal, mS l false (IntKind.wrap .i64 (i + 1)) (s ++ [mkS t]) (w ++ [t]))) else none)
    else some (.normal, mS l b (IntKind.wrap .i64 (i + 1)) (s ++ [mkS t]) w)) else none

set_option maxRecDepth 100000 in
theorem m_round (l : List Int) (b : Bool) (i : Int) (s : List SpanV) (w : List Int) : (round db3 p5 mShape mLoop (mS l b i s w)).run =
    bif decide (i < (l.length : Int)) then (bif decide (i < 20) then (bif decide (0 ≤ i) && decide (i < (l.length : Int)) then
      (bif evn i then (bif decide (0 ≤ i) && decide (i < (l.length : Int)) then aft l b i s w (evT l i) else none) else aft l b i s w (List.getD l (Int.toNat i) 0)) else none)
      else some (.exit 0, mSkel.fill nHoles (b, s, w, ()))) else some (.exit 0, mSkel.fill nHoles (b, s, w, ())) := by kernel_rfl

set_option maxRecDepth 100000 in
theorem c_round (b : Bool) (got : List Int) (i : Int) (w : List Int) : (round db3 p5 cShape cLoop (cSkel.fill cHoles (b, got, i, w, ()))).run =
    bif decide (i < (got.length : Int)) then (bif decide (0 ≤ i) && decide (i < (got.length : Int)) then (bif decide (0 ≤ i) && decide (i < (w.length : Int)) then
      (bif got.getD i.toNat 0 != w.getD i.toNat 0 then some (.ret, only 90 2 .ff) else some (.normal, cSkel.fill cHoles (b, got, IntKind.wrap .i64 (i + 1), w, ()))) else none) else none)
    else some (.exit 2, zSkel.fill zHoles (b, got, ())) := by kernel_rfl

def nextT (l : List Int) (i : Int) : Int := bif evn i then evT l i else List.getD l (Int.toNat i) 0
def finS (l : List Int) : Nat → Int → List SpanV → List SpanV
  | 0, _, s => s
  | k + 1, i, s => if i < (l.length : Int) then finS l k (i + 1) (s ++ [mkS (nextT l i)]) else s
theorem finS_len (l : List Int) : ∀ (k : Nat) (i : Int) (s : List SpanV), (finS l k i s).length ≤ s.length + k
  | 0, _, s => Nat.le_refl _
  | k + 1, i, s => by
    unfold finS
    split
    · have := finS_len l k (i + 1) (s ++ [mkS (nextT l i)])
      simp at this
      omega
    · omega

theorem rise_snoc (t : Int) : ∀ (w : List Int) (k : Int), rise (w ++ [t]) k = (rise w k && (t == k + (w.length : Int) + 1))
  | [], k => by simp [rise]
  | x :: w, k => by
    show (x == k + 1 && rise (w ++ [t]) (k + 1)) = ((x == k + 1 && rise w (k + 1)) && _)
    rw [rise_snoc t w (k + 1), Bool.and_assoc]
    congr 2
    rw [List.length_cons]
    congr 1
    simp
    omega

theorem ticketsOf_snoc (s : List SpanV) (t : Int) : ticketsOf (s ++ [mkS t]) = bif decide (t > 0) then ticketsOf s ++ [t] else ticketsOf s := by
  unfold ticketsOf
  rw [List.map_append, List.filter_append]
  have : SpanV.ticket (mkS t) = t := rfl
  simp only [List.map_cons, List.map_nil, this, List.filter_cons, List.filter_nil]
  cases h : decide (t > 0) <;> simp

structure MI (l : List Int) (b : Bool) (i : Int) (s : List SpanV) (w : List Int) : Prop where
  i0 : 0 ≤ i
  i1 : i ≤ 20
  s1 : (s.length : Int) ≤ i
  w1 : w.length ≤ s.length
  wt : w = ticketsOf s
  br : b = rise w 0
noncomputable def mF (x : Holes mHoles) : Br (Exit × St) := .cond (tru (MI x.1 x.2.1 x.2.2.1 x.2.2.2.1 x.2.2.2.2.1))
  (.ret (.exit 0, mSkel.fill nHoles (rise (ticketsOf (finS x.1 (20 - x.2.2.1).toNat x.2.2.1 x.2.2.2.1)) 0, finS x.1 (20 - x.2.2.1).toNat x.2.2.1 x.2.2.2.1, ticketsOf (finS x.1 (20 - x.2.2.1).toNat x.2.2.1 x.2.2.2.1), ()))) .no
def mEnd (f : List SpanV) : Exit × St := (.exit 0, mSkel.fill nHoles (rise (ticketsOf f) 0, f, ticketsOf f, ()))
theorem mF_run {l : List Int} {b : Bool} {i : Int} {s : List SpanV} {w : List Int} (h : MI l b i s w) : (mF (l, b, i, s, w, ())).run = some (mEnd (finS l (20 - i).toNat i s)) := by
  unfold mF
  rw [cond_ret, if_pos (tru_iff.2 h)]
  rfl

theorem m_next {l : List Int} {b : Bool} {i : Int} {s : List SpanV} {w : List Int} (h : MI l b i s w) (h2 : i < 20) (t : Int) : ∃ b' w', aft l b i s w t = some (.normal, mS l b' (i + 1) (s ++ [mkS t]) w') ∧ MI l b' (i + 1) (s ++ [mkS t]) w' := by
  obtain ⟨i0, i1, s1, w1, wt, br⟩ := h
  have e1 : IntKind.wrap .i64 (i + 1) = i + 1 := wrap_small (by omega) (by omega)
  have a1 : decide ((s.length + 1) * 104 ≤ 140737488355328) = true := decide_eq_true (by omega)
  have a2 : decide ((w.length + 1) * 8 ≤ 140737488355328) = true := decide_eq_true (by omega)
  unfold aft
  simp only [a1, a2, e1, cond_true]
  have hs : ((s ++ [mkS t]).length : Int) ≤ i + 1 := by simp; omega
  cases ht : decide (t > 0) with
  | true =>
    have hwt : w ++ [t] = ticketsOf (s ++ [mkS t]) := by rw [ticketsOf_snoc, ht, wt]; rfl
    have hlen : (w ++ [t]).length ≤ (s ++ [mkS t]).length := by simp; omega
    cases b with
    | true =>
      refine ⟨_, _, rfl, ⟨by omega, by omega, hs, hlen, hwt, ?_⟩⟩
      rw [rise_snoc, ← br, Bool.true_and]
      congr 1
      simp
    | false =>
      refine ⟨_, _, rfl, ⟨by omega, by omega, hs, hlen, hwt, ?_⟩⟩
      rw [rise_snoc, ← br, Bool.false_and]
  | false =>
    refine ⟨_, _, rfl, ⟨by omega, by omega, hs, by simp; omega, ?_, br⟩⟩
    rw [ticketsOf_snoc, ht, wt]; rfl

theorem m_hr (l : List Int) (b : Bool) (i : Int) (s : List SpanV) (w : List Int) (r : Exit × St) (hr : (mF (l, b, i, s, w, ())).run = some r) :
    (∃ x' : Holes mHoles, (round db3 p5 mShape mLoop (mS l b i s w)).run = some (.normal, mSkel.fill mHoles x') ∧ (20 - x'.2.2.1).toNat < (20 - i).toNat ∧ (mF x').run = some r) ∨ (r.1 ≠ .normal ∧ (round db3 p5 mShape mLoop (mS l b i s w)).run = some r) := by
  by_cases h : MI l b i s w
  · rw [mF_run h] at hr
    obtain rfl := Option.some.inj hr
    have hround := m_round l b i s w
    have stop : (20 - i).toNat = 0 ∨ ¬ i < (l.length : Int) → finS l (20 - i).toNat i s = s := by
      rintro (e | e)
      · rw [e]; rfl
      · cases (20 - i).toNat with
        | zero => rfl
        | succ k => unfold finS; rw [if_neg e]
    have fin0 : some (Exit.exit 0, mSkel.fill nHoles (b, s, w, ())) = some (mEnd s) := by
      unfold mEnd
      rw [← h.wt, ← h.br]
    by_cases hlt : i < (l.length : Int)
    · by_cases h2 : i < 20
      · left
        obtain ⟨b', w', e1, e2⟩ := m_next h h2 (nextT l i)
        have hb : (decide (0 ≤ i) && decide (i < (l.length : Int))) = true := by rw [decide_eq_true h.i0, decide_eq_true hlt]; rfl
        have hrun : (round db3 p5 mShape mLoop (mS l b i s w)).run = aft l b i s w (nextT l i) := by
          rw [hround]
          simp only [hlt, h2, decide_true, cond_true, h.i0, Bool.and_self]
          unfold nextT
          cases evn i <;> rfl
        refine ⟨(l, b', i + 1, s ++ [mkS (nextT l i)], w', ()), hrun.trans e1, ?_, ?_⟩
        · show (20 - (i + 1)).toNat < (20 - i).toNat
          omega
        · have hk : (20 - i).toNat = (20 - (i + 1)).toNat + 1 := by omega
          rw [mF_run e2, hk]
          simp only [finS]
          rw [if_pos hlt]
      · right
        simp only [hlt, h2, decide_true, decide_false, cond_true, cond_false] at hround
        refine ⟨fun h => (by cases h), hround.trans ?_⟩
        rw [stop (.inl (by omega))]
        exact fin0
    · right
      simp only [hlt, decide_false, cond_false] at hround
      refine ⟨fun h => (by cases h), hround.trans ?_⟩
      rw [stop (.inr hlt)]
      exact fin0
  · unfold mF at hr
    rw [cond_ret, if_neg (fun e => h (tru_iff.1 e))] at hr
    cases hr

theorem m_loop (g : Cfg) (hg : g.m0 = []) : LoopOk Try.prog g (loopO 1024 (mShape .normal) (mSkel.parse mHoles) mF) mLoop :=
  LoopOk.mk kb3 hg p5 (LoOk.none l5) mShape (fun x => mSkel.fill mHoles x) (fun x => (20 - x.2.2.1).toNat) (fun s x h => Skel.parse_ok h) mF fun x r hr => m_hr x.1 x.2.1 x.2.2.1 x.2.2.2.1 x.2.2.2.2.1 r hr

structure CI (got : List Int) (i : Int) (w : List Int) : Prop where
  i0 : 0 ≤ i
  i1 : i ≤ (got.length : Int)
  n : got.length ≤ 1000000
  same : got = w
noncomputable def cF (x : Holes cHoles) : Br (Exit × St) := .cond (tru (CI x.2.1 x.2.2.1 x.2.2.2.1)) (.ret (.exit 2, zSkel.fill zHoles (x.1, x.2.1, ()))) .no

theorem c_hr (b : Bool) (got : List Int) (i : Int) (w : List Int) (r : Exit × St) (hr : (cF (b, got, i, w, ())).run = some r) :
    (∃ x' : Holes cHoles, (round db3 p5 cShape cLoop (cSkel.fill cHoles (b, got, i, w, ()))).run = some (.normal, cSkel.fill cHoles x') ∧ ((List.length x'.2.1 : Int) - x'.2.2.1).toNat < ((got.length : Int) - i).toNat ∧ (cF x').run = some r) ∨ (r.1 ≠ .normal ∧ (round db3 p5 cShape cLoop (cSkel.fill cHoles (b, got, i, w, ()))).run = some r) := by
  have hh := hr
  unfold cF at hh
  rw [cond_ret] at hh
  split at hh
  · rename_i hi
    have h : CI got i w := tru_iff.1 hi
    obtain rfl := Option.some.inj hh
    obtain ⟨h0, h1, h2, rfl⟩ := h
    have hround := c_round b got i got
    by_cases hlt : i < (got.length : Int)
    · left
      have hw : IntKind.wrap .i64 (i + 1) = i + 1 := wrap_small (by omega) (by omega)
      simp only [hlt, h0, decide_true, Bool.and_self, cond_true, hw, bne_self_eq_false, cond_false] at hround
      refine ⟨(b, got, i + 1, got, ()), hround, ?_, ?_⟩
      · show ((got.length : Int) - (i + 1)).toNat < ((got.length : Int) - i).toNat
        omega
      · have hT : CI got (i + 1) got := ⟨by omega, by omega, h2, rfl⟩
        unfold cF
        rw [cond_ret, if_pos (tru_iff.2 hT)]
    · right
      simp only [hlt, decide_false, cond_false] at hround
      exact ⟨fun h => (by cases h), hround⟩
  · cases hh

theorem c_loop (g : Cfg) (hg : g.m0 = []) : LoopOk Try.prog g (loopO 1024 (cShape .normal) (cSkel.parse cHoles) cF) cLoop :=
  LoopOk.mk kb3 hg p5 (LoOk.none l5) cShape (fun x => cSkel.fill cHoles x) (fun x => ((List.length x.2.1 : Int) - x.2.2.1).toNat) (fun s x h => Skel.parse_ok h) cF fun x r hr => c_hr x.1 x.2.1 x.2.2.1 x.2.2.2.1 r hr

noncomputable def pM : Par := { sh := fun _ => none, k := 3, lo := fun i => bif Nat.beq i 3 then some (loopO 1024 (mShape .normal) (mSkel.parse mHoles) mF) else bif Nat.beq i 16 then some (loopO 1024 (cShape .normal) (cSkel.parse cHoles) cF) else none }
theorem body_loops : loopsOf (bodyOf Try.f6) = [mLoop, cLoop] := by kernel_rfl

end Go.Proofs.Ytnhiplibodkciaa
