/- TicketPlays: contexts, and its inner loops. -/
import Derived.Test.YtnhiplibodkciaaTickB
namespace Go.Proofs.Ytnhiplibodkciaa
open Go.PI

noncomputable def h23 : List (Nat × Orc) := (23, typedOrc [(false, .ptr lockT), (true, .int .i64)] [.bool] (fun xs => decide ((xs.1.getD lockZ).2.1.length ≤ 9223372036854775807)) (fun xs => (xs.1.getD lockZ).2.1.any (· == xs.2.1))) :: g25
noncomputable def d2 : Ctx := mkC tb h23
noncomputable def h18 : List (Nat × Orc) := (18, inl d2 p3 Try.f18 (bodyOf Try.f18)) :: h23
noncomputable def h19 : List (Nat × Orc) := (19, inl d2 p3 Try.f19 (bodyOf Try.f19)) :: h18
noncomputable def d3 : Ctx := mkC tb h19
noncomputable def h24 : List (Nat × Orc) := (24, inl d3 p3 Try.f24 (bodyOf Try.f24)) :: h19
noncomputable def d4 : Ctx := mkC tb h24
noncomputable def db4 : Ctx := { d4 with base := 1024 }

theorem k2 : EnvFull Try.prog d2 := env_cons e1 waits_spec.callOk
theorem k3 : EnvFull Try.prog d3 := env_cons (env_cons k2 (.inl' k2 p3 l3 Try.func18 (by kernel_rfl))) (.inl' k2 p3 l3 Try.func19 (by kernel_rfl))
theorem k4 : EnvFull Try.prog d4 := env_cons k3 (.inl' k3 p3 l3 Try.func24 (by kernel_rfl))

abbrev i64 : Ty := .int .i64
def mHoles : List Hole := [.slot 0 false (.sl i64), .slot 4 false i64, .slot 6 false i64, .slot 7 false i64, .cell 1065986 0 false i64, .cell 1065986 2 false i64, .ar 2000 false 3 i64, .ar 2001 false 3 i64]
def mSkel : Skel := ⟨144, [(2, .c .ff), (3, .c (.ref 1065986 0 0)), (5, .c (.mfull 2001))], [(1065986, [.bad, .mfull 2000, .bad]), (2000, []), (2001, [])]⟩
def mSlots : List (Nat × Kd) := [(0, .keep), (2, .keep), (3, .keep), (4, .as false i64), (5, .row 977 false 3 i64), (6, .as false i64), (7, .as false i64)]
def mCells : List (Nat × Nat × Kd) := [(1064962, 0, .as false i64), (1064962, 1, .row 976 false 3 i64), (1064962, 2, .as false i64)]
def mNames : List (Nat × Bool) := [(1064962, false), (976, false), (977, false)]
def mSh (l : List (Nat × Kd)) : Shape := ⟨mSlots ++ l, mCells, mNames⟩
abbrev MainV := Holes mHoles

-- the loop over k ahead of the answer
def aHoles : List Hole := .slot 8 false i64 :: .slot 9 false .bool :: .slot 10 false i64 :: mHoles
def bHoles : List Hole := .slot 8 false i64 :: .slot 9 false .bool :: mHoles
def aShape : Exit → Shape
  | .normal => mSh [(8, .as false i64), (9, .as false .bool), (10, .as false i64)]
  | _ => mSh [(8, .as false i64), (9, .as false .bool)]
noncomputable def aLoop : Code := loopAt 1 (bodyOf Try.f4)
def jHoles : List Hole := .slot 13 false i64 :: .slot 14 false .bool :: .slot 15 false i64 :: mHoles
def qHoles : List Hole := .slot 13 false i64 :: .slot 14 false .bool :: mHoles
def jShape : Exit → Shape
  | .normal => mSh [(13, .as false i64), (14, .as false .bool), (15, .as false i64)]
  | _ => mSh [(13, .as false i64), (14, .as false .bool)]
noncomputable def jLoop : Code := loopAt 3 (bodyOf Try.f4)
def kHoles : List Hole := .slot 13 false i64 :: mHoles
def kShape : Exit → Shape
  | .normal => mSh [(13, .as false i64)]
  | .ret => ⟨[(2, .keep)], [], []⟩
  | _ => mSh []
noncomputable def kLoop : Code := loopAt 2 (bodyOf Try.f4)

/-- How far a loop over a list is in bounds. -/
def inB (w : List Int) (k : Int) : Bool := decide (0 ≤ k) && decide (k ≤ (w.length : Int)) && decide (w.length ≤ 9223372036854775807)

/-- A loop that looks for a number in a list. -/
theorem any_loop {α : Type} (w : List Int) (x : Int) (S : Bool → Int → α) (E : Bool → Exit × α) (hE : ∀ b, (E b).1 ≠ .normal) (R : Bool → Int → Option (Exit × α))
    (hR : ∀ b k, R b k = bif decide (k < (w.length : Int)) then (bif b then some (.normal, S true (IntKind.wrap .i64 (k + 1))) else (bif decide (0 ≤ k) && decide (k < (w.length : Int)) then some (.normal, S (w.getD k.toNat 0 == x) (IntKind.wrap .i64 (k + 1))) else none)) else some (E b))
    (b : Bool) (k : Int) (r : Exit × α) (h : (if inB w k = true then some (E (b || (w.drop k.toNat).any (· == x))) else none) = some r) :
    (∃ b' k', R b k = some (.normal, S b' k') ∧ ((w.length : Int) - k').toNat < ((w.length : Int) - k).toNat ∧ (if inB w k' = true then some (E (b' || (w.drop k'.toNat).any (· == x))) else none) = some r) ∨ (r.1 ≠ .normal ∧ R b k = some r) := by
  split at h
  · rename_i hi
    simp only [inB, Bool.and_eq_true, decide_eq_true_eq] at hi
    obtain ⟨⟨h0, h1⟩, h2⟩ := hi
    by_cases hlt : k < (w.length : Int)
    · left
      have hin : inB w (k + 1) = true := by
        simp only [inB, Bool.and_eq_true, decide_eq_true_eq]
        exact ⟨⟨by omega, by omega⟩, h2⟩
      have hw : IntKind.wrap .i64 (k + 1) = k + 1 := wrap_small (by omega) (by omega)
      have ht : (k + 1).toNat = k.toNat + 1 := by omega
      have hR := hR b k
      rw [hw] at hR
      rw [any_step (by omega)] at h
      simp only [hlt, decide_true, cond_true, Bool.and_true] at hR
      cases b with
      | true =>
        refine ⟨true, k + 1, hR, by omega, ?_⟩
        rw [if_pos hin]
        simpa using h
      | false =>
        simp only [cond_false, h0, decide_true, cond_true] at hR
        refine ⟨_, k + 1, hR, by omega, ?_⟩
        rw [if_pos hin, ht]
        simpa using h
    · right
      have e : w.drop k.toNat = [] := List.drop_eq_nil_of_le (by omega)
      have hR := hR b k
      simp only [hlt, decide_false, cond_false] at hR
      rw [e] at h
      simp only [List.any_nil, Bool.or_false] at h
      obtain rfl := Option.some.inj h
      exact ⟨hE b, hR⟩
  · cases h

abbrev MainV.w (m : MainV) : List Int := m.2.2.2.2.2.2.2.1
abbrev MainV.lw (m : MainV) : List Int := m.2.2.2.2.2.2.1

set_option maxRecDepth 100000 in
theorem a_round (x : Int) (m : MainV) (b : Bool) (k : Int) : (round db4 p3 aShape aLoop (mSkel.fill aHoles (x, b, k, m))).run =
    bif decide (k < (m.w.length : Int)) then (bif b then some (.normal, mSkel.fill aHoles (x, true, IntKind.wrap .i64 (k + 1), m)) else (bif decide (0 ≤ k) && decide (k < (m.w.length : Int)) then some (.normal, mSkel.fill aHoles (x, (m.w.getD k.toNat 0 == x), IntKind.wrap .i64 (k + 1), m)) else none))
    else some (.exit 2, mSkel.fill bHoles (x, b, m)) := by kernel_rfl

set_option maxRecDepth 100000 in
theorem j_round (x : Int) (m : MainV) (b : Bool) (k : Int) : (round db4 p3 jShape jLoop (mSkel.fill jHoles (x, b, k, m))).run =
    bif decide (k < (m.w.length : Int)) then (bif b then some (.normal, mSkel.fill jHoles (x, true, IntKind.wrap .i64 (k + 1), m)) else (bif decide (0 ≤ k) && decide (k < (m.w.length : Int)) then some (.normal, mSkel.fill jHoles (x, (m.w.getD k.toNat 0 == x), IntKind.wrap .i64 (k + 1), m)) else none))
    else some (.exit 7, mSkel.fill qHoles (x, b, m)) := by kernel_rfl

def aF (x : Holes aHoles) : Br (Exit × St) := .cond (inB (MainV.w x.2.2.2) x.2.2.1) (.ret (.exit 2, mSkel.fill bHoles (x.1, (x.2.1 || ((MainV.w x.2.2.2).drop x.2.2.1.toNat).any (· == x.1)), x.2.2.2))) .no
def jF (x : Holes jHoles) : Br (Exit × St) := .cond (inB (MainV.w x.2.2.2) x.2.2.1) (.ret (.exit 7, mSkel.fill qHoles (x.1, (x.2.1 || ((MainV.w x.2.2.2).drop x.2.2.1.toNat).any (· == x.1)), x.2.2.2))) .no

theorem kb4 : EnvFull Try.prog db4 := { tb := k4.tb, eqs := k4.eqs, orc := k4.orc, mixed := k4.mixed }

theorem cond_ret {α : Type} (b : Bool) (r : α) : (Br.cond b (.ret r) .no).run = if b = true then some r else none := by cases b <;> rfl

theorem a_loop (g : Cfg) (hg : g.m0 = []) : LoopOk Try.prog g (loopO 1024 (aShape .normal) (mSkel.parse aHoles) aF) aLoop := by
  refine LoopOk.mk kb4 hg p3 (LoOk.none l3) aShape (fun x => mSkel.fill aHoles x) (fun x => (((MainV.w x.2.2.2).length : Int) - x.2.2.1).toNat) (fun s x h => Skel.parse_ok h) aF fun x r hr => ?_
  have := any_loop (MainV.w x.2.2.2) x.1 (fun b k => mSkel.fill aHoles (x.1, b, k, x.2.2.2)) (fun b => (.exit 2, mSkel.fill bHoles (x.1, b, x.2.2.2))) (fun b h => by cases h) _ (a_round x.1 x.2.2.2) x.2.1 x.2.2.1 r (by rw [← cond_ret]; exact hr)
  rcases this with ⟨b', k', h1, h2, h3⟩ | h1
  · exact .inl ⟨(x.1, b', k', x.2.2.2), h1, h2, by rw [← cond_ret] at h3; exact h3⟩
  · exact .inr h1

theorem j_loop (g : Cfg) (hg : g.m0 = []) : LoopOk Try.prog g (loopO 1024 (jShape .normal) (mSkel.parse jHoles) jF) jLoop := by
  refine LoopOk.mk kb4 hg p3 (LoOk.none l3) jShape (fun x => mSkel.fill jHoles x) (fun x => (((MainV.w x.2.2.2).length : Int) - x.2.2.1).toNat) (fun s x h => Skel.parse_ok h) jF fun x r hr => ?_
  have := any_loop (MainV.w x.2.2.2) x.1 (fun b k => mSkel.fill jHoles (x.1, b, k, x.2.2.2)) (fun b => (.exit 7, mSkel.fill qHoles (x.1, b, x.2.2.2))) (fun b h => by cases h) _ (j_round x.1 x.2.2.2) x.2.1 x.2.2.1 r (by rw [← cond_ret]; exact hr)
  rcases this with ⟨b', k', h1, h2, h3⟩ | h1
  · exact .inl ⟨(x.1, b', k', x.2.2.2), h1, h2, by rw [← cond_ret] at h3; exact h3⟩
  · exact .inr h1

/-- What is said of the loops. -/
noncomputable def pJ : Par := { sh := fun _ => none, k := 3, lo := fun i => bif Nat.beq i 39 then some (loopO 1024 (jShape .normal) (mSkel.parse jHoles) jF) else none }

set_option maxRecDepth 100000 in
theorem k_round (k : Int) (m : MainV) : (round db4 pJ kShape kLoop (mSkel.fill kHoles (k, m))).run =
    bif decide (k < 7) then (bif inB m.w 0 then (bif decide (m.lw.length ≤ 9223372036854775807) then (bif !((m.lw.any (· == k)) == (false || (m.w.drop 0).any (· == k))) then some (.ret, only 144 2 .ff) else some (.normal, mSkel.fill kHoles (IntKind.wrap .i64 (k + 1), m))) else none) else none)
    else some (.exit 5, mSkel.fill mHoles m) := by kernel_rfl

def kInv (k : Int) (m : MainV) : Bool := decide (m.lw = m.w) && inB m.w 0 && decide (0 ≤ k) && decide (k ≤ 7)
def kF (x : Holes kHoles) : Br (Exit × St) := .cond (kInv x.1 x.2) (.ret (.exit 5, mSkel.fill mHoles x.2)) .no

theorem k_hr (k : Int) (m : MainV) (r : Exit × St) (hr : (kF (k, m)).run = some r) :
    (∃ x' : Holes kHoles, (round db4 pJ kShape kLoop (mSkel.fill kHoles (k, m))).run = some (.normal, mSkel.fill kHoles x') ∧ (7 - x'.1).toNat < (7 - k).toNat ∧ (kF x').run = some r) ∨ (r.1 ≠ .normal ∧ (round db4 pJ kShape kLoop (mSkel.fill kHoles (k, m))).run = some r) := by
  simp only [kF, Br.run_cond] at hr
  split at hr
  · rename_i hi
    simp only [kInv, Bool.and_eq_true, decide_eq_true_eq] at hi
    obtain ⟨⟨⟨h0, h1⟩, h2⟩, h3⟩ := hi
    have hround := k_round k m
    by_cases hlt : k < 7
    · left
      have hb : decide (m.w.length ≤ 9223372036854775807) = true := by
        simp only [inB, Bool.and_eq_true, decide_eq_true_eq] at h1
        rw [decide_eq_true_eq]
        exact h1.2
      simp only [hlt, decide_true, cond_true, h1, hb, h0, List.drop_zero, Bool.false_or, beq_self_eq_true, Bool.not_true, cond_false] at hround
      rw [wrap_small (by omega) (by omega)] at hround
      refine ⟨(k + 1, m), hround, ?_, ?_⟩
      · show (7 - (k + 1)).toNat < (7 - k).toNat
        omega
      · simp only [kF, Br.run_cond]
        rw [if_pos (by
          simp only [kInv, Bool.and_eq_true, decide_eq_true_eq]
          exact ⟨⟨⟨h0, h1⟩, by omega⟩, by omega⟩)]
        exact hr
    · right
      simp only [hlt, decide_false, cond_false] at hround
      obtain rfl := Option.some.inj hr
      exact ⟨fun h => (by cases h), hround⟩
  · cases hr

theorem lo_j : loOf pJ jLoop = some (loopO 1024 (jShape .normal) (mSkel.parse jHoles) jF) := by kernel_rfl
theorem k_loops : loopsOf kLoop = [jLoop] := by kernel_rfl

theorem k_loop (g : Cfg) (hg : g.m0 = []) : LoopOk Try.prog g (loopO 1024 (kShape .normal) (mSkel.parse kHoles) kF) kLoop :=
  LoopOk.mk kb4 hg pJ (LoOk.one k_loops fun o ho => by
    rw [lo_j] at ho
    obtain rfl := Option.some.inj ho
    exact j_loop g hg) kShape (fun x => mSkel.fill kHoles x) (fun x => (7 - x.1).toNat) (fun s x h => Skel.parse_ok h) kF fun x r hr => k_hr x.1 x.2 r hr

/-- What is said of the loops in the main one. -/
noncomputable def pK : Par := { sh := fun _ => none, k := 3, lo := fun i => bif Nat.beq i 8 then some (loopO 1024 (aShape .normal) (mSkel.parse aHoles) aF) else bif Nat.beq i 35 then some (loopO 1024 (kShape .normal) (mSkel.parse kHoles) kF) else none }
def mShape : Exit → Shape
  | .normal => mSh []
  | _ => ⟨[(2, .keep)], [], []⟩
noncomputable def mLoop : Code := loopAt 0 (bodyOf Try.f4)

end Go.Proofs.Ytnhiplibodkciaa
