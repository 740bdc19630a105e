/- Waits of package ticket, as a contract. -/
import Derived.Test.YtnhiplibodkciaaTickA
import Derived.Test.YtnhiplibodkciaaPIaa
namespace Go.Proofs.Ytnhiplibodkciaa
open Go.PI

/-- The n-th loop of a piece of code. -/
def loopAt (n : Nat) (c : Code) : Code := (loopsOf c).getD n .skip
/-- A slot's worth alone. -/
def only (n i : Nat) (x : C) : St := (⟨n, [(i, .c x)], []⟩ : Skel).bare
def one (a b : Nat) : Option Nat → Nat → Option Nat := fun _ _ => none

abbrev lockT : Ty := .st (.pair (.int .i64) (.pair (.sl (.int .i64)) (.int .i64)))
abbrev LockV := Option (Int × List Int × Int)
def lockZ : Int × List Int × Int := (0, [], 0)
noncomputable def cb1 : Ctx := { c1 with base := 1024 }
def wHoles : List Hole := [.slot 0 true (.ptr lockT), .slot 1 false (.int .i64), .slot 7 false (.int .i64), .slot 8 false (.int .i64)]
def wSkel : Skel := ⟨21, [(4, .c .ff)], []⟩
def wShape : Exit → Shape
  | .normal => ⟨[(0, .keep), (1, .keep), (4, .keep), (7, .keep), (8, .keep)], [], []⟩
  | _ => ⟨[(4, .keep)], [], []⟩
noncomputable def wLoop : Code := loopAt 0 (bodyOf Try.f23)
def wS (v : LockV) (who n i : Int) : St := wSkel.fill wHoles (v, who, n, i, ())

set_option maxRecDepth 100000 in
theorem w_round (v : LockV) (who n i : Int) : (round cb1 p3 wShape wLoop (wS v who n i)).run =
    bif decide (i < n) then (bif v.isSome then (bif decide (0 ≤ i) && decide (i < ((v.getD lockZ).2.1.length : Int)) then
      (bif (v.getD lockZ).2.1.getD i.toNat 0 == who then some (.ret, only 21 4 .tt) else some (.normal, wS v who n (IntKind.wrap .i64 (i + 1)))) else none) else none)
    else some (.exit 0, only 21 4 .ff) := by kernel_rfl

def wInv (v : LockV) (n i : Int) : Bool := decide (0 ≤ i) && decide (i ≤ n) && decide (n = ((v.getD lockZ).2.1.length : Int)) && decide (n ≤ 9223372036854775807)
def wF (x : Holes wHoles) : Br (Exit × St) := .cond (wInv x.1 x.2.2.1 x.2.2.2.1)
  (.cond (((x.1.getD lockZ).2.1.drop x.2.2.2.1.toNat).any (· == x.2.1)) (.ret (.ret, only 21 4 .tt)) (.ret (.exit 0, only 21 4 .ff))) .no

theorem wrap_small {x : Int} (h1 : -9223372036854775808 ≤ x) (h2 : x ≤ 9223372036854775807) : IntKind.wrap .i64 x = x := by
  simp [IntKind.wrap, IntKind.signed, IntKind.bits]
  omega

theorem any_step {l : List Int} {i : Nat} (h : i < l.length) (f : Int → Bool) : (l.drop i).any f = (f (l.getD i 0) || (l.drop (i + 1)).any f) := by
  rw [List.drop_eq_getElem_cons h, List.any_cons]
  simp [List.getD, List.getElem?_eq_getElem h]

theorem w_hr (v : LockV) (who n i : Int) (r : Exit × St) (hr : (wF (v, who, n, i, ())).run = some r) :
    (∃ x' : Holes wHoles, (round cb1 p3 wShape wLoop (wS v who n i)).run = some (.normal, wSkel.fill wHoles x') ∧ (x'.2.2.1 - x'.2.2.2.1).toNat < (n - i).toNat ∧ (wF x').run = some r) ∨ (r.1 ≠ .normal ∧ (round cb1 p3 wShape wLoop (wS v who n i)).run = some r) := by
  simp only [wF, Br.run_cond] at hr
  split at hr
  · rename_i hi
    simp only [wInv, Bool.and_eq_true, decide_eq_true_eq] at hi
    obtain ⟨⟨⟨h0, h1⟩, h2⟩, h3⟩ := hi
    have hround := w_round v who n i
    by_cases hlt : i < n
    · have hsome : v.isSome = true := by
        cases v with
        | none => simp only [lockZ, Option.getD_none, List.length_nil] at h2; omega
        | some _ => rfl
      have hlen : i.toNat < (v.getD lockZ).2.1.length := by omega
      rw [any_step hlen] at hr
      have hb : (decide (0 ≤ i) && decide (i < ((v.getD lockZ).2.1.length : Int))) = true := by
        rw [Bool.and_eq_true, decide_eq_true_eq, decide_eq_true_eq]
        exact ⟨h0, by omega⟩
      simp only [hlt, decide_true, cond_true, hsome, hb] at hround
      cases hw : (v.getD lockZ).2.1.getD i.toNat 0 == who with
      | true =>
        rw [hw] at hround hr
        right
        refine ⟨?_, ?_⟩
        · simp only [Bool.true_or, if_true] at hr
          obtain rfl := Option.some.inj hr
          intro h; cases h
        · simp only [Bool.true_or, if_true] at hr
          exact hround.trans hr
      | false =>
        rw [hw] at hround hr
        left
        refine ⟨(v, who, n, i + 1, ()), ?_, ?_, ?_⟩
        · rw [wrap_small (by omega) (by omega)] at hround
          exact hround
        · show (n - (i + 1)).toNat < (n - i).toNat
          omega
        · simp only [wF, Br.run_cond]
          rw [if_pos (by
            simp only [wInv, Bool.and_eq_true, decide_eq_true_eq]
            exact ⟨⟨⟨by omega, by omega⟩, h2⟩, h3⟩)]
          have : (i + 1).toNat = i.toNat + 1 := by omega
          rw [this]
          simpa using hr
    · right
      have : (v.getD lockZ).2.1.drop i.toNat = [] := List.drop_eq_nil_of_le (by omega)
      rw [this] at hr
      simp only [hlt, decide_false, cond_false] at hround
      simp only [List.any_nil, Bool.false_eq_true, if_false] at hr
      obtain rfl := Option.some.inj hr
      exact ⟨fun h => (by cases h), hround⟩
  · cases hr

theorem w_loop (g : Cfg) (hg : g.m0 = []) : LoopOk Try.prog g (loopO 1024 (wShape .normal) (wSkel.parse wHoles) wF) wLoop :=
  LoopOk.mk (c := cb1) { tb := e1.tb, eqs := e1.eqs, orc := e1.orc, mixed := e1.mixed } hg p3 (LoOk.none l3) wShape (fun x => wSkel.fill wHoles x) (fun x => (x.2.2.1 - x.2.2.2.1).toNat) (fun s x h => Skel.parse_ok h) wF fun x r hr => w_hr x.1 x.2.1 x.2.2.1 x.2.2.2.1 r hr

noncomputable def pW : Par := { sh := fun _ => none, k := 3, lo := fun i => bif Nat.beq i 2 then some (loopO 1024 (wShape .normal) (wSkel.parse wHoles) wF) else none }

/-- One loop alone. -/
theorem LoOk.one {P : Program} {g : Cfg} {p : Par} {code a : Code} (hl : loopsOf code = [a]) (h : ∀ o, loOf p a = some o → LoopOk P g o a) : LoOk P g p code := by
  intro x hx
  rw [hl] at hx
  obtain rfl := List.mem_singleton.1 hx
  exact h
set_option maxRecDepth 100000 in
theorem waits_eq (v : LockV) (who : Int) : ((inl c1 pW Try.f23 (bodyOf Try.f23) 0 (argsD [(false, .ptr lockT), (true, .int .i64)] (v, who, ())) []).bind fun r => .ofOpt (outsD r.2.1 [.bool] r.1)).run =
    bif v.isNone then (bif wInv v 0 0 then (bif ((v.getD lockZ).2.1.drop 0).any (· == who) then some (false, true) else some (false, false)) else none) else
    (bif v.isSome then (bif wInv v ((v.getD lockZ).2.1.length : Int) 0 then (bif ((v.getD lockZ).2.1.drop 0).any (· == who) then some (false, true) else some (false, false)) else none) else none) := by
  kernel_rfl

theorem waits_spec : TSpec Try.prog 23 [(false, .ptr lockT), (true, .int .i64)] [.bool] (fun xs => decide ((xs.1.getD lockZ).2.1.length ≤ 9223372036854775807)) (fun xs => (xs.1.getD lockZ).2.1.any (· == xs.2.1)) := by
  refine TSpec.of_outs e1 Try.func23 (by kernel_rfl) (p := pW) (fun g hg => LoOk.one (a := wLoop) (by kernel_rfl) fun o ho => ?_) fun xs hx => ?_
  · have e : loOf pW wLoop = some (loopO 1024 (wShape .normal) (wSkel.parse wHoles) wF) := by kernel_rfl
    rw [e] at ho
    obtain rfl := Option.some.inj ho
    exact w_loop g hg
  · obtain ⟨v, who, _⟩ := xs
    refine (waits_eq v who).trans ?_
    simp only [decide_eq_true_eq] at hx
    have h1 : wInv v ((v.getD lockZ).2.1.length : Int) 0 = true := by
      simp only [wInv, Bool.and_eq_true, decide_eq_true_eq]
      exact ⟨⟨⟨by omega, by omega⟩, trivial⟩, by omega⟩
    cases v with
    | none => rfl
    | some v =>
      simp only [Option.isNone_some, Option.isSome_some, cond_false, cond_true, h1, List.drop_zero]
      cases ((some v : LockV).getD lockZ).2.1.any (· == who) <;> rfl

end Go.Proofs.Ytnhiplibodkciaa
