/- Package hist: contexts; Tickets and Rising, as contracts. -/
import Derived.Test.YtnhiplibodkciaaGf
import Derived.Test.YtnhiplibodkciaaTb
namespace Go.Proofs.Ytnhiplibodkciaa
open Go.PI

def p5 : Par := { sh := fun _ => none, k := 5 }
theorem l5 : ∀ i, p5.lo i = none := fun _ => rfl
noncomputable def c0 : Ctx := withE (mkC tb []) [29]
noncomputable def c1 : Ctx := addO c0 114 (inl c0 p5 Try.f114 (bodyOf Try.f114))
noncomputable def c2 : Ctx := addO c1 113 (inl c1 p5 Try.f113 (bodyOf Try.f113))
noncomputable def c3 : Ctx := addO c2 70 (inl c2 p5 Try.f70 (bodyOf Try.f70))
noncomputable def c4 : Ctx := addO c3 71 (inl c3 p5 Try.f71 (bodyOf Try.f71))
noncomputable def c5 : Ctx := addO c4 15 (inl c4 p5 Try.f15 (bodyOf Try.f15))
noncomputable def c6 : Ctx := addO c5 16 (inl c5 p5 Try.f16 (bodyOf Try.f16))
theorem e0 : EnvFull Try.prog c0 := env_E (env_nil (by kernel_rfl) tbOk) (by kernel_rfl)
theorem e1 : EnvFull Try.prog c1 := env_add e0 (.inl' e0 p5 l5 Try.func114 (by kernel_rfl))
theorem e2 : EnvFull Try.prog c2 := env_add e1 (.inl' e1 p5 l5 Try.func113 (by kernel_rfl))
theorem e3 : EnvFull Try.prog c3 := env_add e2 (.inl' e2 p5 l5 Try.func70 (by kernel_rfl))
theorem e4 : EnvFull Try.prog c4 := env_add e3 (.inl' e3 p5 l5 Try.func71 (by kernel_rfl))
theorem e5 : EnvFull Try.prog c5 := env_add e4 (.inl' e4 p5 l5 Try.func15 (by kernel_rfl))
theorem e6 : EnvFull Try.prog c6 := env_add e5 (.inl' e5 p5 l5 Try.func16 (by kernel_rfl))

set_option maxRecDepth 100000 in
theorem awake_eq : yes (inl c5 p5 Try.f16 (bodyOf Try.f16) 0 [] []) = true := by kernel_rfl
theorem awake_spec : TSpec Try.prog 16 [] [.bool] (fun _ => true) (fun _ => true) :=
  TSpec.of_yes e5 Try.func16 (by kernel_rfl) (p := p5) (fun g _ => LoOk.none l5) fun _ _ => awake_eq

abbrev retT : Ty := .st (.pair i64 (.pair i64 (.arr 6 i64)))
abbrev spanT : Ty := .st (.pair i64 (.pair i64 (.pair i64 (.pair i64 (.pair i64 retT)))))
abbrev RetV := Int × Int × List Int
abbrev SpanV := Int × Int × Int × Int × Int × RetV
def SpanV.ticket (s : SpanV) : Int := s.2.2.2.2.2.2.1
noncomputable def cb0 : Ctx := { c0 with base := 1024 }
theorem eb0 : EnvFull Try.prog cb0 := env_base e0 1024

-- Tickets
def tHoles : List Hole := [.slot 6 true (.sl spanT), .slot 7 false i64, .slot 8 false i64, .ar 2000 false 2 i64]
def tSkel : Skel := ⟨24, [(3, .c (.mfull 2000))], [(2000, [])]⟩
def tEnd : Skel := tSkel
def tShape : Exit → Shape
  | .normal => ⟨[(3, .row 976 false 2 i64), (6, .keep), (7, .keep), (8, .keep)], [], [(976, false)]⟩
  | _ => ⟨[(3, .row 976 false 2 i64)], [], [(976, false)]⟩
noncomputable def tLoop : Code := loopAt 0 (bodyOf Try.f26)

-- Rising
def rHoles : List Hole := [.slot 5 true (.sl i64), .slot 6 false i64, .slot 7 false i64]
def rSkel : Skel := ⟨17, [(2, .c .ff)], []⟩
def rShape : Exit → Shape
  | .normal => ⟨[(2, .keep), (5, .keep), (6, .keep), (7, .keep)], [], []⟩
  | _ => ⟨[(2, .keep)], [], []⟩
noncomputable def rLoop : Code := loopAt 0 (bodyOf Try.f27)

def tS (l : List SpanV) (n i : Int) (acc : List Int) : St := tSkel.fill tHoles (l, n, i, acc, ())
def spanZ : SpanV := (0, 0, 0, 0, 0, 0, 0, List.replicate 6 0)

set_option maxRecDepth 100000 in
theorem t_round (l : List SpanV) (n i : Int) (acc : List Int) : (round cb0 p5 tShape tLoop (tS l n i acc)).run =
    bif decide (i < n) then (bif decide (0 ≤ i) && decide (i < (l.length : Int)) then (bif decide ((l.getD i.toNat spanZ).ticket > 0) then
      (bif decide ((acc.length + 1) * 8 ≤ 140737488355328) then some (.normal, tS l n (IntKind.wrap .i64 (i + 1)) (acc ++ [(l.getD i.toNat spanZ).ticket])) else none)
      else some (.normal, tS l n (IntKind.wrap .i64 (i + 1)) acc)) else none)
    else some (.exit 0, tSkel.fill [.ar 2000 false 2 i64] (acc, ())) := by kernel_rfl

/-- The numbers of those that have one. -/
def ticketsOf (l : List SpanV) : List Int := (l.map SpanV.ticket).filter fun t => decide (t > 0)
structure TI' (l : List SpanV) (n i : Int) (acc : List Int) : Prop where
  i0 : 0 ≤ i
  i1 : i ≤ n
  n1 : n = (l.length : Int)
  n2 : n ≤ 1000000
  a1 : (acc.length : Int) ≤ i
noncomputable def tF (x : Holes tHoles) : Br (Exit × St) := .cond (tru (TI' x.1 x.2.1 x.2.2.1 x.2.2.2.1))
  (.ret (.exit 0, tSkel.fill [.ar 2000 false 2 i64] (x.2.2.2.1 ++ ticketsOf (x.1.drop x.2.2.1.toNat), ()))) .no

theorem tF_run {l : List SpanV} {n i : Int} {acc : List Int} (h : TI' l n i acc) : (tF (l, n, i, acc, ())).run = some (.exit 0, tSkel.fill [.ar 2000 false 2 i64] (acc ++ ticketsOf (l.drop i.toNat), ())) := by
  unfold tF
  rw [cond_ret, if_pos (tru_iff.2 h)]

theorem tEnd_eq {a b : List Int} (h : a = b) : some (Exit.exit 0, tSkel.fill [.ar 2000 false 2 i64] (a, ())) = some (Exit.exit 0, tSkel.fill [.ar 2000 false 2 i64] (b, ())) := by rw [h]

theorem t_hr (l : List SpanV) (n i : Int) (acc : List Int) (r : Exit × St) (hr : (tF (l, n, i, acc, ())).run = some r) :
    (∃ x' : Holes tHoles, (round cb0 p5 tShape tLoop (tS l n i acc)).run = some (.normal, tSkel.fill tHoles x') ∧ (x'.2.1 - x'.2.2.1).toNat < (n - i).toNat ∧ (tF x').run = some r) ∨ (r.1 ≠ .normal ∧ (round cb0 p5 tShape tLoop (tS l n i acc)).run = some r) := by
  have hh := hr
  unfold tF at hh
  rw [cond_ret] at hh
  split at hh
  · rename_i hi
    have h : TI' l n i acc := tru_iff.1 hi
    obtain rfl := Option.some.inj hh
    obtain ⟨h0, h1, h2, h3, h4⟩ := h
    have hround := t_round l n i acc
    by_cases hlt : i < n
    · left
      have hlen : i.toNat < l.length := by omega
      have hb : decide (i < (l.length : Int)) = true := decide_eq_true (by omega)
      have hw : IntKind.wrap .i64 (i + 1) = i + 1 := wrap_small (by omega) (by omega)
      have hap : decide ((acc.length + 1) * 8 ≤ 140737488355328) = true := decide_eq_true (by omega)
      have hd : l.drop i.toNat = l.getD i.toNat spanZ :: l.drop (i + 1).toNat := by rw [drop_step hlen spanZ]; congr 2; omega
      simp only [hlt, h0, decide_true, hb, Bool.and_self, cond_true, hw, hap] at hround
      cases ht : decide ((l.getD i.toNat spanZ).ticket > 0) with
      | true =>
        rw [ht] at hround
        refine ⟨(l, n, i + 1, acc ++ [(l.getD i.toNat spanZ).ticket], ()), hround, ?_, ?_⟩
        · show (n - (i + 1)).toNat < (n - i).toNat
          omega
        · have hT : TI' l n (i + 1) (acc ++ [(l.getD i.toNat spanZ).ticket]) := ⟨by omega, by omega, h2, h3, by simp; omega⟩
          rw [tF_run hT]
          refine tEnd_eq ?_
          rw [hd]
          unfold ticketsOf
          rw [List.map_cons, List.filter_cons, if_pos ht, List.append_assoc]
          rfl
      | false =>
        rw [ht] at hround
        refine ⟨(l, n, i + 1, acc, ()), hround, ?_, ?_⟩
        · show (n - (i + 1)).toNat < (n - i).toNat
          omega
        · have hT : TI' l n (i + 1) acc := ⟨by omega, by omega, h2, h3, by omega⟩
          rw [tF_run hT]
          refine tEnd_eq ?_
          rw [hd]
          unfold ticketsOf
          rw [List.map_cons, List.filter_cons, if_neg (by rw [ht]; decide)]
    · right
      have e : l.drop i.toNat = [] := List.drop_eq_nil_of_le (by omega)
      simp only [hlt, decide_false, cond_false] at hround
      refine ⟨fun h => (by cases h), hround.trans ?_⟩
      refine tEnd_eq ?_
      rw [e]
      unfold ticketsOf
      simp
  · cases hh

theorem t_loop (g : Cfg) (hg : g.m0 = []) : LoopOk Try.prog g (loopO 1024 (tShape .normal) (tSkel.parse tHoles) tF) tLoop :=
  LoopOk.mk eb0 hg p5 (LoOk.none l5) tShape (fun x => tSkel.fill tHoles x) (fun x => (x.2.1 - x.2.2.1).toNat) (fun s x h => Skel.parse_ok h) tF fun x r hr => t_hr x.1 x.2.1 x.2.2.1 x.2.2.2.1 r hr
noncomputable def pT : Par := { sh := fun _ => none, k := 3, lo := fun i => bif Nat.beq i 3 then some (loopO 1024 (tShape .normal) (tSkel.parse tHoles) tF) else none }

set_option maxRecDepth 100000 in
theorem tickets_eq (l : List SpanV) : ((inl c0 pT Try.f26 (bodyOf Try.f26) 0 (argsD [(false, .sl spanT)] (l, ())) []).bind fun r => .ofOpt (outsD r.2.1 [.sl i64] r.1)).run =
    bif tru (TI' l (l.length : Int) 0 []) then some (false, [] ++ ticketsOf (l.drop 0)) else none := by kernel_rfl

theorem tickets_spec : TSpec Try.prog 26 [(false, .sl spanT)] [.sl i64] (fun xs => decide (List.length xs.1 ≤ 1000000)) (fun xs => ticketsOf xs.1) := by
  refine TSpec.of_outs e0 Try.func26 (by kernel_rfl) (p := pT) (fun g hg => LoOk.one (a := tLoop) (by kernel_rfl) fun o ho => (t_loop g hg).of (by kernel_rfl) ho) fun xs hx => ?_
  refine (tickets_eq xs.1).trans ?_
  have hx : List.length xs.1 ≤ 1000000 := of_decide_eq_true hx
  have h : TI' xs.1 (List.length xs.1 : Int) 0 [] := ⟨by omega, by omega, rfl, by omega, by simp⟩
  rw [tru_iff.2 h]
  rfl

/-- Are they 1, 2, and so on? -/
def rise : List Int → Int → Bool
  | [], _ => true
  | x :: r, i => x == i + 1 && rise r (i + 1)
def rS (l : List Int) (n i : Int) : St := rSkel.fill rHoles (l, n, i, ())
set_option maxRecDepth 100000 in
theorem r_round (l : List Int) (n i : Int) : (round cb0 p5 rShape rLoop (rS l n i)).run =
    bif decide (i < n) then (bif decide (0 ≤ i) && decide (i < (l.length : Int)) then (bif l.getD i.toNat 0 != IntKind.wrap .i64 (i + 1) then some (.ret, only 17 2 .ff) else some (.normal, rS l n (IntKind.wrap .i64 (i + 1)))) else none)
    else some (.exit 0, only 17 2 .ff) := by kernel_rfl

structure RI (l : List Int) (n i : Int) : Prop where
  i0 : 0 ≤ i
  i1 : i ≤ n
  n1 : n = (l.length : Int)
  n2 : n ≤ 1000000
noncomputable def rF (x : Holes rHoles) : Br (Exit × St) := .cond (tru (RI x.1 x.2.1 x.2.2.1))
  (.cond (rise (List.drop x.2.2.1.toNat x.1) x.2.2.1) (.ret (.exit 0, only 17 2 .ff)) (.ret (.ret, only 17 2 .ff))) .no

theorem r_hr (l : List Int) (n i : Int) (r : Exit × St) (hr : (rF (l, n, i, ())).run = some r) :
    (∃ x' : Holes rHoles, (round cb0 p5 rShape rLoop (rS l n i)).run = some (.normal, rSkel.fill rHoles x') ∧ (x'.2.1 - x'.2.2.1).toNat < (n - i).toNat ∧ (rF x').run = some r) ∨ (r.1 ≠ .normal ∧ (round cb0 p5 rShape rLoop (rS l n i)).run = some r) := by
  unfold rF at hr
  simp only [run_bif] at hr
  cases hi : tru (RI l n i) with
  | true =>
    rw [hi] at hr
    simp only [cond_true] at hr
    have h : RI l n i := tru_iff.1 hi
    obtain ⟨h0, h1, h2, h3⟩ := h
    have hround := r_round l n i
    by_cases hlt : i < n
    · have hlen : i.toNat < l.length := by omega
      have hb : decide (i < (l.length : Int)) = true := decide_eq_true (by omega)
      have hw : IntKind.wrap .i64 (i + 1) = i + 1 := wrap_small (by omega) (by omega)
      have hd : l.drop i.toNat = l.getD i.toNat 0 :: l.drop (i + 1).toNat := by rw [drop_step hlen 0]; congr 2; omega
      simp only [hlt, h0, decide_true, hb, Bool.and_self, cond_true, hw] at hround
      rw [hd] at hr
      simp only [rise] at hr
      cases ht : l.getD i.toNat 0 == i + 1 with
      | true =>
        left
        have hn : (l.getD i.toNat 0 != i + 1) = false := by unfold bne; rw [ht]; rfl
        rw [hn] at hround
        refine ⟨(l, n, i + 1, ()), hround, ?_, ?_⟩
        · show (n - (i + 1)).toNat < (n - i).toNat
          omega
        · have hT : RI l n (i + 1) := ⟨by omega, by omega, h2, h3⟩
          unfold rF
          simp only [run_bif]
          rw [tru_iff.2 hT]
          rw [ht] at hr
          exact hr
      | false =>
        right
        have hn : (l.getD i.toNat 0 != i + 1) = true := by unfold bne; rw [ht]; rfl
        rw [hn] at hround
        rw [ht] at hr
        simp only [Bool.false_and, cond_false] at hr
        obtain rfl := Option.some.inj hr
        exact ⟨fun h => (by cases h), hround⟩
    · right
      have e : l.drop i.toNat = [] := List.drop_eq_nil_of_le (by omega)
      simp only [hlt, decide_false, cond_false] at hround
      rw [e] at hr
      simp only [rise, cond_true] at hr
      obtain rfl := Option.some.inj hr
      exact ⟨fun h => (by cases h), hround⟩
  | false => rw [hi] at hr; cases hr

theorem r_loop (g : Cfg) (hg : g.m0 = []) : LoopOk Try.prog g (loopO 1024 (rShape .normal) (rSkel.parse rHoles) rF) rLoop :=
  LoopOk.mk eb0 hg p5 (LoOk.none l5) rShape (fun x => rSkel.fill rHoles x) (fun x => (x.2.1 - x.2.2.1).toNat) (fun s x h => Skel.parse_ok h) rF fun x r hr => r_hr x.1 x.2.1 x.2.2.1 r hr
noncomputable def pR : Par := { sh := fun _ => none, k := 3, lo := fun i => bif Nat.beq i 2 then some (loopO 1024 (rShape .normal) (rSkel.parse rHoles) rF) else none }

set_option maxRecDepth 100000 in
theorem rising_eq (l : List Int) : ((inl c0 pR Try.f27 (bodyOf Try.f27) 0 (argsD [(false, .sl i64)] (l, ())) []).bind fun r => .ofOpt (outsD r.2.1 [.bool] r.1)).run =
    bif tru (RI l (l.length : Int) 0) then (bif rise (l.drop 0) 0 then some (false, true) else some (false, false)) else none := by kernel_rfl

theorem rising_spec : TSpec Try.prog 27 [(false, .sl i64)] [.bool] (fun xs => decide (List.length xs.1 ≤ 1000000)) (fun xs => rise xs.1 0) := by
  refine TSpec.of_outs e0 Try.func27 (by kernel_rfl) (p := pR) (fun g hg => LoOk.one (a := rLoop) (by kernel_rfl) fun o ho => (r_loop g hg).of (by kernel_rfl) ho) fun xs hx => ?_
  refine (rising_eq xs.1).trans ?_
  have hx : List.length xs.1 ≤ 1000000 := of_decide_eq_true hx
  have h : RI xs.1 (List.length xs.1 : Int) 0 := ⟨by omega, by omega, rfl, by omega⟩
  rw [tru_iff.2 h]
  simp only [cond_true, List.drop_zero]
  cases rise xs.1 0 <;> rfl

end Go.Proofs.Ytnhiplibodkciaa
