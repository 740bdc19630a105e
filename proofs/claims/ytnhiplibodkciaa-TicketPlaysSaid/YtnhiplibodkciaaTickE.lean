/- TicketPlays: what a round comes to, as plain law. -/
import Derived.Test.YtnhiplibodkciaaTickD
namespace Go.Proofs.Ytnhiplibodkciaa
open Go.PI

theorem xOf_ge (l : List Int) (i : Int) : -1 ≤ xOf l i ∧ xOf l i ≤ 6 := by
  unfold xOf
  have h : (BitVec.toNat (BitVec.ofInt (IntKind.bits IntKind.i64) (List.getD l (Int.toNat i) 0) &&& BitVec.ofInt (IntKind.bits IntKind.i64) 7)) ≤ 7 := by
    rw [BitVec.toNat_and]
    exact Nat.le_trans Nat.and_le_right (by decide)
  generalize BitVec.toNat (BitVec.ofInt (IntKind.bits IntKind.i64) (List.getD l (Int.toNat i) 0) &&& BitVec.ofInt (IntKind.bits IntKind.i64) 7) = k at h
  have e : IntKind.wrap .i64 (Nat.cast k : Int) = k := wrap_small (by omega) (by omega)
  rw [e, wrap_small (by omega) (by omega)]
  omega

/-- What is kept from round to round. -/
structure MI (who n i : Int) (w : List Int) : Prop where
  i0 : 0 ≤ i
  whoGe : (-1 : Int) ≤ who
  nobody : who = (-1 : Int) → w = []
  elems : ∀ x ∈ w, 0 ≤ x
  len : (w.length : Int) ≤ i
  n0 : 0 ≤ n
  n1 : n ≤ i

theorem inB_of {w : List Int} (h : (w.length : Int) ≤ 100) : inB w 0 = true := by
  simp only [inB, Bool.and_eq_true, decide_eq_true_eq]
  exact ⟨⟨by omega, by omega⟩, by omega⟩
theorem kInv_of {l : List Int} {who n i : Int} {w : List Int} (h : (w.length : Int) ≤ 100) : kInv 0 (l, who, n, i, who, n, w, w, ()) = true := by
  simp only [kInv, Bool.and_eq_true, decide_eq_true_eq]
  exact ⟨⟨⟨trivial, inB_of h⟩, by omega⟩, by omega⟩

theorem mTree_ok {l : List Int} {who n i : Int} {w : List Int} (h1 : i < (l.length : Int)) (h2 : i < 80) (h : MI who n i w) :
    ∃ who' n' w', mTree l who n i w = some (.normal, mSkel.fill mHoles (l, who', n', i + 1, who', n', w', w', ())) ∧ MI who' n' (i + 1) w' := by
  obtain ⟨i0, hwho, hnob, hel, hlen, n0, n1⟩ := h
  obtain ⟨x0, x1⟩ := xOf_ge l i
  have e1 : IntKind.wrap .i64 (i + 1) = i + 1 := wrap_small (by omega) (by omega)
  have e2 : IntKind.wrap .i64 (n + 1) = n + 1 := wrap_small (by omega) (by omega)
  have hB : inB w 0 = true := inB_of (by omega)
  have hw1 : w.length ≤ 9223372036854775807 := by omega
  unfold mTree
  generalize xOf l i = x at *
  have es : List.set (List.replicate 1 (0 : Int)) 0 x = [x] := rfl
  have hk : kInv 0 (l, who, n, i, who, n, w, w, ()) = true := kInv_of (by omega)
  have hk2 : kInv 0 (l, x, n + 1, i, x, n + 1, w, w, ()) = true := kInv_of (by omega)
  have hk3 : kInv 0 (l, who, n, i, who, n, w ++ [x], w ++ [x], ()) = true := kInv_of (by simp; omega)
  have hk4 : kInv 0 (l, -1, n, i, -1, n, w, w, ()) = true := kInv_of (by omega)
  have hap : (w.length + 1) * 8 ≤ 140737488355328 := by omega
  have keep : MI who n (i + 1) w := ⟨by omega, hwho, hnob, hel, by omega, n0, by omega⟩
  simp only [h1, h2, i0, hB, hw1, e1, e2, es, hk, hk2, hk3, hk4, hap, decide_true, Bool.and_self, cond_true, bne_self_eq_false, cond_false, List.length_singleton]
  by_cases hb : bOf l i > 0
  · simp only [hb, decide_true, cond_true]
    by_cases hx : x < 0
    · simp only [hx, decide_true, cond_true]
      exact ⟨who, n, w, rfl, keep⟩
    · simp only [hx, decide_false, cond_false]
      by_cases hwx : x = who
      · subst hwx
        simp only [beq_self_eq_true, Bool.true_or, cond_true]
        exact ⟨x, n, w, rfl, keep⟩
      · have hwx' : ¬ who = x := fun e => hwx e.symm
        have b1 : (x == who) = false := by simpa using hwx
        have b2 : (who == x) = false := by simpa using hwx'
        have e0 : MainV.w (l, who, n, i, who, n, w, w, ()) = w := rfl
        simp only [b1, b2, Bool.false_or, e0, Int.toNat_zero, List.drop_zero, cond_false]
        cases ha : w.any (fun y => y == x) with
        | true =>
          simp only [cond_true]
          exact ⟨who, n, w, rfl, keep⟩
        | false =>
          simp only [cond_false]
          by_cases hn : who < 0
          · have : who = -1 := by omega
            subst this
            have hw := hnob rfl
            subst hw
            simp only [hn, decide_true, cond_true, beq_self_eq_true, List.length_nil]
            exact ⟨x, n + 1, [], rfl, ⟨by omega, by omega, fun e => absurd e (by omega), fun y hy => (by cases hy), (by simp; omega), by omega, by omega⟩⟩
          · have b3 : (who == -1) = false := by
              have : ¬ who = -1 := by omega
              simpa using this
            simp only [hn, decide_false, cond_false, b3]
            refine ⟨who, n, w ++ [x], rfl, ⟨by omega, hwho, fun e => absurd e (by omega), fun y hy => ?_, by simp; omega, n0, by omega⟩⟩
            rcases List.mem_append.1 hy with hy | hy
            · exact hel y hy
            · rw [List.mem_singleton.1 hy]; omega
  · simp only [hb, decide_false, cond_false]
    by_cases hx : x ≥ 0
    · have hx' : ¬ x < 0 := by omega
      simp only [hx, hx', decide_true, decide_false, cond_true, cond_false]
      by_cases hwx : x = who
      · subst hwx
        simp only [beq_self_eq_true, cond_true]
        cases w with
        | nil =>
          simp only [bne_self_eq_false, List.length_nil]
          exact ⟨-1, n, [], rfl, ⟨by omega, by omega, fun _ => rfl, hel, (by simp; omega), n0, by omega⟩⟩
        | cons y r =>
          simp only [List.length_cons] at hlen hw1
          have d1 : decide ((Nat.cast (y :: r).length : Int) > 0) = true := by simp
          have d0 : decide ((0 : Int) ≤ 0) = true := rfl
          have d4 : decide ((0 : Int) ≤ 1) = true := rfl
          have t5 : List.drop (Int.toNat 1) (y :: r) = r := rfl
          have d2 : decide ((0 : Int) < (Nat.cast (y :: r).length : Int)) = true := d1
          have d3 : decide ((1 : Int) ≤ (Nat.cast (y :: r).length : Int)) = true := by simp; omega
          have t1 : Int.toNat (Nat.cast (y :: r).length : Int) - Int.toNat 1 = r.length := by simp
          have t2 : List.drop (0 + Int.toNat 1) (y :: r) = r := rfl
          have t3 : List.getD (y :: r) (Int.toNat 0) 0 = y := rfl
          have t4 : List.replicate 0 (0 : Int) = [] := rfl
          have hk5 : kInv 0 (l, y, n + 1, i, y, n + 1, r, r, ()) = true := kInv_of (by omega)
          have hr8 : r.length * 8 ≤ 140737488355328 := by omega
          simp only [d0, d4, t5, d1, d2, d3, t1, t2, t3, t4, hk5, hr8, List.take_length, List.length_replicate, List.nil_append, List.length_nil, Nat.zero_add, Int.le_refl, decide_true, Bool.and_self, cond_true, bne_self_eq_false, cond_false]
          exact ⟨y, n + 1, r, rfl, ⟨by omega, (by have := hel y List.mem_cons_self; omega), fun e => (by have := hel y List.mem_cons_self; omega), fun z hz => hel z (List.mem_cons_of_mem _ hz), by omega, by omega, by omega⟩⟩
      · have hwx' : ¬ who = x := fun e => hwx e.symm
        have b1 : (x == who) = false := by simpa using hwx
        have b2 : (who != x) = true := by simpa using hwx'
        simp only [b1, b2, cond_false, cond_true]
        exact ⟨who, n, w, rfl, keep⟩
    · have hx' : x < 0 := by omega
      simp only [hx, hx', decide_true, decide_false, cond_true, cond_false]
      exact ⟨who, n, w, rfl, keep⟩

theorem mTree_end {l : List Int} {who n i : Int} {w : List Int} (h : ¬ (i < (l.length : Int) ∧ i < 80)) : mTree l who n i w = some (.exit 0, only 144 2 .ff) := by
  unfold mTree
  by_cases h1 : i < (l.length : Int)
  · have h2 : ¬ i < 80 := fun e => h ⟨h1, e⟩
    simp only [h1, h2, decide_true, decide_false, cond_true, cond_false]
  · simp only [h1, decide_false, cond_false]

def MP (who n i lwho ln : Int) (lw w : List Int) : Prop := lwho = who ∧ ln = n ∧ lw = w ∧ MI who n i w
noncomputable def mInv (m : MainV) : Bool := tru (MP m.2.1 m.2.2.1 m.2.2.2.1 m.2.2.2.2.1 m.2.2.2.2.2.1 m.lw m.w)
noncomputable def mF (m : MainV) : Br (Exit × St) := .cond (mInv m) (.ret (.exit 0, only 144 2 .ff)) .no

theorem m_hr (l : List Int) (who n i lwho ln : Int) (lw w : List Int) (r : Exit × St) (hr : (mF (l, who, n, i, lwho, ln, lw, w, ())).run = some r) :
    (∃ x' : MainV, (round db4 pK mShape mLoop (mSkel.fill mHoles (l, who, n, i, lwho, ln, lw, w, ()))).run = some (.normal, mSkel.fill mHoles x') ∧ (80 - x'.2.2.2.1).toNat < (80 - i).toNat ∧ (mF x').run = some r) ∨
    (r.1 ≠ .normal ∧ (round db4 pK mShape mLoop (mSkel.fill mHoles (l, who, n, i, lwho, ln, lw, w, ()))).run = some r) := by
  simp only [mF, Br.run_cond] at hr
  split at hr
  · rename_i hi
    have hi : MP who n i lwho ln lw w := tru_iff.1 hi
    obtain ⟨rfl, rfl, rfl, hM⟩ := hi
    by_cases hlt : i < (l.length : Int) ∧ i < 80
    · left
      obtain ⟨who', n', w', h1, h2⟩ := mTree_ok hlt.1 hlt.2 hM
      refine ⟨(l, who', n', i + 1, who', n', w', w', ()), (m_round l _ _ i _).trans h1, ?_, ?_⟩
      · show (80 - (i + 1)).toNat < (80 - i).toNat
        omega
      · simp only [mF, Br.run_cond]
        have hm : mInv (l, who', n', i + 1, who', n', w', w', ()) = true := tru_iff.2 (show MP who' n' (i + 1) who' n' w' w' from ⟨rfl, rfl, rfl, h2⟩)
        rw [if_pos hm]
        exact hr
    · right
      obtain rfl := Option.some.inj hr
      exact ⟨fun h => (by cases h), (m_round l _ _ i _).trans (mTree_end hlt)⟩
  · cases hr

theorem m_loops : loopsOf mLoop = [aLoop, kLoop, jLoop] := by kernel_rfl
theorem lo_a : loOf pK aLoop = some (loopO 1024 (aShape .normal) (mSkel.parse aHoles) aF) := by kernel_rfl
theorem lo_k : loOf pK kLoop = some (loopO 1024 (kShape .normal) (mSkel.parse kHoles) kF) := by kernel_rfl
theorem lo_jn : loOf pK jLoop = none := by kernel_rfl

theorem m_loop (g : Cfg) (hg : g.m0 = []) : LoopOk Try.prog g (loopO 1024 (mShape .normal) (mSkel.parse mHoles) mF) mLoop := by
  refine LoopOk.mk kb4 hg pK (fun a ha o ho => ?_) mShape (fun x => mSkel.fill mHoles x) (fun x => (80 - x.2.2.2.1).toNat) (fun s x h => Skel.parse_ok h) mF fun x r hr => m_hr x.1 x.2.1 x.2.2.1 x.2.2.2.1 x.2.2.2.2.1 x.2.2.2.2.2.1 x.2.2.2.2.2.2.1 x.2.2.2.2.2.2.2.1 r hr
  rw [m_loops] at ha
  simp only [List.mem_cons, List.not_mem_nil, or_false] at ha
  rcases ha with rfl | rfl | rfl
  · rw [lo_a] at ho
    obtain rfl := Option.some.inj ho
    exact a_loop g hg
  · rw [lo_k] at ho
    obtain rfl := Option.some.inj ho
    exact k_loop g hg
  · rw [lo_jn] at ho; cases ho

noncomputable def pM : Par := { sh := fun _ => none, k := 3, lo := fun i => bif Nat.beq i 3 then some (loopO 1024 (mShape .normal) (mSkel.parse mHoles) mF) else none }
theorem body_loops : loopsOf (bodyOf Try.f4) = [mLoop, aLoop, kLoop, jLoop] := by kernel_rfl
theorem lo_m : loOf pM mLoop = some (loopO 1024 (mShape .normal) (mSkel.parse mHoles) mF) := by kernel_rfl
theorem lo_am : loOf pM aLoop = none := by kernel_rfl
theorem lo_km : loOf pM kLoop = none := by kernel_rfl
theorem lo_jm : loOf pM jLoop = none := by kernel_rfl

set_option maxRecDepth 100000 in
theorem plays_eq (l : List Int) : yes (inl d4 pM Try.f4 (bodyOf Try.f4) 0 (argsD [(true, .sl i64)] (l, ())) []) = bif mInv (l, -1, 0, 0, -1, 0, [], [], ()) then true else false := by kernel_rfl

theorem plays_spec : TSpec Try.prog 4 [(true, .sl i64)] [.bool] (fun _ => true) (fun _ => true) := by
  refine TSpec.of_yes k4 Try.func4 (by kernel_rfl) (p := pM) (fun g hg a ha o ho => ?_) fun xs _ => ?_
  · rw [body_loops] at ha
    simp only [List.mem_cons, List.not_mem_nil, or_false] at ha
    rcases ha with rfl | rfl | rfl | rfl
    · rw [lo_m] at ho
      obtain rfl := Option.some.inj ho
      exact m_loop g hg
    · rw [lo_am] at ho; cases ho
    · rw [lo_km] at ho; cases ho
    · rw [lo_jm] at ho; cases ho
  · refine (plays_eq xs.1).trans ?_
    have : mInv (xs.1, -1, 0, 0, -1, 0, [], [], ()) = true :=
      tru_iff.2 (show MP (-1) 0 0 (-1) 0 [] [] from ⟨rfl, rfl, rfl, ⟨by decide, by decide, fun _ => rfl, fun x hx => (by cases hx), by decide, by decide, by decide⟩⟩)
    rw [this]
    rfl

end Go.Proofs.Ytnhiplibodkciaa
