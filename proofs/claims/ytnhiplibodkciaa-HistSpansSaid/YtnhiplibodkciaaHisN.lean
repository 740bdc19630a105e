/- HistSpans: the calls of a history, in the order in which they begin, with where they begin, are done and tell; what is none is told: the statement returns true. -/
import Derived.Test.YtnhiplibodkciaaGf
import Derived.Test.YtnhiplibodkciaaRows
import Derived.Test.YtnhiplibodkciaaHisM
namespace Go.Proofs.Ytnhiplibodkciaa
open Go.ChangeShapes Go.WideShapes Go.ChangeAt Go.RowKit Go.PI

noncomputable def lawB (h : List EvtV) : Bool :=
  bif tru (MI h true 0 []) then (bif decide (h.length ≤ 1000) then (bif !((spGo h 0 []).isSome == (spGo (h.drop (Int.toNat 0)) 0 []).isSome) then false else
    (bif (spGo h 0 []).isSome then (bif (Nat.cast ((spGo h 0 []).getD []).length : Int) != (Nat.cast (stopGo (h.drop (Int.toNat 0)) 0 []).length : Int) then false else
      (bif !(spGo h 0 []).isSome then (bif (Nat.cast ((spGo h 0 []).getD []).length : Int) != 0 then false else (bif tru (CI ((spGo h 0 []).getD []) 0 (stopGo (h.drop (Int.toNat 0)) 0 [])) then true else false)) else (bif tru (CI ((spGo h 0 []).getD []) 0 (stopGo (h.drop (Int.toNat 0)) 0 [])) then true else false)))
    else (bif !(spGo h 0 []).isSome then (bif (Nat.cast ((spGo h 0 []).getD []).length : Int) != 0 then false else (bif tru (CI ((spGo h 0 []).getD []) 0 (stopGo (h.drop (Int.toNat 0)) 0 [])) then true else false)) else (bif tru (CI ((spGo h 0 []).getD []) 0 (stopGo (h.drop (Int.toNat 0)) 0 [])) then true else false)))) else false) else false

theorem spGo_len : ∀ {l : List EvtV} {i : Int} {out o : List SpanV}, spGo l i out = some o → o.length ≤ out.length + l.length
  | [], _, _, _, h => by obtain rfl := Option.some.inj h; simp
  | e :: r, i, out, o, h => by
    simp only [spGo] at h
    cases he : evStepS (kk e out) (pp e out) out i e with
    | none => rw [he] at h; cases h
    | some out' =>
      rw [he] at h
      have h1 := spGo_len h
      have h2 := evStepS_len he
      rw [List.length_cons]
      omega

theorem lawB_true {h : List EvtV} (hl : h.length ≤ 30) : lawB h = true := by
  have hM : tru (MI h true 0 []) = true := tru_iff.2 ⟨by omega, by omega, by omega, by simp, fun _ => List.nodup_nil⟩
  have hd : h.drop (Int.toNat 0) = h := rfl
  unfold lawB
  rw [hM, hd, decide_eq_true (show h.length ≤ 1000 by omega)]
  cases hg : spGo h 0 [] with
  | some o =>
    have hlen := spGo_len hg
    have hC : tru (CI o 0 o) = true := tru_iff.2 ⟨by omega, by omega, by simp at hlen; omega, .inl rfl⟩
    rw [stop_some hg]
    simp [hC]
  | none =>
    have hC : tru (CI [] 0 (stopGo h 0 [])) = true := tru_iff.2 ⟨by omega, by simp, by simp, .inr rfl⟩
    simp [hC]

set_option maxRecDepth 100000 in
theorem law_eq (p : List Int) (odd : Int) : yes (inl t3e pM Try.f3 (bodyOf Try.f3) 0 (argsD [(true, .sl i64), (true, i64)] (p, odd, ())) []) = lawB (made p odd) := by kernel_rfl

theorem spans_law : TSpec Try.prog 3 [(true, .sl i64), (true, i64)] [.bool] (fun _ => true) (fun _ => true) := by
  refine TSpec.of_yes et3 Try.func3 (by kernel_rfl) (p := pM) (fun g hg a ha o ho => ?_) fun xs _ => ?_
  · rw [body_loops] at ha
    simp only [List.mem_cons, List.not_mem_nil, or_false] at ha
    rcases ha with rfl | rfl | rfl
    · exact (m_loop g hg).of (by kernel_rfl) ho
    · exact LoopOk.none (by kernel_rfl) ho
    · exact (c_loop g hg).of (by kernel_rfl) ho
  · exact (law_eq xs.1 xs.2.1).trans (lawB_true (made_len xs.1 xs.2.1))

theorem Try.own : ownKnob Try.prog.godebug = none := by kernel_rfl
theorem Try.laidOut : laidOutB Try.prog = true := by kernel_rfl
theorem Try.cells3 : Try.prog.cellsOf 3 = 1 := by kernel_rfl

set_option maxRecDepth 100000 in
theorem histSpans_lifted (os : Os) (started : os.Started) (H : Type) (enc : TypeId × Value → H) :
    ReturnsInHanded {} Try.checked os 3 .any (Rows.histSpansSpec.pre6 enc Try.prog Try.f3 Rows.histSpansRow.domain false) (Rows.histSpansSpec.post enc Try.prog Try.f3 false true false false) := by
  refine returnsInHanded_of_change (C := Try.checked) Try.own started (by kernel_rfl) Try.func3
    (ChangeSpec.witness6 (enc := enc) (C := Try.checked) false ⟨#[], #[.slice none 0 0, .int .i64 0], []⟩ 8 (by kernel_rfl) (by kernel_rfl) (by kernel_rfl) (by kernel_rfl)) ?_
  intro W base args ds gs before hval0 hW hcnd _
  have hval : ∀ (j : Nat) t v, Try.f3.params[j]? = some t → args[j]? = some v → Value.okWide Try.prog W .any base t v := hval0
  have hW' := hW
  obtain ⟨p, q, hA0, hV, rfl, hfz, hnd⟩ := hW
  have hA : DataW.TrodAll enc Try.prog W 0 (fun _ => true) true Try.f3.params.toList args.toList ds p := hA0
  rw [Try.params3] at hA hval
  obtain ⟨v0, v1, d0, d1, p0, p1, rfl, rfl, rfl, h0, h1⟩ := trodAll_two hA
  obtain ⟨rfl, rfl⟩ := trodVars_none hV
  obtain ⟨xs, hxs⟩ := vk_ints Try.underlying22 Try.underlying3 Try.cells3 (hval 0 22 v0 rfl rfl) h0
  obtain ⟨a, rfl, rfl, rfl, wa⟩ := open_int Try.underlying3 (hval 1 3 v1 rfl rfl) h1
  simp only [List.append_nil] at hW' hA
  refine (law_call spans_law (xs := (xs, a, ())) (vs := [v0, .int .i64 a]) ⟨_, _, rfl, hxs, _, [], rfl, vk_int wa, rfl⟩).mono ?_
  rintro e W' ⟨rfl, hB⟩
  exact ⟨_, rfl, law_post Try.laidOut (by kernel_rfl) Try.underlying4 (by kernel_rfl) rfl hW' hA rfl hB⟩

theorem histSpans_holds : Rows.HistSpansSaid :=
  OpenClaim.holds_of_wide 3 Try.f3 rfl rfl rfl rfl rfl rfl rfl ⟨rfl, rfl, rfl, rfl, rfl⟩ rfl rfl rfl rfl rfl (by kernel_rfl) Try.func3 (by kernel_rfl)
    (of_decide_eq_true (by kernel_rfl)) (by unfold Func.isWrapper; first | (rw [if_pos (by decide +kernel)]; kernel_rfl) | (rw [if_neg (by decide +kernel)]; exact ⟨rfl, rfl⟩))
    (fun os started H enc _ => histSpans_lifted os started H enc)
end Go.Proofs.Ytnhiplibodkciaa
