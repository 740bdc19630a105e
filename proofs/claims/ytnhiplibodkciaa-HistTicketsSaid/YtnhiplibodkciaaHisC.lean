/- HistTickets: the numbers of those that have one, in order, and whether they are 1, 2, and so on: the statement returns true. -/
import Derived.Test.YtnhiplibodkciaaRows
import Derived.Test.YtnhiplibodkciaaHisB
import Derived.Test.YtnhiplibodkciaaPIab
namespace Go.Proofs.Ytnhiplibodkciaa
open Go.ChangeShapes Go.WideShapes Go.ChangeAt Go.RowKit Go.PI

theorem law_tree (F : List SpanV) (a : Bool) (h1 : a = true) (h2 : decide (F.length ≤ 1000000) = true) (h3 : tru (CI (ticketsOf F) 0 (ticketsOf F)) = true) (h4 : decide ((ticketsOf F).length ≤ 1000000) = true) :
    (bif a then (bif decide (F.length ≤ 1000000) then (bif ((ticketsOf F).length : Int) != ((ticketsOf F).length : Int) then false else (bif tru (CI (ticketsOf F) 0 (ticketsOf F)) then (bif decide ((ticketsOf F).length ≤ 1000000) then
      (bif rise (ticketsOf F) 0 == rise (ticketsOf F) 0 then true else false) else false) else false)) else false) else false) = true := by
  rw [h1, h2, h3, h4]
  simp

set_option maxRecDepth 100000 in
theorem hist_eq (l : List Int) : yes (inl d3 pM Try.f6 (bodyOf Try.f6) 0 (argsD [(true, .sl i64)] (l, ())) []) =
    (bif tru (MI l true 0 [] []) then (bif decide ((finS l (Int.toNat (20 - 0)) 0 []).length ≤ 1000000) then (bif ((ticketsOf (finS l (Int.toNat (20 - 0)) 0 [])).length : Int) != ((ticketsOf (finS l (Int.toNat (20 - 0)) 0 [])).length : Int) then false else
      (bif tru (CI (ticketsOf (finS l (Int.toNat (20 - 0)) 0 [])) 0 (ticketsOf (finS l (Int.toNat (20 - 0)) 0 []))) then (bif decide ((ticketsOf (finS l (Int.toNat (20 - 0)) 0 [])).length ≤ 1000000) then
      (bif rise (ticketsOf (finS l (Int.toNat (20 - 0)) 0 [])) 0 == rise (ticketsOf (finS l (Int.toNat (20 - 0)) 0 [])) 0 then true else false) else false) else false)) else false) else false) := by kernel_rfl

theorem hist_spec : TSpec Try.prog 6 [(true, .sl i64)] [.bool] (fun _ => true) (fun _ => true) := by
  refine TSpec.of_yes k3 Try.func6 (by kernel_rfl) (p := pM) (fun g hg a ha o ho => ?_) fun xs _ => ?_
  · rw [body_loops] at ha
    simp only [List.mem_cons, List.not_mem_nil, or_false] at ha
    rcases ha with rfl | rfl
    · exact (m_loop g hg).of (by kernel_rfl) ho
    · exact (c_loop g hg).of (by kernel_rfl) ho
  · refine (hist_eq xs.1).trans ?_
    generalize hF : finS xs.1 (Int.toNat (20 - 0)) 0 [] = F
    have hlen : F.length ≤ 20 := by
      have := finS_len xs.1 (Int.toNat (20 - 0)) 0 []
      rw [hF] at this
      simpa using this
    have hlen2 : (ticketsOf F).length ≤ 20 := by
      unfold ticketsOf
      have := List.length_filter_le (fun t => decide (t > 0)) (F.map SpanV.ticket)
      rw [List.length_map] at this
      omega
    exact law_tree F _ (tru_iff.2 ⟨by omega, by omega, by simp, by simp, rfl, rfl⟩) (decide_eq_true (by omega)) (tru_iff.2 ⟨by omega, by omega, by omega, rfl⟩) (decide_eq_true (by omega))

theorem Try.own : ownKnob Try.prog.godebug = none := by kernel_rfl
theorem Try.laidOut : laidOutB Try.prog = true := by kernel_rfl
theorem Try.cells2 : Try.prog.cellsOf 2 = 1 := by kernel_rfl

set_option maxRecDepth 100000 in
theorem histTickets_lifted (os : Os) (started : os.Started) (H : Type) (enc : TypeId × Value → H) :
    ReturnsInHanded {} Try.checked os 6 .any (Rows.histTicketsSpec.pre6 enc Try.prog Try.f6 Rows.histTicketsRow.domain false) (Rows.histTicketsSpec.post enc Try.prog Try.f6 false true false false) := by
  refine returnsInHanded_of_change (C := Try.checked) Try.own started (by kernel_rfl) Try.func6
    (ChangeSpec.witness6 (enc := enc) (C := Try.checked) false ⟨#[], #[.slice none 0 0], []⟩ 8 (by kernel_rfl) (by kernel_rfl) (by kernel_rfl) (by kernel_rfl)) ?_
  intro W base args ds gs before hval0 hW hcnd _
  have hval : ∀ (j : Nat) t v, Try.f6.params[j]? = some t → args[j]? = some v → Value.okWide Try.prog W .any base t v := hval0
  have hW' := hW
  obtain ⟨p, q, hA0, hV, rfl, hfz, hnd⟩ := hW
  have hA : DataW.TrodAll enc Try.prog W 0 (fun _ => true) true Try.f6.params.toList args.toList ds p := hA0
  rw [Try.params6] at hA hval
  obtain ⟨v0, d0, rfl, rfl, h0⟩ := trodAll_one hA
  obtain ⟨rfl, rfl⟩ := trodVars_none hV
  obtain ⟨xs, hxs⟩ := vk_ints Try.underlying45 Try.underlying2 Try.cells2 (hval 0 45 v0 rfl rfl) h0
  simp only [List.append_nil] at hW'
  refine (law_call hist_spec (xs := (xs, ())) (vs := [v0]) ⟨_, [], rfl, hxs, rfl⟩).mono ?_
  rintro e W' ⟨rfl, hB⟩
  exact ⟨_, rfl, law_post Try.laidOut (by kernel_rfl) Try.underlying4 (by kernel_rfl) rfl hW' hA rfl hB⟩

theorem histTickets_holds : Rows.HistTicketsSaid :=
  OpenClaim.holds_of_wide 6 Try.f6 rfl rfl rfl rfl rfl rfl rfl ⟨rfl, rfl, rfl, rfl, rfl⟩ rfl rfl rfl rfl rfl (by kernel_rfl) Try.func6 (by kernel_rfl)
    (of_decide_eq_true (by kernel_rfl)) (by unfold Func.isWrapper; first | (rw [if_pos (by decide +kernel)]; kernel_rfl) | (rw [if_neg (by decide +kernel)]; exact ⟨rfl, rfl⟩))
    (fun os started H enc _ => histTickets_lifted os started H enc)
end Go.Proofs.Ytnhiplibodkciaa
