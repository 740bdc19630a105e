/- FrontCounts: what is counted of a call, by what it was told: the statement returns true, whatever kind and error come in. Package-level variables start as the program's text lays them (the card ties them). -/
import Derived.Test.YtcdnmmhpkhioiaaGreatDoorRows
import Derived.Test.YtcdnmmhpkhioiaaGreatDoorCards
import Derived.Test.YtcdnmmhpkhioiaaGreatDoorTie
import Derived.Test.YtcdnmmhpkhioiaaGreatDoorFcB
import Derived.ProofKit
import Derived.OpenShut
import Derived.LaidMore
import Derived.Lay
import Derived.SevenTiedAt
import Derived.Stop.Joined
namespace Go.Proofs.YtcdnmmhpkhioiaaGreatDoor
open Go Go.ChangeShapes Go.WideShapes Go.ChangeAt Go.RowKit Go.PI

def errOf (e : Int) : Int := IntKind.wrap .i64 (Nat.cast (BitVec.toNat (BitVec.ofInt (IntKind.bits IntKind.i64) e &&& BitVec.ofInt (IntKind.bits IntKind.i64) 15)) : Int)

set_option maxRecDepth 100000 in
theorem law_eq (k e : Int) : yes (inl a9 p60 Tryz.f3 (bodyOf Tryz.f3) 0 (argsD [(true, i64), (true, i64)] (k, e, ())) []) =
    (bif k == 6 then (bif k == 6 then true else (bif errOf e == 6 then false else (bif errOf e != 0 then false else (bif k == 1 then (bif k == 1 then false else (bif k == 3 then false else (bif k == 4 then false else (bif k == 5 then false else true)))) else (bif k == 2 then false else (bif k == 3 then false else (bif k == 4 then false else (bif k == 5 then false else true)))))))) else (bif errOf e == 6 then (bif k == 6 then false else (bif errOf e == 6 then true else (bif errOf e != 0 then false else (bif k == 1 then (bif k == 1 then false else (bif k == 3 then false else (bif k == 4 then false else (bif k == 5 then false else false)))) else (bif k == 2 then false else (bif k == 3 then false else (bif k == 4 then false else (bif k == 5 then false else false)))))))) else (bif errOf e != 0 then (bif k == 6 then false else (bif errOf e == 6 then false else (bif errOf e != 0 then true else (bif k == 1 then (bif k == 1 then false else (bif k == 3 then false else (bif k == 4 then false else (bif k == 5 then false else false)))) else (bif k == 2 then false else (bif k == 3 then false else (bif k == 4 then false else (bif k == 5 then false else false)))))))) else (bif k == 1 then (bif k == 6 then false else (bif errOf e == 6 then false else (bif errOf e != 0 then false else (bif k == 1 then (bif k == 1 then true else (bif k == 3 then false else (bif k == 4 then false else (bif k == 5 then false else false)))) else (bif k == 2 then true else (bif k == 3 then false else (bif k == 4 then false else (bif k == 5 then false else false)))))))) else (bif k == 2 then (bif k == 6 then false else (bif errOf e == 6 then false else (bif errOf e != 0 then false else (bif k == 1 then (bif k == 1 then true else (bif k == 3 then false else (bif k == 4 then false else (bif k == 5 then false else false)))) else (bif k == 2 then true else (bif k == 3 then false else (bif k == 4 then false else (bif k == 5 then false else false)))))))) else (bif k == 3 then (bif k == 6 then false else (bif errOf e == 6 then false else (bif errOf e != 0 then false else (bif k == 1 then (bif k == 1 then false else (bif k == 3 then true else (bif k == 4 then false else (bif k == 5 then false else false)))) else (bif k == 2 then false else (bif k == 3 then true else (bif k == 4 then false else (bif k == 5 then false else false)))))))) else (bif k == 4 then (bif k == 6 then false else (bif errOf e == 6 then false else (bif errOf e != 0 then false else (bif k == 1 then (bif k == 1 then false else (bif k == 3 then false else (bif k == 4 then true else (bif k == 5 then false else false)))) else (bif k == 2 then false else (bif k == 3 then false else (bif k == 4 then true else (bif k == 5 then false else false)))))))) else (bif k == 5 then (bif k == 6 then false else (bif errOf e == 6 then false else (bif errOf e != 0 then false else (bif k == 1 then (bif k == 1 then false else (bif k == 3 then false else (bif k == 4 then false else (bif k == 5 then true else false)))) else (bif k == 2 then false else (bif k == 3 then false else (bif k == 4 then false else (bif k == 5 then true else false)))))))) else (bif k == 6 then true else (bif errOf e == 6 then false else (bif errOf e != 0 then false else (bif k == 1 then (bif k == 1 then false else (bif k == 3 then false else (bif k == 4 then false else (bif k == 5 then false else true)))) else (bif k == 2 then false else (bif k == 3 then false else (bif k == 4 then false else (bif k == 5 then false else true)))))))))))))))) := by kernel_rfl

theorem law_true (k e : Int) : ((bif k == 6 then (bif k == 6 then true else (bif errOf e == 6 then false else (bif errOf e != 0 then false else (bif k == 1 then (bif k == 1 then false else (bif k == 3 then false else (bif k == 4 then false else (bif k == 5 then false else true)))) else (bif k == 2 then false else (bif k == 3 then false else (bif k == 4 then false else (bif k == 5 then false else true)))))))) else (bif errOf e == 6 then (bif k == 6 then false else (bif errOf e == 6 then true else (bif errOf e != 0 then false else (bif k == 1 then (bif k == 1 then false else (bif k == 3 then false else (bif k == 4 then false else (bif k == 5 then false else false)))) else (bif k == 2 then false else (bif k == 3 then false else (bif k == 4 then false else (bif k == 5 then false else false)))))))) else (bif errOf e != 0 then (bif k == 6 then false else (bif errOf e == 6 then false else (bif errOf e != 0 then true else (bif k == 1 then (bif k == 1 then false else (bif k == 3 then false else (bif k == 4 then false else (bif k == 5 then false else false)))) else (bif k == 2 then false else (bif k == 3 then false else (bif k == 4 then false else (bif k == 5 then false else false)))))))) else (bif k == 1 then (bif k == 6 then false else (bif errOf e == 6 then false else (bif errOf e != 0 then false else (bif k == 1 then (bif k == 1 then true else (bif k == 3 then false else (bif k == 4 then false else (bif k == 5 then false else false)))) else (bif k == 2 then true else (bif k == 3 then false else (bif k == 4 then false else (bif k == 5 then false else false)))))))) else (bif k == 2 then (bif k == 6 then false else (bif errOf e == 6 then false else (bif errOf e != 0 then false else (bif k == 1 then (bif k == 1 then true else (bif k == 3 then false else (bif k == 4 then false else (bif k == 5 then false else false)))) else (bif k == 2 then true else (bif k == 3 then false else (bif k == 4 then false else (bif k == 5 then false else false)))))))) else (bif k == 3 then (bif k == 6 then false else (bif errOf e == 6 then false else (bif errOf e != 0 then false else (bif k == 1 then (bif k == 1 then false else (bif k == 3 then true else (bif k == 4 then false else (bif k == 5 then false else false)))) else (bif k == 2 then false else (bif k == 3 then true else (bif k == 4 then false else (bif k == 5 then false else false)))))))) else (bif k == 4 then (bif k == 6 then false else (bif errOf e == 6 then false else (bif errOf e != 0 then false else (bif k == 1 then (bif k == 1 then false else (bif k == 3 then false else (bif k == 4 then true else (bif k == 5 then false else false)))) else (bif k == 2 then false else (bif k == 3 then false else (bif k == 4 then true else (bif k == 5 then false else false)))))))) else (bif k == 5 then (bif k == 6 then false else (bif errOf e == 6 then false else (bif errOf e != 0 then false else (bif k == 1 then (bif k == 1 then false else (bif k == 3 then false else (bif k == 4 then false else (bif k == 5 then true else false)))) else (bif k == 2 then false else (bif k == 3 then false else (bif k == 4 then false else (bif k == 5 then true else false)))))))) else (bif k == 6 then true else (bif errOf e == 6 then false else (bif errOf e != 0 then false else (bif k == 1 then (bif k == 1 then false else (bif k == 3 then false else (bif k == 4 then false else (bif k == 5 then false else true)))) else (bif k == 2 then false else (bif k == 3 then false else (bif k == 4 then false else (bif k == 5 then false else true))))))))))))))))) = true := by
  generalize (k == 6) = b6
  generalize (errOf e == 6) = e6
  generalize (errOf e != 0) = e0
  generalize (k == 1) = b1
  generalize (k == 2) = b2
  generalize (k == 3) = b3
  generalize (k == 4) = b4
  generalize (k == 5) = b5
  revert b6 e6 e0 b1 b2 b3 b4 b5
  decide

theorem law_spec : TSpec Tryz.prog 3 [(true, i64), (true, i64)] [.bool] (fun _ => true) (fun _ => true) :=
  TSpec.of_yes ea9 Tryz.func3 (by kernel_rfl) (p := p60) (fun g _ => LoOk.none l60) fun xs _ => (law_eq xs.1 xs.2.1).trans (law_true xs.1 xs.2.1)

theorem Tryz.own : ownKnob Tryz.prog.godebug = none := by kernel_rfl
theorem Tryz.laidOut : laidOutB Tryz.prog = true := by kernel_rfl
abbrev laidL : List (String × DataW Unit) := Rows.frontCountsRow.laid

set_option maxRecDepth 100000 in
theorem frontCounts_lifted (os : Os) (started : os.Started) (H : Type) (enc : TypeId × Value → H) :
    ReturnsInHanded {} Tryz.checked os 3 .any (fun w args => (Rows.frontCountsSpec.pre enc Tryz.prog Tryz.f3 Rows.frontCountsRow.domain false w args ∧ laidMetH Tryz.prog laidL w) ∧ sizedMet enc Tryz.prog Tryz.f3 (OpenSpec.ofChange Rows.frontCountsSpec) false w args)
      (Rows.frontCountsSpec.post enc Tryz.prog Tryz.f3 false true false false) := by
  refine returnsInHanded_of_change_and (C := Tryz.checked) (X := fun w _ => laidMetH Tryz.prog laidL w) (fun _ _ _ hh h => h.of_heap hh) Tryz.own started (by kernel_rfl) Tryz.func3
    (ChangeSpec.witness_shaped (enc := enc) (C := Tryz.checked) (os := os) (X := fun w _ => laidMetH Tryz.prog laidL w) false (World.laidAll Tryz.prog os laidL) #[.int .i64 0, .int .i64 0] 8 (World.laidAll_os _ _ _)
      (World.shaped_of_ZipB (by kernel_rfl) (by kernel_rfl)) (by kernel_rfl) (by kernel_rfl) (by kernel_rfl)
      (by rw [MakeChecks.laidMetH_plain _ _ _ (by kernel_rfl)]; exact laidMet_laidAll _ (by kernel_rfl) (by kernel_rfl))) ?_
  intro W base args ds gs before hval0 hW _ _ hL _
  have hval : ∀ (j : Nat) t v, Tryz.f3.params[j]? = some t → args[j]? = some v → Value.okWide Tryz.prog W .any base t v := hval0
  have hW' := hW
  obtain ⟨p, q, hA0, hV, rfl, _, _⟩ := hW
  have hA : DataW.TrodAll enc Tryz.prog W 0 (fun _ => true) true Tryz.f3.params.toList args.toList ds p := hA0
  rw [Tryz.params3] at hA hval
  obtain ⟨v0, v1, d0, d1, p0, p1, rfl, rfl, rfl, h0, h1⟩ := trodAll_two hA
  obtain ⟨rfl, rfl⟩ := trodVars_none hV
  obtain ⟨a, rfl, rfl, rfl, wa⟩ := open_int Tryz.underlying3 (hval 0 3 v0 rfl rfl) h0
  obtain ⟨b, rfl, rfl, rfl, wb⟩ := open_int Tryz.underlying3 (hval 1 3 v1 rfl rfl) h1
  simp only [List.append_nil] at hW'
  refine (law_call law_spec (xs := (a, b, ())) (vs := [.int .i64 a, .int .i64 b]) ⟨_, _, rfl, vk_int wa, _, _, rfl, vk_int wb, rfl⟩).mono ?_
  rintro e W' ⟨rfl, hB⟩
  exact ⟨_, rfl, law_post Tryz.laidOut (by kernel_rfl) Tryz.underlying4 (by kernel_rfl) rfl hW' hA rfl hB⟩

theorem frontCounts_row : Rows.FrontCountsSaid :=
  OpenClaim.holds_of_wide 3 Tryz.f3 rfl rfl rfl rfl rfl rfl rfl ⟨rfl, rfl, rfl, rfl, rfl⟩ rfl rfl rfl rfl rfl (by kernel_rfl) Tryz.func3 (by kernel_rfl)
    (of_decide_eq_true (by kernel_rfl)) (by unfold Func.isWrapper; first | (rw [if_pos (by decide +kernel)]; kernel_rfl) | (rw [if_neg (by decide +kernel)]; exact ⟨rfl, rfl⟩))
    (fun os started H enc _ => frontCounts_lifted os started H enc)

theorem frontCounts_holds : Rows.FrontCountsCardSaid :=
  Claim7.holds_tied_plain_at .later [] [.data, .widerDeep, .data, .pinned] true (true, "823d98ea76da33ca5cd18f03908cd691d196b129b716308535d54310730fcd01") true
    frontCounts_row (fun _ h => by cases h) (by kernel_rfl) (fun _ h => by cases h) frontCounts_row_tie rfl ⟨rfl, rfl⟩ (by kernel_rfl) rfl
    (fun f fn hf hfn => by
      obtain rfl : f = 3 := Option.some.inj ((show Tryz.prog.funcNamed "lamplighter/lamplighterlaw32.FrontCounts" = some 3 by kernel_rfl).symm.trans hf) |>.symm
      obtain rfl : fn = Tryz.f3 := (Option.some.inj (Tryz.func3.symm.trans hfn)).symm
      exact ⟨by kernel_rfl, fun j t ht => by
        rw [Tryz.params3] at ht
        have hm : t ∈ [3, 3] := by simpa using Array.mem_of_getElem? ht
        have hall : ([3, 3].all fun u => !Tryz.prog.wantsStandIn u) = true := by kernel_rfl
        exact (show Tryz.prog.wantsStandIn t = false by simpa using List.all_eq_true.1 hall t hm)⟩)
    (by kernel_rfl)
end Go.Proofs.YtcdnmmhpkhioiaaGreatDoor
