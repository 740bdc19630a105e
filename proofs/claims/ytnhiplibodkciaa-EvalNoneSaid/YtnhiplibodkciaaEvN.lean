/- evalNone: whatever comes in, the statement returns true. -/
import Derived.Test.YtnhiplibodkciaaGf
import Derived.Test.YtnhiplibodkciaaRows
import Derived.Test.YtnhiplibodkciaaEvH
namespace Go.Proofs.Ytnhiplibodkciaa
open Go.ChangeShapes Go.WideShapes Go.ChangeAt Go.RowKit Go.PI

theorem Try.own : ownKnob Try.prog.godebug = none := by kernel_rfl
theorem Try.laidOut : laidOutB Try.prog = true := by kernel_rfl

set_option maxRecDepth 100000 in
theorem evalNone_lifted (os : Os) (started : os.Started) (H : Type) (enc : TypeId × Value → H) :
    ReturnsInHanded {} Try.checked os 9 .any (Rows.evalNoneSpec.pre6 enc Try.prog Try.f9 Rows.evalNoneRow.domain false) (Rows.evalNoneSpec.post enc Try.prog Try.f9 false true false false) := by
  refine returnsInHanded_of_change (C := Try.checked) Try.own started (by kernel_rfl) Try.func9
    (ChangeSpec.witness6 (enc := enc) (C := Try.checked) false ⟨#[], #[.agg #[.string ByteArray.empty, .string ByteArray.empty, .int .i64 0, .int .i64 0, .slice none 0 0], .slice none 0 0], []⟩ 8 (by kernel_rfl) (by kernel_rfl) (by kernel_rfl) (by kernel_rfl)) ?_
  intro W base args ds gs before hval0 hW hcnd _
  have hval : ∀ (j : Nat) t v, Try.f9.params[j]? = some t → args[j]? = some v → Value.okWide Try.prog W .any base t v := hval0
  have hW' := hW
  obtain ⟨p, q, hA0, hV, rfl, hfz, hnd⟩ := hW
  have hA : DataW.TrodAll enc Try.prog W 0 (fun _ => true) true Try.f9.params.toList args.toList ds p := hA0
  rw [Try.params9] at hA hval
  obtain ⟨v0, v1, d0, d1, p0, p1, rfl, rfl, rfl, h0, h1⟩ := trodAll_two hA
  obtain ⟨rfl, rfl⟩ := trodVars_none hV
  obtain ⟨x0, hx0⟩ := vk_struct (τ := (.pair .str (.pair .str (.pair (.int .i64) (.pair (.int .i64) (.sl (.st (.pair (.int .i64) (.pair (.int .i64) (.pair .str .bool)))))))))) (by kernel_rfl) (hval 0 50 v0 rfl rfl) h0
  obtain ⟨x1, hx1⟩ := vk_slice (τ := (.st (.pair (.int .i64) (.pair (.st (.pair (.int .i64) (.pair (.int .i64) (.pair .str .bool)))) (.pair .str .str))))) (by kernel_rfl) (hval 1 60 v1 rfl rfl) h1
  simp only [List.append_nil] at hW' hA
  have ha : ArgsK (fun _ b => b < W.heap.size) W (keepIns [.st (.pair .str (.pair .str (.pair (.int .i64) (.pair (.int .i64) (.sl (.st (.pair (.int .i64) (.pair (.int .i64) (.pair .str .bool))))))))), .sl (.st (.pair (.int .i64) (.pair (.st (.pair (.int .i64) (.pair (.int .i64) (.pair .str .bool)))) (.pair .str .str))))]) (x0, x1, ()) [v0, v1] := ⟨_, _, rfl, hx0, _, _, rfl, hx1, rfl⟩
  refine (OC.row (l := [.st (.pair .str (.pair .str (.pair (.int .i64) (.pair (.int .i64) (.sl (.st (.pair (.int .i64) (.pair (.int .i64) (.pair .str .bool))))))))), .sl (.st (.pair (.int .i64) (.pair (.st (.pair (.int .i64) (.pair (.int .i64) (.pair .str .bool)))) (.pair .str .str))))]) evalNone_oc (xs := (x0, x1, ())) (vs := [v0, v1]) (fun xs => evalNone_at xs.1 xs.2.1) ha).mono ?_
  rintro e W' ⟨rfl, hB⟩
  exact ⟨_, rfl, law_post Try.laidOut (by kernel_rfl) Try.underlying4 (by kernel_rfl) rfl hW' hA rfl hB⟩

theorem evalNone_holds : Rows.EvalNoneSaid :=
  OpenClaim.holds_of_wide 9 Try.f9 rfl rfl rfl rfl rfl rfl rfl ⟨rfl, rfl, rfl, rfl, rfl⟩ rfl rfl rfl rfl rfl (by kernel_rfl) Try.func9 (by kernel_rfl)
    (of_decide_eq_true (by kernel_rfl)) (by unfold Func.isWrapper; first | (rw [if_pos (by decide +kernel)]; kernel_rfl) | (rw [if_neg (by decide +kernel)]; exact ⟨rfl, rfl⟩))
    (fun os started H enc _ => evalNone_lifted os started H enc)
end Go.Proofs.Ytnhiplibodkciaa

