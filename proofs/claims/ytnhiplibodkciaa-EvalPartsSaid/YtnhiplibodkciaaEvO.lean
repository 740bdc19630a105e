/- evalParts: whatever comes in, the statement returns true. -/
import Derived.Test.YtnhiplibodkciaaGf
import Derived.Test.YtnhiplibodkciaaRows
import Derived.Test.YtnhiplibodkciaaRw
import Derived.Test.YtnhiplibodkciaaEvR
namespace Go.Proofs.Ytnhiplibodkciaa
open Go.ChangeShapes Go.WideShapes Go.ChangeAt Go.RowKit Go.PI

theorem vk_val {J : Nat → Prop} {w : World} {x : Val} {v : Value} (h : VK J w (.st (.pair (.int .i64) (.pair (.int .i64) (.pair .str .bool)))) x v) : In64 x.2.1 := by
  obtain ⟨cs, _, hk⟩ := h.1 rfl
  obtain ⟨c1, c2, _, _, h2⟩ : K J w (.pair (.int .i64) (.pair (.int .i64) (.pair .str .bool))) x cs := hk
  obtain ⟨c3, c4, _, h3, _⟩ : K J w (.pair (.int .i64) (.pair .str .bool)) x.2 c2 := h2
  exact inK_64.1 h3.2

theorem Try.own : ownKnob Try.prog.godebug = none := by kernel_rfl
theorem Try.laidOut : laidOutB Try.prog = true := by kernel_rfl

set_option maxRecDepth 100000 in
theorem evalParts_lifted (os : Os) (started : os.Started) (H : Type) (enc : TypeId × Value → H) :
    ReturnsInHanded {} Try.checked os 8 .any (Rows.evalPartsSpec.pre6 enc Try.prog Try.f8 Rows.evalPartsRow.domain false) (Rows.evalPartsSpec.post enc Try.prog Try.f8 false true false false) := by
  refine returnsInHanded_of_change (C := Try.checked) Try.own started (by kernel_rfl) Try.func8
    (ChangeSpec.witness6 (enc := enc) (C := Try.checked) false ⟨#[], #[.int .i64 0, .agg #[.int .i64 0, .int .i64 0, .string ByteArray.empty, .bool false], .agg #[.int .i64 0, .int .i64 0, .string ByteArray.empty, .bool false]], []⟩ 8 (by kernel_rfl) (by kernel_rfl) (by kernel_rfl) (by kernel_rfl)) ?_
  intro W base args ds gs before hval0 hW hcnd _
  have hval : ∀ (j : Nat) t v, Try.f8.params[j]? = some t → args[j]? = some v → Value.okWide Try.prog W .any base t v := hval0
  have hW' := hW
  obtain ⟨p, q, hA0, hV, rfl, hfz, hnd⟩ := hW
  have hA : DataW.TrodAll enc Try.prog W 0 (fun _ => true) true Try.f8.params.toList args.toList ds p := hA0
  rw [Try.params8] at hA hval
  obtain ⟨v0, v1, v2, d0, d1, d2, p0, p1, p2, rfl, rfl, rfl, h0, h1, h2⟩ := trodAll_three hA
  obtain ⟨rfl, rfl⟩ := trodVars_none hV
  obtain ⟨x0, rfl, e0, e0', w0⟩ := open_int Try.underlying3 (hval 0 3 v0 rfl rfl) h0
  subst e0 e0'
  have hx0 := vk_int (J := fun b => b < W.heap.size) (w := W) w0
  obtain ⟨x1, hx1⟩ := vk_struct (τ := (.pair (.int .i64) (.pair (.int .i64) (.pair .str .bool)))) (by kernel_rfl) (hval 1 64 v1 rfl rfl) h1
  obtain ⟨x2, hx2⟩ := vk_struct (τ := (.pair (.int .i64) (.pair (.int .i64) (.pair .str .bool)))) (by kernel_rfl) (hval 2 64 v2 rfl rfl) h2
  simp only [List.append_nil] at hW' hA
  have ha : PAK (fun _ b => b < W.heap.size) W evalParts_ins (x0, x1, x2, ()) [.int .i64 x0, v1, v2] [] := ⟨_, _, [], [], rfl, rfl, ⟨rfl, hx0⟩, _, _, [], [], rfl, rfl, ⟨rfl, hx1⟩, _, _, [], [], rfl, rfl, ⟨rfl, hx2⟩, rfl, rfl⟩
  refine (OC.rowG evalParts_oc ha (evalParts_at x0 (vk_val hx1) (vk_val hx2))).mono ?_
  rintro e W' ⟨rfl, hB⟩
  exact ⟨_, rfl, law_post Try.laidOut (by kernel_rfl) Try.underlying4 (by kernel_rfl) rfl hW' hA rfl hB⟩

theorem evalParts_holds : Rows.EvalPartsSaid :=
  OpenClaim.holds_of_wide 8 Try.f8 rfl rfl rfl rfl rfl rfl rfl ⟨rfl, rfl, rfl, rfl, rfl⟩ rfl rfl rfl rfl rfl (by kernel_rfl) Try.func8 (by kernel_rfl)
    (of_decide_eq_true (by kernel_rfl)) (by unfold Func.isWrapper; first | (rw [if_pos (by decide +kernel)]; kernel_rfl) | (rw [if_neg (by decide +kernel)]; exact ⟨rfl, rfl⟩))
    (fun os started H enc _ => evalParts_lifted os started H enc)
end Go.Proofs.Ytnhiplibodkciaa

