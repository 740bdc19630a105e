/- truthOrder: whatever comes in, the statement returns true. -/
import Derived.Test.YtiblijkhpmemeaaGd
import Derived.Test.YtiblijkhpmemeaaRows
import Derived.Test.YtiblijkhpmemeaaHa
import Derived.Test.YtiblijkhpmemeaaHe
namespace Go.Proofs.Ytiblijkhpmemeaa
set_option maxRecDepth 100000
open Go.ChangeShapes Go.WideShapes Go.ChangeAt Go.RowKit Go.PI
theorem Try.own : ownKnob Try.prog.godebug = none := by kernel_rfl
theorem Try.laidOut : laidOutB Try.prog = true := by kernel_rfl
theorem truthOrder_lifted (os : Os) (started : os.Started) (H : Type) (enc : TypeId × Value → H) :
  ReturnsInHanded {} Try.checked os 3 .any (Rows.truthOrderSpec.pre6 enc Try.prog Try.f3 Rows.truthOrderRow.domain false) (Rows.truthOrderSpec.post enc Try.prog Try.f3 false true false false) := by
 refine returnsInHanded_of_change (C := Try.checked) Try.own started (by kernel_rfl) Try.func3
  (ChangeSpec.witness6 (enc := enc) (C := Try.checked) false ⟨#[], #[.slice none 0 0, .slice none 0 0, .int .i64 0], []⟩ 8 (by kernel_rfl) (by kernel_rfl) (by kernel_rfl) (by kernel_rfl)) ?_
 intro W base args ds gs before hval0 hW hcnd _
 have hval : ∀ (j : Nat) t v, Try.f3.params[j]? = some t → args[j]? = some v → Value.okWide Try.prog W .any base t v := hval0
 have hW' := hW
 obtain ⟨p, q, hA0, hV, rfl, hfz, hnd⟩ := hW
 have hA : DataW.TrodAll enc Try.prog W 0 (fun _ => true) true Try.f3.params.toList args.toList ds p := hA0
 rw [Try.params3] at hA hval
 obtain ⟨v0, v1, v2, d0, d1, d2, p0, p1, p2, rfl, rfl, rfl, h0, h1, h2⟩ := trodAll_three hA
 obtain ⟨rfl, rfl⟩ := trodVars_none hV
 obtain ⟨x0, hx0⟩ := vk_slice (τ := (.st (.pair (.int .i64) (.int .i64)))) (by kernel_rfl) (hval 0 22 v0 rfl rfl) h0
 obtain ⟨x1, hx1⟩ := vk_slice (τ := (.st (.pair (.int .i64) (.int .i64)))) (by kernel_rfl) (hval 1 22 v1 rfl rfl) h1
 obtain ⟨x2, rfl, e2, e2', w2⟩ := open_int Try.underlying2 (hval 2 2 v2 rfl rfl) h2
 subst e2 e2'
 have hx2 := vk_int (J := fun b => b < W.heap.size) (w := W) w2
 simp only [List.append_nil] at hW' hA
 have ha : PAK (fun _ b => b < W.heap.size) W truthOrder_ins (x0, x1, x2, ()) [v0, v1, .int .i64 x2] [] := ⟨_, _, [], [], rfl, rfl, ⟨rfl, hx0⟩, _, _, [], [], rfl, rfl, ⟨rfl, hx1⟩, _, _, [], [], rfl, rfl, ⟨rfl, hx2⟩, rfl, rfl⟩
 refine (OC.rowG truthOrder_oc ha (truthOrder_at x0 x1 x2)).mono ?_
 rintro e W' ⟨rfl, hB⟩
 exact ⟨_, rfl, law_post Try.laidOut (by kernel_rfl) Try.underlying4 (by kernel_rfl) rfl hW' hA rfl hB⟩
theorem truthOrder_holds : Rows.TruthOrderSaid :=
 OpenClaim.holds_of_wide 3 Try.f3 rfl rfl rfl rfl rfl rfl rfl ⟨rfl, rfl, rfl, rfl, rfl⟩ rfl rfl rfl rfl rfl (by kernel_rfl) Try.func3 (by kernel_rfl)
  (of_decide_eq_true (by kernel_rfl)) (by unfold Func.isWrapper; first | (rw [if_pos (by decide +kernel)]; kernel_rfl) | (rw [if_neg (by decide +kernel)]; exact ⟨rfl, rfl⟩))
  (fun os started H enc _ => truthOrder_lifted os started H enc)
end Go.Proofs.Ytiblijkhpmemeaa
