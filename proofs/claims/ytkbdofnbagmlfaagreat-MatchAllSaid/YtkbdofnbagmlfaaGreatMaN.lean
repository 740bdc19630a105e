/- matchAll: whatever comes in, the statement returns true. -/
import Derived.Test.YtkbdofnbagmlfaaGreatGd
import Derived.Test.YtkbdofnbagmlfaaGreatRows
import Derived.Test.YtkbdofnbagmlfaaGreatHa
import Derived.Test.YtkbdofnbagmlfaaGreatHs
namespace Go.Proofs.YtkbdofnbagmlfaaGreat
set_option maxRecDepth 100000
open Go.ChangeShapes Go.WideShapes Go.ChangeAt Go.RowKit Go.PI
theorem Tryz.own : ownKnob Tryz.prog.godebug = none := by kernel_rfl
theorem Tryz.laidOut : laidOutB Tryz.prog = true := by kernel_rfl
abbrev Zom : List (Bool × Pat) := [(false, .ty true (.sl (.int .i64))), (false, .ty true (.sl (.st (.pair .str (.pair .str (.pair (.int .i64) (.pair (.int .i64) (.sl (.st (.pair (.int .i64) (.pair (.int .i64) (.pair .str .bool))))))))))))]
theorem Zkv (os : Os) (started : os.Started) (H : Type) (enc : TypeId × Value -> H) :
  ReturnsInHanded {} Tryz.checked os 3 .any (Rows.matchAllSpec.pre6 enc Tryz.prog Tryz.f3 Rows.matchAllRow.domain false) (Rows.matchAllSpec.post enc Tryz.prog Tryz.f3 false true false false) := by
 refine returnsInHanded_of_change (C := Tryz.checked) Tryz.own started (by kernel_rfl) Tryz.func3
  (ChangeSpec.witness6 (enc := enc) (C := Tryz.checked) false ⟨#[], #[.slice none 0 0, .slice none 0 0], []⟩ 8 (by kernel_rfl) (by kernel_rfl) (by kernel_rfl) (by kernel_rfl)) ?_
 intro W base args ds gs before hval0 hW hcnd _
 have hval : ∀ (j : Nat) t v, Tryz.f3.params[j]? = some t -> args[j]? = some v -> Value.okWide Tryz.prog W .any base t v := hval0
 have hW' := hW
 obtain ⟨p, q, hA0, hV, rfl, hfz, hnd⟩ := hW
 have hA : DataW.TrodAll enc Tryz.prog W 0 (fun _ => true) true Tryz.f3.params.toList args.toList ds p := hA0
 rw [Tryz.params3] at hA hval
 obtain ⟨v0, v1, d0, d1, p0, p1, rfl, rfl, rfl, h0, h1⟩ := trodAll_two hA
 obtain ⟨rfl, rfl⟩ := trodVars_none hV
 obtain ⟨x0, hx0⟩ := Zok (τ := (.int .i64)) (by kernel_rfl) (hval 0 22 v0 rfl rfl) h0
 obtain ⟨x1, hx1⟩ := Zok (τ := (.st (.pair .str (.pair .str (.pair (.int .i64) (.pair (.int .i64) (.sl (.st (.pair (.int .i64) (.pair (.int .i64) (.pair .str .bool))))))))))) (by kernel_rfl) (hval 1 23 v1 rfl rfl) h1
 simp only [List.append_nil] at hW' hA
 have ha : PAK (fun _ b => b < W.heap.size) W Zom (x0, x1, ()) [v0, v1] [] := ⟨_, _, [], [], rfl, rfl, ⟨rfl, hx0⟩, _, _, [], [], rfl, rfl, ⟨rfl, hx1⟩, rfl, rfl⟩
 refine (OC.rowG Zri ha (Zq8 x0 x1)).mono ?_
 rintro e W' ⟨rfl, hB⟩
 exact ⟨_, rfl, law_post Tryz.laidOut (by kernel_rfl) Tryz.underlying4 (by kernel_rfl) rfl hW' hA rfl hB⟩
theorem matchAll_holds : Rows.MatchAllSaid :=
 OpenClaim.holds_of_wide 3 Tryz.f3 rfl rfl rfl rfl rfl rfl rfl ⟨rfl, rfl, rfl, rfl, rfl⟩ rfl rfl rfl rfl rfl (by kernel_rfl) Tryz.func3 (by kernel_rfl)
  (of_decide_eq_true (by kernel_rfl)) (by unfold Func.isWrapper; first | (rw [if_pos (by decide +kernel)]; kernel_rfl) | (rw [if_neg (by decide +kernel)]; exact ⟨rfl, rfl⟩))
  (fun os started H enc _ => Zkv os started H enc)
end Go.Proofs.YtkbdofnbagmlfaaGreat
