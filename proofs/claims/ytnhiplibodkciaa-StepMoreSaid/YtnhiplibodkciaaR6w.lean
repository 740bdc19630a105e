/- Chains of pairs and of bound events: one more. -/
import Derived.Test.YtnhiplibodkciaaGe
import Derived.Test.YtnhiplibodkciaaAbA
import Derived.Test.YtnhiplibodkciaaR6
namespace Go.Proofs.Ytnhiplibodkciaa
open Go.PI Go

abbrev pairT : Ty := .st (.pair (.int .i64) (.int .i64))
abbrev bndT : Ty := .st (.pair .str zA9)

theorem lenP_at (l : List (Int × Int)) : lenP (l, ()) = some ((l.length : Int), ()) := by
  cases l <;> rfl
theorem lenB_at (l : List bndT.T) : lenB (l, ()) = some ((l.length : Int), ()) := by
  cases l <;> rfl

noncomputable def withP : List (Int × Int) × ((Int × Int) × Unit) → Option (List (Int × Int) × Unit) := fun x => bif decide (x.1.length < 9223372036854775807) then some (x.2.1 :: x.1, ()) else none
theorem withP_oc : OC Try.prog 88 linkP_ins [.ty false (.chain pairT)] withP := OC.chain linkP_oc (by
  rintro ⟨l, x, ⟨⟩⟩ y hy
  unfold withP at hy
  by_cases h : l.length < 9223372036854775807
  · simp only [h, decide_true, cond_true, Option.some.injEq] at hy
    subst hy
    refine ⟨x, l, ?_, rfl, h⟩
    show linkP (l, x, ()) = _
    unfold linkP linkP_B
    have hw : IntKind.wrap .i64 ((l.length : Int) + 1) = ((l.length + 1 : Nat) : Int) := by rw [wrap_small (by omega) (by omega)]; omega
    simp only [Br.run, lenP_at, hw]
  · simp only [h, decide_false, cond_false] at hy
    cases hy)
noncomputable def withB : List bndT.T × (bndT.T × Unit) → Option (List bndT.T × Unit) := fun x => bif decide (x.1.length < 9223372036854775807) then some (x.2.1 :: x.1, ()) else none
theorem withB_oc : OC Try.prog 90 linkB_ins [.ty false (.chain bndT)] withB := OC.chain linkB_oc (by
  rintro ⟨l, x, ⟨⟩⟩ y hy
  unfold withB at hy
  by_cases h : l.length < 9223372036854775807
  · simp only [h, decide_true, cond_true, Option.some.injEq] at hy
    subst hy
    refine ⟨x, l, ?_, rfl, h⟩
    show linkB (l, x, ()) = _
    unfold linkB linkB_B
    have hw : IntKind.wrap .i64 ((l.length : Int) + 1) = ((l.length + 1 : Nat) : Int) := by rw [wrap_small (by omega) (by omega)]; omega
    simp only [Br.run, lenB_at, hw]
  · simp only [h, decide_false, cond_false] at hy
    cases hy)
noncomputable def cx_withP : Ctx := addO cx_linkB 88 (ocOrc linkP_ins [.ty false (.chain pairT)] withP)
theorem en_withP : EnvFull Try.prog cx_withP := env_add en_linkB withP_oc.callOk
noncomputable def cx_withB : Ctx := addO cx_withP 90 (ocOrc linkB_ins [.ty false (.chain bndT)] withB)
theorem en_withB : EnvFull Try.prog cx_withB := env_add en_withP withB_oc.callOk
end Go.Proofs.Ytnhiplibodkciaa
