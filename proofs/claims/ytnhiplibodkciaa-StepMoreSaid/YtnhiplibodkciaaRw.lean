/- A statement's row from a contract, at the very arguments that came in. -/
import Derived.Test.YtnhiplibodkciaaGe
namespace Go.PI
open Go.RowKit
variable {P : Program}

theorem OC.rowG {f : Nat} {ins : List (Bool × Pat)} {F : PArgs ins → Option (POuts [Pat.ty false .bool] × PBack ins)} (h : OC P f ins [Pat.ty false .bool] F) {W : World} {xs : PArgs ins} {vs : List Value} (hp : PAK (fun _ b => b < W.heap.size) W ins xs vs []) {z : PBack ins} (hF : F xs = some (true, z)) :
    Calls P f vs.toArray W fun e W' => e = .returned (.bool true) ∧ Below W.heap.size W W' := by
  refine (h.ok W (fun _ b => b < W.heap.size) (fun _ h => h) (fun _ h => h) _ vs [] hp List.nodup_nil (fun b hb => by simp at hb) _ hF).mono ?_
  rintro e W' ⟨v, J', B1, B2, rfl, r1, _, _, _, _, _, r7, r8, r9, r10, r11⟩
  obtain ⟨_, hv⟩ : PV (fun _ => J') W' (.ty false .bool) true v B1 := r1
  have hv := hv.2 rfl
  have hv : v = .bool true := by simpa [K] using hv
  subst hv
  exact ⟨rfl, r7, r8, r9, r10, fun b hb => r11 b hb (by simp)⟩

/-- Numbers that came in are within their kind. -/
theorem vk_in {J : Nat → Prop} {w : World} {k : IntKind} {n : Int} {v : Value} (h : VK J w (.int k) n v) : InK k n := by
  have := h.2 rfl
  exact this.2
end Go.PI
