/- The functions of package ticket, gone through in place. -/
import Derived.Test.YtnhiplibodkciaaTb
namespace Go.Proofs.Ytnhiplibodkciaa
open Go.PI

noncomputable def p3 : Par := { sh := fun _ => none, k := 3 }
theorem l3 : ∀ i, p3.lo i = none := fun _ => rfl
noncomputable def c0 : Ctx := mkC tb []
noncomputable def g17 : List (Nat × Orc) := [(17, inl c0 p3 Try.f17 (bodyOf Try.f17))]
noncomputable def g20 : List (Nat × Orc) := (20, inl c0 p3 Try.f20 (bodyOf Try.f20)) :: g17
noncomputable def g21 : List (Nat × Orc) := (21, inl c0 p3 Try.f21 (bodyOf Try.f21)) :: g20
noncomputable def g22 : List (Nat × Orc) := (22, inl c0 p3 Try.f22 (bodyOf Try.f22)) :: g21
noncomputable def g25 : List (Nat × Orc) := (25, inl c0 p3 Try.f25 (bodyOf Try.f25)) :: g22
noncomputable def c1 : Ctx := mkC tb g25
noncomputable def g23 : List (Nat × Orc) := (23, inl c1 p3 Try.f23 (bodyOf Try.f23)) :: g25
noncomputable def c2 : Ctx := mkC tb g23
noncomputable def g18 : List (Nat × Orc) := (18, inl c2 p3 Try.f18 (bodyOf Try.f18)) :: g23
noncomputable def g19 : List (Nat × Orc) := (19, inl c2 p3 Try.f19 (bodyOf Try.f19)) :: g18
noncomputable def c3 : Ctx := mkC tb g19
noncomputable def g24 : List (Nat × Orc) := (24, inl c3 p3 Try.f24 (bodyOf Try.f24)) :: g19
noncomputable def c4 : Ctx := mkC tb g24

theorem e0 : EnvFull Try.prog c0 := env_nil (by kernel_rfl) tbOk
theorem e1 : EnvFull Try.prog c1 :=
  env_cons (env_cons (env_cons (env_cons (env_cons e0 (.inl' e0 p3 l3 Try.func17 (by kernel_rfl))) (.inl' e0 p3 l3 Try.func20 (by kernel_rfl))) (.inl' e0 p3 l3 Try.func21 (by kernel_rfl))) (.inl' e0 p3 l3 Try.func22 (by kernel_rfl))) (.inl' e0 p3 l3 Try.func25 (by kernel_rfl))
theorem e2 : EnvFull Try.prog c2 := env_cons e1 (.inl' e1 p3 l3 Try.func23 (by kernel_rfl))
theorem e3 : EnvFull Try.prog c3 := env_cons (env_cons e2 (.inl' e2 p3 l3 Try.func18 (by kernel_rfl))) (.inl' e2 p3 l3 Try.func19 (by kernel_rfl))
theorem e4 : EnvFull Try.prog c4 := env_cons e3 (.inl' e3 p3 l3 Try.func24 (by kernel_rfl))

set_option maxRecDepth 100000 in
theorem none_eq (who : Int) : yes (inl c4 p3 Try.f5 (bodyOf Try.f5) 0 [.c (.ty false (.int .i64) who)] []) = (bif decide (who < 0) then (bif decide (who < 0) then (bif decide (who < 0) then true else (bif (-1 != who) then true else false)) else (bif (-1 == who) then false else false)) else
  (bif decide (who < 0) then false else (bif (-1 == who) then false else (bif decide (who < 0) then false else (bif (who != who) then false else true))))) := by kernel_rfl

theorem none_yes (who : Int) : yes (inl c4 p3 Try.f5 (bodyOf Try.f5) 0 [.c (.ty false (.int .i64) who)] []) = true := by
  refine (none_eq who).trans ?_
  by_cases h : who < 0
  · have h2 : ¬ (-1 : Int) = who ∨ (-1 : Int) = who := (Classical.em _).symm
    simp [h]
  · have h2 : ¬ (-1 : Int) = who := by omega
    simp [h, h2]

/-- TicketNone comes to true. -/
theorem none_spec : TSpec Try.prog 5 [(true, .int .i64)] [.bool] (fun _ => true) (fun _ => true) := by
  exact TSpec.of_yes e4 Try.func5 (by kernel_rfl) (p := p3) (fun g _ => LoOk.none l3) fun xs _ => none_yes xs.1

end Go.Proofs.Ytnhiplibodkciaa
