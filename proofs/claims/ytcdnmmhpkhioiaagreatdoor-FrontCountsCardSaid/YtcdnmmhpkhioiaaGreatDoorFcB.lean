/- FrontCounts' own example comes out; the context in which the law is reckoned. -/
import Derived.Test.YtcdnmmhpkhioiaaGreatDoorFcA
namespace Go.Proofs.YtcdnmmhpkhioiaaGreatDoor
open Go.PI Go
set_option maxRecDepth 100000 in
theorem awake_eq : yes (inl c9 p60 Tryz.f5 (bodyOf Tryz.f5) 0 [] []) = true := by kernel_rfl
theorem awake_spec : TSpec Tryz.prog 5 [] [.bool] (fun _ => true) (fun _ => true) :=
  TSpec.of_yes e9 Tryz.func5 (by kernel_rfl) (p := p60) (fun g _ => LoOk.none l60) fun _ _ => awake_eq
noncomputable def a0 : Ctx := addO c0 5 (typedOrc [] [.bool] (fun _ => true) (fun _ => true))
theorem ea0 : EnvFull Tryz.prog a0 := env_add e0 awake_spec.callOk
noncomputable def a9 : Ctx := autoC a0 p60 fns 9
theorem ea9 : EnvFull Tryz.prog a9 := env_auto ea0 l60 fnsOk 9
end Go.Proofs.YtcdnmmhpkhioiaaGreatDoor
