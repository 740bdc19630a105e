/- The context in which FrontCounts is reckoned: copies of lists by contract, all other functions in place. -/
import Derived.Test.YtcdnmmhpkhioiaaGreatDoorTb
namespace Go.Proofs.YtcdnmmhpkhioiaaGreatDoor
open Go.PI Go

def p60 : Par := { sh := fun _ => none, k := 60 }
theorem l60 : ∀ i, p60.lo i = none := fun _ => rfl
noncomputable def b0 : Ctx := withE (mkC tb []) []
theorem eb0 : EnvFull Tryz.prog b0 := env_E (env_nil (by kernel_rfl) tbOk) (by kernel_rfl)
abbrev fieldT : Ty := .st (.pair .str (.int .i64))
abbrev valT : Ty := .st (.pair (.int .i64) (.pair (.int .i64) (.pair .str .bool)))
set_option maxRecDepth 100000 in
theorem cl32 : TSpec Tryz.prog 32 [(true, .sl fieldT)] [.sl fieldT] (fun xs => bound (0 + List.length xs.1) 24) (fun xs => xs.1) :=
  clone_spec (t := 55) (e := 81) (by_ := 24) eb0 Tryz.func32 (by kernel_rfl) (by kernel_rfl) (by kernel_rfl) (by kernel_rfl) (by kernel_rfl) fun l => ⟨.c .bad, [1031, 1029, 1029], by kernel_rfl⟩
set_option maxRecDepth 100000 in
theorem cl35 : TSpec Tryz.prog 35 [(true, .sl valT)] [.sl valT] (fun xs => bound (0 + List.length xs.1) 40) (fun xs => xs.1) :=
  clone_spec (t := 24) (e := 86) (by_ := 24) eb0 Tryz.func35 (by kernel_rfl) (by kernel_rfl) (by kernel_rfl) (by kernel_rfl) (by kernel_rfl) fun l => ⟨.c .bad, [1031, 1029, 1029], by kernel_rfl⟩
noncomputable def c0 : Ctx := addO (addO b0 32 (typedOrc [(true, .sl fieldT)] [.sl fieldT] (fun xs => bound (0 + List.length xs.1) 24) (fun xs => xs.1))) 35 (typedOrc [(true, .sl valT)] [.sl valT] (fun xs => bound (0 + List.length xs.1) 40) (fun xs => xs.1))
theorem e0 : EnvFull Tryz.prog c0 := env_add (env_add eb0 cl32.callOk) cl35.callOk
noncomputable def c9 : Ctx := autoC c0 p60 fns 9
theorem e9 : EnvFull Tryz.prog c9 := env_auto e0 l60 fnsOk 9
end Go.Proofs.YtcdnmmhpkhioiaaGreatDoor
