/- The context in which all functions are reckoned: types, and which may be compared. -/
import Derived.Test.YtnhiplibodkciaaGe
import Derived.Test.YtnhiplibodkciaaTc
namespace Go.Proofs.Ytnhiplibodkciaa
open Go.PI
noncomputable def cx0 : Ctx := withE (mkC tbA []) [28, 29, 30, 31, 32, 33, 64, 74, 92, 116, 153]
theorem en0 : EnvFull Try.prog cx0 := env_E (env_nil (by kernel_rfl) tbAOk) (by kernel_rfl)
end Go.Proofs.Ytnhiplibodkciaa
