/- A context: events made, beside the chains. -/
import Derived.Test.YtnhiplibodkciaaR6w
import Derived.Test.YtnhiplibodkciaaR3c
namespace Go.Proofs.Ytnhiplibodkciaa
open Go.PI Go
noncomputable def cxM1 : Ctx := addO cx_withB 30 (ocOrc eventR_ins eventR_outs eventR)
theorem enM1 : EnvFull Try.prog cxM1 := env_add en_withB eventR_oc.callOk
end Go.Proofs.Ytnhiplibodkciaa
