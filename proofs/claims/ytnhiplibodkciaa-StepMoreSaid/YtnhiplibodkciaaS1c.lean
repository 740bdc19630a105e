/- A context: law 23's, and lists of chains of pairs. -/
import Derived.Test.YtnhiplibodkciaaGe
import Derived.Test.YtnhiplibodkciaaR9c
import Derived.Test.YtnhiplibodkciaaCpD
namespace Go.Proofs.Ytnhiplibodkciaa
open Go.PI Go
noncomputable def cxS1 : Ctx := addO cxP3 148 (ocOrc listP_ins listP_outs listP)
theorem enS1 : EnvFull Try.prog cxS1 := env_add enP3 listP_oc.callOk
end Go.Proofs.Ytnhiplibodkciaa
