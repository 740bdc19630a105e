/- A context: chains' lists, events, runs. -/
import Derived.Test.YtnhiplibodkciaaR7b
import Derived.Test.YtnhiplibodkciaaR7c
import Derived.Test.YtnhiplibodkciaaChD
namespace Go.Proofs.Ytnhiplibodkciaa
open Go.PI Go
noncomputable def cxN1 : Ctx := addO cx_betwQ 135 (ocOrc listB_ins listB_outs listB)
theorem enN1 : EnvFull Try.prog cxN1 := env_add en_betwQ listB_oc.callOk
noncomputable def cxN2 : Ctx := addO cxN1 45 (ocOrc eventsR_ins eventsR_outs eventsR)
theorem enN2 : EnvFull Try.prog cxN2 := env_add enN1 eventsR_oc.callOk
end Go.Proofs.Ytnhiplibodkciaa
