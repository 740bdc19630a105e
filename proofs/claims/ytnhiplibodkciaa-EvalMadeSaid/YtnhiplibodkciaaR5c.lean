/- The context of law 14's functions. -/
import Derived.Test.YtnhiplibodkciaaR3a
import Derived.Test.YtnhiplibodkciaaR3b
import Derived.Test.YtnhiplibodkciaaR3c
import Derived.Test.YtnhiplibodkciaaW2
namespace Go.Proofs.Ytnhiplibodkciaa
open Go.PI Go
noncomputable def cxL1 : Ctx := addO cx_holdsF 28 (ocOrc newS_ins newS_outs newS)
theorem enL1 : EnvFull Try.prog cxL1 := env_add en_holdsF newS_oc.callOk
noncomputable def cxL2 : Ctx := addO cxL1 29 (ocOrc typesR_ins typesR_outs typesR)
theorem enL2 : EnvFull Try.prog cxL2 := env_add enL1 typesR_oc.callOk
noncomputable def cxL3 : Ctx := addO cxL2 39 (ocOrc partsR_ins partsR_outs partsR)
theorem enL3 : EnvFull Try.prog cxL3 := env_add enL2 partsR_oc.callOk
noncomputable def cxL4 : Ctx := addO cxL3 35 (ocOrc evalR_ins evalR_outs evalRF)
theorem enL4 : EnvFull Try.prog cxL4 := env_add enL3 evalRF_oc.callOk
noncomputable def cxL5 : Ctx := addO cxL4 37 (ocOrc holdsR_ins holdsR_outs holdsR)
theorem enL5 : EnvFull Try.prog cxL5 := env_add enL4 holdsR_oc.callOk
noncomputable def cxL6 : Ctx := addO cxL5 30 (ocOrc eventR_ins eventR_outs eventR)
theorem enL6 : EnvFull Try.prog cxL6 := env_add enL5 eventR_oc.callOk
noncomputable def cxL7 : Ctx := addO cxL6 38 (ocOrc valueL_ins valueL_outs valueL)
theorem enL7 : EnvFull Try.prog cxL7 := env_add enL6 valueL_oc.callOk
noncomputable def cxL8 : Ctx := addO cxL7 40 (ocOrc fieldL_ins fieldL_outs fieldL)
theorem enL8 : EnvFull Try.prog cxL8 := env_add enL7 fieldL_oc.callOk
noncomputable def cxL9 : Ctx := addO cxL8 31 (ocOrc truthR_ins truthR_outs truthRF)
theorem enL9 : EnvFull Try.prog cxL9 := env_add enL8 truthRF_oc.callOk
noncomputable def cxL : Ctx := addO cxL9 32 (ocOrc numberR_ins numberR_outs numberRF)
theorem enL : EnvFull Try.prog cxL := env_add enL9 numberRF_oc.callOk
end Go.Proofs.Ytnhiplibodkciaa
