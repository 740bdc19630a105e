/- The context of law 23's first statement. -/
import Derived.Test.YtnhiplibodkciaaR8
import Derived.Test.YtnhiplibodkciaaR7a
import Derived.Test.YtnhiplibodkciaaR4
namespace Go.Proofs.Ytnhiplibodkciaa
open Go.PI Go
noncomputable def cxP1 : Ctx := addO cx_blocksG 28 (ocOrc newS_ins newS_outs newS)
theorem enP1 : EnvFull Try.prog cxP1 := env_add en_blocksG newS_oc.callOk
noncomputable def cxP2 : Ctx := addO cxP1 29 (ocOrc typesR_ins typesR_outs typesR)
theorem enP2 : EnvFull Try.prog cxP2 := env_add enP1 typesR_oc.callOk
noncomputable def cxP3 : Ctx := addO cxP2 44 (ocOrc queryQ_ins queryQ_outs queryQ)
theorem enP3 : EnvFull Try.prog cxP3 := env_add enP2 queryQ_oc.callOk
end Go.Proofs.Ytnhiplibodkciaa
