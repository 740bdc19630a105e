/- The schema of the three types, by the kernel. -/
import Derived.Test.YtnhiplibodkciaaW1
import Derived.KernelRfl
namespace Go.Proofs.Ytnhiplibodkciaa
open Go.PI Go
theorem newS_at : newS (typesR_B () |>.run.get!.1, ()) = some ((some (typesR_B () |>.run.get!.1), 0), ()) := newS_le 100 _ _ (by kernel_rfl)
end Go.Proofs.Ytnhiplibodkciaa
