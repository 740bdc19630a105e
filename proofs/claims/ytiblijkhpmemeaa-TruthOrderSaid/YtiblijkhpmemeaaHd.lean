/- The context of law 23's other statement. List's contract, of a chain of pairs. A context: law 23's, and lists of chains of pairs. Contracts of functions. Printed by auto.py. -/
import Derived.Test.YtiblijkhpmemeaaHc
import Derived.Test.YtiblijkhpmemeaaGe
import Derived.Test.YtiblijkhpmemeaaHa
namespace Go.Proofs.Ytiblijkhpmemeaa
open Go.PI Go
noncomputable def cxF3 : Ctx := cx_fitsT
theorem enF3 : EnvFull Try.prog cxF3 := en_fitsT
noncomputable def cxF4 : Ctx := cxF3
theorem enF4 : EnvFull Try.prog cxF4 := enF3
end Go.Proofs.Ytiblijkhpmemeaa

namespace Go.Proofs.Ytiblijkhpmemeaa
open Go.PI Go
end Go.Proofs.Ytiblijkhpmemeaa

namespace Go.Proofs.Ytiblijkhpmemeaa
open Go.PI Go
end Go.Proofs.Ytiblijkhpmemeaa

namespace Go.Proofs.Ytiblijkhpmemeaa
open Go.PI Go
end Go.Proofs.Ytiblijkhpmemeaa
