/- HistSpans: the history that is made. -/
import Derived.Test.YtnhiplibodkciaaGf
import Derived.Test.YtnhiplibodkciaaHisA
namespace Go.Proofs.Ytnhiplibodkciaa
open Go.PI

abbrev evtT : Ty := .st (.pair i64 (.pair i64 (.pair i64 retT)))
abbrev EvtV := Int × Int × Int × RetV
def hHoles : List Hole := [.slot 0 false (.sl i64), .slot 1 false i64, .slot 8 false i64, .ar 1030 false 123 i64, .ar 1031 false 123 i64, .ar 2000 false 31 evtT]
def hSkel : Skel := ⟨114, [(4, .c .nils), (5, .c (.mfull 2000)), (6, .c (.ref 1030 0 0)), (7, .c (.ref 1031 0 0))], [(1030, []), (1031, []), (2000, [])]⟩
def hzSkel : Skel := ⟨114, [(5, .c (.mfull 2000))], [(2000, [])]⟩
def hShape : Exit → Shape
  | .normal => ⟨[(0, .keep), (1, .keep), (4, .keep), (5, .row 976 false 31 evtT), (6, .keep), (7, .keep), (8, .as false i64)], [], [(6, false), (7, false), (976, false)]⟩
  | _ => ⟨[(5, .row 976 false 31 evtT)], [], [(976, false)]⟩
noncomputable def hLoop : Code := loopAt 0 (bodyOf Try.f14)

end Go.Proofs.Ytnhiplibodkciaa
