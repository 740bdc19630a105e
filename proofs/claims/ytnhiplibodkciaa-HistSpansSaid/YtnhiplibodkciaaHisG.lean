/- Package hist: Spans: contexts, and its loop's head. -/
import Derived.Test.YtnhiplibodkciaaHisF
namespace Go.Proofs.Ytnhiplibodkciaa
open Go.PI

noncomputable def s1 : Ctx := addO c0 70 (typedOrc [(false, .sl spanT), (true, evtT)] [i64] (fun xs => decide (List.length xs.1 ≤ 1000000)) (fun xs => idx xs.2.1.2.1 xs.2.1.2.2.1 xs.1 0))
noncomputable def s2 : Ctx := addO s1 71 (inl s1 p5 Try.f71 (bodyOf Try.f71))
noncomputable def sb2 : Ctx := { s2 with base := 1024 }
theorem es1 : EnvFull Try.prog s1 := env_add e0 at_spec.callOk
theorem es2 : EnvFull Try.prog s2 := env_add es1 (.inl' es1 p5 l5 Try.func71 (by kernel_rfl))
theorem esb2 : EnvFull Try.prog sb2 := env_base es2 1024

def sHoles : List Hole := [.slot 8 true (.sl evtT), .slot 9 false i64, .slot 10 false i64, .ar 2000 false 33 spanT]
def sSkel : Skel := ⟨127, [(2, .c .nils), (3, .c .ff), (4, .c (.mfull 2000))], [(2000, [])]⟩
def szSkel : Skel := ⟨127, [(4, .c (.mfull 2000))], [(2000, [])]⟩
def sBad : St := (⟨127, [(2, .c .nils), (3, .c .ff)], []⟩ : Skel).bare
def sShape : Exit → Shape
  | .normal => ⟨[(2, .keep), (3, .keep), (4, .row 976 false 33 spanT), (8, .keep), (9, .keep), (10, .as false i64)], [], [(976, false)]⟩
  | .ret => ⟨[(2, .keep), (3, .keep)], [], []⟩
  | _ => ⟨[(4, .row 976 false 33 spanT)], [], [(976, false)]⟩
noncomputable def sLoop : Code := loopAt 0 (bodyOf Try.f15)

end Go.Proofs.Ytnhiplibodkciaa
