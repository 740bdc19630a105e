/- HistSpans: contexts, and its loops' heads. -/
import Derived.Test.YtnhiplibodkciaaHisI
namespace Go.Proofs.Ytnhiplibodkciaa
open Go.PI

noncomputable def t1 : Ctx := addO c0 16 (typedOrc [] [.bool] (fun _ => true) (fun _ => true))
noncomputable def t2 : Ctx := addO t1 14 (typedOrc [(true, .sl i64), (true, i64)] [.sl evtT] (fun _ => true) (fun xs => made xs.1 xs.2.1))
noncomputable def t3 : Ctx := addO t2 15 (typedOrc [(false, .sl evtT)] [.sl spanT, .bool] (fun xs => decide (List.length xs.1 ≤ 1000)) (fun xs => ((spGo xs.1 0 []).getD [], (spGo xs.1 0 []).isSome)))
theorem et1 : EnvFull Try.prog t1 := env_add e0 awake_spec.callOk
theorem et2 : EnvFull Try.prog t2 := env_add et1 made_spec.callOk
theorem et3' : EnvFull Try.prog t3 := env_add et2 spans_spec.callOk
noncomputable def t3e : Ctx := withE t3 [29, 33]
theorem et3 : EnvFull Try.prog t3e := env_E et3' (by kernel_rfl)
noncomputable def tb3 : Ctx := { t3e with base := 1024 }
theorem etb3 : EnvFull Try.prog tb3 := env_base et3 1024

def mHoles : List Hole := [.slot 5 false (.sl evtT), .slot 7 false .bool, .slot 8 false i64, .ar 2000 false 33 spanT]
def mSkel : Skel := ⟨233, [(4, .c .ff), (6, .c (.mfull 2000))], [(2000, [])]⟩
def zHoles : List Hole := [.slot 5 false (.sl evtT), .slot 7 false .bool, .ar 2000 false 33 spanT]
def mShape : Exit → Shape
  | .normal => ⟨[(4, .keep), (5, .keep), (6, .row 976 false 33 spanT), (7, .as false .bool), (8, .as false i64)], [], [(976, false)]⟩
  | _ => ⟨[(4, .keep), (5, .keep), (6, .row 976 false 33 spanT), (7, .as false .bool)], [], [(976, false)]⟩
noncomputable def mLoop : Code := loopAt 0 (bodyOf Try.f3)

def nHoles : List Hole := [.slot 10 false i64, .slot 11 false i64, .slot 12 false i64, .tv 1033 false evtT, .slot 5 false (.sl evtT), .slot 7 false .bool, .slot 8 false i64, .ar 2000 false 33 spanT]
def oHoles : List Hole := [.slot 10 false i64, .slot 11 false i64, .tv 1033 false evtT, .slot 5 false (.sl evtT), .slot 7 false .bool, .slot 8 false i64, .ar 2000 false 33 spanT]
def nSkel : Skel := ⟨233, [(4, .c .ff), (6, .c (.mfull 2000)), (9, .c (.ref 1033 0 0))], [(1033, []), (2000, [])]⟩
def nSlots : List (Nat × Kd) := [(4, .keep), (5, .keep), (6, .row 976 false 33 spanT), (7, .as false .bool), (8, .as false i64), (9, .keep), (10, .as false i64), (11, .as false i64)]
def nShape : Exit → Shape
  | .normal => ⟨nSlots ++ [(12, .as false i64)], [], [(9, false), (976, false)]⟩
  | _ => ⟨nSlots, [], [(9, false), (976, false)]⟩
noncomputable def nLoop : Code := loopAt 1 (bodyOf Try.f3)

-- the loop that compares
def cHoles : List Hole := [.slot 13 false (.sl spanT), .slot 15 false i64, .ar 2000 false 33 spanT]
def cSkel : Skel := ⟨233, [(4, .c .ff), (6, .c (.mfull 2000))], [(2000, [])]⟩
def cShape : Exit → Shape
  | .normal => ⟨[(4, .keep), (6, .row 976 false 33 spanT), (13, .keep), (15, .as false i64)], [], [(976, false)]⟩
  | .ret => ⟨[(4, .keep)], [], []⟩
  | _ => ⟨[], [], []⟩
noncomputable def cLoop : Code := loopAt 2 (bodyOf Try.f3)

end Go.Proofs.Ytnhiplibodkciaa
