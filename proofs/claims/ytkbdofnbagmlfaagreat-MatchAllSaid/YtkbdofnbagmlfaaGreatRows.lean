/-
  No cell of these rows narrows 'for every input' (looked for: loops, veiled, ifaces, maps, wideKeys, modest, calm, conditions, laid).
  DERIVED. THE GIVEN ROWS OF THIS SEAT. 3 by the template 'for every input the law returns true; each argument reads behind the call as it read before'; 0 by the template 'total and deterministic' (their statements: YtkbdofnbagmlfaaGreatTotals.lean).
  GIVEN WITH THE SEED: the statements are not yours to turn. If you find one false, say at which input.
  Laid BY PROGRAM, IN A SANDBOX (cutbox-rows.mjs): the forced cells as the released guide's own fill.sh prints them over the translation a0c085e2b345009c… (all of the seat's roots in one cut). By AI agents, Wed Nov 11 2026. No macro, syntax, notation, axiom, sorry.
-/
import Derived.Test.YtkbdofnbagmlfaaGreatChecked
import GoSem.Claim
import GoSem.ClaimJoined
import GoSem.ClaimMapViews
import Derived.JoinedTies
import Derived.KernelRfl
namespace Go.Proofs.YtkbdofnbagmlfaaGreat
/- THE CELL 'sum', in the pinned program and in every row, IS THE sha256 OF THE DUMP (.gsa) THAT YtkbdofnbagmlfaaGreatProg.lean LOADS. Nothing in Lean hashes anything: it is a label: what it is worth is what the hold of that sum in a sandbox is worth. -/
noncomputable def Tryz.pinned : Pinned := { name := "ytkbdofnbagmlfaagreat", sum := "a0c085e2b345009c10b4738e5bfca1a80ab23d64f09c55f334eb05114606dbe6", checked := Tryz.checked }
namespace Rows
def none {H : Type} : Left H := { results := [], args := [] }

/-- 'lamplighterlaw25.MatchAll': WHATEVER THE INPUT: true; the input reads as it did. -/
def matchAllSpec : ChangeSpec := { name := "matchAll", fn := fun _ => fun
  | [d1, d2] => { results := [.lit (.bool true)], args := [d1, d2] }
  | _ => none }
def matchAllRow : OpenClaim := { program := "ytkbdofnbagmlfaagreat", sum := "a0c085e2b345009c10b4738e5bfca1a80ab23d64f09c55f334eb05114606dbe6", func := "lamplighter/lamplighterlaw25.MatchAll", spec := "matchAll", inPlace := ["internal/bytealg.abigen_runtime_cmpstring"], unfollowed := true, recurses := true, apart := false }
def MatchAllSaid : Prop := matchAllRow.holds Tryz.pinned (OpenSpec.ofChange matchAllSpec)

/-- ITS FALSE NEIGHBOUR: 'it returns false'. Refute it at one input. -/
def matchAllWrong : ChangeSpec := { name := "matchAll", fn := fun _ => fun
  | [d1, d2] => { results := [.lit (.bool false)], args := [d1, d2] }
  | _ => none }
def MatchAllWrongFalsely : Prop := matchAllRow.holds Tryz.pinned (OpenSpec.ofChange matchAllWrong)

/-- 'lamplighterlaw25.MatchCap': WHATEVER THE INPUT: true; the input reads as it did. -/
def matchCapSpec : ChangeSpec := { name := "matchCap", fn := fun _ => fun
  | [d1, d2, d3] => { results := [.lit (.bool true)], args := [d1, d2, d3] }
  | _ => none }
def matchCapRow : OpenClaim := { program := "ytkbdofnbagmlfaagreat", sum := "a0c085e2b345009c10b4738e5bfca1a80ab23d64f09c55f334eb05114606dbe6", func := "lamplighter/lamplighterlaw25.MatchCap", spec := "matchCap", inPlace := ["internal/bytealg.abigen_runtime_cmpstring"], unfollowed := true, recurses := true, apart := false }
def MatchCapSaid : Prop := matchCapRow.holds Tryz.pinned (OpenSpec.ofChange matchCapSpec)

/-- ITS FALSE NEIGHBOUR: 'it returns false'. Refute it at one input. -/
def matchCapWrong : ChangeSpec := { name := "matchCap", fn := fun _ => fun
  | [d1, d2, d3] => { results := [.lit (.bool false)], args := [d1, d2, d3] }
  | _ => none }
def MatchCapWrongFalsely : Prop := matchCapRow.holds Tryz.pinned (OpenSpec.ofChange matchCapWrong)

/-- 'lamplighterlaw25.MatchSaved': WHATEVER THE INPUT: true; the input reads as it did. -/
def matchSavedSpec : ChangeSpec := { name := "matchSaved", fn := fun _ => fun
  | [d1, d2, d3] => { results := [.lit (.bool true)], args := [d1, d2, d3] }
  | _ => none }
def matchSavedRow : OpenClaim := { program := "ytkbdofnbagmlfaagreat", sum := "a0c085e2b345009c10b4738e5bfca1a80ab23d64f09c55f334eb05114606dbe6", func := "lamplighter/lamplighterlaw25.MatchSaved", spec := "matchSaved", inPlace := ["internal/bytealg.abigen_runtime_cmpstring"], unfollowed := true, recurses := true, apart := false }
def MatchSavedSaid : Prop := matchSavedRow.holds Tryz.pinned (OpenSpec.ofChange matchSavedSpec)

/-- ITS FALSE NEIGHBOUR: 'it returns false'. Refute it at one input. -/
def matchSavedWrong : ChangeSpec := { name := "matchSaved", fn := fun _ => fun
  | [d1, d2, d3] => { results := [.lit (.bool false)], args := [d1, d2, d3] }
  | _ => none }
def MatchSavedWrongFalsely : Prop := matchSavedRow.holds Tryz.pinned (OpenSpec.ofChange matchSavedWrong)

/- THE SECOND FORM. 'bulk': how many values and letters a reading holds, each counted each time it is reached (what is shared counts as often as it is met; a slice's spare places count too). A statement '..UptoSaid' is the law's where the arguments, and the package variables that the reading takes, are together of bulk at most 1048576: NARROWER than '..Said'. Prove '..Said' where nothing that the law and all that it calls make is longer than what came in: it says more and counts as full. Else prove '..UptoSaid'. A law counts once. -/
mutual
def uptoBulk {H : Type} : DataW H → Nat
  | .lit (.string bytes) => bytes.length + 1
  | .lit _ => 1
  | .nil => 1
  | .ptr d => uptoBulk d + 1
  | .slice elems spare => uptoBulkAll elems + uptoBulkAll spare + 1
  | .agg parts => uptoBulkAll parts + 1
  | .iface _ d => uptoBulk d + 1
  | .map entries => uptoBulkEntries entries + 1
  | .held _ => 1
def uptoBulkAll {H : Type} : List (DataW H) → Nat
  | [] => 0
  | d :: r => uptoBulk d + uptoBulkAll r
def uptoBulkEntries {H : Type} : List (Lit × DataW H) → Nat
  | [] => 0
  | x :: r => uptoBulkEntry x + uptoBulkEntries r
def uptoBulkEntry {H : Type} : Lit × DataW H → Nat
  | (.string bytes, d) => bytes.length + uptoBulk d + 1
  | (_, d) => uptoBulk d + 1
 end
def uptoSmall : (H : Type) → List (DataW H) → Bool := fun _ ds => decide (uptoBulkAll ds ≤ 1048576)
def OpenSpec.upto (s : _root_.Go.ChangeSpec) : _root_.Go.OpenSpec := { _root_.Go.OpenSpec.ofChange s with cond := some uptoSmall }

/-- 'lamplighterlaw25.MatchAll', WHERE WHAT IT READS IS OF BULK AT MOST 1048576: true; the input reads as it did. -/
def matchAllUptoRow : OpenClaim := { program := "ytkbdofnbagmlfaagreat", sum := "a0c085e2b345009c10b4738e5bfca1a80ab23d64f09c55f334eb05114606dbe6", func := "lamplighter/lamplighterlaw25.MatchAll", spec := "matchAll", inPlace := ["internal/bytealg.abigen_runtime_cmpstring"], unfollowed := true, recurses := true, apart := false, narrowed := true }
def MatchAllUptoSaid : Prop := matchAllUptoRow.holds Tryz.pinned (OpenSpec.upto matchAllSpec)

/-- 'lamplighterlaw25.MatchCap', WHERE WHAT IT READS IS OF BULK AT MOST 1048576: true; the input reads as it did. -/
def matchCapUptoRow : OpenClaim := { program := "ytkbdofnbagmlfaagreat", sum := "a0c085e2b345009c10b4738e5bfca1a80ab23d64f09c55f334eb05114606dbe6", func := "lamplighter/lamplighterlaw25.MatchCap", spec := "matchCap", inPlace := ["internal/bytealg.abigen_runtime_cmpstring"], unfollowed := true, recurses := true, apart := false, narrowed := true }
def MatchCapUptoSaid : Prop := matchCapUptoRow.holds Tryz.pinned (OpenSpec.upto matchCapSpec)

/-- 'lamplighterlaw25.MatchSaved', WHERE WHAT IT READS IS OF BULK AT MOST 1048576: true; the input reads as it did. -/
def matchSavedUptoRow : OpenClaim := { program := "ytkbdofnbagmlfaagreat", sum := "a0c085e2b345009c10b4738e5bfca1a80ab23d64f09c55f334eb05114606dbe6", func := "lamplighter/lamplighterlaw25.MatchSaved", spec := "matchSaved", inPlace := ["internal/bytealg.abigen_runtime_cmpstring"], unfollowed := true, recurses := true, apart := false, narrowed := true }
def MatchSavedUptoSaid : Prop := matchSavedUptoRow.holds Tryz.pinned (OpenSpec.upto matchSavedSpec)

end Rows
end Go.Proofs.YtkbdofnbagmlfaaGreat
