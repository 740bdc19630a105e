/-
  No cell of these rows narrows 'for every input' (looked for: loops, veiled, ifaces, maps, wideKeys, modest, calm, conditions, laid).
  DERIVED. THE GIVEN ROWS OF THIS SEAT. 11 by the template 'for every input the law returns true; each argument reads behind the call as it read before'; 0 by the template 'total and deterministic' (their statements: YtnhiplibodkciaaTotals.lean).
  GIVEN WITH THE SEED: the statements are not yours to turn. If you find one false, say at which input.
  Laid BY PROGRAM, IN A SANDBOX (cutbox-rows.mjs): the forced cells as the released guide's own fill.sh prints them over the translation 11cc9afd6278a754… (all of the seat's roots in one cut). By AI agents, Wed Nov 11 2026. No macro, syntax, notation, axiom, sorry.
-/
import Derived.Test.YtnhiplibodkciaaChecked
import GoSem.Claim
import GoSem.ClaimJoined
import GoSem.ClaimMapViews
import Derived.JoinedTies
import Derived.KernelRfl
namespace Go.Proofs.Ytnhiplibodkciaa
/- THE CELL 'sum', in the pinned program and in every row, IS THE sha256 OF THE DUMP (.gsa) THAT YtnhiplibodkciaaProg.lean LOADS. Nothing in Lean hashes anything: it is a label: what it is worth is what the hold of that sum in a sandbox is worth. -/
noncomputable def Try.pinned : Pinned := { name := "ytnhiplibodkciaa", sum := "11cc9afd6278a7549bc4d7efd95380ddd30563bfa82039e11f18072b82486619", checked := Try.checked }
namespace Rows
def none {H : Type} : Left H := { results := [], args := [] }

/-- 'lamplighterlaw47.HistSpans': WHATEVER THE INPUT: true; the input reads as it did. -/
def histSpansSpec : ChangeSpec := { name := "histSpans", fn := fun _ => fun
  | [d1, d2] => { results := [.lit (.bool true)], args := [d1, d2] }
  | _ => none }
def histSpansRow : OpenClaim := { program := "ytnhiplibodkciaa", sum := "11cc9afd6278a7549bc4d7efd95380ddd30563bfa82039e11f18072b82486619", func := "lamplighter/lamplighterlaw47.HistSpans", spec := "histSpans", unfollowed := true, recurses := true, apart := false }
def HistSpansSaid : Prop := histSpansRow.holds Try.pinned (OpenSpec.ofChange histSpansSpec)

/-- ITS FALSE NEIGHBOUR: 'it returns false'. Refute it at one input. -/
def histSpansWrong : ChangeSpec := { name := "histSpans", fn := fun _ => fun
  | [d1, d2] => { results := [.lit (.bool false)], args := [d1, d2] }
  | _ => none }
def HistSpansWrongFalsely : Prop := histSpansRow.holds Try.pinned (OpenSpec.ofChange histSpansWrong)

/-- 'lamplighterlaw35.TicketPlays': WHATEVER THE INPUT: true; the input reads as it did. -/
def ticketPlaysSpec : ChangeSpec := { name := "ticketPlays", fn := fun _ => fun
  | [d] => { results := [.lit (.bool true)], args := [d] }
  | _ => none }
def ticketPlaysRow : OpenClaim := { program := "ytnhiplibodkciaa", sum := "11cc9afd6278a7549bc4d7efd95380ddd30563bfa82039e11f18072b82486619", func := "lamplighter/lamplighterlaw35.TicketPlays", spec := "ticketPlays", apart := false }
def TicketPlaysSaid : Prop := ticketPlaysRow.holds Try.pinned (OpenSpec.ofChange ticketPlaysSpec)

/-- ITS FALSE NEIGHBOUR: 'it returns false'. Refute it at one input. -/
def ticketPlaysWrong : ChangeSpec := { name := "ticketPlays", fn := fun _ => fun
  | [d] => { results := [.lit (.bool false)], args := [d] }
  | _ => none }
def TicketPlaysWrongFalsely : Prop := ticketPlaysRow.holds Try.pinned (OpenSpec.ofChange ticketPlaysWrong)

/-- 'lamplighterlaw35.TicketNone': WHATEVER THE INPUT: true; the input reads as it did. -/
def ticketNoneSpec : ChangeSpec := { name := "ticketNone", fn := fun _ => fun
  | [d] => { results := [.lit (.bool true)], args := [d] }
  | _ => none }
def ticketNoneRow : OpenClaim := { program := "ytnhiplibodkciaa", sum := "11cc9afd6278a7549bc4d7efd95380ddd30563bfa82039e11f18072b82486619", func := "lamplighter/lamplighterlaw35.TicketNone", spec := "ticketNone", apart := false }
def TicketNoneSaid : Prop := ticketNoneRow.holds Try.pinned (OpenSpec.ofChange ticketNoneSpec)

/-- ITS FALSE NEIGHBOUR: 'it returns false'. Refute it at one input. -/
def ticketNoneWrong : ChangeSpec := { name := "ticketNone", fn := fun _ => fun
  | [d] => { results := [.lit (.bool false)], args := [d] }
  | _ => none }
def TicketNoneWrongFalsely : Prop := ticketNoneRow.holds Try.pinned (OpenSpec.ofChange ticketNoneWrong)

/-- 'lamplighterlaw47.HistTickets': WHATEVER THE INPUT: true; the input reads as it did. -/
def histTicketsSpec : ChangeSpec := { name := "histTickets", fn := fun _ => fun
  | [d] => { results := [.lit (.bool true)], args := [d] }
  | _ => none }
def histTicketsRow : OpenClaim := { program := "ytnhiplibodkciaa", sum := "11cc9afd6278a7549bc4d7efd95380ddd30563bfa82039e11f18072b82486619", func := "lamplighter/lamplighterlaw47.HistTickets", spec := "histTickets", unfollowed := true, recurses := true, apart := false }
def HistTicketsSaid : Prop := histTicketsRow.holds Try.pinned (OpenSpec.ofChange histTicketsSpec)

/-- ITS FALSE NEIGHBOUR: 'it returns false'. Refute it at one input. -/
def histTicketsWrong : ChangeSpec := { name := "histTickets", fn := fun _ => fun
  | [d] => { results := [.lit (.bool false)], args := [d] }
  | _ => none }
def HistTicketsWrongFalsely : Prop := histTicketsRow.holds Try.pinned (OpenSpec.ofChange histTicketsWrong)

/-- 'lamplighterlaw14.EvalMade': WHATEVER THE INPUT: true; the input reads as it did. -/
def evalMadeSpec : ChangeSpec := { name := "evalMade", fn := fun _ => fun
  | [d1, d2, d3] => { results := [.lit (.bool true)], args := [d1, d2, d3] }
  | _ => none }
def evalMadeRow : OpenClaim := { program := "ytnhiplibodkciaa", sum := "11cc9afd6278a7549bc4d7efd95380ddd30563bfa82039e11f18072b82486619", func := "lamplighter/lamplighterlaw14.EvalMade", spec := "evalMade", inPlace := ["internal/bytealg.abigen_runtime_cmpstring"], unfollowed := true, recurses := true, apart := false }
def EvalMadeSaid : Prop := evalMadeRow.holds Try.pinned (OpenSpec.ofChange evalMadeSpec)

/-- ITS FALSE NEIGHBOUR: 'it returns false'. Refute it at one input. -/
def evalMadeWrong : ChangeSpec := { name := "evalMade", fn := fun _ => fun
  | [d1, d2, d3] => { results := [.lit (.bool false)], args := [d1, d2, d3] }
  | _ => none }
def EvalMadeWrongFalsely : Prop := evalMadeRow.holds Try.pinned (OpenSpec.ofChange evalMadeWrong)

/-- 'lamplighterlaw14.EvalParts': WHATEVER THE INPUT: true; the input reads as it did. -/
def evalPartsSpec : ChangeSpec := { name := "evalParts", fn := fun _ => fun
  | [d1, d2, d3] => { results := [.lit (.bool true)], args := [d1, d2, d3] }
  | _ => none }
def evalPartsRow : OpenClaim := { program := "ytnhiplibodkciaa", sum := "11cc9afd6278a7549bc4d7efd95380ddd30563bfa82039e11f18072b82486619", func := "lamplighter/lamplighterlaw14.EvalParts", spec := "evalParts", inPlace := ["internal/bytealg.abigen_runtime_cmpstring"], unfollowed := true, recurses := true, apart := false }
def EvalPartsSaid : Prop := evalPartsRow.holds Try.pinned (OpenSpec.ofChange evalPartsSpec)

/-- ITS FALSE NEIGHBOUR: 'it returns false'. Refute it at one input. -/
def evalPartsWrong : ChangeSpec := { name := "evalParts", fn := fun _ => fun
  | [d1, d2, d3] => { results := [.lit (.bool false)], args := [d1, d2, d3] }
  | _ => none }
def EvalPartsWrongFalsely : Prop := evalPartsRow.holds Try.pinned (OpenSpec.ofChange evalPartsWrong)

/-- 'lamplighterlaw14.EvalNone': WHATEVER THE INPUT: true; the input reads as it did. -/
def evalNoneSpec : ChangeSpec := { name := "evalNone", fn := fun _ => fun
  | [d1, d2] => { results := [.lit (.bool true)], args := [d1, d2] }
  | _ => none }
def evalNoneRow : OpenClaim := { program := "ytnhiplibodkciaa", sum := "11cc9afd6278a7549bc4d7efd95380ddd30563bfa82039e11f18072b82486619", func := "lamplighter/lamplighterlaw14.EvalNone", spec := "evalNone", inPlace := ["internal/bytealg.abigen_runtime_cmpstring"], unfollowed := true, recurses := true, apart := false }
def EvalNoneSaid : Prop := evalNoneRow.holds Try.pinned (OpenSpec.ofChange evalNoneSpec)

/-- ITS FALSE NEIGHBOUR: 'it returns false'. Refute it at one input. -/
def evalNoneWrong : ChangeSpec := { name := "evalNone", fn := fun _ => fun
  | [d1, d2] => { results := [.lit (.bool false)], args := [d1, d2] }
  | _ => none }
def EvalNoneWrongFalsely : Prop := evalNoneRow.holds Try.pinned (OpenSpec.ofChange evalNoneWrong)

/-- 'lamplighterlaw47.HistOrder': WHATEVER THE INPUT: true; the input reads as it did. -/
def histOrderSpec : ChangeSpec := { name := "histOrder", fn := fun _ => fun
  | [d1, d2] => { results := [.lit (.bool true)], args := [d1, d2] }
  | _ => none }
def histOrderRow : OpenClaim := { program := "ytnhiplibodkciaa", sum := "11cc9afd6278a7549bc4d7efd95380ddd30563bfa82039e11f18072b82486619", func := "lamplighter/lamplighterlaw47.HistOrder", spec := "histOrder", unfollowed := true, recurses := true, apart := false }
def HistOrderSaid : Prop := histOrderRow.holds Try.pinned (OpenSpec.ofChange histOrderSpec)

/-- ITS FALSE NEIGHBOUR: 'it returns false'. Refute it at one input. -/
def histOrderWrong : ChangeSpec := { name := "histOrder", fn := fun _ => fun
  | [d1, d2] => { results := [.lit (.bool false)], args := [d1, d2] }
  | _ => none }
def HistOrderWrongFalsely : Prop := histOrderRow.holds Try.pinned (OpenSpec.ofChange histOrderWrong)

/-- 'lamplighterlaw23.GuardBlocks': WHATEVER THE INPUT: true; the input reads as it did. -/
def guardBlocksSpec : ChangeSpec := { name := "guardBlocks", fn := fun _ => fun
  | [d1, d2, d3] => { results := [.lit (.bool true)], args := [d1, d2, d3] }
  | _ => none }
def guardBlocksRow : OpenClaim := { program := "ytnhiplibodkciaa", sum := "11cc9afd6278a7549bc4d7efd95380ddd30563bfa82039e11f18072b82486619", func := "lamplighter/lamplighterlaw23.GuardBlocks", spec := "guardBlocks", inPlace := ["internal/bytealg.abigen_runtime_cmpstring"], unfollowed := true, recurses := true, apart := false }
def GuardBlocksSaid : Prop := guardBlocksRow.holds Try.pinned (OpenSpec.ofChange guardBlocksSpec)

/-- ITS FALSE NEIGHBOUR: 'it returns false'. Refute it at one input. -/
def guardBlocksWrong : ChangeSpec := { name := "guardBlocks", fn := fun _ => fun
  | [d1, d2, d3] => { results := [.lit (.bool false)], args := [d1, d2, d3] }
  | _ => none }
def GuardBlocksWrongFalsely : Prop := guardBlocksRow.holds Try.pinned (OpenSpec.ofChange guardBlocksWrong)

/-- 'lamplighterlaw23.GuardFits': WHATEVER THE INPUT: true; the input reads as it did. -/
def guardFitsSpec : ChangeSpec := { name := "guardFits", fn := fun _ => fun
  | [d1, d2, d3] => { results := [.lit (.bool true)], args := [d1, d2, d3] }
  | _ => none }
def guardFitsRow : OpenClaim := { program := "ytnhiplibodkciaa", sum := "11cc9afd6278a7549bc4d7efd95380ddd30563bfa82039e11f18072b82486619", func := "lamplighter/lamplighterlaw23.GuardFits", spec := "guardFits", inPlace := ["internal/bytealg.abigen_runtime_cmpstring"], unfollowed := true, recurses := true, apart := false }
def GuardFitsSaid : Prop := guardFitsRow.holds Try.pinned (OpenSpec.ofChange guardFitsSpec)

/-- ITS FALSE NEIGHBOUR: 'it returns false'. Refute it at one input. -/
def guardFitsWrong : ChangeSpec := { name := "guardFits", fn := fun _ => fun
  | [d1, d2, d3] => { results := [.lit (.bool false)], args := [d1, d2, d3] }
  | _ => none }
def GuardFitsWrongFalsely : Prop := guardFitsRow.holds Try.pinned (OpenSpec.ofChange guardFitsWrong)

/-- 'lamplighterlaw24.StepMore': WHATEVER THE INPUT: true; the input reads as it did. -/
def stepMoreSpec : ChangeSpec := { name := "stepMore", fn := fun _ => fun
  | [d1, d2, d3] => { results := [.lit (.bool true)], args := [d1, d2, d3] }
  | _ => none }
def stepMoreRow : OpenClaim := { program := "ytnhiplibodkciaa", sum := "11cc9afd6278a7549bc4d7efd95380ddd30563bfa82039e11f18072b82486619", func := "lamplighter/lamplighterlaw24.StepMore", spec := "stepMore", inPlace := ["internal/bytealg.abigen_runtime_cmpstring"], unfollowed := true, recurses := true, apart := false }
def StepMoreSaid : Prop := stepMoreRow.holds Try.pinned (OpenSpec.ofChange stepMoreSpec)

/-- ITS FALSE NEIGHBOUR: 'it returns false'. Refute it at one input. -/
def stepMoreWrong : ChangeSpec := { name := "stepMore", fn := fun _ => fun
  | [d1, d2, d3] => { results := [.lit (.bool false)], args := [d1, d2, d3] }
  | _ => none }
def StepMoreWrongFalsely : Prop := stepMoreRow.holds Try.pinned (OpenSpec.ofChange stepMoreWrong)

/- THE SECOND FORM. 'bulk': how many values and letters a reading holds, each counted each time it is reached (what is shared counts as often as it is met; a slice's spare places count too). A statement '..UptoSaid' is the law's where the arguments, and the package variables that the reading takes, are together of bulk at most 1048576: NARROWER than '..Said'. Prove '..Said' where nothing that the law and all that it calls make is longer than what came in: it says more and counts as full. Else prove '..UptoSaid'. A law counts once. -/
mutual
def uptoBulk {H : Type} : DataW H → Nat
  | .lit (.string bytes) => bytes.length + 1
  | .lit _ => 1
  | .nil => 1
  | .ptr d => uptoBulk d + 1
  | .slice elems spare => uptoBulkAll elems + uptoBulkAll spare + 1
  | .agg parts => uptoBulkAll parts + 1
  | .iface _ d => uptoBulk d + 1
  | .map entries => uptoBulkEntries entries + 1
  | .held _ => 1
def uptoBulkAll {H : Type} : List (DataW H) → Nat
  | [] => 0
  | d :: r => uptoBulk d + uptoBulkAll r
def uptoBulkEntries {H : Type} : List (Lit × DataW H) → Nat
  | [] => 0
  | x :: r => uptoBulkEntry x + uptoBulkEntries r
def uptoBulkEntry {H : Type} : Lit × DataW H → Nat
  | (.string bytes, d) => bytes.length + uptoBulk d + 1
  | (_, d) => uptoBulk d + 1
 end
def uptoSmall : (H : Type) → List (DataW H) → Bool := fun _ ds => decide (uptoBulkAll ds ≤ 1048576)
def OpenSpec.upto (s : _root_.Go.ChangeSpec) : _root_.Go.OpenSpec := { _root_.Go.OpenSpec.ofChange s with cond := some uptoSmall }

/-- 'lamplighterlaw47.HistSpans', WHERE WHAT IT READS IS OF BULK AT MOST 1048576: true; the input reads as it did. -/
def histSpansUptoRow : OpenClaim := { program := "ytnhiplibodkciaa", sum := "11cc9afd6278a7549bc4d7efd95380ddd30563bfa82039e11f18072b82486619", func := "lamplighter/lamplighterlaw47.HistSpans", spec := "histSpans", unfollowed := true, recurses := true, apart := false, narrowed := true }
def HistSpansUptoSaid : Prop := histSpansUptoRow.holds Try.pinned (OpenSpec.upto histSpansSpec)

/-- 'lamplighterlaw35.TicketPlays', WHERE WHAT IT READS IS OF BULK AT MOST 1048576: true; the input reads as it did. -/
def ticketPlaysUptoRow : OpenClaim := { program := "ytnhiplibodkciaa", sum := "11cc9afd6278a7549bc4d7efd95380ddd30563bfa82039e11f18072b82486619", func := "lamplighter/lamplighterlaw35.TicketPlays", spec := "ticketPlays", apart := false, narrowed := true }
def TicketPlaysUptoSaid : Prop := ticketPlaysUptoRow.holds Try.pinned (OpenSpec.upto ticketPlaysSpec)

/-- 'lamplighterlaw35.TicketNone', WHERE WHAT IT READS IS OF BULK AT MOST 1048576: true; the input reads as it did. -/
def ticketNoneUptoRow : OpenClaim := { program := "ytnhiplibodkciaa", sum := "11cc9afd6278a7549bc4d7efd95380ddd30563bfa82039e11f18072b82486619", func := "lamplighter/lamplighterlaw35.TicketNone", spec := "ticketNone", apart := false, narrowed := true }
def TicketNoneUptoSaid : Prop := ticketNoneUptoRow.holds Try.pinned (OpenSpec.upto ticketNoneSpec)

/-- 'lamplighterlaw47.HistTickets', WHERE WHAT IT READS IS OF BULK AT MOST 1048576: true; the input reads as it did. -/
def histTicketsUptoRow : OpenClaim := { program := "ytnhiplibodkciaa", sum := "11cc9afd6278a7549bc4d7efd95380ddd30563bfa82039e11f18072b82486619", func := "lamplighter/lamplighterlaw47.HistTickets", spec := "histTickets", unfollowed := true, recurses := true, apart := false, narrowed := true }
def HistTicketsUptoSaid : Prop := histTicketsUptoRow.holds Try.pinned (OpenSpec.upto histTicketsSpec)

/-- 'lamplighterlaw14.EvalMade', WHERE WHAT IT READS IS OF BULK AT MOST 1048576: true; the input reads as it did. -/
def evalMadeUptoRow : OpenClaim := { program := "ytnhiplibodkciaa", sum := "11cc9afd6278a7549bc4d7efd95380ddd30563bfa82039e11f18072b82486619", func := "lamplighter/lamplighterlaw14.EvalMade", spec := "evalMade", inPlace := ["internal/bytealg.abigen_runtime_cmpstring"], unfollowed := true, recurses := true, apart := false, narrowed := true }
def EvalMadeUptoSaid : Prop := evalMadeUptoRow.holds Try.pinned (OpenSpec.upto evalMadeSpec)

/-- 'lamplighterlaw14.EvalParts', WHERE WHAT IT READS IS OF BULK AT MOST 1048576: true; the input reads as it did. -/
def evalPartsUptoRow : OpenClaim := { program := "ytnhiplibodkciaa", sum := "11cc9afd6278a7549bc4d7efd95380ddd30563bfa82039e11f18072b82486619", func := "lamplighter/lamplighterlaw14.EvalParts", spec := "evalParts", inPlace := ["internal/bytealg.abigen_runtime_cmpstring"], unfollowed := true, recurses := true, apart := false, narrowed := true }
def EvalPartsUptoSaid : Prop := evalPartsUptoRow.holds Try.pinned (OpenSpec.upto evalPartsSpec)

/-- 'lamplighterlaw14.EvalNone', WHERE WHAT IT READS IS OF BULK AT MOST 1048576: true; the input reads as it did. -/
def evalNoneUptoRow : OpenClaim := { program := "ytnhiplibodkciaa", sum := "11cc9afd6278a7549bc4d7efd95380ddd30563bfa82039e11f18072b82486619", func := "lamplighter/lamplighterlaw14.EvalNone", spec := "evalNone", inPlace := ["internal/bytealg.abigen_runtime_cmpstring"], unfollowed := true, recurses := true, apart := false, narrowed := true }
def EvalNoneUptoSaid : Prop := evalNoneUptoRow.holds Try.pinned (OpenSpec.upto evalNoneSpec)

/-- 'lamplighterlaw47.HistOrder', WHERE WHAT IT READS IS OF BULK AT MOST 1048576: true; the input reads as it did. -/
def histOrderUptoRow : OpenClaim := { program := "ytnhiplibodkciaa", sum := "11cc9afd6278a7549bc4d7efd95380ddd30563bfa82039e11f18072b82486619", func := "lamplighter/lamplighterlaw47.HistOrder", spec := "histOrder", unfollowed := true, recurses := true, apart := false, narrowed := true }
def HistOrderUptoSaid : Prop := histOrderUptoRow.holds Try.pinned (OpenSpec.upto histOrderSpec)

/-- 'lamplighterlaw23.GuardBlocks', WHERE WHAT IT READS IS OF BULK AT MOST 1048576: true; the input reads as it did. -/
def guardBlocksUptoRow : OpenClaim := { program := "ytnhiplibodkciaa", sum := "11cc9afd6278a7549bc4d7efd95380ddd30563bfa82039e11f18072b82486619", func := "lamplighter/lamplighterlaw23.GuardBlocks", spec := "guardBlocks", inPlace := ["internal/bytealg.abigen_runtime_cmpstring"], unfollowed := true, recurses := true, apart := false, narrowed := true }
def GuardBlocksUptoSaid : Prop := guardBlocksUptoRow.holds Try.pinned (OpenSpec.upto guardBlocksSpec)

/-- 'lamplighterlaw23.GuardFits', WHERE WHAT IT READS IS OF BULK AT MOST 1048576: true; the input reads as it did. -/
def guardFitsUptoRow : OpenClaim := { program := "ytnhiplibodkciaa", sum := "11cc9afd6278a7549bc4d7efd95380ddd30563bfa82039e11f18072b82486619", func := "lamplighter/lamplighterlaw23.GuardFits", spec := "guardFits", inPlace := ["internal/bytealg.abigen_runtime_cmpstring"], unfollowed := true, recurses := true, apart := false, narrowed := true }
def GuardFitsUptoSaid : Prop := guardFitsUptoRow.holds Try.pinned (OpenSpec.upto guardFitsSpec)

/-- 'lamplighterlaw24.StepMore', WHERE WHAT IT READS IS OF BULK AT MOST 1048576: true; the input reads as it did. -/
def stepMoreUptoRow : OpenClaim := { program := "ytnhiplibodkciaa", sum := "11cc9afd6278a7549bc4d7efd95380ddd30563bfa82039e11f18072b82486619", func := "lamplighter/lamplighterlaw24.StepMore", spec := "stepMore", inPlace := ["internal/bytealg.abigen_runtime_cmpstring"], unfollowed := true, recurses := true, apart := false, narrowed := true }
def StepMoreUptoSaid : Prop := stepMoreUptoRow.holds Try.pinned (OpenSpec.upto stepMoreSpec)

end Rows
end Go.Proofs.Ytnhiplibodkciaa
