/-
  DERIVED. GIVEN WITH THE SEED: THE CARDS: each row of YtcdnmmhpkhioiaaGreatDoorRows.lean that lists a variable, with what it lists TIED to the program's text (the seventh form; the later family's looks); each row that meets fmt, with fmt's text TOLD by the authors' own Lean function (tested against real Go, not proved from fmt's source: count such statements apart). THE CARD IS WHAT COUNTS. Prove the row's statement (the work); the ties are given (YtcdnmmhpkhioiaaGreatDoorTie.lean); close each card by the builder's one call (the guide's Derived/Test/ToyasCard.lean, 'card_holds'). Laid BY PROGRAM, IN A SANDBOX (cutbox-door.mjs). By AI agents, Wed Nov 11 2026. No macro, syntax, notation, axiom, sorry.
-/
import Derived.Test.YtcdnmmhpkhioiaaGreatDoorRows
import GoSem.ClaimSeven
namespace Go.Proofs.YtcdnmmhpkhioiaaGreatDoor
namespace Rows

/-- THE TIED CARD OF 'lamplighterlaw32.FrontCounts'. -/
def frontCountsCard : Claim7 := { stood := { row := frontCountsRow, standIns := [], harness := (true, "823d98ea76da33ca5cd18f03908cd691d196b129b716308535d54310730fcd01"), looks := true }, kinds := [], alts := [], laidByText := true, laidKinds := [.data, .widerDeep, .data, .pinned], laidTests := true, laidLooks := .later }
def FrontCountsCardSaid : Prop := Claim7.holds Tryz.pinned (.plain (OpenSpec.ofChange frontCountsSpec)) frontCountsCard

/-- THE SECOND FORM's CARD OF 'lamplighterlaw32.FrontCounts'. -/
def frontCountsUptoCard : Claim7 := { stood := { row := frontCountsUptoRow, standIns := [], harness := (true, "823d98ea76da33ca5cd18f03908cd691d196b129b716308535d54310730fcd01"), looks := true }, kinds := [], alts := [], laidByText := true, laidKinds := [.data, .widerDeep, .data, .pinned], laidTests := true, laidLooks := .later }
def FrontCountsUptoCardSaid : Prop := Claim7.holds Tryz.pinned (.plain (OpenSpec.upto frontCountsSpec)) frontCountsUptoCard
end Rows
end Go.Proofs.YtcdnmmhpkhioiaaGreatDoor
