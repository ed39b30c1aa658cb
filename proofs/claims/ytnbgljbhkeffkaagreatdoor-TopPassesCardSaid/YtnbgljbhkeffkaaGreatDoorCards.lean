/-
  DERIVED. GIVEN WITH THE SEED: THE CARDS: each row of YtnbgljbhkeffkaaGreatDoorRows.lean that lists a variable, with what it lists TIED to the program's text (the seventh form; the later family's looks); each row that meets fmt, with fmt's text TOLD by the authors' own Lean function (tested against real Go, not proved from fmt's source: count such statements apart). THE CARD IS WHAT COUNTS. Prove the row's statement (the work); the ties are given (YtnbgljbhkeffkaaGreatDoorTie.lean); close each card by the builder's one call (the guide's Derived/Test/ToyasCard.lean, 'card_holds'). Laid BY PROGRAM, IN A SANDBOX (cutbox-door.mjs). By AI agents, Wed Nov 11 2026. No macro, syntax, notation, axiom, sorry.
-/
import Derived.Test.YtnbgljbhkeffkaaGreatDoorRows
import GoSem.ClaimSeven
namespace Go.Proofs.YtnbgljbhkeffkaaGreatDoor
namespace Rows

/-- THE TIED CARD OF 'estraytop.TopPasses'. -/
def topPassesCard : Claim7 := { stood := { row := topPassesRow, standIns := [], harness := (true, "1bf76e9840a7761468072c0b938380db73a53f615e0b2f0834e051fed6e3437c"), looks := true }, kinds := [], alts := [], laidByText := true, laidKinds := [.widerDeep], laidTests := true, laidLooks := .later }
def TopPassesCardSaid : Prop := Claim7.holds Tryz.pinned (.plain (OpenSpec.ofChange topPassesSpec)) topPassesCard

/-- THE SECOND FORM's CARD OF 'estraytop.TopPasses'. -/
def topPassesUptoCard : Claim7 := { stood := { row := topPassesUptoRow, standIns := [], harness := (true, "1bf76e9840a7761468072c0b938380db73a53f615e0b2f0834e051fed6e3437c"), looks := true }, kinds := [], alts := [], laidByText := true, laidKinds := [.widerDeep], laidTests := true, laidLooks := .later }
def TopPassesUptoCardSaid : Prop := Claim7.holds Tryz.pinned (.plain (OpenSpec.upto topPassesSpec)) topPassesUptoCard
end Rows
end Go.Proofs.YtnbgljbhkeffkaaGreatDoor
