/-
  DERIVED. GIVEN WITH THE SEED: THE CARDS: each row of YtomcbblcipnabaaDoorRows.lean that lists a variable, with what it lists TIED to the program's text (the seventh form; the later family's looks); each row that meets fmt, with fmt's text TOLD by the authors' own Lean function (tested against real Go, not proved from fmt's source: count such statements apart). THE CARD IS WHAT COUNTS. Prove the row's statement (the work); the ties are given (YtomcbblcipnabaaDoorTie.lean); close each card by the builder's one call (the guide's Derived/Test/ToyasCard.lean, 'card_holds'). Laid BY PROGRAM, IN A SANDBOX (cutbox-door.mjs). By AI agents, Wed Nov 11 2026. No macro, syntax, notation, axiom, sorry.
-/
import Derived.Test.YtomcbblcipnabaaDoorRows
import GoSem.ClaimSeven
namespace Go.Proofs.YtomcbblcipnabaaDoor
namespace Rows

/-- THE TIED CARD OF 'sprocketlaw25.SweepActs'. -/
def sweepActsCard : Claim7 := { stood := { row := sweepActsRow, standIns := [], harness := (true, "b956965dd63d58b13fc5832a004a3d5ebd506f862304376d3c16204b317db86b"), looks := false }, kinds := [], alts := [], laidByText := true, laidKinds := [.data], laidTests := true, laidLooks := .later }
def SweepActsCardSaid : Prop := Claim7.holds Tryd.pinned (.plain (OpenSpec.ofChange sweepActsSpec)) sweepActsCard

/-- THE SECOND FORM's CARD OF 'sprocketlaw25.SweepActs'. -/
def sweepActsUptoCard : Claim7 := { stood := { row := sweepActsUptoRow, standIns := [], harness := (true, "b956965dd63d58b13fc5832a004a3d5ebd506f862304376d3c16204b317db86b"), looks := false }, kinds := [], alts := [], laidByText := true, laidKinds := [.data], laidTests := true, laidLooks := .later }
def SweepActsUptoCardSaid : Prop := Claim7.holds Tryd.pinned (.plain (OpenSpec.upto sweepActsSpec)) sweepActsUptoCard
end Rows
end Go.Proofs.YtomcbblcipnabaaDoor
