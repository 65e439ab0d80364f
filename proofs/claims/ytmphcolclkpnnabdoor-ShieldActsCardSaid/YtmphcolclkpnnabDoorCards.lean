/-
  DERIVED. GIVEN WITH THE SEED: THE CARDS: each row of YtmphcolclkpnnabDoorRows.lean that lists a variable, with what it lists TIED to the program's text (the seventh form; the later family's looks); each row that meets fmt, with fmt's text TOLD by the authors' own Lean function (tested against real Go, not proved from fmt's source: count such statements apart). THE CARD IS WHAT COUNTS. Prove the row's statement (the work); the ties are given (YtmphcolclkpnnabDoorTie.lean); close each card by the builder's one call (the guide's Derived/Test/ToyasCard.lean, 'card_holds'). Laid BY PROGRAM, IN A SANDBOX (cutbox-door.mjs). By AI agents, Wed Nov 11 2026. No macro, syntax, notation, axiom, sorry.
-/
import Derived.Test.YtmphcolclkpnnabDoorRows
import GoSem.ClaimSeven
namespace Go.Proofs.YtmphcolclkpnnabDoor
namespace Rows

/-- THE TIED CARD OF 'sprocketlaw20.ShieldActs'. -/
def shieldActsCard : Claim7 := { stood := { row := shieldActsRow, standIns := [], harness := (true, "9980b439016f2518f9d208a535ed1f6d6d76ee34749a1daa6c068ef0cb556cf8"), looks := false }, kinds := [], alts := [], laidByText := true, laidKinds := [.data], laidTests := true, laidLooks := .later }
def ShieldActsCardSaid : Prop := Claim7.holds Tryd.pinned (.plain (OpenSpec.ofChange shieldActsSpec)) shieldActsCard

/-- THE SECOND FORM's CARD OF 'sprocketlaw20.ShieldActs'. -/
def shieldActsUptoCard : Claim7 := { stood := { row := shieldActsUptoRow, standIns := [], harness := (true, "9980b439016f2518f9d208a535ed1f6d6d76ee34749a1daa6c068ef0cb556cf8"), looks := false }, kinds := [], alts := [], laidByText := true, laidKinds := [.data], laidTests := true, laidLooks := .later }
def ShieldActsUptoCardSaid : Prop := Claim7.holds Tryd.pinned (.plain (OpenSpec.upto shieldActsSpec)) shieldActsUptoCard
end Rows
end Go.Proofs.YtmphcolclkpnnabDoor
