/-
  DERIVED. GIVEN WITH THE SEED: THE CARDS: each row of YtmphcolclkpnnaaDoorRows.lean that lists a variable, with what it lists TIED to the program's text (the seventh form; the later family's looks); each row that meets fmt, with fmt's text TOLD by the authors' own Lean function (tested against real Go, not proved from fmt's source: count such statements apart). THE CARD IS WHAT COUNTS. Prove the row's statement (the work); the ties are given (YtmphcolclkpnnaaDoorTie.lean); close each card by the builder's one call (the guide's Derived/Test/ToyasCard.lean, 'card_holds'). Laid BY PROGRAM, IN A SANDBOX (cutbox-door.mjs). By AI agents, Wed Nov 11 2026. No macro, syntax, notation, axiom, sorry.
-/
import Derived.Test.YtmphcolclkpnnaaDoorRows
import GoSem.ClaimSeven
namespace Go.Proofs.YtmphcolclkpnnaaDoor
namespace Rows

/-- THE TIED CARD OF 'sprocketlaw14.DeskTells'. -/
def deskTellsCard : Claim7 := { stood := { row := deskTellsRow, standIns := [], harness := (true, "c01a75414c08449b6aa99d3e7638e21ceb0c3904ac2418fc892d36c3da479bbb"), looks := false }, kinds := [], alts := [], laidByText := true, laidKinds := [.data], laidTests := true, laidLooks := .later }
def DeskTellsCardSaid : Prop := Claim7.holds Tryd.pinned (.plain (OpenSpec.ofChange deskTellsSpec)) deskTellsCard

/-- THE TIED CARD OF 'sprocketlaw14.DeskApart'. -/
def deskApartCard : Claim7 := { stood := { row := deskApartRow, standIns := [], harness := (true, "c01a75414c08449b6aa99d3e7638e21ceb0c3904ac2418fc892d36c3da479bbb"), looks := false }, kinds := [], alts := [], laidByText := true, laidKinds := [.data], laidTests := true, laidLooks := .later }
def DeskApartCardSaid : Prop := Claim7.holds Tryd.pinned (.plain (OpenSpec.ofChange deskApartSpec)) deskApartCard

/-- THE TIED CARD OF 'sprocketlaw19.GuardActs'. -/
def guardActsCard : Claim7 := { stood := { row := guardActsRow, standIns := [], harness := (true, "c01a75414c08449b6aa99d3e7638e21ceb0c3904ac2418fc892d36c3da479bbb"), looks := false }, kinds := [], alts := [], laidByText := true, laidKinds := [.data], laidTests := true, laidLooks := .later }
def GuardActsCardSaid : Prop := Claim7.holds Tryd.pinned (.plain (OpenSpec.ofChange guardActsSpec)) guardActsCard

/-- THE SECOND FORM's CARD OF 'sprocketlaw14.DeskTells'. -/
def deskTellsUptoCard : Claim7 := { stood := { row := deskTellsUptoRow, standIns := [], harness := (true, "c01a75414c08449b6aa99d3e7638e21ceb0c3904ac2418fc892d36c3da479bbb"), looks := false }, kinds := [], alts := [], laidByText := true, laidKinds := [.data], laidTests := true, laidLooks := .later }
def DeskTellsUptoCardSaid : Prop := Claim7.holds Tryd.pinned (.plain (OpenSpec.upto deskTellsSpec)) deskTellsUptoCard

/-- THE SECOND FORM's CARD OF 'sprocketlaw14.DeskApart'. -/
def deskApartUptoCard : Claim7 := { stood := { row := deskApartUptoRow, standIns := [], harness := (true, "c01a75414c08449b6aa99d3e7638e21ceb0c3904ac2418fc892d36c3da479bbb"), looks := false }, kinds := [], alts := [], laidByText := true, laidKinds := [.data], laidTests := true, laidLooks := .later }
def DeskApartUptoCardSaid : Prop := Claim7.holds Tryd.pinned (.plain (OpenSpec.upto deskApartSpec)) deskApartUptoCard

/-- THE SECOND FORM's CARD OF 'sprocketlaw19.GuardActs'. -/
def guardActsUptoCard : Claim7 := { stood := { row := guardActsUptoRow, standIns := [], harness := (true, "c01a75414c08449b6aa99d3e7638e21ceb0c3904ac2418fc892d36c3da479bbb"), looks := false }, kinds := [], alts := [], laidByText := true, laidKinds := [.data], laidTests := true, laidLooks := .later }
def GuardActsUptoCardSaid : Prop := Claim7.holds Tryd.pinned (.plain (OpenSpec.upto guardActsSpec)) guardActsUptoCard
end Rows
end Go.Proofs.YtmphcolclkpnnaaDoor
