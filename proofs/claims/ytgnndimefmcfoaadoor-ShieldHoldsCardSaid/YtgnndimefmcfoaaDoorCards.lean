/-
  DERIVED. GIVEN WITH THE SEED: THE CARDS: each row of YtgnndimefmcfoaaDoorRows.lean that lists a variable, with what it lists TIED to the program's text (the seventh form; the later family's looks); each row that meets fmt, with fmt's text TOLD by the authors' own Lean function (tested against real Go, not proved from fmt's source: count such statements apart). THE CARD IS WHAT COUNTS. Prove the row's statement (the work); the ties are given (YtgnndimefmcfoaaDoorTie.lean); close each card by the builder's one call (the guide's Derived/Test/ToyasCard.lean, 'card_holds'). Laid BY PROGRAM, IN A SANDBOX (cutbox-door.mjs). By AI agents, Wed Nov 11 2026. No macro, syntax, notation, axiom, sorry.
-/
import Derived.Test.YtgnndimefmcfoaaDoorRows
import GoSem.ClaimSeven
namespace Go.Proofs.YtgnndimefmcfoaaDoor
namespace Rows

/-- THE TIED CARD OF 'sprocketlaw19.GuardHolds'. -/
def guardHoldsCard : Claim7 := { stood := { row := guardHoldsRow, standIns := [], harness := (true, "8f88ba00f59a5cc402bb88db9c5ff22820bf820c8708e34e7fe5c76ebfc0f60b"), looks := false }, kinds := [], alts := [], laidByText := true, laidKinds := [.data], laidTests := true, laidLooks := .later }
def GuardHoldsCardSaid : Prop := Claim7.holds Tryd.pinned (.plain (OpenSpec.ofChange guardHoldsSpec)) guardHoldsCard

/-- THE TIED CARD OF 'sprocketlaw20.ShieldHolds'. -/
def shieldHoldsCard : Claim7 := { stood := { row := shieldHoldsRow, standIns := [], harness := (true, "8f88ba00f59a5cc402bb88db9c5ff22820bf820c8708e34e7fe5c76ebfc0f60b"), looks := false }, kinds := [], alts := [], laidByText := true, laidKinds := [.data], laidTests := true, laidLooks := .later }
def ShieldHoldsCardSaid : Prop := Claim7.holds Tryd.pinned (.plain (OpenSpec.ofChange shieldHoldsSpec)) shieldHoldsCard

/-- THE SECOND FORM's CARD OF 'sprocketlaw19.GuardHolds'. -/
def guardHoldsUptoCard : Claim7 := { stood := { row := guardHoldsUptoRow, standIns := [], harness := (true, "8f88ba00f59a5cc402bb88db9c5ff22820bf820c8708e34e7fe5c76ebfc0f60b"), looks := false }, kinds := [], alts := [], laidByText := true, laidKinds := [.data], laidTests := true, laidLooks := .later }
def GuardHoldsUptoCardSaid : Prop := Claim7.holds Tryd.pinned (.plain (OpenSpec.upto guardHoldsSpec)) guardHoldsUptoCard

/-- THE SECOND FORM's CARD OF 'sprocketlaw20.ShieldHolds'. -/
def shieldHoldsUptoCard : Claim7 := { stood := { row := shieldHoldsUptoRow, standIns := [], harness := (true, "8f88ba00f59a5cc402bb88db9c5ff22820bf820c8708e34e7fe5c76ebfc0f60b"), looks := false }, kinds := [], alts := [], laidByText := true, laidKinds := [.data], laidTests := true, laidLooks := .later }
def ShieldHoldsUptoCardSaid : Prop := Claim7.holds Tryd.pinned (.plain (OpenSpec.upto shieldHoldsSpec)) shieldHoldsUptoCard
end Rows
end Go.Proofs.YtgnndimefmcfoaaDoor
