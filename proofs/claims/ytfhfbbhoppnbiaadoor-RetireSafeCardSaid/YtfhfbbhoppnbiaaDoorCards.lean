/-
  DERIVED. GIVEN WITH THE SEED: THE CARDS: each row of YtfhfbbhoppnbiaaDoorRows.lean that lists a variable, with what it lists TIED to the program's text (the seventh form; the later family's looks); each row that meets fmt, with fmt's text TOLD by the authors' own Lean function (tested against real Go, not proved from fmt's source: count such statements apart). THE CARD IS WHAT COUNTS. Prove the row's statement (the work); the ties are given (YtfhfbbhoppnbiaaDoorTie.lean); close each card by the builder's one call (the guide's Derived/Test/ToyasCard.lean, 'card_holds'). Laid BY PROGRAM, IN A SANDBOX (cutbox-door.mjs). By AI agents, Wed Nov 11 2026. No macro, syntax, notation, axiom, sorry.
-/
import Derived.Test.YtfhfbbhoppnbiaaDoorRows
import GoSem.ClaimSeven
namespace Go.Proofs.YtfhfbbhoppnbiaaDoor
namespace Rows

/-- THE TIED CARD OF 'sprocketlaw24.RetireActs'. -/
def retireActsCard : Claim7 := { stood := { row := retireActsRow, standIns := [], harness := (true, "80ad640ccfb8691687907d513bc9c639172fcb885c07e86386dfb090205ba3e4"), looks := false }, kinds := [], alts := [], laidByText := true, laidKinds := [.data], laidTests := true, laidLooks := .later }
def RetireActsCardSaid : Prop := Claim7.holds Tryd.pinned (.plain (OpenSpec.ofChange retireActsSpec)) retireActsCard

/-- THE TIED CARD OF 'sprocketlaw24.RetireSafe'. -/
def retireSafeCard : Claim7 := { stood := { row := retireSafeRow, standIns := [], harness := (true, "80ad640ccfb8691687907d513bc9c639172fcb885c07e86386dfb090205ba3e4"), looks := false }, kinds := [], alts := [], laidByText := true, laidKinds := [.data], laidTests := true, laidLooks := .later }
def RetireSafeCardSaid : Prop := Claim7.holds Tryd.pinned (.plain (OpenSpec.ofChange retireSafeSpec)) retireSafeCard

/-- THE TIED CARD OF 'sprocketlaw24.RetireFew'. -/
def retireFewCard : Claim7 := { stood := { row := retireFewRow, standIns := [], harness := (true, "80ad640ccfb8691687907d513bc9c639172fcb885c07e86386dfb090205ba3e4"), looks := false }, kinds := [], alts := [], laidByText := true, laidKinds := [.data], laidTests := true, laidLooks := .later }
def RetireFewCardSaid : Prop := Claim7.holds Tryd.pinned (.plain (OpenSpec.ofChange retireFewSpec)) retireFewCard

/-- THE SECOND FORM's CARD OF 'sprocketlaw24.RetireActs'. -/
def retireActsUptoCard : Claim7 := { stood := { row := retireActsUptoRow, standIns := [], harness := (true, "80ad640ccfb8691687907d513bc9c639172fcb885c07e86386dfb090205ba3e4"), looks := false }, kinds := [], alts := [], laidByText := true, laidKinds := [.data], laidTests := true, laidLooks := .later }
def RetireActsUptoCardSaid : Prop := Claim7.holds Tryd.pinned (.plain (OpenSpec.upto retireActsSpec)) retireActsUptoCard

/-- THE SECOND FORM's CARD OF 'sprocketlaw24.RetireSafe'. -/
def retireSafeUptoCard : Claim7 := { stood := { row := retireSafeUptoRow, standIns := [], harness := (true, "80ad640ccfb8691687907d513bc9c639172fcb885c07e86386dfb090205ba3e4"), looks := false }, kinds := [], alts := [], laidByText := true, laidKinds := [.data], laidTests := true, laidLooks := .later }
def RetireSafeUptoCardSaid : Prop := Claim7.holds Tryd.pinned (.plain (OpenSpec.upto retireSafeSpec)) retireSafeUptoCard

/-- THE SECOND FORM's CARD OF 'sprocketlaw24.RetireFew'. -/
def retireFewUptoCard : Claim7 := { stood := { row := retireFewUptoRow, standIns := [], harness := (true, "80ad640ccfb8691687907d513bc9c639172fcb885c07e86386dfb090205ba3e4"), looks := false }, kinds := [], alts := [], laidByText := true, laidKinds := [.data], laidTests := true, laidLooks := .later }
def RetireFewUptoCardSaid : Prop := Claim7.holds Tryd.pinned (.plain (OpenSpec.upto retireFewSpec)) retireFewUptoCard
end Rows
end Go.Proofs.YtfhfbbhoppnbiaaDoor
