/-
  DERIVED. GIVEN WITH THE SEED: THE CARDS: each row of YteafenadjidkdaaDoorRows.lean that lists a variable, with what it lists TIED to the program's text (the seventh form; the later family's looks); each row that meets fmt, with fmt's text TOLD by the authors' own Lean function (tested against real Go, not proved from fmt's source: count such statements apart). THE CARD IS WHAT COUNTS. Prove the row's statement (the work); the ties are given (YteafenadjidkdaaDoorTie.lean); close each card by the builder's one call (the guide's Derived/Test/ToyasCard.lean, 'card_holds'). Laid BY PROGRAM, IN A SANDBOX (cutbox-door.mjs). By AI agents, Wed Nov 11 2026. No macro, syntax, notation, axiom, sorry.
-/
import Derived.Test.YteafenadjidkdaaDoorRows
import GoSem.ClaimSeven
namespace Go.Proofs.YteafenadjidkdaaDoor
namespace Rows

/-- THE TIED CARD OF 'sprocketlaw02.LaneBytes'. -/
def laneBytesCard : Claim7 := { stood := { row := laneBytesRow, standIns := [], harness := (true, "311be7784f3cdb14a14e5a869a188c3f955b6b6d19542726ab5b5a32b74a7d88"), looks := false }, kinds := [], alts := [], laidByText := true, laidKinds := [.data], laidTests := true, laidLooks := .later }
def LaneBytesCardSaid : Prop := Claim7.holds Tryd.pinned (.plain (OpenSpec.ofChange laneBytesSpec)) laneBytesCard

/-- THE TIED CARD OF 'sprocketlaw02.LaneFinds'. -/
def laneFindsCard : Claim7 := { stood := { row := laneFindsRow, standIns := [], harness := (true, "311be7784f3cdb14a14e5a869a188c3f955b6b6d19542726ab5b5a32b74a7d88"), looks := false }, kinds := [], alts := [], laidByText := true, laidKinds := [.data], laidTests := true, laidLooks := .later }
def LaneFindsCardSaid : Prop := Claim7.holds Tryd.pinned (.plain (OpenSpec.ofChange laneFindsSpec)) laneFindsCard

/-- THE TIED CARD OF 'sprocketlaw02.LaneParts'. -/
def lanePartsCard : Claim7 := { stood := { row := lanePartsRow, standIns := [], harness := (true, "311be7784f3cdb14a14e5a869a188c3f955b6b6d19542726ab5b5a32b74a7d88"), looks := false }, kinds := [], alts := [], laidByText := true, laidKinds := [.data], laidTests := true, laidLooks := .later }
def LanePartsCardSaid : Prop := Claim7.holds Tryd.pinned (.plain (OpenSpec.ofChange lanePartsSpec)) lanePartsCard

/-- THE TIED CARD OF 'sprocketlaw12.CtrlLooks'. -/
def ctrlLooksCard : Claim7 := { stood := { row := ctrlLooksRow, standIns := [], harness := (true, "311be7784f3cdb14a14e5a869a188c3f955b6b6d19542726ab5b5a32b74a7d88"), looks := false }, kinds := [], alts := [], laidByText := true, laidKinds := [.data], laidTests := true, laidLooks := .later }
def CtrlLooksCardSaid : Prop := Claim7.holds Tryd.pinned (.plain (OpenSpec.ofChange ctrlLooksSpec)) ctrlLooksCard

/-- THE TIED CARD OF 'sprocketlaw12.CtrlPuts'. -/
def ctrlPutsCard : Claim7 := { stood := { row := ctrlPutsRow, standIns := [], harness := (true, "311be7784f3cdb14a14e5a869a188c3f955b6b6d19542726ab5b5a32b74a7d88"), looks := false }, kinds := [], alts := [], laidByText := true, laidKinds := [.data], laidTests := true, laidLooks := .later }
def CtrlPutsCardSaid : Prop := Claim7.holds Tryd.pinned (.plain (OpenSpec.ofChange ctrlPutsSpec)) ctrlPutsCard

/-- THE TIED CARD OF 'sprocketlaw12.CtrlKeeps'. -/
def ctrlKeepsCard : Claim7 := { stood := { row := ctrlKeepsRow, standIns := [], harness := (true, "311be7784f3cdb14a14e5a869a188c3f955b6b6d19542726ab5b5a32b74a7d88"), looks := false }, kinds := [], alts := [], laidByText := true, laidKinds := [.data], laidTests := true, laidLooks := .later }
def CtrlKeepsCardSaid : Prop := Claim7.holds Tryd.pinned (.plain (OpenSpec.ofChange ctrlKeepsSpec)) ctrlKeepsCard

/-- THE SECOND FORM's CARD OF 'sprocketlaw02.LaneBytes'. -/
def laneBytesUptoCard : Claim7 := { stood := { row := laneBytesUptoRow, standIns := [], harness := (true, "311be7784f3cdb14a14e5a869a188c3f955b6b6d19542726ab5b5a32b74a7d88"), looks := false }, kinds := [], alts := [], laidByText := true, laidKinds := [.data], laidTests := true, laidLooks := .later }
def LaneBytesUptoCardSaid : Prop := Claim7.holds Tryd.pinned (.plain (OpenSpec.upto laneBytesSpec)) laneBytesUptoCard

/-- THE SECOND FORM's CARD OF 'sprocketlaw02.LaneFinds'. -/
def laneFindsUptoCard : Claim7 := { stood := { row := laneFindsUptoRow, standIns := [], harness := (true, "311be7784f3cdb14a14e5a869a188c3f955b6b6d19542726ab5b5a32b74a7d88"), looks := false }, kinds := [], alts := [], laidByText := true, laidKinds := [.data], laidTests := true, laidLooks := .later }
def LaneFindsUptoCardSaid : Prop := Claim7.holds Tryd.pinned (.plain (OpenSpec.upto laneFindsSpec)) laneFindsUptoCard

/-- THE SECOND FORM's CARD OF 'sprocketlaw02.LaneParts'. -/
def lanePartsUptoCard : Claim7 := { stood := { row := lanePartsUptoRow, standIns := [], harness := (true, "311be7784f3cdb14a14e5a869a188c3f955b6b6d19542726ab5b5a32b74a7d88"), looks := false }, kinds := [], alts := [], laidByText := true, laidKinds := [.data], laidTests := true, laidLooks := .later }
def LanePartsUptoCardSaid : Prop := Claim7.holds Tryd.pinned (.plain (OpenSpec.upto lanePartsSpec)) lanePartsUptoCard

/-- THE SECOND FORM's CARD OF 'sprocketlaw12.CtrlLooks'. -/
def ctrlLooksUptoCard : Claim7 := { stood := { row := ctrlLooksUptoRow, standIns := [], harness := (true, "311be7784f3cdb14a14e5a869a188c3f955b6b6d19542726ab5b5a32b74a7d88"), looks := false }, kinds := [], alts := [], laidByText := true, laidKinds := [.data], laidTests := true, laidLooks := .later }
def CtrlLooksUptoCardSaid : Prop := Claim7.holds Tryd.pinned (.plain (OpenSpec.upto ctrlLooksSpec)) ctrlLooksUptoCard

/-- THE SECOND FORM's CARD OF 'sprocketlaw12.CtrlPuts'. -/
def ctrlPutsUptoCard : Claim7 := { stood := { row := ctrlPutsUptoRow, standIns := [], harness := (true, "311be7784f3cdb14a14e5a869a188c3f955b6b6d19542726ab5b5a32b74a7d88"), looks := false }, kinds := [], alts := [], laidByText := true, laidKinds := [.data], laidTests := true, laidLooks := .later }
def CtrlPutsUptoCardSaid : Prop := Claim7.holds Tryd.pinned (.plain (OpenSpec.upto ctrlPutsSpec)) ctrlPutsUptoCard

/-- THE SECOND FORM's CARD OF 'sprocketlaw12.CtrlKeeps'. -/
def ctrlKeepsUptoCard : Claim7 := { stood := { row := ctrlKeepsUptoRow, standIns := [], harness := (true, "311be7784f3cdb14a14e5a869a188c3f955b6b6d19542726ab5b5a32b74a7d88"), looks := false }, kinds := [], alts := [], laidByText := true, laidKinds := [.data], laidTests := true, laidLooks := .later }
def CtrlKeepsUptoCardSaid : Prop := Claim7.holds Tryd.pinned (.plain (OpenSpec.upto ctrlKeepsSpec)) ctrlKeepsUptoCard
end Rows
end Go.Proofs.YteafenadjidkdaaDoor
