/-
  NARROWER THAN 'FOR EVERY INPUT', by the rows' own cells (each row's printed sentence says how): LaneBytes: laid · LaneFinds: laid · LaneParts: laid · CtrlLooks: laid · CtrlPuts: laid · CtrlKeeps: laid.
  DERIVED. THE GIVEN ROWS OF THIS SEAT. 6 by the template 'for every input the law returns true; each argument reads behind the call as it read before'; 0 by the template 'total and deterministic' (their statements: YteafenadjidkdaaDoorTotals.lean).
  GIVEN WITH THE SEED: the statements are not yours to turn. If you find one false, say at which input.
  Laid BY PROGRAM, IN A SANDBOX (cutbox-rows.mjs): the forced cells as the released guide's own fill.sh prints them over the translation 103d25c74579acc9… (all of the seat's roots in one cut). By AI agents, Wed Nov 11 2026. No macro, syntax, notation, axiom, sorry.
-/
import Derived.Test.YteafenadjidkdaaDoorChecked
import GoSem.Claim
import GoSem.ClaimJoined
import GoSem.ClaimMapViews
import Derived.JoinedTies
import Derived.KernelRfl
namespace Go.Proofs.YteafenadjidkdaaDoor
/- THE CELL 'sum', in the pinned program and in every row, IS THE sha256 OF THE DUMP (.gsa) THAT YteafenadjidkdaaDoorProg.lean LOADS. Nothing in Lean hashes anything: it is a label: what it is worth is what the hold of that sum in a sandbox is worth. -/
noncomputable def Tryd.pinned : Pinned := { name := "yteafenadjidkdaadoor", sum := "103d25c74579acc98f9e1f3645900c871216d39b4fdb38174b5df4a77a2ebfab", checked := Tryd.checked }
namespace Rows
def none {H : Type} : Left H := { results := [], args := [] }

/- WHAT THE LISTED PACKAGE-LEVEL VARIABLES READ AS WHEN THE CALL BEGINS. Each datum BY PROGRAM (the guide's laid-datum.mjs) off the statement by which the dump's own 'gosem.cut.vars' lays the variable. In a bare row this is a premise. The card (YteafenadjidkdaaDoorCards.lean) ties it to the program's text. -/
def laid_math_bits_deBruijn64tab {H : Type} : DataW H := .agg [.lit (.int .u8 0), .lit (.int .u8 1), .lit (.int .u8 56), .lit (.int .u8 2), .lit (.int .u8 57), .lit (.int .u8 49), .lit (.int .u8 28), .lit (.int .u8 3), .lit (.int .u8 61), .lit (.int .u8 58), .lit (.int .u8 42), .lit (.int .u8 50), .lit (.int .u8 38), .lit (.int .u8 29), .lit (.int .u8 17), .lit (.int .u8 4), .lit (.int .u8 62), .lit (.int .u8 47), .lit (.int .u8 59), .lit (.int .u8 36), .lit (.int .u8 45), .lit (.int .u8 43), .lit (.int .u8 51), .lit (.int .u8 22), .lit (.int .u8 53), .lit (.int .u8 39), .lit (.int .u8 33), .lit (.int .u8 30), .lit (.int .u8 24), .lit (.int .u8 18), .lit (.int .u8 12), .lit (.int .u8 5), .lit (.int .u8 63), .lit (.int .u8 55), .lit (.int .u8 48), .lit (.int .u8 27), .lit (.int .u8 60), .lit (.int .u8 41), .lit (.int .u8 37), .lit (.int .u8 16), .lit (.int .u8 46), .lit (.int .u8 35), .lit (.int .u8 44), .lit (.int .u8 21), .lit (.int .u8 52), .lit (.int .u8 32), .lit (.int .u8 23), .lit (.int .u8 11), .lit (.int .u8 54), .lit (.int .u8 26), .lit (.int .u8 40), .lit (.int .u8 15), .lit (.int .u8 34), .lit (.int .u8 20), .lit (.int .u8 31), .lit (.int .u8 10), .lit (.int .u8 25), .lit (.int .u8 14), .lit (.int .u8 19), .lit (.int .u8 9), .lit (.int .u8 13), .lit (.int .u8 8), .lit (.int .u8 7), .lit (.int .u8 6)]

/-- 'sprocketlaw02.LaneBytes': WHATEVER THE INPUT: true; the input reads as it did. -/
def laneBytesSpec : ChangeSpec := { name := "laneBytes", fn := fun _ => fun
  | [d1, d2, d3] => { results := [.lit (.bool true)], args := [d1, d2, d3] }
  | _ => none }
def laneBytesRow : OpenClaim := { program := "yteafenadjidkdaadoor", sum := "103d25c74579acc98f9e1f3645900c871216d39b4fdb38174b5df4a77a2ebfab", func := "sprocket/sprocketlaw02.LaneBytes", spec := "laneBytes", unfollowed := true, recurses := true, named := ["math/bits.deBruijn64tab"], apart := false, laid := [("math/bits.deBruijn64tab", laid_math_bits_deBruijn64tab)] }
def LaneBytesSaid : Prop := laneBytesRow.holds Tryd.pinned (OpenSpec.ofChange laneBytesSpec)

/-- ITS FALSE NEIGHBOUR: 'it returns false'. Refute it at one input. -/
def laneBytesWrong : ChangeSpec := { name := "laneBytes", fn := fun _ => fun
  | [d1, d2, d3] => { results := [.lit (.bool false)], args := [d1, d2, d3] }
  | _ => none }
def LaneBytesWrongFalsely : Prop := laneBytesRow.holds Tryd.pinned (OpenSpec.ofChange laneBytesWrong)

/-- 'sprocketlaw02.LaneFinds': WHATEVER THE INPUT: true; the input reads as it did. -/
def laneFindsSpec : ChangeSpec := { name := "laneFinds", fn := fun _ => fun
  | [d1, d2, d3] => { results := [.lit (.bool true)], args := [d1, d2, d3] }
  | _ => none }
def laneFindsRow : OpenClaim := { program := "yteafenadjidkdaadoor", sum := "103d25c74579acc98f9e1f3645900c871216d39b4fdb38174b5df4a77a2ebfab", func := "sprocket/sprocketlaw02.LaneFinds", spec := "laneFinds", unfollowed := true, recurses := true, named := ["math/bits.deBruijn64tab"], apart := false, laid := [("math/bits.deBruijn64tab", laid_math_bits_deBruijn64tab)] }
def LaneFindsSaid : Prop := laneFindsRow.holds Tryd.pinned (OpenSpec.ofChange laneFindsSpec)

/-- ITS FALSE NEIGHBOUR: 'it returns false'. Refute it at one input. -/
def laneFindsWrong : ChangeSpec := { name := "laneFinds", fn := fun _ => fun
  | [d1, d2, d3] => { results := [.lit (.bool false)], args := [d1, d2, d3] }
  | _ => none }
def LaneFindsWrongFalsely : Prop := laneFindsRow.holds Tryd.pinned (OpenSpec.ofChange laneFindsWrong)

/-- 'sprocketlaw02.LaneParts': WHATEVER THE INPUT: true; the input reads as it did. -/
def lanePartsSpec : ChangeSpec := { name := "laneParts", fn := fun _ => fun
  | [d1, d2, d3] => { results := [.lit (.bool true)], args := [d1, d2, d3] }
  | _ => none }
def lanePartsRow : OpenClaim := { program := "yteafenadjidkdaadoor", sum := "103d25c74579acc98f9e1f3645900c871216d39b4fdb38174b5df4a77a2ebfab", func := "sprocket/sprocketlaw02.LaneParts", spec := "laneParts", unfollowed := true, recurses := true, named := ["math/bits.deBruijn64tab"], apart := false, laid := [("math/bits.deBruijn64tab", laid_math_bits_deBruijn64tab)] }
def LanePartsSaid : Prop := lanePartsRow.holds Tryd.pinned (OpenSpec.ofChange lanePartsSpec)

/-- ITS FALSE NEIGHBOUR: 'it returns false'. Refute it at one input. -/
def lanePartsWrong : ChangeSpec := { name := "laneParts", fn := fun _ => fun
  | [d1, d2, d3] => { results := [.lit (.bool false)], args := [d1, d2, d3] }
  | _ => none }
def LanePartsWrongFalsely : Prop := lanePartsRow.holds Tryd.pinned (OpenSpec.ofChange lanePartsWrong)

/-- 'sprocketlaw12.CtrlLooks': WHATEVER THE INPUT: true; the input reads as it did. -/
def ctrlLooksSpec : ChangeSpec := { name := "ctrlLooks", fn := fun _ => fun
  | [d1, d2, d3] => { results := [.lit (.bool true)], args := [d1, d2, d3] }
  | _ => none }
def ctrlLooksRow : OpenClaim := { program := "yteafenadjidkdaadoor", sum := "103d25c74579acc98f9e1f3645900c871216d39b4fdb38174b5df4a77a2ebfab", func := "sprocket/sprocketlaw12.CtrlLooks", spec := "ctrlLooks", unfollowed := true, recurses := true, named := ["math/bits.deBruijn64tab"], apart := false, laid := [("math/bits.deBruijn64tab", laid_math_bits_deBruijn64tab)] }
def CtrlLooksSaid : Prop := ctrlLooksRow.holds Tryd.pinned (OpenSpec.ofChange ctrlLooksSpec)

/-- ITS FALSE NEIGHBOUR: 'it returns false'. Refute it at one input. -/
def ctrlLooksWrong : ChangeSpec := { name := "ctrlLooks", fn := fun _ => fun
  | [d1, d2, d3] => { results := [.lit (.bool false)], args := [d1, d2, d3] }
  | _ => none }
def CtrlLooksWrongFalsely : Prop := ctrlLooksRow.holds Tryd.pinned (OpenSpec.ofChange ctrlLooksWrong)

/-- 'sprocketlaw12.CtrlPuts': WHATEVER THE INPUT: true; the input reads as it did. -/
def ctrlPutsSpec : ChangeSpec := { name := "ctrlPuts", fn := fun _ => fun
  | [d1, d2, d3] => { results := [.lit (.bool true)], args := [d1, d2, d3] }
  | _ => none }
def ctrlPutsRow : OpenClaim := { program := "yteafenadjidkdaadoor", sum := "103d25c74579acc98f9e1f3645900c871216d39b4fdb38174b5df4a77a2ebfab", func := "sprocket/sprocketlaw12.CtrlPuts", spec := "ctrlPuts", unfollowed := true, recurses := true, named := ["math/bits.deBruijn64tab"], apart := false, laid := [("math/bits.deBruijn64tab", laid_math_bits_deBruijn64tab)] }
def CtrlPutsSaid : Prop := ctrlPutsRow.holds Tryd.pinned (OpenSpec.ofChange ctrlPutsSpec)

/-- ITS FALSE NEIGHBOUR: 'it returns false'. Refute it at one input. -/
def ctrlPutsWrong : ChangeSpec := { name := "ctrlPuts", fn := fun _ => fun
  | [d1, d2, d3] => { results := [.lit (.bool false)], args := [d1, d2, d3] }
  | _ => none }
def CtrlPutsWrongFalsely : Prop := ctrlPutsRow.holds Tryd.pinned (OpenSpec.ofChange ctrlPutsWrong)

/-- 'sprocketlaw12.CtrlKeeps': WHATEVER THE INPUT: true; the input reads as it did. -/
def ctrlKeepsSpec : ChangeSpec := { name := "ctrlKeeps", fn := fun _ => fun
  | [d1, d2] => { results := [.lit (.bool true)], args := [d1, d2] }
  | _ => none }
def ctrlKeepsRow : OpenClaim := { program := "yteafenadjidkdaadoor", sum := "103d25c74579acc98f9e1f3645900c871216d39b4fdb38174b5df4a77a2ebfab", func := "sprocket/sprocketlaw12.CtrlKeeps", spec := "ctrlKeeps", unfollowed := true, recurses := true, named := ["math/bits.deBruijn64tab"], apart := false, laid := [("math/bits.deBruijn64tab", laid_math_bits_deBruijn64tab)] }
def CtrlKeepsSaid : Prop := ctrlKeepsRow.holds Tryd.pinned (OpenSpec.ofChange ctrlKeepsSpec)

/-- ITS FALSE NEIGHBOUR: 'it returns false'. Refute it at one input. -/
def ctrlKeepsWrong : ChangeSpec := { name := "ctrlKeeps", fn := fun _ => fun
  | [d1, d2] => { results := [.lit (.bool false)], args := [d1, d2] }
  | _ => none }
def CtrlKeepsWrongFalsely : Prop := ctrlKeepsRow.holds Tryd.pinned (OpenSpec.ofChange ctrlKeepsWrong)

/- THE SECOND FORM. 'bulk': how many values and letters a reading holds, each counted each time it is reached (what is shared counts as often as it is met; a slice's spare places count too). A statement '..UptoSaid' is the law's where the arguments, and the package variables that the reading takes, are together of bulk at most 1048576: NARROWER than '..Said'. Prove '..Said' where nothing that the law and all that it calls make is longer than what came in: it says more and counts as full. Else prove '..UptoSaid'. A law counts once. -/
mutual
def uptoBulk {H : Type} : DataW H → Nat
  | .lit (.string bytes) => bytes.length + 1
  | .lit _ => 1
  | .nil => 1
  | .ptr d => uptoBulk d + 1
  | .slice elems spare => uptoBulkAll elems + uptoBulkAll spare + 1
  | .agg parts => uptoBulkAll parts + 1
  | .iface _ d => uptoBulk d + 1
  | .map entries => uptoBulkEntries entries + 1
  | .held _ => 1
def uptoBulkAll {H : Type} : List (DataW H) → Nat
  | [] => 0
  | d :: r => uptoBulk d + uptoBulkAll r
def uptoBulkEntries {H : Type} : List (Lit × DataW H) → Nat
  | [] => 0
  | x :: r => uptoBulkEntry x + uptoBulkEntries r
def uptoBulkEntry {H : Type} : Lit × DataW H → Nat
  | (.string bytes, d) => bytes.length + uptoBulk d + 1
  | (_, d) => uptoBulk d + 1
 end
def uptoSmall : (H : Type) → List (DataW H) → Bool := fun _ ds => decide (uptoBulkAll ds ≤ 1048576)
def OpenSpec.upto (s : _root_.Go.ChangeSpec) : _root_.Go.OpenSpec := { _root_.Go.OpenSpec.ofChange s with cond := some uptoSmall }

/-- 'sprocketlaw02.LaneBytes', WHERE WHAT IT READS IS OF BULK AT MOST 1048576: true; the input reads as it did. -/
def laneBytesUptoRow : OpenClaim := { program := "yteafenadjidkdaadoor", sum := "103d25c74579acc98f9e1f3645900c871216d39b4fdb38174b5df4a77a2ebfab", func := "sprocket/sprocketlaw02.LaneBytes", spec := "laneBytes", unfollowed := true, recurses := true, named := ["math/bits.deBruijn64tab"], apart := false, laid := [("math/bits.deBruijn64tab", laid_math_bits_deBruijn64tab)], narrowed := true }
def LaneBytesUptoSaid : Prop := laneBytesUptoRow.holds Tryd.pinned (OpenSpec.upto laneBytesSpec)

/-- 'sprocketlaw02.LaneFinds', WHERE WHAT IT READS IS OF BULK AT MOST 1048576: true; the input reads as it did. -/
def laneFindsUptoRow : OpenClaim := { program := "yteafenadjidkdaadoor", sum := "103d25c74579acc98f9e1f3645900c871216d39b4fdb38174b5df4a77a2ebfab", func := "sprocket/sprocketlaw02.LaneFinds", spec := "laneFinds", unfollowed := true, recurses := true, named := ["math/bits.deBruijn64tab"], apart := false, laid := [("math/bits.deBruijn64tab", laid_math_bits_deBruijn64tab)], narrowed := true }
def LaneFindsUptoSaid : Prop := laneFindsUptoRow.holds Tryd.pinned (OpenSpec.upto laneFindsSpec)

/-- 'sprocketlaw02.LaneParts', WHERE WHAT IT READS IS OF BULK AT MOST 1048576: true; the input reads as it did. -/
def lanePartsUptoRow : OpenClaim := { program := "yteafenadjidkdaadoor", sum := "103d25c74579acc98f9e1f3645900c871216d39b4fdb38174b5df4a77a2ebfab", func := "sprocket/sprocketlaw02.LaneParts", spec := "laneParts", unfollowed := true, recurses := true, named := ["math/bits.deBruijn64tab"], apart := false, laid := [("math/bits.deBruijn64tab", laid_math_bits_deBruijn64tab)], narrowed := true }
def LanePartsUptoSaid : Prop := lanePartsUptoRow.holds Tryd.pinned (OpenSpec.upto lanePartsSpec)

/-- 'sprocketlaw12.CtrlLooks', WHERE WHAT IT READS IS OF BULK AT MOST 1048576: true; the input reads as it did. -/
def ctrlLooksUptoRow : OpenClaim := { program := "yteafenadjidkdaadoor", sum := "103d25c74579acc98f9e1f3645900c871216d39b4fdb38174b5df4a77a2ebfab", func := "sprocket/sprocketlaw12.CtrlLooks", spec := "ctrlLooks", unfollowed := true, recurses := true, named := ["math/bits.deBruijn64tab"], apart := false, laid := [("math/bits.deBruijn64tab", laid_math_bits_deBruijn64tab)], narrowed := true }
def CtrlLooksUptoSaid : Prop := ctrlLooksUptoRow.holds Tryd.pinned (OpenSpec.upto ctrlLooksSpec)

/-- 'sprocketlaw12.CtrlPuts', WHERE WHAT IT READS IS OF BULK AT MOST 1048576: true; the input reads as it did. -/
def ctrlPutsUptoRow : OpenClaim := { program := "yteafenadjidkdaadoor", sum := "103d25c74579acc98f9e1f3645900c871216d39b4fdb38174b5df4a77a2ebfab", func := "sprocket/sprocketlaw12.CtrlPuts", spec := "ctrlPuts", unfollowed := true, recurses := true, named := ["math/bits.deBruijn64tab"], apart := false, laid := [("math/bits.deBruijn64tab", laid_math_bits_deBruijn64tab)], narrowed := true }
def CtrlPutsUptoSaid : Prop := ctrlPutsUptoRow.holds Tryd.pinned (OpenSpec.upto ctrlPutsSpec)

/-- 'sprocketlaw12.CtrlKeeps', WHERE WHAT IT READS IS OF BULK AT MOST 1048576: true; the input reads as it did. -/
def ctrlKeepsUptoRow : OpenClaim := { program := "yteafenadjidkdaadoor", sum := "103d25c74579acc98f9e1f3645900c871216d39b4fdb38174b5df4a77a2ebfab", func := "sprocket/sprocketlaw12.CtrlKeeps", spec := "ctrlKeeps", unfollowed := true, recurses := true, named := ["math/bits.deBruijn64tab"], apart := false, laid := [("math/bits.deBruijn64tab", laid_math_bits_deBruijn64tab)], narrowed := true }
def CtrlKeepsUptoSaid : Prop := ctrlKeepsUptoRow.holds Tryd.pinned (OpenSpec.upto ctrlKeepsSpec)

end Rows
end Go.Proofs.YteafenadjidkdaaDoor
