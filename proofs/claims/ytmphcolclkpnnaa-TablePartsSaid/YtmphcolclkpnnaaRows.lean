/-
  No cell of these rows narrows 'for every input' (looked for: loops, veiled, ifaces, maps, wideKeys, modest, calm, conditions, laid).
  DERIVED. THE GIVEN ROWS OF THIS SEAT. 9 by the template 'for every input the law returns true; each argument reads behind the call as it read before'; 0 by the template 'total and deterministic' (their statements: YtmphcolclkpnnaaTotals.lean).
  GIVEN WITH THE SEED: the statements are not yours to turn. If you find one false, say at which input.
  Laid BY PROGRAM, IN A SANDBOX (cutbox-rows.mjs): the forced cells as the released guide's own fill.sh prints them over the translation 7e1a524f3b0a9bde… (all of the seat's roots in one cut). By AI agents, Wed Nov 11 2026. No macro, syntax, notation, axiom, sorry.
-/
import Derived.Test.YtmphcolclkpnnaaChecked
import GoSem.Claim
import GoSem.ClaimJoined
import GoSem.ClaimMapViews
import Derived.JoinedTies
import Derived.KernelRfl
namespace Go.Proofs.Ytmphcolclkpnnaa
/- THE CELL 'sum', in the pinned program and in every row, IS THE sha256 OF THE DUMP (.gsa) THAT YtmphcolclkpnnaaProg.lean LOADS. Nothing in Lean hashes anything: it is a label: what it is worth is what the hold of that sum in a sandbox is worth. -/
noncomputable def Try.pinned : Pinned := { name := "ytmphcolclkpnnaa", sum := "7e1a524f3b0a9bdeec0a62e4d1ceeebe781a677449e0dc2ee59ac4e4174a9256", checked := Try.checked }
namespace Rows
def none {H : Type} : Left H := { results := [], args := [] }

/-- 'sprocketlaw11.TagParts': WHATEVER THE INPUT: true; the input reads as it did. -/
def tagPartsSpec : ChangeSpec := { name := "tagParts", fn := fun _ => fun
  | [d1, d2, d3] => { results := [.lit (.bool true)], args := [d1, d2, d3] }
  | _ => none }
def tagPartsRow : OpenClaim := { program := "ytmphcolclkpnnaa", sum := "7e1a524f3b0a9bdeec0a62e4d1ceeebe781a677449e0dc2ee59ac4e4174a9256", func := "sprocket/sprocketlaw11.TagParts", spec := "tagParts", apart := false }
def TagPartsSaid : Prop := tagPartsRow.holds Try.pinned (OpenSpec.ofChange tagPartsSpec)

/-- ITS FALSE NEIGHBOUR: 'it returns false'. Refute it at one input. -/
def tagPartsWrong : ChangeSpec := { name := "tagParts", fn := fun _ => fun
  | [d1, d2, d3] => { results := [.lit (.bool false)], args := [d1, d2, d3] }
  | _ => none }
def TagPartsWrongFalsely : Prop := tagPartsRow.holds Try.pinned (OpenSpec.ofChange tagPartsWrong)

/-- 'sprocketlaw11.TagKinds': WHATEVER THE INPUT: true; the input reads as it did. -/
def tagKindsSpec : ChangeSpec := { name := "tagKinds", fn := fun _ => fun
  | [d1, d2] => { results := [.lit (.bool true)], args := [d1, d2] }
  | _ => none }
def tagKindsRow : OpenClaim := { program := "ytmphcolclkpnnaa", sum := "7e1a524f3b0a9bdeec0a62e4d1ceeebe781a677449e0dc2ee59ac4e4174a9256", func := "sprocket/sprocketlaw11.TagKinds", spec := "tagKinds", apart := false }
def TagKindsSaid : Prop := tagKindsRow.holds Try.pinned (OpenSpec.ofChange tagKindsSpec)

/-- ITS FALSE NEIGHBOUR: 'it returns false'. Refute it at one input. -/
def tagKindsWrong : ChangeSpec := { name := "tagKinds", fn := fun _ => fun
  | [d1, d2] => { results := [.lit (.bool false)], args := [d1, d2] }
  | _ => none }
def TagKindsWrongFalsely : Prop := tagKindsRow.holds Try.pinned (OpenSpec.ofChange tagKindsWrong)

/-- 'sprocketlaw11.TagBack': WHATEVER THE INPUT: true; the input reads as it did. -/
def tagBackSpec : ChangeSpec := { name := "tagBack", fn := fun _ => fun
  | [d1, d2, d3] => { results := [.lit (.bool true)], args := [d1, d2, d3] }
  | _ => none }
def tagBackRow : OpenClaim := { program := "ytmphcolclkpnnaa", sum := "7e1a524f3b0a9bdeec0a62e4d1ceeebe781a677449e0dc2ee59ac4e4174a9256", func := "sprocket/sprocketlaw11.TagBack", spec := "tagBack", apart := false }
def TagBackSaid : Prop := tagBackRow.holds Try.pinned (OpenSpec.ofChange tagBackSpec)

/-- ITS FALSE NEIGHBOUR: 'it returns false'. Refute it at one input. -/
def tagBackWrong : ChangeSpec := { name := "tagBack", fn := fun _ => fun
  | [d1, d2, d3] => { results := [.lit (.bool false)], args := [d1, d2, d3] }
  | _ => none }
def TagBackWrongFalsely : Prop := tagBackRow.holds Try.pinned (OpenSpec.ofChange tagBackWrong)

/-- 'sprocketlaw13.RouteAll': WHATEVER THE INPUT: true; the input reads as it did. -/
def routeAllSpec : ChangeSpec := { name := "routeAll", fn := fun _ => fun
  | [d1, d2] => { results := [.lit (.bool true)], args := [d1, d2] }
  | _ => none }
def routeAllRow : OpenClaim := { program := "ytmphcolclkpnnaa", sum := "7e1a524f3b0a9bdeec0a62e4d1ceeebe781a677449e0dc2ee59ac4e4174a9256", func := "sprocket/sprocketlaw13.RouteAll", spec := "routeAll", unfollowed := true, recurses := true, apart := false }
def RouteAllSaid : Prop := routeAllRow.holds Try.pinned (OpenSpec.ofChange routeAllSpec)

/-- ITS FALSE NEIGHBOUR: 'it returns false'. Refute it at one input. -/
def routeAllWrong : ChangeSpec := { name := "routeAll", fn := fun _ => fun
  | [d1, d2] => { results := [.lit (.bool false)], args := [d1, d2] }
  | _ => none }
def RouteAllWrongFalsely : Prop := routeAllRow.holds Try.pinned (OpenSpec.ofChange routeAllWrong)

/-- 'sprocketlaw21.CrowdActs': WHATEVER THE INPUT: true; the input reads as it did. -/
def crowdActsSpec : ChangeSpec := { name := "crowdActs", fn := fun _ => fun
  | [d1, d2, d3] => { results := [.lit (.bool true)], args := [d1, d2, d3] }
  | _ => none }
def crowdActsRow : OpenClaim := { program := "ytmphcolclkpnnaa", sum := "7e1a524f3b0a9bdeec0a62e4d1ceeebe781a677449e0dc2ee59ac4e4174a9256", func := "sprocket/sprocketlaw21.CrowdActs", spec := "crowdActs", apart := false }
def CrowdActsSaid : Prop := crowdActsRow.holds Try.pinned (OpenSpec.ofChange crowdActsSpec)

/-- ITS FALSE NEIGHBOUR: 'it returns false'. Refute it at one input. -/
def crowdActsWrong : ChangeSpec := { name := "crowdActs", fn := fun _ => fun
  | [d1, d2, d3] => { results := [.lit (.bool false)], args := [d1, d2, d3] }
  | _ => none }
def CrowdActsWrongFalsely : Prop := crowdActsRow.holds Try.pinned (OpenSpec.ofChange crowdActsWrong)

/-- 'sprocketlaw04.PackTells': WHATEVER THE INPUT: true; the input reads as it did. -/
def packTellsSpec : ChangeSpec := { name := "packTells", fn := fun _ => fun
  | [d1, d2, d3] => { results := [.lit (.bool true)], args := [d1, d2, d3] }
  | _ => none }
def packTellsRow : OpenClaim := { program := "ytmphcolclkpnnaa", sum := "7e1a524f3b0a9bdeec0a62e4d1ceeebe781a677449e0dc2ee59ac4e4174a9256", func := "sprocket/sprocketlaw04.PackTells", spec := "packTells", apart := false }
def PackTellsSaid : Prop := packTellsRow.holds Try.pinned (OpenSpec.ofChange packTellsSpec)

/-- ITS FALSE NEIGHBOUR: 'it returns false'. Refute it at one input. -/
def packTellsWrong : ChangeSpec := { name := "packTells", fn := fun _ => fun
  | [d1, d2, d3] => { results := [.lit (.bool false)], args := [d1, d2, d3] }
  | _ => none }
def PackTellsWrongFalsely : Prop := packTellsRow.holds Try.pinned (OpenSpec.ofChange packTellsWrong)

/-- 'sprocketlaw04.PackBack': WHATEVER THE INPUT: true; the input reads as it did. -/
def packBackSpec : ChangeSpec := { name := "packBack", fn := fun _ => fun
  | [d1, d2, d3] => { results := [.lit (.bool true)], args := [d1, d2, d3] }
  | _ => none }
def packBackRow : OpenClaim := { program := "ytmphcolclkpnnaa", sum := "7e1a524f3b0a9bdeec0a62e4d1ceeebe781a677449e0dc2ee59ac4e4174a9256", func := "sprocket/sprocketlaw04.PackBack", spec := "packBack", apart := false }
def PackBackSaid : Prop := packBackRow.holds Try.pinned (OpenSpec.ofChange packBackSpec)

/-- ITS FALSE NEIGHBOUR: 'it returns false'. Refute it at one input. -/
def packBackWrong : ChangeSpec := { name := "packBack", fn := fun _ => fun
  | [d1, d2, d3] => { results := [.lit (.bool false)], args := [d1, d2, d3] }
  | _ => none }
def PackBackWrongFalsely : Prop := packBackRow.holds Try.pinned (OpenSpec.ofChange packBackWrong)

/-- 'sprocketlaw15.TableTells': WHATEVER THE INPUT: true; the input reads as it did. -/
def tableTellsSpec : ChangeSpec := { name := "tableTells", fn := fun _ => fun
  | [d1, d2, d3] => { results := [.lit (.bool true)], args := [d1, d2, d3] }
  | _ => none }
def tableTellsRow : OpenClaim := { program := "ytmphcolclkpnnaa", sum := "7e1a524f3b0a9bdeec0a62e4d1ceeebe781a677449e0dc2ee59ac4e4174a9256", func := "sprocket/sprocketlaw15.TableTells", spec := "tableTells", apart := false }
def TableTellsSaid : Prop := tableTellsRow.holds Try.pinned (OpenSpec.ofChange tableTellsSpec)

/-- ITS FALSE NEIGHBOUR: 'it returns false'. Refute it at one input. -/
def tableTellsWrong : ChangeSpec := { name := "tableTells", fn := fun _ => fun
  | [d1, d2, d3] => { results := [.lit (.bool false)], args := [d1, d2, d3] }
  | _ => none }
def TableTellsWrongFalsely : Prop := tableTellsRow.holds Try.pinned (OpenSpec.ofChange tableTellsWrong)

/-- 'sprocketlaw15.TableParts': WHATEVER THE INPUT: true; the input reads as it did. -/
def tablePartsSpec : ChangeSpec := { name := "tableParts", fn := fun _ => fun
  | [d1, d2] => { results := [.lit (.bool true)], args := [d1, d2] }
  | _ => none }
def tablePartsRow : OpenClaim := { program := "ytmphcolclkpnnaa", sum := "7e1a524f3b0a9bdeec0a62e4d1ceeebe781a677449e0dc2ee59ac4e4174a9256", func := "sprocket/sprocketlaw15.TableParts", spec := "tableParts", apart := false }
def TablePartsSaid : Prop := tablePartsRow.holds Try.pinned (OpenSpec.ofChange tablePartsSpec)

/-- ITS FALSE NEIGHBOUR: 'it returns false'. Refute it at one input. -/
def tablePartsWrong : ChangeSpec := { name := "tableParts", fn := fun _ => fun
  | [d1, d2] => { results := [.lit (.bool false)], args := [d1, d2] }
  | _ => none }
def TablePartsWrongFalsely : Prop := tablePartsRow.holds Try.pinned (OpenSpec.ofChange tablePartsWrong)

/- THE SECOND FORM. 'bulk': how many values and letters a reading holds, each counted each time it is reached (what is shared counts as often as it is met; a slice's spare places count too). A statement '..UptoSaid' is the law's where the arguments, and the package variables that the reading takes, are together of bulk at most 1048576: NARROWER than '..Said'. Prove '..Said' where nothing that the law and all that it calls make is longer than what came in: it says more and counts as full. Else prove '..UptoSaid'. A law counts once. -/
mutual
def uptoBulk {H : Type} : DataW H → Nat
  | .lit (.string bytes) => bytes.length + 1
  | .lit _ => 1
  | .nil => 1
  | .ptr d => uptoBulk d + 1
  | .slice elems spare => uptoBulkAll elems + uptoBulkAll spare + 1
  | .agg parts => uptoBulkAll parts + 1
  | .iface _ d => uptoBulk d + 1
  | .map entries => uptoBulkEntries entries + 1
  | .held _ => 1
def uptoBulkAll {H : Type} : List (DataW H) → Nat
  | [] => 0
  | d :: r => uptoBulk d + uptoBulkAll r
def uptoBulkEntries {H : Type} : List (Lit × DataW H) → Nat
  | [] => 0
  | x :: r => uptoBulkEntry x + uptoBulkEntries r
def uptoBulkEntry {H : Type} : Lit × DataW H → Nat
  | (.string bytes, d) => bytes.length + uptoBulk d + 1
  | (_, d) => uptoBulk d + 1
 end
def uptoSmall : (H : Type) → List (DataW H) → Bool := fun _ ds => decide (uptoBulkAll ds ≤ 1048576)
def OpenSpec.upto (s : _root_.Go.ChangeSpec) : _root_.Go.OpenSpec := { _root_.Go.OpenSpec.ofChange s with cond := some uptoSmall }

/-- 'sprocketlaw11.TagParts', WHERE WHAT IT READS IS OF BULK AT MOST 1048576: true; the input reads as it did. -/
def tagPartsUptoRow : OpenClaim := { program := "ytmphcolclkpnnaa", sum := "7e1a524f3b0a9bdeec0a62e4d1ceeebe781a677449e0dc2ee59ac4e4174a9256", func := "sprocket/sprocketlaw11.TagParts", spec := "tagParts", apart := false, narrowed := true }
def TagPartsUptoSaid : Prop := tagPartsUptoRow.holds Try.pinned (OpenSpec.upto tagPartsSpec)

/-- 'sprocketlaw11.TagKinds', WHERE WHAT IT READS IS OF BULK AT MOST 1048576: true; the input reads as it did. -/
def tagKindsUptoRow : OpenClaim := { program := "ytmphcolclkpnnaa", sum := "7e1a524f3b0a9bdeec0a62e4d1ceeebe781a677449e0dc2ee59ac4e4174a9256", func := "sprocket/sprocketlaw11.TagKinds", spec := "tagKinds", apart := false, narrowed := true }
def TagKindsUptoSaid : Prop := tagKindsUptoRow.holds Try.pinned (OpenSpec.upto tagKindsSpec)

/-- 'sprocketlaw11.TagBack', WHERE WHAT IT READS IS OF BULK AT MOST 1048576: true; the input reads as it did. -/
def tagBackUptoRow : OpenClaim := { program := "ytmphcolclkpnnaa", sum := "7e1a524f3b0a9bdeec0a62e4d1ceeebe781a677449e0dc2ee59ac4e4174a9256", func := "sprocket/sprocketlaw11.TagBack", spec := "tagBack", apart := false, narrowed := true }
def TagBackUptoSaid : Prop := tagBackUptoRow.holds Try.pinned (OpenSpec.upto tagBackSpec)

/-- 'sprocketlaw13.RouteAll', WHERE WHAT IT READS IS OF BULK AT MOST 1048576: true; the input reads as it did. -/
def routeAllUptoRow : OpenClaim := { program := "ytmphcolclkpnnaa", sum := "7e1a524f3b0a9bdeec0a62e4d1ceeebe781a677449e0dc2ee59ac4e4174a9256", func := "sprocket/sprocketlaw13.RouteAll", spec := "routeAll", unfollowed := true, recurses := true, apart := false, narrowed := true }
def RouteAllUptoSaid : Prop := routeAllUptoRow.holds Try.pinned (OpenSpec.upto routeAllSpec)

/-- 'sprocketlaw21.CrowdActs', WHERE WHAT IT READS IS OF BULK AT MOST 1048576: true; the input reads as it did. -/
def crowdActsUptoRow : OpenClaim := { program := "ytmphcolclkpnnaa", sum := "7e1a524f3b0a9bdeec0a62e4d1ceeebe781a677449e0dc2ee59ac4e4174a9256", func := "sprocket/sprocketlaw21.CrowdActs", spec := "crowdActs", apart := false, narrowed := true }
def CrowdActsUptoSaid : Prop := crowdActsUptoRow.holds Try.pinned (OpenSpec.upto crowdActsSpec)

/-- 'sprocketlaw04.PackTells', WHERE WHAT IT READS IS OF BULK AT MOST 1048576: true; the input reads as it did. -/
def packTellsUptoRow : OpenClaim := { program := "ytmphcolclkpnnaa", sum := "7e1a524f3b0a9bdeec0a62e4d1ceeebe781a677449e0dc2ee59ac4e4174a9256", func := "sprocket/sprocketlaw04.PackTells", spec := "packTells", apart := false, narrowed := true }
def PackTellsUptoSaid : Prop := packTellsUptoRow.holds Try.pinned (OpenSpec.upto packTellsSpec)

/-- 'sprocketlaw04.PackBack', WHERE WHAT IT READS IS OF BULK AT MOST 1048576: true; the input reads as it did. -/
def packBackUptoRow : OpenClaim := { program := "ytmphcolclkpnnaa", sum := "7e1a524f3b0a9bdeec0a62e4d1ceeebe781a677449e0dc2ee59ac4e4174a9256", func := "sprocket/sprocketlaw04.PackBack", spec := "packBack", apart := false, narrowed := true }
def PackBackUptoSaid : Prop := packBackUptoRow.holds Try.pinned (OpenSpec.upto packBackSpec)

/-- 'sprocketlaw15.TableTells', WHERE WHAT IT READS IS OF BULK AT MOST 1048576: true; the input reads as it did. -/
def tableTellsUptoRow : OpenClaim := { program := "ytmphcolclkpnnaa", sum := "7e1a524f3b0a9bdeec0a62e4d1ceeebe781a677449e0dc2ee59ac4e4174a9256", func := "sprocket/sprocketlaw15.TableTells", spec := "tableTells", apart := false, narrowed := true }
def TableTellsUptoSaid : Prop := tableTellsUptoRow.holds Try.pinned (OpenSpec.upto tableTellsSpec)

/-- 'sprocketlaw15.TableParts', WHERE WHAT IT READS IS OF BULK AT MOST 1048576: true; the input reads as it did. -/
def tablePartsUptoRow : OpenClaim := { program := "ytmphcolclkpnnaa", sum := "7e1a524f3b0a9bdeec0a62e4d1ceeebe781a677449e0dc2ee59ac4e4174a9256", func := "sprocket/sprocketlaw15.TableParts", spec := "tableParts", apart := false, narrowed := true }
def TablePartsUptoSaid : Prop := tablePartsUptoRow.holds Try.pinned (OpenSpec.upto tablePartsSpec)

end Rows
end Go.Proofs.Ytmphcolclkpnnaa
