/-
  No cell of these rows narrows 'for every input' (looked for: loops, veiled, ifaces, maps, wideKeys, modest, calm, conditions, laid).
  DERIVED. THE GIVEN ROWS OF THIS SEAT. 8 by the template 'for every input the law returns true; each argument reads behind the call as it read before'; 0 by the template 'total and deterministic' (their statements: YtnhdjmpbmecnoaaTotals.lean).
  GIVEN WITH THE SEED: the statements are not yours to turn. If you find one false, say at which input.
  Laid BY PROGRAM, IN A SANDBOX (cutbox-rows.mjs): the forced cells as the released guide's own fill.sh prints them over the translation af0332e8929b17bc… (all of the seat's roots in one cut). By AI agents, Wed Nov 11 2026. No macro, syntax, notation, axiom, sorry.
-/
import Derived.Test.YtnhdjmpbmecnoaaChecked
import GoSem.Claim
import GoSem.ClaimJoined
import GoSem.ClaimMapViews
import Derived.JoinedTies
import Derived.KernelRfl
namespace Go.Proofs.Ytnhdjmpbmecnoaa
/- THE CELL 'sum', in the pinned program and in every row, IS THE sha256 OF THE DUMP (.gsa) THAT YtnhdjmpbmecnoaaProg.lean LOADS. Nothing in Lean hashes anything: it is a label: what it is worth is what the hold of that sum in a sandbox is worth. -/
noncomputable def Try.pinned : Pinned := { name := "ytnhdjmpbmecnoaa", sum := "af0332e8929b17bc03b347a32c11bda796f9b549e4b4b28d2ae10d36f8da4b88", checked := Try.checked }
namespace Rows
def none {H : Type} : Left H := { results := [], args := [] }

/-- 'sprocketlaw04.PackTells': WHATEVER THE INPUT: true; the input reads as it did. -/
def packTellsSpec : ChangeSpec := { name := "packTells", fn := fun _ => fun
  | [d1, d2, d3] => { results := [.lit (.bool true)], args := [d1, d2, d3] }
  | _ => none }
def packTellsRow : OpenClaim := { program := "ytnhdjmpbmecnoaa", sum := "af0332e8929b17bc03b347a32c11bda796f9b549e4b4b28d2ae10d36f8da4b88", func := "sprocket/sprocketlaw04.PackTells", spec := "packTells", apart := false }
def PackTellsSaid : Prop := packTellsRow.holds Try.pinned (OpenSpec.ofChange packTellsSpec)

/-- ITS FALSE NEIGHBOUR: 'it returns false'. Refute it at one input. -/
def packTellsWrong : ChangeSpec := { name := "packTells", fn := fun _ => fun
  | [d1, d2, d3] => { results := [.lit (.bool false)], args := [d1, d2, d3] }
  | _ => none }
def PackTellsWrongFalsely : Prop := packTellsRow.holds Try.pinned (OpenSpec.ofChange packTellsWrong)

/-- 'sprocketlaw04.PackBack': WHATEVER THE INPUT: true; the input reads as it did. -/
def packBackSpec : ChangeSpec := { name := "packBack", fn := fun _ => fun
  | [d1, d2, d3] => { results := [.lit (.bool true)], args := [d1, d2, d3] }
  | _ => none }
def packBackRow : OpenClaim := { program := "ytnhdjmpbmecnoaa", sum := "af0332e8929b17bc03b347a32c11bda796f9b549e4b4b28d2ae10d36f8da4b88", func := "sprocket/sprocketlaw04.PackBack", spec := "packBack", apart := false }
def PackBackSaid : Prop := packBackRow.holds Try.pinned (OpenSpec.ofChange packBackSpec)

/-- ITS FALSE NEIGHBOUR: 'it returns false'. Refute it at one input. -/
def packBackWrong : ChangeSpec := { name := "packBack", fn := fun _ => fun
  | [d1, d2, d3] => { results := [.lit (.bool false)], args := [d1, d2, d3] }
  | _ => none }
def PackBackWrongFalsely : Prop := packBackRow.holds Try.pinned (OpenSpec.ofChange packBackWrong)

/-- 'sprocketlaw18.ReaderActs': WHATEVER THE INPUT: true; the input reads as it did. -/
def readerActsSpec : ChangeSpec := { name := "readerActs", fn := fun _ => fun
  | [d1, d2] => { results := [.lit (.bool true)], args := [d1, d2] }
  | _ => none }
def readerActsRow : OpenClaim := { program := "ytnhdjmpbmecnoaa", sum := "af0332e8929b17bc03b347a32c11bda796f9b549e4b4b28d2ae10d36f8da4b88", func := "sprocket/sprocketlaw18.ReaderActs", spec := "readerActs", apart := false }
def ReaderActsSaid : Prop := readerActsRow.holds Try.pinned (OpenSpec.ofChange readerActsSpec)

/-- ITS FALSE NEIGHBOUR: 'it returns false'. Refute it at one input. -/
def readerActsWrong : ChangeSpec := { name := "readerActs", fn := fun _ => fun
  | [d1, d2] => { results := [.lit (.bool false)], args := [d1, d2] }
  | _ => none }
def ReaderActsWrongFalsely : Prop := readerActsRow.holds Try.pinned (OpenSpec.ofChange readerActsWrong)

/-- 'sprocketlaw16.BoxTells': WHATEVER THE INPUT: true; the input reads as it did. -/
def boxTellsSpec : ChangeSpec := { name := "boxTells", fn := fun _ => fun
  | [d1, d2, d3] => { results := [.lit (.bool true)], args := [d1, d2, d3] }
  | _ => none }
def boxTellsRow : OpenClaim := { program := "ytnhdjmpbmecnoaa", sum := "af0332e8929b17bc03b347a32c11bda796f9b549e4b4b28d2ae10d36f8da4b88", func := "sprocket/sprocketlaw16.BoxTells", spec := "boxTells", apart := false }
def BoxTellsSaid : Prop := boxTellsRow.holds Try.pinned (OpenSpec.ofChange boxTellsSpec)

/-- ITS FALSE NEIGHBOUR: 'it returns false'. Refute it at one input. -/
def boxTellsWrong : ChangeSpec := { name := "boxTells", fn := fun _ => fun
  | [d1, d2, d3] => { results := [.lit (.bool false)], args := [d1, d2, d3] }
  | _ => none }
def BoxTellsWrongFalsely : Prop := boxTellsRow.holds Try.pinned (OpenSpec.ofChange boxTellsWrong)

/-- 'sprocketlaw16.BoxBack': WHATEVER THE INPUT: true; the input reads as it did. -/
def boxBackSpec : ChangeSpec := { name := "boxBack", fn := fun _ => fun
  | [d1, d2, d3] => { results := [.lit (.bool true)], args := [d1, d2, d3] }
  | _ => none }
def boxBackRow : OpenClaim := { program := "ytnhdjmpbmecnoaa", sum := "af0332e8929b17bc03b347a32c11bda796f9b549e4b4b28d2ae10d36f8da4b88", func := "sprocket/sprocketlaw16.BoxBack", spec := "boxBack", apart := false }
def BoxBackSaid : Prop := boxBackRow.holds Try.pinned (OpenSpec.ofChange boxBackSpec)

/-- ITS FALSE NEIGHBOUR: 'it returns false'. Refute it at one input. -/
def boxBackWrong : ChangeSpec := { name := "boxBack", fn := fun _ => fun
  | [d1, d2, d3] => { results := [.lit (.bool false)], args := [d1, d2, d3] }
  | _ => none }
def BoxBackWrongFalsely : Prop := boxBackRow.holds Try.pinned (OpenSpec.ofChange boxBackWrong)

/-- 'sprocketlaw17.MakerActs': WHATEVER THE INPUT: true; the input reads as it did. -/
def makerActsSpec : ChangeSpec := { name := "makerActs", fn := fun _ => fun
  | [d1, d2, d3] => { results := [.lit (.bool true)], args := [d1, d2, d3] }
  | _ => none }
def makerActsRow : OpenClaim := { program := "ytnhdjmpbmecnoaa", sum := "af0332e8929b17bc03b347a32c11bda796f9b549e4b4b28d2ae10d36f8da4b88", func := "sprocket/sprocketlaw17.MakerActs", spec := "makerActs", unfollowed := true, recurses := true, apart := false }
def MakerActsSaid : Prop := makerActsRow.holds Try.pinned (OpenSpec.ofChange makerActsSpec)

/-- ITS FALSE NEIGHBOUR: 'it returns false'. Refute it at one input. -/
def makerActsWrong : ChangeSpec := { name := "makerActs", fn := fun _ => fun
  | [d1, d2, d3] => { results := [.lit (.bool false)], args := [d1, d2, d3] }
  | _ => none }
def MakerActsWrongFalsely : Prop := makerActsRow.holds Try.pinned (OpenSpec.ofChange makerActsWrong)

/-- 'sprocketlaw17.MakerMakes': WHATEVER THE INPUT: true; the input reads as it did. -/
def makerMakesSpec : ChangeSpec := { name := "makerMakes", fn := fun _ => fun
  | [d1, d2, d3] => { results := [.lit (.bool true)], args := [d1, d2, d3] }
  | _ => none }
def makerMakesRow : OpenClaim := { program := "ytnhdjmpbmecnoaa", sum := "af0332e8929b17bc03b347a32c11bda796f9b549e4b4b28d2ae10d36f8da4b88", func := "sprocket/sprocketlaw17.MakerMakes", spec := "makerMakes", unfollowed := true, recurses := true, apart := false }
def MakerMakesSaid : Prop := makerMakesRow.holds Try.pinned (OpenSpec.ofChange makerMakesSpec)

/-- ITS FALSE NEIGHBOUR: 'it returns false'. Refute it at one input. -/
def makerMakesWrong : ChangeSpec := { name := "makerMakes", fn := fun _ => fun
  | [d1, d2, d3] => { results := [.lit (.bool false)], args := [d1, d2, d3] }
  | _ => none }
def MakerMakesWrongFalsely : Prop := makerMakesRow.holds Try.pinned (OpenSpec.ofChange makerMakesWrong)

/-- 'sprocketlaw18.ReaderReads': WHATEVER THE INPUT: true; the input reads as it did. -/
def readerReadsSpec : ChangeSpec := { name := "readerReads", fn := fun _ => fun
  | [d1, d2, d3] => { results := [.lit (.bool true)], args := [d1, d2, d3] }
  | _ => none }
def readerReadsRow : OpenClaim := { program := "ytnhdjmpbmecnoaa", sum := "af0332e8929b17bc03b347a32c11bda796f9b549e4b4b28d2ae10d36f8da4b88", func := "sprocket/sprocketlaw18.ReaderReads", spec := "readerReads", unfollowed := true, recurses := true, apart := false }
def ReaderReadsSaid : Prop := readerReadsRow.holds Try.pinned (OpenSpec.ofChange readerReadsSpec)

/-- ITS FALSE NEIGHBOUR: 'it returns false'. Refute it at one input. -/
def readerReadsWrong : ChangeSpec := { name := "readerReads", fn := fun _ => fun
  | [d1, d2, d3] => { results := [.lit (.bool false)], args := [d1, d2, d3] }
  | _ => none }
def ReaderReadsWrongFalsely : Prop := readerReadsRow.holds Try.pinned (OpenSpec.ofChange readerReadsWrong)

/- THE SECOND FORM. 'bulk': how many values and letters a reading holds, each counted each time it is reached (what is shared counts as often as it is met; a slice's spare places count too). A statement '..UptoSaid' is the law's where the arguments, and the package variables that the reading takes, are together of bulk at most 1048576: NARROWER than '..Said'. Prove '..Said' where nothing that the law and all that it calls make is longer than what came in: it says more and counts as full. Else prove '..UptoSaid'. A law counts once. -/
mutual
def uptoBulk {H : Type} : DataW H → Nat
  | .lit (.string bytes) => bytes.length + 1
  | .lit _ => 1
  | .nil => 1
  | .ptr d => uptoBulk d + 1
  | .slice elems spare => uptoBulkAll elems + uptoBulkAll spare + 1
  | .agg parts => uptoBulkAll parts + 1
  | .iface _ d => uptoBulk d + 1
  | .map entries => uptoBulkEntries entries + 1
  | .held _ => 1
def uptoBulkAll {H : Type} : List (DataW H) → Nat
  | [] => 0
  | d :: r => uptoBulk d + uptoBulkAll r
def uptoBulkEntries {H : Type} : List (Lit × DataW H) → Nat
  | [] => 0
  | x :: r => uptoBulkEntry x + uptoBulkEntries r
def uptoBulkEntry {H : Type} : Lit × DataW H → Nat
  | (.string bytes, d) => bytes.length + uptoBulk d + 1
  | (_, d) => uptoBulk d + 1
 end
def uptoSmall : (H : Type) → List (DataW H) → Bool := fun _ ds => decide (uptoBulkAll ds ≤ 1048576)
def OpenSpec.upto (s : _root_.Go.ChangeSpec) : _root_.Go.OpenSpec := { _root_.Go.OpenSpec.ofChange s with cond := some uptoSmall }

/-- 'sprocketlaw04.PackTells', WHERE WHAT IT READS IS OF BULK AT MOST 1048576: true; the input reads as it did. -/
def packTellsUptoRow : OpenClaim := { program := "ytnhdjmpbmecnoaa", sum := "af0332e8929b17bc03b347a32c11bda796f9b549e4b4b28d2ae10d36f8da4b88", func := "sprocket/sprocketlaw04.PackTells", spec := "packTells", apart := false, narrowed := true }
def PackTellsUptoSaid : Prop := packTellsUptoRow.holds Try.pinned (OpenSpec.upto packTellsSpec)

/-- 'sprocketlaw04.PackBack', WHERE WHAT IT READS IS OF BULK AT MOST 1048576: true; the input reads as it did. -/
def packBackUptoRow : OpenClaim := { program := "ytnhdjmpbmecnoaa", sum := "af0332e8929b17bc03b347a32c11bda796f9b549e4b4b28d2ae10d36f8da4b88", func := "sprocket/sprocketlaw04.PackBack", spec := "packBack", apart := false, narrowed := true }
def PackBackUptoSaid : Prop := packBackUptoRow.holds Try.pinned (OpenSpec.upto packBackSpec)

/-- 'sprocketlaw18.ReaderActs', WHERE WHAT IT READS IS OF BULK AT MOST 1048576: true; the input reads as it did. -/
def readerActsUptoRow : OpenClaim := { program := "ytnhdjmpbmecnoaa", sum := "af0332e8929b17bc03b347a32c11bda796f9b549e4b4b28d2ae10d36f8da4b88", func := "sprocket/sprocketlaw18.ReaderActs", spec := "readerActs", apart := false, narrowed := true }
def ReaderActsUptoSaid : Prop := readerActsUptoRow.holds Try.pinned (OpenSpec.upto readerActsSpec)

/-- 'sprocketlaw16.BoxTells', WHERE WHAT IT READS IS OF BULK AT MOST 1048576: true; the input reads as it did. -/
def boxTellsUptoRow : OpenClaim := { program := "ytnhdjmpbmecnoaa", sum := "af0332e8929b17bc03b347a32c11bda796f9b549e4b4b28d2ae10d36f8da4b88", func := "sprocket/sprocketlaw16.BoxTells", spec := "boxTells", apart := false, narrowed := true }
def BoxTellsUptoSaid : Prop := boxTellsUptoRow.holds Try.pinned (OpenSpec.upto boxTellsSpec)

/-- 'sprocketlaw16.BoxBack', WHERE WHAT IT READS IS OF BULK AT MOST 1048576: true; the input reads as it did. -/
def boxBackUptoRow : OpenClaim := { program := "ytnhdjmpbmecnoaa", sum := "af0332e8929b17bc03b347a32c11bda796f9b549e4b4b28d2ae10d36f8da4b88", func := "sprocket/sprocketlaw16.BoxBack", spec := "boxBack", apart := false, narrowed := true }
def BoxBackUptoSaid : Prop := boxBackUptoRow.holds Try.pinned (OpenSpec.upto boxBackSpec)

/-- 'sprocketlaw17.MakerActs', WHERE WHAT IT READS IS OF BULK AT MOST 1048576: true; the input reads as it did. -/
def makerActsUptoRow : OpenClaim := { program := "ytnhdjmpbmecnoaa", sum := "af0332e8929b17bc03b347a32c11bda796f9b549e4b4b28d2ae10d36f8da4b88", func := "sprocket/sprocketlaw17.MakerActs", spec := "makerActs", unfollowed := true, recurses := true, apart := false, narrowed := true }
def MakerActsUptoSaid : Prop := makerActsUptoRow.holds Try.pinned (OpenSpec.upto makerActsSpec)

/-- 'sprocketlaw17.MakerMakes', WHERE WHAT IT READS IS OF BULK AT MOST 1048576: true; the input reads as it did. -/
def makerMakesUptoRow : OpenClaim := { program := "ytnhdjmpbmecnoaa", sum := "af0332e8929b17bc03b347a32c11bda796f9b549e4b4b28d2ae10d36f8da4b88", func := "sprocket/sprocketlaw17.MakerMakes", spec := "makerMakes", unfollowed := true, recurses := true, apart := false, narrowed := true }
def MakerMakesUptoSaid : Prop := makerMakesUptoRow.holds Try.pinned (OpenSpec.upto makerMakesSpec)

/-- 'sprocketlaw18.ReaderReads', WHERE WHAT IT READS IS OF BULK AT MOST 1048576: true; the input reads as it did. -/
def readerReadsUptoRow : OpenClaim := { program := "ytnhdjmpbmecnoaa", sum := "af0332e8929b17bc03b347a32c11bda796f9b549e4b4b28d2ae10d36f8da4b88", func := "sprocket/sprocketlaw18.ReaderReads", spec := "readerReads", unfollowed := true, recurses := true, apart := false, narrowed := true }
def ReaderReadsUptoSaid : Prop := readerReadsUptoRow.holds Try.pinned (OpenSpec.upto readerReadsSpec)

end Rows
end Go.Proofs.Ytnhdjmpbmecnoaa
