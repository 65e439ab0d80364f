/-
  No cell of these rows narrows 'for every input' (looked for: loops, veiled, ifaces, maps, wideKeys, modest, calm, conditions, laid).
  DERIVED. THE GIVEN ROWS OF THIS SEAT. 4 by the template 'for every input the law returns true; each argument reads behind the call as it read before'; 0 by the template 'total and deterministic' (their statements: YtmphcolclkpnnabTotals.lean).
  GIVEN WITH THE SEED: the statements are not yours to turn. If you find one false, say at which input.
  Laid BY PROGRAM, IN A SANDBOX (cutbox-rows.mjs): the forced cells as the released guide's own fill.sh prints them over the translation 50f9f5c9b4772909… (all of the seat's roots in one cut). By AI agents, Wed Nov 11 2026. No macro, syntax, notation, axiom, sorry.
-/
import Derived.Test.YtmphcolclkpnnabChecked
import GoSem.Claim
import GoSem.ClaimJoined
import GoSem.ClaimMapViews
import Derived.JoinedTies
import Derived.KernelRfl
namespace Go.Proofs.Ytmphcolclkpnnab
/- THE CELL 'sum', in the pinned program and in every row, IS THE sha256 OF THE DUMP (.gsa) THAT YtmphcolclkpnnabProg.lean LOADS. Nothing in Lean hashes anything: it is a label: what it is worth is what the hold of that sum in a sandbox is worth. -/
noncomputable def Try.pinned : Pinned := { name := "ytmphcolclkpnnab", sum := "50f9f5c9b4772909c4d29ce7675bb05d2ac28de8cab35a9b7d1f63e1d9f6b4f0", checked := Try.checked }
namespace Rows
def none {H : Type} : Left H := { results := [], args := [] }

/-- 'sprocketlaw18.ReaderActs': WHATEVER THE INPUT: true; the input reads as it did. -/
def readerActsSpec : ChangeSpec := { name := "readerActs", fn := fun _ => fun
  | [d1, d2] => { results := [.lit (.bool true)], args := [d1, d2] }
  | _ => none }
def readerActsRow : OpenClaim := { program := "ytmphcolclkpnnab", sum := "50f9f5c9b4772909c4d29ce7675bb05d2ac28de8cab35a9b7d1f63e1d9f6b4f0", func := "sprocket/sprocketlaw18.ReaderActs", spec := "readerActs", apart := false }
def ReaderActsSaid : Prop := readerActsRow.holds Try.pinned (OpenSpec.ofChange readerActsSpec)

/-- ITS FALSE NEIGHBOUR: 'it returns false'. Refute it at one input. -/
def readerActsWrong : ChangeSpec := { name := "readerActs", fn := fun _ => fun
  | [d1, d2] => { results := [.lit (.bool false)], args := [d1, d2] }
  | _ => none }
def ReaderActsWrongFalsely : Prop := readerActsRow.holds Try.pinned (OpenSpec.ofChange readerActsWrong)

/-- 'sprocketlaw16.BoxTells': WHATEVER THE INPUT: true; the input reads as it did. -/
def boxTellsSpec : ChangeSpec := { name := "boxTells", fn := fun _ => fun
  | [d1, d2, d3] => { results := [.lit (.bool true)], args := [d1, d2, d3] }
  | _ => none }
def boxTellsRow : OpenClaim := { program := "ytmphcolclkpnnab", sum := "50f9f5c9b4772909c4d29ce7675bb05d2ac28de8cab35a9b7d1f63e1d9f6b4f0", func := "sprocket/sprocketlaw16.BoxTells", spec := "boxTells", apart := false }
def BoxTellsSaid : Prop := boxTellsRow.holds Try.pinned (OpenSpec.ofChange boxTellsSpec)

/-- ITS FALSE NEIGHBOUR: 'it returns false'. Refute it at one input. -/
def boxTellsWrong : ChangeSpec := { name := "boxTells", fn := fun _ => fun
  | [d1, d2, d3] => { results := [.lit (.bool false)], args := [d1, d2, d3] }
  | _ => none }
def BoxTellsWrongFalsely : Prop := boxTellsRow.holds Try.pinned (OpenSpec.ofChange boxTellsWrong)

/-- 'sprocketlaw16.BoxBack': WHATEVER THE INPUT: true; the input reads as it did. -/
def boxBackSpec : ChangeSpec := { name := "boxBack", fn := fun _ => fun
  | [d1, d2, d3] => { results := [.lit (.bool true)], args := [d1, d2, d3] }
  | _ => none }
def boxBackRow : OpenClaim := { program := "ytmphcolclkpnnab", sum := "50f9f5c9b4772909c4d29ce7675bb05d2ac28de8cab35a9b7d1f63e1d9f6b4f0", func := "sprocket/sprocketlaw16.BoxBack", spec := "boxBack", apart := false }
def BoxBackSaid : Prop := boxBackRow.holds Try.pinned (OpenSpec.ofChange boxBackSpec)

/-- ITS FALSE NEIGHBOUR: 'it returns false'. Refute it at one input. -/
def boxBackWrong : ChangeSpec := { name := "boxBack", fn := fun _ => fun
  | [d1, d2, d3] => { results := [.lit (.bool false)], args := [d1, d2, d3] }
  | _ => none }
def BoxBackWrongFalsely : Prop := boxBackRow.holds Try.pinned (OpenSpec.ofChange boxBackWrong)

/-- 'sprocketlaw26.ExtendActs': WHATEVER THE INPUT: true; the input reads as it did. -/
def extendActsSpec : ChangeSpec := { name := "extendActs", fn := fun _ => fun
  | [d1, d2, d3] => { results := [.lit (.bool true)], args := [d1, d2, d3] }
  | _ => none }
def extendActsRow : OpenClaim := { program := "ytmphcolclkpnnab", sum := "50f9f5c9b4772909c4d29ce7675bb05d2ac28de8cab35a9b7d1f63e1d9f6b4f0", func := "sprocket/sprocketlaw26.ExtendActs", spec := "extendActs", apart := false }
def ExtendActsSaid : Prop := extendActsRow.holds Try.pinned (OpenSpec.ofChange extendActsSpec)

/-- ITS FALSE NEIGHBOUR: 'it returns false'. Refute it at one input. -/
def extendActsWrong : ChangeSpec := { name := "extendActs", fn := fun _ => fun
  | [d1, d2, d3] => { results := [.lit (.bool false)], args := [d1, d2, d3] }
  | _ => none }
def ExtendActsWrongFalsely : Prop := extendActsRow.holds Try.pinned (OpenSpec.ofChange extendActsWrong)

/- THE SECOND FORM. 'bulk': how many values and letters a reading holds, each counted each time it is reached (what is shared counts as often as it is met; a slice's spare places count too). A statement '..UptoSaid' is the law's where the arguments, and the package variables that the reading takes, are together of bulk at most 1048576: NARROWER than '..Said'. Prove '..Said' where nothing that the law and all that it calls make is longer than what came in: it says more and counts as full. Else prove '..UptoSaid'. A law counts once. -/
mutual
def uptoBulk {H : Type} : DataW H → Nat
  | .lit (.string bytes) => bytes.length + 1
  | .lit _ => 1
  | .nil => 1
  | .ptr d => uptoBulk d + 1
  | .slice elems spare => uptoBulkAll elems + uptoBulkAll spare + 1
  | .agg parts => uptoBulkAll parts + 1
  | .iface _ d => uptoBulk d + 1
  | .map entries => uptoBulkEntries entries + 1
  | .held _ => 1
def uptoBulkAll {H : Type} : List (DataW H) → Nat
  | [] => 0
  | d :: r => uptoBulk d + uptoBulkAll r
def uptoBulkEntries {H : Type} : List (Lit × DataW H) → Nat
  | [] => 0
  | x :: r => uptoBulkEntry x + uptoBulkEntries r
def uptoBulkEntry {H : Type} : Lit × DataW H → Nat
  | (.string bytes, d) => bytes.length + uptoBulk d + 1
  | (_, d) => uptoBulk d + 1
 end
def uptoSmall : (H : Type) → List (DataW H) → Bool := fun _ ds => decide (uptoBulkAll ds ≤ 1048576)
def OpenSpec.upto (s : _root_.Go.ChangeSpec) : _root_.Go.OpenSpec := { _root_.Go.OpenSpec.ofChange s with cond := some uptoSmall }

/-- 'sprocketlaw18.ReaderActs', WHERE WHAT IT READS IS OF BULK AT MOST 1048576: true; the input reads as it did. -/
def readerActsUptoRow : OpenClaim := { program := "ytmphcolclkpnnab", sum := "50f9f5c9b4772909c4d29ce7675bb05d2ac28de8cab35a9b7d1f63e1d9f6b4f0", func := "sprocket/sprocketlaw18.ReaderActs", spec := "readerActs", apart := false, narrowed := true }
def ReaderActsUptoSaid : Prop := readerActsUptoRow.holds Try.pinned (OpenSpec.upto readerActsSpec)

/-- 'sprocketlaw16.BoxTells', WHERE WHAT IT READS IS OF BULK AT MOST 1048576: true; the input reads as it did. -/
def boxTellsUptoRow : OpenClaim := { program := "ytmphcolclkpnnab", sum := "50f9f5c9b4772909c4d29ce7675bb05d2ac28de8cab35a9b7d1f63e1d9f6b4f0", func := "sprocket/sprocketlaw16.BoxTells", spec := "boxTells", apart := false, narrowed := true }
def BoxTellsUptoSaid : Prop := boxTellsUptoRow.holds Try.pinned (OpenSpec.upto boxTellsSpec)

/-- 'sprocketlaw16.BoxBack', WHERE WHAT IT READS IS OF BULK AT MOST 1048576: true; the input reads as it did. -/
def boxBackUptoRow : OpenClaim := { program := "ytmphcolclkpnnab", sum := "50f9f5c9b4772909c4d29ce7675bb05d2ac28de8cab35a9b7d1f63e1d9f6b4f0", func := "sprocket/sprocketlaw16.BoxBack", spec := "boxBack", apart := false, narrowed := true }
def BoxBackUptoSaid : Prop := boxBackUptoRow.holds Try.pinned (OpenSpec.upto boxBackSpec)

/-- 'sprocketlaw26.ExtendActs', WHERE WHAT IT READS IS OF BULK AT MOST 1048576: true; the input reads as it did. -/
def extendActsUptoRow : OpenClaim := { program := "ytmphcolclkpnnab", sum := "50f9f5c9b4772909c4d29ce7675bb05d2ac28de8cab35a9b7d1f63e1d9f6b4f0", func := "sprocket/sprocketlaw26.ExtendActs", spec := "extendActs", apart := false, narrowed := true }
def ExtendActsUptoSaid : Prop := extendActsUptoRow.holds Try.pinned (OpenSpec.upto extendActsSpec)

end Rows
end Go.Proofs.Ytmphcolclkpnnab
