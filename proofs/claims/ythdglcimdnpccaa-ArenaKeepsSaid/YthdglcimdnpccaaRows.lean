/-
  No cell of these rows narrows 'for every input' (looked for: loops, veiled, ifaces, maps, wideKeys, modest, calm, conditions, laid).
  DERIVED. THE GIVEN ROWS OF THIS SEAT. 6 by the template 'for every input the law returns true; each argument reads behind the call as it read before'; 0 by the template 'total and deterministic' (their statements: YthdglcimdnpccaaTotals.lean).
  GIVEN WITH THE SEED: the statements are not yours to turn. If you find one false, say at which input.
  Laid BY PROGRAM, IN A SANDBOX (cutbox-rows.mjs): the forced cells as the released guide's own fill.sh prints them over the translation a805c8aec99097f9… (all of the seat's roots in one cut). By AI agents, Wed Nov 11 2026. No macro, syntax, notation, axiom, sorry.
-/
import Derived.Test.YthdglcimdnpccaaChecked
import GoSem.Claim
import GoSem.ClaimJoined
import GoSem.ClaimMapViews
import Derived.JoinedTies
import Derived.KernelRfl
namespace Go.Proofs.Ythdglcimdnpccaa
/- THE CELL 'sum', in the pinned program and in every row, IS THE sha256 OF THE DUMP (.gsa) THAT YthdglcimdnpccaaProg.lean LOADS. Nothing in Lean hashes anything: it is a label: what it is worth is what the hold of that sum in a sandbox is worth. -/
noncomputable def Try.pinned : Pinned := { name := "ythdglcimdnpccaa", sum := "a805c8aec99097f9fb398f92c891999e452d812dc612025dfa3ba5bae7c9d43a", checked := Try.checked }
namespace Rows
def none {H : Type} : Left H := { results := [], args := [] }

/-- 'sprocketlaw08.ArenaKeeps': WHATEVER THE INPUT: true; the input reads as it did. -/
def arenaKeepsSpec : ChangeSpec := { name := "arenaKeeps", fn := fun _ => fun
  | [d1, d2, d3] => { results := [.lit (.bool true)], args := [d1, d2, d3] }
  | _ => none }
def arenaKeepsRow : OpenClaim := { program := "ythdglcimdnpccaa", sum := "a805c8aec99097f9fb398f92c891999e452d812dc612025dfa3ba5bae7c9d43a", func := "sprocket/sprocketlaw08.ArenaKeeps", spec := "arenaKeeps", apart := false }
def ArenaKeepsSaid : Prop := arenaKeepsRow.holds Try.pinned (OpenSpec.ofChange arenaKeepsSpec)

/-- ITS FALSE NEIGHBOUR: 'it returns false'. Refute it at one input. -/
def arenaKeepsWrong : ChangeSpec := { name := "arenaKeeps", fn := fun _ => fun
  | [d1, d2, d3] => { results := [.lit (.bool false)], args := [d1, d2, d3] }
  | _ => none }
def ArenaKeepsWrongFalsely : Prop := arenaKeepsRow.holds Try.pinned (OpenSpec.ofChange arenaKeepsWrong)

/-- 'sprocketlaw10.DriveAlone': WHATEVER THE INPUT: true; the input reads as it did. -/
def driveAloneSpec : ChangeSpec := { name := "driveAlone", fn := fun _ => fun
  | [d1, d2, d3] => { results := [.lit (.bool true)], args := [d1, d2, d3] }
  | _ => none }
def driveAloneRow : OpenClaim := { program := "ythdglcimdnpccaa", sum := "a805c8aec99097f9fb398f92c891999e452d812dc612025dfa3ba5bae7c9d43a", func := "sprocket/sprocketlaw10.DriveAlone", spec := "driveAlone", unfollowed := true, recurses := true, apart := false }
def DriveAloneSaid : Prop := driveAloneRow.holds Try.pinned (OpenSpec.ofChange driveAloneSpec)

/-- ITS FALSE NEIGHBOUR: 'it returns false'. Refute it at one input. -/
def driveAloneWrong : ChangeSpec := { name := "driveAlone", fn := fun _ => fun
  | [d1, d2, d3] => { results := [.lit (.bool false)], args := [d1, d2, d3] }
  | _ => none }
def DriveAloneWrongFalsely : Prop := driveAloneRow.holds Try.pinned (OpenSpec.ofChange driveAloneWrong)

/-- 'sprocketlaw08.ArenaFresh': WHATEVER THE INPUT: true; the input reads as it did. -/
def arenaFreshSpec : ChangeSpec := { name := "arenaFresh", fn := fun _ => fun
  | [d1, d2] => { results := [.lit (.bool true)], args := [d1, d2] }
  | _ => none }
def arenaFreshRow : OpenClaim := { program := "ythdglcimdnpccaa", sum := "a805c8aec99097f9fb398f92c891999e452d812dc612025dfa3ba5bae7c9d43a", func := "sprocket/sprocketlaw08.ArenaFresh", spec := "arenaFresh", unfollowed := true, recurses := true, apart := false }
def ArenaFreshSaid : Prop := arenaFreshRow.holds Try.pinned (OpenSpec.ofChange arenaFreshSpec)

/-- ITS FALSE NEIGHBOUR: 'it returns false'. Refute it at one input. -/
def arenaFreshWrong : ChangeSpec := { name := "arenaFresh", fn := fun _ => fun
  | [d1, d2] => { results := [.lit (.bool false)], args := [d1, d2] }
  | _ => none }
def ArenaFreshWrongFalsely : Prop := arenaFreshRow.holds Try.pinned (OpenSpec.ofChange arenaFreshWrong)

/-- 'sprocketlaw08.ArenaPlays': WHATEVER THE INPUT: true; the input reads as it did. -/
def arenaPlaysSpec : ChangeSpec := { name := "arenaPlays", fn := fun _ => fun
  | [d1, d2] => { results := [.lit (.bool true)], args := [d1, d2] }
  | _ => none }
def arenaPlaysRow : OpenClaim := { program := "ythdglcimdnpccaa", sum := "a805c8aec99097f9fb398f92c891999e452d812dc612025dfa3ba5bae7c9d43a", func := "sprocket/sprocketlaw08.ArenaPlays", spec := "arenaPlays", unfollowed := true, recurses := true, apart := false }
def ArenaPlaysSaid : Prop := arenaPlaysRow.holds Try.pinned (OpenSpec.ofChange arenaPlaysSpec)

/-- ITS FALSE NEIGHBOUR: 'it returns false'. Refute it at one input. -/
def arenaPlaysWrong : ChangeSpec := { name := "arenaPlays", fn := fun _ => fun
  | [d1, d2] => { results := [.lit (.bool false)], args := [d1, d2] }
  | _ => none }
def ArenaPlaysWrongFalsely : Prop := arenaPlaysRow.holds Try.pinned (OpenSpec.ofChange arenaPlaysWrong)

/-- 'sprocketlaw10.DriveRuns': WHATEVER THE INPUT: true; the input reads as it did. -/
def driveRunsSpec : ChangeSpec := { name := "driveRuns", fn := fun _ => fun
  | [d1, d2, d3] => { results := [.lit (.bool true)], args := [d1, d2, d3] }
  | _ => none }
def driveRunsRow : OpenClaim := { program := "ythdglcimdnpccaa", sum := "a805c8aec99097f9fb398f92c891999e452d812dc612025dfa3ba5bae7c9d43a", func := "sprocket/sprocketlaw10.DriveRuns", spec := "driveRuns", unfollowed := true, recurses := true, apart := false }
def DriveRunsSaid : Prop := driveRunsRow.holds Try.pinned (OpenSpec.ofChange driveRunsSpec)

/-- ITS FALSE NEIGHBOUR: 'it returns false'. Refute it at one input. -/
def driveRunsWrong : ChangeSpec := { name := "driveRuns", fn := fun _ => fun
  | [d1, d2, d3] => { results := [.lit (.bool false)], args := [d1, d2, d3] }
  | _ => none }
def DriveRunsWrongFalsely : Prop := driveRunsRow.holds Try.pinned (OpenSpec.ofChange driveRunsWrong)

/-- 'sprocketlaw10.DriveSame': WHATEVER THE INPUT: true; the input reads as it did. -/
def driveSameSpec : ChangeSpec := { name := "driveSame", fn := fun _ => fun
  | [d1, d2, d3] => { results := [.lit (.bool true)], args := [d1, d2, d3] }
  | _ => none }
def driveSameRow : OpenClaim := { program := "ythdglcimdnpccaa", sum := "a805c8aec99097f9fb398f92c891999e452d812dc612025dfa3ba5bae7c9d43a", func := "sprocket/sprocketlaw10.DriveSame", spec := "driveSame", unfollowed := true, recurses := true, apart := false }
def DriveSameSaid : Prop := driveSameRow.holds Try.pinned (OpenSpec.ofChange driveSameSpec)

/-- ITS FALSE NEIGHBOUR: 'it returns false'. Refute it at one input. -/
def driveSameWrong : ChangeSpec := { name := "driveSame", fn := fun _ => fun
  | [d1, d2, d3] => { results := [.lit (.bool false)], args := [d1, d2, d3] }
  | _ => none }
def DriveSameWrongFalsely : Prop := driveSameRow.holds Try.pinned (OpenSpec.ofChange driveSameWrong)

/- THE SECOND FORM. 'bulk': how many values and letters a reading holds, each counted each time it is reached (what is shared counts as often as it is met; a slice's spare places count too). A statement '..UptoSaid' is the law's where the arguments, and the package variables that the reading takes, are together of bulk at most 1048576: NARROWER than '..Said'. Prove '..Said' where nothing that the law and all that it calls make is longer than what came in: it says more and counts as full. Else prove '..UptoSaid'. A law counts once. -/
mutual
def uptoBulk {H : Type} : DataW H → Nat
  | .lit (.string bytes) => bytes.length + 1
  | .lit _ => 1
  | .nil => 1
  | .ptr d => uptoBulk d + 1
  | .slice elems spare => uptoBulkAll elems + uptoBulkAll spare + 1
  | .agg parts => uptoBulkAll parts + 1
  | .iface _ d => uptoBulk d + 1
  | .map entries => uptoBulkEntries entries + 1
  | .held _ => 1
def uptoBulkAll {H : Type} : List (DataW H) → Nat
  | [] => 0
  | d :: r => uptoBulk d + uptoBulkAll r
def uptoBulkEntries {H : Type} : List (Lit × DataW H) → Nat
  | [] => 0
  | x :: r => uptoBulkEntry x + uptoBulkEntries r
def uptoBulkEntry {H : Type} : Lit × DataW H → Nat
  | (.string bytes, d) => bytes.length + uptoBulk d + 1
  | (_, d) => uptoBulk d + 1
 end
def uptoSmall : (H : Type) → List (DataW H) → Bool := fun _ ds => decide (uptoBulkAll ds ≤ 1048576)
def OpenSpec.upto (s : _root_.Go.ChangeSpec) : _root_.Go.OpenSpec := { _root_.Go.OpenSpec.ofChange s with cond := some uptoSmall }

/-- 'sprocketlaw08.ArenaKeeps', WHERE WHAT IT READS IS OF BULK AT MOST 1048576: true; the input reads as it did. -/
def arenaKeepsUptoRow : OpenClaim := { program := "ythdglcimdnpccaa", sum := "a805c8aec99097f9fb398f92c891999e452d812dc612025dfa3ba5bae7c9d43a", func := "sprocket/sprocketlaw08.ArenaKeeps", spec := "arenaKeeps", apart := false, narrowed := true }
def ArenaKeepsUptoSaid : Prop := arenaKeepsUptoRow.holds Try.pinned (OpenSpec.upto arenaKeepsSpec)

/-- 'sprocketlaw10.DriveAlone', WHERE WHAT IT READS IS OF BULK AT MOST 1048576: true; the input reads as it did. -/
def driveAloneUptoRow : OpenClaim := { program := "ythdglcimdnpccaa", sum := "a805c8aec99097f9fb398f92c891999e452d812dc612025dfa3ba5bae7c9d43a", func := "sprocket/sprocketlaw10.DriveAlone", spec := "driveAlone", unfollowed := true, recurses := true, apart := false, narrowed := true }
def DriveAloneUptoSaid : Prop := driveAloneUptoRow.holds Try.pinned (OpenSpec.upto driveAloneSpec)

/-- 'sprocketlaw08.ArenaFresh', WHERE WHAT IT READS IS OF BULK AT MOST 1048576: true; the input reads as it did. -/
def arenaFreshUptoRow : OpenClaim := { program := "ythdglcimdnpccaa", sum := "a805c8aec99097f9fb398f92c891999e452d812dc612025dfa3ba5bae7c9d43a", func := "sprocket/sprocketlaw08.ArenaFresh", spec := "arenaFresh", unfollowed := true, recurses := true, apart := false, narrowed := true }
def ArenaFreshUptoSaid : Prop := arenaFreshUptoRow.holds Try.pinned (OpenSpec.upto arenaFreshSpec)

/-- 'sprocketlaw08.ArenaPlays', WHERE WHAT IT READS IS OF BULK AT MOST 1048576: true; the input reads as it did. -/
def arenaPlaysUptoRow : OpenClaim := { program := "ythdglcimdnpccaa", sum := "a805c8aec99097f9fb398f92c891999e452d812dc612025dfa3ba5bae7c9d43a", func := "sprocket/sprocketlaw08.ArenaPlays", spec := "arenaPlays", unfollowed := true, recurses := true, apart := false, narrowed := true }
def ArenaPlaysUptoSaid : Prop := arenaPlaysUptoRow.holds Try.pinned (OpenSpec.upto arenaPlaysSpec)

/-- 'sprocketlaw10.DriveRuns', WHERE WHAT IT READS IS OF BULK AT MOST 1048576: true; the input reads as it did. -/
def driveRunsUptoRow : OpenClaim := { program := "ythdglcimdnpccaa", sum := "a805c8aec99097f9fb398f92c891999e452d812dc612025dfa3ba5bae7c9d43a", func := "sprocket/sprocketlaw10.DriveRuns", spec := "driveRuns", unfollowed := true, recurses := true, apart := false, narrowed := true }
def DriveRunsUptoSaid : Prop := driveRunsUptoRow.holds Try.pinned (OpenSpec.upto driveRunsSpec)

/-- 'sprocketlaw10.DriveSame', WHERE WHAT IT READS IS OF BULK AT MOST 1048576: true; the input reads as it did. -/
def driveSameUptoRow : OpenClaim := { program := "ythdglcimdnpccaa", sum := "a805c8aec99097f9fb398f92c891999e452d812dc612025dfa3ba5bae7c9d43a", func := "sprocket/sprocketlaw10.DriveSame", spec := "driveSame", unfollowed := true, recurses := true, apart := false, narrowed := true }
def DriveSameUptoSaid : Prop := driveSameUptoRow.holds Try.pinned (OpenSpec.upto driveSameSpec)

end Rows
end Go.Proofs.Ythdglcimdnpccaa
