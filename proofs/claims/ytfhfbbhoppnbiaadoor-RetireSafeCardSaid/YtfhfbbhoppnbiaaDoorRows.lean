/-
  NARROWER THAN 'FOR EVERY INPUT', by the rows' own cells (each row's printed sentence says how): RetireActs: laid · RetireSafe: laid · RetireFew: laid.
  DERIVED. THE GIVEN ROWS OF THIS SEAT. 3 by the template 'for every input the law returns true; each argument reads behind the call as it read before'; 0 by the template 'total and deterministic' (their statements: YtfhfbbhoppnbiaaDoorTotals.lean).
  GIVEN WITH THE SEED: the statements are not yours to turn. If you find one false, say at which input.
  Laid BY PROGRAM, IN A SANDBOX (cutbox-rows.mjs): the forced cells as the released guide's own fill.sh prints them over the translation 4516f346f7661af1… (all of the seat's roots in one cut). By AI agents, Wed Nov 11 2026. No macro, syntax, notation, axiom, sorry.
-/
import Derived.Test.YtfhfbbhoppnbiaaDoorChecked
import GoSem.Claim
import GoSem.ClaimJoined
import GoSem.ClaimMapViews
import Derived.JoinedTies
import Derived.KernelRfl
namespace Go.Proofs.YtfhfbbhoppnbiaaDoor
/- THE CELL 'sum', in the pinned program and in every row, IS THE sha256 OF THE DUMP (.gsa) THAT YtfhfbbhoppnbiaaDoorProg.lean LOADS. Nothing in Lean hashes anything: it is a label: what it is worth is what the hold of that sum in a sandbox is worth. -/
noncomputable def Tryd.pinned : Pinned := { name := "ytfhfbbhoppnbiaadoor", sum := "4516f346f7661af16c19c8d5ea61b1967210ffa297206cf5b0f9aabf0c10921f", checked := Tryd.checked }
namespace Rows
def none {H : Type} : Left H := { results := [], args := [] }

/- WHAT THE LISTED PACKAGE-LEVEL VARIABLES READ AS WHEN THE CALL BEGINS. Each datum BY PROGRAM (the guide's laid-datum.mjs) off the statement by which the dump's own 'gosem.cut.vars' lays the variable. In a bare row this is a premise. The card (YtfhfbbhoppnbiaaDoorCards.lean) ties it to the program's text. -/
def laid_sprocket_desk_bounds {H : Type} : DataW H := .agg [.agg [.lit (.int .i64 1), .lit (.int .i64 64)], .agg [.lit (.int .i64 1), .lit (.int .i64 64)]]

/-- 'sprocketlaw24.RetireActs': WHATEVER THE INPUT: true; the input reads as it did. -/
def retireActsSpec : ChangeSpec := { name := "retireActs", fn := fun _ => fun
  | [d1, d2, d3] => { results := [.lit (.bool true)], args := [d1, d2, d3] }
  | _ => none }
def retireActsRow : OpenClaim := { program := "ytfhfbbhoppnbiaadoor", sum := "4516f346f7661af16c19c8d5ea61b1967210ffa297206cf5b0f9aabf0c10921f", func := "sprocket/sprocketlaw24.RetireActs", spec := "retireActs", named := ["sprocket/desk.bounds"], apart := false, laid := [("sprocket/desk.bounds", laid_sprocket_desk_bounds)] }
def RetireActsSaid : Prop := retireActsRow.holds Tryd.pinned (OpenSpec.ofChange retireActsSpec)

/-- ITS FALSE NEIGHBOUR: 'it returns false'. Refute it at one input. -/
def retireActsWrong : ChangeSpec := { name := "retireActs", fn := fun _ => fun
  | [d1, d2, d3] => { results := [.lit (.bool false)], args := [d1, d2, d3] }
  | _ => none }
def RetireActsWrongFalsely : Prop := retireActsRow.holds Tryd.pinned (OpenSpec.ofChange retireActsWrong)

/-- 'sprocketlaw24.RetireSafe': WHATEVER THE INPUT: true; the input reads as it did. -/
def retireSafeSpec : ChangeSpec := { name := "retireSafe", fn := fun _ => fun
  | [d1, d2, d3] => { results := [.lit (.bool true)], args := [d1, d2, d3] }
  | _ => none }
def retireSafeRow : OpenClaim := { program := "ytfhfbbhoppnbiaadoor", sum := "4516f346f7661af16c19c8d5ea61b1967210ffa297206cf5b0f9aabf0c10921f", func := "sprocket/sprocketlaw24.RetireSafe", spec := "retireSafe", unfollowed := true, recurses := true, named := ["sprocket/desk.bounds"], apart := false, laid := [("sprocket/desk.bounds", laid_sprocket_desk_bounds)] }
def RetireSafeSaid : Prop := retireSafeRow.holds Tryd.pinned (OpenSpec.ofChange retireSafeSpec)

/-- ITS FALSE NEIGHBOUR: 'it returns false'. Refute it at one input. -/
def retireSafeWrong : ChangeSpec := { name := "retireSafe", fn := fun _ => fun
  | [d1, d2, d3] => { results := [.lit (.bool false)], args := [d1, d2, d3] }
  | _ => none }
def RetireSafeWrongFalsely : Prop := retireSafeRow.holds Tryd.pinned (OpenSpec.ofChange retireSafeWrong)

/-- 'sprocketlaw24.RetireFew': WHATEVER THE INPUT: true; the input reads as it did. -/
def retireFewSpec : ChangeSpec := { name := "retireFew", fn := fun _ => fun
  | [d1, d2, d3] => { results := [.lit (.bool true)], args := [d1, d2, d3] }
  | _ => none }
def retireFewRow : OpenClaim := { program := "ytfhfbbhoppnbiaadoor", sum := "4516f346f7661af16c19c8d5ea61b1967210ffa297206cf5b0f9aabf0c10921f", func := "sprocket/sprocketlaw24.RetireFew", spec := "retireFew", unfollowed := true, recurses := true, named := ["sprocket/desk.bounds"], apart := false, laid := [("sprocket/desk.bounds", laid_sprocket_desk_bounds)] }
def RetireFewSaid : Prop := retireFewRow.holds Tryd.pinned (OpenSpec.ofChange retireFewSpec)

/-- ITS FALSE NEIGHBOUR: 'it returns false'. Refute it at one input. -/
def retireFewWrong : ChangeSpec := { name := "retireFew", fn := fun _ => fun
  | [d1, d2, d3] => { results := [.lit (.bool false)], args := [d1, d2, d3] }
  | _ => none }
def RetireFewWrongFalsely : Prop := retireFewRow.holds Tryd.pinned (OpenSpec.ofChange retireFewWrong)

/- THE SECOND FORM. 'bulk': how many values and letters a reading holds, each counted each time it is reached (what is shared counts as often as it is met; a slice's spare places count too). A statement '..UptoSaid' is the law's where the arguments, and the package variables that the reading takes, are together of bulk at most 1048576: NARROWER than '..Said'. Prove '..Said' where nothing that the law and all that it calls make is longer than what came in: it says more and counts as full. Else prove '..UptoSaid'. A law counts once. -/
mutual
def uptoBulk {H : Type} : DataW H → Nat
  | .lit (.string bytes) => bytes.length + 1
  | .lit _ => 1
  | .nil => 1
  | .ptr d => uptoBulk d + 1
  | .slice elems spare => uptoBulkAll elems + uptoBulkAll spare + 1
  | .agg parts => uptoBulkAll parts + 1
  | .iface _ d => uptoBulk d + 1
  | .map entries => uptoBulkEntries entries + 1
  | .held _ => 1
def uptoBulkAll {H : Type} : List (DataW H) → Nat
  | [] => 0
  | d :: r => uptoBulk d + uptoBulkAll r
def uptoBulkEntries {H : Type} : List (Lit × DataW H) → Nat
  | [] => 0
  | x :: r => uptoBulkEntry x + uptoBulkEntries r
def uptoBulkEntry {H : Type} : Lit × DataW H → Nat
  | (.string bytes, d) => bytes.length + uptoBulk d + 1
  | (_, d) => uptoBulk d + 1
 end
def uptoSmall : (H : Type) → List (DataW H) → Bool := fun _ ds => decide (uptoBulkAll ds ≤ 1048576)
def OpenSpec.upto (s : _root_.Go.ChangeSpec) : _root_.Go.OpenSpec := { _root_.Go.OpenSpec.ofChange s with cond := some uptoSmall }

/-- 'sprocketlaw24.RetireActs', WHERE WHAT IT READS IS OF BULK AT MOST 1048576: true; the input reads as it did. -/
def retireActsUptoRow : OpenClaim := { program := "ytfhfbbhoppnbiaadoor", sum := "4516f346f7661af16c19c8d5ea61b1967210ffa297206cf5b0f9aabf0c10921f", func := "sprocket/sprocketlaw24.RetireActs", spec := "retireActs", named := ["sprocket/desk.bounds"], apart := false, laid := [("sprocket/desk.bounds", laid_sprocket_desk_bounds)], narrowed := true }
def RetireActsUptoSaid : Prop := retireActsUptoRow.holds Tryd.pinned (OpenSpec.upto retireActsSpec)

/-- 'sprocketlaw24.RetireSafe', WHERE WHAT IT READS IS OF BULK AT MOST 1048576: true; the input reads as it did. -/
def retireSafeUptoRow : OpenClaim := { program := "ytfhfbbhoppnbiaadoor", sum := "4516f346f7661af16c19c8d5ea61b1967210ffa297206cf5b0f9aabf0c10921f", func := "sprocket/sprocketlaw24.RetireSafe", spec := "retireSafe", unfollowed := true, recurses := true, named := ["sprocket/desk.bounds"], apart := false, laid := [("sprocket/desk.bounds", laid_sprocket_desk_bounds)], narrowed := true }
def RetireSafeUptoSaid : Prop := retireSafeUptoRow.holds Tryd.pinned (OpenSpec.upto retireSafeSpec)

/-- 'sprocketlaw24.RetireFew', WHERE WHAT IT READS IS OF BULK AT MOST 1048576: true; the input reads as it did. -/
def retireFewUptoRow : OpenClaim := { program := "ytfhfbbhoppnbiaadoor", sum := "4516f346f7661af16c19c8d5ea61b1967210ffa297206cf5b0f9aabf0c10921f", func := "sprocket/sprocketlaw24.RetireFew", spec := "retireFew", unfollowed := true, recurses := true, named := ["sprocket/desk.bounds"], apart := false, laid := [("sprocket/desk.bounds", laid_sprocket_desk_bounds)], narrowed := true }
def RetireFewUptoSaid : Prop := retireFewUptoRow.holds Tryd.pinned (OpenSpec.upto retireFewSpec)

end Rows
end Go.Proofs.YtfhfbbhoppnbiaaDoor
