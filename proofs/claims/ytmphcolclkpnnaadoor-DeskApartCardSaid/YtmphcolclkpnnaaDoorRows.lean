/-
  NARROWER THAN 'FOR EVERY INPUT', by the rows' own cells (each row's printed sentence says how): DeskTells: laid · DeskApart: laid · GuardActs: laid.
  DERIVED. THE GIVEN ROWS OF THIS SEAT. 3 by the template 'for every input the law returns true; each argument reads behind the call as it read before'; 0 by the template 'total and deterministic' (their statements: YtmphcolclkpnnaaDoorTotals.lean).
  GIVEN WITH THE SEED: the statements are not yours to turn. If you find one false, say at which input.
  Laid BY PROGRAM, IN A SANDBOX (cutbox-rows.mjs): the forced cells as the released guide's own fill.sh prints them over the translation 96e82c124ffbe1c6… (all of the seat's roots in one cut). By AI agents, Wed Nov 11 2026. No macro, syntax, notation, axiom, sorry.
-/
import Derived.Test.YtmphcolclkpnnaaDoorChecked
import GoSem.Claim
import GoSem.ClaimJoined
import GoSem.ClaimMapViews
import Derived.JoinedTies
import Derived.KernelRfl
namespace Go.Proofs.YtmphcolclkpnnaaDoor
/- THE CELL 'sum', in the pinned program and in every row, IS THE sha256 OF THE DUMP (.gsa) THAT YtmphcolclkpnnaaDoorProg.lean LOADS. Nothing in Lean hashes anything: it is a label: what it is worth is what the hold of that sum in a sandbox is worth. -/
noncomputable def Tryd.pinned : Pinned := { name := "ytmphcolclkpnnaadoor", sum := "96e82c124ffbe1c6bb9410ab111883110ba08233d69e029bd73fc7e9b6ce0984", checked := Tryd.checked }
namespace Rows
def none {H : Type} : Left H := { results := [], args := [] }

/- WHAT THE LISTED PACKAGE-LEVEL VARIABLES READ AS WHEN THE CALL BEGINS. Each datum BY PROGRAM (the guide's laid-datum.mjs) off the statement by which the dump's own 'gosem.cut.vars' lays the variable. In a bare row this is a premise. The card (YtmphcolclkpnnaaDoorCards.lean) ties it to the program's text. -/
def laid_sprocket_desk_bounds {H : Type} : DataW H := .agg [.agg [.lit (.int .i64 1), .lit (.int .i64 64)], .agg [.lit (.int .i64 1), .lit (.int .i64 64)]]

/-- 'sprocketlaw14.DeskTells': WHATEVER THE INPUT: true; the input reads as it did. -/
def deskTellsSpec : ChangeSpec := { name := "deskTells", fn := fun _ => fun
  | [d1, d2, d3] => { results := [.lit (.bool true)], args := [d1, d2, d3] }
  | _ => none }
def deskTellsRow : OpenClaim := { program := "ytmphcolclkpnnaadoor", sum := "96e82c124ffbe1c6bb9410ab111883110ba08233d69e029bd73fc7e9b6ce0984", func := "sprocket/sprocketlaw14.DeskTells", spec := "deskTells", named := ["sprocket/desk.bounds"], apart := false, laid := [("sprocket/desk.bounds", laid_sprocket_desk_bounds)] }
def DeskTellsSaid : Prop := deskTellsRow.holds Tryd.pinned (OpenSpec.ofChange deskTellsSpec)

/-- ITS FALSE NEIGHBOUR: 'it returns false'. Refute it at one input. -/
def deskTellsWrong : ChangeSpec := { name := "deskTells", fn := fun _ => fun
  | [d1, d2, d3] => { results := [.lit (.bool false)], args := [d1, d2, d3] }
  | _ => none }
def DeskTellsWrongFalsely : Prop := deskTellsRow.holds Tryd.pinned (OpenSpec.ofChange deskTellsWrong)

/-- 'sprocketlaw14.DeskApart': WHATEVER THE INPUT: true; the input reads as it did. -/
def deskApartSpec : ChangeSpec := { name := "deskApart", fn := fun _ => fun
  | [d] => { results := [.lit (.bool true)], args := [d] }
  | _ => none }
def deskApartRow : OpenClaim := { program := "ytmphcolclkpnnaadoor", sum := "96e82c124ffbe1c6bb9410ab111883110ba08233d69e029bd73fc7e9b6ce0984", func := "sprocket/sprocketlaw14.DeskApart", spec := "deskApart", named := ["sprocket/desk.bounds"], apart := false, laid := [("sprocket/desk.bounds", laid_sprocket_desk_bounds)] }
def DeskApartSaid : Prop := deskApartRow.holds Tryd.pinned (OpenSpec.ofChange deskApartSpec)

/-- ITS FALSE NEIGHBOUR: 'it returns false'. Refute it at one input. -/
def deskApartWrong : ChangeSpec := { name := "deskApart", fn := fun _ => fun
  | [d] => { results := [.lit (.bool false)], args := [d] }
  | _ => none }
def DeskApartWrongFalsely : Prop := deskApartRow.holds Tryd.pinned (OpenSpec.ofChange deskApartWrong)

/-- 'sprocketlaw19.GuardActs': WHATEVER THE INPUT: true; the input reads as it did. -/
def guardActsSpec : ChangeSpec := { name := "guardActs", fn := fun _ => fun
  | [d1, d2] => { results := [.lit (.bool true)], args := [d1, d2] }
  | _ => none }
def guardActsRow : OpenClaim := { program := "ytmphcolclkpnnaadoor", sum := "96e82c124ffbe1c6bb9410ab111883110ba08233d69e029bd73fc7e9b6ce0984", func := "sprocket/sprocketlaw19.GuardActs", spec := "guardActs", named := ["sprocket/desk.bounds"], apart := false, laid := [("sprocket/desk.bounds", laid_sprocket_desk_bounds)] }
def GuardActsSaid : Prop := guardActsRow.holds Tryd.pinned (OpenSpec.ofChange guardActsSpec)

/-- ITS FALSE NEIGHBOUR: 'it returns false'. Refute it at one input. -/
def guardActsWrong : ChangeSpec := { name := "guardActs", fn := fun _ => fun
  | [d1, d2] => { results := [.lit (.bool false)], args := [d1, d2] }
  | _ => none }
def GuardActsWrongFalsely : Prop := guardActsRow.holds Tryd.pinned (OpenSpec.ofChange guardActsWrong)

/- THE SECOND FORM. 'bulk': how many values and letters a reading holds, each counted each time it is reached (what is shared counts as often as it is met; a slice's spare places count too). A statement '..UptoSaid' is the law's where the arguments, and the package variables that the reading takes, are together of bulk at most 1048576: NARROWER than '..Said'. Prove '..Said' where nothing that the law and all that it calls make is longer than what came in: it says more and counts as full. Else prove '..UptoSaid'. A law counts once. -/
mutual
def uptoBulk {H : Type} : DataW H → Nat
  | .lit (.string bytes) => bytes.length + 1
  | .lit _ => 1
  | .nil => 1
  | .ptr d => uptoBulk d + 1
  | .slice elems spare => uptoBulkAll elems + uptoBulkAll spare + 1
  | .agg parts => uptoBulkAll parts + 1
  | .iface _ d => uptoBulk d + 1
  | .map entries => uptoBulkEntries entries + 1
  | .held _ => 1
def uptoBulkAll {H : Type} : List (DataW H) → Nat
  | [] => 0
  | d :: r => uptoBulk d + uptoBulkAll r
def uptoBulkEntries {H : Type} : List (Lit × DataW H) → Nat
  | [] => 0
  | x :: r => uptoBulkEntry x + uptoBulkEntries r
def uptoBulkEntry {H : Type} : Lit × DataW H → Nat
  | (.string bytes, d) => bytes.length + uptoBulk d + 1
  | (_, d) => uptoBulk d + 1
 end
def uptoSmall : (H : Type) → List (DataW H) → Bool := fun _ ds => decide (uptoBulkAll ds ≤ 1048576)
def OpenSpec.upto (s : _root_.Go.ChangeSpec) : _root_.Go.OpenSpec := { _root_.Go.OpenSpec.ofChange s with cond := some uptoSmall }

/-- 'sprocketlaw14.DeskTells', WHERE WHAT IT READS IS OF BULK AT MOST 1048576: true; the input reads as it did. -/
def deskTellsUptoRow : OpenClaim := { program := "ytmphcolclkpnnaadoor", sum := "96e82c124ffbe1c6bb9410ab111883110ba08233d69e029bd73fc7e9b6ce0984", func := "sprocket/sprocketlaw14.DeskTells", spec := "deskTells", named := ["sprocket/desk.bounds"], apart := false, laid := [("sprocket/desk.bounds", laid_sprocket_desk_bounds)], narrowed := true }
def DeskTellsUptoSaid : Prop := deskTellsUptoRow.holds Tryd.pinned (OpenSpec.upto deskTellsSpec)

/-- 'sprocketlaw14.DeskApart', WHERE WHAT IT READS IS OF BULK AT MOST 1048576: true; the input reads as it did. -/
def deskApartUptoRow : OpenClaim := { program := "ytmphcolclkpnnaadoor", sum := "96e82c124ffbe1c6bb9410ab111883110ba08233d69e029bd73fc7e9b6ce0984", func := "sprocket/sprocketlaw14.DeskApart", spec := "deskApart", named := ["sprocket/desk.bounds"], apart := false, laid := [("sprocket/desk.bounds", laid_sprocket_desk_bounds)], narrowed := true }
def DeskApartUptoSaid : Prop := deskApartUptoRow.holds Tryd.pinned (OpenSpec.upto deskApartSpec)

/-- 'sprocketlaw19.GuardActs', WHERE WHAT IT READS IS OF BULK AT MOST 1048576: true; the input reads as it did. -/
def guardActsUptoRow : OpenClaim := { program := "ytmphcolclkpnnaadoor", sum := "96e82c124ffbe1c6bb9410ab111883110ba08233d69e029bd73fc7e9b6ce0984", func := "sprocket/sprocketlaw19.GuardActs", spec := "guardActs", named := ["sprocket/desk.bounds"], apart := false, laid := [("sprocket/desk.bounds", laid_sprocket_desk_bounds)], narrowed := true }
def GuardActsUptoSaid : Prop := guardActsUptoRow.holds Tryd.pinned (OpenSpec.upto guardActsSpec)

end Rows
end Go.Proofs.YtmphcolclkpnnaaDoor
