/- The seat's program as the engine takes it; what its arenas are. -/
import Derived.Test.YthdglcimdnpccaaRows
import Derived.Test.YthdglcimdnpccaaEngd
import Derived.KernelRfl
namespace Go.Proofs.Ythdglcimdnpccaa
open Go.Eng
set_option maxRecDepth 100000
theorem fineA : Fine Try.prog := ⟨by kernel_rfl, by kernel_rfl, by kernel_rfl⟩
theorem noVars : Try.prog.globals.size = 0 := by kernel_rfl
noncomputable instance semI : ObjSem Try.prog where
  At := fun m w b F => match m with
    | .arena S => ArenaAt Try.prog 66 24 S w b F
  loc := fun m w w' b F h _ hk => match m, h with
    | .arena _, h => h.loc hk
theorem semA : ∀ S w b F, ObjSem.At Try.prog (.arena S) w b F ↔ ArenaAt Try.prog 66 24 S w b F := fun _ _ _ _ => Iff.rfl
end Go.Proofs.Ythdglcimdnpccaa
