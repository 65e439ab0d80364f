/- The seat's program as the engine takes it. -/
import Derived.Test.YtgegcbeeljbiaaaRows
import Derived.Test.YtgegcbeeljbiaaaEngd
import Derived.KernelRfl
namespace Go.Proofs.Ytgegcbeeljbiaaa
open Go.Eng
set_option maxRecDepth 100000
theorem fineA : Fine Try.prog := ⟨by kernel_rfl, by kernel_rfl, by kernel_rfl⟩
theorem noVars : Try.prog.globals.size = 0 := by kernel_rfl
noncomputable instance semI : ObjSem Try.prog where
  At := fun _ _ _ _ => False
  loc := fun _ _ _ _ _ h _ _ => h
end Go.Proofs.Ytgegcbeeljbiaaa
