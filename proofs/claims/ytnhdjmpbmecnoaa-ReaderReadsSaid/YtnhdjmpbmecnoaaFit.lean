/- The seat's program as the engine takes it. -/
import Derived.Test.YtnhdjmpbmecnoaaRows
import Derived.Test.YtnhdjmpbmecnoaaEngc
import Derived.KernelRfl
namespace Go.Proofs.Ytnhdjmpbmecnoaa
open Go.Eng
set_option maxRecDepth 100000
theorem fineA : Fine Try.prog := ⟨by kernel_rfl, by kernel_rfl, by kernel_rfl⟩
theorem noVars : Try.prog.globals.size = 0 := by kernel_rfl
end Go.Proofs.Ytnhdjmpbmecnoaa
