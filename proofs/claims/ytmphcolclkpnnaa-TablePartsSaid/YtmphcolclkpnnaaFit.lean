/- The seat's program as the engine takes it. -/
import Derived.Test.YtmphcolclkpnnaaRows
import Derived.Test.YtmphcolclkpnnaaEngc
import Derived.KernelRfl
namespace Go.Proofs.Ytmphcolclkpnnaa
open Go.Eng
set_option maxRecDepth 100000
noncomputable def cfgA : Cfg := ⟨[24, 39, 44]⟩
noncomputable def fsTag : List FuncId := [12, 13, 14, 15, 16, 17, 18, 19, 20, 21, 22, 23, 24, 25, 26, 27, 3, 4, 5]
theorem fitTag : Fit Try.prog cfgA fsTag := ⟨by kernel_rfl, Cfg.ok_of (by kernel_rfl), by kernel_rfl⟩
theorem fineA : Fine Try.prog := ⟨by kernel_rfl, by kernel_rfl, by kernel_rfl⟩
theorem noVars : Try.prog.globals.size = 0 := by kernel_rfl
end Go.Proofs.Ytmphcolclkpnnaa
