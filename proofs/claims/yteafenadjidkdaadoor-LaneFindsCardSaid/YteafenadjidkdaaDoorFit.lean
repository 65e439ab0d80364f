/- The seat's program as the engine takes it; its one package variable's cells. -/
import Derived.Test.YteafenadjidkdaaDoorRows
import Derived.Test.YteafenadjidkdaaDoorEngc
import Derived.KernelRfl
import Derived.ProofKit
import Derived.LaidMore
import Derived.OpenShut
import Derived.Stop.Joined
namespace Go.Proofs.YteafenadjidkdaaDoor
open Go.Eng
open Go.ChangeShapes Go.WideShapes Go.ChangeAt Go.RowKit
set_option maxRecDepth 100000
theorem fineA : Fine Tryd.prog := ⟨by kernel_rfl, by kernel_rfl, by kernel_rfl⟩
theorem oneVar : Tryd.prog.globals.size = 1 := by kernel_rfl
def laidV : List (String × DataW Unit) := [("math/bits.deBruijn64tab", Rows.laid_math_bits_deBruijn64tab)]
theorem gBits : Tryd.prog.globalNamed "math/bits.deBruijn64tab" = some 0 := by kernel_rfl
theorem tBits : (Tryd.prog.globals[0]?).map (·.type) = some 53 := by kernel_rfl
/-- The table. -/
abbrev tz : List Int := [0, 1, 56, 2, 57, 49, 28, 3, 61, 58, 42, 50, 38, 29, 17, 4, 62, 47, 59, 36, 45, 43, 51, 22, 53, 39, 33, 30, 24, 18, 12, 5, 63, 55, 48, 27, 60, 41, 37, 16, 46, 35, 44, 21, 52, 32, 23, 11, 54, 26, 40, 15, 34, 20, 31, 10, 25, 14, 19, 9, 13, 8, 7, 6]
theorem laid_tz : Rows.laid_math_bits_deBruijn64tab (H := Unit) = .agg (tz.map fun n => .lit (.int .u8 n)) := rfl
/-- What the condition gives: the variable's cells. -/
theorem tz_cells {W : World} (h : laidMetH Tryd.prog laidV W) : ∀ i, i < tz.length → W.cell? ((⟨0, 0, Option.none⟩ : Addr).add i) = some (.int .u8 (tz.getD i 0)) := by
  rw [MakeChecks.laidMetH_plain _ _ _ (by kernel_rfl)] at h
  obtain ⟨ps, ⟨g0, t0, cs0, f0, p0, q0, hg0, ht0, hv0, hd0, _⟩, _⟩ := h
  obtain rfl := Option.some.inj (gBits.symm.trans hg0)
  obtain rfl := Option.some.inj (tBits.symm.trans ht0)
  obtain ⟨xs, m1, rfl, hx1, hlen, hn, hel⟩ := DataW.trod_array Tryd.underlying53 hd0
  have hlen : cs0.toList.length = 64 := hlen.trans (by kernel_rfl)
  have c5 : Tryd.prog.cellsOf 5 = 1 := by kernel_rfl
  have hc := World.var?_cell hg0 hv0
  intro i hi
  have hi : i < 64 := hi
  have h0 := hel i hi
  rw [c5] at h0
  have hix : i < xs.length := by omega
  rw [List.getElem?_eq_getElem hix] at h0
  obtain ⟨k, e, e', _⟩ := DataW.trod_int Tryd.underlying5 h0
  have hm : xs.map (fun x => x.fst) = tz.map fun n => DataW.lit (.int .u8 n) := by
    have := congrArg Prod.fst hx1
    rw [laid_tz] at this
    simp only [DataW.agg.injEq] at this
    exact this.symm
  have hm2 := congrArg (fun l => l[i]?) hm
  simp only [List.getElem?_map] at hm2
  rw [List.getElem?_eq_getElem hix, List.getElem?_eq_getElem (show i < tz.length from hi)] at hm2
  simp only [Option.map_some, Option.some.injEq] at hm2
  rw [e'] at hm2
  simp only [DataW.lit.injEq, Lit.int.injEq, true_and] at hm2
  have e1 : ((⟨0, 0, Option.none⟩ : Addr).add i) = ⟨0, i, Option.none⟩ := by simp [Addr.add]; exact fun h => h.symm
  rw [e1, hc i]
  have hg : tz.getD i 0 = tz[i] := by rw [List.getD_eq_getElem?_getD, List.getElem?_eq_getElem (show i < tz.length from hi)]; rfl
  rw [hg, ← hm2]
  have h1 := congrArg (fun l => l[0]?) e
  simp only [Nat.mul_one, List.getElem?_take, List.getElem?_drop] at h1
  rw [← Array.getElem?_toList]
  simpa using h1
end Go.Proofs.YteafenadjidkdaaDoor
