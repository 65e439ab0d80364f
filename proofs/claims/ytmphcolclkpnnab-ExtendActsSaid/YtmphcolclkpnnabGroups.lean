/- How many groups a table has; tags: functions told. -/
import Derived.Test.YtmphcolclkpnnabFit
import Derived.WalkKit
import Derived.ProofKit
import Derived.OpenShut
import Derived.ChangeOld
import Derived.Below
import Derived.SizedLaws
namespace Go.Proofs.Ytmphcolclkpnnab
open Go.Eng
open Go.ChangeShapes Go.WideShapes Go.ChangeAt Go.RowKit
set_option linter.unusedVariables false
set_option linter.unusedSimpArgs false
set_option maxRecDepth 100000
noncomputable def cfgG : Cfg := ⟨[]⟩
noncomputable def fsGrp : List FuncId := [47, 52, 58, 59]
theorem fitGrp : Fit Try.prog cfgG fsGrp := ⟨by kernel_rfl, Cfg.ok_of (by kernel_rfl), by kernel_rfl⟩
/-- How many groups there are. -/
def groupsV (a : Int) : Int := if a < 0 ∨ 9 < a then 0 else 2 ^ a.toNat
/-- A tag. -/
def makeV (b m : Int) : Int := (b * 8 + m % 8) % 18446744073709551616
theorem small (a : Int) (h0 : ¬ a < 0) (h9 : ¬ 9 < a) : a = 0 ∨ a = 1 ∨ a = 2 ∨ a = 3 ∨ a = 4 ∨ a = 5 ∨ a = 6 ∨ a = 7 ∨ a = 8 ∨ a = 9 := by omega
theorem groupsV_bounds (a : Int) : 0 ≤ groupsV a ∧ groupsV a ≤ 512 := by
  unfold groupsV
  split
  · omega
  · rename_i h
    rcases small a (by omega) (by omega) with h | h | h | h | h | h | h | h | h | h <;> subst h <;> decide
theorem groupsV_pos (a : Int) : 0 < groupsV a ↔ 0 ≤ a ∧ a ≤ 9 := by
  unfold groupsV
  constructor
  · intro h
    split at h
    · omega
    · omega
  · intro h
    rw [if_neg (by omega)]
    rcases small a (by omega) (by omega) with h | h | h | h | h | h | h | h | h | h <;> subst h <;> decide
theorem groupsA_tree (a : Int) : runK Try.prog cfgG fsGrp noT 11 40 58 [.int .i64 a] (bareK Try.prog) valK =
  bif (decide (a < 0)) then
    some (.int .i64 0)
  else
    bif (decide (a > 9)) then
      some (.int .i64 0)
    else
      bif (decide (a < 0)) then
        none
      else
        some (.int .i64 (IntKind.wrap .i64 (1 * (2 ^ (min (Int.toNat a) (IntKind.bits .i64)))))) := by kernel_rfl
theorem groupsA_told (a : Int) : Tells Try.prog 58 [.int .i64 a] (bare Try.prog) (.int .i64 (groupsV a)) := by
  refine Tells.of_tree (h := bareK Try.prog) fitGrp SoundC.no AgreeT.no (by kernel_rfl) rfl (show Ro (bare Try.prog) from Ro.bare) (n := 11) (d := 40) ?_
  rw [groupsA_tree]
  unfold groupsV
  by_cases h0 : a < 0
  · rw [if_pos (.inl h0), decide_eq_true h0]; rfl
  · by_cases h9 : 9 < a
    · rw [if_pos (.inr h9), decide_eq_false h0, decide_eq_true (show a > 9 from h9)]; rfl
    · rcases small a h0 h9 with h | h | h | h | h | h | h | h | h | h <;> subst h <;> kernel_rfl
theorem groupsR_tree (a : Int) : runK Try.prog cfgG fsGrp noT 11 40 47 [.int .i64 a] (bareK Try.prog) valK =
  bif (decide (a < 0)) then
    some (.int .i64 0)
  else
    bif (decide (a > 9)) then
      some (.int .i64 0)
    else
      bif (decide (0 < a)) then
        bif (decide (1 < a)) then
          bif (decide (2 < a)) then
            bif (decide (3 < a)) then
              bif (decide (4 < a)) then
                bif (decide (5 < a)) then
                  bif (decide (6 < a)) then
                    bif (decide (7 < a)) then
                      bif (decide (8 < a)) then
                        bif (decide (9 < a)) then
                          bif (decide (10 < a)) then
                            none
                          else
                            some (.int .i64 1024)
                        else
                          some (.int .i64 512)
                      else
                        some (.int .i64 256)
                    else
                      some (.int .i64 128)
                  else
                    some (.int .i64 64)
                else
                  some (.int .i64 32)
              else
                some (.int .i64 16)
            else
              some (.int .i64 8)
          else
            some (.int .i64 4)
        else
          some (.int .i64 2)
      else
        some (.int .i64 1) := by kernel_rfl
theorem groupsR_told (a : Int) : Tells Try.prog 47 [.int .i64 a] (bare Try.prog) (.int .i64 (groupsV a)) := by
  refine Tells.of_tree (h := bareK Try.prog) fitGrp SoundC.no AgreeT.no (by kernel_rfl) rfl (show Ro (bare Try.prog) from Ro.bare) (n := 11) (d := 40) ?_
  rw [groupsR_tree]
  unfold groupsV
  by_cases h0 : a < 0
  · rw [if_pos (.inl h0), decide_eq_true h0]; rfl
  · by_cases h9 : 9 < a
    · rw [if_pos (.inr h9), decide_eq_false h0, decide_eq_true (show a > 9 from h9)]; rfl
    · rcases small a h0 h9 with h | h | h | h | h | h | h | h | h | h <;> subst h <;> kernel_rfl
theorem makeA_tree (a b : Int) : runK Try.prog cfgG fsGrp noT 11 40 59 [.int .u64 a, .int .i64 b] (bareK Try.prog) valK =
  some (.int .u64 (IntKind.wrap .u64 ((IntKind.wrap .u64 (a * (2 ^ 3))) + (IntKind.wrap .u64 (bits .and .i64 b 7))))) := by kernel_rfl
theorem makeA_told (a b : Int) : Tells Try.prog 59 [.int .u64 a, .int .i64 b] (bare Try.prog) (.int .u64 (makeV a b)) := by
  refine Tells.of_tree (h := bareK Try.prog) fitGrp SoundC.no AgreeT.no (by kernel_rfl) rfl (show Ro (bare Try.prog) from Ro.bare) (n := 11) (d := 40) ?_
  rw [makeA_tree]
  unfold makeV
  show some (Value.int .u64 _) = some (Value.int .u64 _)
  congr 2
  rw [and7_i64]
  simp only [wrap_u64]
  omega
theorem makeR_tree (a b : Int) : runK Try.prog cfgG fsGrp noT 11 40 52 [.int .u64 a, .int .i64 b] (bareK Try.prog) valK =
  bif (decide ((Int.tmod b 8) < 0)) then
    some (.int .u64 (IntKind.wrap .u64 ((IntKind.wrap .u64 (8 * a)) + (IntKind.wrap .u64 (IntKind.wrap .i64 ((Int.tmod b 8) + 8))))))
  else
    some (.int .u64 (IntKind.wrap .u64 ((IntKind.wrap .u64 (8 * a)) + (IntKind.wrap .u64 (Int.tmod b 8))))) := by kernel_rfl
/-- A tag, as the reference makes it. -/
def makeRV (a b : Int) : Int := bif (decide ((Int.tmod b 8) < 0)) then (IntKind.wrap .u64 ((IntKind.wrap .u64 (8 * a)) + (IntKind.wrap .u64 (IntKind.wrap .i64 ((Int.tmod b 8) + 8))))) else (IntKind.wrap .u64 ((IntKind.wrap .u64 (8 * a)) + (IntKind.wrap .u64 (Int.tmod b 8))))
theorem makeR_told (a b : Int) : Tells Try.prog 52 [.int .u64 a, .int .i64 b] (bare Try.prog) (.int .u64 (makeRV a b)) := by
  refine Tells.of_tree (h := bareK Try.prog) fitGrp SoundC.no AgreeT.no (by kernel_rfl) rfl (show Ro (bare Try.prog) from Ro.bare) (n := 11) (d := 40) ?_
  rw [makeR_tree]
  unfold makeRV
  cases (decide (Int.tmod b 8 < 0)) <;> rfl
theorem makeRV_eq {a b : Int} (hb : -9223372036854775808 ≤ b ∧ b < 9223372036854775808) : makeRV a b = makeV a b := by
  unfold makeRV makeV
  rcases tmod_cases b 8 with ⟨h1, h2⟩ | ⟨h1, h2⟩
  · rw [h2, condF (decide_eq_false (by omega))]
    simp only [wrap_u64]
    omega
  · rw [h2]
    by_cases h : -(-b % 8) < 0
    · rw [condT (decide_eq_true h), wrap_i64_id (by omega) (by omega)]
      simp only [wrap_u64]
      omega
    · rw [condF (decide_eq_false h)]
      simp only [wrap_u64]
      omega
def grpE : ConE := fun _ f args => match f, args with
  | 58, [.int .i64 a] => some ⟨[], [.int .i64 a], [], (.int .i64 (groupsV a)), [], []⟩
  | 47, [.int .i64 a] => some ⟨[], [.int .i64 a], [], (.int .i64 (groupsV a)), [], []⟩
  | 59, [.int .u64 a, .int .i64 b] => some ⟨[], [.int .u64 a, .int .i64 b], [], (.int .u64 (makeV a b)), [], []⟩
  | 52, [.int .u64 a, .int .i64 b] => some ⟨[], [.int .u64 a, .int .i64 b], [], (.int .u64 (makeRV a b)), [], []⟩
  | _, _ => none
def grpDom : List FuncId := [47, 52, 58, 59]
theorem grp_sound : SoundC Try.prog (conC grpDom grpE) := by
  refine SoundC.con (fun f hf => fitGrp.fnOk f hf) ?_
  intro h f args c _ hE
  unfold grpE at hE
  split at hE
  · cases hE; exact ConOk.bare noVars rfl rfl (groupsA_told _) h
  · cases hE; exact ConOk.bare noVars rfl rfl (groupsR_told _) h
  · cases hE; exact ConOk.bare noVars rfl rfl (makeA_told _ _) h
  · cases hE; exact ConOk.bare noVars rfl rfl (makeR_told _ _) h
  · cases hE
end Go.Proofs.Ytmphcolclkpnnab
