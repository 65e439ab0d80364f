/- How many groups a table has: two functions told. -/
import Derived.Test.YtmphcolclkpnnaaFit
import Derived.WalkKit
import Derived.ProofKit
import Derived.OpenShut
import Derived.ChangeOld
import Derived.Below
import Derived.SizedLaws
namespace Go.Proofs.Ytmphcolclkpnnaa
open Go.Eng
open Go.ChangeShapes Go.WideShapes Go.ChangeAt Go.RowKit
set_option linter.unusedVariables false
set_option linter.unusedSimpArgs false
set_option maxRecDepth 100000
noncomputable def fsGrp : List FuncId := [28, 65]
theorem fitGrp : Fit Try.prog cfgA fsGrp := ⟨by kernel_rfl, Cfg.ok_of (by kernel_rfl), by kernel_rfl⟩
/-- How many groups there are. -/
def groupsV (a : Int) : Int := if a < 0 ∨ 9 < a then 0 else 2 ^ a.toNat
theorem groupsA_tree (a : Int) : runK Try.prog cfgA fsGrp noT 11 40 28 [.int .i64 a] (bareK Try.prog) valK =
  bif (decide (a < 0)) then
    some (.int .i64 0)
  else
    bif (decide (a > 9)) then
      some (.int .i64 0)
    else
      bif (decide (a < 0)) then
        none
      else
        some (.int .i64 (IntKind.wrap .i64 (1 * (2 ^ (min (Int.toNat a) (IntKind.bits .i64)))))) := by kernel_rfl
theorem groupsR_tree (a : Int) : runK Try.prog cfgA fsGrp noT 11 40 65 [.int .i64 a] (bareK Try.prog) valK =
  bif (decide (a < 0)) then
    some (.int .i64 0)
  else
    bif (decide (a > 9)) then
      some (.int .i64 0)
    else
      bif (decide (0 < a)) then
        bif (decide (1 < a)) then
          bif (decide (2 < a)) then
            bif (decide (3 < a)) then
              bif (decide (4 < a)) then
                bif (decide (5 < a)) then
                  bif (decide (6 < a)) then
                    bif (decide (7 < a)) then
                      bif (decide (8 < a)) then
                        bif (decide (9 < a)) then
                          bif (decide (10 < a)) then
                            none
                          else
                            some (.int .i64 1024)
                        else
                          some (.int .i64 512)
                      else
                        some (.int .i64 256)
                    else
                      some (.int .i64 128)
                  else
                    some (.int .i64 64)
                else
                  some (.int .i64 32)
              else
                some (.int .i64 16)
            else
              some (.int .i64 8)
          else
            some (.int .i64 4)
        else
          some (.int .i64 2)
      else
        some (.int .i64 1) := by kernel_rfl
theorem small (a : Int) (h0 : ¬ a < 0) (h9 : ¬ 9 < a) : a = 0 ∨ a = 1 ∨ a = 2 ∨ a = 3 ∨ a = 4 ∨ a = 5 ∨ a = 6 ∨ a = 7 ∨ a = 8 ∨ a = 9 := by omega
theorem groupsA_told (a : Int) : Tells Try.prog 28 [.int .i64 a] (bare Try.prog) (.int .i64 (groupsV a)) := by
  refine Tells.of_tree (h := bareK Try.prog) fitGrp SoundC.no AgreeT.no (by kernel_rfl) rfl (show Ro (bare Try.prog) from Ro.bare) (n := 11) (d := 40) ?_
  rw [groupsA_tree]
  unfold groupsV
  by_cases h0 : a < 0
  · rw [if_pos (.inl h0), decide_eq_true h0]; rfl
  · by_cases h9 : 9 < a
    · rw [if_pos (.inr h9), decide_eq_false h0, decide_eq_true (show a > 9 from h9)]; rfl
    · rcases small a h0 h9 with h | h | h | h | h | h | h | h | h | h <;> subst h <;> kernel_rfl
theorem groupsR_told (a : Int) : Tells Try.prog 65 [.int .i64 a] (bare Try.prog) (.int .i64 (groupsV a)) := by
  refine Tells.of_tree (h := bareK Try.prog) fitGrp SoundC.no AgreeT.no (by kernel_rfl) rfl (show Ro (bare Try.prog) from Ro.bare) (n := 11) (d := 40) ?_
  rw [groupsR_tree]
  unfold groupsV
  by_cases h0 : a < 0
  · rw [if_pos (.inl h0), decide_eq_true h0]; rfl
  · by_cases h9 : 9 < a
    · rw [if_pos (.inr h9), decide_eq_false h0, decide_eq_true (show a > 9 from h9)]; rfl
    · rcases small a h0 h9 with h | h | h | h | h | h | h | h | h | h <;> subst h <;> kernel_rfl
theorem groupsV_bounds (a : Int) : 0 ≤ groupsV a ∧ groupsV a ≤ 512 := by
  unfold groupsV
  split
  · omega
  · rename_i h
    rcases small a (by omega) (by omega) with h | h | h | h | h | h | h | h | h | h <;> subst h <;> decide
theorem groupsV_pos (a : Int) : 0 < groupsV a ↔ 0 ≤ a ∧ a ≤ 9 := by
  unfold groupsV
  constructor
  · intro h
    split at h
    · omega
    · omega
  · intro h
    rw [if_neg (by omega)]
    rcases small a (by omega) (by omega) with h | h | h | h | h | h | h | h | h | h <;> subst h <;> decide
def grpE : ConE := fun _ f args => match f, args with
  | 28, [.int .i64 a] => some ⟨[], [.int .i64 a], [], .int .i64 (groupsV a), [], []⟩
  | 65, [.int .i64 a] => some ⟨[], [.int .i64 a], [], .int .i64 (groupsV a), [], []⟩
  | _, _ => none
def grpDom : List FuncId := [28, 65]
theorem grp_sound : SoundC Try.prog (conC grpDom grpE) := by
  refine SoundC.con (fun f hf => fitGrp.fnOk f hf) ?_
  intro h f args c _ hE
  unfold grpE at hE
  split at hE
  · cases hE; exact ConOk.bare noVars rfl rfl (groupsA_told _) h
  · cases hE; exact ConOk.bare noVars rfl rfl (groupsR_told _) h
  · cases hE
end Go.Proofs.Ytmphcolclkpnnaa
