/- What the functions of the desk compute. -/
import Derived.Test.YtmphcolclkpnnaaDoorFit
import Derived.WalkKit
import Derived.ProofKit
import Derived.OpenShut
import Derived.ChangeOld
import Derived.Below
import Derived.SizedLaws
namespace Go.Proofs.YtmphcolclkpnnaaDoor
open Go.Eng
open Go.ChangeShapes Go.WideShapes Go.ChangeAt Go.RowKit
set_option linter.unusedVariables false
set_option linter.unusedSimpArgs false
set_option maxRecDepth 100000
noncomputable def cfgD : Cfg := ⟨[]⟩
noncomputable def fsD : List FuncId := [6, 7, 8, 9, 10, 11, 12, 13, 14, 15, 23, 24]
theorem fitD : Fit Tryd.prog cfgD fsD := ⟨by kernel_rfl, Cfg.ok_of (by kernel_rfl), by kernel_rfl⟩
def rightV (a b c d : Int) : Bool := decide (a ≠ 0 ∧ 1 ≤ c ∧ c ≤ 64 ∧ 1 ≤ d ∧ d ≤ 64 ∧ 0 ≤ b ∧ b < c)
def rightRV (a b c d : Int) : Bool := decide (0 < a ∧ 1 ≤ c ∧ c ≤ 64 ∧ 1 ≤ d ∧ d ≤ 64 ∧ 0 ≤ b ∧ b < c)
theorem rightRV_eq {a b c d : Int} (h : 0 ≤ a) : rightRV a b c d = rightV a b c d := by
  unfold rightRV rightV
  exact decide_eq_decide.2 ⟨fun k => ⟨by omega, k.2⟩, fun k => ⟨by omega, k.2⟩⟩
def deskSizeV (a : Int) : Int := if 1 ≤ a ∧ a ≤ 64 then 2 + 2 * a else 0
def tabCellV (a : Int) : Int := if 0 ≤ a ∧ a ≤ 63 then 2 + 2 * a else -1
def boxCellV (a : Int) : Int := if 0 ≤ a ∧ a ≤ 63 then 3 + 2 * a else -1
def whoN (a : Int) : Int := if 2 ≤ a ∧ a ≤ 129 then (a - 2) / 2 else -1
def whoB (a : Int) : Bool := decide (2 ≤ a ∧ a ≤ 129 ∧ a % 2 = 1)
theorem desk_Right_tree (a b c d g : Int) (e : TypeId) : runK Tryd.prog cfgD fsD noT 70 40 8 [(.agg #[(.int .u64 a), (.int .i64 b), (.int .i64 c), (.int .i64 d), (.int .u64 g)])] (varH .i64 [1, 64, 1, 64] e) valK =
  bif (a != 0) then
    bif (decide (c ≥ 1)) then
      bif (decide (c ≤ 64)) then
        bif (decide (d ≥ 1)) then
          bif (decide (d ≤ 64)) then
            bif (decide (b ≥ 0)) then
              some (.bool (decide (b < c)))
            else
              some (.bool false)
          else
            some (.bool false)
        else
          some (.bool false)
      else
        some (.bool false)
    else
      some (.bool false)
  else
    some (.bool false) := by kernel_rfl
theorem desk_Right_told (a b c d g : Int) (e : TypeId) : Tells Tryd.prog 8 [(.agg #[(.int .u64 a), (.int .i64 b), (.int .i64 c), (.int .i64 d), (.int .u64 g)])] (varH .i64 [1, 64, 1, 64] e).low (.bool (rightV a b c d)) := by
  refine Tells.of_tree (h := (varH .i64 [1, 64, 1, 64] e)) fitD SoundC.no AgreeT.no (by kernel_rfl) rfl (show Ro (varH .i64 [1, 64, 1, 64] e).low from Ro.varH) (n := 70) (d := 40) ?_
  rw [desk_Right_tree]
  unfold rightV
  simp only [cond_eq_ite, decide_eq_true_eq, bne_iff_ne, ne_eq, Bool.not_eq_true', decide_eq_false_iff_not]
  repeat' split
  all_goals (refine congrArg (fun b => some (Value.bool b)) ?_; symm; first | (apply decide_eq_true; omega) | (apply decide_eq_false; omega) | exact decide_eq_decide.2 ⟨fun _ => by omega, fun _ => by omega⟩)
theorem sprocketref14_Right_tree (a b c d g : Int) (e : TypeId) : runK Tryd.prog cfgD fsD noT 70 40 9 [(.agg #[(.int .u64 a), (.int .i64 b), (.int .i64 c), (.int .i64 d), (.int .u64 g)])] (varH .i64 [1, 64, 1, 64] e) valK =
  bif (decide (a > 0)) then
    bif (decide (c ≥ 1)) then
      bif (decide (c ≤ 64)) then
        bif (decide (b ≥ 0)) then
          bif (decide (b < c)) then
            bif (decide (d ≥ 1)) then
              some (.bool (decide (d ≤ 64)))
            else
              some (.bool false)
          else
            some (.bool false)
        else
          some (.bool false)
      else
        some (.bool false)
    else
      some (.bool false)
  else
    some (.bool false) := by kernel_rfl
theorem sprocketref14_Right_told (a b c d g : Int) (e : TypeId) : Tells Tryd.prog 9 [(.agg #[(.int .u64 a), (.int .i64 b), (.int .i64 c), (.int .i64 d), (.int .u64 g)])] (varH .i64 [1, 64, 1, 64] e).low (.bool (rightRV a b c d)) := by
  refine Tells.of_tree (h := (varH .i64 [1, 64, 1, 64] e)) fitD SoundC.no AgreeT.no (by kernel_rfl) rfl (show Ro (varH .i64 [1, 64, 1, 64] e).low from Ro.varH) (n := 70) (d := 40) ?_
  rw [sprocketref14_Right_tree]
  unfold rightRV
  simp only [cond_eq_ite, decide_eq_true_eq, bne_iff_ne, ne_eq, Bool.not_eq_true', decide_eq_false_iff_not]
  repeat' split
  all_goals (refine congrArg (fun b => some (Value.bool b)) ?_; symm; first | (apply decide_eq_true; omega) | (apply decide_eq_false; omega) | exact decide_eq_decide.2 ⟨fun _ => by omega, fun _ => by omega⟩)
theorem desk_Size_tree (a : Int) (e : TypeId) : runK Tryd.prog cfgD fsD noT 70 40 10 [(.int .i64 a)] (varH .i64 [1, 64, 1, 64] e) valK =
  bif (decide (a ≥ 1)) then
    bif (!(decide (a ≤ 64))) then
      some (.int .i64 0)
    else
      some (.int .i64 (IntKind.wrap .i64 (2 + (IntKind.wrap .i64 (2 * a)))))
  else
    some (.int .i64 0) := by kernel_rfl
theorem desk_Size_told (a : Int) (e : TypeId) : Tells Tryd.prog 10 [(.int .i64 a)] (varH .i64 [1, 64, 1, 64] e).low (.int .i64 (deskSizeV a)) := by
  refine Tells.of_tree (h := (varH .i64 [1, 64, 1, 64] e)) fitD SoundC.no AgreeT.no (by kernel_rfl) rfl (show Ro (varH .i64 [1, 64, 1, 64] e).low from Ro.varH) (n := 70) (d := 40) ?_
  rw [desk_Size_tree]
  unfold deskSizeV
  simp only [cond_eq_ite, decide_eq_true_eq, bne_iff_ne, ne_eq, Bool.not_eq_true', decide_eq_false_iff_not]
  repeat' split
  all_goals (refine congrArg (fun b => some (Value.int .i64 b)) ?_; first | omega | (simp (disch := omega) only [wrap_i64_id]; omega) | (simp only [IntKind.wrap_i64]; omega))
theorem sprocketref14_Size_tree (a : Int) (e : TypeId) : runK Tryd.prog cfgD fsD noT 70 40 11 [(.int .i64 a)] (varH .i64 [1, 64, 1, 64] e) valK =
  bif (decide (a < 1)) then
    some (.int .i64 0)
  else
    bif (decide (a > 64)) then
      some (.int .i64 0)
    else
      some (.int .i64 (IntKind.wrap .i64 ((IntKind.wrap .i64 (2 + a)) + a))) := by kernel_rfl
theorem sprocketref14_Size_told (a : Int) (e : TypeId) : Tells Tryd.prog 11 [(.int .i64 a)] (varH .i64 [1, 64, 1, 64] e).low (.int .i64 (deskSizeV a)) := by
  refine Tells.of_tree (h := (varH .i64 [1, 64, 1, 64] e)) fitD SoundC.no AgreeT.no (by kernel_rfl) rfl (show Ro (varH .i64 [1, 64, 1, 64] e).low from Ro.varH) (n := 70) (d := 40) ?_
  rw [sprocketref14_Size_tree]
  unfold deskSizeV
  simp only [cond_eq_ite, decide_eq_true_eq, bne_iff_ne, ne_eq, Bool.not_eq_true', decide_eq_false_iff_not]
  repeat' split
  all_goals (refine congrArg (fun b => some (Value.int .i64 b)) ?_; first | omega | (simp (disch := omega) only [wrap_i64_id]; omega) | (simp only [IntKind.wrap_i64]; omega))
theorem desk_TableCell_tree (a : Int) (e : TypeId) : runK Tryd.prog cfgD fsD noT 70 40 12 [(.int .i64 a)] (varH .i64 [1, 64, 1, 64] e) valK =
  bif (decide (a < 0)) then
    some (.int .i64 (-1))
  else
    bif (decide (a ≥ 64)) then
      some (.int .i64 (-1))
    else
      some (.int .i64 (IntKind.wrap .i64 ((IntKind.wrap .i64 (2 + (IntKind.wrap .i64 (2 * a)))) + 0))) := by kernel_rfl
theorem desk_TableCell_told (a : Int) (e : TypeId) : Tells Tryd.prog 12 [(.int .i64 a)] (varH .i64 [1, 64, 1, 64] e).low (.int .i64 (tabCellV a)) := by
  refine Tells.of_tree (h := (varH .i64 [1, 64, 1, 64] e)) fitD SoundC.no AgreeT.no (by kernel_rfl) rfl (show Ro (varH .i64 [1, 64, 1, 64] e).low from Ro.varH) (n := 70) (d := 40) ?_
  rw [desk_TableCell_tree]
  unfold tabCellV
  simp only [cond_eq_ite, decide_eq_true_eq, bne_iff_ne, ne_eq, Bool.not_eq_true', decide_eq_false_iff_not]
  repeat' split
  all_goals (refine congrArg (fun b => some (Value.int .i64 b)) ?_; first | omega | (simp (disch := omega) only [wrap_i64_id]; omega) | (simp only [IntKind.wrap_i64]; omega))
theorem sprocketref14_TableCell_tree (a : Int) (e : TypeId) : runK Tryd.prog cfgD fsD noT 70 40 13 [(.int .i64 a)] (varH .i64 [1, 64, 1, 64] e) valK =
  bif (decide (a < 0)) then
    some (.int .i64 (-1))
  else
    bif (decide (a > 63)) then
      some (.int .i64 (-1))
    else
      some (.int .i64 (IntKind.wrap .i64 ((IntKind.wrap .i64 (2 + a)) + a))) := by kernel_rfl
theorem sprocketref14_TableCell_told (a : Int) (e : TypeId) : Tells Tryd.prog 13 [(.int .i64 a)] (varH .i64 [1, 64, 1, 64] e).low (.int .i64 (tabCellV a)) := by
  refine Tells.of_tree (h := (varH .i64 [1, 64, 1, 64] e)) fitD SoundC.no AgreeT.no (by kernel_rfl) rfl (show Ro (varH .i64 [1, 64, 1, 64] e).low from Ro.varH) (n := 70) (d := 40) ?_
  rw [sprocketref14_TableCell_tree]
  unfold tabCellV
  simp only [cond_eq_ite, decide_eq_true_eq, bne_iff_ne, ne_eq, Bool.not_eq_true', decide_eq_false_iff_not]
  repeat' split
  all_goals (refine congrArg (fun b => some (Value.int .i64 b)) ?_; first | omega | (simp (disch := omega) only [wrap_i64_id]; omega) | (simp only [IntKind.wrap_i64]; omega))
theorem desk_BoxCell_tree (a : Int) (e : TypeId) : runK Tryd.prog cfgD fsD noT 70 40 14 [(.int .i64 a)] (varH .i64 [1, 64, 1, 64] e) valK =
  bif (decide (a < 0)) then
    some (.int .i64 (-1))
  else
    bif (decide (a ≥ 64)) then
      some (.int .i64 (-1))
    else
      some (.int .i64 (IntKind.wrap .i64 ((IntKind.wrap .i64 (2 + (IntKind.wrap .i64 (2 * a)))) + 1))) := by kernel_rfl
theorem desk_BoxCell_told (a : Int) (e : TypeId) : Tells Tryd.prog 14 [(.int .i64 a)] (varH .i64 [1, 64, 1, 64] e).low (.int .i64 (boxCellV a)) := by
  refine Tells.of_tree (h := (varH .i64 [1, 64, 1, 64] e)) fitD SoundC.no AgreeT.no (by kernel_rfl) rfl (show Ro (varH .i64 [1, 64, 1, 64] e).low from Ro.varH) (n := 70) (d := 40) ?_
  rw [desk_BoxCell_tree]
  unfold boxCellV
  simp only [cond_eq_ite, decide_eq_true_eq, bne_iff_ne, ne_eq, Bool.not_eq_true', decide_eq_false_iff_not]
  repeat' split
  all_goals (refine congrArg (fun b => some (Value.int .i64 b)) ?_; first | omega | (simp (disch := omega) only [wrap_i64_id]; omega) | (simp only [IntKind.wrap_i64]; omega))
theorem sprocketref14_BoxCell_tree (a : Int) (e : TypeId) : runK Tryd.prog cfgD fsD noT 70 40 15 [(.int .i64 a)] (varH .i64 [1, 64, 1, 64] e) valK =
  bif (decide (a < 0)) then
    some (.int .i64 (-1))
  else
    bif (decide (a > 63)) then
      some (.int .i64 (-1))
    else
      some (.int .i64 (IntKind.wrap .i64 ((IntKind.wrap .i64 (3 + a)) + a))) := by kernel_rfl
theorem sprocketref14_BoxCell_told (a : Int) (e : TypeId) : Tells Tryd.prog 15 [(.int .i64 a)] (varH .i64 [1, 64, 1, 64] e).low (.int .i64 (boxCellV a)) := by
  refine Tells.of_tree (h := (varH .i64 [1, 64, 1, 64] e)) fitD SoundC.no AgreeT.no (by kernel_rfl) rfl (show Ro (varH .i64 [1, 64, 1, 64] e).low from Ro.varH) (n := 70) (d := 40) ?_
  rw [sprocketref14_BoxCell_tree]
  unfold boxCellV
  simp only [cond_eq_ite, decide_eq_true_eq, bne_iff_ne, ne_eq, Bool.not_eq_true', decide_eq_false_iff_not]
  repeat' split
  all_goals (refine congrArg (fun b => some (Value.int .i64 b)) ?_; first | omega | (simp (disch := omega) only [wrap_i64_id]; omega) | (simp only [IntKind.wrap_i64]; omega))
theorem desk_Whose_tree (a : Int) (e : TypeId) : runK Tryd.prog cfgD fsD noT 70 40 6 [(.int .i64 a)] (varH .i64 [1, 64, 1, 64] e) valK =
  bif (decide (a < 2)) then
    some (.tuple #[(.int .i64 (-1)), (.bool false)])
  else
    bif (decide ((IntKind.wrap .i64 (a - 2)) ≥ 128)) then
      some (.tuple #[(.int .i64 (-1)), (.bool false)])
    else
      some (.tuple #[(.int .i64 (IntKind.wrap .i64 (Int.tdiv (IntKind.wrap .i64 (a - 2)) 2))), (.bool ((Int.tmod (IntKind.wrap .i64 (a - 2)) 2) == 1))]) := by kernel_rfl
theorem desk_Whose_told (a : Int) (e : TypeId) (ha : -9223372036854775808 ≤ a ∧ a < 9223372036854775808) : Tells Tryd.prog 6 [(.int .i64 a)] (varH .i64 [1, 64, 1, 64] e).low (.tuple #[.int .i64 (whoN a), .bool (whoB a)]) := by
  refine Tells.of_tree (h := (varH .i64 [1, 64, 1, 64] e)) fitD SoundC.no AgreeT.no (by kernel_rfl) rfl (show Ro (varH .i64 [1, 64, 1, 64] e).low from Ro.varH) (n := 70) (d := 40) ?_
  rw [desk_Whose_tree]
  unfold whoN whoB
  by_cases h : a < 2
  · rw [condT (decide_eq_true h), if_neg (by omega), decide_eq_false (by omega)]
  · rw [condF (decide_eq_false h)]
    by_cases h2 : 129 < a
    · rw [condT (decide_eq_true (by rw [wrap_i64_id (by omega) (by omega)]; omega)), if_neg (by omega), decide_eq_false (by omega)]
    · rw [condF (decide_eq_false (by rw [wrap_i64_id (by omega) (by omega)]; omega)), wrap_i64_id (n := a - 2) (by omega) (by omega), if_pos (by omega), Int.tdiv_eq_ediv_of_nonneg (by omega), Int.tmod_eq_emod_of_nonneg (by omega), wrap_i64_id (by omega) (by omega)]
      have : ((a - 2) % 2 == 1) = decide (2 ≤ a ∧ a ≤ 129 ∧ a % 2 = 1) := by
        by_cases h3 : a % 2 = 1
        · rw [decide_eq_true (by omega)]; exact ibeq_t (by omega)
        · rw [decide_eq_false (by omega)]; exact ibeq_f (by omega)
      rw [this]
theorem sprocketref14_Whose_tree (a : Int) (e : TypeId) : runK Tryd.prog cfgD fsD noT 70 40 7 [(.int .i64 a)] (varH .i64 [1, 64, 1, 64] e) valK =
  bif (2 == a) then
    some (.tuple #[(.int .i64 0), (.bool false)])
  else
    bif (3 == a) then
      some (.tuple #[(.int .i64 0), (.bool true)])
    else
      bif (4 == a) then
        some (.tuple #[(.int .i64 1), (.bool false)])
      else
        bif (5 == a) then
          some (.tuple #[(.int .i64 1), (.bool true)])
        else
          bif (6 == a) then
            some (.tuple #[(.int .i64 2), (.bool false)])
          else
            bif (7 == a) then
              some (.tuple #[(.int .i64 2), (.bool true)])
            else
              bif (8 == a) then
                some (.tuple #[(.int .i64 3), (.bool false)])
              else
                bif (9 == a) then
                  some (.tuple #[(.int .i64 3), (.bool true)])
                else
                  bif (10 == a) then
                    some (.tuple #[(.int .i64 4), (.bool false)])
                  else
                    bif (11 == a) then
                      some (.tuple #[(.int .i64 4), (.bool true)])
                    else
                      bif (12 == a) then
                        some (.tuple #[(.int .i64 5), (.bool false)])
                      else
                        bif (13 == a) then
                          some (.tuple #[(.int .i64 5), (.bool true)])
                        else
                          bif (14 == a) then
                            some (.tuple #[(.int .i64 6), (.bool false)])
                          else
                            bif (15 == a) then
                              some (.tuple #[(.int .i64 6), (.bool true)])
                            else
                              bif (16 == a) then
                                some (.tuple #[(.int .i64 7), (.bool false)])
                              else
                                bif (17 == a) then
                                  some (.tuple #[(.int .i64 7), (.bool true)])
                                else
                                  bif (18 == a) then
                                    some (.tuple #[(.int .i64 8), (.bool false)])
                                  else
                                    bif (19 == a) then
                                      some (.tuple #[(.int .i64 8), (.bool true)])
                                    else
                                      bif (20 == a) then
                                        some (.tuple #[(.int .i64 9), (.bool false)])
                                      else
                                        bif (21 == a) then
                                          some (.tuple #[(.int .i64 9), (.bool true)])
                                        else
                                          bif (22 == a) then
                                            some (.tuple #[(.int .i64 10), (.bool false)])
                                          else
                                            bif (23 == a) then
                                              some (.tuple #[(.int .i64 10), (.bool true)])
                                            else
                                              bif (24 == a) then
                                                some (.tuple #[(.int .i64 11), (.bool false)])
                                              else
                                                bif (25 == a) then
                                                  some (.tuple #[(.int .i64 11), (.bool true)])
                                                else
                                                  bif (26 == a) then
                                                    some (.tuple #[(.int .i64 12), (.bool false)])
                                                  else
                                                    bif (27 == a) then
                                                      some (.tuple #[(.int .i64 12), (.bool true)])
                                                    else
                                                      bif (28 == a) then
                                                        some (.tuple #[(.int .i64 13), (.bool false)])
                                                      else
                                                        bif (29 == a) then
                                                          some (.tuple #[(.int .i64 13), (.bool true)])
                                                        else
                                                          bif (30 == a) then
                                                            some (.tuple #[(.int .i64 14), (.bool false)])
                                                          else
                                                            bif (31 == a) then
                                                              some (.tuple #[(.int .i64 14), (.bool true)])
                                                            else
                                                              bif (32 == a) then
                                                                some (.tuple #[(.int .i64 15), (.bool false)])
                                                              else
                                                                bif (33 == a) then
                                                                  some (.tuple #[(.int .i64 15), (.bool true)])
                                                                else
                                                                  bif (34 == a) then
                                                                    some (.tuple #[(.int .i64 16), (.bool false)])
                                                                  else
                                                                    bif (35 == a) then
                                                                      some (.tuple #[(.int .i64 16), (.bool true)])
                                                                    else
                                                                      bif (36 == a) then
                                                                        some (.tuple #[(.int .i64 17), (.bool false)])
                                                                      else
                                                                        bif (37 == a) then
                                                                          some (.tuple #[(.int .i64 17), (.bool true)])
                                                                        else
                                                                          bif (38 == a) then
                                                                            some (.tuple #[(.int .i64 18), (.bool false)])
                                                                          else
                                                                            bif (39 == a) then
                                                                              some (.tuple #[(.int .i64 18), (.bool true)])
                                                                            else
                                                                              bif (40 == a) then
                                                                                some (.tuple #[(.int .i64 19), (.bool false)])
                                                                              else
                                                                                bif (41 == a) then
                                                                                  some (.tuple #[(.int .i64 19), (.bool true)])
                                                                                else
                                                                                  bif (42 == a) then
                                                                                    some (.tuple #[(.int .i64 20), (.bool false)])
                                                                                  else
                                                                                    bif (43 == a) then
                                                                                      some (.tuple #[(.int .i64 20), (.bool true)])
                                                                                    else
                                                                                      bif (44 == a) then
                                                                                        some (.tuple #[(.int .i64 21), (.bool false)])
                                                                                      else
                                                                                        bif (45 == a) then
                                                                                          some (.tuple #[(.int .i64 21), (.bool true)])
                                                                                        else
                                                                                          bif (46 == a) then
                                                                                            some (.tuple #[(.int .i64 22), (.bool false)])
                                                                                          else
                                                                                            bif (47 == a) then
                                                                                              some (.tuple #[(.int .i64 22), (.bool true)])
                                                                                            else
                                                                                              bif (48 == a) then
                                                                                                some (.tuple #[(.int .i64 23), (.bool false)])
                                                                                              else
                                                                                                bif (49 == a) then
                                                                                                  some (.tuple #[(.int .i64 23), (.bool true)])
                                                                                                else
                                                                                                  bif (50 == a) then
                                                                                                    some (.tuple #[(.int .i64 24), (.bool false)])
                                                                                                  else
                                                                                                    bif (51 == a) then
                                                                                                      some (.tuple #[(.int .i64 24), (.bool true)])
                                                                                                    else
                                                                                                      bif (52 == a) then
                                                                                                        some (.tuple #[(.int .i64 25), (.bool false)])
                                                                                                      else
                                                                                                        bif (53 == a) then
                                                                                                          some (.tuple #[(.int .i64 25), (.bool true)])
                                                                                                        else
                                                                                                          bif (54 == a) then
                                                                                                            some (.tuple #[(.int .i64 26), (.bool false)])
                                                                                                          else
                                                                                                            bif (55 == a) then
                                                                                                              some (.tuple #[(.int .i64 26), (.bool true)])
                                                                                                            else
                                                                                                              bif (56 == a) then
                                                                                                                some (.tuple #[(.int .i64 27), (.bool false)])
                                                                                                              else
                                                                                                                bif (57 == a) then
                                                                                                                  some (.tuple #[(.int .i64 27), (.bool true)])
                                                                                                                else
                                                                                                                  bif (58 == a) then
                                                                                                                    some (.tuple #[(.int .i64 28), (.bool false)])
                                                                                                                  else
                                                                                                                    bif (59 == a) then
                                                                                                                      some (.tuple #[(.int .i64 28), (.bool true)])
                                                                                                                    else
                                                                                                                      bif (60 == a) then
                                                                                                                        some (.tuple #[(.int .i64 29), (.bool false)])
                                                                                                                      else
                                                                                                                        bif (61 == a) then
                                                                                                                          some (.tuple #[(.int .i64 29), (.bool true)])
                                                                                                                        else
                                                                                                                          bif (62 == a) then
                                                                                                                            some (.tuple #[(.int .i64 30), (.bool false)])
                                                                                                                          else
                                                                                                                            bif (63 == a) then
                                                                                                                              some (.tuple #[(.int .i64 30), (.bool true)])
                                                                                                                            else
                                                                                                                              bif (64 == a) then
                                                                                                                                some (.tuple #[(.int .i64 31), (.bool false)])
                                                                                                                              else
                                                                                                                                bif (65 == a) then
                                                                                                                                  some (.tuple #[(.int .i64 31), (.bool true)])
                                                                                                                                else
                                                                                                                                  bif (66 == a) then
                                                                                                                                    some (.tuple #[(.int .i64 32), (.bool false)])
                                                                                                                                  else
                                                                                                                                    bif (67 == a) then
                                                                                                                                      some (.tuple #[(.int .i64 32), (.bool true)])
                                                                                                                                    else
                                                                                                                                      bif (68 == a) then
                                                                                                                                        some (.tuple #[(.int .i64 33), (.bool false)])
                                                                                                                                      else
                                                                                                                                        bif (69 == a) then
                                                                                                                                          some (.tuple #[(.int .i64 33), (.bool true)])
                                                                                                                                        else
                                                                                                                                          bif (70 == a) then
                                                                                                                                            some (.tuple #[(.int .i64 34), (.bool false)])
                                                                                                                                          else
                                                                                                                                            bif (71 == a) then
                                                                                                                                              some (.tuple #[(.int .i64 34), (.bool true)])
                                                                                                                                            else
                                                                                                                                              bif (72 == a) then
                                                                                                                                                some (.tuple #[(.int .i64 35), (.bool false)])
                                                                                                                                              else
                                                                                                                                                bif (73 == a) then
                                                                                                                                                  some (.tuple #[(.int .i64 35), (.bool true)])
                                                                                                                                                else
                                                                                                                                                  bif (74 == a) then
                                                                                                                                                    some (.tuple #[(.int .i64 36), (.bool false)])
                                                                                                                                                  else
                                                                                                                                                    bif (75 == a) then
                                                                                                                                                      some (.tuple #[(.int .i64 36), (.bool true)])
                                                                                                                                                    else
                                                                                                                                                      bif (76 == a) then
                                                                                                                                                        some (.tuple #[(.int .i64 37), (.bool false)])
                                                                                                                                                      else
                                                                                                                                                        bif (77 == a) then
                                                                                                                                                          some (.tuple #[(.int .i64 37), (.bool true)])
                                                                                                                                                        else
                                                                                                                                                          bif (78 == a) then
                                                                                                                                                            some (.tuple #[(.int .i64 38), (.bool false)])
                                                                                                                                                          else
                                                                                                                                                            bif (79 == a) then
                                                                                                                                                              some (.tuple #[(.int .i64 38), (.bool true)])
                                                                                                                                                            else
                                                                                                                                                              bif (80 == a) then
                                                                                                                                                                some (.tuple #[(.int .i64 39), (.bool false)])
                                                                                                                                                              else
                                                                                                                                                                bif (81 == a) then
                                                                                                                                                                  some (.tuple #[(.int .i64 39), (.bool true)])
                                                                                                                                                                else
                                                                                                                                                                  bif (82 == a) then
                                                                                                                                                                    some (.tuple #[(.int .i64 40), (.bool false)])
                                                                                                                                                                  else
                                                                                                                                                                    bif (83 == a) then
                                                                                                                                                                      some (.tuple #[(.int .i64 40), (.bool true)])
                                                                                                                                                                    else
                                                                                                                                                                      bif (84 == a) then
                                                                                                                                                                        some (.tuple #[(.int .i64 41), (.bool false)])
                                                                                                                                                                      else
                                                                                                                                                                        bif (85 == a) then
                                                                                                                                                                          some (.tuple #[(.int .i64 41), (.bool true)])
                                                                                                                                                                        else
                                                                                                                                                                          bif (86 == a) then
                                                                                                                                                                            some (.tuple #[(.int .i64 42), (.bool false)])
                                                                                                                                                                          else
                                                                                                                                                                            bif (87 == a) then
                                                                                                                                                                              some (.tuple #[(.int .i64 42), (.bool true)])
                                                                                                                                                                            else
                                                                                                                                                                              bif (88 == a) then
                                                                                                                                                                                some (.tuple #[(.int .i64 43), (.bool false)])
                                                                                                                                                                              else
                                                                                                                                                                                bif (89 == a) then
                                                                                                                                                                                  some (.tuple #[(.int .i64 43), (.bool true)])
                                                                                                                                                                                else
                                                                                                                                                                                  bif (90 == a) then
                                                                                                                                                                                    some (.tuple #[(.int .i64 44), (.bool false)])
                                                                                                                                                                                  else
                                                                                                                                                                                    bif (91 == a) then
                                                                                                                                                                                      some (.tuple #[(.int .i64 44), (.bool true)])
                                                                                                                                                                                    else
                                                                                                                                                                                      bif (92 == a) then
                                                                                                                                                                                        some (.tuple #[(.int .i64 45), (.bool false)])
                                                                                                                                                                                      else
                                                                                                                                                                                        bif (93 == a) then
                                                                                                                                                                                          some (.tuple #[(.int .i64 45), (.bool true)])
                                                                                                                                                                                        else
                                                                                                                                                                                          bif (94 == a) then
                                                                                                                                                                                            some (.tuple #[(.int .i64 46), (.bool false)])
                                                                                                                                                                                          else
                                                                                                                                                                                            bif (95 == a) then
                                                                                                                                                                                              some (.tuple #[(.int .i64 46), (.bool true)])
                                                                                                                                                                                            else
                                                                                                                                                                                              bif (96 == a) then
                                                                                                                                                                                                some (.tuple #[(.int .i64 47), (.bool false)])
                                                                                                                                                                                              else
                                                                                                                                                                                                bif (97 == a) then
                                                                                                                                                                                                  some (.tuple #[(.int .i64 47), (.bool true)])
                                                                                                                                                                                                else
                                                                                                                                                                                                  bif (98 == a) then
                                                                                                                                                                                                    some (.tuple #[(.int .i64 48), (.bool false)])
                                                                                                                                                                                                  else
                                                                                                                                                                                                    bif (99 == a) then
                                                                                                                                                                                                      some (.tuple #[(.int .i64 48), (.bool true)])
                                                                                                                                                                                                    else
                                                                                                                                                                                                      bif (100 == a) then
                                                                                                                                                                                                        some (.tuple #[(.int .i64 49), (.bool false)])
                                                                                                                                                                                                      else
                                                                                                                                                                                                        bif (101 == a) then
                                                                                                                                                                                                          some (.tuple #[(.int .i64 49), (.bool true)])
                                                                                                                                                                                                        else
                                                                                                                                                                                                          bif (102 == a) then
                                                                                                                                                                                                            some (.tuple #[(.int .i64 50), (.bool false)])
                                                                                                                                                                                                          else
                                                                                                                                                                                                            bif (103 == a) then
                                                                                                                                                                                                              some (.tuple #[(.int .i64 50), (.bool true)])
                                                                                                                                                                                                            else
                                                                                                                                                                                                              bif (104 == a) then
                                                                                                                                                                                                                some (.tuple #[(.int .i64 51), (.bool false)])
                                                                                                                                                                                                              else
                                                                                                                                                                                                                bif (105 == a) then
                                                                                                                                                                                                                  some (.tuple #[(.int .i64 51), (.bool true)])
                                                                                                                                                                                                                else
                                                                                                                                                                                                                  bif (106 == a) then
                                                                                                                                                                                                                    some (.tuple #[(.int .i64 52), (.bool false)])
                                                                                                                                                                                                                  else
                                                                                                                                                                                                                    bif (107 == a) then
                                                                                                                                                                                                                      some (.tuple #[(.int .i64 52), (.bool true)])
                                                                                                                                                                                                                    else
                                                                                                                                                                                                                      bif (108 == a) then
                                                                                                                                                                                                                        some (.tuple #[(.int .i64 53), (.bool false)])
                                                                                                                                                                                                                      else
                                                                                                                                                                                                                        bif (109 == a) then
                                                                                                                                                                                                                          some (.tuple #[(.int .i64 53), (.bool true)])
                                                                                                                                                                                                                        else
                                                                                                                                                                                                                          bif (110 == a) then
                                                                                                                                                                                                                            some (.tuple #[(.int .i64 54), (.bool false)])
                                                                                                                                                                                                                          else
                                                                                                                                                                                                                            bif (111 == a) then
                                                                                                                                                                                                                              some (.tuple #[(.int .i64 54), (.bool true)])
                                                                                                                                                                                                                            else
                                                                                                                                                                                                                              bif (112 == a) then
                                                                                                                                                                                                                                some (.tuple #[(.int .i64 55), (.bool false)])
                                                                                                                                                                                                                              else
                                                                                                                                                                                                                                bif (113 == a) then
                                                                                                                                                                                                                                  some (.tuple #[(.int .i64 55), (.bool true)])
                                                                                                                                                                                                                                else
                                                                                                                                                                                                                                  bif (114 == a) then
                                                                                                                                                                                                                                    some (.tuple #[(.int .i64 56), (.bool false)])
                                                                                                                                                                                                                                  else
                                                                                                                                                                                                                                    bif (115 == a) then
                                                                                                                                                                                                                                      some (.tuple #[(.int .i64 56), (.bool true)])
                                                                                                                                                                                                                                    else
                                                                                                                                                                                                                                      bif (116 == a) then
                                                                                                                                                                                                                                        some (.tuple #[(.int .i64 57), (.bool false)])
                                                                                                                                                                                                                                      else
                                                                                                                                                                                                                                        bif (117 == a) then
                                                                                                                                                                                                                                          some (.tuple #[(.int .i64 57), (.bool true)])
                                                                                                                                                                                                                                        else
                                                                                                                                                                                                                                          bif (118 == a) then
                                                                                                                                                                                                                                            some (.tuple #[(.int .i64 58), (.bool false)])
                                                                                                                                                                                                                                          else
                                                                                                                                                                                                                                            bif (119 == a) then
                                                                                                                                                                                                                                              some (.tuple #[(.int .i64 58), (.bool true)])
                                                                                                                                                                                                                                            else
                                                                                                                                                                                                                                              bif (120 == a) then
                                                                                                                                                                                                                                                some (.tuple #[(.int .i64 59), (.bool false)])
                                                                                                                                                                                                                                              else
                                                                                                                                                                                                                                                bif (121 == a) then
                                                                                                                                                                                                                                                  some (.tuple #[(.int .i64 59), (.bool true)])
                                                                                                                                                                                                                                                else
                                                                                                                                                                                                                                                  bif (122 == a) then
                                                                                                                                                                                                                                                    some (.tuple #[(.int .i64 60), (.bool false)])
                                                                                                                                                                                                                                                  else
                                                                                                                                                                                                                                                    bif (123 == a) then
                                                                                                                                                                                                                                                      some (.tuple #[(.int .i64 60), (.bool true)])
                                                                                                                                                                                                                                                    else
                                                                                                                                                                                                                                                      bif (124 == a) then
                                                                                                                                                                                                                                                        some (.tuple #[(.int .i64 61), (.bool false)])
                                                                                                                                                                                                                                                      else
                                                                                                                                                                                                                                                        bif (125 == a) then
                                                                                                                                                                                                                                                          some (.tuple #[(.int .i64 61), (.bool true)])
                                                                                                                                                                                                                                                        else
                                                                                                                                                                                                                                                          bif (126 == a) then
                                                                                                                                                                                                                                                            some (.tuple #[(.int .i64 62), (.bool false)])
                                                                                                                                                                                                                                                          else
                                                                                                                                                                                                                                                            bif (127 == a) then
                                                                                                                                                                                                                                                              some (.tuple #[(.int .i64 62), (.bool true)])
                                                                                                                                                                                                                                                            else
                                                                                                                                                                                                                                                              bif (128 == a) then
                                                                                                                                                                                                                                                                some (.tuple #[(.int .i64 63), (.bool false)])
                                                                                                                                                                                                                                                              else
                                                                                                                                                                                                                                                                bif (129 == a) then
                                                                                                                                                                                                                                                                  some (.tuple #[(.int .i64 63), (.bool true)])
                                                                                                                                                                                                                                                                else
                                                                                                                                                                                                                                                                  some (.tuple #[(.int .i64 (-1)), (.bool false)]) := by kernel_rfl
theorem sprocketref14_Whose_told (a : Int) (e : TypeId) : Tells Tryd.prog 7 [(.int .i64 a)] (varH .i64 [1, 64, 1, 64] e).low (.tuple #[.int .i64 (whoN a), .bool (whoB a)]) := by
  refine Tells.of_tree (h := (varH .i64 [1, 64, 1, 64] e)) fitD SoundC.no AgreeT.no (by kernel_rfl) rfl (show Ro (varH .i64 [1, 64, 1, 64] e).low from Ro.varH) (n := 70) (d := 40) ?_
  rw [sprocketref14_Whose_tree]
  by_cases h : 2 ≤ a ∧ a ≤ 129
  · obtain ⟨k, rfl⟩ : ∃ k : Nat, a = (k : Int) + 2 := ⟨(a - 2).toNat, by omega⟩
    have hk : k < 128 := by omega
    clear h
    match k, hk with
    | 0, _ => show _ = _; kernel_rfl
    | 1, _ => show _ = _; kernel_rfl
    | 2, _ => show _ = _; kernel_rfl
    | 3, _ => show _ = _; kernel_rfl
    | 4, _ => show _ = _; kernel_rfl
    | 5, _ => show _ = _; kernel_rfl
    | 6, _ => show _ = _; kernel_rfl
    | 7, _ => show _ = _; kernel_rfl
    | 8, _ => show _ = _; kernel_rfl
    | 9, _ => show _ = _; kernel_rfl
    | 10, _ => show _ = _; kernel_rfl
    | 11, _ => show _ = _; kernel_rfl
    | 12, _ => show _ = _; kernel_rfl
    | 13, _ => show _ = _; kernel_rfl
    | 14, _ => show _ = _; kernel_rfl
    | 15, _ => show _ = _; kernel_rfl
    | 16, _ => show _ = _; kernel_rfl
    | 17, _ => show _ = _; kernel_rfl
    | 18, _ => show _ = _; kernel_rfl
    | 19, _ => show _ = _; kernel_rfl
    | 20, _ => show _ = _; kernel_rfl
    | 21, _ => show _ = _; kernel_rfl
    | 22, _ => show _ = _; kernel_rfl
    | 23, _ => show _ = _; kernel_rfl
    | 24, _ => show _ = _; kernel_rfl
    | 25, _ => show _ = _; kernel_rfl
    | 26, _ => show _ = _; kernel_rfl
    | 27, _ => show _ = _; kernel_rfl
    | 28, _ => show _ = _; kernel_rfl
    | 29, _ => show _ = _; kernel_rfl
    | 30, _ => show _ = _; kernel_rfl
    | 31, _ => show _ = _; kernel_rfl
    | 32, _ => show _ = _; kernel_rfl
    | 33, _ => show _ = _; kernel_rfl
    | 34, _ => show _ = _; kernel_rfl
    | 35, _ => show _ = _; kernel_rfl
    | 36, _ => show _ = _; kernel_rfl
    | 37, _ => show _ = _; kernel_rfl
    | 38, _ => show _ = _; kernel_rfl
    | 39, _ => show _ = _; kernel_rfl
    | 40, _ => show _ = _; kernel_rfl
    | 41, _ => show _ = _; kernel_rfl
    | 42, _ => show _ = _; kernel_rfl
    | 43, _ => show _ = _; kernel_rfl
    | 44, _ => show _ = _; kernel_rfl
    | 45, _ => show _ = _; kernel_rfl
    | 46, _ => show _ = _; kernel_rfl
    | 47, _ => show _ = _; kernel_rfl
    | 48, _ => show _ = _; kernel_rfl
    | 49, _ => show _ = _; kernel_rfl
    | 50, _ => show _ = _; kernel_rfl
    | 51, _ => show _ = _; kernel_rfl
    | 52, _ => show _ = _; kernel_rfl
    | 53, _ => show _ = _; kernel_rfl
    | 54, _ => show _ = _; kernel_rfl
    | 55, _ => show _ = _; kernel_rfl
    | 56, _ => show _ = _; kernel_rfl
    | 57, _ => show _ = _; kernel_rfl
    | 58, _ => show _ = _; kernel_rfl
    | 59, _ => show _ = _; kernel_rfl
    | 60, _ => show _ = _; kernel_rfl
    | 61, _ => show _ = _; kernel_rfl
    | 62, _ => show _ = _; kernel_rfl
    | 63, _ => show _ = _; kernel_rfl
    | 64, _ => show _ = _; kernel_rfl
    | 65, _ => show _ = _; kernel_rfl
    | 66, _ => show _ = _; kernel_rfl
    | 67, _ => show _ = _; kernel_rfl
    | 68, _ => show _ = _; kernel_rfl
    | 69, _ => show _ = _; kernel_rfl
    | 70, _ => show _ = _; kernel_rfl
    | 71, _ => show _ = _; kernel_rfl
    | 72, _ => show _ = _; kernel_rfl
    | 73, _ => show _ = _; kernel_rfl
    | 74, _ => show _ = _; kernel_rfl
    | 75, _ => show _ = _; kernel_rfl
    | 76, _ => show _ = _; kernel_rfl
    | 77, _ => show _ = _; kernel_rfl
    | 78, _ => show _ = _; kernel_rfl
    | 79, _ => show _ = _; kernel_rfl
    | 80, _ => show _ = _; kernel_rfl
    | 81, _ => show _ = _; kernel_rfl
    | 82, _ => show _ = _; kernel_rfl
    | 83, _ => show _ = _; kernel_rfl
    | 84, _ => show _ = _; kernel_rfl
    | 85, _ => show _ = _; kernel_rfl
    | 86, _ => show _ = _; kernel_rfl
    | 87, _ => show _ = _; kernel_rfl
    | 88, _ => show _ = _; kernel_rfl
    | 89, _ => show _ = _; kernel_rfl
    | 90, _ => show _ = _; kernel_rfl
    | 91, _ => show _ = _; kernel_rfl
    | 92, _ => show _ = _; kernel_rfl
    | 93, _ => show _ = _; kernel_rfl
    | 94, _ => show _ = _; kernel_rfl
    | 95, _ => show _ = _; kernel_rfl
    | 96, _ => show _ = _; kernel_rfl
    | 97, _ => show _ = _; kernel_rfl
    | 98, _ => show _ = _; kernel_rfl
    | 99, _ => show _ = _; kernel_rfl
    | 100, _ => show _ = _; kernel_rfl
    | 101, _ => show _ = _; kernel_rfl
    | 102, _ => show _ = _; kernel_rfl
    | 103, _ => show _ = _; kernel_rfl
    | 104, _ => show _ = _; kernel_rfl
    | 105, _ => show _ = _; kernel_rfl
    | 106, _ => show _ = _; kernel_rfl
    | 107, _ => show _ = _; kernel_rfl
    | 108, _ => show _ = _; kernel_rfl
    | 109, _ => show _ = _; kernel_rfl
    | 110, _ => show _ = _; kernel_rfl
    | 111, _ => show _ = _; kernel_rfl
    | 112, _ => show _ = _; kernel_rfl
    | 113, _ => show _ = _; kernel_rfl
    | 114, _ => show _ = _; kernel_rfl
    | 115, _ => show _ = _; kernel_rfl
    | 116, _ => show _ = _; kernel_rfl
    | 117, _ => show _ = _; kernel_rfl
    | 118, _ => show _ = _; kernel_rfl
    | 119, _ => show _ = _; kernel_rfl
    | 120, _ => show _ = _; kernel_rfl
    | 121, _ => show _ = _; kernel_rfl
    | 122, _ => show _ = _; kernel_rfl
    | 123, _ => show _ = _; kernel_rfl
    | 124, _ => show _ = _; kernel_rfl
    | 125, _ => show _ = _; kernel_rfl
    | 126, _ => show _ = _; kernel_rfl
    | 127, _ => show _ = _; kernel_rfl
    | n + 128, hk => exact absurd hk (by omega)
  · unfold whoN whoB
    rw [if_neg h, decide_eq_false (by omega)]
    rw [condF (ibeq_f (by omega)), condF (ibeq_f (by omega)), condF (ibeq_f (by omega)), condF (ibeq_f (by omega)), condF (ibeq_f (by omega)), condF (ibeq_f (by omega)), condF (ibeq_f (by omega)), condF (ibeq_f (by omega)), condF (ibeq_f (by omega)), condF (ibeq_f (by omega)), condF (ibeq_f (by omega)), condF (ibeq_f (by omega)), condF (ibeq_f (by omega)), condF (ibeq_f (by omega)), condF (ibeq_f (by omega)), condF (ibeq_f (by omega)), condF (ibeq_f (by omega)), condF (ibeq_f (by omega)), condF (ibeq_f (by omega)), condF (ibeq_f (by omega)), condF (ibeq_f (by omega)), condF (ibeq_f (by omega)), condF (ibeq_f (by omega)), condF (ibeq_f (by omega)), condF (ibeq_f (by omega)), condF (ibeq_f (by omega)), condF (ibeq_f (by omega)), condF (ibeq_f (by omega)), condF (ibeq_f (by omega)), condF (ibeq_f (by omega)), condF (ibeq_f (by omega)), condF (ibeq_f (by omega)), condF (ibeq_f (by omega)), condF (ibeq_f (by omega)), condF (ibeq_f (by omega)), condF (ibeq_f (by omega)), condF (ibeq_f (by omega)), condF (ibeq_f (by omega)), condF (ibeq_f (by omega)), condF (ibeq_f (by omega)), condF (ibeq_f (by omega)), condF (ibeq_f (by omega)), condF (ibeq_f (by omega)), condF (ibeq_f (by omega)), condF (ibeq_f (by omega)), condF (ibeq_f (by omega)), condF (ibeq_f (by omega)), condF (ibeq_f (by omega)), condF (ibeq_f (by omega)), condF (ibeq_f (by omega)), condF (ibeq_f (by omega)), condF (ibeq_f (by omega)), condF (ibeq_f (by omega)), condF (ibeq_f (by omega)), condF (ibeq_f (by omega)), condF (ibeq_f (by omega)), condF (ibeq_f (by omega)), condF (ibeq_f (by omega)), condF (ibeq_f (by omega)), condF (ibeq_f (by omega)), condF (ibeq_f (by omega)), condF (ibeq_f (by omega)), condF (ibeq_f (by omega)), condF (ibeq_f (by omega)), condF (ibeq_f (by omega)), condF (ibeq_f (by omega)), condF (ibeq_f (by omega)), condF (ibeq_f (by omega)), condF (ibeq_f (by omega)), condF (ibeq_f (by omega)), condF (ibeq_f (by omega)), condF (ibeq_f (by omega)), condF (ibeq_f (by omega)), condF (ibeq_f (by omega)), condF (ibeq_f (by omega)), condF (ibeq_f (by omega)), condF (ibeq_f (by omega)), condF (ibeq_f (by omega)), condF (ibeq_f (by omega)), condF (ibeq_f (by omega)), condF (ibeq_f (by omega)), condF (ibeq_f (by omega)), condF (ibeq_f (by omega)), condF (ibeq_f (by omega)), condF (ibeq_f (by omega)), condF (ibeq_f (by omega)), condF (ibeq_f (by omega)), condF (ibeq_f (by omega)), condF (ibeq_f (by omega)), condF (ibeq_f (by omega)), condF (ibeq_f (by omega)), condF (ibeq_f (by omega)), condF (ibeq_f (by omega)), condF (ibeq_f (by omega)), condF (ibeq_f (by omega)), condF (ibeq_f (by omega)), condF (ibeq_f (by omega)), condF (ibeq_f (by omega)), condF (ibeq_f (by omega)), condF (ibeq_f (by omega)), condF (ibeq_f (by omega)), condF (ibeq_f (by omega)), condF (ibeq_f (by omega)), condF (ibeq_f (by omega)), condF (ibeq_f (by omega)), condF (ibeq_f (by omega)), condF (ibeq_f (by omega)), condF (ibeq_f (by omega)), condF (ibeq_f (by omega)), condF (ibeq_f (by omega)), condF (ibeq_f (by omega)), condF (ibeq_f (by omega)), condF (ibeq_f (by omega)), condF (ibeq_f (by omega)), condF (ibeq_f (by omega)), condF (ibeq_f (by omega)), condF (ibeq_f (by omega)), condF (ibeq_f (by omega)), condF (ibeq_f (by omega)), condF (ibeq_f (by omega)), condF (ibeq_f (by omega)), condF (ibeq_f (by omega)), condF (ibeq_f (by omega)), condF (ibeq_f (by omega)), condF (ibeq_f (by omega)), condF (ibeq_f (by omega)), condF (ibeq_f (by omega)), condF (ibeq_f (by omega))]
def deskE : ConE := fun acc f args => match acc.cells 0 with
  | some ([.int .i64 1, .int .i64 64, .int .i64 1, .int .i64 64], e, false) => (match f, args with
    | 8, [(.agg ⟨[(.int .u64 a), (.int .i64 b), (.int .i64 c), (.int .i64 d), (.int .u64 g)]⟩)] => some ⟨[0], [(.agg #[(.int .u64 a), (.int .i64 b), (.int .i64 c), (.int .i64 d), (.int .u64 g)])], [.cells [.int .i64 1, .int .i64 64, .int .i64 1, .int .i64 64] e false], .bool (rightV a b c d), [], []⟩
    | 9, [(.agg ⟨[(.int .u64 a), (.int .i64 b), (.int .i64 c), (.int .i64 d), (.int .u64 g)]⟩)] => some ⟨[0], [(.agg #[(.int .u64 a), (.int .i64 b), (.int .i64 c), (.int .i64 d), (.int .u64 g)])], [.cells [.int .i64 1, .int .i64 64, .int .i64 1, .int .i64 64] e false], .bool (rightRV a b c d), [], []⟩
    | 10, [(.int .i64 a)] => some ⟨[0], [(.int .i64 a)], [.cells [.int .i64 1, .int .i64 64, .int .i64 1, .int .i64 64] e false], .int .i64 (deskSizeV a), [], []⟩
    | 11, [(.int .i64 a)] => some ⟨[0], [(.int .i64 a)], [.cells [.int .i64 1, .int .i64 64, .int .i64 1, .int .i64 64] e false], .int .i64 (deskSizeV a), [], []⟩
    | 12, [(.int .i64 a)] => some ⟨[0], [(.int .i64 a)], [.cells [.int .i64 1, .int .i64 64, .int .i64 1, .int .i64 64] e false], .int .i64 (tabCellV a), [], []⟩
    | 13, [(.int .i64 a)] => some ⟨[0], [(.int .i64 a)], [.cells [.int .i64 1, .int .i64 64, .int .i64 1, .int .i64 64] e false], .int .i64 (tabCellV a), [], []⟩
    | 14, [(.int .i64 a)] => some ⟨[0], [(.int .i64 a)], [.cells [.int .i64 1, .int .i64 64, .int .i64 1, .int .i64 64] e false], .int .i64 (boxCellV a), [], []⟩
    | 15, [(.int .i64 a)] => some ⟨[0], [(.int .i64 a)], [.cells [.int .i64 1, .int .i64 64, .int .i64 1, .int .i64 64] e false], .int .i64 (boxCellV a), [], []⟩
    | 7, [(.int .i64 a)] => some ⟨[0], [(.int .i64 a)], [.cells [.int .i64 1, .int .i64 64, .int .i64 1, .int .i64 64] e false], .tuple #[.int .i64 (whoN a), .bool (whoB a)], [], []⟩
    | _, _ => none)
  | _ => none
def deskDom : List FuncId := [8, 9, 10, 11, 12, 13, 14, 15, 7]
theorem desk_fn : ∀ f ∈ deskDom, FnOk Tryd.prog f := fun f hf => fitD.fnOk f (by
    have h0 : (deskDom.all fun f => fsD.contains f) = true := by kernel_rfl
    simpa using List.all_eq_true.1 h0 f hf)
theorem desk_ok : ∀ (h : AH) (f : FuncId) (args : List Value) (c : Con), deskE (accA h) f args = some c → ConOk Tryd.prog f args h c := by
  intro h f args c hE
  unfold deskE at hE
  split at hE
  · rename_i e hc
    have hc0 : h.get 0 = some (.cells (intCells .i64 [1, 64, 1, 64]) e false) := by
      have hc : cellsA h 0 = _ := hc
      unfold cellsA at hc
      split at hc
      · rename_i hq; cases hc; exact hq
      · cases hc
    split at hE
    · cases hE; exact ConOk.var oneVar rfl rfl (desk_Right_told _ _ _ _ _ _) h hc0
    · cases hE; exact ConOk.var oneVar rfl rfl (sprocketref14_Right_told _ _ _ _ _ _) h hc0
    · cases hE; exact ConOk.var oneVar rfl rfl (desk_Size_told _ _) h hc0
    · cases hE; exact ConOk.var oneVar rfl rfl (sprocketref14_Size_told _ _) h hc0
    · cases hE; exact ConOk.var oneVar rfl rfl (desk_TableCell_told _ _) h hc0
    · cases hE; exact ConOk.var oneVar rfl rfl (sprocketref14_TableCell_told _ _) h hc0
    · cases hE; exact ConOk.var oneVar rfl rfl (desk_BoxCell_told _ _) h hc0
    · cases hE; exact ConOk.var oneVar rfl rfl (sprocketref14_BoxCell_told _ _) h hc0
    · cases hE; exact ConOk.var oneVar rfl rfl (sprocketref14_Whose_told _ _) h hc0
    · cases hE
  · cases hE
theorem desk_sound : SoundC Tryd.prog (conC deskDom deskE) := SoundC.con desk_fn fun h f args c _ hE => desk_ok h f args c hE
end Go.Proofs.YtmphcolclkpnnaaDoor
