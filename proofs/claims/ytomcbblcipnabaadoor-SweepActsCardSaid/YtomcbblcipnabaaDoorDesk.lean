/- What the functions of the desk compute. -/
import Derived.Test.YtomcbblcipnabaaDoorFit
import Derived.WalkKit
import Derived.ProofKit
import Derived.OpenShut
import Derived.ChangeOld
import Derived.Below
import Derived.SizedLaws
namespace Go.Proofs.YtomcbblcipnabaaDoor
open Go.Eng
open Go.ChangeShapes Go.WideShapes Go.ChangeAt Go.RowKit
set_option linter.unusedVariables false
set_option linter.unusedSimpArgs false
set_option maxRecDepth 100000
noncomputable def cfgD : Cfg := ⟨[]⟩
noncomputable def fsD : List FuncId := [6, 11, 12, 13, 14, 16, 18, 22, 23, 25, 29, 31, 32, 33, 36, 38]
theorem fitD : Fit Tryd.prog cfgD fsD := ⟨by kernel_rfl, Cfg.ok_of (by kernel_rfl), by kernel_rfl⟩
def rightV (a b c d : Int) : Bool := decide (a ≠ 0 ∧ 1 ≤ c ∧ c ≤ 64 ∧ 1 ≤ d ∧ d ≤ 64 ∧ 0 ≤ b ∧ b < c)
def rightRV (a b c d : Int) : Bool := decide (0 < a ∧ 1 ≤ c ∧ c ≤ 64 ∧ 1 ≤ d ∧ d ≤ 64 ∧ 0 ≤ b ∧ b < c)
theorem rightRV_eq {a b c d : Int} (h : 0 ≤ a) : rightRV a b c d = rightV a b c d := by
  unfold rightRV rightV
  exact decide_eq_decide.2 ⟨fun k => ⟨by omega, k.2⟩, fun k => ⟨by omega, k.2⟩⟩
def deskSizeV (a : Int) : Int := if 1 ≤ a ∧ a ≤ 64 then 2 + 2 * a else 0
def tabCellV (a : Int) : Int := if 0 ≤ a ∧ a ≤ 63 then 2 + 2 * a else -1
def boxCellV (a : Int) : Int := if 0 ≤ a ∧ a ≤ 63 then 3 + 2 * a else -1
def whoN (a : Int) : Int := if 2 ≤ a ∧ a ≤ 129 then (a - 2) / 2 else -1
def whoB (a : Int) : Bool := decide (2 ≤ a ∧ a ≤ 129 ∧ a % 2 = 1)
theorem desk_Right_tree (a b c d g : Int) (e : TypeId) : runK Tryd.prog cfgD fsD noT 70 40 11 [(.agg #[(.int .u64 a), (.int .i64 b), (.int .i64 c), (.int .i64 d), (.int .u64 g)])] (varH .i64 [1, 64, 1, 64] e) valK =
  bif (a != 0) then
    bif (decide (c ≥ 1)) then
      bif (decide (c ≤ 64)) then
        bif (decide (d ≥ 1)) then
          bif (decide (d ≤ 64)) then
            bif (decide (b ≥ 0)) then
              some (.bool (decide (b < c)))
            else
              some (.bool false)
          else
            some (.bool false)
        else
          some (.bool false)
      else
        some (.bool false)
    else
      some (.bool false)
  else
    some (.bool false) := by kernel_rfl
theorem desk_Right_told (a b c d g : Int) (e : TypeId) : Tells Tryd.prog 11 [(.agg #[(.int .u64 a), (.int .i64 b), (.int .i64 c), (.int .i64 d), (.int .u64 g)])] (varH .i64 [1, 64, 1, 64] e).low (.bool (rightV a b c d)) := by
  refine Tells.of_tree (h := (varH .i64 [1, 64, 1, 64] e)) fitD SoundC.no AgreeT.no (by kernel_rfl) rfl (show Ro (varH .i64 [1, 64, 1, 64] e).low from Ro.varH) (n := 70) (d := 40) ?_
  rw [desk_Right_tree]
  unfold rightV
  simp only [cond_eq_ite, decide_eq_true_eq, bne_iff_ne, ne_eq, Bool.not_eq_true', decide_eq_false_iff_not]
  repeat' split
  all_goals (refine congrArg (fun b => some (Value.bool b)) ?_; symm; first | (apply decide_eq_true; omega) | (apply decide_eq_false; omega) | exact decide_eq_decide.2 ⟨fun _ => by omega, fun _ => by omega⟩)
theorem sprocketref14_Right_tree (a b c d g : Int) (e : TypeId) : runK Tryd.prog cfgD fsD noT 70 40 6 [(.agg #[(.int .u64 a), (.int .i64 b), (.int .i64 c), (.int .i64 d), (.int .u64 g)])] (varH .i64 [1, 64, 1, 64] e) valK =
  bif (decide (a > 0)) then
    bif (decide (c ≥ 1)) then
      bif (decide (c ≤ 64)) then
        bif (decide (b ≥ 0)) then
          bif (decide (b < c)) then
            bif (decide (d ≥ 1)) then
              some (.bool (decide (d ≤ 64)))
            else
              some (.bool false)
          else
            some (.bool false)
        else
          some (.bool false)
      else
        some (.bool false)
    else
      some (.bool false)
  else
    some (.bool false) := by kernel_rfl
theorem sprocketref14_Right_told (a b c d g : Int) (e : TypeId) : Tells Tryd.prog 6 [(.agg #[(.int .u64 a), (.int .i64 b), (.int .i64 c), (.int .i64 d), (.int .u64 g)])] (varH .i64 [1, 64, 1, 64] e).low (.bool (rightRV a b c d)) := by
  refine Tells.of_tree (h := (varH .i64 [1, 64, 1, 64] e)) fitD SoundC.no AgreeT.no (by kernel_rfl) rfl (show Ro (varH .i64 [1, 64, 1, 64] e).low from Ro.varH) (n := 70) (d := 40) ?_
  rw [sprocketref14_Right_tree]
  unfold rightRV
  simp only [cond_eq_ite, decide_eq_true_eq, bne_iff_ne, ne_eq, Bool.not_eq_true', decide_eq_false_iff_not]
  repeat' split
  all_goals (refine congrArg (fun b => some (Value.bool b)) ?_; symm; first | (apply decide_eq_true; omega) | (apply decide_eq_false; omega) | exact decide_eq_decide.2 ⟨fun _ => by omega, fun _ => by omega⟩)
theorem desk_TableCell_tree (a : Int) (e : TypeId) : runK Tryd.prog cfgD fsD noT 70 40 14 [(.int .i64 a)] (varH .i64 [1, 64, 1, 64] e) valK =
  bif (decide (a < 0)) then
    some (.int .i64 (-1))
  else
    bif (decide (a ≥ 64)) then
      some (.int .i64 (-1))
    else
      some (.int .i64 (IntKind.wrap .i64 ((IntKind.wrap .i64 (2 + (IntKind.wrap .i64 (2 * a)))) + 0))) := by kernel_rfl
theorem desk_TableCell_told (a : Int) (e : TypeId) : Tells Tryd.prog 14 [(.int .i64 a)] (varH .i64 [1, 64, 1, 64] e).low (.int .i64 (tabCellV a)) := by
  refine Tells.of_tree (h := (varH .i64 [1, 64, 1, 64] e)) fitD SoundC.no AgreeT.no (by kernel_rfl) rfl (show Ro (varH .i64 [1, 64, 1, 64] e).low from Ro.varH) (n := 70) (d := 40) ?_
  rw [desk_TableCell_tree]
  unfold tabCellV
  simp only [cond_eq_ite, decide_eq_true_eq, bne_iff_ne, ne_eq, Bool.not_eq_true', decide_eq_false_iff_not]
  repeat' split
  all_goals (refine congrArg (fun b => some (Value.int .i64 b)) ?_; first | omega | (simp (disch := omega) only [wrap_i64_id]; omega) | (simp only [IntKind.wrap_i64]; omega))
theorem sprocketref14_TableCell_tree (a : Int) (e : TypeId) : runK Tryd.prog cfgD fsD noT 70 40 25 [(.int .i64 a)] (varH .i64 [1, 64, 1, 64] e) valK =
  bif (decide (a < 0)) then
    some (.int .i64 (-1))
  else
    bif (decide (a > 63)) then
      some (.int .i64 (-1))
    else
      some (.int .i64 (IntKind.wrap .i64 ((IntKind.wrap .i64 (2 + a)) + a))) := by kernel_rfl
theorem sprocketref14_TableCell_told (a : Int) (e : TypeId) : Tells Tryd.prog 25 [(.int .i64 a)] (varH .i64 [1, 64, 1, 64] e).low (.int .i64 (tabCellV a)) := by
  refine Tells.of_tree (h := (varH .i64 [1, 64, 1, 64] e)) fitD SoundC.no AgreeT.no (by kernel_rfl) rfl (show Ro (varH .i64 [1, 64, 1, 64] e).low from Ro.varH) (n := 70) (d := 40) ?_
  rw [sprocketref14_TableCell_tree]
  unfold tabCellV
  simp only [cond_eq_ite, decide_eq_true_eq, bne_iff_ne, ne_eq, Bool.not_eq_true', decide_eq_false_iff_not]
  repeat' split
  all_goals (refine congrArg (fun b => some (Value.int .i64 b)) ?_; first | omega | (simp (disch := omega) only [wrap_i64_id]; omega) | (simp only [IntKind.wrap_i64]; omega))
/-- tag.Block -/
def blockA (a : Int) : Int :=
  (Int.fdiv a (2 ^ 3))
theorem tag_Block_tree (a : Int) (e : TypeId) : runK Tryd.prog cfgD fsD noT 70 40 12 [(.int .u64 a)] (varH .i64 [1, 64, 1, 64] e) valK =
  some (.int .u64 (Int.fdiv a (2 ^ 3))) := by kernel_rfl
theorem tag_Block_told (a : Int) (e : TypeId) : Tells Tryd.prog 12 [(.int .u64 a)] (varH .i64 [1, 64, 1, 64] e).low (.int .u64 (blockA a)) :=
  Tells.of_tree (h := (varH .i64 [1, 64, 1, 64] e)) fitD SoundC.no AgreeT.no (by kernel_rfl) rfl (show Ro (varH .i64 [1, 64, 1, 64] e).low from Ro.varH) (n := 70) (d := 40) (by rw [tag_Block_tree]; (try simp only [cond_bool, cond_int]); rfl)
/-- sprocketref11.Block -/
def blockR (a : Int) : Int :=
  (IntKind.wrap .u64 (Int.tdiv a 8))
theorem sprocketref11_Block_tree (a : Int) (e : TypeId) : runK Tryd.prog cfgD fsD noT 70 40 22 [(.int .u64 a)] (varH .i64 [1, 64, 1, 64] e) valK =
  some (.int .u64 (IntKind.wrap .u64 (Int.tdiv a 8))) := by kernel_rfl
theorem sprocketref11_Block_told (a : Int) (e : TypeId) : Tells Tryd.prog 22 [(.int .u64 a)] (varH .i64 [1, 64, 1, 64] e).low (.int .u64 (blockR a)) :=
  Tells.of_tree (h := (varH .i64 [1, 64, 1, 64] e)) fitD SoundC.no AgreeT.no (by kernel_rfl) rfl (show Ro (varH .i64 [1, 64, 1, 64] e).low from Ro.varH) (n := 70) (d := 40) (by rw [sprocketref11_Block_tree]; (try simp only [cond_bool, cond_int]); rfl)
/-- tag.Mark -/
def markA (a : Int) : Int :=
  (IntKind.wrap .i64 (bits .and .u64 a 7))
theorem tag_Mark_tree (a : Int) (e : TypeId) : runK Tryd.prog cfgD fsD noT 70 40 18 [(.int .u64 a)] (varH .i64 [1, 64, 1, 64] e) valK =
  some (.int .i64 (IntKind.wrap .i64 (bits .and .u64 a 7))) := by kernel_rfl
theorem tag_Mark_told (a : Int) (e : TypeId) : Tells Tryd.prog 18 [(.int .u64 a)] (varH .i64 [1, 64, 1, 64] e).low (.int .i64 (markA a)) :=
  Tells.of_tree (h := (varH .i64 [1, 64, 1, 64] e)) fitD SoundC.no AgreeT.no (by kernel_rfl) rfl (show Ro (varH .i64 [1, 64, 1, 64] e).low from Ro.varH) (n := 70) (d := 40) (by rw [tag_Mark_tree]; (try simp only [cond_bool, cond_int]); rfl)
/-- sprocketref11.Mark -/
def markR (a : Int) : Int :=
  (IntKind.wrap .i64 (Int.tmod a 8))
theorem sprocketref11_Mark_tree (a : Int) (e : TypeId) : runK Tryd.prog cfgD fsD noT 70 40 23 [(.int .u64 a)] (varH .i64 [1, 64, 1, 64] e) valK =
  some (.int .i64 (IntKind.wrap .i64 (Int.tmod a 8))) := by kernel_rfl
theorem sprocketref11_Mark_told (a : Int) (e : TypeId) : Tells Tryd.prog 23 [(.int .u64 a)] (varH .i64 [1, 64, 1, 64] e).low (.int .i64 (markR a)) :=
  Tells.of_tree (h := (varH .i64 [1, 64, 1, 64] e)) fitD SoundC.no AgreeT.no (by kernel_rfl) rfl (show Ro (varH .i64 [1, 64, 1, 64] e).low from Ro.varH) (n := 70) (d := 40) (by rw [sprocketref11_Mark_tree]; (try simp only [cond_bool, cond_int]); rfl)
/-- tag.Holds -/
def holdsA (a : Int) : Bool :=
  (bif ((Int.fdiv a (2 ^ 3)) != 0) then
    (bif (decide ((IntKind.wrap .i64 (bits .and .u64 a 7)) > 0)) then
      (decide ((IntKind.wrap .i64 (bits .and .u64 a 7)) ≤ 4))
    else
      false)
  else
    false)
theorem tag_Holds_tree (a : Int) (e : TypeId) : runK Tryd.prog cfgD fsD noT 70 40 36 [(.int .u64 a)] (varH .i64 [1, 64, 1, 64] e) valK =
  bif ((Int.fdiv a (2 ^ 3)) != 0) then
    bif (decide ((IntKind.wrap .i64 (bits .and .u64 a 7)) > 0)) then
      some (.bool (decide ((IntKind.wrap .i64 (bits .and .u64 a 7)) ≤ 4)))
    else
      some (.bool false)
  else
    some (.bool false) := by kernel_rfl
theorem tag_Holds_told (a : Int) (e : TypeId) : Tells Tryd.prog 36 [(.int .u64 a)] (varH .i64 [1, 64, 1, 64] e).low (.bool (holdsA a)) :=
  Tells.of_tree (h := (varH .i64 [1, 64, 1, 64] e)) fitD SoundC.no AgreeT.no (by kernel_rfl) rfl (show Ro (varH .i64 [1, 64, 1, 64] e).low from Ro.varH) (n := 70) (d := 40) (by rw [tag_Holds_tree]; (try simp only [cond_bool, cond_int]); rfl)
/-- sprocketref11.Holds -/
def holdsR (a : Int) : Bool :=
  (bif (decide (a ≥ 8)) then
    (bif (decide ((Int.tmod a 8) ≥ 1)) then
      (decide ((Int.tmod a 8) ≤ 4))
    else
      false)
  else
    false)
theorem sprocketref11_Holds_tree (a : Int) (e : TypeId) : runK Tryd.prog cfgD fsD noT 70 40 29 [(.int .u64 a)] (varH .i64 [1, 64, 1, 64] e) valK =
  bif (decide (a ≥ 8)) then
    bif (decide ((Int.tmod a 8) ≥ 1)) then
      some (.bool (decide ((Int.tmod a 8) ≤ 4)))
    else
      some (.bool false)
  else
    some (.bool false) := by kernel_rfl
theorem sprocketref11_Holds_told (a : Int) (e : TypeId) : Tells Tryd.prog 29 [(.int .u64 a)] (varH .i64 [1, 64, 1, 64] e).low (.bool (holdsR a)) :=
  Tells.of_tree (h := (varH .i64 [1, 64, 1, 64] e)) fitD SoundC.no AgreeT.no (by kernel_rfl) rfl (show Ro (varH .i64 [1, 64, 1, 64] e).low from Ro.varH) (n := 70) (d := 40) (by rw [sprocketref11_Holds_tree]; (try simp only [cond_bool, cond_int]); rfl)
/-- tag.Again -/
def againA (a b : Int) : Int :=
  (IntKind.wrap .u64 ((IntKind.wrap .u64 ((Int.fdiv a (2 ^ 3)) * (2 ^ 3))) + (IntKind.wrap .u64 (bits .and .i64 b 7))))
theorem tag_Again_tree (a b : Int) (e : TypeId) : runK Tryd.prog cfgD fsD noT 70 40 13 [(.int .u64 a), (.int .i64 b)] (varH .i64 [1, 64, 1, 64] e) valK =
  some (.int .u64 (IntKind.wrap .u64 ((IntKind.wrap .u64 ((Int.fdiv a (2 ^ 3)) * (2 ^ 3))) + (IntKind.wrap .u64 (bits .and .i64 b 7))))) := by kernel_rfl
theorem tag_Again_told (a b : Int) (e : TypeId) : Tells Tryd.prog 13 [(.int .u64 a), (.int .i64 b)] (varH .i64 [1, 64, 1, 64] e).low (.int .u64 (againA a b)) :=
  Tells.of_tree (h := (varH .i64 [1, 64, 1, 64] e)) fitD SoundC.no AgreeT.no (by kernel_rfl) rfl (show Ro (varH .i64 [1, 64, 1, 64] e).low from Ro.varH) (n := 70) (d := 40) (by rw [tag_Again_tree]; (try simp only [cond_bool, cond_int]); rfl)
/-- tag.Make -/
def makeA (a b : Int) : Int :=
  (IntKind.wrap .u64 ((IntKind.wrap .u64 (a * (2 ^ 3))) + (IntKind.wrap .u64 (bits .and .i64 b 7))))
theorem tag_Make_tree (a b : Int) (e : TypeId) : runK Tryd.prog cfgD fsD noT 70 40 16 [(.int .u64 a), (.int .i64 b)] (varH .i64 [1, 64, 1, 64] e) valK =
  some (.int .u64 (IntKind.wrap .u64 ((IntKind.wrap .u64 (a * (2 ^ 3))) + (IntKind.wrap .u64 (bits .and .i64 b 7))))) := by kernel_rfl
theorem tag_Make_told (a b : Int) (e : TypeId) : Tells Tryd.prog 16 [(.int .u64 a), (.int .i64 b)] (varH .i64 [1, 64, 1, 64] e).low (.int .u64 (makeA a b)) :=
  Tells.of_tree (h := (varH .i64 [1, 64, 1, 64] e)) fitD SoundC.no AgreeT.no (by kernel_rfl) rfl (show Ro (varH .i64 [1, 64, 1, 64] e).low from Ro.varH) (n := 70) (d := 40) (by rw [tag_Make_tree]; (try simp only [cond_bool, cond_int]); rfl)
/-- sprocketref11.Make -/
def makeR (a b : Int) : Int :=
  (bif (decide ((Int.tmod b 8) < 0)) then
    (IntKind.wrap .u64 ((IntKind.wrap .u64 (8 * a)) + (IntKind.wrap .u64 (IntKind.wrap .i64 ((Int.tmod b 8) + 8)))))
  else
    (IntKind.wrap .u64 ((IntKind.wrap .u64 (8 * a)) + (IntKind.wrap .u64 (Int.tmod b 8)))))
theorem sprocketref11_Make_tree (a b : Int) (e : TypeId) : runK Tryd.prog cfgD fsD noT 70 40 31 [(.int .u64 a), (.int .i64 b)] (varH .i64 [1, 64, 1, 64] e) valK =
  bif (decide ((Int.tmod b 8) < 0)) then
    some (.int .u64 (IntKind.wrap .u64 ((IntKind.wrap .u64 (8 * a)) + (IntKind.wrap .u64 (IntKind.wrap .i64 ((Int.tmod b 8) + 8))))))
  else
    some (.int .u64 (IntKind.wrap .u64 ((IntKind.wrap .u64 (8 * a)) + (IntKind.wrap .u64 (Int.tmod b 8))))) := by kernel_rfl
theorem sprocketref11_Make_told (a b : Int) (e : TypeId) : Tells Tryd.prog 31 [(.int .u64 a), (.int .i64 b)] (varH .i64 [1, 64, 1, 64] e).low (.int .u64 (makeR a b)) :=
  Tells.of_tree (h := (varH .i64 [1, 64, 1, 64] e)) fitD SoundC.no AgreeT.no (by kernel_rfl) rfl (show Ro (varH .i64 [1, 64, 1, 64] e).low from Ro.varH) (n := 70) (d := 40) (by rw [sprocketref11_Make_tree]; (try simp only [cond_bool, cond_int]); rfl)
def deskE : ConE := fun acc f args => match acc.cells 0 with
  | some ([.int .i64 1, .int .i64 64, .int .i64 1, .int .i64 64], e, false) => (match f, args with
    | 11, [(.agg ⟨[(.int .u64 a), (.int .i64 b), (.int .i64 c), (.int .i64 d), (.int .u64 g)]⟩)] => some ⟨[0], [(.agg #[(.int .u64 a), (.int .i64 b), (.int .i64 c), (.int .i64 d), (.int .u64 g)])], [.cells [.int .i64 1, .int .i64 64, .int .i64 1, .int .i64 64] e false], .bool (rightV a b c d), [], []⟩
    | 6, [(.agg ⟨[(.int .u64 a), (.int .i64 b), (.int .i64 c), (.int .i64 d), (.int .u64 g)]⟩)] => some ⟨[0], [(.agg #[(.int .u64 a), (.int .i64 b), (.int .i64 c), (.int .i64 d), (.int .u64 g)])], [.cells [.int .i64 1, .int .i64 64, .int .i64 1, .int .i64 64] e false], .bool (rightRV a b c d), [], []⟩
    | 14, [(.int .i64 a)] => some ⟨[0], [(.int .i64 a)], [.cells [.int .i64 1, .int .i64 64, .int .i64 1, .int .i64 64] e false], .int .i64 (tabCellV a), [], []⟩
    | 25, [(.int .i64 a)] => some ⟨[0], [(.int .i64 a)], [.cells [.int .i64 1, .int .i64 64, .int .i64 1, .int .i64 64] e false], .int .i64 (tabCellV a), [], []⟩
    | 12, [(.int .u64 a)] => some ⟨[0], [(.int .u64 a)], [.cells [.int .i64 1, .int .i64 64, .int .i64 1, .int .i64 64] e false], .int .u64 (blockA a), [], []⟩
    | 22, [(.int .u64 a)] => some ⟨[0], [(.int .u64 a)], [.cells [.int .i64 1, .int .i64 64, .int .i64 1, .int .i64 64] e false], .int .u64 (blockR a), [], []⟩
    | 18, [(.int .u64 a)] => some ⟨[0], [(.int .u64 a)], [.cells [.int .i64 1, .int .i64 64, .int .i64 1, .int .i64 64] e false], .int .i64 (markA a), [], []⟩
    | 23, [(.int .u64 a)] => some ⟨[0], [(.int .u64 a)], [.cells [.int .i64 1, .int .i64 64, .int .i64 1, .int .i64 64] e false], .int .i64 (markR a), [], []⟩
    | 36, [(.int .u64 a)] => some ⟨[0], [(.int .u64 a)], [.cells [.int .i64 1, .int .i64 64, .int .i64 1, .int .i64 64] e false], .bool (holdsA a), [], []⟩
    | 29, [(.int .u64 a)] => some ⟨[0], [(.int .u64 a)], [.cells [.int .i64 1, .int .i64 64, .int .i64 1, .int .i64 64] e false], .bool (holdsR a), [], []⟩
    | 13, [(.int .u64 a), (.int .i64 b)] => some ⟨[0], [(.int .u64 a), (.int .i64 b)], [.cells [.int .i64 1, .int .i64 64, .int .i64 1, .int .i64 64] e false], .int .u64 (againA a b), [], []⟩
    | 16, [(.int .u64 a), (.int .i64 b)] => some ⟨[0], [(.int .u64 a), (.int .i64 b)], [.cells [.int .i64 1, .int .i64 64, .int .i64 1, .int .i64 64] e false], .int .u64 (makeA a b), [], []⟩
    | 31, [(.int .u64 a), (.int .i64 b)] => some ⟨[0], [(.int .u64 a), (.int .i64 b)], [.cells [.int .i64 1, .int .i64 64, .int .i64 1, .int .i64 64] e false], .int .u64 (makeR a b), [], []⟩
    | _, _ => none)
  | _ => none
def deskDom : List FuncId := [11, 6, 14, 25, 12, 22, 18, 23, 36, 29, 13, 16, 31]
theorem desk_fn : ∀ f ∈ deskDom, FnOk Tryd.prog f := fun f hf => fitD.fnOk f (by
    have h0 : (deskDom.all fun f => fsD.contains f) = true := by kernel_rfl
    simpa using List.all_eq_true.1 h0 f hf)
theorem desk_ok : ∀ (h : AH) (f : FuncId) (args : List Value) (c : Con), deskE (accA h) f args = some c → ConOk Tryd.prog f args h c := by
  intro h f args c hE
  unfold deskE at hE
  split at hE
  · rename_i e hc
    have hc0 : h.get 0 = some (.cells (intCells .i64 [1, 64, 1, 64]) e false) := by
      have hc : cellsA h 0 = _ := hc
      unfold cellsA at hc
      split at hc
      · rename_i hq; cases hc; exact hq
      · cases hc
    split at hE
    · cases hE; exact ConOk.var oneVar rfl rfl (desk_Right_told _ _ _ _ _ _) h hc0
    · cases hE; exact ConOk.var oneVar rfl rfl (sprocketref14_Right_told _ _ _ _ _ _) h hc0
    · cases hE; exact ConOk.var oneVar rfl rfl (desk_TableCell_told _ _) h hc0
    · cases hE; exact ConOk.var oneVar rfl rfl (sprocketref14_TableCell_told _ _) h hc0
    · cases hE; exact ConOk.var oneVar rfl rfl (tag_Block_told _ _) h hc0
    · cases hE; exact ConOk.var oneVar rfl rfl (sprocketref11_Block_told _ _) h hc0
    · cases hE; exact ConOk.var oneVar rfl rfl (tag_Mark_told _ _) h hc0
    · cases hE; exact ConOk.var oneVar rfl rfl (sprocketref11_Mark_told _ _) h hc0
    · cases hE; exact ConOk.var oneVar rfl rfl (tag_Holds_told _ _) h hc0
    · cases hE; exact ConOk.var oneVar rfl rfl (sprocketref11_Holds_told _ _) h hc0
    · cases hE; exact ConOk.var oneVar rfl rfl (tag_Again_told _ _ _) h hc0
    · cases hE; exact ConOk.var oneVar rfl rfl (tag_Make_told _ _ _) h hc0
    · cases hE; exact ConOk.var oneVar rfl rfl (sprocketref11_Make_told _ _ _) h hc0
    · cases hE
  · cases hE
theorem desk_sound : SoundC Tryd.prog (conC deskDom deskE) := SoundC.con desk_fn fun h f args c _ hE => desk_ok h f args c hE
end Go.Proofs.YtomcbblcipnabaaDoor
