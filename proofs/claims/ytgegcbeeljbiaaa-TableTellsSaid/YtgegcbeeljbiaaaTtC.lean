/- What stands where in the list. -/
import Derived.Test.YtgegcbeeljbiaaaTtB
import Derived.WalkKit
import Derived.ProofKit
import Derived.OpenShut
import Derived.ChangeOld
import Derived.Below
import Derived.SizedLaws
namespace Go.Proofs.Ytgegcbeeljbiaaa
open Go.Eng
open Go.ChangeShapes Go.WideShapes Go.ChangeAt Go.RowKit
set_option linter.unusedVariables false
set_option linter.unusedSimpArgs false
set_option maxRecDepth 100000
theorem grpL_get : ∀ (g x j : Nat), x < 7 + g → j < 3 → (grpL g).getD (x * 3 + j) 0 = if x < 7 then (if j = 0 then 1 else 0) else (if j = 0 then 2 else if j = 1 then ((x - 7 : Nat) : Int) else 0)
  | 0, x, j, hx, hj => by
    rw [if_pos (by omega)]
    match x, j, hx, hj with
    | 0, 0, _, _ => rfl
    | 0, 1, _, _ => rfl
    | 0, 2, _, _ => rfl
    | 1, 0, _, _ => rfl
    | 1, 1, _, _ => rfl
    | 1, 2, _, _ => rfl
    | 2, 0, _, _ => rfl
    | 2, 1, _, _ => rfl
    | 2, 2, _, _ => rfl
    | 3, 0, _, _ => rfl
    | 3, 1, _, _ => rfl
    | 3, 2, _, _ => rfl
    | 4, 0, _, _ => rfl
    | 4, 1, _, _ => rfl
    | 4, 2, _, _ => rfl
    | 5, 0, _, _ => rfl
    | 5, 1, _, _ => rfl
    | 5, 2, _, _ => rfl
    | 6, 0, _, _ => rfl
    | 6, 1, _, _ => rfl
    | 6, 2, _, _ => rfl
    | x + 7, j, hx, hj => omega
    | x, j + 3, hx, hj => omega
  | g + 1, x, j, hx, hj => by
    rw [List.getD_eq_getElem?_getD]
    unfold grpL
    by_cases h : x < 7 + g
    · rw [List.getElem?_append_left (by rw [grpL_length]; omega), ← List.getD_eq_getElem?_getD]
      exact grpL_get g x j h hj
    · have e : x = 7 + g := by omega
      subst e
      rw [List.getElem?_append_right (by rw [grpL_length]; omega), grpL_length, Nat.add_sub_cancel_left, if_neg (by omega), Nat.add_sub_cancel_left]
      match j, hj with
      | 0, _ => rfl
      | 1, _ => rfl
      | 2, _ => rfl
theorem sltL_get (b : List Int) (g m : Nat) (hb : b.length = m * 3) : ∀ (s x j : Nat), x < m + s → j < 3 → (sltL b g s).getD (x * 3 + j) 0 = if x < m then b.getD (x * 3 + j) 0 else (if j = 0 then 3 else if j = 1 then ((g : Nat) : Int) else ((x - m : Nat) : Int))
  | 0, x, j, hx, hj => by rw [if_pos (by omega)]; rfl
  | s + 1, x, j, hx, hj => by
    rw [List.getD_eq_getElem?_getD]
    unfold sltL
    by_cases h : x < m + s
    · rw [List.getElem?_append_left (by rw [sltL_length b g m hb]; omega), ← List.getD_eq_getElem?_getD]
      exact sltL_get b g m hb s x j h hj
    · have e : x = m + s := by omega
      subst e
      rw [List.getElem?_append_right (by rw [sltL_length b g m hb]; omega), sltL_length b g m hb, Nat.add_sub_cancel_left, if_neg (by omega), Nat.add_sub_cancel_left]
      match j, hj with
      | 0, _ => rfl
      | 1, _ => rfl
      | 2, _ => rfl
theorem slL_get (nn : Nat) : ∀ (g x j : Nat), x < 7 + nn + 8 * g → j < 3 → (slL nn g).getD (x * 3 + j) 0 = if x < 7 + nn then (grpL nn).getD (x * 3 + j) 0 else (if j = 0 then 3 else if j = 1 then (((x - (7 + nn)) / 8 : Nat) : Int) else (((x - (7 + nn)) % 8 : Nat) : Int))
  | 0, x, j, hx, hj => by rw [if_pos (by omega)]; rfl
  | g + 1, x, j, hx, hj => by
    rw [slL, sltL_get _ _ _ (slL_length nn g) 8 x j (by omega) hj]
    by_cases h : x < 7 + nn + 8 * g
    · rw [if_pos h, slL_get nn g x j h hj]
    · rw [if_neg h, if_neg (show ¬ x < 7 + nn by omega)]
      have e1 : (x - (7 + nn)) / 8 = g := by omega
      have e2 : (x - (7 + nn)) % 8 = x - (7 + nn + 8 * g) := by omega
      rw [e1, e2]

end Go.Proofs.Ytgegcbeeljbiaaa
