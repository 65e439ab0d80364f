/- The reference's list of all cells. -/
import Derived.Test.YtgegcbeeljbiaaaTtA
import Derived.WalkKit
import Derived.ProofKit
import Derived.OpenShut
import Derived.ChangeOld
import Derived.Below
import Derived.SizedLaws
namespace Go.Proofs.Ytgegcbeeljbiaaa
open Go.Eng
open Go.ChangeShapes Go.WideShapes Go.ChangeAt Go.RowKit
set_option linter.unusedVariables false
set_option linter.unusedSimpArgs false
set_option maxRecDepth 100000
def headL : List Int := [1, 0, 0, 1, 0, 0, 1, 0, 0, 1, 0, 0, 1, 0, 0, 1, 0, 0, 1, 0, 0]
def grpL : Nat → List Int
  | 0 => headL
  | g + 1 => grpL g ++ [2, ((g : Nat) : Int), 0]
def sltL (b : List Int) (g : Nat) : Nat → List Int
  | 0 => b
  | j + 1 => sltL b g j ++ [3, ((g : Nat) : Int), ((j : Nat) : Int)]
def slL (nn : Nat) : Nat → List Int
  | 0 => grpL nn
  | g + 1 => sltL (slL nn g) g 8
theorem grpL_length : ∀ g, (grpL g).length = (7 + g) * 3
  | 0 => rfl
  | g + 1 => by simp only [grpL, List.length_append, grpL_length g, List.length_cons, List.length_nil]; omega
theorem sltL_length (b : List Int) (g m : Nat) (hb : b.length = m * 3) : ∀ j, (sltL b g j).length = (m + j) * 3
  | 0 => by simpa [sltL] using hb
  | j + 1 => by simp only [sltL, List.length_append, sltL_length b g m hb j, List.length_cons, List.length_nil]; omega
theorem slL_length (nn : Nat) : ∀ g, (slL nn g).length = (7 + nn + 8 * g) * 3
  | 0 => by rw [slL, grpL_length]; rfl
  | g + 1 => by rw [slL, sltL_length _ _ _ (slL_length nn g)]; omega
noncomputable def QT (k : Int) (nn : Nat) : Ex → St → Prop := (EndsR Try.prog Try.f26 ((.slice (some ⟨0, 0, none⟩) (7 + nn + 8 * nn) (7 + nn + 8 * nn))) [] [] [.recs [.i64, .i64, .i64] (slL nn nn) 35 true])
inductive T2 (nn : Nat) : Nat → KSt → Prop
  | r (g : Nat) (hg : g ≤ nn) : T2 nn (nn - g) (TS20 (7 + g) nn g (grpL g))
theorem loop2 (k : Int) (nn : Nat) (h2 : nn ≤ 512) (hend : Gets Try.prog (KH.low ⟨0, 1, []⟩) (codeAt [1, 1, 1, 1, 1] BT) (KSt.low (TS21 (7 + nn) nn (nn) (grpL nn))) (QT k nn)) (i : Nat) (t : KSt) (hI : T2 nn i t) : Gets Try.prog (KH.low ⟨0, 1, []⟩) (codeAt [1, 1, 1, 1, 0, 1] BT) t.low (onN (fun s => Gets Try.prog (KH.low ⟨0, 1, []⟩) (codeAt [1, 1, 1, 1, 1] BT) s (QT k nn)) (QT k nn)) := by
  rw [TC1_1_1_1_0_1, TC1_1_1_1_0_1_0]
  refine Gets.loopG (fun i t => T2 nn i t) ?_ _ _ hI
  clear hI i t
  intro i t hI
  cases hI with
  | r g hg =>
    by_cases hlt : g < nn
    · refine Tg1 (grpL_length g) (by omega) (by omega) hlt h2 ?_
      have e : grpL (g + 1) = List.take ((7 + g) * 3) (grpL g) ++ [2, ((g : Nat) : Int), 0] := by rw [List.take_of_length_le (by rw [grpL_length]; exact Nat.le_refl _)]; rfl
      have k1 : T2 nn (nn - (g + 1)) (TS20 (7 + (g + 1)) nn (g + 1) (grpL (g + 1))) := .r (g + 1) (by omega)
      rw [e] at k1
      exact ⟨nn - (g + 1), _, by omega, rfl, k1⟩
    · have e : g = nn := by omega
      subst e
      refine Tgx (Nat.le_refl _) ?_
      exact ⟨fun _ => hend, fun h => by cases h⟩
inductive T6 (nn g : Nat) : Nat → KSt → Prop
  | r (j : Nat) (hj : j ≤ 8) : T6 nn g (8 - j) (TS30 (7 + nn + 8 * g + j) nn g j (sltL (slL nn g) g j))
theorem loop6 (nn g : Nat) (h2 : nn ≤ 512) (hg : g < nn) {K_ : Ex → St → Prop} (hK : K_ .normal (KSt.low (TS31 (7 + nn + 8 * g + 8) nn g (8) (sltL (slL nn g) g 8)))) (i : Nat) (t : KSt) (hI : T6 nn g i t) : Gets Try.prog (KH.low ⟨0, 1, []⟩) (codeAt [1, 1, 1, 1, 1, 0, 1, 0, 0, 1, 0, 0, 1] BT) t.low K_ := by
  rw [TC1_1_1_1_1_0_1_0_0_1_0_0_1, TC1_1_1_1_1_0_1_0_0_1_0_0_1_0]
  refine Gets.loopG (fun i t => T6 nn g i t) ?_ _ _ hI
  clear hI i t
  intro i t hI
  cases hI with
  | r j hj =>
    by_cases hlt : j < 8
    · refine Tb6 (sltL_length _ g _ (slL_length nn g) j) (by omega) (by omega) hlt ?_
      have e : sltL (slL nn g) g (j + 1) = List.take ((7 + nn + 8 * g + j) * 3) (sltL (slL nn g) g j) ++ [3, ((g : Nat) : Int), ((j : Nat) : Int)] := by rw [List.take_of_length_le (by rw [sltL_length _ g _ (slL_length nn g)]; exact Nat.le_refl _)]; rfl
      have k1 : T6 nn g (8 - (j + 1)) (TS30 (7 + nn + 8 * g + (j + 1)) nn g (j + 1) (sltL (slL nn g) g (j + 1))) := .r (j + 1) (by omega)
      rw [e] at k1
      exact ⟨8 - (j + 1), _, by omega, rfl, k1⟩
    · have e : j = 8 := by omega
      subst e
      refine Tx6 (Nat.le_refl _) ?_
      exact ⟨fun _ => hK, fun h => by cases h⟩
inductive T4 (nn : Nat) : Nat → KSt → Prop
  | r (g : Nat) (hg : g ≤ nn) : T4 nn (nn - g) (TS27 (7 + nn + 8 * g) nn g (slL nn g))
theorem loop4 (k : Int) (nn : Nat) (h2 : nn ≤ 512) (i : Nat) (t : KSt) (hI : T4 nn i t) : Gets Try.prog (KH.low ⟨0, 1, []⟩) (codeAt [1, 1, 1, 1, 1, 0, 1] BT) t.low (onN (fun s => Gets Try.prog (KH.low ⟨0, 1, []⟩) (codeAt [1, 1, 1, 1, 1, 1] BT) s (QT k nn)) (QT k nn)) := by
  rw [TC1_1_1_1_1_0_1, TC1_1_1_1_1_0_1_0]
  refine Gets.loopG (fun i t => T4 nn i t) ?_ _ _ hI
  clear hI i t
  intro i t hI
  cases hI with
  | r g hg =>
    by_cases hlt : g < nn
    · refine Ta4 hlt ?_
      refine loop6 nn g h2 hlt ?_ (8 - 0) _ (.r 0 (by omega))
      refine Tn4 (by omega) ?_
      have k1 : T4 nn (nn - (g + 1)) (TS27 (7 + nn + 8 * (g + 1)) nn (g + 1) (slL nn (g + 1))) := .r (g + 1) (by omega)
      rw [show 7 + nn + 8 * (g + 1) = 7 + nn + 8 * g + 8 by omega] at k1
      exact ⟨nn - (g + 1), _, by omega, rfl, k1⟩
    · have e : g = nn := by omega
      subst e
      refine Tax (Nat.le_refl _) ?_
      exact ⟨fun _ => Tend (EndsR.ret (l := [(.slice (some ⟨0, 0, none⟩) (7 + g + 8 * g) (7 + g + 8 * g))]) (by kernel_rfl) (by rfl) (Fits.n1 rfl rfl rfl (Nat.le_refl _))), fun h => by cases h⟩
theorem all_does (k : Int) (nn : Nat) (hg : groupsV k = ((nn : Nat) : Int)) (h1 : 1 ≤ nn) (h2 : nn ≤ 512) : DoesC Try.prog 26 [(.int .i64 k)] (mkH []).low ((.slice (some ⟨0, 0, none⟩) (7 + nn + 8 * nn) (7 + nn + 8 * nn))) (effK (mkH []) [] [.recs [.i64, .i64, .i64] (slL nn nn) 35 true]).low := by
  refine EndsR.does Try.func26 BT_is (by rw [noVars]; exact Nat.zero_le _) ?_
  show Gets Try.prog (KH.low ⟨0, 1, []⟩) BT (KSt.low (TS0 k)) _
  refine Tin hg h1 ?_
  refine loop2 k nn h2 ?_ (nn - 0) (TS20 (7 + 0) nn (0) (grpL 0)) (.r 0 (Nat.zero_le _))
  refine Ts0 ?_
  exact loop4 k nn h2 (nn - 0) (TS27 (7 + nn + 8 * 0) nn (0) (slL nn 0)) (.r 0 (Nat.zero_le _))

end Go.Proofs.Ytgegcbeeljbiaaa
