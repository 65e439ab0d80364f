/- Whatever the word and the mark: TagKinds answers true. No condition. -/
import Derived.Test.YtmphcolclkpnnaaFit
import Derived.WalkKit
import Derived.ProofKit
import Derived.OpenShut
import Derived.ChangeOld
import Derived.Below
import Derived.SizedLaws
namespace Go.Proofs.Ytmphcolclkpnnaa.tagKinds
open Go.Eng
open Go.ChangeShapes Go.WideShapes Go.ChangeAt Go.RowKit
set_option linter.unusedVariables false
set_option linter.unusedSimpArgs false
set_option maxRecDepth 100000
/-- sprocket/tag.Holds -/
def holdsA (a : Int) : Bool :=
  (bif ((Int.fdiv a (2 ^ 3)) != 0) then
    (bif (decide ((IntKind.wrap .i64 (bits .and .u64 a 7)) > 0)) then
      (decide ((IntKind.wrap .i64 (bits .and .u64 a 7)) ≤ 4))
    else
      false)
  else
    false)
theorem holdsA_tree (a : Int) : runK Try.prog cfgA fsTag noT 100 40 20 [(.int .u64 a)] (bareK Try.prog) valK =
  bif ((Int.fdiv a (2 ^ 3)) != 0) then
    bif (decide ((IntKind.wrap .i64 (bits .and .u64 a 7)) > 0)) then
      some (.bool (decide ((IntKind.wrap .i64 (bits .and .u64 a 7)) ≤ 4)))
    else
      some (.bool false)
  else
    some (.bool false) := by kernel_rfl
theorem holdsA_told (a : Int) : Tells Try.prog 20 [(.int .u64 a)] (bare Try.prog) (.bool (holdsA a)) :=
  Tells.of_tree (h := bareK Try.prog) fitTag SoundC.no AgreeT.no rfl (show Ro (bare Try.prog) from Ro.bare) (by rw [holdsA_tree]; (try simp only [cond_bool, cond_int]); rfl)
/-- sprocket/sprocketref11.Holds -/
def holdsR (a : Int) : Bool :=
  (bif (decide (a ≥ 8)) then
    (bif (decide ((Int.tmod a 8) ≥ 1)) then
      (decide ((Int.tmod a 8) ≤ 4))
    else
      false)
  else
    false)
theorem holdsR_tree (a : Int) : runK Try.prog cfgA fsTag noT 100 40 21 [(.int .u64 a)] (bareK Try.prog) valK =
  bif (decide (a ≥ 8)) then
    bif (decide ((Int.tmod a 8) ≥ 1)) then
      some (.bool (decide ((Int.tmod a 8) ≤ 4)))
    else
      some (.bool false)
  else
    some (.bool false) := by kernel_rfl
theorem holdsR_told (a : Int) : Tells Try.prog 21 [(.int .u64 a)] (bare Try.prog) (.bool (holdsR a)) :=
  Tells.of_tree (h := bareK Try.prog) fitTag SoundC.no AgreeT.no rfl (show Ro (bare Try.prog) from Ro.bare) (by rw [holdsR_tree]; (try simp only [cond_bool, cond_int]); rfl)
/-- sprocket/tag.Fresh -/
def freshA (a : Int) : Bool :=
  (bif ((Int.fdiv a (2 ^ 3)) != 0) then
    (bif (decide ((IntKind.wrap .i64 (bits .and .u64 a 7)) > 0)) then
      (bif (decide ((IntKind.wrap .i64 (bits .and .u64 a 7)) ≤ 4)) then
        (bif ((IntKind.wrap .i64 (bits .and .u64 a 7)) == 1) then
          true
        else
          ((IntKind.wrap .i64 (bits .and .u64 a 7)) == 2))
      else
        false)
    else
      false)
  else
    false)
theorem freshA_tree (a : Int) : runK Try.prog cfgA fsTag noT 100 40 22 [(.int .u64 a)] (bareK Try.prog) valK =
  bif ((Int.fdiv a (2 ^ 3)) != 0) then
    bif (decide ((IntKind.wrap .i64 (bits .and .u64 a 7)) > 0)) then
      bif (decide ((IntKind.wrap .i64 (bits .and .u64 a 7)) ≤ 4)) then
        bif ((IntKind.wrap .i64 (bits .and .u64 a 7)) == 1) then
          some (.bool true)
        else
          some (.bool ((IntKind.wrap .i64 (bits .and .u64 a 7)) == 2))
      else
        some (.bool false)
    else
      some (.bool false)
  else
    some (.bool false) := by kernel_rfl
theorem freshA_told (a : Int) : Tells Try.prog 22 [(.int .u64 a)] (bare Try.prog) (.bool (freshA a)) :=
  Tells.of_tree (h := bareK Try.prog) fitTag SoundC.no AgreeT.no rfl (show Ro (bare Try.prog) from Ro.bare) (by rw [freshA_tree]; (try simp only [cond_bool, cond_int]); rfl)
/-- sprocket/sprocketref11.Fresh -/
def freshR (a : Int) : Bool :=
  (bif (decide (a ≥ 8)) then
    (bif (decide ((Int.tmod a 8) ≥ 1)) then
      (bif (decide ((Int.tmod a 8) ≤ 4)) then
        (decide ((Int.tmod a 8) < 3))
      else
        false)
    else
      false)
  else
    false)
theorem freshR_tree (a : Int) : runK Try.prog cfgA fsTag noT 100 40 23 [(.int .u64 a)] (bareK Try.prog) valK =
  bif (decide (a ≥ 8)) then
    bif (decide ((Int.tmod a 8) ≥ 1)) then
      bif (decide ((Int.tmod a 8) ≤ 4)) then
        some (.bool (decide ((Int.tmod a 8) < 3)))
      else
        some (.bool false)
    else
      some (.bool false)
  else
    some (.bool false) := by kernel_rfl
theorem freshR_told (a : Int) : Tells Try.prog 23 [(.int .u64 a)] (bare Try.prog) (.bool (freshR a)) :=
  Tells.of_tree (h := bareK Try.prog) fitTag SoundC.no AgreeT.no rfl (show Ro (bare Try.prog) from Ro.bare) (by rw [freshR_tree]; (try simp only [cond_bool, cond_int]); rfl)
/-- sprocket/tag.Frozen -/
def frozenA (a : Int) : Bool :=
  (bif (((Int.fdiv a (2 ^ 3)) == 0) && (((IntKind.wrap .i64 (bits .and .u64 a 7)) == 5) && true)) then
    true
  else
    (bif ((Int.fdiv a (2 ^ 3)) != 0) then
      (bif (decide ((IntKind.wrap .i64 (bits .and .u64 a 7)) > 0)) then
        (bif (decide ((IntKind.wrap .i64 (bits .and .u64 a 7)) ≤ 4)) then
          (bif ((IntKind.wrap .i64 (bits .and .u64 a 7)) == 3) then
            true
          else
            ((IntKind.wrap .i64 (bits .and .u64 a 7)) == 4))
        else
          false)
      else
        false)
    else
      false))
theorem frozenA_tree (a : Int) : runK Try.prog cfgA fsTag noT 100 40 24 [(.int .u64 a)] (bareK Try.prog) valK =
  bif (((Int.fdiv a (2 ^ 3)) == 0) && (((IntKind.wrap .i64 (bits .and .u64 a 7)) == 5) && true)) then
    some (.bool true)
  else
    bif ((Int.fdiv a (2 ^ 3)) != 0) then
      bif (decide ((IntKind.wrap .i64 (bits .and .u64 a 7)) > 0)) then
        bif (decide ((IntKind.wrap .i64 (bits .and .u64 a 7)) ≤ 4)) then
          bif ((IntKind.wrap .i64 (bits .and .u64 a 7)) == 3) then
            some (.bool true)
          else
            some (.bool ((IntKind.wrap .i64 (bits .and .u64 a 7)) == 4))
        else
          some (.bool false)
      else
        some (.bool false)
    else
      some (.bool false) := by kernel_rfl
theorem frozenA_told (a : Int) : Tells Try.prog 24 [(.int .u64 a)] (bare Try.prog) (.bool (frozenA a)) :=
  Tells.of_tree (h := bareK Try.prog) fitTag SoundC.no AgreeT.no rfl (show Ro (bare Try.prog) from Ro.bare) (by rw [frozenA_tree]; (try simp only [cond_bool, cond_int]); rfl)
/-- sprocket/sprocketref11.Frozen -/
def frozenR (a : Int) : Bool :=
  (bif (a == 5) then
    true
  else
    (bif (decide (a ≥ 8)) then
      (bif (decide ((Int.tmod a 8) ≥ 1)) then
        (bif (decide ((Int.tmod a 8) ≤ 4)) then
          (decide ((Int.tmod a 8) > 2))
        else
          false)
      else
        false)
    else
      false))
theorem frozenR_tree (a : Int) : runK Try.prog cfgA fsTag noT 100 40 25 [(.int .u64 a)] (bareK Try.prog) valK =
  bif (a == 5) then
    some (.bool true)
  else
    bif (decide (a ≥ 8)) then
      bif (decide ((Int.tmod a 8) ≥ 1)) then
        bif (decide ((Int.tmod a 8) ≤ 4)) then
          some (.bool (decide ((Int.tmod a 8) > 2)))
        else
          some (.bool false)
      else
        some (.bool false)
    else
      some (.bool false) := by kernel_rfl
theorem frozenR_told (a : Int) : Tells Try.prog 25 [(.int .u64 a)] (bare Try.prog) (.bool (frozenR a)) :=
  Tells.of_tree (h := bareK Try.prog) fitTag SoundC.no AgreeT.no rfl (show Ro (bare Try.prog) from Ro.bare) (by rw [frozenR_tree]; (try simp only [cond_bool, cond_int]); rfl)
/-- sprocket/tag.Again -/
def againA (a : Int) (b : Int) : Int :=
  (IntKind.wrap .u64 ((IntKind.wrap .u64 ((Int.fdiv a (2 ^ 3)) * (2 ^ 3))) + (IntKind.wrap .u64 (bits .and .i64 b 7))))
theorem againA_tree (a : Int) (b : Int) : runK Try.prog cfgA fsTag noT 100 40 26 [(.int .u64 a), (.int .i64 b)] (bareK Try.prog) valK =
  some (.int .u64 (IntKind.wrap .u64 ((IntKind.wrap .u64 ((Int.fdiv a (2 ^ 3)) * (2 ^ 3))) + (IntKind.wrap .u64 (bits .and .i64 b 7))))) := by kernel_rfl
theorem againA_told (a : Int) (b : Int) : Tells Try.prog 26 [(.int .u64 a), (.int .i64 b)] (bare Try.prog) (.int .u64 (againA a b)) :=
  Tells.of_tree (h := bareK Try.prog) fitTag SoundC.no AgreeT.no rfl (show Ro (bare Try.prog) from Ro.bare) (by rw [againA_tree]; (try simp only [cond_bool, cond_int]); rfl)
/-- sprocket/sprocketref11.Again -/
def againR (a : Int) (b : Int) : Int :=
  (bif (decide ((Int.tmod b 8) < 0)) then
    (IntKind.wrap .u64 ((IntKind.wrap .u64 (8 * (IntKind.wrap .u64 (Int.tdiv a 8)))) + (IntKind.wrap .u64 (IntKind.wrap .i64 ((Int.tmod b 8) + 8)))))
  else
    (IntKind.wrap .u64 ((IntKind.wrap .u64 (8 * (IntKind.wrap .u64 (Int.tdiv a 8)))) + (IntKind.wrap .u64 (Int.tmod b 8)))))
theorem againR_tree (a : Int) (b : Int) : runK Try.prog cfgA fsTag noT 100 40 27 [(.int .u64 a), (.int .i64 b)] (bareK Try.prog) valK =
  bif (decide ((Int.tmod b 8) < 0)) then
    some (.int .u64 (IntKind.wrap .u64 ((IntKind.wrap .u64 (8 * (IntKind.wrap .u64 (Int.tdiv a 8)))) + (IntKind.wrap .u64 (IntKind.wrap .i64 ((Int.tmod b 8) + 8))))))
  else
    some (.int .u64 (IntKind.wrap .u64 ((IntKind.wrap .u64 (8 * (IntKind.wrap .u64 (Int.tdiv a 8)))) + (IntKind.wrap .u64 (Int.tmod b 8))))) := by kernel_rfl
theorem againR_told (a : Int) (b : Int) : Tells Try.prog 27 [(.int .u64 a), (.int .i64 b)] (bare Try.prog) (.int .u64 (againR a b)) :=
  Tells.of_tree (h := bareK Try.prog) fitTag SoundC.no AgreeT.no rfl (show Ro (bare Try.prog) from Ro.bare) (by rw [againR_tree]; (try simp only [cond_bool, cond_int]); rfl)
def tagE : Ext := fun _ f args => match f, args with
  | 20, [(.int .u64 a)] => some (.bool (holdsA a))
  | 21, [(.int .u64 a)] => some (.bool (holdsR a))
  | 22, [(.int .u64 a)] => some (.bool (freshA a))
  | 23, [(.int .u64 a)] => some (.bool (freshR a))
  | 24, [(.int .u64 a)] => some (.bool (frozenA a))
  | 25, [(.int .u64 a)] => some (.bool (frozenR a))
  | 26, [(.int .u64 a), (.int .i64 b)] => some (.int .u64 (againA a b))
  | 27, [(.int .u64 a), (.int .i64 b)] => some (.int .u64 (againR a b))
  | _, _ => none
def tagEDom : List FuncId := [20, 21, 22, 23, 24, 25, 26, 27]
theorem tagE_sound : SoundC Try.prog (extC tagEDom tagE) := by
  refine SoundC.ext_plain (fun f hf => fitTag.fnOk f ?_) ?_
  · revert f; decide
  · intro rd f args v _ h
    unfold tagE at h
    split at h
    · cases h; exact ⟨rfl, rfl, holdsA_told _⟩
    · cases h; exact ⟨rfl, rfl, holdsR_told _⟩
    · cases h; exact ⟨rfl, rfl, freshA_told _⟩
    · cases h; exact ⟨rfl, rfl, freshR_told _⟩
    · cases h; exact ⟨rfl, rfl, frozenA_told _⟩
    · cases h; exact ⟨rfl, rfl, frozenR_told _⟩
    · cases h; exact ⟨rfl, rfl, againA_told _ _⟩
    · cases h; exact ⟨rfl, rfl, againR_told _ _⟩
    · cases h
theorem tree (w m : Int) : runK Try.prog cfgA fsTag (extT tagEDom tagE) 100 40 4 [.int .u64 w, .int .i64 m] (bareK Try.prog) valK =
  bif ((holdsA w) == (holdsR w)) then
    bif ((freshA w) == (freshR w)) then
      bif ((frozenA w) == (frozenR w)) then
        bif ((againA w m) == (againR w m)) then
          some (.bool true)
        else
          some (.bool false)
      else
        some (.bool false)
    else
      some (.bool false)
  else
    some (.bool false) := by kernel_rfl
theorem fdiv8 (w : Int) : Int.fdiv w (2 ^ 3) = w / 8 := Int.fdiv_eq_ediv_of_nonneg _ (by omega)
theorem tells_all (w : Int) (hw : 0 ≤ w ∧ w < 18446744073709551616) : holdsA w = holdsR w ∧ freshA w = freshR w ∧ frozenA w = frozenR w := by
  unfold holdsA holdsR freshA freshR frozenA frozenR
  rw [and7_u64, wrap_i64_id (by omega) (by omega), Int.tmod_eq_emod_of_nonneg hw.1, fdiv8]
  rcases Int.lt_or_le w 8 with g | g
  · have hq : w / 8 = 0 := by omega
    have hg : ¬ w ≥ 8 := by omega
    have h5 : w % 8 = w := by omega
    simp only [hq, hg, h5, bne_self_eq_false, decide_false, cond_false, true_and, beq_self_eq_true, Bool.true_and, Bool.and_true, decide_eq_true_eq]
  · have hq : (w / 8 != 0) = true := by simp; omega
    have hq' : (w / 8 == 0) = false := by simp; omega
    have hg : decide (w ≥ 8) = true := by simp; omega
    have e : (w == 5) = false := by simp; omega
    simp only [hq, hq', hg, e, cond_true, cond_false, Bool.false_and]
    have hr : w % 8 = 0 ∨ w % 8 = 1 ∨ w % 8 = 2 ∨ w % 8 = 3 ∨ w % 8 = 4 ∨ w % 8 = 5 ∨ w % 8 = 6 ∨ w % 8 = 7 := by omega
    rcases hr with h | h | h | h | h | h | h | h <;> rw [h] <;> decide
theorem again_eq (w m : Int) (hw : 0 ≤ w ∧ w < 18446744073709551616) (hm : -9223372036854775808 ≤ m ∧ m < 9223372036854775808) : againA w m = againR w m := by
  unfold againA againR
  rw [and7_i64, fdiv8]
  rcases tdiv_cases w 8 with ⟨g1, g2⟩ | ⟨g1, g2⟩
  · rw [g2, wrap_u64_id (n := w / 8) (by omega) (by omega)]
    rcases tmod_cases m 8 with ⟨g3, g4⟩ | ⟨g3, g4⟩
    · have : decide (Int.tmod m 8 < 0) = false := by rw [g4]; simp; omega
      rw [this, g4]
      simp only [cond_false, wrap_u64]
      omega
    · rw [g4]
      cases hc : decide (-(-m % 8) < 0) with
      | true =>
        have hc := of_decide_eq_true hc
        rw [wrap_i64_id (by omega) (by omega)]
        simp only [cond_true, wrap_u64]
        omega
      | false =>
        have hc := of_decide_eq_false hc
        simp only [cond_false, wrap_u64]
        omega
  · omega
theorem told (w m : Int) (hw : (Lit.int .u64 w).wf = true) (hm : (Lit.int .i64 m).wf = true) : Tells Try.prog 4 [.int .u64 w, .int .i64 m] (bare Try.prog) (.bool true) := by
  refine Tells.of_tree (h := bareK Try.prog) fitTag tagE_sound (extT_agree _ _) rfl (show Ro (bare Try.prog) from Ro.bare) (n := 100) (d := 40) ?_
  rw [tree]
  obtain ⟨h1, h2, h3⟩ := tells_all w (wf_u64 hw)
  rw [h1, h2, h3, again_eq w m (wf_u64 hw) (wf_i64 hm)]
  simp only [beq_self_eq_true, cond_true]

theorem own : ownKnob Try.prog.godebug = none := by kernel_rfl
theorem lifted (os : Os) (started : os.Started) (H : Type) (enc : TypeId × Value → H) :
    ReturnsInHanded {} Try.checked os 4 .any (Rows.tagKindsSpec.pre6 enc Try.prog Try.f4 Rows.tagKindsRow.domain false) (Rows.tagKindsSpec.post enc Try.prog Try.f4 false true false false) := by
  refine returnsInHanded_of_change_sized (C := Try.checked) own started (by kernel_rfl) Try.func4
    (ChangeSpec.witness6 (enc := enc) (C := Try.checked) false ⟨#[], #[.int .u64 0, .int .i64 0], []⟩ 8 (by kernel_rfl) (by kernel_rfl) (by kernel_rfl) (by kernel_rfl)) ?_
  intro W base args ds gs before hval0 hW hcnd hsz0 _
  have hval : ∀ (j : Nat) t v, Try.f4.params[j]? = some t → args[j]? = some v → Value.okWide Try.prog W .any base t v := hval0
  have hW' := hW
  obtain ⟨p, q, hA0, hV, rfl, hfz, hnd⟩ := hW
  have hA : DataW.TrodAll enc Try.prog W 0 (fun _ => true) true Try.f4.params.toList args.toList ds p := hA0
  rw [Try.params4] at hA hval
  obtain ⟨v0, vs0, d0, ds0, p0, q0, hargs, rfl, rfl, h0, r0⟩ := trodAll_cons hA
  obtain ⟨v1, vs1, d1, ds1, p1, q1, rfl, rfl, rfl, h1, r1⟩ := trodAll_cons r0
  obtain ⟨rfl, rfl, rfl⟩ := trodAll_nil r1
  obtain rfl : args = #[v0, v1] := by cases args; simp_all
  obtain ⟨rfl, rfl⟩ := trodVars_none hV
  obtain ⟨a0, rfl, rfl, rfl, w0⟩ := open_int Try.underlying22 (hval 0 22 v0 rfl rfl) h0
  obtain ⟨a1, rfl, rfl, rfl, w1⟩ := open_int Try.underlying3 (hval 1 3 v1 rfl rfl) h1
  refine (Tells.call noVars (args := #[.int .u64 a0, .int .i64 a1]) (told a0 a1 w0 w1) rfl W).mono fun e W' ⟨he, bel⟩ => ?_
  subst he
  exact ⟨_, rfl, _, _, _, [], _, [], hW', trodAll_mk1 (shut_bool Try.underlying4 _), (trodAll_cons_mk (shut_int Try.underlying22 w0) (trodAll_cons_mk (shut_int Try.underlying3 w1) trodAll_mk0)), rfl, bel.frame _, fun h => by cases h⟩
theorem over : Rows.tagKindsRow.holds Try.pinned (OpenSpec.ofChange Rows.tagKindsSpec) :=
  OpenClaim.holds_of_wide 4 Try.f4 rfl rfl rfl rfl rfl rfl rfl ⟨rfl, rfl, rfl, rfl, rfl⟩ rfl rfl rfl rfl rfl (by kernel_rfl) Try.func4 (by kernel_rfl)
    (of_decide_eq_true (by kernel_rfl)) (by unfold Func.isWrapper; first | (rw [if_pos (by decide +kernel)]; kernel_rfl) | (rw [if_neg (by decide +kernel)]; exact ⟨rfl, rfl⟩))
    (fun os started H enc _ => lifted os started H enc)
end Go.Proofs.Ytmphcolclkpnnaa.tagKinds
namespace Go.Proofs.Ytmphcolclkpnnaa
/-- The row, under a short name, for the claim. -/
theorem tagKinds_holds : Rows.TagKindsSaid := tagKinds.over
#print axioms tagKinds_holds
end Go.Proofs.Ytmphcolclkpnnaa
