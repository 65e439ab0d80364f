/- Whatever the word, the block and the mark: TagParts answers true. No condition. -/
import Derived.Test.YtmphcolclkpnnaaFit
import Derived.WalkKit
import Derived.ProofKit
import Derived.OpenShut
import Derived.ChangeOld
import Derived.Below
import Derived.SizedLaws
namespace Go.Proofs.Ytmphcolclkpnnaa.tagParts
open Go.Eng
open Go.ChangeShapes Go.WideShapes Go.ChangeAt Go.RowKit
set_option linter.unusedVariables false
set_option maxRecDepth 100000

theorem tree (w b m : Int) : runK Try.prog cfgA fsTag noT 100 40 3 [.int .u64 w, .int .u64 b, .int .i64 m] (bareK Try.prog) valK =
  bif ((Int.fdiv w (2 ^ 3)) == (IntKind.wrap .u64 (Int.tdiv w 8))) then
    bif ((IntKind.wrap .i64 (bits .and .u64 w 7)) == (IntKind.wrap .i64 (Int.tmod w 8))) then
      bif ((Int.fdiv w (2 ^ 3)) == (IntKind.wrap .u64 (Int.tdiv w 8))) then
        bif ((IntKind.wrap .i64 (bits .and .u64 w 7)) == (IntKind.wrap .i64 (Int.tmod w 8))) then
          bif (decide ((Int.tmod m 8) < 0)) then
            bif ((IntKind.wrap .u64 ((IntKind.wrap .u64 (b * (2 ^ 3))) + (IntKind.wrap .u64 (bits .and .i64 m 7)))) == (IntKind.wrap .u64 ((IntKind.wrap .u64 (8 * b)) + (IntKind.wrap .u64 (IntKind.wrap .i64 ((Int.tmod m 8) + 8)))))) then
              some (.bool true)
            else
              some (.bool false)
          else
            bif ((IntKind.wrap .u64 ((IntKind.wrap .u64 (b * (2 ^ 3))) + (IntKind.wrap .u64 (bits .and .i64 m 7)))) == (IntKind.wrap .u64 ((IntKind.wrap .u64 (8 * b)) + (IntKind.wrap .u64 (Int.tmod m 8))))) then
              some (.bool true)
            else
              some (.bool false)
        else
          some (.bool false)
      else
        some (.bool false)
    else
      some (.bool false)
  else
    some (.bool false) := by kernel_rfl

theorem true_ (w b m : Int) (hw : 0 ≤ w ∧ w < 18446744073709551616) (hb : 0 ≤ b ∧ b < 18446744073709551616) (hm : -9223372036854775808 ≤ m ∧ m < 9223372036854775808) :
    runK Try.prog cfgA fsTag noT 100 40 3 [.int .u64 w, .int .u64 b, .int .i64 m] (bareK Try.prog) valK = some (.bool true) := by
  rw [tree]
  rw [and7_u64, and7_i64]
  have e1 : (Int.fdiv w (2 ^ 3) == IntKind.wrap .u64 (Int.tdiv w 8)) = true := by
    rw [beq_iff_eq, Int.fdiv_eq_ediv_of_nonneg _ (by omega), Int.tdiv_eq_ediv_of_nonneg hw.1, wrap_u64_id (by omega) (by omega)]; rfl
  have e2 : (IntKind.wrap .i64 (w % 8) == IntKind.wrap .i64 (Int.tmod w 8)) = true := by
    rw [beq_iff_eq, Int.tmod_eq_emod_of_nonneg hw.1]
  rw [e1, e2]
  cases hc : decide (Int.tmod m 8 < 0) with
  | true =>
    have hc := of_decide_eq_true hc
    have e3 : (IntKind.wrap .u64 (IntKind.wrap .u64 (b * 2 ^ 3) + IntKind.wrap .u64 (m % 8)) == IntKind.wrap .u64 (IntKind.wrap .u64 (8 * b) + IntKind.wrap .u64 (IntKind.wrap .i64 (Int.tmod m 8 + 8)))) = true := by
      rcases tmod_cases m 8 with ⟨g1, g2⟩ | ⟨g1, g2⟩
      · omega
      · rw [beq_iff_eq, wrap_i64_id (by omega) (by omega), g2]
        simp only [wrap_u64]
        omega
    rw [e3]; rfl
  | false =>
    have hc := of_decide_eq_false hc
    have e3 : (IntKind.wrap .u64 (IntKind.wrap .u64 (b * 2 ^ 3) + IntKind.wrap .u64 (m % 8)) == IntKind.wrap .u64 (IntKind.wrap .u64 (8 * b) + IntKind.wrap .u64 (Int.tmod m 8))) = true := by
      rcases tmod_cases m 8 with ⟨g1, g2⟩ | ⟨g1, g2⟩
      · rw [beq_iff_eq, g2]
        simp only [wrap_u64]
        omega
      · rw [beq_iff_eq, g2]
        simp only [wrap_u64]
        omega
    rw [e3]; rfl

theorem told (w b m : Int) (hw : (Lit.int .u64 w).wf = true) (hb : (Lit.int .u64 b).wf = true) (hm : (Lit.int .i64 m).wf = true) :
    Tells Try.prog 3 [.int .u64 w, .int .u64 b, .int .i64 m] (bare Try.prog) (.bool true) :=
  Tells.of_tree (h := bareK Try.prog) fitTag SoundC.no AgreeT.no rfl (show Ro (bare Try.prog) from Ro.bare) (true_ w b m (wf_u64 hw) (wf_u64 hb) (wf_i64 hm))

theorem own : ownKnob Try.prog.godebug = none := by kernel_rfl
theorem lifted (os : Os) (started : os.Started) (H : Type) (enc : TypeId × Value → H) :
    ReturnsInHanded {} Try.checked os 3 .any (Rows.tagPartsSpec.pre6 enc Try.prog Try.f3 Rows.tagPartsRow.domain false) (Rows.tagPartsSpec.post enc Try.prog Try.f3 false true false false) := by
  refine returnsInHanded_of_change_sized (C := Try.checked) own started (by kernel_rfl) Try.func3
    (ChangeSpec.witness6 (enc := enc) (C := Try.checked) false ⟨#[], #[.int .u64 0, .int .u64 0, .int .i64 0], []⟩ 8 (by kernel_rfl) (by kernel_rfl) (by kernel_rfl) (by kernel_rfl)) ?_
  intro W base args ds gs before hval0 hW hcnd hsz0 _
  have hval : ∀ (j : Nat) t v, Try.f3.params[j]? = some t → args[j]? = some v → Value.okWide Try.prog W .any base t v := hval0
  have hW' := hW
  obtain ⟨p, q, hA0, hV, rfl, hfz, hnd⟩ := hW
  have hA : DataW.TrodAll enc Try.prog W 0 (fun _ => true) true Try.f3.params.toList args.toList ds p := hA0
  rw [Try.params3] at hA hval
  obtain ⟨v0, vs0, d0, ds0, p0, q0, hargs, rfl, rfl, h0, r0⟩ := trodAll_cons hA
  obtain ⟨v1, vs1, d1, ds1, p1, q1, rfl, rfl, rfl, h1, r1⟩ := trodAll_cons r0
  obtain ⟨v2, vs2, d2, ds2, p2, q2, rfl, rfl, rfl, h2, r2⟩ := trodAll_cons r1
  obtain ⟨rfl, rfl, rfl⟩ := trodAll_nil r2
  obtain rfl : args = #[v0, v1, v2] := by cases args; simp_all
  obtain ⟨rfl, rfl⟩ := trodVars_none hV
  obtain ⟨a0, rfl, rfl, rfl, w0⟩ := open_int Try.underlying22 (hval 0 22 v0 rfl rfl) h0
  obtain ⟨a1, rfl, rfl, rfl, w1⟩ := open_int Try.underlying22 (hval 1 22 v1 rfl rfl) h1
  obtain ⟨a2, rfl, rfl, rfl, w2⟩ := open_int Try.underlying3 (hval 2 3 v2 rfl rfl) h2
  refine (Tells.call noVars (args := #[.int .u64 a0, .int .u64 a1, .int .i64 a2]) (told a0 a1 a2 w0 w1 w2) rfl W).mono fun e W' ⟨he, bel⟩ => ?_
  subst he
  exact ⟨_, rfl, _, _, _, [], _, [], hW', trodAll_mk1 (shut_bool Try.underlying4 _), (trodAll_cons_mk (shut_int Try.underlying22 w0) (trodAll_cons_mk (shut_int Try.underlying22 w1) (trodAll_cons_mk (shut_int Try.underlying3 w2) trodAll_mk0))), rfl, bel.frame _, fun h => by cases h⟩
theorem over : Rows.tagPartsRow.holds Try.pinned (OpenSpec.ofChange Rows.tagPartsSpec) :=
  OpenClaim.holds_of_wide 3 Try.f3 rfl rfl rfl rfl rfl rfl rfl ⟨rfl, rfl, rfl, rfl, rfl⟩ rfl rfl rfl rfl rfl (by kernel_rfl) Try.func3 (by kernel_rfl)
    (of_decide_eq_true (by kernel_rfl)) (by unfold Func.isWrapper; first | (rw [if_pos (by decide +kernel)]; kernel_rfl) | (rw [if_neg (by decide +kernel)]; exact ⟨rfl, rfl⟩))
    (fun os started H enc _ => lifted os started H enc)
end Go.Proofs.Ytmphcolclkpnnaa.tagParts
namespace Go.Proofs.Ytmphcolclkpnnaa
/-- The row, under a short name, for the claim. -/
theorem tagParts_holds : Rows.TagPartsSaid := tagParts.over
#print axioms tagParts_holds
end Go.Proofs.Ytmphcolclkpnnaa
