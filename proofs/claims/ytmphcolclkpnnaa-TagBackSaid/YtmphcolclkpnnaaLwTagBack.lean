/- Whatever the word, the block and the mark: TagBack answers true. No condition. -/
import Derived.Test.YtmphcolclkpnnaaFit
import Derived.WalkKit
import Derived.ProofKit
import Derived.OpenShut
import Derived.ChangeOld
import Derived.Below
import Derived.SizedLaws
namespace Go.Proofs.Ytmphcolclkpnnaa.tagBack
open Go.Eng
open Go.ChangeShapes Go.WideShapes Go.ChangeAt Go.RowKit
set_option linter.unusedVariables false
set_option linter.unusedSimpArgs false
set_option maxRecDepth 100000
/-- sprocket/tag.Block -/
def blockA (a : Int) : Int :=
  (Int.fdiv a (2 ^ 3))
theorem blockA_tree (a : Int) : runK Try.prog cfgA fsTag noT 100 40 15 [(.int .u64 a)] (bareK Try.prog) valK =
  some (.int .u64 (Int.fdiv a (2 ^ 3))) := by kernel_rfl
theorem blockA_told (a : Int) : Tells Try.prog 15 [(.int .u64 a)] (bare Try.prog) (.int .u64 (blockA a)) :=
  Tells.of_tree (h := bareK Try.prog) fitTag SoundC.no AgreeT.no rfl (show Ro (bare Try.prog) from Ro.bare) (by rw [blockA_tree]; (try simp only [cond_bool, cond_int]); rfl)
/-- sprocket/tag.Mark -/
def markA (a : Int) : Int :=
  (IntKind.wrap .i64 (bits .and .u64 a 7))
theorem markA_tree (a : Int) : runK Try.prog cfgA fsTag noT 100 40 16 [(.int .u64 a)] (bareK Try.prog) valK =
  some (.int .i64 (IntKind.wrap .i64 (bits .and .u64 a 7))) := by kernel_rfl
theorem markA_told (a : Int) : Tells Try.prog 16 [(.int .u64 a)] (bare Try.prog) (.int .i64 (markA a)) :=
  Tells.of_tree (h := bareK Try.prog) fitTag SoundC.no AgreeT.no rfl (show Ro (bare Try.prog) from Ro.bare) (by rw [markA_tree]; (try simp only [cond_bool, cond_int]); rfl)
/-- sprocket/tag.Make -/
def makeA (a : Int) (b : Int) : Int :=
  (IntKind.wrap .u64 ((IntKind.wrap .u64 (a * (2 ^ 3))) + (IntKind.wrap .u64 (bits .and .i64 b 7))))
theorem makeA_tree (a : Int) (b : Int) : runK Try.prog cfgA fsTag noT 100 40 17 [(.int .u64 a), (.int .i64 b)] (bareK Try.prog) valK =
  some (.int .u64 (IntKind.wrap .u64 ((IntKind.wrap .u64 (a * (2 ^ 3))) + (IntKind.wrap .u64 (bits .and .i64 b 7))))) := by kernel_rfl
theorem makeA_told (a : Int) (b : Int) : Tells Try.prog 17 [(.int .u64 a), (.int .i64 b)] (bare Try.prog) (.int .u64 (makeA a b)) :=
  Tells.of_tree (h := bareK Try.prog) fitTag SoundC.no AgreeT.no rfl (show Ro (bare Try.prog) from Ro.bare) (by rw [makeA_tree]; (try simp only [cond_bool, cond_int]); rfl)
/-- sprocket/tag.Holds -/
def holdsA (a : Int) : Bool :=
  (bif ((Int.fdiv a (2 ^ 3)) != 0) then
    (bif (decide ((IntKind.wrap .i64 (bits .and .u64 a 7)) > 0)) then
      (decide ((IntKind.wrap .i64 (bits .and .u64 a 7)) ≤ 4))
    else
      false)
  else
    false)
theorem holdsA_tree (a : Int) : runK Try.prog cfgA fsTag noT 100 40 20 [(.int .u64 a)] (bareK Try.prog) valK =
  bif ((Int.fdiv a (2 ^ 3)) != 0) then
    bif (decide ((IntKind.wrap .i64 (bits .and .u64 a 7)) > 0)) then
      some (.bool (decide ((IntKind.wrap .i64 (bits .and .u64 a 7)) ≤ 4)))
    else
      some (.bool false)
  else
    some (.bool false) := by kernel_rfl
theorem holdsA_told (a : Int) : Tells Try.prog 20 [(.int .u64 a)] (bare Try.prog) (.bool (holdsA a)) :=
  Tells.of_tree (h := bareK Try.prog) fitTag SoundC.no AgreeT.no rfl (show Ro (bare Try.prog) from Ro.bare) (by rw [holdsA_tree]; (try simp only [cond_bool, cond_int]); rfl)
/-- sprocket/tag.Fresh -/
def freshA (a : Int) : Bool :=
  (bif ((Int.fdiv a (2 ^ 3)) != 0) then
    (bif (decide ((IntKind.wrap .i64 (bits .and .u64 a 7)) > 0)) then
      (bif (decide ((IntKind.wrap .i64 (bits .and .u64 a 7)) ≤ 4)) then
        (bif ((IntKind.wrap .i64 (bits .and .u64 a 7)) == 1) then
          true
        else
          ((IntKind.wrap .i64 (bits .and .u64 a 7)) == 2))
      else
        false)
    else
      false)
  else
    false)
theorem freshA_tree (a : Int) : runK Try.prog cfgA fsTag noT 100 40 22 [(.int .u64 a)] (bareK Try.prog) valK =
  bif ((Int.fdiv a (2 ^ 3)) != 0) then
    bif (decide ((IntKind.wrap .i64 (bits .and .u64 a 7)) > 0)) then
      bif (decide ((IntKind.wrap .i64 (bits .and .u64 a 7)) ≤ 4)) then
        bif ((IntKind.wrap .i64 (bits .and .u64 a 7)) == 1) then
          some (.bool true)
        else
          some (.bool ((IntKind.wrap .i64 (bits .and .u64 a 7)) == 2))
      else
        some (.bool false)
    else
      some (.bool false)
  else
    some (.bool false) := by kernel_rfl
theorem freshA_told (a : Int) : Tells Try.prog 22 [(.int .u64 a)] (bare Try.prog) (.bool (freshA a)) :=
  Tells.of_tree (h := bareK Try.prog) fitTag SoundC.no AgreeT.no rfl (show Ro (bare Try.prog) from Ro.bare) (by rw [freshA_tree]; (try simp only [cond_bool, cond_int]); rfl)
/-- sprocket/tag.Frozen -/
def frozenA (a : Int) : Bool :=
  (bif (((Int.fdiv a (2 ^ 3)) == 0) && (((IntKind.wrap .i64 (bits .and .u64 a 7)) == 5) && true)) then
    true
  else
    (bif ((Int.fdiv a (2 ^ 3)) != 0) then
      (bif (decide ((IntKind.wrap .i64 (bits .and .u64 a 7)) > 0)) then
        (bif (decide ((IntKind.wrap .i64 (bits .and .u64 a 7)) ≤ 4)) then
          (bif ((IntKind.wrap .i64 (bits .and .u64 a 7)) == 3) then
            true
          else
            ((IntKind.wrap .i64 (bits .and .u64 a 7)) == 4))
        else
          false)
      else
        false)
    else
      false))
theorem frozenA_tree (a : Int) : runK Try.prog cfgA fsTag noT 100 40 24 [(.int .u64 a)] (bareK Try.prog) valK =
  bif (((Int.fdiv a (2 ^ 3)) == 0) && (((IntKind.wrap .i64 (bits .and .u64 a 7)) == 5) && true)) then
    some (.bool true)
  else
    bif ((Int.fdiv a (2 ^ 3)) != 0) then
      bif (decide ((IntKind.wrap .i64 (bits .and .u64 a 7)) > 0)) then
        bif (decide ((IntKind.wrap .i64 (bits .and .u64 a 7)) ≤ 4)) then
          bif ((IntKind.wrap .i64 (bits .and .u64 a 7)) == 3) then
            some (.bool true)
          else
            some (.bool ((IntKind.wrap .i64 (bits .and .u64 a 7)) == 4))
        else
          some (.bool false)
      else
        some (.bool false)
    else
      some (.bool false) := by kernel_rfl
theorem frozenA_told (a : Int) : Tells Try.prog 24 [(.int .u64 a)] (bare Try.prog) (.bool (frozenA a)) :=
  Tells.of_tree (h := bareK Try.prog) fitTag SoundC.no AgreeT.no rfl (show Ro (bare Try.prog) from Ro.bare) (by rw [frozenA_tree]; (try simp only [cond_bool, cond_int]); rfl)
/-- sprocket/tag.Again -/
def againA (a : Int) (b : Int) : Int :=
  (IntKind.wrap .u64 ((IntKind.wrap .u64 ((Int.fdiv a (2 ^ 3)) * (2 ^ 3))) + (IntKind.wrap .u64 (bits .and .i64 b 7))))
theorem againA_tree (a : Int) (b : Int) : runK Try.prog cfgA fsTag noT 100 40 26 [(.int .u64 a), (.int .i64 b)] (bareK Try.prog) valK =
  some (.int .u64 (IntKind.wrap .u64 ((IntKind.wrap .u64 ((Int.fdiv a (2 ^ 3)) * (2 ^ 3))) + (IntKind.wrap .u64 (bits .and .i64 b 7))))) := by kernel_rfl
theorem againA_told (a : Int) (b : Int) : Tells Try.prog 26 [(.int .u64 a), (.int .i64 b)] (bare Try.prog) (.int .u64 (againA a b)) :=
  Tells.of_tree (h := bareK Try.prog) fitTag SoundC.no AgreeT.no rfl (show Ro (bare Try.prog) from Ro.bare) (by rw [againA_tree]; (try simp only [cond_bool, cond_int]); rfl)
def backE : Ext := fun _ f args => match f, args with
  | 15, [(.int .u64 a)] => some (.int .u64 (blockA a))
  | 16, [(.int .u64 a)] => some (.int .i64 (markA a))
  | 17, [(.int .u64 a), (.int .i64 b)] => some (.int .u64 (makeA a b))
  | 20, [(.int .u64 a)] => some (.bool (holdsA a))
  | 22, [(.int .u64 a)] => some (.bool (freshA a))
  | 24, [(.int .u64 a)] => some (.bool (frozenA a))
  | 26, [(.int .u64 a), (.int .i64 b)] => some (.int .u64 (againA a b))
  | _, _ => none
def backEDom : List FuncId := [15, 16, 17, 20, 22, 24, 26]
theorem backE_sound : SoundC Try.prog (extC backEDom backE) := by
  refine SoundC.ext_plain (fun f hf => fitTag.fnOk f ?_) ?_
  · revert f; decide
  · intro rd f args v _ h
    unfold backE at h
    split at h
    · cases h; exact ⟨rfl, rfl, blockA_told _⟩
    · cases h; exact ⟨rfl, rfl, markA_told _⟩
    · cases h; exact ⟨rfl, rfl, makeA_told _ _⟩
    · cases h; exact ⟨rfl, rfl, holdsA_told _⟩
    · cases h; exact ⟨rfl, rfl, freshA_told _⟩
    · cases h; exact ⟨rfl, rfl, frozenA_told _⟩
    · cases h; exact ⟨rfl, rfl, againA_told _ _⟩
    · cases h
theorem tree (w b m : Int) : runK Try.prog cfgA fsTag (extT backEDom backE) 100 40 5 [.int .u64 w, .int .u64 b, .int .i64 m] (bareK Try.prog) valK =
  bif ((makeA ((blockA w)) ((markA w))) != w) then
    some (.bool false)
  else
    bif ((blockA ((againA w m))) != (blockA w)) then
      some (.bool false)
    else
      bif (freshA w) then
        bif (frozenA w) then
          some (.bool false)
        else
          bif (holdsA w) then
            bif (!(freshA w)) then
              bif (!(frozenA w)) then
                some (.bool false)
              else
                bif (decide (b ≥ 2305843009213693952)) then
                  some (.bool true)
                else
                  bif (decide (m < 0)) then
                    some (.bool true)
                  else
                    bif (decide (m > 7)) then
                      some (.bool true)
                    else
                      bif (((Int.fdiv (makeA b m) (2 ^ 3)) == b) && (((IntKind.wrap .i64 (bits .and .u64 (makeA b m) 7)) == m) && true)) then
                        some (.bool true)
                      else
                        some (.bool false)
            else
              bif (decide (b ≥ 2305843009213693952)) then
                some (.bool true)
              else
                bif (decide (m < 0)) then
                  some (.bool true)
                else
                  bif (decide (m > 7)) then
                    some (.bool true)
                  else
                    bif (((Int.fdiv (makeA b m) (2 ^ 3)) == b) && (((IntKind.wrap .i64 (bits .and .u64 (makeA b m) 7)) == m) && true)) then
                      some (.bool true)
                    else
                      some (.bool false)
          else
            bif (decide (b ≥ 2305843009213693952)) then
              some (.bool true)
            else
              bif (decide (m < 0)) then
                some (.bool true)
              else
                bif (decide (m > 7)) then
                  some (.bool true)
                else
                  bif (((Int.fdiv (makeA b m) (2 ^ 3)) == b) && (((IntKind.wrap .i64 (bits .and .u64 (makeA b m) 7)) == m) && true)) then
                    some (.bool true)
                  else
                    some (.bool false)
      else
        bif (holdsA w) then
          bif (!(freshA w)) then
            bif (!(frozenA w)) then
              some (.bool false)
            else
              bif (decide (b ≥ 2305843009213693952)) then
                some (.bool true)
              else
                bif (decide (m < 0)) then
                  some (.bool true)
                else
                  bif (decide (m > 7)) then
                    some (.bool true)
                  else
                    bif (((Int.fdiv (makeA b m) (2 ^ 3)) == b) && (((IntKind.wrap .i64 (bits .and .u64 (makeA b m) 7)) == m) && true)) then
                      some (.bool true)
                    else
                      some (.bool false)
          else
            bif (decide (b ≥ 2305843009213693952)) then
              some (.bool true)
            else
              bif (decide (m < 0)) then
                some (.bool true)
              else
                bif (decide (m > 7)) then
                  some (.bool true)
                else
                  bif (((Int.fdiv (makeA b m) (2 ^ 3)) == b) && (((IntKind.wrap .i64 (bits .and .u64 (makeA b m) 7)) == m) && true)) then
                    some (.bool true)
                  else
                    some (.bool false)
        else
          bif (decide (b ≥ 2305843009213693952)) then
            some (.bool true)
          else
            bif (decide (m < 0)) then
              some (.bool true)
            else
              bif (decide (m > 7)) then
                some (.bool true)
              else
                bif (((Int.fdiv (makeA b m) (2 ^ 3)) == b) && (((IntKind.wrap .i64 (bits .and .u64 (makeA b m) 7)) == m) && true)) then
                  some (.bool true)
                else
                  some (.bool false) := by kernel_rfl
theorem fdiv8 (w : Int) : Int.fdiv w (2 ^ 3) = w / 8 := Int.fdiv_eq_ediv_of_nonneg _ (by omega)
theorem blockA_eq (w : Int) : blockA w = w / 8 := by unfold blockA; exact fdiv8 w
theorem markA_eq (w : Int) : markA w = w % 8 := by unfold markA; rw [and7_u64, wrap_i64_id (by omega) (by omega)]
theorem makeA_eq (b m : Int) : makeA b m = (b * 8 + m % 8) % 18446744073709551616 := by
  unfold makeA
  rw [and7_i64]
  simp only [wrap_u64]
  omega
theorem againA_eq (w m : Int) : againA w m = (w / 8 * 8 + m % 8) % 18446744073709551616 := by
  unfold againA
  rw [and7_i64, fdiv8]
  simp only [wrap_u64]
  omega
theorem states (w : Int) (hw : 0 ≤ w ∧ w < 18446744073709551616) : (freshA w = true → frozenA w = false) ∧ (holdsA w = true → freshA w = false → frozenA w = true) := by
  unfold holdsA freshA frozenA
  rw [and7_u64, wrap_i64_id (by omega) (by omega), fdiv8]
  rcases Int.lt_or_le w 8 with g | g
  · have hq : w / 8 = 0 := by omega
    simp only [hq, bne_self_eq_false, cond_false]
    simp
  · have hq : (w / 8 != 0) = true := by simp; omega
    have hq' : (w / 8 == 0) = false := by simp; omega
    simp only [hq, hq', cond_true, cond_false, Bool.false_and]
    have hr : w % 8 = 0 ∨ w % 8 = 1 ∨ w % 8 = 2 ∨ w % 8 = 3 ∨ w % 8 = 4 ∨ w % 8 = 5 ∨ w % 8 = 6 ∨ w % 8 = 7 := by omega
    rcases hr with h | h | h | h | h | h | h | h <;> rw [h] <;> decide
theorem told (w b m : Int) (hw : (Lit.int .u64 w).wf = true) (hb : (Lit.int .u64 b).wf = true) (hm : (Lit.int .i64 m).wf = true) :
    Tells Try.prog 5 [.int .u64 w, .int .u64 b, .int .i64 m] (bare Try.prog) (.bool true) := by
  refine Tells.of_tree (h := bareK Try.prog) fitTag backE_sound (extT_agree _ _) rfl (show Ro (bare Try.prog) from Ro.bare) (n := 100) (d := 40) ?_
  rw [tree]
  have hw := wf_u64 hw
  have hb := wf_u64 hb
  have hm := wf_i64 hm
  have f1 : (makeA (blockA w) (markA w) != w) = false := by rw [blockA_eq, markA_eq, makeA_eq]; simp; omega
  have f2 : (blockA (againA w m) != blockA w) = false := by rw [blockA_eq, blockA_eq, againA_eq]; simp; omega
  have tl : (bif decide (b ≥ 2305843009213693952) then some (Value.bool true) else bif decide (m < 0) then some (.bool true) else bif decide (m > 7) then some (.bool true) else
      bif (Int.fdiv (makeA b m) (2 ^ 3) == b) && ((IntKind.wrap .i64 (bits .and .u64 (makeA b m) 7) == m) && true) then some (.bool true) else some (.bool false)) = some (.bool true) := by
    cases h1 : decide (b ≥ 2305843009213693952) with
    | true => rfl
    | false =>
      cases h2 : decide (m < 0) with
      | true => rfl
      | false =>
        cases h3 : decide (m > 7) with
        | true => rfl
        | false =>
          have h1 := of_decide_eq_false h1
          have h2 := of_decide_eq_false h2
          have h3 := of_decide_eq_false h3
          have e1 : (Int.fdiv (makeA b m) (2 ^ 3) == b) = true := by rw [fdiv8, makeA_eq]; simp; omega
          have e2 : (IntKind.wrap .i64 (bits .and .u64 (makeA b m) 7) == m) = true := by
            rw [and7_u64, wrap_i64_id (by omega) (by omega), makeA_eq]; simp; omega
          rw [e1, e2]; rfl
  obtain ⟨g1, g2⟩ := states w hw
  rw [tl, f1, f2]
  simp only [cond_false]
  revert g1 g2
  cases holdsA w <;> cases freshA w <;> cases frozenA w <;> simp

theorem own : ownKnob Try.prog.godebug = none := by kernel_rfl
theorem lifted (os : Os) (started : os.Started) (H : Type) (enc : TypeId × Value → H) :
    ReturnsInHanded {} Try.checked os 5 .any (Rows.tagBackSpec.pre6 enc Try.prog Try.f5 Rows.tagBackRow.domain false) (Rows.tagBackSpec.post enc Try.prog Try.f5 false true false false) := by
  refine returnsInHanded_of_change_sized (C := Try.checked) own started (by kernel_rfl) Try.func5
    (ChangeSpec.witness6 (enc := enc) (C := Try.checked) false ⟨#[], #[.int .u64 0, .int .u64 0, .int .i64 0], []⟩ 8 (by kernel_rfl) (by kernel_rfl) (by kernel_rfl) (by kernel_rfl)) ?_
  intro W base args ds gs before hval0 hW hcnd hsz0 _
  have hval : ∀ (j : Nat) t v, Try.f5.params[j]? = some t → args[j]? = some v → Value.okWide Try.prog W .any base t v := hval0
  have hW' := hW
  obtain ⟨p, q, hA0, hV, rfl, hfz, hnd⟩ := hW
  have hA : DataW.TrodAll enc Try.prog W 0 (fun _ => true) true Try.f5.params.toList args.toList ds p := hA0
  rw [Try.params5] at hA hval
  obtain ⟨v0, vs0, d0, ds0, p0, q0, hargs, rfl, rfl, h0, r0⟩ := trodAll_cons hA
  obtain ⟨v1, vs1, d1, ds1, p1, q1, rfl, rfl, rfl, h1, r1⟩ := trodAll_cons r0
  obtain ⟨v2, vs2, d2, ds2, p2, q2, rfl, rfl, rfl, h2, r2⟩ := trodAll_cons r1
  obtain ⟨rfl, rfl, rfl⟩ := trodAll_nil r2
  obtain rfl : args = #[v0, v1, v2] := by cases args; simp_all
  obtain ⟨rfl, rfl⟩ := trodVars_none hV
  obtain ⟨a0, rfl, rfl, rfl, w0⟩ := open_int Try.underlying22 (hval 0 22 v0 rfl rfl) h0
  obtain ⟨a1, rfl, rfl, rfl, w1⟩ := open_int Try.underlying22 (hval 1 22 v1 rfl rfl) h1
  obtain ⟨a2, rfl, rfl, rfl, w2⟩ := open_int Try.underlying3 (hval 2 3 v2 rfl rfl) h2
  refine (Tells.call noVars (args := #[.int .u64 a0, .int .u64 a1, .int .i64 a2]) (told a0 a1 a2 w0 w1 w2) rfl W).mono fun e W' ⟨he, bel⟩ => ?_
  subst he
  exact ⟨_, rfl, _, _, _, [], _, [], hW', trodAll_mk1 (shut_bool Try.underlying4 _), (trodAll_cons_mk (shut_int Try.underlying22 w0) (trodAll_cons_mk (shut_int Try.underlying22 w1) (trodAll_cons_mk (shut_int Try.underlying3 w2) trodAll_mk0))), rfl, bel.frame _, fun h => by cases h⟩
theorem over : Rows.tagBackRow.holds Try.pinned (OpenSpec.ofChange Rows.tagBackSpec) :=
  OpenClaim.holds_of_wide 5 Try.f5 rfl rfl rfl rfl rfl rfl rfl ⟨rfl, rfl, rfl, rfl, rfl⟩ rfl rfl rfl rfl rfl (by kernel_rfl) Try.func5 (by kernel_rfl)
    (of_decide_eq_true (by kernel_rfl)) (by unfold Func.isWrapper; first | (rw [if_pos (by decide +kernel)]; kernel_rfl) | (rw [if_neg (by decide +kernel)]; exact ⟨rfl, rfl⟩))
    (fun os started H enc _ => lifted os started H enc)
end Go.Proofs.Ytmphcolclkpnnaa.tagBack
namespace Go.Proofs.Ytmphcolclkpnnaa
/-- The row, under a short name, for the claim. -/
theorem tagBack_holds : Rows.TagBackSaid := tagBack.over
#print axioms tagBack_holds
end Go.Proofs.Ytmphcolclkpnnaa
