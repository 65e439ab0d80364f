/- Whatever was answered: who sweeps old tables does as the reference says. -/
import Derived.Test.YtomcbblcipnabaaDoorCards
import Derived.Test.YtomcbblcipnabaaDoorTie
import Derived.Test.YtomcbblcipnabaaDoorSweepA
import Derived.Test.YtomcbblcipnabaaDoorSweepV
import Derived.WalkKit
import Derived.ProofKit
import Derived.OpenShut
import Derived.ChangeOld
import Derived.Below
import Derived.SizedLaws
namespace Go.Proofs.YtomcbblcipnabaaDoor.sweepActs
open Go.Eng
open Go.ChangeShapes Go.WideShapes Go.ChangeAt Go.RowKit
set_option linter.unusedVariables false
set_option linter.unusedSimpArgs false
set_option maxRecDepth 100000
open Go.Proofs.YtomcbblcipnabaaDoor.sweepActsV (toldV)
theorem own : ownKnob Tryd.prog.godebug = none := by kernel_rfl
def laidV0 : List (String × DataW Unit) := laidV
/-- The door's own heap meets the condition. -/
theorem door_met (os : Os) (args : Array Value) : laidMetH Tryd.prog laidV ((World.doorLaid Tryd.prog 400 os).forCall (fun _ _ => 0) ⟨#[], args, []⟩).memory :=
  laidMetH_of_parts3 (fuel := 8) (laidMet_of_run' 8 (by kernel_rfl) (by kernel_rfl)) (by kernel_rfl) (by kernel_rfl)
theorem lifted (os : Os) (started : os.Started) (H : Type) (enc : TypeId × Value → H) :
    ReturnsInHanded {} Tryd.checked os 3 .any (fun w args => (Rows.sweepActsSpec.pre enc Tryd.prog Tryd.f3 [] false w args ∧ laidMetH Tryd.prog laidV w) ∧ sizedMet enc Tryd.prog Tryd.f3 (OpenSpec.ofChange Rows.sweepActsSpec) false w args)
      (Rows.sweepActsSpec.post enc Tryd.prog Tryd.f3 false true false false) := by
  refine returnsInHanded_of_change_and (C := Tryd.checked) (X := fun w _ => laidMetH Tryd.prog laidV w) (fun _ _ _ hh h => h.of_heap hh) own started (by kernel_rfl) Tryd.func3
    (ChangeSpec.witness_shaped (enc := enc) (C := Tryd.checked) (os := os) (X := fun w _ => laidMetH Tryd.prog laidV w) false (World.doorLaid Tryd.prog 400 os) #[.agg #[.int .u64 0, .int .i64 0, .int .i64 0, .int .i64 0, .int .u64 0], .slice none 0 0] 8 rfl (World.shaped_of_RefB (by kernel_rfl) (by kernel_rfl)) (by kernel_rfl) (by kernel_rfl) (by kernel_rfl) (door_met os _)) ?_
  intro W base args ds gs before hval0 hW hcnd hsz0 hL _
  have hvar := bounds_cells hL
  have hval : ∀ (j : Nat) t v, Tryd.f3.params[j]? = some t → args[j]? = some v → Value.okWide Tryd.prog W .any base t v := hval0
  have hW' := hW
  obtain ⟨p, q, hA0, hV, rfl, hfz, hnd⟩ := hW
  have hA : DataW.TrodAll enc Tryd.prog W 0 (fun _ => true) true Tryd.f3.params.toList args.toList ds p := hA0
  rw [Tryd.params3] at hA hval
  have hS := hA
  obtain ⟨v0, vs0, d0, ds0, p0, q0, hargs, rfl, rfl, h0, r0⟩ := trodAll_cons hA
  obtain ⟨v1, vs1, d1, ds1, p1, q1, rfl, rfl, rfl, h1, r1⟩ := trodAll_cons r0
  obtain ⟨rfl, rfl, rfl⟩ := trodAll_nil r1
  obtain rfl : args = #[v0, v1] := by cases args; simp_all
  obtain ⟨rfl, rfl⟩ := trodVars_none hV
  suffices hc : Calls Tryd.prog 3 #[v0, v1] W fun e W' => e = .returned (.bool true) ∧ Below W.heap.size W W' by
    refine hc.mono fun e W' ⟨he, bel⟩ => ?_
    subst he
    exact ⟨_, rfl, _, _, _, [], _, [], hW', trodAll_mk1 (shut_bool Tryd.underlying4 _), trodAll_stays fineA bel (by decide +kernel) hS, rfl, bel.frame _, fun h => by cases h⟩
  clear hS hW' hfz hnd
  obtain ⟨cs0, rfl, hl0, hc0⟩ := open_agg (ts := [22, 3, 3, 3, 22]) (by kernel_rfl) (by kernel_rfl) (by kernel_rfl) (hval 0 24 v0 rfl rfl)
  obtain ⟨x0_0, cs0_0, rfl, hl0_0⟩ := list_succ hl0
  obtain ⟨x0_1, cs0_1, rfl, hl0_1⟩ := list_succ hl0_0
  obtain ⟨x0_2, cs0_2, rfl, hl0_2⟩ := list_succ hl0_1
  obtain ⟨x0_3, cs0_3, rfl, hl0_3⟩ := list_succ hl0_2
  obtain ⟨x0_4, cs0_4, rfl, hl0_4⟩ := list_succ hl0_3
  obtain rfl := list_zero hl0_4
  obtain ⟨a0_0, rfl, w0_0⟩ := cell_int (k := .u64) Tryd.underlying22 (hc0 0 _ _ rfl rfl)
  obtain ⟨a0_1, rfl, w0_1⟩ := cell_int (k := .i64) Tryd.underlying3 (hc0 1 _ _ rfl rfl)
  obtain ⟨a0_2, rfl, w0_2⟩ := cell_int (k := .i64) Tryd.underlying3 (hc0 2 _ _ rfl rfl)
  obtain ⟨a0_3, rfl, w0_3⟩ := cell_int (k := .i64) Tryd.underlying3 (hc0 3 _ _ rfl rfl)
  obtain ⟨a0_4, rfl, w0_4⟩ := cell_int (k := .u64) Tryd.underlying22 (hc0 4 _ _ rfl rfl)
  have o1 := Go.Eng.open_row Tryd.underlying25 Tryd.underlying22 (by kernel_rfl) (hval 1 25 v1 rfl rfl) h1
  have hdk := (has_u64 w0_0).1
  rcases o1 with ⟨x, rfl⟩ | ⟨a, len, cap, zs, rfl, h0, hle, hmx, hz, hcell, hwf⟩
  · obtain ⟨e, hS⟩ := Sim.varNone (k := .i64) (zs := [1, 64, 1, 64]) oneVar (by decide) hvar
    exact toldV a0_0 a0_1 a0_2 a0_3 a0_4 e hdk _ W _ (.cons (.of_plain rfl) (.cons (.slice00 _ _ _) (.nil _))) hS
  · obtain ⟨e, e2, hS, hsp⟩ := Sim.varRow (k := .i64) (zs := [1, 64, 1, 64]) oneVar (by decide) hvar (by omega) hcell
    obtain ⟨blk, off, spot⟩ := a
    simp only at hsp
    subst hsp
    have hlw : ∀ j, word (zs.getD j 0) := by
      intro j
      by_cases hj : j < zs.length
      · exact wf_u64 (hwf _ (by rw [List.getD_eq_getElem?_getD, List.getElem?_eq_getElem hj]; exact List.getElem_mem hj))
      · rw [List.getD_eq_getElem?_getD, List.getElem?_eq_none (by omega)]; exact ⟨by decide, by decide⟩
    exact told a0_0 a0_1 a0_2 a0_3 a0_4 off len cap zs e e2 hdk hlw hle (by simpa [maxLen] using hmx) hz h0 _ W _ (.cons (.of_plain rfl) (.cons (R.slice_row rfl) (.nil _))) hS
theorem over : Rows.sweepActsRow.holds Tryd.pinned (OpenSpec.ofChange Rows.sweepActsSpec) :=
  OpenClaim.holds_of_wide 3 Tryd.f3 rfl rfl rfl rfl rfl rfl rfl ⟨rfl, rfl, rfl, rfl, rfl⟩ rfl rfl rfl rfl rfl (by kernel_rfl) Tryd.func3 (by kernel_rfl)
    (of_decide_eq_true (by kernel_rfl)) (by unfold Func.isWrapper; first | (rw [if_pos (by decide +kernel)]; kernel_rfl) | (rw [if_neg (by decide +kernel)]; exact ⟨rfl, rfl⟩))
    (fun os started H enc _ => lifted os started H enc)
end Go.Proofs.YtomcbblcipnabaaDoor.sweepActs
namespace Go.Proofs.YtomcbblcipnabaaDoor
/-- The tied card, for the claim. -/
theorem sweepActs_holds : Rows.SweepActsCardSaid :=
  Claim7.holds_tied_plain_at .later [] [.data] true (true, "b956965dd63d58b13fc5832a004a3d5ebd506f862304376d3c16204b317db86b") false
    sweepActs.over (fun _ h => by cases h) (by kernel_rfl) (fun _ h => by cases h) sweepActs_row_tie rfl ⟨rfl, rfl⟩ (by kernel_rfl) rfl
    (fun f fn hf hfn => by
      obtain rfl : f = 3 := Option.some.inj ((show Tryd.prog.funcNamed "sprocket/sprocketlaw25.SweepActs" = some 3 by kernel_rfl).symm.trans hf) |>.symm
      obtain rfl : fn = Tryd.f3 := (Option.some.inj (Tryd.func3.symm.trans hfn)).symm
      exact ⟨by kernel_rfl, fun j t ht => by
        rw [Tryd.params3] at ht
        have hm : t ∈ [24, 25] := by simpa using Array.mem_of_getElem? ht
        have hall : ([24, 25].all fun u => !Tryd.prog.wantsStandIn u) = true := by kernel_rfl
        exact (show Tryd.prog.wantsStandIn t = false by simpa using List.all_eq_true.1 hall t hm)⟩)
    (by kernel_rfl)
#print axioms sweepActs_holds
end Go.Proofs.YtomcbblcipnabaaDoor
