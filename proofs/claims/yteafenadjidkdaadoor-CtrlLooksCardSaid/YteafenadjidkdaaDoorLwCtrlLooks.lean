/- Whatever the word, the place and the claim: CtrlLooks answers true. -/
import Derived.Test.YteafenadjidkdaaDoorCards
import Derived.Test.YteafenadjidkdaaDoorTie
import Derived.Test.YteafenadjidkdaaDoorCtrlPl
import Derived.WalkKit
import Derived.ProofKit
import Derived.OpenShut
import Derived.ChangeOld
import Derived.Below
import Derived.SizedLaws
namespace Go.Proofs.YteafenadjidkdaaDoor.ctrlLooks
open Go.Eng
open Go.ChangeShapes Go.WideShapes Go.ChangeAt Go.RowKit
set_option linter.unusedVariables false
set_option linter.unusedSimpArgs false
set_option maxRecDepth 100000
open Go.Proofs.YteafenadjidkdaaDoor.ctrls (word isWord class_eq classA classR claimA claimR sealA nextI nextC nextT fourE fourK fourDom four_agree four_sound cand class_cand byteV_rng)
noncomputable def cfgT : Cfg := ⟨[]⟩
noncomputable def fsT : List FuncId := [6]
theorem fitT : Fit Tryd.prog cfgT fsT := ⟨by kernel_rfl, Cfg.ok_of (by kernel_rfl), by kernel_rfl⟩
noncomputable def B : Code := bodyOf Tryd.prog 6
theorem B_is : Tryd.f6.body = some B := by kernel_rfl
theorem B_ok : okCode Tryd.prog.globals.size B = true := by kernel_rfl
noncomputable def S0 (w : Int) (i : Int) (b : Int) (e0 : TypeId) : KSt := (firstK [(.int .u64 w), (.int .i64 i), (.int .i64 b)] 47 ⟨1, 1, [(0, 0, .cells [(.int .u8 0), (.int .u8 1), (.int .u8 56), (.int .u8 2), (.int .u8 57), (.int .u8 49), (.int .u8 28), (.int .u8 3), (.int .u8 61), (.int .u8 58), (.int .u8 42), (.int .u8 50), (.int .u8 38), (.int .u8 29), (.int .u8 17), (.int .u8 4), (.int .u8 62), (.int .u8 47), (.int .u8 59), (.int .u8 36), (.int .u8 45), (.int .u8 43), (.int .u8 51), (.int .u8 22), (.int .u8 53), (.int .u8 39), (.int .u8 33), (.int .u8 30), (.int .u8 24), (.int .u8 18), (.int .u8 12), (.int .u8 5), (.int .u8 63), (.int .u8 55), (.int .u8 48), (.int .u8 27), (.int .u8 60), (.int .u8 41), (.int .u8 37), (.int .u8 16), (.int .u8 46), (.int .u8 35), (.int .u8 44), (.int .u8 21), (.int .u8 52), (.int .u8 32), (.int .u8 23), (.int .u8 11), (.int .u8 54), (.int .u8 26), (.int .u8 40), (.int .u8 15), (.int .u8 34), (.int .u8 20), (.int .u8 31), (.int .u8 10), (.int .u8 25), (.int .u8 14), (.int .u8 19), (.int .u8 9), (.int .u8 13), (.int .u8 8), (.int .u8 7), (.int .u8 6)] e0 false)]⟩)
theorem C : B = .seq (codeAt [0] B) (codeAt [1] B) := by kernel_rfl
noncomputable def S1 (w : Int) (i : Int) (b : Int) (e0 : TypeId) : KSt := ⟨(frameL 47 [(0, (.int .u64 w)), (1, (.int .i64 i)), (2, (.int .i64 b))]), ⟨1, 1, [(0, 0, .cells [(.int .u8 0), (.int .u8 1), (.int .u8 56), (.int .u8 2), (.int .u8 57), (.int .u8 49), (.int .u8 28), (.int .u8 3), (.int .u8 61), (.int .u8 58), (.int .u8 42), (.int .u8 50), (.int .u8 38), (.int .u8 29), (.int .u8 17), (.int .u8 4), (.int .u8 62), (.int .u8 47), (.int .u8 59), (.int .u8 36), (.int .u8 45), (.int .u8 43), (.int .u8 51), (.int .u8 22), (.int .u8 53), (.int .u8 39), (.int .u8 33), (.int .u8 30), (.int .u8 24), (.int .u8 18), (.int .u8 12), (.int .u8 5), (.int .u8 63), (.int .u8 55), (.int .u8 48), (.int .u8 27), (.int .u8 60), (.int .u8 41), (.int .u8 37), (.int .u8 16), (.int .u8 46), (.int .u8 35), (.int .u8 44), (.int .u8 21), (.int .u8 52), (.int .u8 32), (.int .u8 23), (.int .u8 11), (.int .u8 54), (.int .u8 26), (.int .u8 40), (.int .u8 15), (.int .u8 34), (.int .u8 20), (.int .u8 31), (.int .u8 10), (.int .u8 25), (.int .u8 14), (.int .u8 19), (.int .u8 9), (.int .u8 13), (.int .u8 8), (.int .u8 7), (.int .u8 6)] e0 false)]⟩⟩
theorem R1 (w : Int) (i : Int) (b : Int) (e0 : TypeId) : evCK Tryd.prog cfgT (runK Tryd.prog cfgT fsT (conTk fourDom fourK) 12 40) 12 (codeAt [0] B) (S0 w i b e0) (normC 1 [0, 1, 2]) =
  some (.normal, (S1 w i b e0)) := by kernel_rfl
theorem C1 : (codeAt [1] B) = .seq (codeAt [1, 0] B) (codeAt [1, 1] B) := by kernel_rfl
noncomputable def S2 (w : Int) (i : Int) (b : Int) (e0 : TypeId) : KSt := ⟨(frameL 47 [(0, (.int .u64 w)), (1, (.int .i64 i)), (2, (.int .i64 b)), (7, (.int .i64 (nextI w i b 8 0))), (8, (.int .i64 (nextC w b (nextI w i b 8 0))))]), ⟨1, 1, [(0, 0, .cells [(.int .u8 0), (.int .u8 1), (.int .u8 56), (.int .u8 2), (.int .u8 57), (.int .u8 49), (.int .u8 28), (.int .u8 3), (.int .u8 61), (.int .u8 58), (.int .u8 42), (.int .u8 50), (.int .u8 38), (.int .u8 29), (.int .u8 17), (.int .u8 4), (.int .u8 62), (.int .u8 47), (.int .u8 59), (.int .u8 36), (.int .u8 45), (.int .u8 43), (.int .u8 51), (.int .u8 22), (.int .u8 53), (.int .u8 39), (.int .u8 33), (.int .u8 30), (.int .u8 24), (.int .u8 18), (.int .u8 12), (.int .u8 5), (.int .u8 63), (.int .u8 55), (.int .u8 48), (.int .u8 27), (.int .u8 60), (.int .u8 41), (.int .u8 37), (.int .u8 16), (.int .u8 46), (.int .u8 35), (.int .u8 44), (.int .u8 21), (.int .u8 52), (.int .u8 32), (.int .u8 23), (.int .u8 11), (.int .u8 54), (.int .u8 26), (.int .u8 40), (.int .u8 15), (.int .u8 34), (.int .u8 20), (.int .u8 31), (.int .u8 10), (.int .u8 25), (.int .u8 14), (.int .u8 19), (.int .u8 9), (.int .u8 13), (.int .u8 8), (.int .u8 7), (.int .u8 6)] e0 false)]⟩⟩
theorem R2 (w : Int) (i : Int) (b : Int) (e0 : TypeId) : evCK Tryd.prog cfgT (runK Tryd.prog cfgT fsT (conTk fourDom fourK) 12 40) 12 (codeAt [1, 0] B) (S1 w i b e0) (normC 1 [0, 1, 2, 7, 8]) =
  bif (isWord w) then
    some (.normal, (S2 w i b e0))
  else
    none := by kernel_rfl
theorem C1_1 : (codeAt [1, 1] B) = .seq (codeAt [1, 1, 0] B) (codeAt [1, 1, 1] B) := by kernel_rfl
noncomputable def S3 (w : Int) (i : Int) (b : Int) (e0 : TypeId) : KSt := ⟨(frameL 47 [(0, (.int .u64 w)), (1, (.int .i64 i)), (2, (.int .i64 b)), (7, (.int .i64 (nextI w i b 8 0))), (8, (.int .i64 (nextC w b (nextI w i b 8 0)))), (9, (.int .i64 (nextI w i b 8 0))), (10, (.int .i64 (nextC w b (nextI w i b 8 0))))]), ⟨1, 1, [(0, 0, .cells [(.int .u8 0), (.int .u8 1), (.int .u8 56), (.int .u8 2), (.int .u8 57), (.int .u8 49), (.int .u8 28), (.int .u8 3), (.int .u8 61), (.int .u8 58), (.int .u8 42), (.int .u8 50), (.int .u8 38), (.int .u8 29), (.int .u8 17), (.int .u8 4), (.int .u8 62), (.int .u8 47), (.int .u8 59), (.int .u8 36), (.int .u8 45), (.int .u8 43), (.int .u8 51), (.int .u8 22), (.int .u8 53), (.int .u8 39), (.int .u8 33), (.int .u8 30), (.int .u8 24), (.int .u8 18), (.int .u8 12), (.int .u8 5), (.int .u8 63), (.int .u8 55), (.int .u8 48), (.int .u8 27), (.int .u8 60), (.int .u8 41), (.int .u8 37), (.int .u8 16), (.int .u8 46), (.int .u8 35), (.int .u8 44), (.int .u8 21), (.int .u8 52), (.int .u8 32), (.int .u8 23), (.int .u8 11), (.int .u8 54), (.int .u8 26), (.int .u8 40), (.int .u8 15), (.int .u8 34), (.int .u8 20), (.int .u8 31), (.int .u8 10), (.int .u8 25), (.int .u8 14), (.int .u8 19), (.int .u8 9), (.int .u8 13), (.int .u8 8), (.int .u8 7), (.int .u8 6)] e0 false)]⟩⟩
theorem R3 (w : Int) (i : Int) (b : Int) (e0 : TypeId) : evCK Tryd.prog cfgT (runK Tryd.prog cfgT fsT (conTk fourDom fourK) 12 40) 12 (codeAt [1, 1, 0] B) (S2 w i b e0) (normC 1 [0, 1, 2, 7, 8, 9, 10]) =
  some (.normal, (S3 w i b e0)) := by kernel_rfl
theorem C1_1_1 : (codeAt [1, 1, 1] B) = .seq (codeAt [1, 1, 1, 0] B) (codeAt [1, 1, 1, 1] B) := by kernel_rfl
noncomputable def S4 (e0 : TypeId) : KSt := ⟨(frameL 47 [(6, (.bool true))]), ⟨1, 1, [(0, 0, .cells [(.int .u8 0), (.int .u8 1), (.int .u8 56), (.int .u8 2), (.int .u8 57), (.int .u8 49), (.int .u8 28), (.int .u8 3), (.int .u8 61), (.int .u8 58), (.int .u8 42), (.int .u8 50), (.int .u8 38), (.int .u8 29), (.int .u8 17), (.int .u8 4), (.int .u8 62), (.int .u8 47), (.int .u8 59), (.int .u8 36), (.int .u8 45), (.int .u8 43), (.int .u8 51), (.int .u8 22), (.int .u8 53), (.int .u8 39), (.int .u8 33), (.int .u8 30), (.int .u8 24), (.int .u8 18), (.int .u8 12), (.int .u8 5), (.int .u8 63), (.int .u8 55), (.int .u8 48), (.int .u8 27), (.int .u8 60), (.int .u8 41), (.int .u8 37), (.int .u8 16), (.int .u8 46), (.int .u8 35), (.int .u8 44), (.int .u8 21), (.int .u8 52), (.int .u8 32), (.int .u8 23), (.int .u8 11), (.int .u8 54), (.int .u8 26), (.int .u8 40), (.int .u8 15), (.int .u8 34), (.int .u8 20), (.int .u8 31), (.int .u8 10), (.int .u8 25), (.int .u8 14), (.int .u8 19), (.int .u8 9), (.int .u8 13), (.int .u8 8), (.int .u8 7), (.int .u8 6)] e0 false)]⟩⟩
noncomputable def S5 (e0 : TypeId) : KSt := ⟨(frameL 47 [(6, (.bool false))]), ⟨1, 1, [(0, 0, .cells [(.int .u8 0), (.int .u8 1), (.int .u8 56), (.int .u8 2), (.int .u8 57), (.int .u8 49), (.int .u8 28), (.int .u8 3), (.int .u8 61), (.int .u8 58), (.int .u8 42), (.int .u8 50), (.int .u8 38), (.int .u8 29), (.int .u8 17), (.int .u8 4), (.int .u8 62), (.int .u8 47), (.int .u8 59), (.int .u8 36), (.int .u8 45), (.int .u8 43), (.int .u8 51), (.int .u8 22), (.int .u8 53), (.int .u8 39), (.int .u8 33), (.int .u8 30), (.int .u8 24), (.int .u8 18), (.int .u8 12), (.int .u8 5), (.int .u8 63), (.int .u8 55), (.int .u8 48), (.int .u8 27), (.int .u8 60), (.int .u8 41), (.int .u8 37), (.int .u8 16), (.int .u8 46), (.int .u8 35), (.int .u8 44), (.int .u8 21), (.int .u8 52), (.int .u8 32), (.int .u8 23), (.int .u8 11), (.int .u8 54), (.int .u8 26), (.int .u8 40), (.int .u8 15), (.int .u8 34), (.int .u8 20), (.int .u8 31), (.int .u8 10), (.int .u8 25), (.int .u8 14), (.int .u8 19), (.int .u8 9), (.int .u8 13), (.int .u8 8), (.int .u8 7), (.int .u8 6)] e0 false)]⟩⟩
theorem R4 (w : Int) (i : Int) (b : Int) (e0 : TypeId) : evCK Tryd.prog cfgT (runK Tryd.prog cfgT fsT (conTk fourDom fourK) 12 40) 12 (codeAt [1, 1, 1, 0] B) (S3 w i b e0) (normC 1 [6]) =
  bif ((nextI w i b 8 0) == (nextI w i b 8 0)) then
    bif ((nextC w b (nextI w i b 8 0)) == (nextC w b (nextI w i b 8 0))) then
      bif ((classA w i b) == (classR w i b)) then
        some (.normal, (S4 e0))
      else
        some (.normal, (S5 e0))
    else
      some (.normal, (S5 e0))
  else
    some (.normal, (S5 e0)) := by kernel_rfl
theorem C1_1_1_1 : (codeAt [1, 1, 1, 1] B) = .ret := by kernel_rfl
theorem go (w i b : Int) (e0 : TypeId) (hw : isWord w = true) (hC : classA w i b = classR w i b)   {Q : Ex → St → Prop} (hq : Q .ret (KSt.low (S4 e0))) : Gets Tryd.prog (varH .u8 tz e0).low B (KSt.low (S0 w i b e0)) Q := by
  rw [C]; refine Gets.seq ?_
  refine Gets.ofN fitT four_sound four_agree 12 40 (by kernel_rfl) (x := .normal) (s' := (S1 w i b e0)) (R1 w i b e0) ?_
  show Gets _ _ (codeAt [1] B) _ _
  rw [C1]; refine Gets.seq ?_
  refine Gets.ofN fitT four_sound four_agree 12 40 (by kernel_rfl) (x := .normal) (s' := (S2 w i b e0)) ((R2 w i b e0).trans (by rw [condT (hw)])) ?_
  show Gets _ _ (codeAt [1, 1] B) _ _
  rw [C1_1]; refine Gets.seq ?_
  refine Gets.ofN fitT four_sound four_agree 12 40 (by kernel_rfl) (x := .normal) (s' := (S3 w i b e0)) (R3 w i b e0) ?_
  show Gets _ _ (codeAt [1, 1, 1] B) _ _
  rw [C1_1_1]; refine Gets.seq ?_
  refine Gets.ofN fitT four_sound four_agree 12 40 (by kernel_rfl) (x := .normal) (s' := (S4 e0)) ((R4 w i b e0).trans (by rw [condT (beq_self_eq_true _), condT (beq_self_eq_true _), condT (by rw [hC]; exact beq_self_eq_true _)])) ?_
  show Gets _ _ (codeAt [1, 1, 1, 1] B) _ _
  rw [C1_1_1_1]; refine Gets.ev fitT.mix fitT.cfg (fitT.sound four_sound 12 0) 12 rfl (s' := KSt.low (S4 e0)) (x := .ret) rfl ?_
  exact hq
noncomputable def QE : Ex → St → Prop := Eng.Ends Tryd.prog Tryd.f6.results.toList fun r _ => r = .bool true
theorem qe_true {s : KSt} (h : resL Tryd.prog s.low Tryd.f6.results.toList = some [.bool true]) : QE .ret s.low := Ends.of h rfl
theorem told (w i b : Int) (e0 : TypeId) (hw : word w) : Tells Tryd.prog 6 [.int .u64 w, .int .i64 i, .int .i64 b] (varH .u8 tz e0).low (.bool true) := by
  refine Gets.tells Tryd.func6 B_is (by rw [oneVar]; exact Nat.le_refl _) rfl ?_ Ro.varH
  show Gets Tryd.prog (varH .u8 tz e0).low B (KSt.low (S0 w i b e0)) QE
  exact go w i b e0 (by unfold isWord; exact decide_eq_true hw) (class_eq hw _ _) (qe_true (by kernel_rfl))
theorem own : ownKnob Tryd.prog.godebug = none := by kernel_rfl
def laidV0 : List (String × DataW Unit) := laidV
/-- The door's own heap meets the condition. -/
theorem door_met (os : Os) (args : Array Value) : laidMetH Tryd.prog laidV ((World.doorLaid Tryd.prog 400 os).forCall (fun _ _ => 0) ⟨#[], args, []⟩).memory :=
  laidMetH_of_parts3 (fuel := 8) (laidMet_of_run' 8 (by kernel_rfl) (by kernel_rfl)) (by kernel_rfl) (by kernel_rfl)
theorem lifted (os : Os) (started : os.Started) (H : Type) (enc : TypeId × Value → H) :
    ReturnsInHanded {} Tryd.checked os 6 .any (fun w args => (Rows.ctrlLooksSpec.pre enc Tryd.prog Tryd.f6 [] false w args ∧ laidMetH Tryd.prog laidV w) ∧ sizedMet enc Tryd.prog Tryd.f6 (OpenSpec.ofChange Rows.ctrlLooksSpec) false w args)
      (Rows.ctrlLooksSpec.post enc Tryd.prog Tryd.f6 false true false false) := by
  refine returnsInHanded_of_change_and (C := Tryd.checked) (X := fun w _ => laidMetH Tryd.prog laidV w) (fun _ _ _ hh h => h.of_heap hh) own started (by kernel_rfl) Tryd.func6
    (ChangeSpec.witness_shaped (enc := enc) (C := Tryd.checked) (os := os) (X := fun w _ => laidMetH Tryd.prog laidV w) false (World.doorLaid Tryd.prog 400 os) #[.int .u64 0, .int .i64 0, .int .i64 0] 8 rfl (World.shaped_of_RefB (by kernel_rfl) (by kernel_rfl)) (by kernel_rfl) (by kernel_rfl) (by kernel_rfl) (door_met os _)) ?_
  intro W base args ds gs before hval0 hW hcnd hsz0 hL _
  have hvar := tz_cells hL
  have hval : ∀ (j : Nat) t v, Tryd.f6.params[j]? = some t → args[j]? = some v → Value.okWide Tryd.prog W .any base t v := hval0
  have hW' := hW
  obtain ⟨p, q, hA0, hV, rfl, hfz, hnd⟩ := hW
  have hA : DataW.TrodAll enc Tryd.prog W 0 (fun _ => true) true Tryd.f6.params.toList args.toList ds p := hA0
  rw [Tryd.params6] at hA hval
  have hS := hA
  obtain ⟨v0, vs0, d0, ds0, p0, q0, hargs, rfl, rfl, h0, r0⟩ := trodAll_cons hA
  obtain ⟨v1, vs1, d1, ds1, p1, q1, rfl, rfl, rfl, h1, r1⟩ := trodAll_cons r0
  obtain ⟨v2, vs2, d2, ds2, p2, q2, rfl, rfl, rfl, h2, r2⟩ := trodAll_cons r1
  obtain ⟨rfl, rfl, rfl⟩ := trodAll_nil r2
  obtain rfl : args = #[v0, v1, v2] := by cases args; simp_all
  obtain ⟨rfl, rfl⟩ := trodVars_none hV
  suffices hc : Calls Tryd.prog 6 #[v0, v1, v2] W fun e W' => e = .returned (.bool true) ∧ Below W.heap.size W W' by
    refine hc.mono fun e W' ⟨he, bel⟩ => ?_
    subst he
    exact ⟨_, rfl, _, _, _, [], _, [], hW', trodAll_mk1 (shut_bool Tryd.underlying4 _), trodAll_stays fineA bel (by decide +kernel) hS, rfl, bel.frame _, fun h => by cases h⟩
  clear hS hW' hfz hnd
  obtain ⟨a0, rfl, rfl, rfl, w0⟩ := open_int Tryd.underlying22 (hval 0 22 v0 rfl rfl) h0
  obtain ⟨a1, rfl, rfl, rfl, w1⟩ := open_int Tryd.underlying3 (hval 1 3 v1 rfl rfl) h1
  obtain ⟨a2, rfl, rfl, rfl, w2⟩ := open_int Tryd.underlying3 (hval 2 3 v2 rfl rfl) h2
  obtain ⟨e, hS⟩ := Sim.var (k := .u8) (zs := tz) oneVar (by decide) hvar
  exact told a0 a1 a2 e (wf_u64 w0) _ W _ (.cons (.int _ _) (.cons (.int _ _) (.cons (.int _ _) (.nil _)))) hS
theorem over : Rows.ctrlLooksRow.holds Tryd.pinned (OpenSpec.ofChange Rows.ctrlLooksSpec) :=
  OpenClaim.holds_of_wide 6 Tryd.f6 rfl rfl rfl rfl rfl rfl rfl ⟨rfl, rfl, rfl, rfl, rfl⟩ rfl rfl rfl rfl rfl (by kernel_rfl) Tryd.func6 (by kernel_rfl)
    (of_decide_eq_true (by kernel_rfl)) (by unfold Func.isWrapper; first | (rw [if_pos (by decide +kernel)]; kernel_rfl) | (rw [if_neg (by decide +kernel)]; exact ⟨rfl, rfl⟩))
    (fun os started H enc _ => lifted os started H enc)
end Go.Proofs.YteafenadjidkdaaDoor.ctrlLooks
namespace Go.Proofs.YteafenadjidkdaaDoor
/-- The tied card, for the claim. -/
theorem ctrlLooks_holds : Rows.CtrlLooksCardSaid :=
  Claim7.holds_tied_plain_at .later [] [.data] true (true, "311be7784f3cdb14a14e5a869a188c3f955b6b6d19542726ab5b5a32b74a7d88") false
    ctrlLooks.over (fun _ h => by cases h) (by kernel_rfl) (fun _ h => by cases h) ctrlLooks_row_tie rfl ⟨rfl, rfl⟩ (by kernel_rfl) rfl
    (fun f fn hf hfn => by
      obtain rfl : f = 6 := Option.some.inj ((show Tryd.prog.funcNamed "sprocket/sprocketlaw12.CtrlLooks" = some 6 by kernel_rfl).symm.trans hf) |>.symm
      obtain rfl : fn = Tryd.f6 := (Option.some.inj (Tryd.func6.symm.trans hfn)).symm
      exact ⟨by kernel_rfl, fun j t ht => by
        rw [Tryd.params6] at ht
        have hm : t ∈ [22, 3, 3] := by simpa using Array.mem_of_getElem? ht
        have hall : ([22, 3, 3].all fun u => !Tryd.prog.wantsStandIn u) = true := by kernel_rfl
        exact (show Tryd.prog.wantsStandIn t = false by simpa using List.all_eq_true.1 hall t hm)⟩)
    (by kernel_rfl)
#print axioms ctrlLooks_holds
end Go.Proofs.YteafenadjidkdaaDoor
