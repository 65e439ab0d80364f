/- Whatever the site and the cell: DeskTells answers true. -/
import Derived.Test.YtmphcolclkpnnaaDoorCards
import Derived.Test.YtmphcolclkpnnaaDoorTie
import Derived.Test.YtmphcolclkpnnaaDoorDesk
import Derived.WalkKit
import Derived.ProofKit
import Derived.OpenShut
import Derived.ChangeOld
import Derived.Below
import Derived.SizedLaws
namespace Go.Proofs.YtmphcolclkpnnaaDoor.deskTells
open Go.Eng
open Go.ChangeShapes Go.WideShapes Go.ChangeAt Go.RowKit
set_option linter.unusedVariables false
set_option linter.unusedSimpArgs false
set_option maxRecDepth 100000
noncomputable def cfgT : Cfg := ⟨[]⟩
noncomputable def fsT : List FuncId := [3, 6, 16, 23, 24]
theorem fitT : Fit Tryd.prog cfgT fsT := ⟨by kernel_rfl, Cfg.ok_of (by kernel_rfl), by kernel_rfl⟩
theorem whoN_t {cl : Int} (h : 2 ≤ cl ∧ cl ≤ 129) : ((IntKind.wrap .i64 (Int.tdiv (IntKind.wrap .i64 (cl - 2)) 2)) == (whoN cl)) = true := by
  unfold whoN
  rw [wrap_i64_id (n := cl - 2) (by omega) (by omega), Int.tdiv_eq_ediv_of_nonneg (by omega), wrap_i64_id (by omega) (by omega), if_pos h]
  exact beq_self_eq_true _
theorem whoN_f {cl : Int} (h : cl < 2 ∨ 129 < cl) : ((-1 : Int) == (whoN cl)) = true := by
  unfold whoN
  rw [if_neg (by omega)]
  rfl
theorem whoB_t {cl : Int} (h : 2 ≤ cl ∧ cl ≤ 129) : ((((Int.tmod (IntKind.wrap .i64 (cl - 2)) 2) == 1)) == (whoB cl)) = true := by
  unfold whoB
  rw [wrap_i64_id (n := cl - 2) (by omega) (by omega), Int.tmod_eq_emod_of_nonneg (by omega)]
  by_cases h3 : cl % 2 = 1
  · rw [decide_eq_true (by omega), ibeq_t (show (cl - 2) % 2 = 1 by omega)]; rfl
  · rw [decide_eq_false (by omega), ibeq_f (show (cl - 2) % 2 ≠ 1 by omega)]; rfl
theorem whoB_f {cl : Int} (h : cl < 2 ∨ 129 < cl) : (false == (whoB cl)) = true := by
  unfold whoB
  rw [decide_eq_false (by omega)]
  rfl
noncomputable def B : Code := bodyOf Tryd.prog 3
theorem B_is : Tryd.f3.body = some B := by kernel_rfl
theorem B_ok : okCode Tryd.prog.globals.size B = true := by kernel_rfl
noncomputable def S0 (a : Int) (b : Int) (c : Int) (d : Int) (g : Int) (x : Int) (cl : Int) (e : TypeId) : KSt := (firstK [(.agg #[(.int .u64 a), (.int .i64 b), (.int .i64 c), (.int .i64 d), (.int .u64 g)]), (.int .i64 x), (.int .i64 cl)] 60 ⟨1, 1, [(0, 0, .cells [(.int .i64 1), (.int .i64 64), (.int .i64 1), (.int .i64 64)] e false)]⟩)
theorem C : B = .seq (codeAt [0] B) (codeAt [1] B) := by kernel_rfl
noncomputable def S1 (x : Int) (cl : Int) (a : Int) (b : Int) (c : Int) (d : Int) (g : Int) (e : TypeId) : KSt := ⟨(frameL 60 [(1, (.int .i64 x)), (2, (.int .i64 cl)), (3, (.pointer (some ⟨1, 0, none⟩)))]), ⟨2, 1, [(1, 0, .cells [(.int .u64 a), (.int .i64 b), (.int .i64 c), (.int .i64 d), (.int .u64 g)] 24 true), (0, 0, .cells [(.int .i64 1), (.int .i64 64), (.int .i64 1), (.int .i64 64)] e false)]⟩⟩
theorem R1 (a : Int) (b : Int) (c : Int) (d : Int) (g : Int) (x : Int) (cl : Int) (e : TypeId) : evCK Tryd.prog cfgT (runK Tryd.prog cfgT fsT (conT deskDom deskE) 12 40) 12 (codeAt [0] B) (S0 a b c d g x cl e) (normC 1 [1, 2, 3]) =
  some (.normal, (S1 x cl a b c d g e)) := by kernel_rfl
theorem C1 : (codeAt [1] B) = .seq (codeAt [1, 0] B) (codeAt [1, 1] B) := by kernel_rfl
noncomputable def S2 (x : Int) (cl : Int) (a : Int) (b : Int) (c : Int) (d : Int) (g : Int) (e : TypeId) : KSt := ⟨(frameL 60 [(1, (.int .i64 x)), (2, (.int .i64 cl)), (3, (.pointer (some ⟨1, 0, none⟩))), (7, (.int .i64 (-1))), (8, (.bool false))]), ⟨2, 1, [(1, 0, .cells [(.int .u64 a), (.int .i64 b), (.int .i64 c), (.int .i64 d), (.int .u64 g)] 24 true), (0, 0, .cells [(.int .i64 1), (.int .i64 64), (.int .i64 1), (.int .i64 64)] e false)]⟩⟩
noncomputable def S3 (x : Int) (cl : Int) (a : Int) (b : Int) (c : Int) (d : Int) (g : Int) (e : TypeId) : KSt := ⟨(frameL 60 [(1, (.int .i64 x)), (2, (.int .i64 cl)), (3, (.pointer (some ⟨1, 0, none⟩))), (7, (.int .i64 (IntKind.wrap .i64 (Int.tdiv (IntKind.wrap .i64 (cl - 2)) 2)))), (8, (.bool ((Int.tmod (IntKind.wrap .i64 (cl - 2)) 2) == 1)))]), ⟨2, 1, [(1, 0, .cells [(.int .u64 a), (.int .i64 b), (.int .i64 c), (.int .i64 d), (.int .u64 g)] 24 true), (0, 0, .cells [(.int .i64 1), (.int .i64 64), (.int .i64 1), (.int .i64 64)] e false)]⟩⟩
theorem R2 (x : Int) (cl : Int) (a : Int) (b : Int) (c : Int) (d : Int) (g : Int) (e : TypeId) : evCK Tryd.prog cfgT (runK Tryd.prog cfgT fsT (conT deskDom deskE) 12 40) 12 (codeAt [1, 0] B) (S1 x cl a b c d g e) (normC 1 [1, 2, 3, 7, 8]) =
  bif (decide (cl < 2)) then
    some (.normal, (S2 x cl a b c d g e))
  else
    bif (decide ((IntKind.wrap .i64 (cl - 2)) ≥ 128)) then
      some (.normal, (S2 x cl a b c d g e))
    else
      some (.normal, (S3 x cl a b c d g e)) := by kernel_rfl
theorem C1_1 : (codeAt [1, 1] B) = .seq (codeAt [1, 1, 0] B) (codeAt [1, 1, 1] B) := by kernel_rfl
noncomputable def S4 (x : Int) (cl : Int) (a : Int) (b : Int) (c : Int) (d : Int) (g : Int) (e : TypeId) : KSt := ⟨(frameL 60 [(1, (.int .i64 x)), (3, (.pointer (some ⟨1, 0, none⟩))), (7, (.int .i64 (-1))), (8, (.bool false)), (9, (.int .i64 (whoN cl))), (10, (.bool (whoB cl)))]), ⟨2, 1, [(1, 0, .cells [(.int .u64 a), (.int .i64 b), (.int .i64 c), (.int .i64 d), (.int .u64 g)] 24 true), (0, 0, .cells [(.int .i64 1), (.int .i64 64), (.int .i64 1), (.int .i64 64)] e false)]⟩⟩
theorem R3 (x : Int) (cl : Int) (a : Int) (b : Int) (c : Int) (d : Int) (g : Int) (e : TypeId) : evCK Tryd.prog cfgT (runK Tryd.prog cfgT fsT (conT deskDom deskE) 12 40) 12 (codeAt [1, 1, 0] B) (S2 x cl a b c d g e) (normC 1 [1, 3, 7, 8, 9, 10]) =
  some (.normal, (S4 x cl a b c d g e)) := by kernel_rfl
theorem C1_1_1 : (codeAt [1, 1, 1] B) = .seq (codeAt [1, 1, 1, 0] B) (codeAt [1, 1, 1, 1] B) := by kernel_rfl
noncomputable def S5 (e : TypeId) : KSt := ⟨(frameL 60 [(6, (.bool true))]), ⟨1, 1, [(0, 0, .cells [(.int .i64 1), (.int .i64 64), (.int .i64 1), (.int .i64 64)] e false)]⟩⟩
noncomputable def S6 (e : TypeId) : KSt := ⟨(frameL 60 [(6, (.bool false))]), ⟨1, 1, [(0, 0, .cells [(.int .i64 1), (.int .i64 64), (.int .i64 1), (.int .i64 64)] e false)]⟩⟩
theorem R4 (x : Int) (cl : Int) (a : Int) (b : Int) (c : Int) (d : Int) (g : Int) (e : TypeId) : evCK Tryd.prog cfgT (runK Tryd.prog cfgT fsT (conT deskDom deskE) 12 40) 12 (codeAt [1, 1, 1, 0] B) (S4 x cl a b c d g e) (normC 1 [6]) =
  bif ((rightV a b c d) == (rightRV a b c d)) then
    bif ((deskSizeV x) == (deskSizeV x)) then
      bif ((tabCellV x) == (tabCellV x)) then
        bif ((boxCellV x) == (boxCellV x)) then
          bif ((-1) == (whoN cl)) then
            bif (false == (whoB cl)) then
              some (.normal, (S5 e))
            else
              some (.normal, (S6 e))
          else
            some (.normal, (S6 e))
        else
          some (.normal, (S6 e))
      else
        some (.normal, (S6 e))
    else
      some (.normal, (S6 e))
  else
    some (.normal, (S6 e)) := by kernel_rfl
theorem C1_1_1_1 : (codeAt [1, 1, 1, 1] B) = .ret := by kernel_rfl
theorem lo (a b c d g x cl : Int) (e : TypeId) (ha : 0 ≤ a) (hcl : -9223372036854775808 ≤ cl ∧ cl < 9223372036854775808) (hp : cl < 2)   {Q : Ex → St → Prop} (hq : Q .ret (KSt.low (S5 e))) : Gets Tryd.prog (varH .i64 [1, 64, 1, 64] e).low B (KSt.low (S0 a b c d g x cl e)) Q := by
  rw [C]; refine Gets.seq ?_
  refine Gets.ofN fitT desk_sound (conT_agree _ _) 12 40 (by kernel_rfl) (x := .normal) (s' := (S1 x cl a b c d g e)) (R1 a b c d g x cl e) ?_
  show Gets _ _ (codeAt [1] B) _ _
  rw [C1]; refine Gets.seq ?_
  refine Gets.ofN fitT desk_sound (conT_agree _ _) 12 40 (by kernel_rfl) (x := .normal) (s' := (S2 x cl a b c d g e)) ((R2 x cl a b c d g e).trans (by rw [condT (decide_eq_true (by omega))])) ?_
  show Gets _ _ (codeAt [1, 1] B) _ _
  rw [C1_1]; refine Gets.seq ?_
  refine Gets.ofN fitT desk_sound (conT_agree _ _) 12 40 (by kernel_rfl) (x := .normal) (s' := (S4 x cl a b c d g e)) (R3 x cl a b c d g e) ?_
  show Gets _ _ (codeAt [1, 1, 1] B) _ _
  rw [C1_1_1]; refine Gets.seq ?_
  refine Gets.ofN fitT desk_sound (conT_agree _ _) 12 40 (by kernel_rfl) (x := .normal) (s' := (S5 e)) ((R4 x cl a b c d g e).trans (by rw [condT (by rw [rightRV_eq ha]; exact beq_self_eq_true _), condT (beq_self_eq_true _), condT (beq_self_eq_true _), condT (beq_self_eq_true _), condT (whoN_f (by omega)), condT (whoB_f (by omega))])) ?_
  show Gets _ _ (codeAt [1, 1, 1, 1] B) _ _
  rw [C1_1_1_1]; refine Gets.ev fitT.mix fitT.cfg (fitT.sound desk_sound 12 0) 12 rfl (s' := KSt.low (S5 e)) (x := .ret) rfl ?_
  exact hq
theorem hi (a b c d g x cl : Int) (e : TypeId) (ha : 0 ≤ a) (hcl : -9223372036854775808 ≤ cl ∧ cl < 9223372036854775808) (hp : 129 < cl)   {Q : Ex → St → Prop} (hq : Q .ret (KSt.low (S5 e))) : Gets Tryd.prog (varH .i64 [1, 64, 1, 64] e).low B (KSt.low (S0 a b c d g x cl e)) Q := by
  rw [C]; refine Gets.seq ?_
  refine Gets.ofN fitT desk_sound (conT_agree _ _) 12 40 (by kernel_rfl) (x := .normal) (s' := (S1 x cl a b c d g e)) (R1 a b c d g x cl e) ?_
  show Gets _ _ (codeAt [1] B) _ _
  rw [C1]; refine Gets.seq ?_
  refine Gets.ofN fitT desk_sound (conT_agree _ _) 12 40 (by kernel_rfl) (x := .normal) (s' := (S2 x cl a b c d g e)) ((R2 x cl a b c d g e).trans (by rw [condF (decide_eq_false (by omega)), condT (decide_eq_true (by rw [wrap_i64_id (by omega) (by omega)]; omega))])) ?_
  show Gets _ _ (codeAt [1, 1] B) _ _
  rw [C1_1]; refine Gets.seq ?_
  refine Gets.ofN fitT desk_sound (conT_agree _ _) 12 40 (by kernel_rfl) (x := .normal) (s' := (S4 x cl a b c d g e)) (R3 x cl a b c d g e) ?_
  show Gets _ _ (codeAt [1, 1, 1] B) _ _
  rw [C1_1_1]; refine Gets.seq ?_
  refine Gets.ofN fitT desk_sound (conT_agree _ _) 12 40 (by kernel_rfl) (x := .normal) (s' := (S5 e)) ((R4 x cl a b c d g e).trans (by rw [condT (by rw [rightRV_eq ha]; exact beq_self_eq_true _), condT (beq_self_eq_true _), condT (beq_self_eq_true _), condT (beq_self_eq_true _), condT (whoN_f (by omega)), condT (whoB_f (by omega))])) ?_
  show Gets _ _ (codeAt [1, 1, 1, 1] B) _ _
  rw [C1_1_1_1]; refine Gets.ev fitT.mix fitT.cfg (fitT.sound desk_sound 12 0) 12 rfl (s' := KSt.low (S5 e)) (x := .ret) rfl ?_
  exact hq
noncomputable def S7 (x : Int) (cl : Int) (a : Int) (b : Int) (c : Int) (d : Int) (g : Int) (e : TypeId) : KSt := ⟨(frameL 60 [(1, (.int .i64 x)), (3, (.pointer (some ⟨1, 0, none⟩))), (7, (.int .i64 (IntKind.wrap .i64 (Int.tdiv (IntKind.wrap .i64 (cl - 2)) 2)))), (8, (.bool ((Int.tmod (IntKind.wrap .i64 (cl - 2)) 2) == 1))), (9, (.int .i64 (whoN cl))), (10, (.bool (whoB cl)))]), ⟨2, 1, [(1, 0, .cells [(.int .u64 a), (.int .i64 b), (.int .i64 c), (.int .i64 d), (.int .u64 g)] 24 true), (0, 0, .cells [(.int .i64 1), (.int .i64 64), (.int .i64 1), (.int .i64 64)] e false)]⟩⟩
theorem R5 (x : Int) (cl : Int) (a : Int) (b : Int) (c : Int) (d : Int) (g : Int) (e : TypeId) : evCK Tryd.prog cfgT (runK Tryd.prog cfgT fsT (conT deskDom deskE) 12 40) 12 (codeAt [1, 1, 0] B) (S3 x cl a b c d g e) (normC 1 [1, 3, 7, 8, 9, 10]) =
  some (.normal, (S7 x cl a b c d g e)) := by kernel_rfl
theorem R6 (x : Int) (cl : Int) (a : Int) (b : Int) (c : Int) (d : Int) (g : Int) (e : TypeId) : evCK Tryd.prog cfgT (runK Tryd.prog cfgT fsT (conT deskDom deskE) 12 40) 12 (codeAt [1, 1, 1, 0] B) (S7 x cl a b c d g e) (normC 1 [6]) =
  bif ((rightV a b c d) == (rightRV a b c d)) then
    bif ((deskSizeV x) == (deskSizeV x)) then
      bif ((tabCellV x) == (tabCellV x)) then
        bif ((boxCellV x) == (boxCellV x)) then
          bif ((IntKind.wrap .i64 (Int.tdiv (IntKind.wrap .i64 (cl - 2)) 2)) == (whoN cl)) then
            bif (((Int.tmod (IntKind.wrap .i64 (cl - 2)) 2) == 1) == (whoB cl)) then
              some (.normal, (S5 e))
            else
              some (.normal, (S6 e))
          else
            some (.normal, (S6 e))
        else
          some (.normal, (S6 e))
      else
        some (.normal, (S6 e))
    else
      some (.normal, (S6 e))
  else
    some (.normal, (S6 e)) := by kernel_rfl
theorem mid (a b c d g x cl : Int) (e : TypeId) (ha : 0 ≤ a) (hcl : -9223372036854775808 ≤ cl ∧ cl < 9223372036854775808) (hp : 2 ≤ cl) (hp2 : cl ≤ 129)   {Q : Ex → St → Prop} (hq : Q .ret (KSt.low (S5 e))) : Gets Tryd.prog (varH .i64 [1, 64, 1, 64] e).low B (KSt.low (S0 a b c d g x cl e)) Q := by
  rw [C]; refine Gets.seq ?_
  refine Gets.ofN fitT desk_sound (conT_agree _ _) 12 40 (by kernel_rfl) (x := .normal) (s' := (S1 x cl a b c d g e)) (R1 a b c d g x cl e) ?_
  show Gets _ _ (codeAt [1] B) _ _
  rw [C1]; refine Gets.seq ?_
  refine Gets.ofN fitT desk_sound (conT_agree _ _) 12 40 (by kernel_rfl) (x := .normal) (s' := (S3 x cl a b c d g e)) ((R2 x cl a b c d g e).trans (by rw [condF (decide_eq_false (by omega)), condF (decide_eq_false (by rw [wrap_i64_id (by omega) (by omega)]; omega))])) ?_
  show Gets _ _ (codeAt [1, 1] B) _ _
  rw [C1_1]; refine Gets.seq ?_
  refine Gets.ofN fitT desk_sound (conT_agree _ _) 12 40 (by kernel_rfl) (x := .normal) (s' := (S7 x cl a b c d g e)) (R5 x cl a b c d g e) ?_
  show Gets _ _ (codeAt [1, 1, 1] B) _ _
  rw [C1_1_1]; refine Gets.seq ?_
  refine Gets.ofN fitT desk_sound (conT_agree _ _) 12 40 (by kernel_rfl) (x := .normal) (s' := (S5 e)) ((R6 x cl a b c d g e).trans (by rw [condT (by rw [rightRV_eq ha]; exact beq_self_eq_true _), condT (beq_self_eq_true _), condT (beq_self_eq_true _), condT (beq_self_eq_true _), condT (whoN_t (by omega)), condT (whoB_t (by omega))])) ?_
  show Gets _ _ (codeAt [1, 1, 1, 1] B) _ _
  rw [C1_1_1_1]; refine Gets.ev fitT.mix fitT.cfg (fitT.sound desk_sound 12 0) 12 rfl (s' := KSt.low (S5 e)) (x := .ret) rfl ?_
  exact hq
noncomputable def QE : Ex → St → Prop := Eng.Ends Tryd.prog Tryd.f3.results.toList fun r _ => r = .bool true
theorem qe_true {s : KSt} (h : resL Tryd.prog s.low Tryd.f3.results.toList = some [.bool true]) : QE .ret s.low := Ends.of h rfl
theorem told (a b c d g x cl : Int) (e : TypeId) (ha : 0 ≤ a) (hcl : -9223372036854775808 ≤ cl ∧ cl < 9223372036854775808) : Tells Tryd.prog 3 [.agg #[.int .u64 a, .int .i64 b, .int .i64 c, .int .i64 d, .int .u64 g], .int .i64 x, .int .i64 cl] (varH .i64 [1, 64, 1, 64] e).low (.bool true) := by
  refine Gets.tells Tryd.func3 B_is (by rw [oneVar]; exact Nat.le_refl _) rfl ?_ Ro.varH
  show Gets Tryd.prog (varH .i64 [1, 64, 1, 64] e).low B (KSt.low (S0 a b c d g x cl e)) QE
  by_cases h1 : cl < 2
  · exact lo a b c d g x cl e ha hcl h1 (qe_true (by kernel_rfl))
  by_cases h2 : 129 < cl
  · exact hi a b c d g x cl e ha hcl h2 (qe_true (by kernel_rfl))
  exact mid a b c d g x cl e ha hcl (by omega) (by omega) (qe_true (by kernel_rfl))
theorem own : ownKnob Tryd.prog.godebug = none := by kernel_rfl
def laidV0 : List (String × DataW Unit) := laidV
/-- The door's own heap meets the condition. -/
theorem door_met (os : Os) (args : Array Value) : laidMetH Tryd.prog laidV ((World.doorLaid Tryd.prog 400 os).forCall (fun _ _ => 0) ⟨#[], args, []⟩).memory :=
  laidMetH_of_parts3 (fuel := 8) (laidMet_of_run' 8 (by kernel_rfl) (by kernel_rfl)) (by kernel_rfl) (by kernel_rfl)
theorem lifted (os : Os) (started : os.Started) (H : Type) (enc : TypeId × Value → H) :
    ReturnsInHanded {} Tryd.checked os 3 .any (fun w args => (Rows.deskTellsSpec.pre enc Tryd.prog Tryd.f3 [] false w args ∧ laidMetH Tryd.prog laidV w) ∧ sizedMet enc Tryd.prog Tryd.f3 (OpenSpec.ofChange Rows.deskTellsSpec) false w args)
      (Rows.deskTellsSpec.post enc Tryd.prog Tryd.f3 false true false false) := by
  refine returnsInHanded_of_change_and (C := Tryd.checked) (X := fun w _ => laidMetH Tryd.prog laidV w) (fun _ _ _ hh h => h.of_heap hh) own started (by kernel_rfl) Tryd.func3
    (ChangeSpec.witness_shaped (enc := enc) (C := Tryd.checked) (os := os) (X := fun w _ => laidMetH Tryd.prog laidV w) false (World.doorLaid Tryd.prog 400 os) #[.agg #[.int .u64 0, .int .i64 0, .int .i64 0, .int .i64 0, .int .u64 0], .int .i64 0, .int .i64 0] 8 rfl (World.shaped_of_RefB (by kernel_rfl) (by kernel_rfl)) (by kernel_rfl) (by kernel_rfl) (by kernel_rfl) (door_met os _)) ?_
  intro W base args ds gs before hval0 hW hcnd hsz0 hL _
  have hvar := bounds_cells hL
  have hval : ∀ (j : Nat) t v, Tryd.f3.params[j]? = some t → args[j]? = some v → Value.okWide Tryd.prog W .any base t v := hval0
  have hW' := hW
  obtain ⟨p, q, hA0, hV, rfl, hfz, hnd⟩ := hW
  have hA : DataW.TrodAll enc Tryd.prog W 0 (fun _ => true) true Tryd.f3.params.toList args.toList ds p := hA0
  rw [Tryd.params3] at hA hval
  have hS := hA
  obtain ⟨v0, vs0, d0, ds0, p0, q0, hargs, rfl, rfl, h0, r0⟩ := trodAll_cons hA
  obtain ⟨v1, vs1, d1, ds1, p1, q1, rfl, rfl, rfl, h1, r1⟩ := trodAll_cons r0
  obtain ⟨v2, vs2, d2, ds2, p2, q2, rfl, rfl, rfl, h2, r2⟩ := trodAll_cons r1
  obtain ⟨rfl, rfl, rfl⟩ := trodAll_nil r2
  obtain rfl : args = #[v0, v1, v2] := by cases args; simp_all
  obtain ⟨rfl, rfl⟩ := trodVars_none hV
  suffices hc : Calls Tryd.prog 3 #[v0, v1, v2] W fun e W' => e = .returned (.bool true) ∧ Below W.heap.size W W' by
    refine hc.mono fun e W' ⟨he, bel⟩ => ?_
    subst he
    exact ⟨_, rfl, _, _, _, [], _, [], hW', trodAll_mk1 (shut_bool Tryd.underlying4 _), trodAll_stays fineA bel (by decide +kernel) hS, rfl, bel.frame _, fun h => by cases h⟩
  clear hS hW' hfz hnd
  obtain ⟨cs0, rfl, hl0, hc0⟩ := open_agg (ts := [22, 3, 3, 3, 22]) (by kernel_rfl) (by kernel_rfl) (by kernel_rfl) (hval 0 24 v0 rfl rfl)
  obtain ⟨x0_0, cs0_0, rfl, hl0_0⟩ := list_succ hl0
  obtain ⟨x0_1, cs0_1, rfl, hl0_1⟩ := list_succ hl0_0
  obtain ⟨x0_2, cs0_2, rfl, hl0_2⟩ := list_succ hl0_1
  obtain ⟨x0_3, cs0_3, rfl, hl0_3⟩ := list_succ hl0_2
  obtain ⟨x0_4, cs0_4, rfl, hl0_4⟩ := list_succ hl0_3
  obtain rfl := list_zero hl0_4
  obtain ⟨a0_0, rfl, w0_0⟩ := cell_int (k := .u64) Tryd.underlying22 (hc0 0 _ _ rfl rfl)
  obtain ⟨a0_1, rfl, w0_1⟩ := cell_int (k := .i64) Tryd.underlying3 (hc0 1 _ _ rfl rfl)
  obtain ⟨a0_2, rfl, w0_2⟩ := cell_int (k := .i64) Tryd.underlying3 (hc0 2 _ _ rfl rfl)
  obtain ⟨a0_3, rfl, w0_3⟩ := cell_int (k := .i64) Tryd.underlying3 (hc0 3 _ _ rfl rfl)
  obtain ⟨a0_4, rfl, w0_4⟩ := cell_int (k := .u64) Tryd.underlying22 (hc0 4 _ _ rfl rfl)
  obtain ⟨a1, rfl, rfl, rfl, w1⟩ := open_int Tryd.underlying3 (hval 1 3 v1 rfl rfl) h1
  obtain ⟨a2, rfl, rfl, rfl, w2⟩ := open_int Tryd.underlying3 (hval 2 3 v2 rfl rfl) h2
  obtain ⟨e, hS⟩ := Sim.var (k := .i64) (zs := [1, 64, 1, 64]) oneVar (by decide) hvar
  exact told a0_0 a0_1 a0_2 a0_3 a0_4 a1 a2 e (has_u64 w0_0).1 (wf_i64 w2) _ W _ (.cons (.of_plain rfl) (.cons (.int _ _) (.cons (.int _ _) (.nil _)))) hS
theorem over : Rows.deskTellsRow.holds Tryd.pinned (OpenSpec.ofChange Rows.deskTellsSpec) :=
  OpenClaim.holds_of_wide 3 Tryd.f3 rfl rfl rfl rfl rfl rfl rfl ⟨rfl, rfl, rfl, rfl, rfl⟩ rfl rfl rfl rfl rfl (by kernel_rfl) Tryd.func3 (by kernel_rfl)
    (of_decide_eq_true (by kernel_rfl)) (by unfold Func.isWrapper; first | (rw [if_pos (by decide +kernel)]; kernel_rfl) | (rw [if_neg (by decide +kernel)]; exact ⟨rfl, rfl⟩))
    (fun os started H enc _ => lifted os started H enc)
end Go.Proofs.YtmphcolclkpnnaaDoor.deskTells
namespace Go.Proofs.YtmphcolclkpnnaaDoor
/-- The tied card, for the claim. -/
theorem deskTells_holds : Rows.DeskTellsCardSaid :=
  Claim7.holds_tied_plain_at .later [] [.data] true (true, "c01a75414c08449b6aa99d3e7638e21ceb0c3904ac2418fc892d36c3da479bbb") false
    deskTells.over (fun _ h => by cases h) (by kernel_rfl) (fun _ h => by cases h) deskTells_row_tie rfl ⟨rfl, rfl⟩ (by kernel_rfl) rfl
    (fun f fn hf hfn => by
      obtain rfl : f = 3 := Option.some.inj ((show Tryd.prog.funcNamed "sprocket/sprocketlaw14.DeskTells" = some 3 by kernel_rfl).symm.trans hf) |>.symm
      obtain rfl : fn = Tryd.f3 := (Option.some.inj (Tryd.func3.symm.trans hfn)).symm
      exact ⟨by kernel_rfl, fun j t ht => by
        rw [Tryd.params3] at ht
        have hm : t ∈ [24, 3, 3] := by simpa using Array.mem_of_getElem? ht
        have hall : ([24, 3, 3].all fun u => !Tryd.prog.wantsStandIn u) = true := by kernel_rfl
        exact (show Tryd.prog.wantsStandIn t = false by simpa using List.all_eq_true.1 hall t hm)⟩)
    (by kernel_rfl)
#print axioms deskTells_holds
end Go.Proofs.YtmphcolclkpnnaaDoor
