/- SweepActs: nothing was answered, and there is no room for an answer. -/
import Derived.Test.YtomcbblcipnabaaDoorSwGrp
import Derived.WalkKit
import Derived.ProofKit
import Derived.OpenShut
import Derived.ChangeOld
import Derived.Below
import Derived.SizedLaws
namespace Go.Proofs.YtomcbblcipnabaaDoor.sweepActsV
open Go.Eng
open Go.ChangeShapes Go.WideShapes Go.ChangeAt Go.RowKit
set_option linter.unusedVariables false
set_option linter.unusedSimpArgs false
set_option maxRecDepth 100000
noncomputable def cfgW : Cfg := ⟨[31]⟩
noncomputable def fsW : List FuncId := [3, 4, 5, 7, 8, 9, 10, 17, 21, 32, 37]
theorem fitW : Fit Tryd.prog cfgW fsW := ⟨by kernel_rfl, Cfg.ok_of (by kernel_rfl), by kernel_rfl⟩
noncomputable def B : Code := bodyOf Tryd.prog 3
theorem B_is : Tryd.f3.body = some B := by kernel_rfl
theorem B_ok : okCode Tryd.prog.globals.size B = true := by kernel_rfl
noncomputable def S0 (dk : Int) (th : Int) (ths : Int) (kp : Int) (sd : Int) (pre : Nat) (e0 : TypeId) : KSt := (firstK [(.agg #[(.int .u64 dk), (.int .i64 th), (.int .i64 ths), (.int .i64 kp), (.int .u64 sd)]), (.slice (some ⟨1, pre, none⟩) 0 0)] 120 ⟨2, 1, [(0, 0, .cells [(.int .i64 1), (.int .i64 64), (.int .i64 1), (.int .i64 64)] e0 false)]⟩)
theorem C : B = .seq (codeAt [0] B) (codeAt [1] B) := by kernel_rfl
noncomputable def S1 (pre : Nat) (dk : Int) (th : Int) (ths : Int) (kp : Int) (sd : Int) (e0 : TypeId) : KSt := ⟨(frameL 120 [(1, (.slice (some ⟨1, pre, none⟩) 0 0)), (2, (.pointer (some ⟨2, 0, none⟩)))]), ⟨3, 1, [(2, 0, .cells [(.int .u64 dk), (.int .i64 th), (.int .i64 ths), (.int .i64 kp), (.int .u64 sd)] 24 true), (0, 0, .cells [(.int .i64 1), (.int .i64 64), (.int .i64 1), (.int .i64 64)] e0 false)]⟩⟩
theorem R1 (dk : Int) (th : Int) (ths : Int) (kp : Int) (sd : Int) (pre : Nat) (e0 : TypeId) : evCK Tryd.prog cfgW (runK Tryd.prog cfgW fsW (conT swDom swE) 14 40) 14 (codeAt [0] B) (S0 dk th ths kp sd pre e0) (normC 2 [1, 2]) =
  some (.normal, (S1 pre dk th ths kp sd e0)) := by kernel_rfl
theorem C1 : (codeAt [1] B) = .seq (codeAt [1, 0] B) (codeAt [1, 1] B) := by kernel_rfl
theorem C1_0 : (codeAt [1, 0] B) = .seq (codeAt [1, 0, 0] B) (codeAt [1, 0, 1] B) := by kernel_rfl
noncomputable def S2 (pre : Nat) (dk : Int) (th : Int) (ths : Int) (kp : Int) (sd : Int) (e0 : TypeId) : KSt := ⟨(frameL 120 [(1, (.slice (some ⟨1, pre, none⟩) 0 0)), (2, (.pointer (some ⟨2, 0, none⟩))), (19, (.bool false))]), ⟨3, 1, [(2, 0, .cells [(.int .u64 dk), (.int .i64 th), (.int .i64 ths), (.int .i64 kp), (.int .u64 sd)] 24 true), (0, 0, .cells [(.int .i64 1), (.int .i64 64), (.int .i64 1), (.int .i64 64)] e0 false)]⟩⟩
theorem R2 (pre : Nat) (dk : Int) (th : Int) (ths : Int) (kp : Int) (sd : Int) (e0 : TypeId) : evCK Tryd.prog cfgW (runK Tryd.prog cfgW fsW (conT swDom swE) 14 40) 14 (codeAt [1, 0, 0] B) (S1 pre dk th ths kp sd e0) (normC 2 [1, 2, 19]) =
  some (.normal, (S2 pre dk th ths kp sd e0)) := by kernel_rfl
theorem C1_0_1 : (codeAt [1, 0, 1] B) = .cond (.tmp 19) (codeAt [1, 0, 1, 0] B) (codeAt [1, 0, 1, 1] B) := by kernel_rfl
theorem R3 (pre : Nat) (dk : Int) (th : Int) (ths : Int) (kp : Int) (sd : Int) (e0 : TypeId) : evCK Tryd.prog cfgW (runK Tryd.prog cfgW fsW (conT swDom swE) 14 40) 14 (codeAt [1, 0, 1, 1] B) (S2 pre dk th ths kp sd e0) (normC 2 [1, 2]) =
  some (.normal, (S1 pre dk th ths kp sd e0)) := by kernel_rfl
theorem C1_1 : (codeAt [1, 1] B) = .seq (codeAt [1, 1, 0] B) (codeAt [1, 1, 1] B) := by kernel_rfl
noncomputable def S3 (pre : Nat) (dk : Int) (th : Int) (ths : Int) (kp : Int) (sd : Int) (e0 : TypeId) : KSt := ⟨(frameL 120 [(1, (.slice (some ⟨1, pre, none⟩) 0 0)), (2, (.pointer (some ⟨2, 0, none⟩))), (5, (.pointer (some ⟨3, 0, none⟩)))]), ⟨4, 1, [(3, 0, .cells [(.int .u64 0), (.int .i64 0), (.int .i64 0), (.int .i64 0), (.int .u64 0), (.int .i64 0), (.int .u64 0), (.int .i64 0), (.int .u64 0), (.int .i64 0), (.int .i64 0), (.int .u64 0), (.int .i64 0)] 43 true), (2, 0, .cells [(.int .u64 dk), (.int .i64 th), (.int .i64 ths), (.int .i64 kp), (.int .u64 sd)] 24 true), (0, 0, .cells [(.int .i64 1), (.int .i64 64), (.int .i64 1), (.int .i64 64)] e0 false)]⟩⟩
noncomputable def S4 (pre : Nat) (dk : Int) (th : Int) (ths : Int) (kp : Int) (sd : Int) (e0 : TypeId) : KSt := ⟨(frameL 120 [(1, (.slice (some ⟨1, pre, none⟩) 0 0)), (2, (.pointer (some ⟨2, 0, none⟩))), (5, (.pointer (some ⟨3, 0, none⟩)))]), ⟨4, 1, [(3, 0, .cells [(.int .u64 dk), (.int .i64 th), (.int .i64 ths), (.int .i64 kp), (.int .u64 sd), (.int .i64 1), (.int .u64 0), (.int .i64 0), (.int .u64 0), (.int .i64 0), (.int .i64 0), (.int .u64 0), (.int .i64 0)] 43 true), (2, 0, .cells [(.int .u64 dk), (.int .i64 th), (.int .i64 ths), (.int .i64 kp), (.int .u64 sd)] 24 true), (0, 0, .cells [(.int .i64 1), (.int .i64 64), (.int .i64 1), (.int .i64 64)] e0 false)]⟩⟩
theorem R4 (pre : Nat) (dk : Int) (th : Int) (ths : Int) (kp : Int) (sd : Int) (e0 : TypeId) : evCK Tryd.prog cfgW (runK Tryd.prog cfgW fsW (conT swDom swE) 14 40) 14 (codeAt [1, 1, 0] B) (S1 pre dk th ths kp sd e0) (normC 2 [1, 2, 5]) =
  bif (!(rightV dk th ths kp)) then
    some (.normal, (S3 pre dk th ths kp sd e0))
  else
    some (.normal, (S4 pre dk th ths kp sd e0)) := by kernel_rfl
theorem C1_1_1 : (codeAt [1, 1, 1] B) = .seq (codeAt [1, 1, 1, 0] B) (codeAt [1, 1, 1, 1] B) := by kernel_rfl
theorem C1_1_1_0 : (codeAt [1, 1, 1, 0] B) = .seq (codeAt [1, 1, 1, 0, 0] B) (codeAt [1, 1, 1, 0, 1] B) := by kernel_rfl
noncomputable def S5 (pre : Nat) (dk : Int) (th : Int) (ths : Int) (kp : Int) (sd : Int) (e0 : TypeId) : KSt := ⟨(frameL 120 [(1, (.slice (some ⟨1, pre, none⟩) 0 0)), (2, (.pointer (some ⟨2, 0, none⟩))), (5, (.pointer (some ⟨3, 0, none⟩))), (25, (.bool (!(rightRV dk th ths kp))))]), ⟨4, 1, [(3, 0, .cells [(.int .u64 0), (.int .i64 0), (.int .i64 0), (.int .i64 0), (.int .u64 0), (.int .i64 0), (.int .u64 0), (.int .i64 0), (.int .u64 0), (.int .i64 0), (.int .i64 0), (.int .u64 0), (.int .i64 0)] 43 true), (2, 0, .cells [(.int .u64 dk), (.int .i64 th), (.int .i64 ths), (.int .i64 kp), (.int .u64 sd)] 24 true), (0, 0, .cells [(.int .i64 1), (.int .i64 64), (.int .i64 1), (.int .i64 64)] e0 false)]⟩⟩
theorem R5 (pre : Nat) (dk : Int) (th : Int) (ths : Int) (kp : Int) (sd : Int) (e0 : TypeId) : evCK Tryd.prog cfgW (runK Tryd.prog cfgW fsW (conT swDom swE) 14 40) 14 (codeAt [1, 1, 1, 0, 0] B) (S3 pre dk th ths kp sd e0) (normC 2 [1, 2, 5, 25]) =
  some (.normal, (S5 pre dk th ths kp sd e0)) := by kernel_rfl
theorem C1_1_1_0_1 : (codeAt [1, 1, 1, 0, 1] B) = .cond (.tmp 25) (codeAt [1, 1, 1, 0, 1, 0] B) (codeAt [1, 1, 1, 0, 1, 1] B) := by kernel_rfl
theorem C1_1_1_0_1_0 : (codeAt [1, 1, 1, 0, 1, 0] B) = .seq (codeAt [1, 1, 1, 0, 1, 0, 0] B) (codeAt [1, 1, 1, 0, 1, 0, 1] B) := by kernel_rfl
noncomputable def S6 (e0 : TypeId) : KSt := ⟨(frameL 120 [(5, (.pointer (some ⟨2, 0, none⟩))), (7, (.bool false))]), ⟨3, 1, [(2, 0, .cells [(.int .u64 0), (.int .i64 0), (.int .i64 0), (.int .i64 0), (.int .u64 0), (.int .i64 0), (.int .u64 0), (.int .i64 0), (.int .u64 0), (.int .i64 0), (.int .i64 0), (.int .u64 0), (.int .i64 0)] 43 true), (0, 0, .cells [(.int .i64 1), (.int .i64 64), (.int .i64 1), (.int .i64 64)] e0 false)]⟩⟩
theorem R6 (pre : Nat) (dk : Int) (th : Int) (ths : Int) (kp : Int) (sd : Int) (e0 : TypeId) : evCK Tryd.prog cfgW (runK Tryd.prog cfgW fsW (conT swDom swE) 14 40) 14 (codeAt [1, 1, 1, 0, 1, 0, 0] B) (S5 pre dk th ths kp sd e0) (normC 2 [5, 7]) =
  some (.normal, (S6 e0)) := by kernel_rfl
theorem C1_1_1_0_1_0_1 : (codeAt [1, 1, 1, 0, 1, 0, 1] B) = .seq (codeAt [1, 1, 1, 0, 1, 0, 1, 0] B) (codeAt [1, 1, 1, 0, 1, 0, 1, 1] B) := by kernel_rfl
theorem R7 (e0 : TypeId) : evCK Tryd.prog cfgW (runK Tryd.prog cfgW fsW (conT swDom swE) 14 40) 14 (codeAt [1, 1, 1, 0, 1, 0, 1, 0] B) (S6 e0) (normC 2 [5, 7]) =
  some (.normal, (S6 e0)) := by kernel_rfl
theorem C1_1_1_0_1_0_1_1 : (codeAt [1, 1, 1, 0, 1, 0, 1, 1] B) = .seq (codeAt [1, 1, 1, 0, 1, 0, 1, 1, 0] B) (codeAt [1, 1, 1, 0, 1, 0, 1, 1, 1] B) := by kernel_rfl
noncomputable def S7 (e0 : TypeId) : KSt := ⟨(frameL 120 [(7, (.bool false)), (9, (.bool false))]), ⟨2, 1, [(0, 0, .cells [(.int .i64 1), (.int .i64 64), (.int .i64 1), (.int .i64 64)] e0 false)]⟩⟩
theorem R8 (e0 : TypeId) : evCK Tryd.prog cfgW (runK Tryd.prog cfgW fsW (conT swDom swE) 14 40) 14 (codeAt [1, 1, 1, 0, 1, 0, 1, 1, 0] B) (S6 e0) (normC 2 [7, 9]) =
  some (.normal, (S7 e0)) := by kernel_rfl
theorem C1_1_1_0_1_0_1_1_1 : (codeAt [1, 1, 1, 0, 1, 0, 1, 1, 1] B) = .seq (codeAt [1, 1, 1, 0, 1, 0, 1, 1, 1, 0] B) (codeAt [1, 1, 1, 0, 1, 0, 1, 1, 1, 1] B) := by kernel_rfl
noncomputable def S8 (e0 : TypeId) : KSt := ⟨(frameL 120 [(4, (.bool true))]), ⟨2, 1, [(0, 0, .cells [(.int .i64 1), (.int .i64 64), (.int .i64 1), (.int .i64 64)] e0 false)]⟩⟩
theorem R9 (e0 : TypeId) : evCK Tryd.prog cfgW (runK Tryd.prog cfgW fsW (conT swDom swE) 14 40) 14 (codeAt [1, 1, 1, 0, 1, 0, 1, 1, 1, 0] B) (S7 e0) (normC 2 [4]) =
  some (.normal, (S8 e0)) := by kernel_rfl
theorem C1_1_1_0_1_0_1_1_1_1 : (codeAt [1, 1, 1, 0, 1, 0, 1, 1, 1, 1] B) = .ret := by kernel_rfl
theorem v1 (dk th ths kp sd : Int) (pre : Nat) (e0 : TypeId) (hdk : 0 ≤ dk) (hR : rightV dk th ths kp = false)   {Q : Ex → St → Prop} (hq : Q .ret (KSt.low (S8 e0))) : Gets Tryd.prog (KH.low ⟨2, 1, [(0, 0, .cells [(.int .i64 1), (.int .i64 64), (.int .i64 1), (.int .i64 64)] e0 false)]⟩) B (KSt.low (S0 dk th ths kp sd pre e0)) Q := by
  rw [C]; refine Gets.seq ?_
  refine Gets.ofN fitW sw_sound (conT_agree _ _) 14 40 (by kernel_rfl) (x := .normal) (s' := (S1 pre dk th ths kp sd e0)) (R1 dk th ths kp sd pre e0) ?_
  show Gets _ _ (codeAt [1] B) _ _
  rw [C1]; refine Gets.seq ?_
  rw [C1_0]; refine Gets.seq ?_
  refine Gets.ofN fitW sw_sound (conT_agree _ _) 14 40 (by kernel_rfl) (x := .normal) (s' := (S2 pre dk th ths kp sd e0)) (R2 pre dk th ths kp sd e0) ?_
  show Gets _ _ (codeAt [1, 0, 1] B) _ _
  rw [C1_0_1]; refine Gets.cond false (by kernel_rfl) (show evalX (KSt.ts (S2 pre dk th ths kp sd e0)) (.tmp 19) = .bool false by kernel_rfl) ?_; show Gets _ _ (codeAt [1, 0, 1, 1] B) _ _
  refine Gets.ofN fitW sw_sound (conT_agree _ _) 14 40 (by kernel_rfl) (x := .normal) (s' := (S1 pre dk th ths kp sd e0)) (R3 pre dk th ths kp sd e0) ?_
  show Gets _ _ (codeAt [1, 1] B) _ _
  rw [C1_1]; refine Gets.seq ?_
  refine Gets.ofN fitW sw_sound (conT_agree _ _) 14 40 (by kernel_rfl) (x := .normal) (s' := (S3 pre dk th ths kp sd e0)) ((R4 pre dk th ths kp sd e0).trans (by rw [condT (not_t (hR))])) ?_
  show Gets _ _ (codeAt [1, 1, 1] B) _ _
  rw [C1_1_1]; refine Gets.seq ?_
  rw [C1_1_1_0]; refine Gets.seq ?_
  refine Gets.ofN fitW sw_sound (conT_agree _ _) 14 40 (by kernel_rfl) (x := .normal) (s' := (S5 pre dk th ths kp sd e0)) (R5 pre dk th ths kp sd e0) ?_
  show Gets _ _ (codeAt [1, 1, 1, 0, 1] B) _ _
  rw [C1_1_1_0_1]; refine Gets.cond true (by kernel_rfl) ((show evalX (KSt.ts (S5 pre dk th ths kp sd e0)) (.tmp 25) = .bool (!(rightRV dk th ths kp)) by kernel_rfl).trans (by rw [(show (!(rightRV dk th ths kp)) = true from not_t (by rw [rightRV_eq hdk]; exact hR))])) ?_; show Gets _ _ (codeAt [1, 1, 1, 0, 1, 0] B) _ _
  rw [C1_1_1_0_1_0]; refine Gets.seq ?_
  refine Gets.ofN fitW sw_sound (conT_agree _ _) 14 40 (by kernel_rfl) (x := .normal) (s' := (S6 e0)) (R6 pre dk th ths kp sd e0) ?_
  show Gets _ _ (codeAt [1, 1, 1, 0, 1, 0, 1] B) _ _
  rw [C1_1_1_0_1_0_1]; refine Gets.seq ?_
  refine Gets.ofN fitW sw_sound (conT_agree _ _) 14 40 (by kernel_rfl) (x := .normal) (s' := (S6 e0)) (R7 e0) ?_
  show Gets _ _ (codeAt [1, 1, 1, 0, 1, 0, 1, 1] B) _ _
  rw [C1_1_1_0_1_0_1_1]; refine Gets.seq ?_
  refine Gets.ofN fitW sw_sound (conT_agree _ _) 14 40 (by kernel_rfl) (x := .normal) (s' := (S7 e0)) (R8 e0) ?_
  show Gets _ _ (codeAt [1, 1, 1, 0, 1, 0, 1, 1, 1] B) _ _
  rw [C1_1_1_0_1_0_1_1_1]; refine Gets.seq ?_
  refine Gets.ofN fitW sw_sound (conT_agree _ _) 14 40 (by kernel_rfl) (x := .normal) (s' := (S8 e0)) (R9 e0) ?_
  show Gets _ _ (codeAt [1, 1, 1, 0, 1, 0, 1, 1, 1, 1] B) _ _
  rw [C1_1_1_0_1_0_1_1_1_1]; refine Gets.ev fitW.mix fitW.cfg (fitW.sound sw_sound 14 0) 14 rfl (s' := KSt.low (S8 e0)) (x := .ret) rfl ?_
  exact hq
noncomputable def S9 (pre : Nat) (dk : Int) (th : Int) (ths : Int) (kp : Int) (sd : Int) (e0 : TypeId) : KSt := ⟨(frameL 120 [(1, (.slice (some ⟨1, pre, none⟩) 0 0)), (2, (.pointer (some ⟨2, 0, none⟩))), (5, (.pointer (some ⟨3, 0, none⟩))), (25, (.bool (!(rightRV dk th ths kp))))]), ⟨4, 1, [(3, 0, .cells [(.int .u64 dk), (.int .i64 th), (.int .i64 ths), (.int .i64 kp), (.int .u64 sd), (.int .i64 1), (.int .u64 0), (.int .i64 0), (.int .u64 0), (.int .i64 0), (.int .i64 0), (.int .u64 0), (.int .i64 0)] 43 true), (2, 0, .cells [(.int .u64 dk), (.int .i64 th), (.int .i64 ths), (.int .i64 kp), (.int .u64 sd)] 24 true), (0, 0, .cells [(.int .i64 1), (.int .i64 64), (.int .i64 1), (.int .i64 64)] e0 false)]⟩⟩
theorem R10 (pre : Nat) (dk : Int) (th : Int) (ths : Int) (kp : Int) (sd : Int) (e0 : TypeId) : evCK Tryd.prog cfgW (runK Tryd.prog cfgW fsW (conT swDom swE) 14 40) 14 (codeAt [1, 1, 1, 0, 0] B) (S4 pre dk th ths kp sd e0) (normC 2 [1, 2, 5, 25]) =
  some (.normal, (S9 pre dk th ths kp sd e0)) := by kernel_rfl
theorem R11 (pre : Nat) (dk : Int) (th : Int) (ths : Int) (kp : Int) (sd : Int) (e0 : TypeId) : evCK Tryd.prog cfgW (runK Tryd.prog cfgW fsW (conT swDom swE) 14 40) 14 (codeAt [1, 1, 1, 0, 1, 1] B) (S9 pre dk th ths kp sd e0) (normC 2 [1, 2, 5]) =
  some (.normal, (S4 pre dk th ths kp sd e0)) := by kernel_rfl
theorem C1_1_1_1 : (codeAt [1, 1, 1, 1] B) = .seq (codeAt [1, 1, 1, 1, 0] B) (codeAt [1, 1, 1, 1, 1] B) := by kernel_rfl
theorem C1_1_1_1_0 : (codeAt [1, 1, 1, 1, 0] B) = .seq (codeAt [1, 1, 1, 1, 0, 0] B) (codeAt [1, 1, 1, 1, 0, 1] B) := by kernel_rfl
noncomputable def S10 (pre : Nat) (dk : Int) (th : Int) (ths : Int) (kp : Int) (sd : Int) (e0 : TypeId) : KSt := ⟨(frameL 120 [(1, (.slice (some ⟨1, pre, none⟩) 0 0)), (2, (.pointer (some ⟨2, 0, none⟩))), (5, (.pointer (some ⟨3, 0, none⟩))), (10, (.int .i64 0))]), ⟨4, 1, [(3, 0, .cells [(.int .u64 dk), (.int .i64 th), (.int .i64 ths), (.int .i64 kp), (.int .u64 sd), (.int .i64 1), (.int .u64 0), (.int .i64 0), (.int .u64 0), (.int .i64 0), (.int .i64 0), (.int .u64 0), (.int .i64 0)] 43 true), (2, 0, .cells [(.int .u64 dk), (.int .i64 th), (.int .i64 ths), (.int .i64 kp), (.int .u64 sd)] 24 true), (0, 0, .cells [(.int .i64 1), (.int .i64 64), (.int .i64 1), (.int .i64 64)] e0 false)]⟩⟩
theorem R12 (pre : Nat) (dk : Int) (th : Int) (ths : Int) (kp : Int) (sd : Int) (e0 : TypeId) : evCK Tryd.prog cfgW (runK Tryd.prog cfgW fsW (conT swDom swE) 14 40) 14 (codeAt [1, 1, 1, 1, 0, 0] B) (S4 pre dk th ths kp sd e0) (normC 2 [1, 2, 5, 10]) =
  some (.normal, (S10 pre dk th ths kp sd e0)) := by kernel_rfl
noncomputable def S11 (e0 : TypeId) : KSt := ⟨(frameL 120 []), ⟨2, 1, [(0, 0, .cells [(.int .i64 1), (.int .i64 64), (.int .i64 1), (.int .i64 64)] e0 false)]⟩⟩
theorem R13 (pre : Nat) (dk : Int) (th : Int) (ths : Int) (kp : Int) (sd : Int) (e0 : TypeId) : evCK Tryd.prog cfgW (runK Tryd.prog cfgW fsW (conT swDom swE) 14 40) 14 (codeAt [1, 1, 1, 1, 0, 1] B) (S10 pre dk th ths kp sd e0) (normC 2 []) =
  bif (!(true && ((dk == dk) && true))) then
    some (.ret, (S11 e0))
  else
    some (.normal, (S11 e0)) := by kernel_rfl
theorem C1_1_1_1_1 : (codeAt [1, 1, 1, 1, 1] B) = .seq (codeAt [1, 1, 1, 1, 1, 0] B) (codeAt [1, 1, 1, 1, 1, 1] B) := by kernel_rfl
theorem R14 (e0 : TypeId) : evCK Tryd.prog cfgW (runK Tryd.prog cfgW fsW (conT swDom swE) 14 40) 14 (codeAt [1, 1, 1, 1, 1, 0] B) (S11 e0) (normC 2 [4]) =
  some (.normal, (S8 e0)) := by kernel_rfl
theorem C1_1_1_1_1_1 : (codeAt [1, 1, 1, 1, 1, 1] B) = .ret := by kernel_rfl
theorem v2 (dk th ths kp sd : Int) (pre : Nat) (e0 : TypeId) (hdk : 0 ≤ dk) (hR : rightV dk th ths kp = true)   {Q : Ex → St → Prop} (hq : Q .ret (KSt.low (S8 e0))) : Gets Tryd.prog (KH.low ⟨2, 1, [(0, 0, .cells [(.int .i64 1), (.int .i64 64), (.int .i64 1), (.int .i64 64)] e0 false)]⟩) B (KSt.low (S0 dk th ths kp sd pre e0)) Q := by
  rw [C]; refine Gets.seq ?_
  refine Gets.ofN fitW sw_sound (conT_agree _ _) 14 40 (by kernel_rfl) (x := .normal) (s' := (S1 pre dk th ths kp sd e0)) (R1 dk th ths kp sd pre e0) ?_
  show Gets _ _ (codeAt [1] B) _ _
  rw [C1]; refine Gets.seq ?_
  rw [C1_0]; refine Gets.seq ?_
  refine Gets.ofN fitW sw_sound (conT_agree _ _) 14 40 (by kernel_rfl) (x := .normal) (s' := (S2 pre dk th ths kp sd e0)) (R2 pre dk th ths kp sd e0) ?_
  show Gets _ _ (codeAt [1, 0, 1] B) _ _
  rw [C1_0_1]; refine Gets.cond false (by kernel_rfl) (show evalX (KSt.ts (S2 pre dk th ths kp sd e0)) (.tmp 19) = .bool false by kernel_rfl) ?_; show Gets _ _ (codeAt [1, 0, 1, 1] B) _ _
  refine Gets.ofN fitW sw_sound (conT_agree _ _) 14 40 (by kernel_rfl) (x := .normal) (s' := (S1 pre dk th ths kp sd e0)) (R3 pre dk th ths kp sd e0) ?_
  show Gets _ _ (codeAt [1, 1] B) _ _
  rw [C1_1]; refine Gets.seq ?_
  refine Gets.ofN fitW sw_sound (conT_agree _ _) 14 40 (by kernel_rfl) (x := .normal) (s' := (S4 pre dk th ths kp sd e0)) ((R4 pre dk th ths kp sd e0).trans (by rw [condF (not_f (hR))])) ?_
  show Gets _ _ (codeAt [1, 1, 1] B) _ _
  rw [C1_1_1]; refine Gets.seq ?_
  rw [C1_1_1_0]; refine Gets.seq ?_
  refine Gets.ofN fitW sw_sound (conT_agree _ _) 14 40 (by kernel_rfl) (x := .normal) (s' := (S9 pre dk th ths kp sd e0)) (R10 pre dk th ths kp sd e0) ?_
  show Gets _ _ (codeAt [1, 1, 1, 0, 1] B) _ _
  rw [C1_1_1_0_1]; refine Gets.cond false (by kernel_rfl) ((show evalX (KSt.ts (S9 pre dk th ths kp sd e0)) (.tmp 25) = .bool (!(rightRV dk th ths kp)) by kernel_rfl).trans (by rw [(show (!(rightRV dk th ths kp)) = false from not_f (by rw [rightRV_eq hdk]; exact hR))])) ?_; show Gets _ _ (codeAt [1, 1, 1, 0, 1, 1] B) _ _
  refine Gets.ofN fitW sw_sound (conT_agree _ _) 14 40 (by kernel_rfl) (x := .normal) (s' := (S4 pre dk th ths kp sd e0)) (R11 pre dk th ths kp sd e0) ?_
  show Gets _ _ (codeAt [1, 1, 1, 1] B) _ _
  rw [C1_1_1_1]; refine Gets.seq ?_
  rw [C1_1_1_1_0]; refine Gets.seq ?_
  refine Gets.ofN fitW sw_sound (conT_agree _ _) 14 40 (by kernel_rfl) (x := .normal) (s' := (S10 pre dk th ths kp sd e0)) (R12 pre dk th ths kp sd e0) ?_
  show Gets _ _ (codeAt [1, 1, 1, 1, 0, 1] B) _ _
  refine Gets.ofN fitW sw_sound (conT_agree _ _) 14 40 (by kernel_rfl) (x := .normal) (s' := (S11 e0)) ((R13 pre dk th ths kp sd e0).trans (by rw [condF (not_f (and_t (rfl) (and_t (beq_self_eq_true _) (rfl))))])) ?_
  show Gets _ _ (codeAt [1, 1, 1, 1, 1] B) _ _
  rw [C1_1_1_1_1]; refine Gets.seq ?_
  refine Gets.ofN fitW sw_sound (conT_agree _ _) 14 40 (by kernel_rfl) (x := .normal) (s' := (S8 e0)) (R14 e0) ?_
  show Gets _ _ (codeAt [1, 1, 1, 1, 1, 1] B) _ _
  rw [C1_1_1_1_1_1]; refine Gets.ev fitW.mix fitW.cfg (fitW.sound sw_sound 14 0) 14 rfl (s' := KSt.low (S8 e0)) (x := .ret) rfl ?_
  exact hq
noncomputable def QE3 : Ex → St → Prop := Eng.Ends Tryd.prog Tryd.f3.results.toList fun r _ => r = .bool true
theorem qe3 {s : KSt} (h : resL Tryd.prog s.low Tryd.f3.results.toList = some [.bool true]) : QE3 .ret s.low := Ends.of h rfl
theorem toldV (dk th ths kp sd : Int) (e0 : TypeId) (hdk : 0 ≤ dk) :
    Tells Tryd.prog 3 [.agg #[.int .u64 dk, .int .i64 th, .int .i64 ths, .int .i64 kp, .int .u64 sd], .slice (some ⟨1, 0, none⟩) 0 0] (varNone .i64 [1, 64, 1, 64] e0).low (.bool true) := by
  refine Gets.tells Tryd.func3 B_is (by rw [oneVar]; exact (show (1 : Nat) ≤ 2 by decide)) rfl ?_ Ro.varNone
  show Gets Tryd.prog (KH.low ⟨2, 1, [(0, 0, .cells [(.int .i64 1), (.int .i64 64), (.int .i64 1), (.int .i64 64)] e0 false)]⟩) B (KSt.low (S0 dk th ths kp sd 0 e0)) QE3
  cases hR : rightV dk th ths kp with
  | false => exact v1 dk th ths kp sd 0 e0 hdk hR (qe3 (by kernel_rfl))
  | true => exact v2 dk th ths kp sd 0 e0 hdk hR (qe3 (by kernel_rfl))

end Go.Proofs.YtomcbblcipnabaaDoor.sweepActsV
