/- ShieldActs: nothing was answered, and there is no room for an answer. -/
import Derived.Test.YtmphcolclkpnnabDoorDesk
import Derived.WalkKit
import Derived.ProofKit
import Derived.OpenShut
import Derived.ChangeOld
import Derived.Below
import Derived.SizedLaws
namespace Go.Proofs.YtmphcolclkpnnabDoor.shieldActsV
open Go.Eng
open Go.ChangeShapes Go.WideShapes Go.ChangeAt Go.RowKit
set_option linter.unusedVariables false
set_option linter.unusedSimpArgs false
set_option maxRecDepth 100000
noncomputable def cfgW : Cfg := ⟨[32]⟩
noncomputable def fsW : List FuncId := [3, 4, 5, 7, 8, 9, 10, 13, 14, 17, 20, 21, 26, 27, 28]
theorem fitW : Fit Tryd.prog cfgW fsW := ⟨by kernel_rfl, Cfg.ok_of (by kernel_rfl), by kernel_rfl⟩
noncomputable def B : Code := bodyOf Tryd.prog 3
theorem B_is : Tryd.f3.body = some B := by kernel_rfl
theorem B_ok : okCode Tryd.prog.globals.size B = true := by kernel_rfl
noncomputable def S0 (dk : Int) (th : Int) (ths : Int) (kp : Int) (sd : Int) (b0 : Int) (x1 : Int) (w0 : Int) (pre : Nat) (e0 : TypeId) : KSt := (firstK [(.agg #[(.int .u64 dk), (.int .i64 th), (.int .i64 ths), (.int .i64 kp), (.int .u64 sd)]), (.agg #[(.int .u64 b0), (.int .u64 x1), (.int .u64 w0)]), (.slice (some ⟨1, pre, none⟩) 0 0)] 142 ⟨2, 1, [(0, 0, .cells [(.int .i64 1), (.int .i64 64), (.int .i64 1), (.int .i64 64)] e0 false)]⟩)
theorem C : B = .seq (codeAt [0] B) (codeAt [1] B) := by kernel_rfl
noncomputable def S1 (pre : Nat) (b0 : Int) (x1 : Int) (w0 : Int) (dk : Int) (th : Int) (ths : Int) (kp : Int) (sd : Int) (e0 : TypeId) : KSt := ⟨(frameL 142 [(2, (.slice (some ⟨1, pre, none⟩) 0 0)), (3, (.pointer (some ⟨2, 0, none⟩))), (4, (.pointer (some ⟨3, 0, none⟩)))]), ⟨4, 1, [(3, 0, .cells [(.int .u64 b0), (.int .u64 x1), (.int .u64 w0)] 25 true), (2, 0, .cells [(.int .u64 dk), (.int .i64 th), (.int .i64 ths), (.int .i64 kp), (.int .u64 sd)] 24 true), (0, 0, .cells [(.int .i64 1), (.int .i64 64), (.int .i64 1), (.int .i64 64)] e0 false)]⟩⟩
theorem R1 (dk : Int) (th : Int) (ths : Int) (kp : Int) (sd : Int) (b0 : Int) (x1 : Int) (w0 : Int) (pre : Nat) (e0 : TypeId) : evCK Tryd.prog cfgW (runK Tryd.prog cfgW fsW (conT deskDom deskE) 12 40) 12 (codeAt [0] B) (S0 dk th ths kp sd b0 x1 w0 pre e0) (normC 2 [2, 3, 4]) =
  some (.normal, (S1 pre b0 x1 w0 dk th ths kp sd e0)) := by kernel_rfl
theorem C1 : (codeAt [1] B) = .seq (codeAt [1, 0] B) (codeAt [1, 1] B) := by kernel_rfl
noncomputable def S2 (pre : Nat) (x1 : Int) (b0 : Int) (w0 : Int) (dk : Int) (th : Int) (ths : Int) (kp : Int) (sd : Int) (e0 : TypeId) : KSt := ⟨(frameL 142 [(2, (.slice (some ⟨1, pre, none⟩) 0 0)), (3, (.pointer (some ⟨2, 0, none⟩))), (4, (.pointer (some ⟨3, 0, none⟩))), (7, (.int .i64 (IntKind.wrap .i64 ((IntKind.wrap .i64 (Int.tmod x1 5000)) - 1))))]), ⟨4, 1, [(3, 0, .cells [(.int .u64 b0), (.int .u64 x1), (.int .u64 w0)] 25 true), (2, 0, .cells [(.int .u64 dk), (.int .i64 th), (.int .i64 ths), (.int .i64 kp), (.int .u64 sd)] 24 true), (0, 0, .cells [(.int .i64 1), (.int .i64 64), (.int .i64 1), (.int .i64 64)] e0 false)]⟩⟩
theorem R2 (pre : Nat) (b0 : Int) (x1 : Int) (w0 : Int) (dk : Int) (th : Int) (ths : Int) (kp : Int) (sd : Int) (e0 : TypeId) : evCK Tryd.prog cfgW (runK Tryd.prog cfgW fsW (conT deskDom deskE) 12 40) 12 (codeAt [1, 0] B) (S1 pre b0 x1 w0 dk th ths kp sd e0) (normC 2 [2, 3, 4, 7]) =
  some (.normal, (S2 pre x1 b0 w0 dk th ths kp sd e0)) := by kernel_rfl
noncomputable def S3 (pre : Nat) (cl : Int) (b0 : Int) (x1 : Int) (w0 : Int) (dk : Int) (th : Int) (ths : Int) (kp : Int) (sd : Int) (e0 : TypeId) : KSt := ⟨(frameL 142 [(2, (.slice (some ⟨1, pre, none⟩) 0 0)), (3, (.pointer (some ⟨2, 0, none⟩))), (4, (.pointer (some ⟨3, 0, none⟩))), (7, (.int .i64 cl))]), ⟨4, 1, [(3, 0, .cells [(.int .u64 b0), (.int .u64 x1), (.int .u64 w0)] 25 true), (2, 0, .cells [(.int .u64 dk), (.int .i64 th), (.int .i64 ths), (.int .i64 kp), (.int .u64 sd)] 24 true), (0, 0, .cells [(.int .i64 1), (.int .i64 64), (.int .i64 1), (.int .i64 64)] e0 false)]⟩⟩
theorem C1_1 : (codeAt [1, 1] B) = .seq (codeAt [1, 1, 0] B) (codeAt [1, 1, 1] B) := by kernel_rfl
theorem C1_1_0 : (codeAt [1, 1, 0] B) = .seq (codeAt [1, 1, 0, 0] B) (codeAt [1, 1, 0, 1] B) := by kernel_rfl
noncomputable def S4 (pre : Nat) (cl : Int) (b0 : Int) (x1 : Int) (w0 : Int) (dk : Int) (th : Int) (ths : Int) (kp : Int) (sd : Int) (e0 : TypeId) : KSt := ⟨(frameL 142 [(2, (.slice (some ⟨1, pre, none⟩) 0 0)), (3, (.pointer (some ⟨2, 0, none⟩))), (4, (.pointer (some ⟨3, 0, none⟩))), (7, (.int .i64 cl)), (27, (.bool false))]), ⟨4, 1, [(3, 0, .cells [(.int .u64 b0), (.int .u64 x1), (.int .u64 w0)] 25 true), (2, 0, .cells [(.int .u64 dk), (.int .i64 th), (.int .i64 ths), (.int .i64 kp), (.int .u64 sd)] 24 true), (0, 0, .cells [(.int .i64 1), (.int .i64 64), (.int .i64 1), (.int .i64 64)] e0 false)]⟩⟩
theorem R3 (pre : Nat) (cl : Int) (b0 : Int) (x1 : Int) (w0 : Int) (dk : Int) (th : Int) (ths : Int) (kp : Int) (sd : Int) (e0 : TypeId) : evCK Tryd.prog cfgW (runK Tryd.prog cfgW fsW (conT deskDom deskE) 12 40) 12 (codeAt [1, 1, 0, 0] B) (S3 pre cl b0 x1 w0 dk th ths kp sd e0) (normC 2 [2, 3, 4, 7, 27]) =
  some (.normal, (S4 pre cl b0 x1 w0 dk th ths kp sd e0)) := by kernel_rfl
theorem C1_1_0_1 : (codeAt [1, 1, 0, 1] B) = .cond (.tmp 27) (codeAt [1, 1, 0, 1, 0] B) (codeAt [1, 1, 0, 1, 1] B) := by kernel_rfl
theorem R4 (pre : Nat) (cl : Int) (b0 : Int) (x1 : Int) (w0 : Int) (dk : Int) (th : Int) (ths : Int) (kp : Int) (sd : Int) (e0 : TypeId) : evCK Tryd.prog cfgW (runK Tryd.prog cfgW fsW (conT deskDom deskE) 12 40) 12 (codeAt [1, 1, 0, 1, 1] B) (S4 pre cl b0 x1 w0 dk th ths kp sd e0) (normC 2 [2, 3, 4, 7]) =
  some (.normal, (S3 pre cl b0 x1 w0 dk th ths kp sd e0)) := by kernel_rfl
theorem C1_1_1 : (codeAt [1, 1, 1] B) = .seq (codeAt [1, 1, 1, 0] B) (codeAt [1, 1, 1, 1] B) := by kernel_rfl
noncomputable def S5 (pre : Nat) (cl : Int) (b0 : Int) (x1 : Int) (w0 : Int) (dk : Int) (th : Int) (ths : Int) (kp : Int) (sd : Int) (e0 : TypeId) : KSt := ⟨(frameL 142 [(2, (.slice (some ⟨1, pre, none⟩) 0 0)), (3, (.pointer (some ⟨2, 0, none⟩))), (4, (.pointer (some ⟨3, 0, none⟩))), (7, (.int .i64 cl)), (8, (.pointer (some ⟨4, 0, none⟩)))]), ⟨5, 1, [(4, 0, .cells [(.int .u64 0), (.int .i64 0), (.int .i64 0), (.int .i64 0), (.int .u64 0), (.int .u64 0), (.int .i64 0), (.int .u64 0), (.int .i64 0)] 46 true), (3, 0, .cells [(.int .u64 b0), (.int .u64 x1), (.int .u64 w0)] 25 true), (2, 0, .cells [(.int .u64 dk), (.int .i64 th), (.int .i64 ths), (.int .i64 kp), (.int .u64 sd)] 24 true), (0, 0, .cells [(.int .i64 1), (.int .i64 64), (.int .i64 1), (.int .i64 64)] e0 false)]⟩⟩
noncomputable def S6 (pre : Nat) (cl : Int) (dk : Int) (th : Int) (ths : Int) (kp : Int) (sd : Int) (b0 : Int) (w0 : Int) (x1 : Int) (e0 : TypeId) : KSt := ⟨(frameL 142 [(2, (.slice (some ⟨1, pre, none⟩) 0 0)), (3, (.pointer (some ⟨2, 0, none⟩))), (4, (.pointer (some ⟨3, 0, none⟩))), (7, (.int .i64 cl)), (8, (.pointer (some ⟨4, 0, none⟩)))]), ⟨5, 1, [(4, 0, .cells [(.int .u64 dk), (.int .i64 th), (.int .i64 ths), (.int .i64 kp), (.int .u64 sd), (.int .u64 b0), (.int .i64 cl), (.int .u64 w0), (.int .i64 3)] 46 true), (3, 0, .cells [(.int .u64 b0), (.int .u64 x1), (.int .u64 w0)] 25 true), (2, 0, .cells [(.int .u64 dk), (.int .i64 th), (.int .i64 ths), (.int .i64 kp), (.int .u64 sd)] 24 true), (0, 0, .cells [(.int .i64 1), (.int .i64 64), (.int .i64 1), (.int .i64 64)] e0 false)]⟩⟩
noncomputable def S7 (pre : Nat) (cl : Int) (dk : Int) (th : Int) (ths : Int) (kp : Int) (sd : Int) (b0 : Int) (w0 : Int) (x1 : Int) (e0 : TypeId) : KSt := ⟨(frameL 142 [(2, (.slice (some ⟨1, pre, none⟩) 0 0)), (3, (.pointer (some ⟨2, 0, none⟩))), (4, (.pointer (some ⟨3, 0, none⟩))), (7, (.int .i64 cl)), (8, (.pointer (some ⟨4, 0, none⟩)))]), ⟨5, 1, [(4, 0, .cells [(.int .u64 dk), (.int .i64 th), (.int .i64 ths), (.int .i64 kp), (.int .u64 sd), (.int .u64 b0), (.int .i64 cl), (.int .u64 w0), (.int .i64 1)] 46 true), (3, 0, .cells [(.int .u64 b0), (.int .u64 x1), (.int .u64 w0)] 25 true), (2, 0, .cells [(.int .u64 dk), (.int .i64 th), (.int .i64 ths), (.int .i64 kp), (.int .u64 sd)] 24 true), (0, 0, .cells [(.int .i64 1), (.int .i64 64), (.int .i64 1), (.int .i64 64)] e0 false)]⟩⟩
theorem R5 (pre : Nat) (cl : Int) (b0 : Int) (x1 : Int) (w0 : Int) (dk : Int) (th : Int) (ths : Int) (kp : Int) (sd : Int) (e0 : TypeId) : evCK Tryd.prog cfgW (runK Tryd.prog cfgW fsW (conT deskDom deskE) 12 40) 12 (codeAt [1, 1, 1, 0] B) (S3 pre cl b0 x1 w0 dk th ths kp sd e0) (normC 2 [2, 3, 4, 7, 8]) =
  bif (!(rightV dk th ths kp)) then
    some (.normal, (S5 pre cl b0 x1 w0 dk th ths kp sd e0))
  else
    bif (decide (cl < 0)) then
      some (.normal, (S5 pre cl b0 x1 w0 dk th ths kp sd e0))
    else
      bif (!(freshA w0)) then
        some (.normal, (S6 pre cl dk th ths kp sd b0 w0 x1 e0))
      else
        some (.normal, (S7 pre cl dk th ths kp sd b0 w0 x1 e0)) := by kernel_rfl
theorem C1_1_1_1 : (codeAt [1, 1, 1, 1] B) = .seq (codeAt [1, 1, 1, 1, 0] B) (codeAt [1, 1, 1, 1, 1] B) := by kernel_rfl
theorem C1_1_1_1_0 : (codeAt [1, 1, 1, 1, 0] B) = .seq (codeAt [1, 1, 1, 1, 0, 0] B) (codeAt [1, 1, 1, 1, 0, 1] B) := by kernel_rfl
noncomputable def S8 (pre : Nat) (cl : Int) (b0 : Int) (x1 : Int) (w0 : Int) (dk : Int) (th : Int) (ths : Int) (kp : Int) (sd : Int) (e0 : TypeId) : KSt := ⟨(frameL 142 [(2, (.slice (some ⟨1, pre, none⟩) 0 0)), (3, (.pointer (some ⟨2, 0, none⟩))), (4, (.pointer (some ⟨3, 0, none⟩))), (7, (.int .i64 cl)), (8, (.pointer (some ⟨4, 0, none⟩))), (42, (.bool true))]), ⟨5, 1, [(4, 0, .cells [(.int .u64 0), (.int .i64 0), (.int .i64 0), (.int .i64 0), (.int .u64 0), (.int .u64 0), (.int .i64 0), (.int .u64 0), (.int .i64 0)] 46 true), (3, 0, .cells [(.int .u64 b0), (.int .u64 x1), (.int .u64 w0)] 25 true), (2, 0, .cells [(.int .u64 dk), (.int .i64 th), (.int .i64 ths), (.int .i64 kp), (.int .u64 sd)] 24 true), (0, 0, .cells [(.int .i64 1), (.int .i64 64), (.int .i64 1), (.int .i64 64)] e0 false)]⟩⟩
noncomputable def S9 (pre : Nat) (cl : Int) (b0 : Int) (x1 : Int) (w0 : Int) (dk : Int) (th : Int) (ths : Int) (kp : Int) (sd : Int) (e0 : TypeId) : KSt := ⟨(frameL 142 [(2, (.slice (some ⟨1, pre, none⟩) 0 0)), (3, (.pointer (some ⟨2, 0, none⟩))), (4, (.pointer (some ⟨3, 0, none⟩))), (7, (.int .i64 cl)), (8, (.pointer (some ⟨4, 0, none⟩))), (42, (.bool (decide (cl < 0))))]), ⟨5, 1, [(4, 0, .cells [(.int .u64 0), (.int .i64 0), (.int .i64 0), (.int .i64 0), (.int .u64 0), (.int .u64 0), (.int .i64 0), (.int .u64 0), (.int .i64 0)] 46 true), (3, 0, .cells [(.int .u64 b0), (.int .u64 x1), (.int .u64 w0)] 25 true), (2, 0, .cells [(.int .u64 dk), (.int .i64 th), (.int .i64 ths), (.int .i64 kp), (.int .u64 sd)] 24 true), (0, 0, .cells [(.int .i64 1), (.int .i64 64), (.int .i64 1), (.int .i64 64)] e0 false)]⟩⟩
theorem R6 (pre : Nat) (cl : Int) (b0 : Int) (x1 : Int) (w0 : Int) (dk : Int) (th : Int) (ths : Int) (kp : Int) (sd : Int) (e0 : TypeId) : evCK Tryd.prog cfgW (runK Tryd.prog cfgW fsW (conT deskDom deskE) 12 40) 12 (codeAt [1, 1, 1, 1, 0, 0] B) (S5 pre cl b0 x1 w0 dk th ths kp sd e0) (normC 2 [2, 3, 4, 7, 8, 42]) =
  bif (!(rightRV dk th ths kp)) then
    some (.normal, (S8 pre cl b0 x1 w0 dk th ths kp sd e0))
  else
    some (.normal, (S9 pre cl b0 x1 w0 dk th ths kp sd e0)) := by kernel_rfl
theorem C1_1_1_1_0_1 : (codeAt [1, 1, 1, 1, 0, 1] B) = .cond (.tmp 42) (codeAt [1, 1, 1, 1, 0, 1, 0] B) (codeAt [1, 1, 1, 1, 0, 1, 1] B) := by kernel_rfl
theorem C1_1_1_1_0_1_0 : (codeAt [1, 1, 1, 1, 0, 1, 0] B) = .seq (codeAt [1, 1, 1, 1, 0, 1, 0, 0] B) (codeAt [1, 1, 1, 1, 0, 1, 0, 1] B) := by kernel_rfl
noncomputable def S10 (e0 : TypeId) : KSt := ⟨(frameL 142 [(8, (.pointer (some ⟨2, 0, none⟩))), (10, (.bool false))]), ⟨3, 1, [(2, 0, .cells [(.int .u64 0), (.int .i64 0), (.int .i64 0), (.int .i64 0), (.int .u64 0), (.int .u64 0), (.int .i64 0), (.int .u64 0), (.int .i64 0)] 46 true), (0, 0, .cells [(.int .i64 1), (.int .i64 64), (.int .i64 1), (.int .i64 64)] e0 false)]⟩⟩
theorem R7 (pre : Nat) (cl : Int) (b0 : Int) (x1 : Int) (w0 : Int) (dk : Int) (th : Int) (ths : Int) (kp : Int) (sd : Int) (e0 : TypeId) : evCK Tryd.prog cfgW (runK Tryd.prog cfgW fsW (conT deskDom deskE) 12 40) 12 (codeAt [1, 1, 1, 1, 0, 1, 0, 0] B) (S8 pre cl b0 x1 w0 dk th ths kp sd e0) (normC 2 [8, 10]) =
  some (.normal, (S10 e0)) := by kernel_rfl
theorem C1_1_1_1_0_1_0_1 : (codeAt [1, 1, 1, 1, 0, 1, 0, 1] B) = .seq (codeAt [1, 1, 1, 1, 0, 1, 0, 1, 0] B) (codeAt [1, 1, 1, 1, 0, 1, 0, 1, 1] B) := by kernel_rfl
theorem R8 (e0 : TypeId) : evCK Tryd.prog cfgW (runK Tryd.prog cfgW fsW (conT deskDom deskE) 12 40) 12 (codeAt [1, 1, 1, 1, 0, 1, 0, 1, 0] B) (S10 e0) (normC 2 [8, 10]) =
  some (.normal, (S10 e0)) := by kernel_rfl
theorem C1_1_1_1_0_1_0_1_1 : (codeAt [1, 1, 1, 1, 0, 1, 0, 1, 1] B) = .seq (codeAt [1, 1, 1, 1, 0, 1, 0, 1, 1, 0] B) (codeAt [1, 1, 1, 1, 0, 1, 0, 1, 1, 1] B) := by kernel_rfl
noncomputable def S11 (e0 : TypeId) : KSt := ⟨(frameL 142 [(10, (.bool false)), (12, (.bool false))]), ⟨2, 1, [(0, 0, .cells [(.int .i64 1), (.int .i64 64), (.int .i64 1), (.int .i64 64)] e0 false)]⟩⟩
theorem R9 (e0 : TypeId) : evCK Tryd.prog cfgW (runK Tryd.prog cfgW fsW (conT deskDom deskE) 12 40) 12 (codeAt [1, 1, 1, 1, 0, 1, 0, 1, 1, 0] B) (S10 e0) (normC 2 [10, 12]) =
  some (.normal, (S11 e0)) := by kernel_rfl
theorem C1_1_1_1_0_1_0_1_1_1 : (codeAt [1, 1, 1, 1, 0, 1, 0, 1, 1, 1] B) = .seq (codeAt [1, 1, 1, 1, 0, 1, 0, 1, 1, 1, 0] B) (codeAt [1, 1, 1, 1, 0, 1, 0, 1, 1, 1, 1] B) := by kernel_rfl
noncomputable def S12 (e0 : TypeId) : KSt := ⟨(frameL 142 [(6, (.bool true))]), ⟨2, 1, [(0, 0, .cells [(.int .i64 1), (.int .i64 64), (.int .i64 1), (.int .i64 64)] e0 false)]⟩⟩
theorem R10 (e0 : TypeId) : evCK Tryd.prog cfgW (runK Tryd.prog cfgW fsW (conT deskDom deskE) 12 40) 12 (codeAt [1, 1, 1, 1, 0, 1, 0, 1, 1, 1, 0] B) (S11 e0) (normC 2 [6]) =
  some (.normal, (S12 e0)) := by kernel_rfl
theorem C1_1_1_1_0_1_0_1_1_1_1 : (codeAt [1, 1, 1, 1, 0, 1, 0, 1, 1, 1, 1] B) = .ret := by kernel_rfl
theorem v1 (dk th ths kp sd b0 x1 w0 cl : Int) (pre : Nat) (e0 : TypeId) (hdk : 0 ≤ dk) (hfw : freshA w0 = freshR w0) (hbw : blockA w0 = blockR w0) (hce : (IntKind.wrap .i64 ((IntKind.wrap .i64 (Int.tmod x1 5000)) - 1)) = cl) (hR : rightV dk th ths kp = false)   {Q : Ex → St → Prop} (hq : Q .ret (KSt.low (S12 e0))) : Gets Tryd.prog (KH.low ⟨2, 1, [(0, 0, .cells [(.int .i64 1), (.int .i64 64), (.int .i64 1), (.int .i64 64)] e0 false)]⟩) B (KSt.low (S0 dk th ths kp sd b0 x1 w0 pre e0)) Q := by
  rw [C]; refine Gets.seq ?_
  refine Gets.ofN fitW desk_sound (conT_agree _ _) 12 40 (by kernel_rfl) (x := .normal) (s' := (S1 pre b0 x1 w0 dk th ths kp sd e0)) (R1 dk th ths kp sd b0 x1 w0 pre e0) ?_
  show Gets _ _ (codeAt [1] B) _ _
  rw [C1]; refine Gets.seq ?_
  refine Gets.ofN fitW desk_sound (conT_agree _ _) 12 40 (by kernel_rfl) (x := .normal) (s' := (S3 pre cl b0 x1 w0 dk th ths kp sd e0)) ((R2 pre b0 x1 w0 dk th ths kp sd e0).trans (by (show some (Ex.normal, (S2 pre x1 b0 w0 dk th ths kp sd e0)) = some (Ex.normal, (S3 pre cl b0 x1 w0 dk th ths kp sd e0)); unfold S2 S3; rw [(show (IntKind.wrap .i64 ((IntKind.wrap .i64 (Int.tmod x1 5000)) - 1)) = cl from hce)]))) ?_
  show Gets _ _ (codeAt [1, 1] B) _ _
  rw [C1_1]; refine Gets.seq ?_
  rw [C1_1_0]; refine Gets.seq ?_
  refine Gets.ofN fitW desk_sound (conT_agree _ _) 12 40 (by kernel_rfl) (x := .normal) (s' := (S4 pre cl b0 x1 w0 dk th ths kp sd e0)) (R3 pre cl b0 x1 w0 dk th ths kp sd e0) ?_
  show Gets _ _ (codeAt [1, 1, 0, 1] B) _ _
  rw [C1_1_0_1]; refine Gets.cond false (by kernel_rfl) (show evalX (KSt.ts (S4 pre cl b0 x1 w0 dk th ths kp sd e0)) (.tmp 27) = .bool false by kernel_rfl) ?_; show Gets _ _ (codeAt [1, 1, 0, 1, 1] B) _ _
  refine Gets.ofN fitW desk_sound (conT_agree _ _) 12 40 (by kernel_rfl) (x := .normal) (s' := (S3 pre cl b0 x1 w0 dk th ths kp sd e0)) (R4 pre cl b0 x1 w0 dk th ths kp sd e0) ?_
  show Gets _ _ (codeAt [1, 1, 1] B) _ _
  rw [C1_1_1]; refine Gets.seq ?_
  refine Gets.ofN fitW desk_sound (conT_agree _ _) 12 40 (by kernel_rfl) (x := .normal) (s' := (S5 pre cl b0 x1 w0 dk th ths kp sd e0)) ((R5 pre cl b0 x1 w0 dk th ths kp sd e0).trans (by rw [condT (not_t (hR))])) ?_
  show Gets _ _ (codeAt [1, 1, 1, 1] B) _ _
  rw [C1_1_1_1]; refine Gets.seq ?_
  rw [C1_1_1_1_0]; refine Gets.seq ?_
  refine Gets.ofN fitW desk_sound (conT_agree _ _) 12 40 (by kernel_rfl) (x := .normal) (s' := (S8 pre cl b0 x1 w0 dk th ths kp sd e0)) ((R6 pre cl b0 x1 w0 dk th ths kp sd e0).trans (by rw [condT (not_t (by rw [rightRV_eq hdk]; exact hR))])) ?_
  show Gets _ _ (codeAt [1, 1, 1, 1, 0, 1] B) _ _
  rw [C1_1_1_1_0_1]; refine Gets.cond true (by kernel_rfl) (show evalX (KSt.ts (S8 pre cl b0 x1 w0 dk th ths kp sd e0)) (.tmp 42) = .bool true by kernel_rfl) ?_; show Gets _ _ (codeAt [1, 1, 1, 1, 0, 1, 0] B) _ _
  rw [C1_1_1_1_0_1_0]; refine Gets.seq ?_
  refine Gets.ofN fitW desk_sound (conT_agree _ _) 12 40 (by kernel_rfl) (x := .normal) (s' := (S10 e0)) (R7 pre cl b0 x1 w0 dk th ths kp sd e0) ?_
  show Gets _ _ (codeAt [1, 1, 1, 1, 0, 1, 0, 1] B) _ _
  rw [C1_1_1_1_0_1_0_1]; refine Gets.seq ?_
  refine Gets.ofN fitW desk_sound (conT_agree _ _) 12 40 (by kernel_rfl) (x := .normal) (s' := (S10 e0)) (R8 e0) ?_
  show Gets _ _ (codeAt [1, 1, 1, 1, 0, 1, 0, 1, 1] B) _ _
  rw [C1_1_1_1_0_1_0_1_1]; refine Gets.seq ?_
  refine Gets.ofN fitW desk_sound (conT_agree _ _) 12 40 (by kernel_rfl) (x := .normal) (s' := (S11 e0)) (R9 e0) ?_
  show Gets _ _ (codeAt [1, 1, 1, 1, 0, 1, 0, 1, 1, 1] B) _ _
  rw [C1_1_1_1_0_1_0_1_1_1]; refine Gets.seq ?_
  refine Gets.ofN fitW desk_sound (conT_agree _ _) 12 40 (by kernel_rfl) (x := .normal) (s' := (S12 e0)) (R10 e0) ?_
  show Gets _ _ (codeAt [1, 1, 1, 1, 0, 1, 0, 1, 1, 1, 1] B) _ _
  rw [C1_1_1_1_0_1_0_1_1_1_1]; refine Gets.ev fitW.mix fitW.cfg (fitW.sound desk_sound 12 0) 12 rfl (s' := KSt.low (S12 e0)) (x := .ret) rfl ?_
  exact hq
theorem v2 (dk th ths kp sd b0 x1 w0 cl : Int) (pre : Nat) (e0 : TypeId) (hdk : 0 ≤ dk) (hfw : freshA w0 = freshR w0) (hbw : blockA w0 = blockR w0) (hce : (IntKind.wrap .i64 ((IntKind.wrap .i64 (Int.tmod x1 5000)) - 1)) = cl) (hR : rightV dk th ths kp = true) (hcl : cl < 0)   {Q : Ex → St → Prop} (hq : Q .ret (KSt.low (S12 e0))) : Gets Tryd.prog (KH.low ⟨2, 1, [(0, 0, .cells [(.int .i64 1), (.int .i64 64), (.int .i64 1), (.int .i64 64)] e0 false)]⟩) B (KSt.low (S0 dk th ths kp sd b0 x1 w0 pre e0)) Q := by
  rw [C]; refine Gets.seq ?_
  refine Gets.ofN fitW desk_sound (conT_agree _ _) 12 40 (by kernel_rfl) (x := .normal) (s' := (S1 pre b0 x1 w0 dk th ths kp sd e0)) (R1 dk th ths kp sd b0 x1 w0 pre e0) ?_
  show Gets _ _ (codeAt [1] B) _ _
  rw [C1]; refine Gets.seq ?_
  refine Gets.ofN fitW desk_sound (conT_agree _ _) 12 40 (by kernel_rfl) (x := .normal) (s' := (S3 pre cl b0 x1 w0 dk th ths kp sd e0)) ((R2 pre b0 x1 w0 dk th ths kp sd e0).trans (by (show some (Ex.normal, (S2 pre x1 b0 w0 dk th ths kp sd e0)) = some (Ex.normal, (S3 pre cl b0 x1 w0 dk th ths kp sd e0)); unfold S2 S3; rw [(show (IntKind.wrap .i64 ((IntKind.wrap .i64 (Int.tmod x1 5000)) - 1)) = cl from hce)]))) ?_
  show Gets _ _ (codeAt [1, 1] B) _ _
  rw [C1_1]; refine Gets.seq ?_
  rw [C1_1_0]; refine Gets.seq ?_
  refine Gets.ofN fitW desk_sound (conT_agree _ _) 12 40 (by kernel_rfl) (x := .normal) (s' := (S4 pre cl b0 x1 w0 dk th ths kp sd e0)) (R3 pre cl b0 x1 w0 dk th ths kp sd e0) ?_
  show Gets _ _ (codeAt [1, 1, 0, 1] B) _ _
  rw [C1_1_0_1]; refine Gets.cond false (by kernel_rfl) (show evalX (KSt.ts (S4 pre cl b0 x1 w0 dk th ths kp sd e0)) (.tmp 27) = .bool false by kernel_rfl) ?_; show Gets _ _ (codeAt [1, 1, 0, 1, 1] B) _ _
  refine Gets.ofN fitW desk_sound (conT_agree _ _) 12 40 (by kernel_rfl) (x := .normal) (s' := (S3 pre cl b0 x1 w0 dk th ths kp sd e0)) (R4 pre cl b0 x1 w0 dk th ths kp sd e0) ?_
  show Gets _ _ (codeAt [1, 1, 1] B) _ _
  rw [C1_1_1]; refine Gets.seq ?_
  refine Gets.ofN fitW desk_sound (conT_agree _ _) 12 40 (by kernel_rfl) (x := .normal) (s' := (S5 pre cl b0 x1 w0 dk th ths kp sd e0)) ((R5 pre cl b0 x1 w0 dk th ths kp sd e0).trans (by rw [condF (not_f (hR)), condT (decide_eq_true (by omega))])) ?_
  show Gets _ _ (codeAt [1, 1, 1, 1] B) _ _
  rw [C1_1_1_1]; refine Gets.seq ?_
  rw [C1_1_1_1_0]; refine Gets.seq ?_
  refine Gets.ofN fitW desk_sound (conT_agree _ _) 12 40 (by kernel_rfl) (x := .normal) (s' := (S8 pre cl b0 x1 w0 dk th ths kp sd e0)) ((R6 pre cl b0 x1 w0 dk th ths kp sd e0).trans (by rw [condF (not_f (by rw [rightRV_eq hdk]; exact hR))] <;> (show some (Ex.normal, (S9 pre cl b0 x1 w0 dk th ths kp sd e0)) = some (Ex.normal, (S8 pre cl b0 x1 w0 dk th ths kp sd e0)); unfold S9 S8; rw [(show (decide (cl < 0)) = true from decide_eq_true (by omega))]))) ?_
  show Gets _ _ (codeAt [1, 1, 1, 1, 0, 1] B) _ _
  rw [C1_1_1_1_0_1]; refine Gets.cond true (by kernel_rfl) (show evalX (KSt.ts (S8 pre cl b0 x1 w0 dk th ths kp sd e0)) (.tmp 42) = .bool true by kernel_rfl) ?_; show Gets _ _ (codeAt [1, 1, 1, 1, 0, 1, 0] B) _ _
  rw [C1_1_1_1_0_1_0]; refine Gets.seq ?_
  refine Gets.ofN fitW desk_sound (conT_agree _ _) 12 40 (by kernel_rfl) (x := .normal) (s' := (S10 e0)) (R7 pre cl b0 x1 w0 dk th ths kp sd e0) ?_
  show Gets _ _ (codeAt [1, 1, 1, 1, 0, 1, 0, 1] B) _ _
  rw [C1_1_1_1_0_1_0_1]; refine Gets.seq ?_
  refine Gets.ofN fitW desk_sound (conT_agree _ _) 12 40 (by kernel_rfl) (x := .normal) (s' := (S10 e0)) (R8 e0) ?_
  show Gets _ _ (codeAt [1, 1, 1, 1, 0, 1, 0, 1, 1] B) _ _
  rw [C1_1_1_1_0_1_0_1_1]; refine Gets.seq ?_
  refine Gets.ofN fitW desk_sound (conT_agree _ _) 12 40 (by kernel_rfl) (x := .normal) (s' := (S11 e0)) (R9 e0) ?_
  show Gets _ _ (codeAt [1, 1, 1, 1, 0, 1, 0, 1, 1, 1] B) _ _
  rw [C1_1_1_1_0_1_0_1_1_1]; refine Gets.seq ?_
  refine Gets.ofN fitW desk_sound (conT_agree _ _) 12 40 (by kernel_rfl) (x := .normal) (s' := (S12 e0)) (R10 e0) ?_
  show Gets _ _ (codeAt [1, 1, 1, 1, 0, 1, 0, 1, 1, 1, 1] B) _ _
  rw [C1_1_1_1_0_1_0_1_1_1_1]; refine Gets.ev fitW.mix fitW.cfg (fitW.sound desk_sound 12 0) 12 rfl (s' := KSt.low (S12 e0)) (x := .ret) rfl ?_
  exact hq
noncomputable def S13 (pre : Nat) (cl : Int) (dk : Int) (th : Int) (ths : Int) (kp : Int) (sd : Int) (b0 : Int) (w0 : Int) (x1 : Int) (e0 : TypeId) : KSt := ⟨(frameL 142 [(2, (.slice (some ⟨1, pre, none⟩) 0 0)), (3, (.pointer (some ⟨2, 0, none⟩))), (4, (.pointer (some ⟨3, 0, none⟩))), (7, (.int .i64 cl)), (8, (.pointer (some ⟨4, 0, none⟩))), (42, (.bool true))]), ⟨5, 1, [(4, 0, .cells [(.int .u64 dk), (.int .i64 th), (.int .i64 ths), (.int .i64 kp), (.int .u64 sd), (.int .u64 b0), (.int .i64 cl), (.int .u64 w0), (.int .i64 1)] 46 true), (3, 0, .cells [(.int .u64 b0), (.int .u64 x1), (.int .u64 w0)] 25 true), (2, 0, .cells [(.int .u64 dk), (.int .i64 th), (.int .i64 ths), (.int .i64 kp), (.int .u64 sd)] 24 true), (0, 0, .cells [(.int .i64 1), (.int .i64 64), (.int .i64 1), (.int .i64 64)] e0 false)]⟩⟩
noncomputable def S14 (pre : Nat) (cl : Int) (dk : Int) (th : Int) (ths : Int) (kp : Int) (sd : Int) (b0 : Int) (w0 : Int) (x1 : Int) (e0 : TypeId) : KSt := ⟨(frameL 142 [(2, (.slice (some ⟨1, pre, none⟩) 0 0)), (3, (.pointer (some ⟨2, 0, none⟩))), (4, (.pointer (some ⟨3, 0, none⟩))), (7, (.int .i64 cl)), (8, (.pointer (some ⟨4, 0, none⟩))), (42, (.bool (decide (cl < 0))))]), ⟨5, 1, [(4, 0, .cells [(.int .u64 dk), (.int .i64 th), (.int .i64 ths), (.int .i64 kp), (.int .u64 sd), (.int .u64 b0), (.int .i64 cl), (.int .u64 w0), (.int .i64 1)] 46 true), (3, 0, .cells [(.int .u64 b0), (.int .u64 x1), (.int .u64 w0)] 25 true), (2, 0, .cells [(.int .u64 dk), (.int .i64 th), (.int .i64 ths), (.int .i64 kp), (.int .u64 sd)] 24 true), (0, 0, .cells [(.int .i64 1), (.int .i64 64), (.int .i64 1), (.int .i64 64)] e0 false)]⟩⟩
theorem R11 (pre : Nat) (cl : Int) (dk : Int) (th : Int) (ths : Int) (kp : Int) (sd : Int) (b0 : Int) (w0 : Int) (x1 : Int) (e0 : TypeId) : evCK Tryd.prog cfgW (runK Tryd.prog cfgW fsW (conT deskDom deskE) 12 40) 12 (codeAt [1, 1, 1, 1, 0, 0] B) (S7 pre cl dk th ths kp sd b0 w0 x1 e0) (normC 2 [2, 3, 4, 7, 8, 42]) =
  bif (!(rightRV dk th ths kp)) then
    some (.normal, (S13 pre cl dk th ths kp sd b0 w0 x1 e0))
  else
    some (.normal, (S14 pre cl dk th ths kp sd b0 w0 x1 e0)) := by kernel_rfl
noncomputable def S15 (pre : Nat) (cl : Int) (dk : Int) (th : Int) (ths : Int) (kp : Int) (sd : Int) (b0 : Int) (w0 : Int) (x1 : Int) (e0 : TypeId) : KSt := ⟨(frameL 142 [(2, (.slice (some ⟨1, pre, none⟩) 0 0)), (3, (.pointer (some ⟨2, 0, none⟩))), (4, (.pointer (some ⟨3, 0, none⟩))), (7, (.int .i64 cl)), (8, (.pointer (some ⟨4, 0, none⟩))), (42, (.bool false))]), ⟨5, 1, [(4, 0, .cells [(.int .u64 dk), (.int .i64 th), (.int .i64 ths), (.int .i64 kp), (.int .u64 sd), (.int .u64 b0), (.int .i64 cl), (.int .u64 w0), (.int .i64 1)] 46 true), (3, 0, .cells [(.int .u64 b0), (.int .u64 x1), (.int .u64 w0)] 25 true), (2, 0, .cells [(.int .u64 dk), (.int .i64 th), (.int .i64 ths), (.int .i64 kp), (.int .u64 sd)] 24 true), (0, 0, .cells [(.int .i64 1), (.int .i64 64), (.int .i64 1), (.int .i64 64)] e0 false)]⟩⟩
theorem R12 (pre : Nat) (cl : Int) (dk : Int) (th : Int) (ths : Int) (kp : Int) (sd : Int) (b0 : Int) (w0 : Int) (x1 : Int) (e0 : TypeId) : evCK Tryd.prog cfgW (runK Tryd.prog cfgW fsW (conT deskDom deskE) 12 40) 12 (codeAt [1, 1, 1, 1, 0, 1, 1] B) (S15 pre cl dk th ths kp sd b0 w0 x1 e0) (normC 2 [2, 3, 4, 7, 8]) =
  some (.normal, (S7 pre cl dk th ths kp sd b0 w0 x1 e0)) := by kernel_rfl
theorem C1_1_1_1_1 : (codeAt [1, 1, 1, 1, 1] B) = .seq (codeAt [1, 1, 1, 1, 1, 0] B) (codeAt [1, 1, 1, 1, 1, 1] B) := by kernel_rfl
theorem C1_1_1_1_1_0 : (codeAt [1, 1, 1, 1, 1, 0] B) = .seq (codeAt [1, 1, 1, 1, 1, 0, 0] B) (codeAt [1, 1, 1, 1, 1, 0, 1] B) := by kernel_rfl
noncomputable def S16 (pre : Nat) (cl : Int) (dk : Int) (th : Int) (ths : Int) (kp : Int) (sd : Int) (b0 : Int) (w0 : Int) (x1 : Int) (e0 : TypeId) : KSt := ⟨(frameL 142 [(2, (.slice (some ⟨1, pre, none⟩) 0 0)), (3, (.pointer (some ⟨2, 0, none⟩))), (4, (.pointer (some ⟨3, 0, none⟩))), (7, (.int .i64 cl)), (8, (.pointer (some ⟨4, 0, none⟩))), (13, (.int .i64 0))]), ⟨5, 1, [(4, 0, .cells [(.int .u64 dk), (.int .i64 th), (.int .i64 ths), (.int .i64 kp), (.int .u64 sd), (.int .u64 b0), (.int .i64 cl), (.int .u64 w0), (.int .i64 1)] 46 true), (3, 0, .cells [(.int .u64 b0), (.int .u64 x1), (.int .u64 w0)] 25 true), (2, 0, .cells [(.int .u64 dk), (.int .i64 th), (.int .i64 ths), (.int .i64 kp), (.int .u64 sd)] 24 true), (0, 0, .cells [(.int .i64 1), (.int .i64 64), (.int .i64 1), (.int .i64 64)] e0 false)]⟩⟩
theorem R13 (pre : Nat) (cl : Int) (dk : Int) (th : Int) (ths : Int) (kp : Int) (sd : Int) (b0 : Int) (w0 : Int) (x1 : Int) (e0 : TypeId) : evCK Tryd.prog cfgW (runK Tryd.prog cfgW fsW (conT deskDom deskE) 12 40) 12 (codeAt [1, 1, 1, 1, 1, 0, 0] B) (S7 pre cl dk th ths kp sd b0 w0 x1 e0) (normC 2 [2, 3, 4, 7, 8, 13]) =
  some (.normal, (S16 pre cl dk th ths kp sd b0 w0 x1 e0)) := by kernel_rfl
noncomputable def S17 (e0 : TypeId) : KSt := ⟨(frameL 142 []), ⟨2, 1, [(0, 0, .cells [(.int .i64 1), (.int .i64 64), (.int .i64 1), (.int .i64 64)] e0 false)]⟩⟩
theorem R14 (pre : Nat) (cl : Int) (dk : Int) (th : Int) (ths : Int) (kp : Int) (sd : Int) (b0 : Int) (w0 : Int) (x1 : Int) (e0 : TypeId) : evCK Tryd.prog cfgW (runK Tryd.prog cfgW fsW (conT deskDom deskE) 12 40) 12 (codeAt [1, 1, 1, 1, 1, 0, 1] B) (S16 pre cl dk th ths kp sd b0 w0 x1 e0) (normC 2 []) =
  bif (freshR w0) then
    bif (0 == (blockR w0)) then
      bif (!(true && ((dk == dk) && (((boxCellV th) == (boxCellV th)) && (true && (((blockA w0) == (blockR w0)) && true)))))) then
        some (.ret, (S17 e0))
      else
        some (.normal, (S17 e0))
    else
      bif (!(true && ((dk == dk) && (((boxCellV th) == (boxCellV th)) && (true && (((blockA w0) == (blockR w0)) && true)))))) then
        some (.ret, (S17 e0))
      else
        some (.normal, (S17 e0))
  else
    some (.ret, (S17 e0)) := by kernel_rfl
theorem C1_1_1_1_1_1 : (codeAt [1, 1, 1, 1, 1, 1] B) = .seq (codeAt [1, 1, 1, 1, 1, 1, 0] B) (codeAt [1, 1, 1, 1, 1, 1, 1] B) := by kernel_rfl
theorem R15 (e0 : TypeId) : evCK Tryd.prog cfgW (runK Tryd.prog cfgW fsW (conT deskDom deskE) 12 40) 12 (codeAt [1, 1, 1, 1, 1, 1, 0] B) (S17 e0) (normC 2 [6]) =
  some (.normal, (S12 e0)) := by kernel_rfl
theorem C1_1_1_1_1_1_1 : (codeAt [1, 1, 1, 1, 1, 1, 1] B) = .ret := by kernel_rfl
theorem v3 (dk th ths kp sd b0 x1 w0 cl : Int) (pre : Nat) (e0 : TypeId) (hdk : 0 ≤ dk) (hfw : freshA w0 = freshR w0) (hbw : blockA w0 = blockR w0) (hce : (IntKind.wrap .i64 ((IntKind.wrap .i64 (Int.tmod x1 5000)) - 1)) = cl) (hR : rightV dk th ths kp = true) (hcl : 0 ≤ cl) (hF : freshA w0 = true) (hb0 : blockR w0 ≠ 0)   {Q : Ex → St → Prop} (hq : Q .ret (KSt.low (S12 e0))) : Gets Tryd.prog (KH.low ⟨2, 1, [(0, 0, .cells [(.int .i64 1), (.int .i64 64), (.int .i64 1), (.int .i64 64)] e0 false)]⟩) B (KSt.low (S0 dk th ths kp sd b0 x1 w0 pre e0)) Q := by
  rw [C]; refine Gets.seq ?_
  refine Gets.ofN fitW desk_sound (conT_agree _ _) 12 40 (by kernel_rfl) (x := .normal) (s' := (S1 pre b0 x1 w0 dk th ths kp sd e0)) (R1 dk th ths kp sd b0 x1 w0 pre e0) ?_
  show Gets _ _ (codeAt [1] B) _ _
  rw [C1]; refine Gets.seq ?_
  refine Gets.ofN fitW desk_sound (conT_agree _ _) 12 40 (by kernel_rfl) (x := .normal) (s' := (S3 pre cl b0 x1 w0 dk th ths kp sd e0)) ((R2 pre b0 x1 w0 dk th ths kp sd e0).trans (by (show some (Ex.normal, (S2 pre x1 b0 w0 dk th ths kp sd e0)) = some (Ex.normal, (S3 pre cl b0 x1 w0 dk th ths kp sd e0)); unfold S2 S3; rw [(show (IntKind.wrap .i64 ((IntKind.wrap .i64 (Int.tmod x1 5000)) - 1)) = cl from hce)]))) ?_
  show Gets _ _ (codeAt [1, 1] B) _ _
  rw [C1_1]; refine Gets.seq ?_
  rw [C1_1_0]; refine Gets.seq ?_
  refine Gets.ofN fitW desk_sound (conT_agree _ _) 12 40 (by kernel_rfl) (x := .normal) (s' := (S4 pre cl b0 x1 w0 dk th ths kp sd e0)) (R3 pre cl b0 x1 w0 dk th ths kp sd e0) ?_
  show Gets _ _ (codeAt [1, 1, 0, 1] B) _ _
  rw [C1_1_0_1]; refine Gets.cond false (by kernel_rfl) (show evalX (KSt.ts (S4 pre cl b0 x1 w0 dk th ths kp sd e0)) (.tmp 27) = .bool false by kernel_rfl) ?_; show Gets _ _ (codeAt [1, 1, 0, 1, 1] B) _ _
  refine Gets.ofN fitW desk_sound (conT_agree _ _) 12 40 (by kernel_rfl) (x := .normal) (s' := (S3 pre cl b0 x1 w0 dk th ths kp sd e0)) (R4 pre cl b0 x1 w0 dk th ths kp sd e0) ?_
  show Gets _ _ (codeAt [1, 1, 1] B) _ _
  rw [C1_1_1]; refine Gets.seq ?_
  refine Gets.ofN fitW desk_sound (conT_agree _ _) 12 40 (by kernel_rfl) (x := .normal) (s' := (S7 pre cl dk th ths kp sd b0 w0 x1 e0)) ((R5 pre cl b0 x1 w0 dk th ths kp sd e0).trans (by rw [condF (not_f (hR)), condF (decide_eq_false (by omega)), condF (not_f (hF))])) ?_
  show Gets _ _ (codeAt [1, 1, 1, 1] B) _ _
  rw [C1_1_1_1]; refine Gets.seq ?_
  rw [C1_1_1_1_0]; refine Gets.seq ?_
  refine Gets.ofN fitW desk_sound (conT_agree _ _) 12 40 (by kernel_rfl) (x := .normal) (s' := (S15 pre cl dk th ths kp sd b0 w0 x1 e0)) ((R11 pre cl dk th ths kp sd b0 w0 x1 e0).trans (by rw [condF (not_f (by rw [rightRV_eq hdk]; exact hR))] <;> (show some (Ex.normal, (S14 pre cl dk th ths kp sd b0 w0 x1 e0)) = some (Ex.normal, (S15 pre cl dk th ths kp sd b0 w0 x1 e0)); unfold S14 S15; rw [(show (decide (cl < 0)) = false from decide_eq_false (by omega))]))) ?_
  show Gets _ _ (codeAt [1, 1, 1, 1, 0, 1] B) _ _
  rw [C1_1_1_1_0_1]; refine Gets.cond false (by kernel_rfl) (show evalX (KSt.ts (S15 pre cl dk th ths kp sd b0 w0 x1 e0)) (.tmp 42) = .bool false by kernel_rfl) ?_; show Gets _ _ (codeAt [1, 1, 1, 1, 0, 1, 1] B) _ _
  refine Gets.ofN fitW desk_sound (conT_agree _ _) 12 40 (by kernel_rfl) (x := .normal) (s' := (S7 pre cl dk th ths kp sd b0 w0 x1 e0)) (R12 pre cl dk th ths kp sd b0 w0 x1 e0) ?_
  show Gets _ _ (codeAt [1, 1, 1, 1, 1] B) _ _
  rw [C1_1_1_1_1]; refine Gets.seq ?_
  rw [C1_1_1_1_1_0]; refine Gets.seq ?_
  refine Gets.ofN fitW desk_sound (conT_agree _ _) 12 40 (by kernel_rfl) (x := .normal) (s' := (S16 pre cl dk th ths kp sd b0 w0 x1 e0)) (R13 pre cl dk th ths kp sd b0 w0 x1 e0) ?_
  show Gets _ _ (codeAt [1, 1, 1, 1, 1, 0, 1] B) _ _
  refine Gets.ofN fitW desk_sound (conT_agree _ _) 12 40 (by kernel_rfl) (x := .normal) (s' := (S17 e0)) ((R14 pre cl dk th ths kp sd b0 w0 x1 e0).trans (by rw [condT (by rw [← hfw]; exact hF), condF (ibeq_f (by omega)), condF (not_f (and_t (rfl) (and_t (beq_self_eq_true _) (and_t (beq_self_eq_true _) (and_t (rfl) (and_t (by rw [hbw]; exact beq_self_eq_true _) (rfl)))))))])) ?_
  show Gets _ _ (codeAt [1, 1, 1, 1, 1, 1] B) _ _
  rw [C1_1_1_1_1_1]; refine Gets.seq ?_
  refine Gets.ofN fitW desk_sound (conT_agree _ _) 12 40 (by kernel_rfl) (x := .normal) (s' := (S12 e0)) (R15 e0) ?_
  show Gets _ _ (codeAt [1, 1, 1, 1, 1, 1, 1] B) _ _
  rw [C1_1_1_1_1_1_1]; refine Gets.ev fitW.mix fitW.cfg (fitW.sound desk_sound 12 0) 12 rfl (s' := KSt.low (S12 e0)) (x := .ret) rfl ?_
  exact hq
noncomputable def S18 (pre : Nat) (cl : Int) (dk : Int) (th : Int) (ths : Int) (kp : Int) (sd : Int) (b0 : Int) (w0 : Int) (x1 : Int) (e0 : TypeId) : KSt := ⟨(frameL 142 [(2, (.slice (some ⟨1, pre, none⟩) 0 0)), (3, (.pointer (some ⟨2, 0, none⟩))), (4, (.pointer (some ⟨3, 0, none⟩))), (7, (.int .i64 cl)), (8, (.pointer (some ⟨4, 0, none⟩))), (42, (.bool true))]), ⟨5, 1, [(4, 0, .cells [(.int .u64 dk), (.int .i64 th), (.int .i64 ths), (.int .i64 kp), (.int .u64 sd), (.int .u64 b0), (.int .i64 cl), (.int .u64 w0), (.int .i64 3)] 46 true), (3, 0, .cells [(.int .u64 b0), (.int .u64 x1), (.int .u64 w0)] 25 true), (2, 0, .cells [(.int .u64 dk), (.int .i64 th), (.int .i64 ths), (.int .i64 kp), (.int .u64 sd)] 24 true), (0, 0, .cells [(.int .i64 1), (.int .i64 64), (.int .i64 1), (.int .i64 64)] e0 false)]⟩⟩
noncomputable def S19 (pre : Nat) (cl : Int) (dk : Int) (th : Int) (ths : Int) (kp : Int) (sd : Int) (b0 : Int) (w0 : Int) (x1 : Int) (e0 : TypeId) : KSt := ⟨(frameL 142 [(2, (.slice (some ⟨1, pre, none⟩) 0 0)), (3, (.pointer (some ⟨2, 0, none⟩))), (4, (.pointer (some ⟨3, 0, none⟩))), (7, (.int .i64 cl)), (8, (.pointer (some ⟨4, 0, none⟩))), (42, (.bool (decide (cl < 0))))]), ⟨5, 1, [(4, 0, .cells [(.int .u64 dk), (.int .i64 th), (.int .i64 ths), (.int .i64 kp), (.int .u64 sd), (.int .u64 b0), (.int .i64 cl), (.int .u64 w0), (.int .i64 3)] 46 true), (3, 0, .cells [(.int .u64 b0), (.int .u64 x1), (.int .u64 w0)] 25 true), (2, 0, .cells [(.int .u64 dk), (.int .i64 th), (.int .i64 ths), (.int .i64 kp), (.int .u64 sd)] 24 true), (0, 0, .cells [(.int .i64 1), (.int .i64 64), (.int .i64 1), (.int .i64 64)] e0 false)]⟩⟩
theorem R16 (pre : Nat) (cl : Int) (dk : Int) (th : Int) (ths : Int) (kp : Int) (sd : Int) (b0 : Int) (w0 : Int) (x1 : Int) (e0 : TypeId) : evCK Tryd.prog cfgW (runK Tryd.prog cfgW fsW (conT deskDom deskE) 12 40) 12 (codeAt [1, 1, 1, 1, 0, 0] B) (S6 pre cl dk th ths kp sd b0 w0 x1 e0) (normC 2 [2, 3, 4, 7, 8, 42]) =
  bif (!(rightRV dk th ths kp)) then
    some (.normal, (S18 pre cl dk th ths kp sd b0 w0 x1 e0))
  else
    some (.normal, (S19 pre cl dk th ths kp sd b0 w0 x1 e0)) := by kernel_rfl
noncomputable def S20 (pre : Nat) (cl : Int) (dk : Int) (th : Int) (ths : Int) (kp : Int) (sd : Int) (b0 : Int) (w0 : Int) (x1 : Int) (e0 : TypeId) : KSt := ⟨(frameL 142 [(2, (.slice (some ⟨1, pre, none⟩) 0 0)), (3, (.pointer (some ⟨2, 0, none⟩))), (4, (.pointer (some ⟨3, 0, none⟩))), (7, (.int .i64 cl)), (8, (.pointer (some ⟨4, 0, none⟩))), (42, (.bool false))]), ⟨5, 1, [(4, 0, .cells [(.int .u64 dk), (.int .i64 th), (.int .i64 ths), (.int .i64 kp), (.int .u64 sd), (.int .u64 b0), (.int .i64 cl), (.int .u64 w0), (.int .i64 3)] 46 true), (3, 0, .cells [(.int .u64 b0), (.int .u64 x1), (.int .u64 w0)] 25 true), (2, 0, .cells [(.int .u64 dk), (.int .i64 th), (.int .i64 ths), (.int .i64 kp), (.int .u64 sd)] 24 true), (0, 0, .cells [(.int .i64 1), (.int .i64 64), (.int .i64 1), (.int .i64 64)] e0 false)]⟩⟩
theorem R17 (pre : Nat) (cl : Int) (dk : Int) (th : Int) (ths : Int) (kp : Int) (sd : Int) (b0 : Int) (w0 : Int) (x1 : Int) (e0 : TypeId) : evCK Tryd.prog cfgW (runK Tryd.prog cfgW fsW (conT deskDom deskE) 12 40) 12 (codeAt [1, 1, 1, 1, 0, 1, 1] B) (S20 pre cl dk th ths kp sd b0 w0 x1 e0) (normC 2 [2, 3, 4, 7, 8]) =
  some (.normal, (S6 pre cl dk th ths kp sd b0 w0 x1 e0)) := by kernel_rfl
noncomputable def S21 (pre : Nat) (cl : Int) (dk : Int) (th : Int) (ths : Int) (kp : Int) (sd : Int) (b0 : Int) (w0 : Int) (x1 : Int) (e0 : TypeId) : KSt := ⟨(frameL 142 [(2, (.slice (some ⟨1, pre, none⟩) 0 0)), (3, (.pointer (some ⟨2, 0, none⟩))), (4, (.pointer (some ⟨3, 0, none⟩))), (7, (.int .i64 cl)), (8, (.pointer (some ⟨4, 0, none⟩))), (13, (.int .i64 0))]), ⟨5, 1, [(4, 0, .cells [(.int .u64 dk), (.int .i64 th), (.int .i64 ths), (.int .i64 kp), (.int .u64 sd), (.int .u64 b0), (.int .i64 cl), (.int .u64 w0), (.int .i64 3)] 46 true), (3, 0, .cells [(.int .u64 b0), (.int .u64 x1), (.int .u64 w0)] 25 true), (2, 0, .cells [(.int .u64 dk), (.int .i64 th), (.int .i64 ths), (.int .i64 kp), (.int .u64 sd)] 24 true), (0, 0, .cells [(.int .i64 1), (.int .i64 64), (.int .i64 1), (.int .i64 64)] e0 false)]⟩⟩
theorem R18 (pre : Nat) (cl : Int) (dk : Int) (th : Int) (ths : Int) (kp : Int) (sd : Int) (b0 : Int) (w0 : Int) (x1 : Int) (e0 : TypeId) : evCK Tryd.prog cfgW (runK Tryd.prog cfgW fsW (conT deskDom deskE) 12 40) 12 (codeAt [1, 1, 1, 1, 1, 0, 0] B) (S6 pre cl dk th ths kp sd b0 w0 x1 e0) (normC 2 [2, 3, 4, 7, 8, 13]) =
  some (.normal, (S21 pre cl dk th ths kp sd b0 w0 x1 e0)) := by kernel_rfl
theorem R19 (pre : Nat) (cl : Int) (dk : Int) (th : Int) (ths : Int) (kp : Int) (sd : Int) (b0 : Int) (w0 : Int) (x1 : Int) (e0 : TypeId) : evCK Tryd.prog cfgW (runK Tryd.prog cfgW fsW (conT deskDom deskE) 12 40) 12 (codeAt [1, 1, 1, 1, 1, 0, 1] B) (S21 pre cl dk th ths kp sd b0 w0 x1 e0) (normC 2 []) =
  bif (freshR w0) then
    bif (0 == (blockR w0)) then
      some (.ret, (S17 e0))
    else
      some (.ret, (S17 e0))
  else
    bif (w0 != w0) then
      some (.ret, (S17 e0))
    else
      some (.normal, (S17 e0)) := by kernel_rfl
theorem v4 (dk th ths kp sd b0 x1 w0 cl : Int) (pre : Nat) (e0 : TypeId) (hdk : 0 ≤ dk) (hfw : freshA w0 = freshR w0) (hbw : blockA w0 = blockR w0) (hce : (IntKind.wrap .i64 ((IntKind.wrap .i64 (Int.tmod x1 5000)) - 1)) = cl) (hR : rightV dk th ths kp = true) (hcl : 0 ≤ cl) (hF : freshA w0 = false)   {Q : Ex → St → Prop} (hq : Q .ret (KSt.low (S12 e0))) : Gets Tryd.prog (KH.low ⟨2, 1, [(0, 0, .cells [(.int .i64 1), (.int .i64 64), (.int .i64 1), (.int .i64 64)] e0 false)]⟩) B (KSt.low (S0 dk th ths kp sd b0 x1 w0 pre e0)) Q := by
  rw [C]; refine Gets.seq ?_
  refine Gets.ofN fitW desk_sound (conT_agree _ _) 12 40 (by kernel_rfl) (x := .normal) (s' := (S1 pre b0 x1 w0 dk th ths kp sd e0)) (R1 dk th ths kp sd b0 x1 w0 pre e0) ?_
  show Gets _ _ (codeAt [1] B) _ _
  rw [C1]; refine Gets.seq ?_
  refine Gets.ofN fitW desk_sound (conT_agree _ _) 12 40 (by kernel_rfl) (x := .normal) (s' := (S3 pre cl b0 x1 w0 dk th ths kp sd e0)) ((R2 pre b0 x1 w0 dk th ths kp sd e0).trans (by (show some (Ex.normal, (S2 pre x1 b0 w0 dk th ths kp sd e0)) = some (Ex.normal, (S3 pre cl b0 x1 w0 dk th ths kp sd e0)); unfold S2 S3; rw [(show (IntKind.wrap .i64 ((IntKind.wrap .i64 (Int.tmod x1 5000)) - 1)) = cl from hce)]))) ?_
  show Gets _ _ (codeAt [1, 1] B) _ _
  rw [C1_1]; refine Gets.seq ?_
  rw [C1_1_0]; refine Gets.seq ?_
  refine Gets.ofN fitW desk_sound (conT_agree _ _) 12 40 (by kernel_rfl) (x := .normal) (s' := (S4 pre cl b0 x1 w0 dk th ths kp sd e0)) (R3 pre cl b0 x1 w0 dk th ths kp sd e0) ?_
  show Gets _ _ (codeAt [1, 1, 0, 1] B) _ _
  rw [C1_1_0_1]; refine Gets.cond false (by kernel_rfl) (show evalX (KSt.ts (S4 pre cl b0 x1 w0 dk th ths kp sd e0)) (.tmp 27) = .bool false by kernel_rfl) ?_; show Gets _ _ (codeAt [1, 1, 0, 1, 1] B) _ _
  refine Gets.ofN fitW desk_sound (conT_agree _ _) 12 40 (by kernel_rfl) (x := .normal) (s' := (S3 pre cl b0 x1 w0 dk th ths kp sd e0)) (R4 pre cl b0 x1 w0 dk th ths kp sd e0) ?_
  show Gets _ _ (codeAt [1, 1, 1] B) _ _
  rw [C1_1_1]; refine Gets.seq ?_
  refine Gets.ofN fitW desk_sound (conT_agree _ _) 12 40 (by kernel_rfl) (x := .normal) (s' := (S6 pre cl dk th ths kp sd b0 w0 x1 e0)) ((R5 pre cl b0 x1 w0 dk th ths kp sd e0).trans (by rw [condF (not_f (hR)), condF (decide_eq_false (by omega)), condT (not_t (hF))])) ?_
  show Gets _ _ (codeAt [1, 1, 1, 1] B) _ _
  rw [C1_1_1_1]; refine Gets.seq ?_
  rw [C1_1_1_1_0]; refine Gets.seq ?_
  refine Gets.ofN fitW desk_sound (conT_agree _ _) 12 40 (by kernel_rfl) (x := .normal) (s' := (S20 pre cl dk th ths kp sd b0 w0 x1 e0)) ((R16 pre cl dk th ths kp sd b0 w0 x1 e0).trans (by rw [condF (not_f (by rw [rightRV_eq hdk]; exact hR))] <;> (show some (Ex.normal, (S19 pre cl dk th ths kp sd b0 w0 x1 e0)) = some (Ex.normal, (S20 pre cl dk th ths kp sd b0 w0 x1 e0)); unfold S19 S20; rw [(show (decide (cl < 0)) = false from decide_eq_false (by omega))]))) ?_
  show Gets _ _ (codeAt [1, 1, 1, 1, 0, 1] B) _ _
  rw [C1_1_1_1_0_1]; refine Gets.cond false (by kernel_rfl) (show evalX (KSt.ts (S20 pre cl dk th ths kp sd b0 w0 x1 e0)) (.tmp 42) = .bool false by kernel_rfl) ?_; show Gets _ _ (codeAt [1, 1, 1, 1, 0, 1, 1] B) _ _
  refine Gets.ofN fitW desk_sound (conT_agree _ _) 12 40 (by kernel_rfl) (x := .normal) (s' := (S6 pre cl dk th ths kp sd b0 w0 x1 e0)) (R17 pre cl dk th ths kp sd b0 w0 x1 e0) ?_
  show Gets _ _ (codeAt [1, 1, 1, 1, 1] B) _ _
  rw [C1_1_1_1_1]; refine Gets.seq ?_
  rw [C1_1_1_1_1_0]; refine Gets.seq ?_
  refine Gets.ofN fitW desk_sound (conT_agree _ _) 12 40 (by kernel_rfl) (x := .normal) (s' := (S21 pre cl dk th ths kp sd b0 w0 x1 e0)) (R18 pre cl dk th ths kp sd b0 w0 x1 e0) ?_
  show Gets _ _ (codeAt [1, 1, 1, 1, 1, 0, 1] B) _ _
  refine Gets.ofN fitW desk_sound (conT_agree _ _) 12 40 (by kernel_rfl) (x := .normal) (s' := (S17 e0)) ((R19 pre cl dk th ths kp sd b0 w0 x1 e0).trans (by rw [condF (by rw [← hfw]; exact hF), condF (ibne_f (by omega))])) ?_
  show Gets _ _ (codeAt [1, 1, 1, 1, 1, 1] B) _ _
  rw [C1_1_1_1_1_1]; refine Gets.seq ?_
  refine Gets.ofN fitW desk_sound (conT_agree _ _) 12 40 (by kernel_rfl) (x := .normal) (s' := (S12 e0)) (R15 e0) ?_
  show Gets _ _ (codeAt [1, 1, 1, 1, 1, 1, 1] B) _ _
  rw [C1_1_1_1_1_1_1]; refine Gets.ev fitW.mix fitW.cfg (fitW.sound desk_sound 12 0) 12 rfl (s' := KSt.low (S12 e0)) (x := .ret) rfl ?_
  exact hq
noncomputable def QE3 : Ex → St → Prop := Eng.Ends Tryd.prog Tryd.f3.results.toList fun r _ => r = .bool true
theorem qe3 {s : KSt} (h : resL Tryd.prog s.low Tryd.f3.results.toList = some [.bool true]) : QE3 .ret s.low := Ends.of h rfl
theorem toldV (dk th ths kp sd b0 x1 w0 : Int) (e0 : TypeId) (hdk : 0 ≤ dk) (hfw : freshA w0 = freshR w0) (hbw : blockA w0 = blockR w0) (hb0 : freshA w0 = true → blockR w0 ≠ 0) :
    Tells Tryd.prog 3 [.agg #[.int .u64 dk, .int .i64 th, .int .i64 ths, .int .i64 kp, .int .u64 sd], .agg #[.int .u64 b0, .int .u64 x1, .int .u64 w0], .slice (some ⟨1, 0, none⟩) 0 0] (varNone .i64 [1, 64, 1, 64] e0).low (.bool true) := by
  refine Gets.tells Tryd.func3 B_is (by rw [oneVar]; exact (show (1 : Nat) ≤ 2 by decide)) rfl ?_ Ro.varNone
  show Gets Tryd.prog (KH.low ⟨2, 1, [(0, 0, .cells [(.int .i64 1), (.int .i64 64), (.int .i64 1), (.int .i64 64)] e0 false)]⟩) B (KSt.low (S0 dk th ths kp sd b0 x1 w0 0 e0)) QE3
  obtain ⟨cl, hce⟩ : ∃ cl, (IntKind.wrap .i64 ((IntKind.wrap .i64 (Int.tmod x1 5000)) - 1)) = cl := ⟨_, rfl⟩
  cases hR : rightV dk th ths kp with
  | false => exact v1 dk th ths kp sd b0 x1 w0 cl 0 e0 hdk hfw hbw hce hR (qe3 (by kernel_rfl))
  | true =>
    by_cases hcl : cl < 0
    · exact v2 dk th ths kp sd b0 x1 w0 cl 0 e0 hdk hfw hbw hce hR hcl (qe3 (by kernel_rfl))
    have hcl : 0 ≤ cl := by omega
    cases hF : freshA w0 with
    | true => exact v3 dk th ths kp sd b0 x1 w0 cl 0 e0 hdk hfw hbw hce hR hcl hF (hb0 hF) (qe3 (by kernel_rfl))
    | false => exact v4 dk th ths kp sd b0 x1 w0 cl 0 e0 hdk hfw hbw hce hR hcl hF (qe3 (by kernel_rfl))

end Go.Proofs.YtmphcolclkpnnabDoor.shieldActsV
