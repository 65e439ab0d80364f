/- The roads of CrowdActs. -/
import Derived.Test.YtmphcolclkpnnaaGroups
import Derived.WalkKit
import Derived.ProofKit
import Derived.OpenShut
import Derived.ChangeOld
import Derived.Below
import Derived.SizedLaws
namespace Go.Proofs.Ytmphcolclkpnnaa.crowdActs
open Go.Eng
open Go.ChangeShapes Go.WideShapes Go.ChangeAt Go.RowKit
set_option linter.unusedVariables false
set_option linter.unusedSimpArgs false
set_option maxRecDepth 100000
noncomputable def fsCrowd : List FuncId := [7, 31, 32, 33, 34, 35, 36, 37, 38, 39, 50, 53, 54, 55, 56, 66, 73]
theorem fitCrowd : Fit Try.prog cfgA fsCrowd := ⟨by kernel_rfl, Cfg.ok_of (by kernel_rfl), by kernel_rfl⟩
noncomputable def B : Code := bodyOf Try.prog 7
theorem B_is : Try.f7.body = some B := by kernel_rfl
theorem B_ok : okCode Try.prog.globals.size B = true := by kernel_rfl
noncomputable def S0 (bb : Int) (lg : Int) (th : Int) (pre : Nat) (n : Nat) (c : Nat) (l : List Int) (e : TypeId) : KSt := (firstK [(.agg #[(.int .u64 bb), (.int .i64 lg)]), (.int .i64 th), (.slice (some ⟨0, pre, none⟩) n c)] 128 ⟨1, 1, [(0, 0, .tail pre .u64 l e)]⟩)
theorem C : B = .seq (codeAt [0] B) (codeAt [1] B) := by kernel_rfl
noncomputable def S1 (th : Int) (pre : Nat) (n : Nat) (c : Nat) (bb : Int) (lg : Int) (l : List Int) (e : TypeId) : KSt := ⟨(frameL 128 [(1, (.int .i64 th)), (2, (.slice (some ⟨0, pre, none⟩) n c)), (3, (.pointer (some ⟨1, 0, none⟩)))]), ⟨2, 1, [(1, 0, .cells [(.int .u64 bb), (.int .i64 lg)] 39 true), (0, 0, .tail pre .u64 l e)]⟩⟩
theorem R1 (bb : Int) (lg : Int) (th : Int) (pre : Nat) (n : Nat) (c : Nat) (l : List Int) (e : TypeId) : evCK Try.prog cfgA (runK Try.prog cfgA fsCrowd (conT grpDom grpE) 12 40) 12 (codeAt [0] B) (S0 bb lg th pre n c l e) (normC 1 [1, 2, 3]) =
  some (.normal, (S1 th pre n c bb lg l e)) := by kernel_rfl
theorem C1 : (codeAt [1] B) = .seq (codeAt [1, 0] B) (codeAt [1, 1] B) := by kernel_rfl
theorem C1_0 : (codeAt [1, 0] B) = .seq (codeAt [1, 0, 0] B) (codeAt [1, 0, 1] B) := by kernel_rfl
noncomputable def S2 (th : Int) (pre : Nat) (n : Nat) (c : Nat) (bb : Int) (lg : Int) (l : List Int) (e : TypeId) : KSt := ⟨(frameL 128 [(1, (.int .i64 th)), (2, (.slice (some ⟨0, pre, none⟩) n c)), (3, (.pointer (some ⟨1, 0, none⟩))), (21, (.bool (decide (((n : Nat) : Int) > 20))))]), ⟨2, 1, [(1, 0, .cells [(.int .u64 bb), (.int .i64 lg)] 39 true), (0, 0, .tail pre .u64 l e)]⟩⟩
theorem R2 (th : Int) (pre : Nat) (n : Nat) (c : Nat) (bb : Int) (lg : Int) (l : List Int) (e : TypeId) : evCK Try.prog cfgA (runK Try.prog cfgA fsCrowd (conT grpDom grpE) 12 40) 12 (codeAt [1, 0, 0] B) (S1 th pre n c bb lg l e) (normC 1 [1, 2, 3, 21]) =
  some (.normal, (S2 th pre n c bb lg l e)) := by kernel_rfl
theorem C1_0_1 : (codeAt [1, 0, 1] B) = .cond (.tmp 21) (codeAt [1, 0, 1, 0] B) (codeAt [1, 0, 1, 1] B) := by kernel_rfl
theorem C1_0_1_0 : (codeAt [1, 0, 1, 0] B) = .seq (codeAt [1, 0, 1, 0, 0] B) (codeAt [1, 0, 1, 0, 1] B) := by kernel_rfl
noncomputable def S3 (pre : Nat) (l : List Int) (e : TypeId) : KSt := ⟨(frameL 128 [(6, (.bool true))]), ⟨1, 1, [(0, 0, .tail pre .u64 l e)]⟩⟩
theorem R3 (th : Int) (pre : Nat) (n : Nat) (c : Nat) (bb : Int) (lg : Int) (l : List Int) (e : TypeId) : evCK Try.prog cfgA (runK Try.prog cfgA fsCrowd (conT grpDom grpE) 12 40) 12 (codeAt [1, 0, 1, 0, 0] B) (S2 th pre n c bb lg l e) (normC 1 [6]) =
  some (.normal, (S3 pre l e)) := by kernel_rfl
theorem C1_0_1_0_1 : (codeAt [1, 0, 1, 0, 1] B) = .ret := by kernel_rfl
theorem r0 (bb lg th : Int) (pre n c : Nat) (l : List Int) (e : TypeId) (hn : 20 < n)  {Q : Ex → St → Prop} (hq : Q .ret (KSt.low (S3 pre l e))) : Gets Try.prog (KH.low ⟨1, 1, [(0, 0, .tail pre .u64 l e)]⟩) B (KSt.low (S0 bb lg th pre n c l e)) Q := by
  rw [C]; refine Gets.seq ?_
  refine Gets.ofN fitCrowd grp_sound (conT_agree _ _) 12 40 (by kernel_rfl) (x := .normal) (s' := (S1 th pre n c bb lg l e)) (R1 bb lg th pre n c l e) ?_
  show Gets _ _ (codeAt [1] B) _ _
  rw [C1]; refine Gets.seq ?_
  rw [C1_0]; refine Gets.seq ?_
  refine Gets.ofN fitCrowd grp_sound (conT_agree _ _) 12 40 (by kernel_rfl) (x := .normal) (s' := (S2 th pre n c bb lg l e)) (R2 th pre n c bb lg l e) ?_
  show Gets _ _ (codeAt [1, 0, 1] B) _ _
  rw [C1_0_1]; refine Gets.cond true (by kernel_rfl) ((show evalX (KSt.ts (S2 th pre n c bb lg l e)) (.tmp 21) = .bool (decide (((n : Nat) : Int) > 20)) by kernel_rfl).trans (by rw [(show (decide (((n : Nat) : Int) > 20)) = true from decide_eq_true (by omega))])) ?_; show Gets _ _ (codeAt [1, 0, 1, 0] B) _ _
  rw [C1_0_1_0]; refine Gets.seq ?_
  refine Gets.ofN fitCrowd grp_sound (conT_agree _ _) 12 40 (by kernel_rfl) (x := .normal) (s' := (S3 pre l e)) (R3 th pre n c bb lg l e) ?_
  show Gets _ _ (codeAt [1, 0, 1, 0, 1] B) _ _
  rw [C1_0_1_0_1]; refine Gets.ev fitCrowd.mix fitCrowd.cfg (fitCrowd.sound grp_sound 12 0) 12 rfl (s' := KSt.low (S3 pre l e)) (x := .ret) rfl ?_
  exact hq
theorem R4 (th : Int) (pre : Nat) (n : Nat) (c : Nat) (bb : Int) (lg : Int) (l : List Int) (e : TypeId) : evCK Try.prog cfgA (runK Try.prog cfgA fsCrowd (conT grpDom grpE) 12 40) 12 (codeAt [1, 0, 1, 1] B) (S2 th pre n c bb lg l e) (normC 1 [1, 2, 3]) =
  some (.normal, (S1 th pre n c bb lg l e)) := by kernel_rfl
theorem C1_1 : (codeAt [1, 1] B) = .seq (codeAt [1, 1, 0] B) (codeAt [1, 1, 1] B) := by kernel_rfl
noncomputable def S4 (th : Int) (pre : Nat) (n : Nat) (c : Nat) (bb : Int) (lg : Int) (l : List Int) (e : TypeId) : KSt := ⟨(frameL 128 [(1, (.int .i64 th)), (2, (.slice (some ⟨0, pre, none⟩) n c)), (3, (.pointer (some ⟨1, 0, none⟩))), (7, (.pointer (some ⟨2, 0, none⟩)))]), ⟨3, 1, [(2, 0, .cells [(.int .u64 bb), (.int .i64 lg), (.bool (decide ((groupsV lg) > 0))), (.int .i64 0), (.int .u64 0), (.int .u64 0), (.int .u64 0), (.int .u64 0)] 81 true), (1, 0, .cells [(.int .u64 bb), (.int .i64 lg)] 39 true), (0, 0, .tail pre .u64 l e)]⟩⟩
noncomputable def S5 (th : Int) (pre : Nat) (n : Nat) (c : Nat) (bb : Int) (lg : Int) (l : List Int) (e : TypeId) : KSt := ⟨(frameL 128 [(1, (.int .i64 th)), (2, (.slice (some ⟨0, pre, none⟩) n c)), (3, (.pointer (some ⟨1, 0, none⟩))), (7, (.pointer (some ⟨2, 0, none⟩)))]), ⟨3, 1, [(2, 0, .cells [(.int .u64 bb), (.int .i64 lg), (.bool false), (.int .i64 0), (.int .u64 0), (.int .u64 0), (.int .u64 0), (.int .u64 0)] 81 true), (1, 0, .cells [(.int .u64 bb), (.int .i64 lg)] 39 true), (0, 0, .tail pre .u64 l e)]⟩⟩
theorem R5 (th : Int) (pre : Nat) (n : Nat) (c : Nat) (bb : Int) (lg : Int) (l : List Int) (e : TypeId) : evCK Try.prog cfgA (runK Try.prog cfgA fsCrowd (conT grpDom grpE) 12 40) 12 (codeAt [1, 1, 0] B) (S1 th pre n c bb lg l e) (normC 1 [1, 2, 3, 7]) =
  bif (bb != 0) then
    some (.normal, (S4 th pre n c bb lg l e))
  else
    some (.normal, (S5 th pre n c bb lg l e)) := by kernel_rfl
theorem C1_1_1 : (codeAt [1, 1, 1] B) = .seq (codeAt [1, 1, 1, 0] B) (codeAt [1, 1, 1, 1] B) := by kernel_rfl
theorem C1_1_1_0 : (codeAt [1, 1, 1, 0] B) = .seq (codeAt [1, 1, 1, 0, 0] B) (codeAt [1, 1, 1, 0, 1] B) := by kernel_rfl
noncomputable def S6 (pre : Nat) (n : Nat) (c : Nat) (bb : Int) (th : Int) (lg : Int) (l : List Int) (e : TypeId) : KSt := ⟨(frameL 128 [(2, (.slice (some ⟨0, pre, none⟩) n c)), (3, (.pointer (some ⟨1, 0, none⟩))), (7, (.pointer (some ⟨2, 0, none⟩))), (31, (.bool (!(true && ((bb == bb) && (((IntKind.wrap .i64 (3 + (bits .and .i64 th 3))) == (IntKind.wrap .i64 (3 + (IntKind.wrap .i64 ((Int.tmod th 4) + 4))))) && true))))))]), ⟨3, 1, [(2, 0, .cells [(.int .u64 bb), (.int .i64 lg), (.bool false), (.int .i64 0), (.int .u64 0), (.int .u64 0), (.int .u64 0), (.int .u64 0)] 81 true), (1, 0, .cells [(.int .u64 bb), (.int .i64 lg)] 39 true), (0, 0, .tail pre .u64 l e)]⟩⟩
noncomputable def S7 (pre : Nat) (n : Nat) (c : Nat) (bb : Int) (th : Int) (lg : Int) (l : List Int) (e : TypeId) : KSt := ⟨(frameL 128 [(2, (.slice (some ⟨0, pre, none⟩) n c)), (3, (.pointer (some ⟨1, 0, none⟩))), (7, (.pointer (some ⟨2, 0, none⟩))), (31, (.bool (!(true && ((bb == bb) && (((IntKind.wrap .i64 (3 + (bits .and .i64 th 3))) == (IntKind.wrap .i64 (3 + (Int.tmod th 4)))) && true))))))]), ⟨3, 1, [(2, 0, .cells [(.int .u64 bb), (.int .i64 lg), (.bool false), (.int .i64 0), (.int .u64 0), (.int .u64 0), (.int .u64 0), (.int .u64 0)] 81 true), (1, 0, .cells [(.int .u64 bb), (.int .i64 lg)] 39 true), (0, 0, .tail pre .u64 l e)]⟩⟩
theorem R6 (th : Int) (pre : Nat) (n : Nat) (c : Nat) (bb : Int) (lg : Int) (l : List Int) (e : TypeId) : evCK Try.prog cfgA (runK Try.prog cfgA fsCrowd (conT grpDom grpE) 12 40) 12 (codeAt [1, 1, 1, 0, 0] B) (S5 th pre n c bb lg l e) (normC 1 [2, 3, 7, 31]) =
  bif (decide ((Int.tmod th 4) < 0)) then
    some (.normal, (S6 pre n c bb th lg l e))
  else
    some (.normal, (S7 pre n c bb th lg l e)) := by kernel_rfl
theorem C1_1_1_0_1 : (codeAt [1, 1, 1, 0, 1] B) = .cond (.tmp 31) (codeAt [1, 1, 1, 0, 1, 0] B) (codeAt [1, 1, 1, 0, 1, 1] B) := by kernel_rfl
noncomputable def S8 (pre : Nat) (n : Nat) (c : Nat) (bb : Int) (lg : Int) (l : List Int) (e : TypeId) : KSt := ⟨(frameL 128 [(2, (.slice (some ⟨0, pre, none⟩) n c)), (3, (.pointer (some ⟨1, 0, none⟩))), (7, (.pointer (some ⟨2, 0, none⟩)))]), ⟨3, 1, [(2, 0, .cells [(.int .u64 bb), (.int .i64 lg), (.bool false), (.int .i64 0), (.int .u64 0), (.int .u64 0), (.int .u64 0), (.int .u64 0)] 81 true), (1, 0, .cells [(.int .u64 bb), (.int .i64 lg)] 39 true), (0, 0, .tail pre .u64 l e)]⟩⟩
theorem R7 (pre : Nat) (n : Nat) (c : Nat) (bb : Int) (th : Int) (lg : Int) (l : List Int) (e : TypeId) : evCK Try.prog cfgA (runK Try.prog cfgA fsCrowd (conT grpDom grpE) 12 40) 12 (codeAt [1, 1, 1, 0, 1, 1] B) (S6 pre n c bb th lg l e) (normC 1 [2, 3, 7]) =
  some (.normal, (S8 pre n c bb lg l e)) := by kernel_rfl
theorem an0 (bb lg th : Int) (pre n c : Nat) (l : List Int) (e : TypeId) (hn : n ≤ 20) (q1 : (bb != 0) = false) (q2 : (decide ((Int.tmod th 4) < 0)) = true) (q3 : ((IntKind.wrap .i64 (3 + (bits .and .i64 th 3))) == (IntKind.wrap .i64 (3 + (IntKind.wrap .i64 ((Int.tmod th 4) + 4))))) = true) {Q : Ex → St → Prop} (hq : Gets Try.prog (KH.low ⟨1, 1, [(0, 0, .tail pre .u64 l e)]⟩) (codeAt [1, 1, 1, 1] B) (KSt.low (S8 pre n c bb lg l e)) (Q)) : Gets Try.prog (KH.low ⟨1, 1, [(0, 0, .tail pre .u64 l e)]⟩) B (KSt.low (S0 bb lg th pre n c l e)) Q := by
  rw [C]; refine Gets.seq ?_
  refine Gets.ofN fitCrowd grp_sound (conT_agree _ _) 12 40 (by kernel_rfl) (x := .normal) (s' := (S1 th pre n c bb lg l e)) (R1 bb lg th pre n c l e) ?_
  show Gets _ _ (codeAt [1] B) _ _
  rw [C1]; refine Gets.seq ?_
  rw [C1_0]; refine Gets.seq ?_
  refine Gets.ofN fitCrowd grp_sound (conT_agree _ _) 12 40 (by kernel_rfl) (x := .normal) (s' := (S2 th pre n c bb lg l e)) (R2 th pre n c bb lg l e) ?_
  show Gets _ _ (codeAt [1, 0, 1] B) _ _
  rw [C1_0_1]; refine Gets.cond false (by kernel_rfl) ((show evalX (KSt.ts (S2 th pre n c bb lg l e)) (.tmp 21) = .bool (decide (((n : Nat) : Int) > 20)) by kernel_rfl).trans (by rw [(show (decide (((n : Nat) : Int) > 20)) = false from decide_eq_false (by omega))])) ?_; show Gets _ _ (codeAt [1, 0, 1, 1] B) _ _
  refine Gets.ofN fitCrowd grp_sound (conT_agree _ _) 12 40 (by kernel_rfl) (x := .normal) (s' := (S1 th pre n c bb lg l e)) (R4 th pre n c bb lg l e) ?_
  show Gets _ _ (codeAt [1, 1] B) _ _
  rw [C1_1]; refine Gets.seq ?_
  refine Gets.ofN fitCrowd grp_sound (conT_agree _ _) 12 40 (by kernel_rfl) (x := .normal) (s' := (S5 th pre n c bb lg l e)) ((R5 th pre n c bb lg l e).trans (by rw [condF (q1)])) ?_
  show Gets _ _ (codeAt [1, 1, 1] B) _ _
  rw [C1_1_1]; refine Gets.seq ?_
  rw [C1_1_1_0]; refine Gets.seq ?_
  refine Gets.ofN fitCrowd grp_sound (conT_agree _ _) 12 40 (by kernel_rfl) (x := .normal) (s' := (S6 pre n c bb th lg l e)) ((R6 th pre n c bb lg l e).trans (by rw [condT (q2)])) ?_
  show Gets _ _ (codeAt [1, 1, 1, 0, 1] B) _ _
  rw [C1_1_1_0_1]; refine Gets.cond false (by kernel_rfl) ((show evalX (KSt.ts (S6 pre n c bb th lg l e)) (.tmp 31) = .bool (!(true && ((bb == bb) && (((IntKind.wrap .i64 (3 + (bits .and .i64 th 3))) == (IntKind.wrap .i64 (3 + (IntKind.wrap .i64 ((Int.tmod th 4) + 4))))) && true)))) by kernel_rfl).trans (by rw [(show (!(true && ((bb == bb) && (((IntKind.wrap .i64 (3 + (bits .and .i64 th 3))) == (IntKind.wrap .i64 (3 + (IntKind.wrap .i64 ((Int.tmod th 4) + 4))))) && true)))) = false from not_f (and_t (rfl) (and_t (beq_self_eq_true _) (and_t (q3) (rfl)))))])) ?_; show Gets _ _ (codeAt [1, 1, 1, 0, 1, 1] B) _ _
  refine Gets.ofN fitCrowd grp_sound (conT_agree _ _) 12 40 (by kernel_rfl) (x := .normal) (s' := (S8 pre n c bb lg l e)) (R7 pre n c bb th lg l e) ?_
  show Gets _ _ (codeAt [1, 1, 1, 1] B) _ _
  exact hq
noncomputable def S9 (pre : Nat) (n : Nat) (c : Nat) (bb : Int) (th : Int) (lg : Int) (l : List Int) (e : TypeId) : KSt := ⟨(frameL 128 [(2, (.slice (some ⟨0, pre, none⟩) n c)), (3, (.pointer (some ⟨1, 0, none⟩))), (7, (.pointer (some ⟨2, 0, none⟩))), (31, (.bool (!(true && ((bb == bb) && (((IntKind.wrap .i64 (3 + (bits .and .i64 th 3))) == (IntKind.wrap .i64 (3 + (IntKind.wrap .i64 ((Int.tmod th 4) + 4))))) && true))))))]), ⟨3, 1, [(2, 0, .cells [(.int .u64 bb), (.int .i64 lg), (.bool (decide ((groupsV lg) > 0))), (.int .i64 0), (.int .u64 0), (.int .u64 0), (.int .u64 0), (.int .u64 0)] 81 true), (1, 0, .cells [(.int .u64 bb), (.int .i64 lg)] 39 true), (0, 0, .tail pre .u64 l e)]⟩⟩
noncomputable def S10 (pre : Nat) (n : Nat) (c : Nat) (bb : Int) (th : Int) (lg : Int) (l : List Int) (e : TypeId) : KSt := ⟨(frameL 128 [(2, (.slice (some ⟨0, pre, none⟩) n c)), (3, (.pointer (some ⟨1, 0, none⟩))), (7, (.pointer (some ⟨2, 0, none⟩))), (31, (.bool (!(true && ((bb == bb) && (((IntKind.wrap .i64 (3 + (bits .and .i64 th 3))) == (IntKind.wrap .i64 (3 + (Int.tmod th 4)))) && true))))))]), ⟨3, 1, [(2, 0, .cells [(.int .u64 bb), (.int .i64 lg), (.bool (decide ((groupsV lg) > 0))), (.int .i64 0), (.int .u64 0), (.int .u64 0), (.int .u64 0), (.int .u64 0)] 81 true), (1, 0, .cells [(.int .u64 bb), (.int .i64 lg)] 39 true), (0, 0, .tail pre .u64 l e)]⟩⟩
theorem R8 (th : Int) (pre : Nat) (n : Nat) (c : Nat) (bb : Int) (lg : Int) (l : List Int) (e : TypeId) : evCK Try.prog cfgA (runK Try.prog cfgA fsCrowd (conT grpDom grpE) 12 40) 12 (codeAt [1, 1, 1, 0, 0] B) (S4 th pre n c bb lg l e) (normC 1 [2, 3, 7, 31]) =
  bif (decide ((Int.tmod th 4) < 0)) then
    some (.normal, (S9 pre n c bb th lg l e))
  else
    some (.normal, (S10 pre n c bb th lg l e)) := by kernel_rfl
noncomputable def S11 (pre : Nat) (n : Nat) (c : Nat) (bb : Int) (lg : Int) (l : List Int) (e : TypeId) : KSt := ⟨(frameL 128 [(2, (.slice (some ⟨0, pre, none⟩) n c)), (3, (.pointer (some ⟨1, 0, none⟩))), (7, (.pointer (some ⟨2, 0, none⟩)))]), ⟨3, 1, [(2, 0, .cells [(.int .u64 bb), (.int .i64 lg), (.bool (decide ((groupsV lg) > 0))), (.int .i64 0), (.int .u64 0), (.int .u64 0), (.int .u64 0), (.int .u64 0)] 81 true), (1, 0, .cells [(.int .u64 bb), (.int .i64 lg)] 39 true), (0, 0, .tail pre .u64 l e)]⟩⟩
theorem R9 (pre : Nat) (n : Nat) (c : Nat) (bb : Int) (th : Int) (lg : Int) (l : List Int) (e : TypeId) : evCK Try.prog cfgA (runK Try.prog cfgA fsCrowd (conT grpDom grpE) 12 40) 12 (codeAt [1, 1, 1, 0, 1, 1] B) (S9 pre n c bb th lg l e) (normC 1 [2, 3, 7]) =
  some (.normal, (S11 pre n c bb lg l e)) := by kernel_rfl
theorem an1 (bb lg th : Int) (pre n c : Nat) (l : List Int) (e : TypeId) (hn : n ≤ 20) (q1 : (bb != 0) = true) (q2 : (decide ((Int.tmod th 4) < 0)) = true) (q3 : ((IntKind.wrap .i64 (3 + (bits .and .i64 th 3))) == (IntKind.wrap .i64 (3 + (IntKind.wrap .i64 ((Int.tmod th 4) + 4))))) = true) {Q : Ex → St → Prop} (hq : Gets Try.prog (KH.low ⟨1, 1, [(0, 0, .tail pre .u64 l e)]⟩) (codeAt [1, 1, 1, 1] B) (KSt.low (S11 pre n c bb lg l e)) (Q)) : Gets Try.prog (KH.low ⟨1, 1, [(0, 0, .tail pre .u64 l e)]⟩) B (KSt.low (S0 bb lg th pre n c l e)) Q := by
  rw [C]; refine Gets.seq ?_
  refine Gets.ofN fitCrowd grp_sound (conT_agree _ _) 12 40 (by kernel_rfl) (x := .normal) (s' := (S1 th pre n c bb lg l e)) (R1 bb lg th pre n c l e) ?_
  show Gets _ _ (codeAt [1] B) _ _
  rw [C1]; refine Gets.seq ?_
  rw [C1_0]; refine Gets.seq ?_
  refine Gets.ofN fitCrowd grp_sound (conT_agree _ _) 12 40 (by kernel_rfl) (x := .normal) (s' := (S2 th pre n c bb lg l e)) (R2 th pre n c bb lg l e) ?_
  show Gets _ _ (codeAt [1, 0, 1] B) _ _
  rw [C1_0_1]; refine Gets.cond false (by kernel_rfl) ((show evalX (KSt.ts (S2 th pre n c bb lg l e)) (.tmp 21) = .bool (decide (((n : Nat) : Int) > 20)) by kernel_rfl).trans (by rw [(show (decide (((n : Nat) : Int) > 20)) = false from decide_eq_false (by omega))])) ?_; show Gets _ _ (codeAt [1, 0, 1, 1] B) _ _
  refine Gets.ofN fitCrowd grp_sound (conT_agree _ _) 12 40 (by kernel_rfl) (x := .normal) (s' := (S1 th pre n c bb lg l e)) (R4 th pre n c bb lg l e) ?_
  show Gets _ _ (codeAt [1, 1] B) _ _
  rw [C1_1]; refine Gets.seq ?_
  refine Gets.ofN fitCrowd grp_sound (conT_agree _ _) 12 40 (by kernel_rfl) (x := .normal) (s' := (S4 th pre n c bb lg l e)) ((R5 th pre n c bb lg l e).trans (by rw [condT (q1)])) ?_
  show Gets _ _ (codeAt [1, 1, 1] B) _ _
  rw [C1_1_1]; refine Gets.seq ?_
  rw [C1_1_1_0]; refine Gets.seq ?_
  refine Gets.ofN fitCrowd grp_sound (conT_agree _ _) 12 40 (by kernel_rfl) (x := .normal) (s' := (S9 pre n c bb th lg l e)) ((R8 th pre n c bb lg l e).trans (by rw [condT (q2)])) ?_
  show Gets _ _ (codeAt [1, 1, 1, 0, 1] B) _ _
  rw [C1_1_1_0_1]; refine Gets.cond false (by kernel_rfl) ((show evalX (KSt.ts (S9 pre n c bb th lg l e)) (.tmp 31) = .bool (!(true && ((bb == bb) && (((IntKind.wrap .i64 (3 + (bits .and .i64 th 3))) == (IntKind.wrap .i64 (3 + (IntKind.wrap .i64 ((Int.tmod th 4) + 4))))) && true)))) by kernel_rfl).trans (by rw [(show (!(true && ((bb == bb) && (((IntKind.wrap .i64 (3 + (bits .and .i64 th 3))) == (IntKind.wrap .i64 (3 + (IntKind.wrap .i64 ((Int.tmod th 4) + 4))))) && true)))) = false from not_f (and_t (rfl) (and_t (beq_self_eq_true _) (and_t (q3) (rfl)))))])) ?_; show Gets _ _ (codeAt [1, 1, 1, 0, 1, 1] B) _ _
  refine Gets.ofN fitCrowd grp_sound (conT_agree _ _) 12 40 (by kernel_rfl) (x := .normal) (s' := (S11 pre n c bb lg l e)) (R9 pre n c bb th lg l e) ?_
  show Gets _ _ (codeAt [1, 1, 1, 1] B) _ _
  exact hq
theorem R10 (pre : Nat) (n : Nat) (c : Nat) (bb : Int) (th : Int) (lg : Int) (l : List Int) (e : TypeId) : evCK Try.prog cfgA (runK Try.prog cfgA fsCrowd (conT grpDom grpE) 12 40) 12 (codeAt [1, 1, 1, 0, 1, 1] B) (S7 pre n c bb th lg l e) (normC 1 [2, 3, 7]) =
  some (.normal, (S8 pre n c bb lg l e)) := by kernel_rfl
theorem ap0 (bb lg th : Int) (pre n c : Nat) (l : List Int) (e : TypeId) (hn : n ≤ 20) (q1 : (bb != 0) = false) (q2 : (decide ((Int.tmod th 4) < 0)) = false) (q3 : ((IntKind.wrap .i64 (3 + (bits .and .i64 th 3))) == (IntKind.wrap .i64 (3 + (Int.tmod th 4)))) = true) {Q : Ex → St → Prop} (hq : Gets Try.prog (KH.low ⟨1, 1, [(0, 0, .tail pre .u64 l e)]⟩) (codeAt [1, 1, 1, 1] B) (KSt.low (S8 pre n c bb lg l e)) (Q)) : Gets Try.prog (KH.low ⟨1, 1, [(0, 0, .tail pre .u64 l e)]⟩) B (KSt.low (S0 bb lg th pre n c l e)) Q := by
  rw [C]; refine Gets.seq ?_
  refine Gets.ofN fitCrowd grp_sound (conT_agree _ _) 12 40 (by kernel_rfl) (x := .normal) (s' := (S1 th pre n c bb lg l e)) (R1 bb lg th pre n c l e) ?_
  show Gets _ _ (codeAt [1] B) _ _
  rw [C1]; refine Gets.seq ?_
  rw [C1_0]; refine Gets.seq ?_
  refine Gets.ofN fitCrowd grp_sound (conT_agree _ _) 12 40 (by kernel_rfl) (x := .normal) (s' := (S2 th pre n c bb lg l e)) (R2 th pre n c bb lg l e) ?_
  show Gets _ _ (codeAt [1, 0, 1] B) _ _
  rw [C1_0_1]; refine Gets.cond false (by kernel_rfl) ((show evalX (KSt.ts (S2 th pre n c bb lg l e)) (.tmp 21) = .bool (decide (((n : Nat) : Int) > 20)) by kernel_rfl).trans (by rw [(show (decide (((n : Nat) : Int) > 20)) = false from decide_eq_false (by omega))])) ?_; show Gets _ _ (codeAt [1, 0, 1, 1] B) _ _
  refine Gets.ofN fitCrowd grp_sound (conT_agree _ _) 12 40 (by kernel_rfl) (x := .normal) (s' := (S1 th pre n c bb lg l e)) (R4 th pre n c bb lg l e) ?_
  show Gets _ _ (codeAt [1, 1] B) _ _
  rw [C1_1]; refine Gets.seq ?_
  refine Gets.ofN fitCrowd grp_sound (conT_agree _ _) 12 40 (by kernel_rfl) (x := .normal) (s' := (S5 th pre n c bb lg l e)) ((R5 th pre n c bb lg l e).trans (by rw [condF (q1)])) ?_
  show Gets _ _ (codeAt [1, 1, 1] B) _ _
  rw [C1_1_1]; refine Gets.seq ?_
  rw [C1_1_1_0]; refine Gets.seq ?_
  refine Gets.ofN fitCrowd grp_sound (conT_agree _ _) 12 40 (by kernel_rfl) (x := .normal) (s' := (S7 pre n c bb th lg l e)) ((R6 th pre n c bb lg l e).trans (by rw [condF (q2)])) ?_
  show Gets _ _ (codeAt [1, 1, 1, 0, 1] B) _ _
  rw [C1_1_1_0_1]; refine Gets.cond false (by kernel_rfl) ((show evalX (KSt.ts (S7 pre n c bb th lg l e)) (.tmp 31) = .bool (!(true && ((bb == bb) && (((IntKind.wrap .i64 (3 + (bits .and .i64 th 3))) == (IntKind.wrap .i64 (3 + (Int.tmod th 4)))) && true)))) by kernel_rfl).trans (by rw [(show (!(true && ((bb == bb) && (((IntKind.wrap .i64 (3 + (bits .and .i64 th 3))) == (IntKind.wrap .i64 (3 + (Int.tmod th 4)))) && true)))) = false from not_f (and_t (rfl) (and_t (beq_self_eq_true _) (and_t (q3) (rfl)))))])) ?_; show Gets _ _ (codeAt [1, 1, 1, 0, 1, 1] B) _ _
  refine Gets.ofN fitCrowd grp_sound (conT_agree _ _) 12 40 (by kernel_rfl) (x := .normal) (s' := (S8 pre n c bb lg l e)) (R10 pre n c bb th lg l e) ?_
  show Gets _ _ (codeAt [1, 1, 1, 1] B) _ _
  exact hq
theorem R11 (pre : Nat) (n : Nat) (c : Nat) (bb : Int) (th : Int) (lg : Int) (l : List Int) (e : TypeId) : evCK Try.prog cfgA (runK Try.prog cfgA fsCrowd (conT grpDom grpE) 12 40) 12 (codeAt [1, 1, 1, 0, 1, 1] B) (S10 pre n c bb th lg l e) (normC 1 [2, 3, 7]) =
  some (.normal, (S11 pre n c bb lg l e)) := by kernel_rfl
theorem ap1 (bb lg th : Int) (pre n c : Nat) (l : List Int) (e : TypeId) (hn : n ≤ 20) (q1 : (bb != 0) = true) (q2 : (decide ((Int.tmod th 4) < 0)) = false) (q3 : ((IntKind.wrap .i64 (3 + (bits .and .i64 th 3))) == (IntKind.wrap .i64 (3 + (Int.tmod th 4)))) = true) {Q : Ex → St → Prop} (hq : Gets Try.prog (KH.low ⟨1, 1, [(0, 0, .tail pre .u64 l e)]⟩) (codeAt [1, 1, 1, 1] B) (KSt.low (S11 pre n c bb lg l e)) (Q)) : Gets Try.prog (KH.low ⟨1, 1, [(0, 0, .tail pre .u64 l e)]⟩) B (KSt.low (S0 bb lg th pre n c l e)) Q := by
  rw [C]; refine Gets.seq ?_
  refine Gets.ofN fitCrowd grp_sound (conT_agree _ _) 12 40 (by kernel_rfl) (x := .normal) (s' := (S1 th pre n c bb lg l e)) (R1 bb lg th pre n c l e) ?_
  show Gets _ _ (codeAt [1] B) _ _
  rw [C1]; refine Gets.seq ?_
  rw [C1_0]; refine Gets.seq ?_
  refine Gets.ofN fitCrowd grp_sound (conT_agree _ _) 12 40 (by kernel_rfl) (x := .normal) (s' := (S2 th pre n c bb lg l e)) (R2 th pre n c bb lg l e) ?_
  show Gets _ _ (codeAt [1, 0, 1] B) _ _
  rw [C1_0_1]; refine Gets.cond false (by kernel_rfl) ((show evalX (KSt.ts (S2 th pre n c bb lg l e)) (.tmp 21) = .bool (decide (((n : Nat) : Int) > 20)) by kernel_rfl).trans (by rw [(show (decide (((n : Nat) : Int) > 20)) = false from decide_eq_false (by omega))])) ?_; show Gets _ _ (codeAt [1, 0, 1, 1] B) _ _
  refine Gets.ofN fitCrowd grp_sound (conT_agree _ _) 12 40 (by kernel_rfl) (x := .normal) (s' := (S1 th pre n c bb lg l e)) (R4 th pre n c bb lg l e) ?_
  show Gets _ _ (codeAt [1, 1] B) _ _
  rw [C1_1]; refine Gets.seq ?_
  refine Gets.ofN fitCrowd grp_sound (conT_agree _ _) 12 40 (by kernel_rfl) (x := .normal) (s' := (S4 th pre n c bb lg l e)) ((R5 th pre n c bb lg l e).trans (by rw [condT (q1)])) ?_
  show Gets _ _ (codeAt [1, 1, 1] B) _ _
  rw [C1_1_1]; refine Gets.seq ?_
  rw [C1_1_1_0]; refine Gets.seq ?_
  refine Gets.ofN fitCrowd grp_sound (conT_agree _ _) 12 40 (by kernel_rfl) (x := .normal) (s' := (S10 pre n c bb th lg l e)) ((R8 th pre n c bb lg l e).trans (by rw [condF (q2)])) ?_
  show Gets _ _ (codeAt [1, 1, 1, 0, 1] B) _ _
  rw [C1_1_1_0_1]; refine Gets.cond false (by kernel_rfl) ((show evalX (KSt.ts (S10 pre n c bb th lg l e)) (.tmp 31) = .bool (!(true && ((bb == bb) && (((IntKind.wrap .i64 (3 + (bits .and .i64 th 3))) == (IntKind.wrap .i64 (3 + (Int.tmod th 4)))) && true)))) by kernel_rfl).trans (by rw [(show (!(true && ((bb == bb) && (((IntKind.wrap .i64 (3 + (bits .and .i64 th 3))) == (IntKind.wrap .i64 (3 + (Int.tmod th 4)))) && true)))) = false from not_f (and_t (rfl) (and_t (beq_self_eq_true _) (and_t (q3) (rfl)))))])) ?_; show Gets _ _ (codeAt [1, 1, 1, 0, 1, 1] B) _ _
  refine Gets.ofN fitCrowd grp_sound (conT_agree _ _) 12 40 (by kernel_rfl) (x := .normal) (s' := (S11 pre n c bb lg l e)) (R11 pre n c bb th lg l e) ?_
  show Gets _ _ (codeAt [1, 1, 1, 1] B) _ _
  exact hq
theorem C1_1_1_1 : (codeAt [1, 1, 1, 1] B) = .seq (codeAt [1, 1, 1, 1, 0] B) (codeAt [1, 1, 1, 1, 1] B) := by kernel_rfl
theorem C1_1_1_1_0 : (codeAt [1, 1, 1, 1, 0] B) = .seq (codeAt [1, 1, 1, 1, 0, 0] B) (codeAt [1, 1, 1, 1, 0, 1] B) := by kernel_rfl
noncomputable def S12 (pre : Nat) (n : Nat) (c : Nat) (lg : Int) (bb : Int) (l : List Int) (e : TypeId) : KSt := ⟨(frameL 128 [(2, (.slice (some ⟨0, pre, none⟩) n c)), (3, (.pointer (some ⟨1, 0, none⟩))), (7, (.pointer (some ⟨2, 0, none⟩))), (34, (.bool (!(decide ((groupsV lg) > 0)))))]), ⟨3, 1, [(2, 0, .cells [(.int .u64 bb), (.int .i64 lg), (.bool false), (.int .i64 0), (.int .u64 0), (.int .u64 0), (.int .u64 0), (.int .u64 0)] 81 true), (1, 0, .cells [(.int .u64 bb), (.int .i64 lg)] 39 true), (0, 0, .tail pre .u64 l e)]⟩⟩
noncomputable def S13 (pre : Nat) (n : Nat) (c : Nat) (bb : Int) (lg : Int) (l : List Int) (e : TypeId) : KSt := ⟨(frameL 128 [(2, (.slice (some ⟨0, pre, none⟩) n c)), (3, (.pointer (some ⟨1, 0, none⟩))), (7, (.pointer (some ⟨2, 0, none⟩))), (34, (.bool true))]), ⟨3, 1, [(2, 0, .cells [(.int .u64 bb), (.int .i64 lg), (.bool false), (.int .i64 0), (.int .u64 0), (.int .u64 0), (.int .u64 0), (.int .u64 0)] 81 true), (1, 0, .cells [(.int .u64 bb), (.int .i64 lg)] 39 true), (0, 0, .tail pre .u64 l e)]⟩⟩
theorem R12 (pre : Nat) (n : Nat) (c : Nat) (bb : Int) (lg : Int) (l : List Int) (e : TypeId) : evCK Try.prog cfgA (runK Try.prog cfgA fsCrowd (conT grpDom grpE) 12 40) 12 (codeAt [1, 1, 1, 1, 0, 0] B) (S8 pre n c bb lg l e) (normC 1 [2, 3, 7, 34]) =
  bif (decide (bb > 0)) then
    some (.normal, (S12 pre n c lg bb l e))
  else
    some (.normal, (S13 pre n c bb lg l e)) := by kernel_rfl
theorem C1_1_1_1_0_1 : (codeAt [1, 1, 1, 1, 0, 1] B) = .cond (.tmp 34) (codeAt [1, 1, 1, 1, 0, 1, 0] B) (codeAt [1, 1, 1, 1, 0, 1, 1] B) := by kernel_rfl
theorem C1_1_1_1_0_1_0 : (codeAt [1, 1, 1, 1, 0, 1, 0] B) = .seq (codeAt [1, 1, 1, 1, 0, 1, 0, 0] B) (codeAt [1, 1, 1, 1, 0, 1, 0, 1] B) := by kernel_rfl
noncomputable def S14 (bb : Int) (lg : Int) (pre : Nat) (l : List Int) (e : TypeId) : KSt := ⟨(frameL 128 [(7, (.pointer (some ⟨1, 0, none⟩))), (9, (.bool false))]), ⟨2, 1, [(1, 0, .cells [(.int .u64 bb), (.int .i64 lg), (.bool false), (.int .i64 0), (.int .u64 0), (.int .u64 0), (.int .u64 0), (.int .u64 0)] 81 true), (0, 0, .tail pre .u64 l e)]⟩⟩
theorem R13 (pre : Nat) (n : Nat) (c : Nat) (bb : Int) (lg : Int) (l : List Int) (e : TypeId) : evCK Try.prog cfgA (runK Try.prog cfgA fsCrowd (conT grpDom grpE) 12 40) 12 (codeAt [1, 1, 1, 1, 0, 1, 0, 0] B) (S13 pre n c bb lg l e) (normC 1 [7, 9]) =
  some (.normal, (S14 bb lg pre l e)) := by kernel_rfl
theorem C1_1_1_1_0_1_0_1 : (codeAt [1, 1, 1, 1, 0, 1, 0, 1] B) = .seq (codeAt [1, 1, 1, 1, 0, 1, 0, 1, 0] B) (codeAt [1, 1, 1, 1, 0, 1, 0, 1, 1] B) := by kernel_rfl
theorem R14 (bb : Int) (lg : Int) (pre : Nat) (l : List Int) (e : TypeId) : evCK Try.prog cfgA (runK Try.prog cfgA fsCrowd (conT grpDom grpE) 12 40) 12 (codeAt [1, 1, 1, 1, 0, 1, 0, 1, 0] B) (S14 bb lg pre l e) (normC 1 [7, 9]) =
  some (.normal, (S14 bb lg pre l e)) := by kernel_rfl
theorem C1_1_1_1_0_1_0_1_1 : (codeAt [1, 1, 1, 1, 0, 1, 0, 1, 1] B) = .seq (codeAt [1, 1, 1, 1, 0, 1, 0, 1, 1, 0] B) (codeAt [1, 1, 1, 1, 0, 1, 0, 1, 1, 1] B) := by kernel_rfl
noncomputable def S15 (pre : Nat) (l : List Int) (e : TypeId) : KSt := ⟨(frameL 128 [(9, (.bool false)), (11, (.bool false))]), ⟨1, 1, [(0, 0, .tail pre .u64 l e)]⟩⟩
theorem R15 (bb : Int) (lg : Int) (pre : Nat) (l : List Int) (e : TypeId) : evCK Try.prog cfgA (runK Try.prog cfgA fsCrowd (conT grpDom grpE) 12 40) 12 (codeAt [1, 1, 1, 1, 0, 1, 0, 1, 1, 0] B) (S14 bb lg pre l e) (normC 1 [9, 11]) =
  some (.normal, (S15 pre l e)) := by kernel_rfl
theorem C1_1_1_1_0_1_0_1_1_1 : (codeAt [1, 1, 1, 1, 0, 1, 0, 1, 1, 1] B) = .seq (codeAt [1, 1, 1, 1, 0, 1, 0, 1, 1, 1, 0] B) (codeAt [1, 1, 1, 1, 0, 1, 0, 1, 1, 1, 1] B) := by kernel_rfl
theorem R16 (pre : Nat) (l : List Int) (e : TypeId) : evCK Try.prog cfgA (runK Try.prog cfgA fsCrowd (conT grpDom grpE) 12 40) 12 (codeAt [1, 1, 1, 1, 0, 1, 0, 1, 1, 1, 0] B) (S15 pre l e) (normC 1 [6]) =
  some (.normal, (S3 pre l e)) := by kernel_rfl
theorem C1_1_1_1_0_1_0_1_1_1_1 : (codeAt [1, 1, 1, 1, 0, 1, 0, 1, 1, 1, 1] B) = .ret := by kernel_rfl
theorem b0 (bb lg th : Int) (pre n c : Nat) (l : List Int) (e : TypeId)  (q1 : (decide (bb > 0)) = false) {Q : Ex → St → Prop} (hq : Q .ret (KSt.low (S3 pre l e))) : Gets Try.prog (KH.low ⟨1, 1, [(0, 0, .tail pre .u64 l e)]⟩) (codeAt [1, 1, 1, 1] B) (KSt.low (S8 pre n c bb lg l e)) Q := by
  rw [C1_1_1_1]; refine Gets.seq ?_
  rw [C1_1_1_1_0]; refine Gets.seq ?_
  refine Gets.ofN fitCrowd grp_sound (conT_agree _ _) 12 40 (by kernel_rfl) (x := .normal) (s' := (S13 pre n c bb lg l e)) ((R12 pre n c bb lg l e).trans (by rw [condF (q1)])) ?_
  show Gets _ _ (codeAt [1, 1, 1, 1, 0, 1] B) _ _
  rw [C1_1_1_1_0_1]; refine Gets.cond true (by kernel_rfl) (show evalX (KSt.ts (S13 pre n c bb lg l e)) (.tmp 34) = .bool true by kernel_rfl) ?_; show Gets _ _ (codeAt [1, 1, 1, 1, 0, 1, 0] B) _ _
  rw [C1_1_1_1_0_1_0]; refine Gets.seq ?_
  refine Gets.ofN fitCrowd grp_sound (conT_agree _ _) 12 40 (by kernel_rfl) (x := .normal) (s' := (S14 bb lg pre l e)) (R13 pre n c bb lg l e) ?_
  show Gets _ _ (codeAt [1, 1, 1, 1, 0, 1, 0, 1] B) _ _
  rw [C1_1_1_1_0_1_0_1]; refine Gets.seq ?_
  refine Gets.ofN fitCrowd grp_sound (conT_agree _ _) 12 40 (by kernel_rfl) (x := .normal) (s' := (S14 bb lg pre l e)) (R14 bb lg pre l e) ?_
  show Gets _ _ (codeAt [1, 1, 1, 1, 0, 1, 0, 1, 1] B) _ _
  rw [C1_1_1_1_0_1_0_1_1]; refine Gets.seq ?_
  refine Gets.ofN fitCrowd grp_sound (conT_agree _ _) 12 40 (by kernel_rfl) (x := .normal) (s' := (S15 pre l e)) (R15 bb lg pre l e) ?_
  show Gets _ _ (codeAt [1, 1, 1, 1, 0, 1, 0, 1, 1, 1] B) _ _
  rw [C1_1_1_1_0_1_0_1_1_1]; refine Gets.seq ?_
  refine Gets.ofN fitCrowd grp_sound (conT_agree _ _) 12 40 (by kernel_rfl) (x := .normal) (s' := (S3 pre l e)) (R16 pre l e) ?_
  show Gets _ _ (codeAt [1, 1, 1, 1, 0, 1, 0, 1, 1, 1, 1] B) _ _
  rw [C1_1_1_1_0_1_0_1_1_1_1]; refine Gets.ev fitCrowd.mix fitCrowd.cfg (fitCrowd.sound grp_sound 12 0) 12 rfl (s' := KSt.low (S3 pre l e)) (x := .ret) rfl ?_
  exact hq
theorem b0f (bb lg th : Int) (pre n c : Nat) (l : List Int) (e : TypeId)  (q1 : (decide (bb > 0)) = false) {Q : Ex → St → Prop} (hq : Q .ret (KSt.low (S3 pre l e))) : Gets Try.prog (KH.low ⟨1, 1, [(0, 0, .tail pre .u64 l e)]⟩) (codeAt [1, 1, 1, 1] B) (KSt.low (S8 pre n c bb lg l e)) Q := by
  rw [C1_1_1_1]; refine Gets.seq ?_
  rw [C1_1_1_1_0]; refine Gets.seq ?_
  refine Gets.ofN fitCrowd grp_sound (conT_agree _ _) 12 40 (by kernel_rfl) (x := .normal) (s' := (S13 pre n c bb lg l e)) ((R12 pre n c bb lg l e).trans (by rw [condF (q1)])) ?_
  show Gets _ _ (codeAt [1, 1, 1, 1, 0, 1] B) _ _
  rw [C1_1_1_1_0_1]; refine Gets.cond true (by kernel_rfl) (show evalX (KSt.ts (S13 pre n c bb lg l e)) (.tmp 34) = .bool true by kernel_rfl) ?_; show Gets _ _ (codeAt [1, 1, 1, 1, 0, 1, 0] B) _ _
  rw [C1_1_1_1_0_1_0]; refine Gets.seq ?_
  refine Gets.ofN fitCrowd grp_sound (conT_agree _ _) 12 40 (by kernel_rfl) (x := .normal) (s' := (S14 bb lg pre l e)) (R13 pre n c bb lg l e) ?_
  show Gets _ _ (codeAt [1, 1, 1, 1, 0, 1, 0, 1] B) _ _
  rw [C1_1_1_1_0_1_0_1]; refine Gets.seq ?_
  refine Gets.ofN fitCrowd grp_sound (conT_agree _ _) 12 40 (by kernel_rfl) (x := .normal) (s' := (S14 bb lg pre l e)) (R14 bb lg pre l e) ?_
  show Gets _ _ (codeAt [1, 1, 1, 1, 0, 1, 0, 1, 1] B) _ _
  rw [C1_1_1_1_0_1_0_1_1]; refine Gets.seq ?_
  refine Gets.ofN fitCrowd grp_sound (conT_agree _ _) 12 40 (by kernel_rfl) (x := .normal) (s' := (S15 pre l e)) (R15 bb lg pre l e) ?_
  show Gets _ _ (codeAt [1, 1, 1, 1, 0, 1, 0, 1, 1, 1] B) _ _
  rw [C1_1_1_1_0_1_0_1_1_1]; refine Gets.seq ?_
  refine Gets.ofN fitCrowd grp_sound (conT_agree _ _) 12 40 (by kernel_rfl) (x := .normal) (s' := (S3 pre l e)) (R16 pre l e) ?_
  show Gets _ _ (codeAt [1, 1, 1, 1, 0, 1, 0, 1, 1, 1, 1] B) _ _
  rw [C1_1_1_1_0_1_0_1_1_1_1]; refine Gets.ev fitCrowd.mix fitCrowd.cfg (fitCrowd.sound grp_sound 12 0) 12 rfl (s' := KSt.low (S3 pre l e)) (x := .ret) rfl ?_
  exact hq
noncomputable def S16 (pre : Nat) (n : Nat) (c : Nat) (lg : Int) (bb : Int) (l : List Int) (e : TypeId) : KSt := ⟨(frameL 128 [(2, (.slice (some ⟨0, pre, none⟩) n c)), (3, (.pointer (some ⟨1, 0, none⟩))), (7, (.pointer (some ⟨2, 0, none⟩))), (34, (.bool (!(decide ((groupsV lg) > 0)))))]), ⟨3, 1, [(2, 0, .cells [(.int .u64 bb), (.int .i64 lg), (.bool (decide ((groupsV lg) > 0))), (.int .i64 0), (.int .u64 0), (.int .u64 0), (.int .u64 0), (.int .u64 0)] 81 true), (1, 0, .cells [(.int .u64 bb), (.int .i64 lg)] 39 true), (0, 0, .tail pre .u64 l e)]⟩⟩
noncomputable def S17 (pre : Nat) (n : Nat) (c : Nat) (bb : Int) (lg : Int) (l : List Int) (e : TypeId) : KSt := ⟨(frameL 128 [(2, (.slice (some ⟨0, pre, none⟩) n c)), (3, (.pointer (some ⟨1, 0, none⟩))), (7, (.pointer (some ⟨2, 0, none⟩))), (34, (.bool true))]), ⟨3, 1, [(2, 0, .cells [(.int .u64 bb), (.int .i64 lg), (.bool (decide ((groupsV lg) > 0))), (.int .i64 0), (.int .u64 0), (.int .u64 0), (.int .u64 0), (.int .u64 0)] 81 true), (1, 0, .cells [(.int .u64 bb), (.int .i64 lg)] 39 true), (0, 0, .tail pre .u64 l e)]⟩⟩
theorem R17 (pre : Nat) (n : Nat) (c : Nat) (bb : Int) (lg : Int) (l : List Int) (e : TypeId) : evCK Try.prog cfgA (runK Try.prog cfgA fsCrowd (conT grpDom grpE) 12 40) 12 (codeAt [1, 1, 1, 1, 0, 0] B) (S11 pre n c bb lg l e) (normC 1 [2, 3, 7, 34]) =
  bif (decide (bb > 0)) then
    some (.normal, (S16 pre n c lg bb l e))
  else
    some (.normal, (S17 pre n c bb lg l e)) := by kernel_rfl
noncomputable def S18 (bb : Int) (lg : Int) (pre : Nat) (l : List Int) (e : TypeId) : KSt := ⟨(frameL 128 [(7, (.pointer (some ⟨1, 0, none⟩))), (9, (.bool false))]), ⟨2, 1, [(1, 0, .cells [(.int .u64 bb), (.int .i64 lg), (.bool (decide ((groupsV lg) > 0))), (.int .i64 0), (.int .u64 0), (.int .u64 0), (.int .u64 0), (.int .u64 0)] 81 true), (0, 0, .tail pre .u64 l e)]⟩⟩
noncomputable def S19 (bb : Int) (lg : Int) (pre : Nat) (l : List Int) (e : TypeId) : KSt := ⟨(frameL 128 [(7, (.pointer (some ⟨1, 0, none⟩))), (9, (.bool true))]), ⟨2, 1, [(1, 0, .cells [(.int .u64 bb), (.int .i64 lg), (.bool (decide ((groupsV lg) > 0))), (.int .i64 0), (.int .u64 0), (.int .u64 0), (.int .u64 0), (.int .u64 0)] 81 true), (0, 0, .tail pre .u64 l e)]⟩⟩
theorem R18 (pre : Nat) (n : Nat) (c : Nat) (lg : Int) (bb : Int) (l : List Int) (e : TypeId) : evCK Try.prog cfgA (runK Try.prog cfgA fsCrowd (conT grpDom grpE) 12 40) 12 (codeAt [1, 1, 1, 1, 0, 1, 0, 0] B) (S16 pre n c lg bb l e) (normC 1 [7, 9]) =
  bif (!(decide ((groupsV lg) > 0))) then
    some (.normal, (S18 bb lg pre l e))
  else
    some (.normal, (S19 bb lg pre l e)) := by kernel_rfl
theorem b1f (bb lg th : Int) (pre n c : Nat) (l : List Int) (e : TypeId)  (q1 : (decide (bb > 0)) = true) (q2 : (decide ((groupsV lg) > 0)) = false) {Q : Ex → St → Prop} (hq : Q .ret (KSt.low (S3 pre l e))) : Gets Try.prog (KH.low ⟨1, 1, [(0, 0, .tail pre .u64 l e)]⟩) (codeAt [1, 1, 1, 1] B) (KSt.low (S11 pre n c bb lg l e)) Q := by
  rw [C1_1_1_1]; refine Gets.seq ?_
  rw [C1_1_1_1_0]; refine Gets.seq ?_
  refine Gets.ofN fitCrowd grp_sound (conT_agree _ _) 12 40 (by kernel_rfl) (x := .normal) (s' := (S16 pre n c lg bb l e)) ((R17 pre n c bb lg l e).trans (by rw [condT (q1)])) ?_
  show Gets _ _ (codeAt [1, 1, 1, 1, 0, 1] B) _ _
  rw [C1_1_1_1_0_1]; refine Gets.cond true (by kernel_rfl) ((show evalX (KSt.ts (S16 pre n c lg bb l e)) (.tmp 34) = .bool (!(decide ((groupsV lg) > 0))) by kernel_rfl).trans (by rw [(show (!(decide ((groupsV lg) > 0))) = true from not_t (q2))])) ?_; show Gets _ _ (codeAt [1, 1, 1, 1, 0, 1, 0] B) _ _
  rw [C1_1_1_1_0_1_0]; refine Gets.seq ?_
  refine Gets.ofN fitCrowd grp_sound (conT_agree _ _) 12 40 (by kernel_rfl) (x := .normal) (s' := (S14 bb lg pre l e)) ((R18 pre n c lg bb l e).trans (by rw [condT (not_t (q2))] <;> (show some (Ex.normal, (S18 bb lg pre l e)) = some (Ex.normal, (S14 bb lg pre l e)); unfold S18 S14; rw [(show (decide ((groupsV lg) > 0)) = false from q2)]))) ?_
  show Gets _ _ (codeAt [1, 1, 1, 1, 0, 1, 0, 1] B) _ _
  rw [C1_1_1_1_0_1_0_1]; refine Gets.seq ?_
  refine Gets.ofN fitCrowd grp_sound (conT_agree _ _) 12 40 (by kernel_rfl) (x := .normal) (s' := (S14 bb lg pre l e)) (R14 bb lg pre l e) ?_
  show Gets _ _ (codeAt [1, 1, 1, 1, 0, 1, 0, 1, 1] B) _ _
  rw [C1_1_1_1_0_1_0_1_1]; refine Gets.seq ?_
  refine Gets.ofN fitCrowd grp_sound (conT_agree _ _) 12 40 (by kernel_rfl) (x := .normal) (s' := (S15 pre l e)) (R15 bb lg pre l e) ?_
  show Gets _ _ (codeAt [1, 1, 1, 1, 0, 1, 0, 1, 1, 1] B) _ _
  rw [C1_1_1_1_0_1_0_1_1_1]; refine Gets.seq ?_
  refine Gets.ofN fitCrowd grp_sound (conT_agree _ _) 12 40 (by kernel_rfl) (x := .normal) (s' := (S3 pre l e)) (R16 pre l e) ?_
  show Gets _ _ (codeAt [1, 1, 1, 1, 0, 1, 0, 1, 1, 1, 1] B) _ _
  rw [C1_1_1_1_0_1_0_1_1_1_1]; refine Gets.ev fitCrowd.mix fitCrowd.cfg (fitCrowd.sound grp_sound 12 0) 12 rfl (s' := KSt.low (S3 pre l e)) (x := .ret) rfl ?_
  exact hq
theorem R19 (pre : Nat) (n : Nat) (c : Nat) (lg : Int) (bb : Int) (l : List Int) (e : TypeId) : evCK Try.prog cfgA (runK Try.prog cfgA fsCrowd (conT grpDom grpE) 12 40) 12 (codeAt [1, 1, 1, 1, 0, 1, 1] B) (S16 pre n c lg bb l e) (normC 1 [2, 3, 7]) =
  some (.normal, (S11 pre n c bb lg l e)) := by kernel_rfl
noncomputable def S20 (pre : Nat) (n : Nat) (c : Nat) (bb : Int) (lg : Int) (l : List Int) (e : TypeId) : KSt := ⟨(frameL 128 [(2, (.slice (some ⟨0, pre, none⟩) n c)), (3, (.pointer (some ⟨1, 0, none⟩))), (7, (.pointer (some ⟨2, 0, none⟩)))]), ⟨3, 1, [(2, 0, .cells [(.int .u64 bb), (.int .i64 lg), (.bool true), (.int .i64 0), (.int .u64 0), (.int .u64 0), (.int .u64 0), (.int .u64 0)] 81 true), (1, 0, .cells [(.int .u64 bb), (.int .i64 lg)] 39 true), (0, 0, .tail pre .u64 l e)]⟩⟩
theorem C1_1_1_1_1 : (codeAt [1, 1, 1, 1, 1] B) = .seq (codeAt [1, 1, 1, 1, 1, 0] B) (codeAt [1, 1, 1, 1, 1, 1] B) := by kernel_rfl
theorem C1_1_1_1_1_0 : (codeAt [1, 1, 1, 1, 1, 0] B) = .seq (codeAt [1, 1, 1, 1, 1, 0, 0] B) (codeAt [1, 1, 1, 1, 1, 0, 1] B) := by kernel_rfl
noncomputable def S21 (pre : Nat) (n : Nat) (c : Nat) (bb : Int) (lg : Int) (l : List Int) (e : TypeId) : KSt := ⟨(frameL 128 [(2, (.slice (some ⟨0, pre, none⟩) n c)), (3, (.pointer (some ⟨1, 0, none⟩))), (7, (.pointer (some ⟨2, 0, none⟩))), (12, (.int .i64 0))]), ⟨3, 1, [(2, 0, .cells [(.int .u64 bb), (.int .i64 lg), (.bool true), (.int .i64 0), (.int .u64 0), (.int .u64 0), (.int .u64 0), (.int .u64 0)] 81 true), (1, 0, .cells [(.int .u64 bb), (.int .i64 lg)] 39 true), (0, 0, .tail pre .u64 l e)]⟩⟩
theorem R20 (pre : Nat) (n : Nat) (c : Nat) (bb : Int) (lg : Int) (l : List Int) (e : TypeId) : evCK Try.prog cfgA (runK Try.prog cfgA fsCrowd (conT grpDom grpE) 12 40) 12 (codeAt [1, 1, 1, 1, 1, 0, 0] B) (S20 pre n c bb lg l e) (normC 1 [2, 3, 7, 12]) =
  some (.normal, (S21 pre n c bb lg l e)) := by kernel_rfl
theorem b1 (bb lg th : Int) (pre n c : Nat) (l : List Int) (e : TypeId)  (q1 : (decide (bb > 0)) = true) (q2 : (decide ((groupsV lg) > 0)) = true) {Q : Ex → St → Prop} (hq : Gets Try.prog (KH.low ⟨1, 1, [(0, 0, .tail pre .u64 l e)]⟩) (codeAt [1, 1, 1, 1, 1, 0, 1] B) (KSt.low (S21 pre n c bb lg l e)) (onN (fun s => Gets Try.prog (KH.low ⟨1, 1, [(0, 0, .tail pre .u64 l e)]⟩) (codeAt [1, 1, 1, 1, 1, 1] B) s (Q)) (Q))) : Gets Try.prog (KH.low ⟨1, 1, [(0, 0, .tail pre .u64 l e)]⟩) (codeAt [1, 1, 1, 1] B) (KSt.low (S11 pre n c bb lg l e)) Q := by
  rw [C1_1_1_1]; refine Gets.seq ?_
  rw [C1_1_1_1_0]; refine Gets.seq ?_
  refine Gets.ofN fitCrowd grp_sound (conT_agree _ _) 12 40 (by kernel_rfl) (x := .normal) (s' := (S16 pre n c lg bb l e)) ((R17 pre n c bb lg l e).trans (by rw [condT (q1)])) ?_
  show Gets _ _ (codeAt [1, 1, 1, 1, 0, 1] B) _ _
  rw [C1_1_1_1_0_1]; refine Gets.cond false (by kernel_rfl) ((show evalX (KSt.ts (S16 pre n c lg bb l e)) (.tmp 34) = .bool (!(decide ((groupsV lg) > 0))) by kernel_rfl).trans (by rw [(show (!(decide ((groupsV lg) > 0))) = false from not_f (q2))])) ?_; show Gets _ _ (codeAt [1, 1, 1, 1, 0, 1, 1] B) _ _
  refine Gets.ofN fitCrowd grp_sound (conT_agree _ _) 12 40 (by kernel_rfl) (x := .normal) (s' := (S20 pre n c bb lg l e)) ((R19 pre n c lg bb l e).trans (by (show some (Ex.normal, (S11 pre n c bb lg l e)) = some (Ex.normal, (S20 pre n c bb lg l e)); unfold S11 S20; rw [(show (decide ((groupsV lg) > 0)) = true from q2)]))) ?_
  show Gets _ _ (codeAt [1, 1, 1, 1, 1] B) _ _
  rw [C1_1_1_1_1]; refine Gets.seq ?_
  rw [C1_1_1_1_1_0]; refine Gets.seq ?_
  refine Gets.ofN fitCrowd grp_sound (conT_agree _ _) 12 40 (by kernel_rfl) (x := .normal) (s' := (S21 pre n c bb lg l e)) (R20 pre n c bb lg l e) ?_
  show Gets _ _ (codeAt [1, 1, 1, 1, 1, 0, 1] B) _ _
  exact hq
theorem C1_1_1_1_1_0_1_0_0 : (codeAt [1, 1, 1, 1, 1, 0, 1, 0, 0] B) = .seq (codeAt [1, 1, 1, 1, 1, 0, 1, 0, 0, 0] B) (codeAt [1, 1, 1, 1, 1, 0, 1, 0, 0, 1] B) := by kernel_rfl
theorem C1_1_1_1_1_0_1_0_0_0 : (codeAt [1, 1, 1, 1, 1, 0, 1, 0, 0, 0] B) = .seq (codeAt [1, 1, 1, 1, 1, 0, 1, 0, 0, 0, 0] B) (codeAt [1, 1, 1, 1, 1, 0, 1, 0, 0, 0, 1] B) := by kernel_rfl
noncomputable def S22 (pre : Nat) (n : Nat) (c : Nat) (bb : Int) (lg : Int) (l : List Int) (e : TypeId) : KSt := ⟨(frameL 128 [(2, (.slice (some ⟨0, pre, none⟩) n c)), (3, (.pointer (some ⟨1, 0, none⟩))), (7, (.pointer (some ⟨2, 0, none⟩))), (12, (.int .i64 0)), (59, (.bool (decide (0 ≤ ((n : Nat) : Int)))))]), ⟨3, 1, [(2, 0, .cells [(.int .u64 bb), (.int .i64 lg), (.bool true), (.int .i64 0), (.int .u64 0), (.int .u64 0), (.int .u64 0), (.int .u64 0)] 81 true), (1, 0, .cells [(.int .u64 bb), (.int .i64 lg)] 39 true), (0, 0, .tail pre .u64 l e)]⟩⟩
theorem R21 (pre : Nat) (n : Nat) (c : Nat) (bb : Int) (lg : Int) (l : List Int) (e : TypeId) : evCK Try.prog cfgA (runK Try.prog cfgA fsCrowd (conT grpDom grpE) 12 40) 12 (codeAt [1, 1, 1, 1, 1, 0, 1, 0, 0, 0, 0] B) (S21 pre n c bb lg l e) (normC 1 [2, 3, 7, 12, 59]) =
  some (.normal, (S22 pre n c bb lg l e)) := by kernel_rfl
theorem C1_1_1_1_1_0_1_0_0_0_1 : (codeAt [1, 1, 1, 1, 1, 0, 1, 0, 0, 0, 1] B) = .cond (.tmp 59) (codeAt [1, 1, 1, 1, 1, 0, 1, 0, 0, 0, 1, 0] B) (codeAt [1, 1, 1, 1, 1, 0, 1, 0, 0, 0, 1, 1] B) := by kernel_rfl
theorem R22 (pre : Nat) (n : Nat) (c : Nat) (bb : Int) (lg : Int) (l : List Int) (e : TypeId) : evCK Try.prog cfgA (runK Try.prog cfgA fsCrowd (conT grpDom grpE) 12 40) 12 (codeAt [1, 1, 1, 1, 1, 0, 1, 0, 0, 0, 1, 0] B) (S22 pre n c bb lg l e) (normC 1 [2, 3, 7, 12]) =
  some (.normal, (S21 pre n c bb lg l e)) := by kernel_rfl
theorem C1_1_1_1_1_0_1_0_0_1 : (codeAt [1, 1, 1, 1, 1, 0, 1, 0, 0, 1] B) = .seq (codeAt [1, 1, 1, 1, 1, 0, 1, 0, 0, 1, 0] B) (codeAt [1, 1, 1, 1, 1, 0, 1, 0, 0, 1, 1] B) := by kernel_rfl
theorem C1_1_1_1_1_0_1_0_0_1_0 : (codeAt [1, 1, 1, 1, 1, 0, 1, 0, 0, 1, 0] B) = .block 1 (codeAt [1, 1, 1, 1, 1, 0, 1, 0, 0, 1, 0, 0] B) := by kernel_rfl
theorem C1_1_1_1_1_0_1_0_0_1_0_0 : (codeAt [1, 1, 1, 1, 1, 0, 1, 0, 0, 1, 0, 0] B) = .seq (codeAt [1, 1, 1, 1, 1, 0, 1, 0, 0, 1, 0, 0, 0] B) (codeAt [1, 1, 1, 1, 1, 0, 1, 0, 0, 1, 0, 0, 1] B) := by kernel_rfl
noncomputable def S23 (pre : Nat) (n : Nat) (c : Nat) (bb : Int) (lg : Int) (l : List Int) (e : TypeId) : KSt := ⟨(frameL 128 [(2, (.slice (some ⟨0, pre, none⟩) n c)), (3, (.pointer (some ⟨1, 0, none⟩))), (7, (.pointer (some ⟨2, 0, none⟩))), (12, (.int .i64 0)), (13, (.pointer (some ⟨3, 0, none⟩)))]), ⟨4, 1, [(3, 0, .cells [(.slice (some ⟨0, pre, none⟩) 0 (c - 0)), (.int .i64 0), (.bool false), (.int .i64 0), (.int .u64 0), (.int .i64 0), (.int .u64 0), (.int .u64 0)] 54 true), (2, 0, .cells [(.int .u64 bb), (.int .i64 lg), (.bool true), (.int .i64 0), (.int .u64 0), (.int .u64 0), (.int .u64 0), (.int .u64 0)] 81 true), (1, 0, .cells [(.int .u64 bb), (.int .i64 lg)] 39 true), (0, 0, .tail pre .u64 l e)]⟩⟩
noncomputable def S24 (pre : Nat) (n : Nat) (c : Nat) (bb : Int) (lg : Int) (l : List Int) (e : TypeId) : KSt := ⟨(frameL 128 [(2, (.slice (some ⟨0, pre, none⟩) n c)), (3, (.pointer (some ⟨1, 0, none⟩))), (7, (.pointer (some ⟨2, 0, none⟩))), (12, (.int .i64 0)), (13, (.pointer (some ⟨3, 0, none⟩)))]), ⟨4, 1, [(3, 0, .cells [(.slice (some ⟨0, (pre + 0), none⟩) 0 (c - 0)), (.int .i64 0), (.bool false), (.int .i64 0), (.int .u64 0), (.int .i64 0), (.int .u64 0), (.int .u64 0)] 54 true), (2, 0, .cells [(.int .u64 bb), (.int .i64 lg), (.bool true), (.int .i64 0), (.int .u64 0), (.int .u64 0), (.int .u64 0), (.int .u64 0)] 81 true), (1, 0, .cells [(.int .u64 bb), (.int .i64 lg)] 39 true), (0, 0, .tail pre .u64 l e)]⟩⟩
theorem R23 (pre : Nat) (n : Nat) (c : Nat) (bb : Int) (lg : Int) (l : List Int) (e : TypeId) : evCK Try.prog cfgA (runK Try.prog cfgA fsCrowd (conT grpDom grpE) 12 40) 12 (codeAt [1, 1, 1, 1, 1, 0, 1, 0, 0, 1, 0, 0, 0] B) (S21 pre n c bb lg l e) (normC 1 [2, 3, 7, 12, 13]) =
  if (0 : Int) ≤ 0 ∧ 0 ≤ ((c : Nat) : Int) then
    bif (true && (Nat.ble 0 c)) then
      bif (Nat.beq c 0) then
        some (.normal, (S23 pre n c bb lg l e))
      else
        some (.normal, (S24 pre n c bb lg l e))
    else
      none
  else
    none := by kernel_rfl
theorem C1_1_1_1_1_0_1_0_0_1_0_0_1 : (codeAt [1, 1, 1, 1, 1, 0, 1, 0, 0, 1, 0, 0, 1] B) = .seq (codeAt [1, 1, 1, 1, 1, 0, 1, 0, 0, 1, 0, 0, 1, 0] B) (codeAt [1, 1, 1, 1, 1, 0, 1, 0, 0, 1, 0, 0, 1, 1] B) := by kernel_rfl
noncomputable def S25 (pre : Nat) (n : Nat) (c : Nat) (lg : Int) (bb : Int) (l : List Int) (e : TypeId) : KSt := ⟨(frameL 128 [(2, (.slice (some ⟨0, pre, none⟩) n c)), (3, (.pointer (some ⟨1, 0, none⟩))), (7, (.pointer (some ⟨2, 0, none⟩))), (12, (.int .i64 0)), (13, (.pointer (some ⟨3, 0, none⟩))), (14, (.bool (decide (0 ≥ (IntKind.wrap .u64 (IntKind.wrap .i64 (7 * (groupsV lg))))))))]), ⟨4, 1, [(3, 0, .cells [(.slice (some ⟨0, (pre + 0), none⟩) 0 (c - 0)), (.int .i64 0), (.bool true), (.int .i64 1), (.int .u64 bb), (.int .i64 3), (.int .u64 0), (.int .u64 0)] 54 true), (2, 0, .cells [(.int .u64 bb), (.int .i64 lg), (.bool true), (.int .i64 0), (.int .u64 0), (.int .u64 0), (.int .u64 0), (.int .u64 0)] 81 true), (1, 0, .cells [(.int .u64 bb), (.int .i64 lg)] 39 true), (0, 0, .tail pre .u64 l e)]⟩⟩
theorem R24 (pre : Nat) (n : Nat) (c : Nat) (bb : Int) (lg : Int) (l : List Int) (e : TypeId) : evCK Try.prog cfgA (runK Try.prog cfgA fsCrowd (conT grpDom grpE) 12 40) 12 (codeAt [1, 1, 1, 1, 1, 0, 1, 0, 0, 1, 0, 0, 1, 0] B) (S24 pre n c bb lg l e) (normC 1 [2, 3, 7, 12, 13, 14]) =
  some (.normal, (S25 pre n c lg bb l e)) := by kernel_rfl
theorem C1_1_1_1_1_0_1_0_0_1_0_0_1_1 : (codeAt [1, 1, 1, 1, 1, 0, 1, 0, 0, 1, 0, 0, 1, 1] B) = .seq (codeAt [1, 1, 1, 1, 1, 0, 1, 0, 0, 1, 0, 0, 1, 1, 0] B) (codeAt [1, 1, 1, 1, 1, 0, 1, 0, 0, 1, 0, 0, 1, 1, 1] B) := by kernel_rfl
noncomputable def S26 (pre : Nat) (n : Nat) (c : Nat) (lg : Int) (bb : Int) (l : List Int) (e : TypeId) : KSt := ⟨(frameL 128 [(2, (.slice (some ⟨0, pre, none⟩) n c)), (3, (.pointer (some ⟨1, 0, none⟩))), (7, (.pointer (some ⟨2, 0, none⟩))), (12, (.int .i64 0)), (13, (.pointer (some ⟨3, 0, none⟩))), (14, (.bool (decide (0 ≥ (IntKind.wrap .u64 (IntKind.wrap .i64 (7 * (groupsV lg)))))))), (15, (.bool false)), (16, (.bool false))]), ⟨4, 1, [(3, 0, .cells [(.slice (some ⟨0, (pre + 0), none⟩) 0 (c - 0)), (.int .i64 0), (.bool true), (.int .i64 1), (.int .u64 bb), (.int .i64 3), (.int .u64 0), (.int .u64 0)] 54 true), (2, 0, .cells [(.int .u64 bb), (.int .i64 lg), (.bool true), (.int .i64 0), (.int .u64 0), (.int .u64 0), (.int .u64 0), (.int .u64 0)] 81 true), (1, 0, .cells [(.int .u64 bb), (.int .i64 lg)] 39 true), (0, 0, .tail pre .u64 l e)]⟩⟩
theorem R25 (pre : Nat) (n : Nat) (c : Nat) (lg : Int) (bb : Int) (l : List Int) (e : TypeId) : evCK Try.prog cfgA (runK Try.prog cfgA fsCrowd (conT grpDom grpE) 12 40) 12 (codeAt [1, 1, 1, 1, 1, 0, 1, 0, 0, 1, 0, 0, 1, 1, 0] B) (S25 pre n c lg bb l e) (normC 1 [2, 3, 7, 12, 13, 14, 15, 16]) =
  some (.normal, (S26 pre n c lg bb l e)) := by kernel_rfl
theorem C1_1_1_1_1_0_1_0_0_1_0_0_1_1_1 : (codeAt [1, 1, 1, 1, 1, 0, 1, 0, 0, 1, 0, 0, 1, 1, 1] B) = .seq (codeAt [1, 1, 1, 1, 1, 0, 1, 0, 0, 1, 0, 0, 1, 1, 1, 0] B) (codeAt [1, 1, 1, 1, 1, 0, 1, 0, 0, 1, 0, 0, 1, 1, 1, 1] B) := by kernel_rfl
noncomputable def S27 (pre : Nat) (n : Nat) (c : Nat) (lg : Int) (bb : Int) (l : List Int) (e : TypeId) : KSt := ⟨(frameL 128 [(2, (.slice (some ⟨0, pre, none⟩) n c)), (3, (.pointer (some ⟨1, 0, none⟩))), (7, (.pointer (some ⟨2, 0, none⟩))), (12, (.int .i64 0)), (13, (.pointer (some ⟨3, 0, none⟩))), (14, (.bool (decide (0 ≥ (IntKind.wrap .u64 (IntKind.wrap .i64 (7 * (groupsV lg)))))))), (15, (.bool false)), (16, (.bool false)), (17, (.pointer (some ⟨4, 0, none⟩))), (18, (.bool true))]), ⟨5, 1, [(4, 0, .cells [(.int .i64 1), (.int .u64 bb), (.int .i64 3), (.int .u64 0), (.int .u64 0)] 44 true), (3, 0, .cells [(.slice (some ⟨0, (pre + 0), none⟩) 0 (c - 0)), (.int .i64 0), (.bool true), (.int .i64 1), (.int .u64 bb), (.int .i64 3), (.int .u64 0), (.int .u64 0)] 54 true), (2, 0, .cells [(.int .u64 bb), (.int .i64 lg), (.bool true), (.int .i64 0), (.int .u64 0), (.int .u64 0), (.int .u64 0), (.int .u64 0)] 81 true), (1, 0, .cells [(.int .u64 bb), (.int .i64 lg)] 39 true), (0, 0, .tail pre .u64 l e)]⟩⟩
theorem R26 (pre : Nat) (n : Nat) (c : Nat) (lg : Int) (bb : Int) (l : List Int) (e : TypeId) : evCK Try.prog cfgA (runK Try.prog cfgA fsCrowd (conT grpDom grpE) 12 40) 12 (codeAt [1, 1, 1, 1, 1, 0, 1, 0, 0, 1, 0, 0, 1, 1, 1, 0] B) (S26 pre n c lg bb l e) (normC 1 [2, 3, 7, 12, 13, 14, 15, 16, 17, 18]) =
  some (.normal, (S27 pre n c lg bb l e)) := by kernel_rfl
theorem C1_1_1_1_1_0_1_0_0_1_0_0_1_1_1_1 : (codeAt [1, 1, 1, 1, 1, 0, 1, 0, 0, 1, 0, 0, 1, 1, 1, 1] B) = .seq (codeAt [1, 1, 1, 1, 1, 0, 1, 0, 0, 1, 0, 0, 1, 1, 1, 1, 0] B) (codeAt [1, 1, 1, 1, 1, 0, 1, 0, 0, 1, 0, 0, 1, 1, 1, 1, 1] B) := by kernel_rfl
theorem C1_1_1_1_1_0_1_0_0_1_0_0_1_1_1_1_0 : (codeAt [1, 1, 1, 1, 1, 0, 1, 0, 0, 1, 0, 0, 1, 1, 1, 1, 0] B) = .seq (codeAt [1, 1, 1, 1, 1, 0, 1, 0, 0, 1, 0, 0, 1, 1, 1, 1, 0, 0] B) (codeAt [1, 1, 1, 1, 1, 0, 1, 0, 0, 1, 0, 0, 1, 1, 1, 1, 0, 1] B) := by kernel_rfl
noncomputable def S28 (pre : Nat) (n : Nat) (c : Nat) (bb : Int) (lg : Int) (l : List Int) (e : TypeId) : KSt := ⟨(frameL 128 [(2, (.slice (some ⟨0, pre, none⟩) n c)), (3, (.pointer (some ⟨1, 0, none⟩))), (7, (.pointer (some ⟨2, 0, none⟩))), (12, (.int .i64 0)), (116, (.bool true))]), ⟨3, 1, [(2, 0, .cells [(.int .u64 bb), (.int .i64 lg), (.bool true), (.int .i64 0), (.int .u64 0), (.int .u64 0), (.int .u64 0), (.int .u64 0)] 81 true), (1, 0, .cells [(.int .u64 bb), (.int .i64 lg)] 39 true), (0, 0, .tail pre .u64 l e)]⟩⟩
noncomputable def S29 (pre : Nat) (n : Nat) (c : Nat) (bb : Int) (lg : Int) (l : List Int) (e : TypeId) : KSt := ⟨(frameL 128 [(2, (.slice (some ⟨0, pre, none⟩) n c)), (3, (.pointer (some ⟨1, 0, none⟩))), (7, (.pointer (some ⟨2, 0, none⟩))), (12, (.int .i64 0)), (116, (.bool false))]), ⟨3, 1, [(2, 0, .cells [(.int .u64 bb), (.int .i64 lg), (.bool true), (.int .i64 0), (.int .u64 0), (.int .u64 0), (.int .u64 0), (.int .u64 0)] 81 true), (1, 0, .cells [(.int .u64 bb), (.int .i64 lg)] 39 true), (0, 0, .tail pre .u64 l e)]⟩⟩
theorem R27 (pre : Nat) (n : Nat) (c : Nat) (lg : Int) (bb : Int) (l : List Int) (e : TypeId) : evCK Try.prog cfgA (runK Try.prog cfgA fsCrowd (conT grpDom grpE) 12 40) 12 (codeAt [1, 1, 1, 1, 1, 0, 1, 0, 0, 1, 0, 0, 1, 1, 1, 1, 0, 0] B) (S27 pre n c lg bb l e) (normC 1 [2, 3, 7, 12, 116]) =
  bif (!(true && ((bb == bb) && true))) then
    some (.normal, (S28 pre n c bb lg l e))
  else
    some (.normal, (S29 pre n c bb lg l e)) := by kernel_rfl
theorem C1_1_1_1_1_0_1_0_0_1_0_0_1_1_1_1_0_1 : (codeAt [1, 1, 1, 1, 1, 0, 1, 0, 0, 1, 0, 0, 1, 1, 1, 1, 0, 1] B) = .cond (.tmp 116) (codeAt [1, 1, 1, 1, 1, 0, 1, 0, 0, 1, 0, 0, 1, 1, 1, 1, 0, 1, 0] B) (codeAt [1, 1, 1, 1, 1, 0, 1, 0, 0, 1, 0, 0, 1, 1, 1, 1, 0, 1, 1] B) := by kernel_rfl
theorem R28 (pre : Nat) (n : Nat) (c : Nat) (bb : Int) (lg : Int) (l : List Int) (e : TypeId) : evCK Try.prog cfgA (runK Try.prog cfgA fsCrowd (conT grpDom grpE) 12 40) 12 (codeAt [1, 1, 1, 1, 1, 0, 1, 0, 0, 1, 0, 0, 1, 1, 1, 1, 0, 1, 1] B) (S29 pre n c bb lg l e) (normC 1 [2, 3, 7, 12]) =
  some (.normal, (S21 pre n c bb lg l e)) := by kernel_rfl
theorem C1_1_1_1_1_0_1_0_0_1_0_0_1_1_1_1_1 : (codeAt [1, 1, 1, 1, 1, 0, 1, 0, 0, 1, 0, 0, 1, 1, 1, 1, 1] B) = .seq (codeAt [1, 1, 1, 1, 1, 0, 1, 0, 0, 1, 0, 0, 1, 1, 1, 1, 1, 0] B) (codeAt [1, 1, 1, 1, 1, 0, 1, 0, 0, 1, 0, 0, 1, 1, 1, 1, 1, 1] B) := by kernel_rfl
noncomputable def S30 (pre : Nat) (n : Nat) (c : Nat) (bb : Int) (lg : Int) (l : List Int) (e : TypeId) : KSt := ⟨(frameL 128 [(2, (.slice (some ⟨0, pre, none⟩) n c)), (3, (.pointer (some ⟨1, 0, none⟩))), (7, (.pointer (some ⟨2, 0, none⟩))), (12, (.int .i64 0)), (120, (.bool (decide (0 < ((n : Nat) : Int)))))]), ⟨3, 1, [(2, 0, .cells [(.int .u64 bb), (.int .i64 lg), (.bool true), (.int .i64 0), (.int .u64 0), (.int .u64 0), (.int .u64 0), (.int .u64 0)] 81 true), (1, 0, .cells [(.int .u64 bb), (.int .i64 lg)] 39 true), (0, 0, .tail pre .u64 l e)]⟩⟩
theorem R29 (pre : Nat) (n : Nat) (c : Nat) (bb : Int) (lg : Int) (l : List Int) (e : TypeId) : evCK Try.prog cfgA (runK Try.prog cfgA fsCrowd (conT grpDom grpE) 12 40) 12 (codeAt [1, 1, 1, 1, 1, 0, 1, 0, 0, 1, 0, 0, 1, 1, 1, 1, 1, 0] B) (S21 pre n c bb lg l e) (normC 1 [2, 3, 7, 12, 120]) =
  some (.normal, (S30 pre n c bb lg l e)) := by kernel_rfl
theorem C1_1_1_1_1_0_1_0_0_1_0_0_1_1_1_1_1_1 : (codeAt [1, 1, 1, 1, 1, 0, 1, 0, 0, 1, 0, 0, 1, 1, 1, 1, 1, 1] B) = .cond (.tmp 120) (codeAt [1, 1, 1, 1, 1, 0, 1, 0, 0, 1, 0, 0, 1, 1, 1, 1, 1, 1, 0] B) (codeAt [1, 1, 1, 1, 1, 0, 1, 0, 0, 1, 0, 0, 1, 1, 1, 1, 1, 1, 1] B) := by kernel_rfl
noncomputable def S31 (pre : Nat) (n : Nat) (c : Nat) (bb : Int) (lg : Int) (n1 : Int) (l : List Int) (e : TypeId) : KSt := ⟨(frameL 128 [(2, (.slice (some ⟨0, pre, none⟩) n c)), (3, (.pointer (some ⟨1, 0, none⟩))), (7, (.pointer (some ⟨2, 0, none⟩))), (12, (.int .i64 0))]), ⟨3, 1, [(2, 0, .cells [(.int .u64 bb), (.int .i64 lg), (.bool true), (.int .i64 1), (.int .u64 n1), (.int .u64 0), (.int .u64 0), (.int .u64 0)] 81 true), (1, 0, .cells [(.int .u64 bb), (.int .i64 lg)] 39 true), (0, 0, .tail pre .u64 l e)]⟩⟩
theorem R30 (pre : Nat) (n : Nat) (c : Nat) (bb : Int) (lg : Int) (l : List Int) (e : TypeId) : evCK Try.prog cfgA (runK Try.prog cfgA fsCrowd (conT grpDom grpE) 12 40) 12 (codeAt [1, 1, 1, 1, 1, 0, 1, 0, 0, 1, 0, 0, 1, 1, 1, 1, 1, 1, 0] B) (S30 pre n c bb lg l e) (normC 1 [2, 3, 7, 12]) =
  if (0 : Int) ≤ 0 ∧ 0 < ((n : Nat) : Int) then
    bif (Nat.ble pre (pre + 0)) then
      obind (l[((pre + 0) - pre)]?) fun n1 =>
        some (.normal, (S31 pre n c bb lg n1 l e))
    else
      none
  else
    none := by kernel_rfl
noncomputable def S32 (pre : Nat) (n : Nat) (c : Nat) (bb : Int) (lg : Int) (l : List Int) (e : TypeId) : KSt := ⟨(frameL 128 [(2, (.slice (some ⟨0, pre, none⟩) n c)), (3, (.pointer (some ⟨1, 0, none⟩))), (7, (.pointer (some ⟨2, 0, none⟩))), (12, (.int .i64 0))]), ⟨3, 1, [(2, 0, .cells [(.int .u64 bb), (.int .i64 lg), (.bool true), (.int .i64 1), (.int .u64 (l.getD 0 0)), (.int .u64 0), (.int .u64 0), (.int .u64 0)] 81 true), (1, 0, .cells [(.int .u64 bb), (.int .i64 lg)] 39 true), (0, 0, .tail pre .u64 l e)]⟩⟩
noncomputable def S33 (pre : Nat) (n : Nat) (c : Nat) (bb : Int) (lg : Int) (l : List Int) (e : TypeId) : KSt := ⟨(frameL 128 [(2, (.slice (some ⟨0, pre, none⟩) n c)), (3, (.pointer (some ⟨1, 0, none⟩))), (7, (.pointer (some ⟨2, 0, none⟩))), (12, (.int .i64 1))]), ⟨3, 1, [(2, 0, .cells [(.int .u64 bb), (.int .i64 lg), (.bool true), (.int .i64 1), (.int .u64 (l.getD 0 0)), (.int .u64 0), (.int .u64 0), (.int .u64 0)] 81 true), (1, 0, .cells [(.int .u64 bb), (.int .i64 lg)] 39 true), (0, 0, .tail pre .u64 l e)]⟩⟩
theorem R31 (pre : Nat) (n : Nat) (c : Nat) (bb : Int) (lg : Int) (l : List Int) (e : TypeId) : evCK Try.prog cfgA (runK Try.prog cfgA fsCrowd (conT grpDom grpE) 12 40) 12 (codeAt [1, 1, 1, 1, 1, 0, 1, 0, 0, 1, 1] B) (S32 pre n c bb lg l e) (normC 1 [2, 3, 7, 12]) =
  some (.normal, (S33 pre n c bb lg l e)) := by kernel_rfl
theorem l00 (bb lg i : Int) (pre n c : Nat) (l : List Int) (e : TypeId)  (hn20 : n ≤ 20) (hc : n ≤ c) (hc2 : c ≤ 9223372036854775807) (hl : l.length = c) (hc0 : 0 < c) (hn : 0 < (n : Int))  {Q : Ex → St → Prop} (hq : Q .normal (KSt.low (S33 pre n c bb lg l e))) : Gets Try.prog (KH.low ⟨1, 1, [(0, 0, .tail pre .u64 l e)]⟩) (codeAt [1, 1, 1, 1, 1, 0, 1, 0, 0] B) (KSt.low (S21 pre n c bb lg l e)) Q := by
  rw [C1_1_1_1_1_0_1_0_0]; refine Gets.seq ?_
  rw [C1_1_1_1_1_0_1_0_0_0]; refine Gets.seq ?_
  refine Gets.ofN fitCrowd grp_sound (conT_agree _ _) 12 40 (by kernel_rfl) (x := .normal) (s' := (S22 pre n c bb lg l e)) (R21 pre n c bb lg l e) ?_
  show Gets _ _ (codeAt [1, 1, 1, 1, 1, 0, 1, 0, 0, 0, 1] B) _ _
  rw [C1_1_1_1_1_0_1_0_0_0_1]; refine Gets.cond true (by kernel_rfl) ((show evalX (KSt.ts (S22 pre n c bb lg l e)) (.tmp 59) = .bool (decide (0 ≤ ((n : Nat) : Int))) by kernel_rfl).trans (by rw [(show (decide (0 ≤ ((n : Nat) : Int))) = true from decide_eq_true (by omega))])) ?_; show Gets _ _ (codeAt [1, 1, 1, 1, 1, 0, 1, 0, 0, 0, 1, 0] B) _ _
  refine Gets.ofN fitCrowd grp_sound (conT_agree _ _) 12 40 (by kernel_rfl) (x := .normal) (s' := (S21 pre n c bb lg l e)) (R22 pre n c bb lg l e) ?_
  show Gets _ _ (codeAt [1, 1, 1, 1, 1, 0, 1, 0, 0, 1] B) _ _
  rw [C1_1_1_1_1_0_1_0_0_1]; refine Gets.seq ?_
  rw [C1_1_1_1_1_0_1_0_0_1_0]; refine Gets.block ?_
  rw [C1_1_1_1_1_0_1_0_0_1_0_0]; refine Gets.seq ?_
  refine Gets.ofN fitCrowd grp_sound (conT_agree _ _) 12 40 (by kernel_rfl) (x := .normal) (s' := (S24 pre n c bb lg l e)) ((R23 pre n c bb lg l e).trans (by rw [if_pos (⟨by omega, by omega⟩), condT (and_t (rfl) (ble_t (by omega))), condF (nbeq_f (by omega))])) ?_
  show Gets _ _ (codeAt [1, 1, 1, 1, 1, 0, 1, 0, 0, 1, 0, 0, 1] B) _ _
  rw [C1_1_1_1_1_0_1_0_0_1_0_0_1]; refine Gets.seq ?_
  refine Gets.ofN fitCrowd grp_sound (conT_agree _ _) 12 40 (by kernel_rfl) (x := .normal) (s' := (S25 pre n c lg bb l e)) (R24 pre n c bb lg l e) ?_
  show Gets _ _ (codeAt [1, 1, 1, 1, 1, 0, 1, 0, 0, 1, 0, 0, 1, 1] B) _ _
  rw [C1_1_1_1_1_0_1_0_0_1_0_0_1_1]; refine Gets.seq ?_
  refine Gets.ofN fitCrowd grp_sound (conT_agree _ _) 12 40 (by kernel_rfl) (x := .normal) (s' := (S26 pre n c lg bb l e)) (R25 pre n c lg bb l e) ?_
  show Gets _ _ (codeAt [1, 1, 1, 1, 1, 0, 1, 0, 0, 1, 0, 0, 1, 1, 1] B) _ _
  rw [C1_1_1_1_1_0_1_0_0_1_0_0_1_1_1]; refine Gets.seq ?_
  refine Gets.ofN fitCrowd grp_sound (conT_agree _ _) 12 40 (by kernel_rfl) (x := .normal) (s' := (S27 pre n c lg bb l e)) (R26 pre n c lg bb l e) ?_
  show Gets _ _ (codeAt [1, 1, 1, 1, 1, 0, 1, 0, 0, 1, 0, 0, 1, 1, 1, 1] B) _ _
  rw [C1_1_1_1_1_0_1_0_0_1_0_0_1_1_1_1]; refine Gets.seq ?_
  rw [C1_1_1_1_1_0_1_0_0_1_0_0_1_1_1_1_0]; refine Gets.seq ?_
  refine Gets.ofN fitCrowd grp_sound (conT_agree _ _) 12 40 (by kernel_rfl) (x := .normal) (s' := (S29 pre n c bb lg l e)) ((R27 pre n c lg bb l e).trans (by rw [condF (not_f (and_t (rfl) (and_t (beq_self_eq_true _) (rfl))))])) ?_
  show Gets _ _ (codeAt [1, 1, 1, 1, 1, 0, 1, 0, 0, 1, 0, 0, 1, 1, 1, 1, 0, 1] B) _ _
  rw [C1_1_1_1_1_0_1_0_0_1_0_0_1_1_1_1_0_1]; refine Gets.cond false (by kernel_rfl) (show evalX (KSt.ts (S29 pre n c bb lg l e)) (.tmp 116) = .bool false by kernel_rfl) ?_; show Gets _ _ (codeAt [1, 1, 1, 1, 1, 0, 1, 0, 0, 1, 0, 0, 1, 1, 1, 1, 0, 1, 1] B) _ _
  refine Gets.ofN fitCrowd grp_sound (conT_agree _ _) 12 40 (by kernel_rfl) (x := .normal) (s' := (S21 pre n c bb lg l e)) (R28 pre n c bb lg l e) ?_
  show Gets _ _ (codeAt [1, 1, 1, 1, 1, 0, 1, 0, 0, 1, 0, 0, 1, 1, 1, 1, 1] B) _ _
  rw [C1_1_1_1_1_0_1_0_0_1_0_0_1_1_1_1_1]; refine Gets.seq ?_
  refine Gets.ofN fitCrowd grp_sound (conT_agree _ _) 12 40 (by kernel_rfl) (x := .normal) (s' := (S30 pre n c bb lg l e)) (R29 pre n c bb lg l e) ?_
  show Gets _ _ (codeAt [1, 1, 1, 1, 1, 0, 1, 0, 0, 1, 0, 0, 1, 1, 1, 1, 1, 1] B) _ _
  rw [C1_1_1_1_1_0_1_0_0_1_0_0_1_1_1_1_1_1]; refine Gets.cond true (by kernel_rfl) ((show evalX (KSt.ts (S30 pre n c bb lg l e)) (.tmp 120) = .bool (decide (0 < ((n : Nat) : Int))) by kernel_rfl).trans (by rw [(show (decide (0 < ((n : Nat) : Int))) = true from decide_eq_true (by omega))])) ?_; show Gets _ _ (codeAt [1, 1, 1, 1, 1, 0, 1, 0, 0, 1, 0, 0, 1, 1, 1, 1, 1, 1, 0] B) _ _
  refine Gets.ofN fitCrowd grp_sound (conT_agree _ _) 12 40 (by kernel_rfl) (x := .normal) (s' := (S32 pre n c bb lg l e)) ((R30 pre n c bb lg l e).trans (by rw [if_pos (⟨by omega, by omega⟩), condT (ble_t (by omega)), obind_at (k := 0) (by omega) (by omega)] <;> rfl)) ?_
  show Gets _ _ (codeAt [1, 1, 1, 1, 1, 0, 1, 0, 0, 1, 1] B) _ _
  refine Gets.ofN fitCrowd grp_sound (conT_agree _ _) 12 40 (by kernel_rfl) (x := .normal) (s' := (S33 pre n c bb lg l e)) (R31 pre n c bb lg l e) ?_
  exact hq
theorem R32 (pre : Nat) (n : Nat) (c : Nat) (bb : Int) (lg : Int) (l : List Int) (e : TypeId) : evCK Try.prog cfgA (runK Try.prog cfgA fsCrowd (conT grpDom grpE) 12 40) 12 (codeAt [1, 1, 1, 1, 1, 0, 1, 0, 0, 1, 0, 0, 1, 1, 1, 1, 1, 1, 1] B) (S30 pre n c bb lg l e) (normC 1 [2, 3, 7, 12]) =
  some (.normal, (S21 pre n c bb lg l e)) := by kernel_rfl
noncomputable def S34 (pre : Nat) (n : Nat) (c : Nat) (bb : Int) (lg : Int) (l : List Int) (e : TypeId) : KSt := ⟨(frameL 128 [(2, (.slice (some ⟨0, pre, none⟩) n c)), (3, (.pointer (some ⟨1, 0, none⟩))), (7, (.pointer (some ⟨2, 0, none⟩))), (12, (.int .i64 1))]), ⟨3, 1, [(2, 0, .cells [(.int .u64 bb), (.int .i64 lg), (.bool true), (.int .i64 0), (.int .u64 0), (.int .u64 0), (.int .u64 0), (.int .u64 0)] 81 true), (1, 0, .cells [(.int .u64 bb), (.int .i64 lg)] 39 true), (0, 0, .tail pre .u64 l e)]⟩⟩
theorem R33 (pre : Nat) (n : Nat) (c : Nat) (bb : Int) (lg : Int) (l : List Int) (e : TypeId) : evCK Try.prog cfgA (runK Try.prog cfgA fsCrowd (conT grpDom grpE) 12 40) 12 (codeAt [1, 1, 1, 1, 1, 0, 1, 0, 0, 1, 1] B) (S21 pre n c bb lg l e) (normC 1 [2, 3, 7, 12]) =
  some (.normal, (S34 pre n c bb lg l e)) := by kernel_rfl
theorem l01 (bb lg i : Int) (pre n c : Nat) (l : List Int) (e : TypeId)  (hn20 : n ≤ 20) (hc : n ≤ c) (hc2 : c ≤ 9223372036854775807) (hl : l.length = c) (hc0 : 0 < c) (hn : 0 = (n : Int))  {Q : Ex → St → Prop} (hq : Q .normal (KSt.low (S34 pre n c bb lg l e))) : Gets Try.prog (KH.low ⟨1, 1, [(0, 0, .tail pre .u64 l e)]⟩) (codeAt [1, 1, 1, 1, 1, 0, 1, 0, 0] B) (KSt.low (S21 pre n c bb lg l e)) Q := by
  rw [C1_1_1_1_1_0_1_0_0]; refine Gets.seq ?_
  rw [C1_1_1_1_1_0_1_0_0_0]; refine Gets.seq ?_
  refine Gets.ofN fitCrowd grp_sound (conT_agree _ _) 12 40 (by kernel_rfl) (x := .normal) (s' := (S22 pre n c bb lg l e)) (R21 pre n c bb lg l e) ?_
  show Gets _ _ (codeAt [1, 1, 1, 1, 1, 0, 1, 0, 0, 0, 1] B) _ _
  rw [C1_1_1_1_1_0_1_0_0_0_1]; refine Gets.cond true (by kernel_rfl) ((show evalX (KSt.ts (S22 pre n c bb lg l e)) (.tmp 59) = .bool (decide (0 ≤ ((n : Nat) : Int))) by kernel_rfl).trans (by rw [(show (decide (0 ≤ ((n : Nat) : Int))) = true from decide_eq_true (by omega))])) ?_; show Gets _ _ (codeAt [1, 1, 1, 1, 1, 0, 1, 0, 0, 0, 1, 0] B) _ _
  refine Gets.ofN fitCrowd grp_sound (conT_agree _ _) 12 40 (by kernel_rfl) (x := .normal) (s' := (S21 pre n c bb lg l e)) (R22 pre n c bb lg l e) ?_
  show Gets _ _ (codeAt [1, 1, 1, 1, 1, 0, 1, 0, 0, 1] B) _ _
  rw [C1_1_1_1_1_0_1_0_0_1]; refine Gets.seq ?_
  rw [C1_1_1_1_1_0_1_0_0_1_0]; refine Gets.block ?_
  rw [C1_1_1_1_1_0_1_0_0_1_0_0]; refine Gets.seq ?_
  refine Gets.ofN fitCrowd grp_sound (conT_agree _ _) 12 40 (by kernel_rfl) (x := .normal) (s' := (S24 pre n c bb lg l e)) ((R23 pre n c bb lg l e).trans (by rw [if_pos (⟨by omega, by omega⟩), condT (and_t (rfl) (ble_t (by omega))), condF (nbeq_f (by omega))])) ?_
  show Gets _ _ (codeAt [1, 1, 1, 1, 1, 0, 1, 0, 0, 1, 0, 0, 1] B) _ _
  rw [C1_1_1_1_1_0_1_0_0_1_0_0_1]; refine Gets.seq ?_
  refine Gets.ofN fitCrowd grp_sound (conT_agree _ _) 12 40 (by kernel_rfl) (x := .normal) (s' := (S25 pre n c lg bb l e)) (R24 pre n c bb lg l e) ?_
  show Gets _ _ (codeAt [1, 1, 1, 1, 1, 0, 1, 0, 0, 1, 0, 0, 1, 1] B) _ _
  rw [C1_1_1_1_1_0_1_0_0_1_0_0_1_1]; refine Gets.seq ?_
  refine Gets.ofN fitCrowd grp_sound (conT_agree _ _) 12 40 (by kernel_rfl) (x := .normal) (s' := (S26 pre n c lg bb l e)) (R25 pre n c lg bb l e) ?_
  show Gets _ _ (codeAt [1, 1, 1, 1, 1, 0, 1, 0, 0, 1, 0, 0, 1, 1, 1] B) _ _
  rw [C1_1_1_1_1_0_1_0_0_1_0_0_1_1_1]; refine Gets.seq ?_
  refine Gets.ofN fitCrowd grp_sound (conT_agree _ _) 12 40 (by kernel_rfl) (x := .normal) (s' := (S27 pre n c lg bb l e)) (R26 pre n c lg bb l e) ?_
  show Gets _ _ (codeAt [1, 1, 1, 1, 1, 0, 1, 0, 0, 1, 0, 0, 1, 1, 1, 1] B) _ _
  rw [C1_1_1_1_1_0_1_0_0_1_0_0_1_1_1_1]; refine Gets.seq ?_
  rw [C1_1_1_1_1_0_1_0_0_1_0_0_1_1_1_1_0]; refine Gets.seq ?_
  refine Gets.ofN fitCrowd grp_sound (conT_agree _ _) 12 40 (by kernel_rfl) (x := .normal) (s' := (S29 pre n c bb lg l e)) ((R27 pre n c lg bb l e).trans (by rw [condF (not_f (and_t (rfl) (and_t (beq_self_eq_true _) (rfl))))])) ?_
  show Gets _ _ (codeAt [1, 1, 1, 1, 1, 0, 1, 0, 0, 1, 0, 0, 1, 1, 1, 1, 0, 1] B) _ _
  rw [C1_1_1_1_1_0_1_0_0_1_0_0_1_1_1_1_0_1]; refine Gets.cond false (by kernel_rfl) (show evalX (KSt.ts (S29 pre n c bb lg l e)) (.tmp 116) = .bool false by kernel_rfl) ?_; show Gets _ _ (codeAt [1, 1, 1, 1, 1, 0, 1, 0, 0, 1, 0, 0, 1, 1, 1, 1, 0, 1, 1] B) _ _
  refine Gets.ofN fitCrowd grp_sound (conT_agree _ _) 12 40 (by kernel_rfl) (x := .normal) (s' := (S21 pre n c bb lg l e)) (R28 pre n c bb lg l e) ?_
  show Gets _ _ (codeAt [1, 1, 1, 1, 1, 0, 1, 0, 0, 1, 0, 0, 1, 1, 1, 1, 1] B) _ _
  rw [C1_1_1_1_1_0_1_0_0_1_0_0_1_1_1_1_1]; refine Gets.seq ?_
  refine Gets.ofN fitCrowd grp_sound (conT_agree _ _) 12 40 (by kernel_rfl) (x := .normal) (s' := (S30 pre n c bb lg l e)) (R29 pre n c bb lg l e) ?_
  show Gets _ _ (codeAt [1, 1, 1, 1, 1, 0, 1, 0, 0, 1, 0, 0, 1, 1, 1, 1, 1, 1] B) _ _
  rw [C1_1_1_1_1_0_1_0_0_1_0_0_1_1_1_1_1_1]; refine Gets.cond false (by kernel_rfl) ((show evalX (KSt.ts (S30 pre n c bb lg l e)) (.tmp 120) = .bool (decide (0 < ((n : Nat) : Int))) by kernel_rfl).trans (by rw [(show (decide (0 < ((n : Nat) : Int))) = false from decide_eq_false (by omega))])) ?_; show Gets _ _ (codeAt [1, 1, 1, 1, 1, 0, 1, 0, 0, 1, 0, 0, 1, 1, 1, 1, 1, 1, 1] B) _ _
  refine Gets.ofN fitCrowd grp_sound (conT_agree _ _) 12 40 (by kernel_rfl) (x := .normal) (s' := (S21 pre n c bb lg l e)) (R32 pre n c bb lg l e) ?_
  show Gets _ _ (codeAt [1, 1, 1, 1, 1, 0, 1, 0, 0, 1, 1] B) _ _
  refine Gets.ofN fitCrowd grp_sound (conT_agree _ _) 12 40 (by kernel_rfl) (x := .normal) (s' := (S34 pre n c bb lg l e)) (R33 pre n c bb lg l e) ?_
  exact hq
noncomputable def S35 (pre : Nat) (n : Nat) (c : Nat) (bb : Int) (lg : Int) (l : List Int) (e : TypeId) : KSt := ⟨(frameL 128 [(2, (.slice (some ⟨0, pre, none⟩) n c)), (3, (.pointer (some ⟨1, 0, none⟩))), (7, (.pointer (some ⟨2, 0, none⟩))), (12, (.int .i64 1)), (59, (.bool (decide (1 ≤ ((n : Nat) : Int)))))]), ⟨3, 1, [(2, 0, .cells [(.int .u64 bb), (.int .i64 lg), (.bool true), (.int .i64 1), (.int .u64 (l.getD 0 0)), (.int .u64 0), (.int .u64 0), (.int .u64 0)] 81 true), (1, 0, .cells [(.int .u64 bb), (.int .i64 lg)] 39 true), (0, 0, .tail pre .u64 l e)]⟩⟩
theorem R34 (pre : Nat) (n : Nat) (c : Nat) (bb : Int) (lg : Int) (l : List Int) (e : TypeId) : evCK Try.prog cfgA (runK Try.prog cfgA fsCrowd (conT grpDom grpE) 12 40) 12 (codeAt [1, 1, 1, 1, 1, 0, 1, 0, 0, 0, 0] B) (S33 pre n c bb lg l e) (normC 1 [2, 3, 7, 12, 59]) =
  some (.normal, (S35 pre n c bb lg l e)) := by kernel_rfl
theorem R35 (pre : Nat) (n : Nat) (c : Nat) (bb : Int) (lg : Int) (l : List Int) (e : TypeId) : evCK Try.prog cfgA (runK Try.prog cfgA fsCrowd (conT grpDom grpE) 12 40) 12 (codeAt [1, 1, 1, 1, 1, 0, 1, 0, 0, 0, 1, 0] B) (S35 pre n c bb lg l e) (normC 1 [2, 3, 7, 12]) =
  some (.normal, (S33 pre n c bb lg l e)) := by kernel_rfl
noncomputable def S36 (pre : Nat) (n : Nat) (c : Nat) (bb : Int) (lg : Int) (l : List Int) (e : TypeId) : KSt := ⟨(frameL 128 [(2, (.slice (some ⟨0, pre, none⟩) n c)), (3, (.pointer (some ⟨1, 0, none⟩))), (7, (.pointer (some ⟨2, 0, none⟩))), (12, (.int .i64 1)), (13, (.pointer (some ⟨3, 0, none⟩)))]), ⟨4, 1, [(3, 0, .cells [(.slice (some ⟨0, pre, none⟩) 1 (c - 0)), (.int .i64 0), (.bool false), (.int .i64 0), (.int .u64 0), (.int .i64 0), (.int .u64 0), (.int .u64 0)] 54 true), (2, 0, .cells [(.int .u64 bb), (.int .i64 lg), (.bool true), (.int .i64 1), (.int .u64 (l.getD 0 0)), (.int .u64 0), (.int .u64 0), (.int .u64 0)] 81 true), (1, 0, .cells [(.int .u64 bb), (.int .i64 lg)] 39 true), (0, 0, .tail pre .u64 l e)]⟩⟩
noncomputable def S37 (pre : Nat) (n : Nat) (c : Nat) (bb : Int) (lg : Int) (l : List Int) (e : TypeId) : KSt := ⟨(frameL 128 [(2, (.slice (some ⟨0, pre, none⟩) n c)), (3, (.pointer (some ⟨1, 0, none⟩))), (7, (.pointer (some ⟨2, 0, none⟩))), (12, (.int .i64 1)), (13, (.pointer (some ⟨3, 0, none⟩)))]), ⟨4, 1, [(3, 0, .cells [(.slice (some ⟨0, (pre + 0), none⟩) 1 (c - 0)), (.int .i64 0), (.bool false), (.int .i64 0), (.int .u64 0), (.int .i64 0), (.int .u64 0), (.int .u64 0)] 54 true), (2, 0, .cells [(.int .u64 bb), (.int .i64 lg), (.bool true), (.int .i64 1), (.int .u64 (l.getD 0 0)), (.int .u64 0), (.int .u64 0), (.int .u64 0)] 81 true), (1, 0, .cells [(.int .u64 bb), (.int .i64 lg)] 39 true), (0, 0, .tail pre .u64 l e)]⟩⟩
theorem R36 (pre : Nat) (n : Nat) (c : Nat) (bb : Int) (lg : Int) (l : List Int) (e : TypeId) : evCK Try.prog cfgA (runK Try.prog cfgA fsCrowd (conT grpDom grpE) 12 40) 12 (codeAt [1, 1, 1, 1, 1, 0, 1, 0, 0, 1, 0, 0, 0] B) (S33 pre n c bb lg l e) (normC 1 [2, 3, 7, 12, 13]) =
  if (0 : Int) ≤ 1 ∧ 1 ≤ ((c : Nat) : Int) then
    bif (true && (Nat.ble 1 c)) then
      bif (Nat.beq c 0) then
        some (.normal, (S36 pre n c bb lg l e))
      else
        some (.normal, (S37 pre n c bb lg l e))
    else
      none
  else
    none := by kernel_rfl
noncomputable def S38 (pre : Nat) (n : Nat) (c : Nat) (n1 : Int) (lg : Int) (bb : Int) (l : List Int) (e : TypeId) : KSt := ⟨(frameL 128 [(2, (.slice (some ⟨0, pre, none⟩) n c)), (3, (.pointer (some ⟨1, 0, none⟩))), (7, (.pointer (some ⟨2, 0, none⟩))), (12, (.int .i64 1)), (13, (.pointer (some ⟨3, 0, none⟩))), (14, (.bool (decide ((IntKind.wrap .u64 ((IntKind.wrap .u64 ((IntKind.wrap .u64 ((IntKind.wrap .u64 (0 + n1)) + 0)) + 0)) + 0)) ≥ (IntKind.wrap .u64 (IntKind.wrap .i64 (7 * (groupsV lg))))))))]), ⟨4, 1, [(3, 0, .cells [(.slice (some ⟨0, (pre + 0), none⟩) 1 (c - 0)), (.int .i64 1), (.bool true), (.int .i64 1), (.int .u64 bb), (.int .i64 4), (.int .u64 0), (.int .u64 0)] 54 true), (2, 0, .cells [(.int .u64 bb), (.int .i64 lg), (.bool true), (.int .i64 1), (.int .u64 (l.getD 0 0)), (.int .u64 0), (.int .u64 0), (.int .u64 0)] 81 true), (1, 0, .cells [(.int .u64 bb), (.int .i64 lg)] 39 true), (0, 0, .tail pre .u64 l e)]⟩⟩
theorem R37 (pre : Nat) (n : Nat) (c : Nat) (bb : Int) (lg : Int) (l : List Int) (e : TypeId) : evCK Try.prog cfgA (runK Try.prog cfgA fsCrowd (conT grpDom grpE) 12 40) 12 (codeAt [1, 1, 1, 1, 1, 0, 1, 0, 0, 1, 0, 0, 1, 0] B) (S37 pre n c bb lg l e) (normC 1 [2, 3, 7, 12, 13, 14]) =
  bif (Nat.ble pre ((pre + 0) + 0)) then
    obind (l[(((pre + 0) + 0) - pre)]?) fun n1 =>
      some (.normal, (S38 pre n c n1 lg bb l e))
  else
    none := by kernel_rfl
noncomputable def S39 (pre : Nat) (n : Nat) (c : Nat) (l : List Int) (lg : Int) (bb : Int) (e : TypeId) : KSt := ⟨(frameL 128 [(2, (.slice (some ⟨0, pre, none⟩) n c)), (3, (.pointer (some ⟨1, 0, none⟩))), (7, (.pointer (some ⟨2, 0, none⟩))), (12, (.int .i64 1)), (13, (.pointer (some ⟨3, 0, none⟩))), (14, (.bool (decide ((IntKind.wrap .u64 ((IntKind.wrap .u64 ((IntKind.wrap .u64 ((IntKind.wrap .u64 (0 + (l.getD 0 0))) + 0)) + 0)) + 0)) ≥ (IntKind.wrap .u64 (IntKind.wrap .i64 (7 * (groupsV lg))))))))]), ⟨4, 1, [(3, 0, .cells [(.slice (some ⟨0, (pre + 0), none⟩) 1 (c - 0)), (.int .i64 1), (.bool true), (.int .i64 1), (.int .u64 bb), (.int .i64 4), (.int .u64 0), (.int .u64 0)] 54 true), (2, 0, .cells [(.int .u64 bb), (.int .i64 lg), (.bool true), (.int .i64 1), (.int .u64 (l.getD 0 0)), (.int .u64 0), (.int .u64 0), (.int .u64 0)] 81 true), (1, 0, .cells [(.int .u64 bb), (.int .i64 lg)] 39 true), (0, 0, .tail pre .u64 l e)]⟩⟩
noncomputable def S40 (pre : Nat) (n : Nat) (c : Nat) (l : List Int) (lg : Int) (bb : Int) (e : TypeId) : KSt := ⟨(frameL 128 [(2, (.slice (some ⟨0, pre, none⟩) n c)), (3, (.pointer (some ⟨1, 0, none⟩))), (7, (.pointer (some ⟨2, 0, none⟩))), (12, (.int .i64 1)), (13, (.pointer (some ⟨3, 0, none⟩))), (14, (.bool (decide ((IntKind.wrap .u64 ((IntKind.wrap .u64 ((IntKind.wrap .u64 ((IntKind.wrap .u64 (0 + (l.getD 0 0))) + 0)) + 0)) + 0)) ≥ (IntKind.wrap .u64 (IntKind.wrap .i64 (7 * (groupsV lg)))))))), (15, (.bool false)), (16, (.bool false))]), ⟨4, 1, [(3, 0, .cells [(.slice (some ⟨0, (pre + 0), none⟩) 1 (c - 0)), (.int .i64 1), (.bool true), (.int .i64 1), (.int .u64 bb), (.int .i64 4), (.int .u64 0), (.int .u64 0)] 54 true), (2, 0, .cells [(.int .u64 bb), (.int .i64 lg), (.bool true), (.int .i64 1), (.int .u64 (l.getD 0 0)), (.int .u64 0), (.int .u64 0), (.int .u64 0)] 81 true), (1, 0, .cells [(.int .u64 bb), (.int .i64 lg)] 39 true), (0, 0, .tail pre .u64 l e)]⟩⟩
theorem R38 (pre : Nat) (n : Nat) (c : Nat) (l : List Int) (lg : Int) (bb : Int) (e : TypeId) : evCK Try.prog cfgA (runK Try.prog cfgA fsCrowd (conT grpDom grpE) 12 40) 12 (codeAt [1, 1, 1, 1, 1, 0, 1, 0, 0, 1, 0, 0, 1, 1, 0] B) (S39 pre n c l lg bb e) (normC 1 [2, 3, 7, 12, 13, 14, 15, 16]) =
  some (.normal, (S40 pre n c l lg bb e)) := by kernel_rfl
noncomputable def S41 (pre : Nat) (n : Nat) (c : Nat) (l : List Int) (lg : Int) (bb : Int) (e : TypeId) : KSt := ⟨(frameL 128 [(2, (.slice (some ⟨0, pre, none⟩) n c)), (3, (.pointer (some ⟨1, 0, none⟩))), (7, (.pointer (some ⟨2, 0, none⟩))), (12, (.int .i64 1)), (13, (.pointer (some ⟨3, 0, none⟩))), (14, (.bool (decide ((IntKind.wrap .u64 ((IntKind.wrap .u64 ((IntKind.wrap .u64 ((IntKind.wrap .u64 (0 + (l.getD 0 0))) + 0)) + 0)) + 0)) ≥ (IntKind.wrap .u64 (IntKind.wrap .i64 (7 * (groupsV lg)))))))), (15, (.bool false)), (16, (.bool false)), (17, (.pointer (some ⟨4, 0, none⟩))), (18, (.bool true))]), ⟨5, 1, [(4, 0, .cells [(.int .i64 1), (.int .u64 bb), (.int .i64 4), (.int .u64 0), (.int .u64 0)] 44 true), (3, 0, .cells [(.slice (some ⟨0, (pre + 0), none⟩) 1 (c - 0)), (.int .i64 1), (.bool true), (.int .i64 1), (.int .u64 bb), (.int .i64 4), (.int .u64 0), (.int .u64 0)] 54 true), (2, 0, .cells [(.int .u64 bb), (.int .i64 lg), (.bool true), (.int .i64 1), (.int .u64 (l.getD 0 0)), (.int .u64 0), (.int .u64 0), (.int .u64 0)] 81 true), (1, 0, .cells [(.int .u64 bb), (.int .i64 lg)] 39 true), (0, 0, .tail pre .u64 l e)]⟩⟩
theorem R39 (pre : Nat) (n : Nat) (c : Nat) (l : List Int) (lg : Int) (bb : Int) (e : TypeId) : evCK Try.prog cfgA (runK Try.prog cfgA fsCrowd (conT grpDom grpE) 12 40) 12 (codeAt [1, 1, 1, 1, 1, 0, 1, 0, 0, 1, 0, 0, 1, 1, 1, 0] B) (S40 pre n c l lg bb e) (normC 1 [2, 3, 7, 12, 13, 14, 15, 16, 17, 18]) =
  some (.normal, (S41 pre n c l lg bb e)) := by kernel_rfl
noncomputable def S42 (pre : Nat) (n : Nat) (c : Nat) (bb : Int) (lg : Int) (l : List Int) (e : TypeId) : KSt := ⟨(frameL 128 [(2, (.slice (some ⟨0, pre, none⟩) n c)), (3, (.pointer (some ⟨1, 0, none⟩))), (7, (.pointer (some ⟨2, 0, none⟩))), (12, (.int .i64 1)), (116, (.bool true))]), ⟨3, 1, [(2, 0, .cells [(.int .u64 bb), (.int .i64 lg), (.bool true), (.int .i64 1), (.int .u64 (l.getD 0 0)), (.int .u64 0), (.int .u64 0), (.int .u64 0)] 81 true), (1, 0, .cells [(.int .u64 bb), (.int .i64 lg)] 39 true), (0, 0, .tail pre .u64 l e)]⟩⟩
noncomputable def S43 (pre : Nat) (n : Nat) (c : Nat) (bb : Int) (lg : Int) (l : List Int) (e : TypeId) : KSt := ⟨(frameL 128 [(2, (.slice (some ⟨0, pre, none⟩) n c)), (3, (.pointer (some ⟨1, 0, none⟩))), (7, (.pointer (some ⟨2, 0, none⟩))), (12, (.int .i64 1)), (116, (.bool false))]), ⟨3, 1, [(2, 0, .cells [(.int .u64 bb), (.int .i64 lg), (.bool true), (.int .i64 1), (.int .u64 (l.getD 0 0)), (.int .u64 0), (.int .u64 0), (.int .u64 0)] 81 true), (1, 0, .cells [(.int .u64 bb), (.int .i64 lg)] 39 true), (0, 0, .tail pre .u64 l e)]⟩⟩
theorem R40 (pre : Nat) (n : Nat) (c : Nat) (l : List Int) (lg : Int) (bb : Int) (e : TypeId) : evCK Try.prog cfgA (runK Try.prog cfgA fsCrowd (conT grpDom grpE) 12 40) 12 (codeAt [1, 1, 1, 1, 1, 0, 1, 0, 0, 1, 0, 0, 1, 1, 1, 1, 0, 0] B) (S41 pre n c l lg bb e) (normC 1 [2, 3, 7, 12, 116]) =
  bif (!(true && ((bb == bb) && true))) then
    some (.normal, (S42 pre n c bb lg l e))
  else
    some (.normal, (S43 pre n c bb lg l e)) := by kernel_rfl
theorem R41 (pre : Nat) (n : Nat) (c : Nat) (bb : Int) (lg : Int) (l : List Int) (e : TypeId) : evCK Try.prog cfgA (runK Try.prog cfgA fsCrowd (conT grpDom grpE) 12 40) 12 (codeAt [1, 1, 1, 1, 1, 0, 1, 0, 0, 1, 0, 0, 1, 1, 1, 1, 0, 1, 1] B) (S43 pre n c bb lg l e) (normC 1 [2, 3, 7, 12]) =
  some (.normal, (S33 pre n c bb lg l e)) := by kernel_rfl
noncomputable def S44 (pre : Nat) (n : Nat) (c : Nat) (bb : Int) (lg : Int) (l : List Int) (e : TypeId) : KSt := ⟨(frameL 128 [(2, (.slice (some ⟨0, pre, none⟩) n c)), (3, (.pointer (some ⟨1, 0, none⟩))), (7, (.pointer (some ⟨2, 0, none⟩))), (12, (.int .i64 1)), (120, (.bool (decide (1 < ((n : Nat) : Int)))))]), ⟨3, 1, [(2, 0, .cells [(.int .u64 bb), (.int .i64 lg), (.bool true), (.int .i64 1), (.int .u64 (l.getD 0 0)), (.int .u64 0), (.int .u64 0), (.int .u64 0)] 81 true), (1, 0, .cells [(.int .u64 bb), (.int .i64 lg)] 39 true), (0, 0, .tail pre .u64 l e)]⟩⟩
theorem R42 (pre : Nat) (n : Nat) (c : Nat) (bb : Int) (lg : Int) (l : List Int) (e : TypeId) : evCK Try.prog cfgA (runK Try.prog cfgA fsCrowd (conT grpDom grpE) 12 40) 12 (codeAt [1, 1, 1, 1, 1, 0, 1, 0, 0, 1, 0, 0, 1, 1, 1, 1, 1, 0] B) (S33 pre n c bb lg l e) (normC 1 [2, 3, 7, 12, 120]) =
  some (.normal, (S44 pre n c bb lg l e)) := by kernel_rfl
noncomputable def S45 (pre : Nat) (n : Nat) (c : Nat) (bb : Int) (lg : Int) (l : List Int) (n1 : Int) (e : TypeId) : KSt := ⟨(frameL 128 [(2, (.slice (some ⟨0, pre, none⟩) n c)), (3, (.pointer (some ⟨1, 0, none⟩))), (7, (.pointer (some ⟨2, 0, none⟩))), (12, (.int .i64 1))]), ⟨3, 1, [(2, 0, .cells [(.int .u64 bb), (.int .i64 lg), (.bool true), (.int .i64 2), (.int .u64 (l.getD 0 0)), (.int .u64 n1), (.int .u64 0), (.int .u64 0)] 81 true), (1, 0, .cells [(.int .u64 bb), (.int .i64 lg)] 39 true), (0, 0, .tail pre .u64 l e)]⟩⟩
theorem R43 (pre : Nat) (n : Nat) (c : Nat) (bb : Int) (lg : Int) (l : List Int) (e : TypeId) : evCK Try.prog cfgA (runK Try.prog cfgA fsCrowd (conT grpDom grpE) 12 40) 12 (codeAt [1, 1, 1, 1, 1, 0, 1, 0, 0, 1, 0, 0, 1, 1, 1, 1, 1, 1, 0] B) (S44 pre n c bb lg l e) (normC 1 [2, 3, 7, 12]) =
  if (0 : Int) ≤ 1 ∧ 1 < ((n : Nat) : Int) then
    bif (Nat.ble pre (pre + 1)) then
      obind (l[((pre + 1) - pre)]?) fun n1 =>
        some (.normal, (S45 pre n c bb lg l n1 e))
    else
      none
  else
    none := by kernel_rfl
noncomputable def S46 (pre : Nat) (n : Nat) (c : Nat) (bb : Int) (lg : Int) (l : List Int) (e : TypeId) : KSt := ⟨(frameL 128 [(2, (.slice (some ⟨0, pre, none⟩) n c)), (3, (.pointer (some ⟨1, 0, none⟩))), (7, (.pointer (some ⟨2, 0, none⟩))), (12, (.int .i64 1))]), ⟨3, 1, [(2, 0, .cells [(.int .u64 bb), (.int .i64 lg), (.bool true), (.int .i64 2), (.int .u64 (l.getD 0 0)), (.int .u64 (l.getD 1 0)), (.int .u64 0), (.int .u64 0)] 81 true), (1, 0, .cells [(.int .u64 bb), (.int .i64 lg)] 39 true), (0, 0, .tail pre .u64 l e)]⟩⟩
noncomputable def S47 (pre : Nat) (n : Nat) (c : Nat) (bb : Int) (lg : Int) (l : List Int) (e : TypeId) : KSt := ⟨(frameL 128 [(2, (.slice (some ⟨0, pre, none⟩) n c)), (3, (.pointer (some ⟨1, 0, none⟩))), (7, (.pointer (some ⟨2, 0, none⟩))), (12, (.int .i64 2))]), ⟨3, 1, [(2, 0, .cells [(.int .u64 bb), (.int .i64 lg), (.bool true), (.int .i64 2), (.int .u64 (l.getD 0 0)), (.int .u64 (l.getD 1 0)), (.int .u64 0), (.int .u64 0)] 81 true), (1, 0, .cells [(.int .u64 bb), (.int .i64 lg)] 39 true), (0, 0, .tail pre .u64 l e)]⟩⟩
theorem R44 (pre : Nat) (n : Nat) (c : Nat) (bb : Int) (lg : Int) (l : List Int) (e : TypeId) : evCK Try.prog cfgA (runK Try.prog cfgA fsCrowd (conT grpDom grpE) 12 40) 12 (codeAt [1, 1, 1, 1, 1, 0, 1, 0, 0, 1, 1] B) (S46 pre n c bb lg l e) (normC 1 [2, 3, 7, 12]) =
  some (.normal, (S47 pre n c bb lg l e)) := by kernel_rfl
theorem l10 (bb lg i : Int) (pre n c : Nat) (l : List Int) (e : TypeId)  (hn20 : n ≤ 20) (hc : n ≤ c) (hc2 : c ≤ 9223372036854775807) (hl : l.length = c) (hc0 : 0 < c) (hn : 1 < (n : Int))  {Q : Ex → St → Prop} (hq : Q .normal (KSt.low (S47 pre n c bb lg l e))) : Gets Try.prog (KH.low ⟨1, 1, [(0, 0, .tail pre .u64 l e)]⟩) (codeAt [1, 1, 1, 1, 1, 0, 1, 0, 0] B) (KSt.low (S33 pre n c bb lg l e)) Q := by
  rw [C1_1_1_1_1_0_1_0_0]; refine Gets.seq ?_
  rw [C1_1_1_1_1_0_1_0_0_0]; refine Gets.seq ?_
  refine Gets.ofN fitCrowd grp_sound (conT_agree _ _) 12 40 (by kernel_rfl) (x := .normal) (s' := (S35 pre n c bb lg l e)) (R34 pre n c bb lg l e) ?_
  show Gets _ _ (codeAt [1, 1, 1, 1, 1, 0, 1, 0, 0, 0, 1] B) _ _
  rw [C1_1_1_1_1_0_1_0_0_0_1]; refine Gets.cond true (by kernel_rfl) ((show evalX (KSt.ts (S35 pre n c bb lg l e)) (.tmp 59) = .bool (decide (1 ≤ ((n : Nat) : Int))) by kernel_rfl).trans (by rw [(show (decide (1 ≤ ((n : Nat) : Int))) = true from decide_eq_true (by omega))])) ?_; show Gets _ _ (codeAt [1, 1, 1, 1, 1, 0, 1, 0, 0, 0, 1, 0] B) _ _
  refine Gets.ofN fitCrowd grp_sound (conT_agree _ _) 12 40 (by kernel_rfl) (x := .normal) (s' := (S33 pre n c bb lg l e)) (R35 pre n c bb lg l e) ?_
  show Gets _ _ (codeAt [1, 1, 1, 1, 1, 0, 1, 0, 0, 1] B) _ _
  rw [C1_1_1_1_1_0_1_0_0_1]; refine Gets.seq ?_
  rw [C1_1_1_1_1_0_1_0_0_1_0]; refine Gets.block ?_
  rw [C1_1_1_1_1_0_1_0_0_1_0_0]; refine Gets.seq ?_
  refine Gets.ofN fitCrowd grp_sound (conT_agree _ _) 12 40 (by kernel_rfl) (x := .normal) (s' := (S37 pre n c bb lg l e)) ((R36 pre n c bb lg l e).trans (by rw [if_pos (⟨by omega, by omega⟩), condT (and_t (rfl) (ble_t (by omega))), condF (nbeq_f (by omega))])) ?_
  show Gets _ _ (codeAt [1, 1, 1, 1, 1, 0, 1, 0, 0, 1, 0, 0, 1] B) _ _
  rw [C1_1_1_1_1_0_1_0_0_1_0_0_1]; refine Gets.seq ?_
  refine Gets.ofN fitCrowd grp_sound (conT_agree _ _) 12 40 (by kernel_rfl) (x := .normal) (s' := (S39 pre n c l lg bb e)) ((R37 pre n c bb lg l e).trans (by rw [condT (ble_t (by omega)), obind_at (k := 0) (by omega) (by omega)] <;> rfl)) ?_
  show Gets _ _ (codeAt [1, 1, 1, 1, 1, 0, 1, 0, 0, 1, 0, 0, 1, 1] B) _ _
  rw [C1_1_1_1_1_0_1_0_0_1_0_0_1_1]; refine Gets.seq ?_
  refine Gets.ofN fitCrowd grp_sound (conT_agree _ _) 12 40 (by kernel_rfl) (x := .normal) (s' := (S40 pre n c l lg bb e)) (R38 pre n c l lg bb e) ?_
  show Gets _ _ (codeAt [1, 1, 1, 1, 1, 0, 1, 0, 0, 1, 0, 0, 1, 1, 1] B) _ _
  rw [C1_1_1_1_1_0_1_0_0_1_0_0_1_1_1]; refine Gets.seq ?_
  refine Gets.ofN fitCrowd grp_sound (conT_agree _ _) 12 40 (by kernel_rfl) (x := .normal) (s' := (S41 pre n c l lg bb e)) (R39 pre n c l lg bb e) ?_
  show Gets _ _ (codeAt [1, 1, 1, 1, 1, 0, 1, 0, 0, 1, 0, 0, 1, 1, 1, 1] B) _ _
  rw [C1_1_1_1_1_0_1_0_0_1_0_0_1_1_1_1]; refine Gets.seq ?_
  rw [C1_1_1_1_1_0_1_0_0_1_0_0_1_1_1_1_0]; refine Gets.seq ?_
  refine Gets.ofN fitCrowd grp_sound (conT_agree _ _) 12 40 (by kernel_rfl) (x := .normal) (s' := (S43 pre n c bb lg l e)) ((R40 pre n c l lg bb e).trans (by rw [condF (not_f (and_t (rfl) (and_t (beq_self_eq_true _) (rfl))))])) ?_
  show Gets _ _ (codeAt [1, 1, 1, 1, 1, 0, 1, 0, 0, 1, 0, 0, 1, 1, 1, 1, 0, 1] B) _ _
  rw [C1_1_1_1_1_0_1_0_0_1_0_0_1_1_1_1_0_1]; refine Gets.cond false (by kernel_rfl) (show evalX (KSt.ts (S43 pre n c bb lg l e)) (.tmp 116) = .bool false by kernel_rfl) ?_; show Gets _ _ (codeAt [1, 1, 1, 1, 1, 0, 1, 0, 0, 1, 0, 0, 1, 1, 1, 1, 0, 1, 1] B) _ _
  refine Gets.ofN fitCrowd grp_sound (conT_agree _ _) 12 40 (by kernel_rfl) (x := .normal) (s' := (S33 pre n c bb lg l e)) (R41 pre n c bb lg l e) ?_
  show Gets _ _ (codeAt [1, 1, 1, 1, 1, 0, 1, 0, 0, 1, 0, 0, 1, 1, 1, 1, 1] B) _ _
  rw [C1_1_1_1_1_0_1_0_0_1_0_0_1_1_1_1_1]; refine Gets.seq ?_
  refine Gets.ofN fitCrowd grp_sound (conT_agree _ _) 12 40 (by kernel_rfl) (x := .normal) (s' := (S44 pre n c bb lg l e)) (R42 pre n c bb lg l e) ?_
  show Gets _ _ (codeAt [1, 1, 1, 1, 1, 0, 1, 0, 0, 1, 0, 0, 1, 1, 1, 1, 1, 1] B) _ _
  rw [C1_1_1_1_1_0_1_0_0_1_0_0_1_1_1_1_1_1]; refine Gets.cond true (by kernel_rfl) ((show evalX (KSt.ts (S44 pre n c bb lg l e)) (.tmp 120) = .bool (decide (1 < ((n : Nat) : Int))) by kernel_rfl).trans (by rw [(show (decide (1 < ((n : Nat) : Int))) = true from decide_eq_true (by omega))])) ?_; show Gets _ _ (codeAt [1, 1, 1, 1, 1, 0, 1, 0, 0, 1, 0, 0, 1, 1, 1, 1, 1, 1, 0] B) _ _
  refine Gets.ofN fitCrowd grp_sound (conT_agree _ _) 12 40 (by kernel_rfl) (x := .normal) (s' := (S46 pre n c bb lg l e)) ((R43 pre n c bb lg l e).trans (by rw [if_pos (⟨by omega, by omega⟩), condT (ble_t (by omega)), obind_at (k := 1) (by omega) (by omega)] <;> rfl)) ?_
  show Gets _ _ (codeAt [1, 1, 1, 1, 1, 0, 1, 0, 0, 1, 1] B) _ _
  refine Gets.ofN fitCrowd grp_sound (conT_agree _ _) 12 40 (by kernel_rfl) (x := .normal) (s' := (S47 pre n c bb lg l e)) (R44 pre n c bb lg l e) ?_
  exact hq
theorem R45 (pre : Nat) (n : Nat) (c : Nat) (bb : Int) (lg : Int) (l : List Int) (e : TypeId) : evCK Try.prog cfgA (runK Try.prog cfgA fsCrowd (conT grpDom grpE) 12 40) 12 (codeAt [1, 1, 1, 1, 1, 0, 1, 0, 0, 1, 0, 0, 1, 1, 1, 1, 1, 1, 1] B) (S44 pre n c bb lg l e) (normC 1 [2, 3, 7, 12]) =
  some (.normal, (S33 pre n c bb lg l e)) := by kernel_rfl
noncomputable def S48 (pre : Nat) (n : Nat) (c : Nat) (bb : Int) (lg : Int) (l : List Int) (e : TypeId) : KSt := ⟨(frameL 128 [(2, (.slice (some ⟨0, pre, none⟩) n c)), (3, (.pointer (some ⟨1, 0, none⟩))), (7, (.pointer (some ⟨2, 0, none⟩))), (12, (.int .i64 2))]), ⟨3, 1, [(2, 0, .cells [(.int .u64 bb), (.int .i64 lg), (.bool true), (.int .i64 1), (.int .u64 (l.getD 0 0)), (.int .u64 0), (.int .u64 0), (.int .u64 0)] 81 true), (1, 0, .cells [(.int .u64 bb), (.int .i64 lg)] 39 true), (0, 0, .tail pre .u64 l e)]⟩⟩
theorem R46 (pre : Nat) (n : Nat) (c : Nat) (bb : Int) (lg : Int) (l : List Int) (e : TypeId) : evCK Try.prog cfgA (runK Try.prog cfgA fsCrowd (conT grpDom grpE) 12 40) 12 (codeAt [1, 1, 1, 1, 1, 0, 1, 0, 0, 1, 1] B) (S33 pre n c bb lg l e) (normC 1 [2, 3, 7, 12]) =
  some (.normal, (S48 pre n c bb lg l e)) := by kernel_rfl
theorem l11 (bb lg i : Int) (pre n c : Nat) (l : List Int) (e : TypeId)  (hn20 : n ≤ 20) (hc : n ≤ c) (hc2 : c ≤ 9223372036854775807) (hl : l.length = c) (hc0 : 0 < c) (hn : 1 = (n : Int))  {Q : Ex → St → Prop} (hq : Q .normal (KSt.low (S48 pre n c bb lg l e))) : Gets Try.prog (KH.low ⟨1, 1, [(0, 0, .tail pre .u64 l e)]⟩) (codeAt [1, 1, 1, 1, 1, 0, 1, 0, 0] B) (KSt.low (S33 pre n c bb lg l e)) Q := by
  rw [C1_1_1_1_1_0_1_0_0]; refine Gets.seq ?_
  rw [C1_1_1_1_1_0_1_0_0_0]; refine Gets.seq ?_
  refine Gets.ofN fitCrowd grp_sound (conT_agree _ _) 12 40 (by kernel_rfl) (x := .normal) (s' := (S35 pre n c bb lg l e)) (R34 pre n c bb lg l e) ?_
  show Gets _ _ (codeAt [1, 1, 1, 1, 1, 0, 1, 0, 0, 0, 1] B) _ _
  rw [C1_1_1_1_1_0_1_0_0_0_1]; refine Gets.cond true (by kernel_rfl) ((show evalX (KSt.ts (S35 pre n c bb lg l e)) (.tmp 59) = .bool (decide (1 ≤ ((n : Nat) : Int))) by kernel_rfl).trans (by rw [(show (decide (1 ≤ ((n : Nat) : Int))) = true from decide_eq_true (by omega))])) ?_; show Gets _ _ (codeAt [1, 1, 1, 1, 1, 0, 1, 0, 0, 0, 1, 0] B) _ _
  refine Gets.ofN fitCrowd grp_sound (conT_agree _ _) 12 40 (by kernel_rfl) (x := .normal) (s' := (S33 pre n c bb lg l e)) (R35 pre n c bb lg l e) ?_
  show Gets _ _ (codeAt [1, 1, 1, 1, 1, 0, 1, 0, 0, 1] B) _ _
  rw [C1_1_1_1_1_0_1_0_0_1]; refine Gets.seq ?_
  rw [C1_1_1_1_1_0_1_0_0_1_0]; refine Gets.block ?_
  rw [C1_1_1_1_1_0_1_0_0_1_0_0]; refine Gets.seq ?_
  refine Gets.ofN fitCrowd grp_sound (conT_agree _ _) 12 40 (by kernel_rfl) (x := .normal) (s' := (S37 pre n c bb lg l e)) ((R36 pre n c bb lg l e).trans (by rw [if_pos (⟨by omega, by omega⟩), condT (and_t (rfl) (ble_t (by omega))), condF (nbeq_f (by omega))])) ?_
  show Gets _ _ (codeAt [1, 1, 1, 1, 1, 0, 1, 0, 0, 1, 0, 0, 1] B) _ _
  rw [C1_1_1_1_1_0_1_0_0_1_0_0_1]; refine Gets.seq ?_
  refine Gets.ofN fitCrowd grp_sound (conT_agree _ _) 12 40 (by kernel_rfl) (x := .normal) (s' := (S39 pre n c l lg bb e)) ((R37 pre n c bb lg l e).trans (by rw [condT (ble_t (by omega)), obind_at (k := 0) (by omega) (by omega)] <;> rfl)) ?_
  show Gets _ _ (codeAt [1, 1, 1, 1, 1, 0, 1, 0, 0, 1, 0, 0, 1, 1] B) _ _
  rw [C1_1_1_1_1_0_1_0_0_1_0_0_1_1]; refine Gets.seq ?_
  refine Gets.ofN fitCrowd grp_sound (conT_agree _ _) 12 40 (by kernel_rfl) (x := .normal) (s' := (S40 pre n c l lg bb e)) (R38 pre n c l lg bb e) ?_
  show Gets _ _ (codeAt [1, 1, 1, 1, 1, 0, 1, 0, 0, 1, 0, 0, 1, 1, 1] B) _ _
  rw [C1_1_1_1_1_0_1_0_0_1_0_0_1_1_1]; refine Gets.seq ?_
  refine Gets.ofN fitCrowd grp_sound (conT_agree _ _) 12 40 (by kernel_rfl) (x := .normal) (s' := (S41 pre n c l lg bb e)) (R39 pre n c l lg bb e) ?_
  show Gets _ _ (codeAt [1, 1, 1, 1, 1, 0, 1, 0, 0, 1, 0, 0, 1, 1, 1, 1] B) _ _
  rw [C1_1_1_1_1_0_1_0_0_1_0_0_1_1_1_1]; refine Gets.seq ?_
  rw [C1_1_1_1_1_0_1_0_0_1_0_0_1_1_1_1_0]; refine Gets.seq ?_
  refine Gets.ofN fitCrowd grp_sound (conT_agree _ _) 12 40 (by kernel_rfl) (x := .normal) (s' := (S43 pre n c bb lg l e)) ((R40 pre n c l lg bb e).trans (by rw [condF (not_f (and_t (rfl) (and_t (beq_self_eq_true _) (rfl))))])) ?_
  show Gets _ _ (codeAt [1, 1, 1, 1, 1, 0, 1, 0, 0, 1, 0, 0, 1, 1, 1, 1, 0, 1] B) _ _
  rw [C1_1_1_1_1_0_1_0_0_1_0_0_1_1_1_1_0_1]; refine Gets.cond false (by kernel_rfl) (show evalX (KSt.ts (S43 pre n c bb lg l e)) (.tmp 116) = .bool false by kernel_rfl) ?_; show Gets _ _ (codeAt [1, 1, 1, 1, 1, 0, 1, 0, 0, 1, 0, 0, 1, 1, 1, 1, 0, 1, 1] B) _ _
  refine Gets.ofN fitCrowd grp_sound (conT_agree _ _) 12 40 (by kernel_rfl) (x := .normal) (s' := (S33 pre n c bb lg l e)) (R41 pre n c bb lg l e) ?_
  show Gets _ _ (codeAt [1, 1, 1, 1, 1, 0, 1, 0, 0, 1, 0, 0, 1, 1, 1, 1, 1] B) _ _
  rw [C1_1_1_1_1_0_1_0_0_1_0_0_1_1_1_1_1]; refine Gets.seq ?_
  refine Gets.ofN fitCrowd grp_sound (conT_agree _ _) 12 40 (by kernel_rfl) (x := .normal) (s' := (S44 pre n c bb lg l e)) (R42 pre n c bb lg l e) ?_
  show Gets _ _ (codeAt [1, 1, 1, 1, 1, 0, 1, 0, 0, 1, 0, 0, 1, 1, 1, 1, 1, 1] B) _ _
  rw [C1_1_1_1_1_0_1_0_0_1_0_0_1_1_1_1_1_1]; refine Gets.cond false (by kernel_rfl) ((show evalX (KSt.ts (S44 pre n c bb lg l e)) (.tmp 120) = .bool (decide (1 < ((n : Nat) : Int))) by kernel_rfl).trans (by rw [(show (decide (1 < ((n : Nat) : Int))) = false from decide_eq_false (by omega))])) ?_; show Gets _ _ (codeAt [1, 1, 1, 1, 1, 0, 1, 0, 0, 1, 0, 0, 1, 1, 1, 1, 1, 1, 1] B) _ _
  refine Gets.ofN fitCrowd grp_sound (conT_agree _ _) 12 40 (by kernel_rfl) (x := .normal) (s' := (S33 pre n c bb lg l e)) (R45 pre n c bb lg l e) ?_
  show Gets _ _ (codeAt [1, 1, 1, 1, 1, 0, 1, 0, 0, 1, 1] B) _ _
  refine Gets.ofN fitCrowd grp_sound (conT_agree _ _) 12 40 (by kernel_rfl) (x := .normal) (s' := (S48 pre n c bb lg l e)) (R46 pre n c bb lg l e) ?_
  exact hq
noncomputable def S49 (pre : Nat) (n : Nat) (c : Nat) (bb : Int) (lg : Int) (l : List Int) (e : TypeId) : KSt := ⟨(frameL 128 [(2, (.slice (some ⟨0, pre, none⟩) n c)), (3, (.pointer (some ⟨1, 0, none⟩))), (7, (.pointer (some ⟨2, 0, none⟩))), (12, (.int .i64 2)), (59, (.bool (decide (2 ≤ ((n : Nat) : Int)))))]), ⟨3, 1, [(2, 0, .cells [(.int .u64 bb), (.int .i64 lg), (.bool true), (.int .i64 2), (.int .u64 (l.getD 0 0)), (.int .u64 (l.getD 1 0)), (.int .u64 0), (.int .u64 0)] 81 true), (1, 0, .cells [(.int .u64 bb), (.int .i64 lg)] 39 true), (0, 0, .tail pre .u64 l e)]⟩⟩
theorem R47 (pre : Nat) (n : Nat) (c : Nat) (bb : Int) (lg : Int) (l : List Int) (e : TypeId) : evCK Try.prog cfgA (runK Try.prog cfgA fsCrowd (conT grpDom grpE) 12 40) 12 (codeAt [1, 1, 1, 1, 1, 0, 1, 0, 0, 0, 0] B) (S47 pre n c bb lg l e) (normC 1 [2, 3, 7, 12, 59]) =
  some (.normal, (S49 pre n c bb lg l e)) := by kernel_rfl
theorem R48 (pre : Nat) (n : Nat) (c : Nat) (bb : Int) (lg : Int) (l : List Int) (e : TypeId) : evCK Try.prog cfgA (runK Try.prog cfgA fsCrowd (conT grpDom grpE) 12 40) 12 (codeAt [1, 1, 1, 1, 1, 0, 1, 0, 0, 0, 1, 0] B) (S49 pre n c bb lg l e) (normC 1 [2, 3, 7, 12]) =
  some (.normal, (S47 pre n c bb lg l e)) := by kernel_rfl
noncomputable def S50 (pre : Nat) (n : Nat) (c : Nat) (bb : Int) (lg : Int) (l : List Int) (e : TypeId) : KSt := ⟨(frameL 128 [(2, (.slice (some ⟨0, pre, none⟩) n c)), (3, (.pointer (some ⟨1, 0, none⟩))), (7, (.pointer (some ⟨2, 0, none⟩))), (12, (.int .i64 2)), (13, (.pointer (some ⟨3, 0, none⟩)))]), ⟨4, 1, [(3, 0, .cells [(.slice (some ⟨0, pre, none⟩) 2 (c - 0)), (.int .i64 0), (.bool false), (.int .i64 0), (.int .u64 0), (.int .i64 0), (.int .u64 0), (.int .u64 0)] 54 true), (2, 0, .cells [(.int .u64 bb), (.int .i64 lg), (.bool true), (.int .i64 2), (.int .u64 (l.getD 0 0)), (.int .u64 (l.getD 1 0)), (.int .u64 0), (.int .u64 0)] 81 true), (1, 0, .cells [(.int .u64 bb), (.int .i64 lg)] 39 true), (0, 0, .tail pre .u64 l e)]⟩⟩
noncomputable def S51 (pre : Nat) (n : Nat) (c : Nat) (bb : Int) (lg : Int) (l : List Int) (e : TypeId) : KSt := ⟨(frameL 128 [(2, (.slice (some ⟨0, pre, none⟩) n c)), (3, (.pointer (some ⟨1, 0, none⟩))), (7, (.pointer (some ⟨2, 0, none⟩))), (12, (.int .i64 2)), (13, (.pointer (some ⟨3, 0, none⟩)))]), ⟨4, 1, [(3, 0, .cells [(.slice (some ⟨0, (pre + 0), none⟩) 2 (c - 0)), (.int .i64 0), (.bool false), (.int .i64 0), (.int .u64 0), (.int .i64 0), (.int .u64 0), (.int .u64 0)] 54 true), (2, 0, .cells [(.int .u64 bb), (.int .i64 lg), (.bool true), (.int .i64 2), (.int .u64 (l.getD 0 0)), (.int .u64 (l.getD 1 0)), (.int .u64 0), (.int .u64 0)] 81 true), (1, 0, .cells [(.int .u64 bb), (.int .i64 lg)] 39 true), (0, 0, .tail pre .u64 l e)]⟩⟩
theorem R49 (pre : Nat) (n : Nat) (c : Nat) (bb : Int) (lg : Int) (l : List Int) (e : TypeId) : evCK Try.prog cfgA (runK Try.prog cfgA fsCrowd (conT grpDom grpE) 12 40) 12 (codeAt [1, 1, 1, 1, 1, 0, 1, 0, 0, 1, 0, 0, 0] B) (S47 pre n c bb lg l e) (normC 1 [2, 3, 7, 12, 13]) =
  if (0 : Int) ≤ 2 ∧ 2 ≤ ((c : Nat) : Int) then
    bif (true && (Nat.ble 2 c)) then
      bif (Nat.beq c 0) then
        some (.normal, (S50 pre n c bb lg l e))
      else
        some (.normal, (S51 pre n c bb lg l e))
    else
      none
  else
    none := by kernel_rfl
noncomputable def S52 (pre : Nat) (n : Nat) (c : Nat) (n1 : Int) (n2 : Int) (lg : Int) (bb : Int) (l : List Int) (e : TypeId) : KSt := ⟨(frameL 128 [(2, (.slice (some ⟨0, pre, none⟩) n c)), (3, (.pointer (some ⟨1, 0, none⟩))), (7, (.pointer (some ⟨2, 0, none⟩))), (12, (.int .i64 2)), (13, (.pointer (some ⟨3, 0, none⟩))), (14, (.bool (decide ((IntKind.wrap .u64 ((IntKind.wrap .u64 ((IntKind.wrap .u64 ((IntKind.wrap .u64 (0 + n1)) + n2)) + 0)) + 0)) ≥ (IntKind.wrap .u64 (IntKind.wrap .i64 (7 * (groupsV lg))))))))]), ⟨4, 1, [(3, 0, .cells [(.slice (some ⟨0, (pre + 0), none⟩) 2 (c - 0)), (.int .i64 2), (.bool true), (.int .i64 1), (.int .u64 bb), (.int .i64 5), (.int .u64 0), (.int .u64 0)] 54 true), (2, 0, .cells [(.int .u64 bb), (.int .i64 lg), (.bool true), (.int .i64 2), (.int .u64 (l.getD 0 0)), (.int .u64 (l.getD 1 0)), (.int .u64 0), (.int .u64 0)] 81 true), (1, 0, .cells [(.int .u64 bb), (.int .i64 lg)] 39 true), (0, 0, .tail pre .u64 l e)]⟩⟩
theorem R50 (pre : Nat) (n : Nat) (c : Nat) (bb : Int) (lg : Int) (l : List Int) (e : TypeId) : evCK Try.prog cfgA (runK Try.prog cfgA fsCrowd (conT grpDom grpE) 12 40) 12 (codeAt [1, 1, 1, 1, 1, 0, 1, 0, 0, 1, 0, 0, 1, 0] B) (S51 pre n c bb lg l e) (normC 1 [2, 3, 7, 12, 13, 14]) =
  bif (Nat.ble pre ((pre + 0) + 0)) then
    obind (l[(((pre + 0) + 0) - pre)]?) fun n1 =>
      bif (Nat.ble pre ((pre + 0) + 1)) then
        obind (l[(((pre + 0) + 1) - pre)]?) fun n2 =>
          some (.normal, (S52 pre n c n1 n2 lg bb l e))
      else
        none
  else
    none := by kernel_rfl
noncomputable def S53 (pre : Nat) (n : Nat) (c : Nat) (l : List Int) (lg : Int) (bb : Int) (e : TypeId) : KSt := ⟨(frameL 128 [(2, (.slice (some ⟨0, pre, none⟩) n c)), (3, (.pointer (some ⟨1, 0, none⟩))), (7, (.pointer (some ⟨2, 0, none⟩))), (12, (.int .i64 2)), (13, (.pointer (some ⟨3, 0, none⟩))), (14, (.bool (decide ((IntKind.wrap .u64 ((IntKind.wrap .u64 ((IntKind.wrap .u64 ((IntKind.wrap .u64 (0 + (l.getD 0 0))) + (l.getD 1 0))) + 0)) + 0)) ≥ (IntKind.wrap .u64 (IntKind.wrap .i64 (7 * (groupsV lg))))))))]), ⟨4, 1, [(3, 0, .cells [(.slice (some ⟨0, (pre + 0), none⟩) 2 (c - 0)), (.int .i64 2), (.bool true), (.int .i64 1), (.int .u64 bb), (.int .i64 5), (.int .u64 0), (.int .u64 0)] 54 true), (2, 0, .cells [(.int .u64 bb), (.int .i64 lg), (.bool true), (.int .i64 2), (.int .u64 (l.getD 0 0)), (.int .u64 (l.getD 1 0)), (.int .u64 0), (.int .u64 0)] 81 true), (1, 0, .cells [(.int .u64 bb), (.int .i64 lg)] 39 true), (0, 0, .tail pre .u64 l e)]⟩⟩
noncomputable def S54 (pre : Nat) (n : Nat) (c : Nat) (l : List Int) (lg : Int) (bb : Int) (e : TypeId) : KSt := ⟨(frameL 128 [(2, (.slice (some ⟨0, pre, none⟩) n c)), (3, (.pointer (some ⟨1, 0, none⟩))), (7, (.pointer (some ⟨2, 0, none⟩))), (12, (.int .i64 2)), (13, (.pointer (some ⟨3, 0, none⟩))), (14, (.bool (decide ((IntKind.wrap .u64 ((IntKind.wrap .u64 ((IntKind.wrap .u64 ((IntKind.wrap .u64 (0 + (l.getD 0 0))) + (l.getD 1 0))) + 0)) + 0)) ≥ (IntKind.wrap .u64 (IntKind.wrap .i64 (7 * (groupsV lg)))))))), (15, (.bool false)), (16, (.bool false))]), ⟨4, 1, [(3, 0, .cells [(.slice (some ⟨0, (pre + 0), none⟩) 2 (c - 0)), (.int .i64 2), (.bool true), (.int .i64 1), (.int .u64 bb), (.int .i64 5), (.int .u64 0), (.int .u64 0)] 54 true), (2, 0, .cells [(.int .u64 bb), (.int .i64 lg), (.bool true), (.int .i64 2), (.int .u64 (l.getD 0 0)), (.int .u64 (l.getD 1 0)), (.int .u64 0), (.int .u64 0)] 81 true), (1, 0, .cells [(.int .u64 bb), (.int .i64 lg)] 39 true), (0, 0, .tail pre .u64 l e)]⟩⟩
theorem R51 (pre : Nat) (n : Nat) (c : Nat) (l : List Int) (lg : Int) (bb : Int) (e : TypeId) : evCK Try.prog cfgA (runK Try.prog cfgA fsCrowd (conT grpDom grpE) 12 40) 12 (codeAt [1, 1, 1, 1, 1, 0, 1, 0, 0, 1, 0, 0, 1, 1, 0] B) (S53 pre n c l lg bb e) (normC 1 [2, 3, 7, 12, 13, 14, 15, 16]) =
  some (.normal, (S54 pre n c l lg bb e)) := by kernel_rfl
noncomputable def S55 (pre : Nat) (n : Nat) (c : Nat) (l : List Int) (lg : Int) (bb : Int) (e : TypeId) : KSt := ⟨(frameL 128 [(2, (.slice (some ⟨0, pre, none⟩) n c)), (3, (.pointer (some ⟨1, 0, none⟩))), (7, (.pointer (some ⟨2, 0, none⟩))), (12, (.int .i64 2)), (13, (.pointer (some ⟨3, 0, none⟩))), (14, (.bool (decide ((IntKind.wrap .u64 ((IntKind.wrap .u64 ((IntKind.wrap .u64 ((IntKind.wrap .u64 (0 + (l.getD 0 0))) + (l.getD 1 0))) + 0)) + 0)) ≥ (IntKind.wrap .u64 (IntKind.wrap .i64 (7 * (groupsV lg)))))))), (15, (.bool false)), (16, (.bool false)), (17, (.pointer (some ⟨4, 0, none⟩))), (18, (.bool true))]), ⟨5, 1, [(4, 0, .cells [(.int .i64 1), (.int .u64 bb), (.int .i64 5), (.int .u64 0), (.int .u64 0)] 44 true), (3, 0, .cells [(.slice (some ⟨0, (pre + 0), none⟩) 2 (c - 0)), (.int .i64 2), (.bool true), (.int .i64 1), (.int .u64 bb), (.int .i64 5), (.int .u64 0), (.int .u64 0)] 54 true), (2, 0, .cells [(.int .u64 bb), (.int .i64 lg), (.bool true), (.int .i64 2), (.int .u64 (l.getD 0 0)), (.int .u64 (l.getD 1 0)), (.int .u64 0), (.int .u64 0)] 81 true), (1, 0, .cells [(.int .u64 bb), (.int .i64 lg)] 39 true), (0, 0, .tail pre .u64 l e)]⟩⟩
theorem R52 (pre : Nat) (n : Nat) (c : Nat) (l : List Int) (lg : Int) (bb : Int) (e : TypeId) : evCK Try.prog cfgA (runK Try.prog cfgA fsCrowd (conT grpDom grpE) 12 40) 12 (codeAt [1, 1, 1, 1, 1, 0, 1, 0, 0, 1, 0, 0, 1, 1, 1, 0] B) (S54 pre n c l lg bb e) (normC 1 [2, 3, 7, 12, 13, 14, 15, 16, 17, 18]) =
  some (.normal, (S55 pre n c l lg bb e)) := by kernel_rfl
noncomputable def S56 (pre : Nat) (n : Nat) (c : Nat) (bb : Int) (lg : Int) (l : List Int) (e : TypeId) : KSt := ⟨(frameL 128 [(2, (.slice (some ⟨0, pre, none⟩) n c)), (3, (.pointer (some ⟨1, 0, none⟩))), (7, (.pointer (some ⟨2, 0, none⟩))), (12, (.int .i64 2)), (116, (.bool true))]), ⟨3, 1, [(2, 0, .cells [(.int .u64 bb), (.int .i64 lg), (.bool true), (.int .i64 2), (.int .u64 (l.getD 0 0)), (.int .u64 (l.getD 1 0)), (.int .u64 0), (.int .u64 0)] 81 true), (1, 0, .cells [(.int .u64 bb), (.int .i64 lg)] 39 true), (0, 0, .tail pre .u64 l e)]⟩⟩
noncomputable def S57 (pre : Nat) (n : Nat) (c : Nat) (bb : Int) (lg : Int) (l : List Int) (e : TypeId) : KSt := ⟨(frameL 128 [(2, (.slice (some ⟨0, pre, none⟩) n c)), (3, (.pointer (some ⟨1, 0, none⟩))), (7, (.pointer (some ⟨2, 0, none⟩))), (12, (.int .i64 2)), (116, (.bool false))]), ⟨3, 1, [(2, 0, .cells [(.int .u64 bb), (.int .i64 lg), (.bool true), (.int .i64 2), (.int .u64 (l.getD 0 0)), (.int .u64 (l.getD 1 0)), (.int .u64 0), (.int .u64 0)] 81 true), (1, 0, .cells [(.int .u64 bb), (.int .i64 lg)] 39 true), (0, 0, .tail pre .u64 l e)]⟩⟩
theorem R53 (pre : Nat) (n : Nat) (c : Nat) (l : List Int) (lg : Int) (bb : Int) (e : TypeId) : evCK Try.prog cfgA (runK Try.prog cfgA fsCrowd (conT grpDom grpE) 12 40) 12 (codeAt [1, 1, 1, 1, 1, 0, 1, 0, 0, 1, 0, 0, 1, 1, 1, 1, 0, 0] B) (S55 pre n c l lg bb e) (normC 1 [2, 3, 7, 12, 116]) =
  bif (!(true && ((bb == bb) && true))) then
    some (.normal, (S56 pre n c bb lg l e))
  else
    some (.normal, (S57 pre n c bb lg l e)) := by kernel_rfl
theorem R54 (pre : Nat) (n : Nat) (c : Nat) (bb : Int) (lg : Int) (l : List Int) (e : TypeId) : evCK Try.prog cfgA (runK Try.prog cfgA fsCrowd (conT grpDom grpE) 12 40) 12 (codeAt [1, 1, 1, 1, 1, 0, 1, 0, 0, 1, 0, 0, 1, 1, 1, 1, 0, 1, 1] B) (S57 pre n c bb lg l e) (normC 1 [2, 3, 7, 12]) =
  some (.normal, (S47 pre n c bb lg l e)) := by kernel_rfl
noncomputable def S58 (pre : Nat) (n : Nat) (c : Nat) (bb : Int) (lg : Int) (l : List Int) (e : TypeId) : KSt := ⟨(frameL 128 [(2, (.slice (some ⟨0, pre, none⟩) n c)), (3, (.pointer (some ⟨1, 0, none⟩))), (7, (.pointer (some ⟨2, 0, none⟩))), (12, (.int .i64 2)), (120, (.bool (decide (2 < ((n : Nat) : Int)))))]), ⟨3, 1, [(2, 0, .cells [(.int .u64 bb), (.int .i64 lg), (.bool true), (.int .i64 2), (.int .u64 (l.getD 0 0)), (.int .u64 (l.getD 1 0)), (.int .u64 0), (.int .u64 0)] 81 true), (1, 0, .cells [(.int .u64 bb), (.int .i64 lg)] 39 true), (0, 0, .tail pre .u64 l e)]⟩⟩
theorem R55 (pre : Nat) (n : Nat) (c : Nat) (bb : Int) (lg : Int) (l : List Int) (e : TypeId) : evCK Try.prog cfgA (runK Try.prog cfgA fsCrowd (conT grpDom grpE) 12 40) 12 (codeAt [1, 1, 1, 1, 1, 0, 1, 0, 0, 1, 0, 0, 1, 1, 1, 1, 1, 0] B) (S47 pre n c bb lg l e) (normC 1 [2, 3, 7, 12, 120]) =
  some (.normal, (S58 pre n c bb lg l e)) := by kernel_rfl
noncomputable def S59 (pre : Nat) (n : Nat) (c : Nat) (bb : Int) (lg : Int) (l : List Int) (n1 : Int) (e : TypeId) : KSt := ⟨(frameL 128 [(2, (.slice (some ⟨0, pre, none⟩) n c)), (3, (.pointer (some ⟨1, 0, none⟩))), (7, (.pointer (some ⟨2, 0, none⟩))), (12, (.int .i64 2))]), ⟨3, 1, [(2, 0, .cells [(.int .u64 bb), (.int .i64 lg), (.bool true), (.int .i64 3), (.int .u64 (l.getD 0 0)), (.int .u64 (l.getD 1 0)), (.int .u64 n1), (.int .u64 0)] 81 true), (1, 0, .cells [(.int .u64 bb), (.int .i64 lg)] 39 true), (0, 0, .tail pre .u64 l e)]⟩⟩
theorem R56 (pre : Nat) (n : Nat) (c : Nat) (bb : Int) (lg : Int) (l : List Int) (e : TypeId) : evCK Try.prog cfgA (runK Try.prog cfgA fsCrowd (conT grpDom grpE) 12 40) 12 (codeAt [1, 1, 1, 1, 1, 0, 1, 0, 0, 1, 0, 0, 1, 1, 1, 1, 1, 1, 0] B) (S58 pre n c bb lg l e) (normC 1 [2, 3, 7, 12]) =
  if (0 : Int) ≤ 2 ∧ 2 < ((n : Nat) : Int) then
    bif (Nat.ble pre (pre + 2)) then
      obind (l[((pre + 2) - pre)]?) fun n1 =>
        some (.normal, (S59 pre n c bb lg l n1 e))
    else
      none
  else
    none := by kernel_rfl
noncomputable def S60 (pre : Nat) (n : Nat) (c : Nat) (bb : Int) (lg : Int) (l : List Int) (e : TypeId) : KSt := ⟨(frameL 128 [(2, (.slice (some ⟨0, pre, none⟩) n c)), (3, (.pointer (some ⟨1, 0, none⟩))), (7, (.pointer (some ⟨2, 0, none⟩))), (12, (.int .i64 2))]), ⟨3, 1, [(2, 0, .cells [(.int .u64 bb), (.int .i64 lg), (.bool true), (.int .i64 3), (.int .u64 (l.getD 0 0)), (.int .u64 (l.getD 1 0)), (.int .u64 (l.getD 2 0)), (.int .u64 0)] 81 true), (1, 0, .cells [(.int .u64 bb), (.int .i64 lg)] 39 true), (0, 0, .tail pre .u64 l e)]⟩⟩
noncomputable def S61 (pre : Nat) (n : Nat) (c : Nat) (bb : Int) (lg : Int) (l : List Int) (e : TypeId) : KSt := ⟨(frameL 128 [(2, (.slice (some ⟨0, pre, none⟩) n c)), (3, (.pointer (some ⟨1, 0, none⟩))), (7, (.pointer (some ⟨2, 0, none⟩))), (12, (.int .i64 3))]), ⟨3, 1, [(2, 0, .cells [(.int .u64 bb), (.int .i64 lg), (.bool true), (.int .i64 3), (.int .u64 (l.getD 0 0)), (.int .u64 (l.getD 1 0)), (.int .u64 (l.getD 2 0)), (.int .u64 0)] 81 true), (1, 0, .cells [(.int .u64 bb), (.int .i64 lg)] 39 true), (0, 0, .tail pre .u64 l e)]⟩⟩
theorem R57 (pre : Nat) (n : Nat) (c : Nat) (bb : Int) (lg : Int) (l : List Int) (e : TypeId) : evCK Try.prog cfgA (runK Try.prog cfgA fsCrowd (conT grpDom grpE) 12 40) 12 (codeAt [1, 1, 1, 1, 1, 0, 1, 0, 0, 1, 1] B) (S60 pre n c bb lg l e) (normC 1 [2, 3, 7, 12]) =
  some (.normal, (S61 pre n c bb lg l e)) := by kernel_rfl
theorem l20 (bb lg i : Int) (pre n c : Nat) (l : List Int) (e : TypeId)  (hn20 : n ≤ 20) (hc : n ≤ c) (hc2 : c ≤ 9223372036854775807) (hl : l.length = c) (hc0 : 0 < c) (hn : 2 < (n : Int))  {Q : Ex → St → Prop} (hq : Q .normal (KSt.low (S61 pre n c bb lg l e))) : Gets Try.prog (KH.low ⟨1, 1, [(0, 0, .tail pre .u64 l e)]⟩) (codeAt [1, 1, 1, 1, 1, 0, 1, 0, 0] B) (KSt.low (S47 pre n c bb lg l e)) Q := by
  rw [C1_1_1_1_1_0_1_0_0]; refine Gets.seq ?_
  rw [C1_1_1_1_1_0_1_0_0_0]; refine Gets.seq ?_
  refine Gets.ofN fitCrowd grp_sound (conT_agree _ _) 12 40 (by kernel_rfl) (x := .normal) (s' := (S49 pre n c bb lg l e)) (R47 pre n c bb lg l e) ?_
  show Gets _ _ (codeAt [1, 1, 1, 1, 1, 0, 1, 0, 0, 0, 1] B) _ _
  rw [C1_1_1_1_1_0_1_0_0_0_1]; refine Gets.cond true (by kernel_rfl) ((show evalX (KSt.ts (S49 pre n c bb lg l e)) (.tmp 59) = .bool (decide (2 ≤ ((n : Nat) : Int))) by kernel_rfl).trans (by rw [(show (decide (2 ≤ ((n : Nat) : Int))) = true from decide_eq_true (by omega))])) ?_; show Gets _ _ (codeAt [1, 1, 1, 1, 1, 0, 1, 0, 0, 0, 1, 0] B) _ _
  refine Gets.ofN fitCrowd grp_sound (conT_agree _ _) 12 40 (by kernel_rfl) (x := .normal) (s' := (S47 pre n c bb lg l e)) (R48 pre n c bb lg l e) ?_
  show Gets _ _ (codeAt [1, 1, 1, 1, 1, 0, 1, 0, 0, 1] B) _ _
  rw [C1_1_1_1_1_0_1_0_0_1]; refine Gets.seq ?_
  rw [C1_1_1_1_1_0_1_0_0_1_0]; refine Gets.block ?_
  rw [C1_1_1_1_1_0_1_0_0_1_0_0]; refine Gets.seq ?_
  refine Gets.ofN fitCrowd grp_sound (conT_agree _ _) 12 40 (by kernel_rfl) (x := .normal) (s' := (S51 pre n c bb lg l e)) ((R49 pre n c bb lg l e).trans (by rw [if_pos (⟨by omega, by omega⟩), condT (and_t (rfl) (ble_t (by omega))), condF (nbeq_f (by omega))])) ?_
  show Gets _ _ (codeAt [1, 1, 1, 1, 1, 0, 1, 0, 0, 1, 0, 0, 1] B) _ _
  rw [C1_1_1_1_1_0_1_0_0_1_0_0_1]; refine Gets.seq ?_
  refine Gets.ofN fitCrowd grp_sound (conT_agree _ _) 12 40 (by kernel_rfl) (x := .normal) (s' := (S53 pre n c l lg bb e)) ((R50 pre n c bb lg l e).trans (by rw [condT (ble_t (by omega)), obind_at (k := 0) (by omega) (by omega), condT (ble_t (by omega)), obind_at (k := 1) (by omega) (by omega)] <;> rfl)) ?_
  show Gets _ _ (codeAt [1, 1, 1, 1, 1, 0, 1, 0, 0, 1, 0, 0, 1, 1] B) _ _
  rw [C1_1_1_1_1_0_1_0_0_1_0_0_1_1]; refine Gets.seq ?_
  refine Gets.ofN fitCrowd grp_sound (conT_agree _ _) 12 40 (by kernel_rfl) (x := .normal) (s' := (S54 pre n c l lg bb e)) (R51 pre n c l lg bb e) ?_
  show Gets _ _ (codeAt [1, 1, 1, 1, 1, 0, 1, 0, 0, 1, 0, 0, 1, 1, 1] B) _ _
  rw [C1_1_1_1_1_0_1_0_0_1_0_0_1_1_1]; refine Gets.seq ?_
  refine Gets.ofN fitCrowd grp_sound (conT_agree _ _) 12 40 (by kernel_rfl) (x := .normal) (s' := (S55 pre n c l lg bb e)) (R52 pre n c l lg bb e) ?_
  show Gets _ _ (codeAt [1, 1, 1, 1, 1, 0, 1, 0, 0, 1, 0, 0, 1, 1, 1, 1] B) _ _
  rw [C1_1_1_1_1_0_1_0_0_1_0_0_1_1_1_1]; refine Gets.seq ?_
  rw [C1_1_1_1_1_0_1_0_0_1_0_0_1_1_1_1_0]; refine Gets.seq ?_
  refine Gets.ofN fitCrowd grp_sound (conT_agree _ _) 12 40 (by kernel_rfl) (x := .normal) (s' := (S57 pre n c bb lg l e)) ((R53 pre n c l lg bb e).trans (by rw [condF (not_f (and_t (rfl) (and_t (beq_self_eq_true _) (rfl))))])) ?_
  show Gets _ _ (codeAt [1, 1, 1, 1, 1, 0, 1, 0, 0, 1, 0, 0, 1, 1, 1, 1, 0, 1] B) _ _
  rw [C1_1_1_1_1_0_1_0_0_1_0_0_1_1_1_1_0_1]; refine Gets.cond false (by kernel_rfl) (show evalX (KSt.ts (S57 pre n c bb lg l e)) (.tmp 116) = .bool false by kernel_rfl) ?_; show Gets _ _ (codeAt [1, 1, 1, 1, 1, 0, 1, 0, 0, 1, 0, 0, 1, 1, 1, 1, 0, 1, 1] B) _ _
  refine Gets.ofN fitCrowd grp_sound (conT_agree _ _) 12 40 (by kernel_rfl) (x := .normal) (s' := (S47 pre n c bb lg l e)) (R54 pre n c bb lg l e) ?_
  show Gets _ _ (codeAt [1, 1, 1, 1, 1, 0, 1, 0, 0, 1, 0, 0, 1, 1, 1, 1, 1] B) _ _
  rw [C1_1_1_1_1_0_1_0_0_1_0_0_1_1_1_1_1]; refine Gets.seq ?_
  refine Gets.ofN fitCrowd grp_sound (conT_agree _ _) 12 40 (by kernel_rfl) (x := .normal) (s' := (S58 pre n c bb lg l e)) (R55 pre n c bb lg l e) ?_
  show Gets _ _ (codeAt [1, 1, 1, 1, 1, 0, 1, 0, 0, 1, 0, 0, 1, 1, 1, 1, 1, 1] B) _ _
  rw [C1_1_1_1_1_0_1_0_0_1_0_0_1_1_1_1_1_1]; refine Gets.cond true (by kernel_rfl) ((show evalX (KSt.ts (S58 pre n c bb lg l e)) (.tmp 120) = .bool (decide (2 < ((n : Nat) : Int))) by kernel_rfl).trans (by rw [(show (decide (2 < ((n : Nat) : Int))) = true from decide_eq_true (by omega))])) ?_; show Gets _ _ (codeAt [1, 1, 1, 1, 1, 0, 1, 0, 0, 1, 0, 0, 1, 1, 1, 1, 1, 1, 0] B) _ _
  refine Gets.ofN fitCrowd grp_sound (conT_agree _ _) 12 40 (by kernel_rfl) (x := .normal) (s' := (S60 pre n c bb lg l e)) ((R56 pre n c bb lg l e).trans (by rw [if_pos (⟨by omega, by omega⟩), condT (ble_t (by omega)), obind_at (k := 2) (by omega) (by omega)] <;> rfl)) ?_
  show Gets _ _ (codeAt [1, 1, 1, 1, 1, 0, 1, 0, 0, 1, 1] B) _ _
  refine Gets.ofN fitCrowd grp_sound (conT_agree _ _) 12 40 (by kernel_rfl) (x := .normal) (s' := (S61 pre n c bb lg l e)) (R57 pre n c bb lg l e) ?_
  exact hq
theorem R58 (pre : Nat) (n : Nat) (c : Nat) (bb : Int) (lg : Int) (l : List Int) (e : TypeId) : evCK Try.prog cfgA (runK Try.prog cfgA fsCrowd (conT grpDom grpE) 12 40) 12 (codeAt [1, 1, 1, 1, 1, 0, 1, 0, 0, 1, 0, 0, 1, 1, 1, 1, 1, 1, 1] B) (S58 pre n c bb lg l e) (normC 1 [2, 3, 7, 12]) =
  some (.normal, (S47 pre n c bb lg l e)) := by kernel_rfl
noncomputable def S62 (pre : Nat) (n : Nat) (c : Nat) (bb : Int) (lg : Int) (l : List Int) (e : TypeId) : KSt := ⟨(frameL 128 [(2, (.slice (some ⟨0, pre, none⟩) n c)), (3, (.pointer (some ⟨1, 0, none⟩))), (7, (.pointer (some ⟨2, 0, none⟩))), (12, (.int .i64 3))]), ⟨3, 1, [(2, 0, .cells [(.int .u64 bb), (.int .i64 lg), (.bool true), (.int .i64 2), (.int .u64 (l.getD 0 0)), (.int .u64 (l.getD 1 0)), (.int .u64 0), (.int .u64 0)] 81 true), (1, 0, .cells [(.int .u64 bb), (.int .i64 lg)] 39 true), (0, 0, .tail pre .u64 l e)]⟩⟩
theorem R59 (pre : Nat) (n : Nat) (c : Nat) (bb : Int) (lg : Int) (l : List Int) (e : TypeId) : evCK Try.prog cfgA (runK Try.prog cfgA fsCrowd (conT grpDom grpE) 12 40) 12 (codeAt [1, 1, 1, 1, 1, 0, 1, 0, 0, 1, 1] B) (S47 pre n c bb lg l e) (normC 1 [2, 3, 7, 12]) =
  some (.normal, (S62 pre n c bb lg l e)) := by kernel_rfl
theorem l21 (bb lg i : Int) (pre n c : Nat) (l : List Int) (e : TypeId)  (hn20 : n ≤ 20) (hc : n ≤ c) (hc2 : c ≤ 9223372036854775807) (hl : l.length = c) (hc0 : 0 < c) (hn : 2 = (n : Int))  {Q : Ex → St → Prop} (hq : Q .normal (KSt.low (S62 pre n c bb lg l e))) : Gets Try.prog (KH.low ⟨1, 1, [(0, 0, .tail pre .u64 l e)]⟩) (codeAt [1, 1, 1, 1, 1, 0, 1, 0, 0] B) (KSt.low (S47 pre n c bb lg l e)) Q := by
  rw [C1_1_1_1_1_0_1_0_0]; refine Gets.seq ?_
  rw [C1_1_1_1_1_0_1_0_0_0]; refine Gets.seq ?_
  refine Gets.ofN fitCrowd grp_sound (conT_agree _ _) 12 40 (by kernel_rfl) (x := .normal) (s' := (S49 pre n c bb lg l e)) (R47 pre n c bb lg l e) ?_
  show Gets _ _ (codeAt [1, 1, 1, 1, 1, 0, 1, 0, 0, 0, 1] B) _ _
  rw [C1_1_1_1_1_0_1_0_0_0_1]; refine Gets.cond true (by kernel_rfl) ((show evalX (KSt.ts (S49 pre n c bb lg l e)) (.tmp 59) = .bool (decide (2 ≤ ((n : Nat) : Int))) by kernel_rfl).trans (by rw [(show (decide (2 ≤ ((n : Nat) : Int))) = true from decide_eq_true (by omega))])) ?_; show Gets _ _ (codeAt [1, 1, 1, 1, 1, 0, 1, 0, 0, 0, 1, 0] B) _ _
  refine Gets.ofN fitCrowd grp_sound (conT_agree _ _) 12 40 (by kernel_rfl) (x := .normal) (s' := (S47 pre n c bb lg l e)) (R48 pre n c bb lg l e) ?_
  show Gets _ _ (codeAt [1, 1, 1, 1, 1, 0, 1, 0, 0, 1] B) _ _
  rw [C1_1_1_1_1_0_1_0_0_1]; refine Gets.seq ?_
  rw [C1_1_1_1_1_0_1_0_0_1_0]; refine Gets.block ?_
  rw [C1_1_1_1_1_0_1_0_0_1_0_0]; refine Gets.seq ?_
  refine Gets.ofN fitCrowd grp_sound (conT_agree _ _) 12 40 (by kernel_rfl) (x := .normal) (s' := (S51 pre n c bb lg l e)) ((R49 pre n c bb lg l e).trans (by rw [if_pos (⟨by omega, by omega⟩), condT (and_t (rfl) (ble_t (by omega))), condF (nbeq_f (by omega))])) ?_
  show Gets _ _ (codeAt [1, 1, 1, 1, 1, 0, 1, 0, 0, 1, 0, 0, 1] B) _ _
  rw [C1_1_1_1_1_0_1_0_0_1_0_0_1]; refine Gets.seq ?_
  refine Gets.ofN fitCrowd grp_sound (conT_agree _ _) 12 40 (by kernel_rfl) (x := .normal) (s' := (S53 pre n c l lg bb e)) ((R50 pre n c bb lg l e).trans (by rw [condT (ble_t (by omega)), obind_at (k := 0) (by omega) (by omega), condT (ble_t (by omega)), obind_at (k := 1) (by omega) (by omega)] <;> rfl)) ?_
  show Gets _ _ (codeAt [1, 1, 1, 1, 1, 0, 1, 0, 0, 1, 0, 0, 1, 1] B) _ _
  rw [C1_1_1_1_1_0_1_0_0_1_0_0_1_1]; refine Gets.seq ?_
  refine Gets.ofN fitCrowd grp_sound (conT_agree _ _) 12 40 (by kernel_rfl) (x := .normal) (s' := (S54 pre n c l lg bb e)) (R51 pre n c l lg bb e) ?_
  show Gets _ _ (codeAt [1, 1, 1, 1, 1, 0, 1, 0, 0, 1, 0, 0, 1, 1, 1] B) _ _
  rw [C1_1_1_1_1_0_1_0_0_1_0_0_1_1_1]; refine Gets.seq ?_
  refine Gets.ofN fitCrowd grp_sound (conT_agree _ _) 12 40 (by kernel_rfl) (x := .normal) (s' := (S55 pre n c l lg bb e)) (R52 pre n c l lg bb e) ?_
  show Gets _ _ (codeAt [1, 1, 1, 1, 1, 0, 1, 0, 0, 1, 0, 0, 1, 1, 1, 1] B) _ _
  rw [C1_1_1_1_1_0_1_0_0_1_0_0_1_1_1_1]; refine Gets.seq ?_
  rw [C1_1_1_1_1_0_1_0_0_1_0_0_1_1_1_1_0]; refine Gets.seq ?_
  refine Gets.ofN fitCrowd grp_sound (conT_agree _ _) 12 40 (by kernel_rfl) (x := .normal) (s' := (S57 pre n c bb lg l e)) ((R53 pre n c l lg bb e).trans (by rw [condF (not_f (and_t (rfl) (and_t (beq_self_eq_true _) (rfl))))])) ?_
  show Gets _ _ (codeAt [1, 1, 1, 1, 1, 0, 1, 0, 0, 1, 0, 0, 1, 1, 1, 1, 0, 1] B) _ _
  rw [C1_1_1_1_1_0_1_0_0_1_0_0_1_1_1_1_0_1]; refine Gets.cond false (by kernel_rfl) (show evalX (KSt.ts (S57 pre n c bb lg l e)) (.tmp 116) = .bool false by kernel_rfl) ?_; show Gets _ _ (codeAt [1, 1, 1, 1, 1, 0, 1, 0, 0, 1, 0, 0, 1, 1, 1, 1, 0, 1, 1] B) _ _
  refine Gets.ofN fitCrowd grp_sound (conT_agree _ _) 12 40 (by kernel_rfl) (x := .normal) (s' := (S47 pre n c bb lg l e)) (R54 pre n c bb lg l e) ?_
  show Gets _ _ (codeAt [1, 1, 1, 1, 1, 0, 1, 0, 0, 1, 0, 0, 1, 1, 1, 1, 1] B) _ _
  rw [C1_1_1_1_1_0_1_0_0_1_0_0_1_1_1_1_1]; refine Gets.seq ?_
  refine Gets.ofN fitCrowd grp_sound (conT_agree _ _) 12 40 (by kernel_rfl) (x := .normal) (s' := (S58 pre n c bb lg l e)) (R55 pre n c bb lg l e) ?_
  show Gets _ _ (codeAt [1, 1, 1, 1, 1, 0, 1, 0, 0, 1, 0, 0, 1, 1, 1, 1, 1, 1] B) _ _
  rw [C1_1_1_1_1_0_1_0_0_1_0_0_1_1_1_1_1_1]; refine Gets.cond false (by kernel_rfl) ((show evalX (KSt.ts (S58 pre n c bb lg l e)) (.tmp 120) = .bool (decide (2 < ((n : Nat) : Int))) by kernel_rfl).trans (by rw [(show (decide (2 < ((n : Nat) : Int))) = false from decide_eq_false (by omega))])) ?_; show Gets _ _ (codeAt [1, 1, 1, 1, 1, 0, 1, 0, 0, 1, 0, 0, 1, 1, 1, 1, 1, 1, 1] B) _ _
  refine Gets.ofN fitCrowd grp_sound (conT_agree _ _) 12 40 (by kernel_rfl) (x := .normal) (s' := (S47 pre n c bb lg l e)) (R58 pre n c bb lg l e) ?_
  show Gets _ _ (codeAt [1, 1, 1, 1, 1, 0, 1, 0, 0, 1, 1] B) _ _
  refine Gets.ofN fitCrowd grp_sound (conT_agree _ _) 12 40 (by kernel_rfl) (x := .normal) (s' := (S62 pre n c bb lg l e)) (R59 pre n c bb lg l e) ?_
  exact hq
noncomputable def S63 (pre : Nat) (n : Nat) (c : Nat) (bb : Int) (lg : Int) (l : List Int) (e : TypeId) : KSt := ⟨(frameL 128 [(2, (.slice (some ⟨0, pre, none⟩) n c)), (3, (.pointer (some ⟨1, 0, none⟩))), (7, (.pointer (some ⟨2, 0, none⟩))), (12, (.int .i64 3)), (59, (.bool (decide (3 ≤ ((n : Nat) : Int)))))]), ⟨3, 1, [(2, 0, .cells [(.int .u64 bb), (.int .i64 lg), (.bool true), (.int .i64 3), (.int .u64 (l.getD 0 0)), (.int .u64 (l.getD 1 0)), (.int .u64 (l.getD 2 0)), (.int .u64 0)] 81 true), (1, 0, .cells [(.int .u64 bb), (.int .i64 lg)] 39 true), (0, 0, .tail pre .u64 l e)]⟩⟩
theorem R60 (pre : Nat) (n : Nat) (c : Nat) (bb : Int) (lg : Int) (l : List Int) (e : TypeId) : evCK Try.prog cfgA (runK Try.prog cfgA fsCrowd (conT grpDom grpE) 12 40) 12 (codeAt [1, 1, 1, 1, 1, 0, 1, 0, 0, 0, 0] B) (S61 pre n c bb lg l e) (normC 1 [2, 3, 7, 12, 59]) =
  some (.normal, (S63 pre n c bb lg l e)) := by kernel_rfl
theorem R61 (pre : Nat) (n : Nat) (c : Nat) (bb : Int) (lg : Int) (l : List Int) (e : TypeId) : evCK Try.prog cfgA (runK Try.prog cfgA fsCrowd (conT grpDom grpE) 12 40) 12 (codeAt [1, 1, 1, 1, 1, 0, 1, 0, 0, 0, 1, 0] B) (S63 pre n c bb lg l e) (normC 1 [2, 3, 7, 12]) =
  some (.normal, (S61 pre n c bb lg l e)) := by kernel_rfl
noncomputable def S64 (pre : Nat) (n : Nat) (c : Nat) (bb : Int) (lg : Int) (l : List Int) (e : TypeId) : KSt := ⟨(frameL 128 [(2, (.slice (some ⟨0, pre, none⟩) n c)), (3, (.pointer (some ⟨1, 0, none⟩))), (7, (.pointer (some ⟨2, 0, none⟩))), (12, (.int .i64 3)), (13, (.pointer (some ⟨3, 0, none⟩)))]), ⟨4, 1, [(3, 0, .cells [(.slice (some ⟨0, pre, none⟩) 3 (c - 0)), (.int .i64 0), (.bool false), (.int .i64 0), (.int .u64 0), (.int .i64 0), (.int .u64 0), (.int .u64 0)] 54 true), (2, 0, .cells [(.int .u64 bb), (.int .i64 lg), (.bool true), (.int .i64 3), (.int .u64 (l.getD 0 0)), (.int .u64 (l.getD 1 0)), (.int .u64 (l.getD 2 0)), (.int .u64 0)] 81 true), (1, 0, .cells [(.int .u64 bb), (.int .i64 lg)] 39 true), (0, 0, .tail pre .u64 l e)]⟩⟩
noncomputable def S65 (pre : Nat) (n : Nat) (c : Nat) (bb : Int) (lg : Int) (l : List Int) (e : TypeId) : KSt := ⟨(frameL 128 [(2, (.slice (some ⟨0, pre, none⟩) n c)), (3, (.pointer (some ⟨1, 0, none⟩))), (7, (.pointer (some ⟨2, 0, none⟩))), (12, (.int .i64 3)), (13, (.pointer (some ⟨3, 0, none⟩)))]), ⟨4, 1, [(3, 0, .cells [(.slice (some ⟨0, (pre + 0), none⟩) 3 (c - 0)), (.int .i64 0), (.bool false), (.int .i64 0), (.int .u64 0), (.int .i64 0), (.int .u64 0), (.int .u64 0)] 54 true), (2, 0, .cells [(.int .u64 bb), (.int .i64 lg), (.bool true), (.int .i64 3), (.int .u64 (l.getD 0 0)), (.int .u64 (l.getD 1 0)), (.int .u64 (l.getD 2 0)), (.int .u64 0)] 81 true), (1, 0, .cells [(.int .u64 bb), (.int .i64 lg)] 39 true), (0, 0, .tail pre .u64 l e)]⟩⟩
theorem R62 (pre : Nat) (n : Nat) (c : Nat) (bb : Int) (lg : Int) (l : List Int) (e : TypeId) : evCK Try.prog cfgA (runK Try.prog cfgA fsCrowd (conT grpDom grpE) 12 40) 12 (codeAt [1, 1, 1, 1, 1, 0, 1, 0, 0, 1, 0, 0, 0] B) (S61 pre n c bb lg l e) (normC 1 [2, 3, 7, 12, 13]) =
  if (0 : Int) ≤ 3 ∧ 3 ≤ ((c : Nat) : Int) then
    bif (true && (Nat.ble 3 c)) then
      bif (Nat.beq c 0) then
        some (.normal, (S64 pre n c bb lg l e))
      else
        some (.normal, (S65 pre n c bb lg l e))
    else
      none
  else
    none := by kernel_rfl
noncomputable def S66 (pre : Nat) (n : Nat) (c : Nat) (n1 : Int) (n2 : Int) (n3 : Int) (lg : Int) (bb : Int) (l : List Int) (e : TypeId) : KSt := ⟨(frameL 128 [(2, (.slice (some ⟨0, pre, none⟩) n c)), (3, (.pointer (some ⟨1, 0, none⟩))), (7, (.pointer (some ⟨2, 0, none⟩))), (12, (.int .i64 3)), (13, (.pointer (some ⟨3, 0, none⟩))), (14, (.bool (decide ((IntKind.wrap .u64 ((IntKind.wrap .u64 ((IntKind.wrap .u64 ((IntKind.wrap .u64 (0 + n1)) + n2)) + n3)) + 0)) ≥ (IntKind.wrap .u64 (IntKind.wrap .i64 (7 * (groupsV lg))))))))]), ⟨4, 1, [(3, 0, .cells [(.slice (some ⟨0, (pre + 0), none⟩) 3 (c - 0)), (.int .i64 3), (.bool true), (.int .i64 1), (.int .u64 bb), (.int .i64 6), (.int .u64 0), (.int .u64 0)] 54 true), (2, 0, .cells [(.int .u64 bb), (.int .i64 lg), (.bool true), (.int .i64 3), (.int .u64 (l.getD 0 0)), (.int .u64 (l.getD 1 0)), (.int .u64 (l.getD 2 0)), (.int .u64 0)] 81 true), (1, 0, .cells [(.int .u64 bb), (.int .i64 lg)] 39 true), (0, 0, .tail pre .u64 l e)]⟩⟩
theorem R63 (pre : Nat) (n : Nat) (c : Nat) (bb : Int) (lg : Int) (l : List Int) (e : TypeId) : evCK Try.prog cfgA (runK Try.prog cfgA fsCrowd (conT grpDom grpE) 12 40) 12 (codeAt [1, 1, 1, 1, 1, 0, 1, 0, 0, 1, 0, 0, 1, 0] B) (S65 pre n c bb lg l e) (normC 1 [2, 3, 7, 12, 13, 14]) =
  bif (Nat.ble pre ((pre + 0) + 0)) then
    obind (l[(((pre + 0) + 0) - pre)]?) fun n1 =>
      bif (Nat.ble pre ((pre + 0) + 1)) then
        obind (l[(((pre + 0) + 1) - pre)]?) fun n2 =>
          bif (Nat.ble pre ((pre + 0) + 2)) then
            obind (l[(((pre + 0) + 2) - pre)]?) fun n3 =>
              some (.normal, (S66 pre n c n1 n2 n3 lg bb l e))
          else
            none
      else
        none
  else
    none := by kernel_rfl
noncomputable def S67 (pre : Nat) (n : Nat) (c : Nat) (l : List Int) (lg : Int) (bb : Int) (e : TypeId) : KSt := ⟨(frameL 128 [(2, (.slice (some ⟨0, pre, none⟩) n c)), (3, (.pointer (some ⟨1, 0, none⟩))), (7, (.pointer (some ⟨2, 0, none⟩))), (12, (.int .i64 3)), (13, (.pointer (some ⟨3, 0, none⟩))), (14, (.bool (decide ((IntKind.wrap .u64 ((IntKind.wrap .u64 ((IntKind.wrap .u64 ((IntKind.wrap .u64 (0 + (l.getD 0 0))) + (l.getD 1 0))) + (l.getD 2 0))) + 0)) ≥ (IntKind.wrap .u64 (IntKind.wrap .i64 (7 * (groupsV lg))))))))]), ⟨4, 1, [(3, 0, .cells [(.slice (some ⟨0, (pre + 0), none⟩) 3 (c - 0)), (.int .i64 3), (.bool true), (.int .i64 1), (.int .u64 bb), (.int .i64 6), (.int .u64 0), (.int .u64 0)] 54 true), (2, 0, .cells [(.int .u64 bb), (.int .i64 lg), (.bool true), (.int .i64 3), (.int .u64 (l.getD 0 0)), (.int .u64 (l.getD 1 0)), (.int .u64 (l.getD 2 0)), (.int .u64 0)] 81 true), (1, 0, .cells [(.int .u64 bb), (.int .i64 lg)] 39 true), (0, 0, .tail pre .u64 l e)]⟩⟩
noncomputable def S68 (pre : Nat) (n : Nat) (c : Nat) (l : List Int) (lg : Int) (bb : Int) (e : TypeId) : KSt := ⟨(frameL 128 [(2, (.slice (some ⟨0, pre, none⟩) n c)), (3, (.pointer (some ⟨1, 0, none⟩))), (7, (.pointer (some ⟨2, 0, none⟩))), (12, (.int .i64 3)), (13, (.pointer (some ⟨3, 0, none⟩))), (14, (.bool (decide ((IntKind.wrap .u64 ((IntKind.wrap .u64 ((IntKind.wrap .u64 ((IntKind.wrap .u64 (0 + (l.getD 0 0))) + (l.getD 1 0))) + (l.getD 2 0))) + 0)) ≥ (IntKind.wrap .u64 (IntKind.wrap .i64 (7 * (groupsV lg)))))))), (15, (.bool false)), (16, (.bool false))]), ⟨4, 1, [(3, 0, .cells [(.slice (some ⟨0, (pre + 0), none⟩) 3 (c - 0)), (.int .i64 3), (.bool true), (.int .i64 1), (.int .u64 bb), (.int .i64 6), (.int .u64 0), (.int .u64 0)] 54 true), (2, 0, .cells [(.int .u64 bb), (.int .i64 lg), (.bool true), (.int .i64 3), (.int .u64 (l.getD 0 0)), (.int .u64 (l.getD 1 0)), (.int .u64 (l.getD 2 0)), (.int .u64 0)] 81 true), (1, 0, .cells [(.int .u64 bb), (.int .i64 lg)] 39 true), (0, 0, .tail pre .u64 l e)]⟩⟩
theorem R64 (pre : Nat) (n : Nat) (c : Nat) (l : List Int) (lg : Int) (bb : Int) (e : TypeId) : evCK Try.prog cfgA (runK Try.prog cfgA fsCrowd (conT grpDom grpE) 12 40) 12 (codeAt [1, 1, 1, 1, 1, 0, 1, 0, 0, 1, 0, 0, 1, 1, 0] B) (S67 pre n c l lg bb e) (normC 1 [2, 3, 7, 12, 13, 14, 15, 16]) =
  some (.normal, (S68 pre n c l lg bb e)) := by kernel_rfl
noncomputable def S69 (pre : Nat) (n : Nat) (c : Nat) (l : List Int) (lg : Int) (bb : Int) (e : TypeId) : KSt := ⟨(frameL 128 [(2, (.slice (some ⟨0, pre, none⟩) n c)), (3, (.pointer (some ⟨1, 0, none⟩))), (7, (.pointer (some ⟨2, 0, none⟩))), (12, (.int .i64 3)), (13, (.pointer (some ⟨3, 0, none⟩))), (14, (.bool (decide ((IntKind.wrap .u64 ((IntKind.wrap .u64 ((IntKind.wrap .u64 ((IntKind.wrap .u64 (0 + (l.getD 0 0))) + (l.getD 1 0))) + (l.getD 2 0))) + 0)) ≥ (IntKind.wrap .u64 (IntKind.wrap .i64 (7 * (groupsV lg)))))))), (15, (.bool false)), (16, (.bool false)), (17, (.pointer (some ⟨4, 0, none⟩))), (18, (.bool true))]), ⟨5, 1, [(4, 0, .cells [(.int .i64 1), (.int .u64 bb), (.int .i64 6), (.int .u64 0), (.int .u64 0)] 44 true), (3, 0, .cells [(.slice (some ⟨0, (pre + 0), none⟩) 3 (c - 0)), (.int .i64 3), (.bool true), (.int .i64 1), (.int .u64 bb), (.int .i64 6), (.int .u64 0), (.int .u64 0)] 54 true), (2, 0, .cells [(.int .u64 bb), (.int .i64 lg), (.bool true), (.int .i64 3), (.int .u64 (l.getD 0 0)), (.int .u64 (l.getD 1 0)), (.int .u64 (l.getD 2 0)), (.int .u64 0)] 81 true), (1, 0, .cells [(.int .u64 bb), (.int .i64 lg)] 39 true), (0, 0, .tail pre .u64 l e)]⟩⟩
theorem R65 (pre : Nat) (n : Nat) (c : Nat) (l : List Int) (lg : Int) (bb : Int) (e : TypeId) : evCK Try.prog cfgA (runK Try.prog cfgA fsCrowd (conT grpDom grpE) 12 40) 12 (codeAt [1, 1, 1, 1, 1, 0, 1, 0, 0, 1, 0, 0, 1, 1, 1, 0] B) (S68 pre n c l lg bb e) (normC 1 [2, 3, 7, 12, 13, 14, 15, 16, 17, 18]) =
  some (.normal, (S69 pre n c l lg bb e)) := by kernel_rfl
noncomputable def S70 (pre : Nat) (n : Nat) (c : Nat) (bb : Int) (lg : Int) (l : List Int) (e : TypeId) : KSt := ⟨(frameL 128 [(2, (.slice (some ⟨0, pre, none⟩) n c)), (3, (.pointer (some ⟨1, 0, none⟩))), (7, (.pointer (some ⟨2, 0, none⟩))), (12, (.int .i64 3)), (116, (.bool true))]), ⟨3, 1, [(2, 0, .cells [(.int .u64 bb), (.int .i64 lg), (.bool true), (.int .i64 3), (.int .u64 (l.getD 0 0)), (.int .u64 (l.getD 1 0)), (.int .u64 (l.getD 2 0)), (.int .u64 0)] 81 true), (1, 0, .cells [(.int .u64 bb), (.int .i64 lg)] 39 true), (0, 0, .tail pre .u64 l e)]⟩⟩
noncomputable def S71 (pre : Nat) (n : Nat) (c : Nat) (bb : Int) (lg : Int) (l : List Int) (e : TypeId) : KSt := ⟨(frameL 128 [(2, (.slice (some ⟨0, pre, none⟩) n c)), (3, (.pointer (some ⟨1, 0, none⟩))), (7, (.pointer (some ⟨2, 0, none⟩))), (12, (.int .i64 3)), (116, (.bool false))]), ⟨3, 1, [(2, 0, .cells [(.int .u64 bb), (.int .i64 lg), (.bool true), (.int .i64 3), (.int .u64 (l.getD 0 0)), (.int .u64 (l.getD 1 0)), (.int .u64 (l.getD 2 0)), (.int .u64 0)] 81 true), (1, 0, .cells [(.int .u64 bb), (.int .i64 lg)] 39 true), (0, 0, .tail pre .u64 l e)]⟩⟩
theorem R66 (pre : Nat) (n : Nat) (c : Nat) (l : List Int) (lg : Int) (bb : Int) (e : TypeId) : evCK Try.prog cfgA (runK Try.prog cfgA fsCrowd (conT grpDom grpE) 12 40) 12 (codeAt [1, 1, 1, 1, 1, 0, 1, 0, 0, 1, 0, 0, 1, 1, 1, 1, 0, 0] B) (S69 pre n c l lg bb e) (normC 1 [2, 3, 7, 12, 116]) =
  bif (!(true && ((bb == bb) && true))) then
    some (.normal, (S70 pre n c bb lg l e))
  else
    some (.normal, (S71 pre n c bb lg l e)) := by kernel_rfl
theorem R67 (pre : Nat) (n : Nat) (c : Nat) (bb : Int) (lg : Int) (l : List Int) (e : TypeId) : evCK Try.prog cfgA (runK Try.prog cfgA fsCrowd (conT grpDom grpE) 12 40) 12 (codeAt [1, 1, 1, 1, 1, 0, 1, 0, 0, 1, 0, 0, 1, 1, 1, 1, 0, 1, 1] B) (S71 pre n c bb lg l e) (normC 1 [2, 3, 7, 12]) =
  some (.normal, (S61 pre n c bb lg l e)) := by kernel_rfl
noncomputable def S72 (pre : Nat) (n : Nat) (c : Nat) (bb : Int) (lg : Int) (l : List Int) (e : TypeId) : KSt := ⟨(frameL 128 [(2, (.slice (some ⟨0, pre, none⟩) n c)), (3, (.pointer (some ⟨1, 0, none⟩))), (7, (.pointer (some ⟨2, 0, none⟩))), (12, (.int .i64 3)), (120, (.bool (decide (3 < ((n : Nat) : Int)))))]), ⟨3, 1, [(2, 0, .cells [(.int .u64 bb), (.int .i64 lg), (.bool true), (.int .i64 3), (.int .u64 (l.getD 0 0)), (.int .u64 (l.getD 1 0)), (.int .u64 (l.getD 2 0)), (.int .u64 0)] 81 true), (1, 0, .cells [(.int .u64 bb), (.int .i64 lg)] 39 true), (0, 0, .tail pre .u64 l e)]⟩⟩
theorem R68 (pre : Nat) (n : Nat) (c : Nat) (bb : Int) (lg : Int) (l : List Int) (e : TypeId) : evCK Try.prog cfgA (runK Try.prog cfgA fsCrowd (conT grpDom grpE) 12 40) 12 (codeAt [1, 1, 1, 1, 1, 0, 1, 0, 0, 1, 0, 0, 1, 1, 1, 1, 1, 0] B) (S61 pre n c bb lg l e) (normC 1 [2, 3, 7, 12, 120]) =
  some (.normal, (S72 pre n c bb lg l e)) := by kernel_rfl
noncomputable def S73 (pre : Nat) (n : Nat) (c : Nat) (bb : Int) (lg : Int) (l : List Int) (n1 : Int) (e : TypeId) : KSt := ⟨(frameL 128 [(2, (.slice (some ⟨0, pre, none⟩) n c)), (3, (.pointer (some ⟨1, 0, none⟩))), (7, (.pointer (some ⟨2, 0, none⟩))), (12, (.int .i64 3))]), ⟨3, 1, [(2, 0, .cells [(.int .u64 bb), (.int .i64 lg), (.bool true), (.int .i64 4), (.int .u64 (l.getD 0 0)), (.int .u64 (l.getD 1 0)), (.int .u64 (l.getD 2 0)), (.int .u64 n1)] 81 true), (1, 0, .cells [(.int .u64 bb), (.int .i64 lg)] 39 true), (0, 0, .tail pre .u64 l e)]⟩⟩
theorem R69 (pre : Nat) (n : Nat) (c : Nat) (bb : Int) (lg : Int) (l : List Int) (e : TypeId) : evCK Try.prog cfgA (runK Try.prog cfgA fsCrowd (conT grpDom grpE) 12 40) 12 (codeAt [1, 1, 1, 1, 1, 0, 1, 0, 0, 1, 0, 0, 1, 1, 1, 1, 1, 1, 0] B) (S72 pre n c bb lg l e) (normC 1 [2, 3, 7, 12]) =
  if (0 : Int) ≤ 3 ∧ 3 < ((n : Nat) : Int) then
    bif (Nat.ble pre (pre + 3)) then
      obind (l[((pre + 3) - pre)]?) fun n1 =>
        some (.normal, (S73 pre n c bb lg l n1 e))
    else
      none
  else
    none := by kernel_rfl
noncomputable def S74 (pre : Nat) (n : Nat) (c : Nat) (bb : Int) (lg : Int) (l : List Int) (e : TypeId) : KSt := ⟨(frameL 128 [(2, (.slice (some ⟨0, pre, none⟩) n c)), (3, (.pointer (some ⟨1, 0, none⟩))), (7, (.pointer (some ⟨2, 0, none⟩))), (12, (.int .i64 3))]), ⟨3, 1, [(2, 0, .cells [(.int .u64 bb), (.int .i64 lg), (.bool true), (.int .i64 4), (.int .u64 (l.getD 0 0)), (.int .u64 (l.getD 1 0)), (.int .u64 (l.getD 2 0)), (.int .u64 (l.getD 3 0))] 81 true), (1, 0, .cells [(.int .u64 bb), (.int .i64 lg)] 39 true), (0, 0, .tail pre .u64 l e)]⟩⟩
noncomputable def S75 (pre : Nat) (n : Nat) (c : Nat) (bb : Int) (lg : Int) (l : List Int) (e : TypeId) : KSt := ⟨(frameL 128 [(2, (.slice (some ⟨0, pre, none⟩) n c)), (3, (.pointer (some ⟨1, 0, none⟩))), (7, (.pointer (some ⟨2, 0, none⟩))), (12, (.int .i64 4))]), ⟨3, 1, [(2, 0, .cells [(.int .u64 bb), (.int .i64 lg), (.bool true), (.int .i64 4), (.int .u64 (l.getD 0 0)), (.int .u64 (l.getD 1 0)), (.int .u64 (l.getD 2 0)), (.int .u64 (l.getD 3 0))] 81 true), (1, 0, .cells [(.int .u64 bb), (.int .i64 lg)] 39 true), (0, 0, .tail pre .u64 l e)]⟩⟩
theorem R70 (pre : Nat) (n : Nat) (c : Nat) (bb : Int) (lg : Int) (l : List Int) (e : TypeId) : evCK Try.prog cfgA (runK Try.prog cfgA fsCrowd (conT grpDom grpE) 12 40) 12 (codeAt [1, 1, 1, 1, 1, 0, 1, 0, 0, 1, 1] B) (S74 pre n c bb lg l e) (normC 1 [2, 3, 7, 12]) =
  some (.normal, (S75 pre n c bb lg l e)) := by kernel_rfl
theorem l30 (bb lg i : Int) (pre n c : Nat) (l : List Int) (e : TypeId)  (hn20 : n ≤ 20) (hc : n ≤ c) (hc2 : c ≤ 9223372036854775807) (hl : l.length = c) (hc0 : 0 < c) (hn : 3 < (n : Int))  {Q : Ex → St → Prop} (hq : Q .normal (KSt.low (S75 pre n c bb lg l e))) : Gets Try.prog (KH.low ⟨1, 1, [(0, 0, .tail pre .u64 l e)]⟩) (codeAt [1, 1, 1, 1, 1, 0, 1, 0, 0] B) (KSt.low (S61 pre n c bb lg l e)) Q := by
  rw [C1_1_1_1_1_0_1_0_0]; refine Gets.seq ?_
  rw [C1_1_1_1_1_0_1_0_0_0]; refine Gets.seq ?_
  refine Gets.ofN fitCrowd grp_sound (conT_agree _ _) 12 40 (by kernel_rfl) (x := .normal) (s' := (S63 pre n c bb lg l e)) (R60 pre n c bb lg l e) ?_
  show Gets _ _ (codeAt [1, 1, 1, 1, 1, 0, 1, 0, 0, 0, 1] B) _ _
  rw [C1_1_1_1_1_0_1_0_0_0_1]; refine Gets.cond true (by kernel_rfl) ((show evalX (KSt.ts (S63 pre n c bb lg l e)) (.tmp 59) = .bool (decide (3 ≤ ((n : Nat) : Int))) by kernel_rfl).trans (by rw [(show (decide (3 ≤ ((n : Nat) : Int))) = true from decide_eq_true (by omega))])) ?_; show Gets _ _ (codeAt [1, 1, 1, 1, 1, 0, 1, 0, 0, 0, 1, 0] B) _ _
  refine Gets.ofN fitCrowd grp_sound (conT_agree _ _) 12 40 (by kernel_rfl) (x := .normal) (s' := (S61 pre n c bb lg l e)) (R61 pre n c bb lg l e) ?_
  show Gets _ _ (codeAt [1, 1, 1, 1, 1, 0, 1, 0, 0, 1] B) _ _
  rw [C1_1_1_1_1_0_1_0_0_1]; refine Gets.seq ?_
  rw [C1_1_1_1_1_0_1_0_0_1_0]; refine Gets.block ?_
  rw [C1_1_1_1_1_0_1_0_0_1_0_0]; refine Gets.seq ?_
  refine Gets.ofN fitCrowd grp_sound (conT_agree _ _) 12 40 (by kernel_rfl) (x := .normal) (s' := (S65 pre n c bb lg l e)) ((R62 pre n c bb lg l e).trans (by rw [if_pos (⟨by omega, by omega⟩), condT (and_t (rfl) (ble_t (by omega))), condF (nbeq_f (by omega))])) ?_
  show Gets _ _ (codeAt [1, 1, 1, 1, 1, 0, 1, 0, 0, 1, 0, 0, 1] B) _ _
  rw [C1_1_1_1_1_0_1_0_0_1_0_0_1]; refine Gets.seq ?_
  refine Gets.ofN fitCrowd grp_sound (conT_agree _ _) 12 40 (by kernel_rfl) (x := .normal) (s' := (S67 pre n c l lg bb e)) ((R63 pre n c bb lg l e).trans (by rw [condT (ble_t (by omega)), obind_at (k := 0) (by omega) (by omega), condT (ble_t (by omega)), obind_at (k := 1) (by omega) (by omega), condT (ble_t (by omega)), obind_at (k := 2) (by omega) (by omega)] <;> rfl)) ?_
  show Gets _ _ (codeAt [1, 1, 1, 1, 1, 0, 1, 0, 0, 1, 0, 0, 1, 1] B) _ _
  rw [C1_1_1_1_1_0_1_0_0_1_0_0_1_1]; refine Gets.seq ?_
  refine Gets.ofN fitCrowd grp_sound (conT_agree _ _) 12 40 (by kernel_rfl) (x := .normal) (s' := (S68 pre n c l lg bb e)) (R64 pre n c l lg bb e) ?_
  show Gets _ _ (codeAt [1, 1, 1, 1, 1, 0, 1, 0, 0, 1, 0, 0, 1, 1, 1] B) _ _
  rw [C1_1_1_1_1_0_1_0_0_1_0_0_1_1_1]; refine Gets.seq ?_
  refine Gets.ofN fitCrowd grp_sound (conT_agree _ _) 12 40 (by kernel_rfl) (x := .normal) (s' := (S69 pre n c l lg bb e)) (R65 pre n c l lg bb e) ?_
  show Gets _ _ (codeAt [1, 1, 1, 1, 1, 0, 1, 0, 0, 1, 0, 0, 1, 1, 1, 1] B) _ _
  rw [C1_1_1_1_1_0_1_0_0_1_0_0_1_1_1_1]; refine Gets.seq ?_
  rw [C1_1_1_1_1_0_1_0_0_1_0_0_1_1_1_1_0]; refine Gets.seq ?_
  refine Gets.ofN fitCrowd grp_sound (conT_agree _ _) 12 40 (by kernel_rfl) (x := .normal) (s' := (S71 pre n c bb lg l e)) ((R66 pre n c l lg bb e).trans (by rw [condF (not_f (and_t (rfl) (and_t (beq_self_eq_true _) (rfl))))])) ?_
  show Gets _ _ (codeAt [1, 1, 1, 1, 1, 0, 1, 0, 0, 1, 0, 0, 1, 1, 1, 1, 0, 1] B) _ _
  rw [C1_1_1_1_1_0_1_0_0_1_0_0_1_1_1_1_0_1]; refine Gets.cond false (by kernel_rfl) (show evalX (KSt.ts (S71 pre n c bb lg l e)) (.tmp 116) = .bool false by kernel_rfl) ?_; show Gets _ _ (codeAt [1, 1, 1, 1, 1, 0, 1, 0, 0, 1, 0, 0, 1, 1, 1, 1, 0, 1, 1] B) _ _
  refine Gets.ofN fitCrowd grp_sound (conT_agree _ _) 12 40 (by kernel_rfl) (x := .normal) (s' := (S61 pre n c bb lg l e)) (R67 pre n c bb lg l e) ?_
  show Gets _ _ (codeAt [1, 1, 1, 1, 1, 0, 1, 0, 0, 1, 0, 0, 1, 1, 1, 1, 1] B) _ _
  rw [C1_1_1_1_1_0_1_0_0_1_0_0_1_1_1_1_1]; refine Gets.seq ?_
  refine Gets.ofN fitCrowd grp_sound (conT_agree _ _) 12 40 (by kernel_rfl) (x := .normal) (s' := (S72 pre n c bb lg l e)) (R68 pre n c bb lg l e) ?_
  show Gets _ _ (codeAt [1, 1, 1, 1, 1, 0, 1, 0, 0, 1, 0, 0, 1, 1, 1, 1, 1, 1] B) _ _
  rw [C1_1_1_1_1_0_1_0_0_1_0_0_1_1_1_1_1_1]; refine Gets.cond true (by kernel_rfl) ((show evalX (KSt.ts (S72 pre n c bb lg l e)) (.tmp 120) = .bool (decide (3 < ((n : Nat) : Int))) by kernel_rfl).trans (by rw [(show (decide (3 < ((n : Nat) : Int))) = true from decide_eq_true (by omega))])) ?_; show Gets _ _ (codeAt [1, 1, 1, 1, 1, 0, 1, 0, 0, 1, 0, 0, 1, 1, 1, 1, 1, 1, 0] B) _ _
  refine Gets.ofN fitCrowd grp_sound (conT_agree _ _) 12 40 (by kernel_rfl) (x := .normal) (s' := (S74 pre n c bb lg l e)) ((R69 pre n c bb lg l e).trans (by rw [if_pos (⟨by omega, by omega⟩), condT (ble_t (by omega)), obind_at (k := 3) (by omega) (by omega)] <;> rfl)) ?_
  show Gets _ _ (codeAt [1, 1, 1, 1, 1, 0, 1, 0, 0, 1, 1] B) _ _
  refine Gets.ofN fitCrowd grp_sound (conT_agree _ _) 12 40 (by kernel_rfl) (x := .normal) (s' := (S75 pre n c bb lg l e)) (R70 pre n c bb lg l e) ?_
  exact hq
theorem R71 (pre : Nat) (n : Nat) (c : Nat) (bb : Int) (lg : Int) (l : List Int) (e : TypeId) : evCK Try.prog cfgA (runK Try.prog cfgA fsCrowd (conT grpDom grpE) 12 40) 12 (codeAt [1, 1, 1, 1, 1, 0, 1, 0, 0, 1, 0, 0, 1, 1, 1, 1, 1, 1, 1] B) (S72 pre n c bb lg l e) (normC 1 [2, 3, 7, 12]) =
  some (.normal, (S61 pre n c bb lg l e)) := by kernel_rfl
noncomputable def S76 (pre : Nat) (n : Nat) (c : Nat) (bb : Int) (lg : Int) (l : List Int) (e : TypeId) : KSt := ⟨(frameL 128 [(2, (.slice (some ⟨0, pre, none⟩) n c)), (3, (.pointer (some ⟨1, 0, none⟩))), (7, (.pointer (some ⟨2, 0, none⟩))), (12, (.int .i64 4))]), ⟨3, 1, [(2, 0, .cells [(.int .u64 bb), (.int .i64 lg), (.bool true), (.int .i64 3), (.int .u64 (l.getD 0 0)), (.int .u64 (l.getD 1 0)), (.int .u64 (l.getD 2 0)), (.int .u64 0)] 81 true), (1, 0, .cells [(.int .u64 bb), (.int .i64 lg)] 39 true), (0, 0, .tail pre .u64 l e)]⟩⟩
theorem R72 (pre : Nat) (n : Nat) (c : Nat) (bb : Int) (lg : Int) (l : List Int) (e : TypeId) : evCK Try.prog cfgA (runK Try.prog cfgA fsCrowd (conT grpDom grpE) 12 40) 12 (codeAt [1, 1, 1, 1, 1, 0, 1, 0, 0, 1, 1] B) (S61 pre n c bb lg l e) (normC 1 [2, 3, 7, 12]) =
  some (.normal, (S76 pre n c bb lg l e)) := by kernel_rfl
theorem l31 (bb lg i : Int) (pre n c : Nat) (l : List Int) (e : TypeId)  (hn20 : n ≤ 20) (hc : n ≤ c) (hc2 : c ≤ 9223372036854775807) (hl : l.length = c) (hc0 : 0 < c) (hn : 3 = (n : Int))  {Q : Ex → St → Prop} (hq : Q .normal (KSt.low (S76 pre n c bb lg l e))) : Gets Try.prog (KH.low ⟨1, 1, [(0, 0, .tail pre .u64 l e)]⟩) (codeAt [1, 1, 1, 1, 1, 0, 1, 0, 0] B) (KSt.low (S61 pre n c bb lg l e)) Q := by
  rw [C1_1_1_1_1_0_1_0_0]; refine Gets.seq ?_
  rw [C1_1_1_1_1_0_1_0_0_0]; refine Gets.seq ?_
  refine Gets.ofN fitCrowd grp_sound (conT_agree _ _) 12 40 (by kernel_rfl) (x := .normal) (s' := (S63 pre n c bb lg l e)) (R60 pre n c bb lg l e) ?_
  show Gets _ _ (codeAt [1, 1, 1, 1, 1, 0, 1, 0, 0, 0, 1] B) _ _
  rw [C1_1_1_1_1_0_1_0_0_0_1]; refine Gets.cond true (by kernel_rfl) ((show evalX (KSt.ts (S63 pre n c bb lg l e)) (.tmp 59) = .bool (decide (3 ≤ ((n : Nat) : Int))) by kernel_rfl).trans (by rw [(show (decide (3 ≤ ((n : Nat) : Int))) = true from decide_eq_true (by omega))])) ?_; show Gets _ _ (codeAt [1, 1, 1, 1, 1, 0, 1, 0, 0, 0, 1, 0] B) _ _
  refine Gets.ofN fitCrowd grp_sound (conT_agree _ _) 12 40 (by kernel_rfl) (x := .normal) (s' := (S61 pre n c bb lg l e)) (R61 pre n c bb lg l e) ?_
  show Gets _ _ (codeAt [1, 1, 1, 1, 1, 0, 1, 0, 0, 1] B) _ _
  rw [C1_1_1_1_1_0_1_0_0_1]; refine Gets.seq ?_
  rw [C1_1_1_1_1_0_1_0_0_1_0]; refine Gets.block ?_
  rw [C1_1_1_1_1_0_1_0_0_1_0_0]; refine Gets.seq ?_
  refine Gets.ofN fitCrowd grp_sound (conT_agree _ _) 12 40 (by kernel_rfl) (x := .normal) (s' := (S65 pre n c bb lg l e)) ((R62 pre n c bb lg l e).trans (by rw [if_pos (⟨by omega, by omega⟩), condT (and_t (rfl) (ble_t (by omega))), condF (nbeq_f (by omega))])) ?_
  show Gets _ _ (codeAt [1, 1, 1, 1, 1, 0, 1, 0, 0, 1, 0, 0, 1] B) _ _
  rw [C1_1_1_1_1_0_1_0_0_1_0_0_1]; refine Gets.seq ?_
  refine Gets.ofN fitCrowd grp_sound (conT_agree _ _) 12 40 (by kernel_rfl) (x := .normal) (s' := (S67 pre n c l lg bb e)) ((R63 pre n c bb lg l e).trans (by rw [condT (ble_t (by omega)), obind_at (k := 0) (by omega) (by omega), condT (ble_t (by omega)), obind_at (k := 1) (by omega) (by omega), condT (ble_t (by omega)), obind_at (k := 2) (by omega) (by omega)] <;> rfl)) ?_
  show Gets _ _ (codeAt [1, 1, 1, 1, 1, 0, 1, 0, 0, 1, 0, 0, 1, 1] B) _ _
  rw [C1_1_1_1_1_0_1_0_0_1_0_0_1_1]; refine Gets.seq ?_
  refine Gets.ofN fitCrowd grp_sound (conT_agree _ _) 12 40 (by kernel_rfl) (x := .normal) (s' := (S68 pre n c l lg bb e)) (R64 pre n c l lg bb e) ?_
  show Gets _ _ (codeAt [1, 1, 1, 1, 1, 0, 1, 0, 0, 1, 0, 0, 1, 1, 1] B) _ _
  rw [C1_1_1_1_1_0_1_0_0_1_0_0_1_1_1]; refine Gets.seq ?_
  refine Gets.ofN fitCrowd grp_sound (conT_agree _ _) 12 40 (by kernel_rfl) (x := .normal) (s' := (S69 pre n c l lg bb e)) (R65 pre n c l lg bb e) ?_
  show Gets _ _ (codeAt [1, 1, 1, 1, 1, 0, 1, 0, 0, 1, 0, 0, 1, 1, 1, 1] B) _ _
  rw [C1_1_1_1_1_0_1_0_0_1_0_0_1_1_1_1]; refine Gets.seq ?_
  rw [C1_1_1_1_1_0_1_0_0_1_0_0_1_1_1_1_0]; refine Gets.seq ?_
  refine Gets.ofN fitCrowd grp_sound (conT_agree _ _) 12 40 (by kernel_rfl) (x := .normal) (s' := (S71 pre n c bb lg l e)) ((R66 pre n c l lg bb e).trans (by rw [condF (not_f (and_t (rfl) (and_t (beq_self_eq_true _) (rfl))))])) ?_
  show Gets _ _ (codeAt [1, 1, 1, 1, 1, 0, 1, 0, 0, 1, 0, 0, 1, 1, 1, 1, 0, 1] B) _ _
  rw [C1_1_1_1_1_0_1_0_0_1_0_0_1_1_1_1_0_1]; refine Gets.cond false (by kernel_rfl) (show evalX (KSt.ts (S71 pre n c bb lg l e)) (.tmp 116) = .bool false by kernel_rfl) ?_; show Gets _ _ (codeAt [1, 1, 1, 1, 1, 0, 1, 0, 0, 1, 0, 0, 1, 1, 1, 1, 0, 1, 1] B) _ _
  refine Gets.ofN fitCrowd grp_sound (conT_agree _ _) 12 40 (by kernel_rfl) (x := .normal) (s' := (S61 pre n c bb lg l e)) (R67 pre n c bb lg l e) ?_
  show Gets _ _ (codeAt [1, 1, 1, 1, 1, 0, 1, 0, 0, 1, 0, 0, 1, 1, 1, 1, 1] B) _ _
  rw [C1_1_1_1_1_0_1_0_0_1_0_0_1_1_1_1_1]; refine Gets.seq ?_
  refine Gets.ofN fitCrowd grp_sound (conT_agree _ _) 12 40 (by kernel_rfl) (x := .normal) (s' := (S72 pre n c bb lg l e)) (R68 pre n c bb lg l e) ?_
  show Gets _ _ (codeAt [1, 1, 1, 1, 1, 0, 1, 0, 0, 1, 0, 0, 1, 1, 1, 1, 1, 1] B) _ _
  rw [C1_1_1_1_1_0_1_0_0_1_0_0_1_1_1_1_1_1]; refine Gets.cond false (by kernel_rfl) ((show evalX (KSt.ts (S72 pre n c bb lg l e)) (.tmp 120) = .bool (decide (3 < ((n : Nat) : Int))) by kernel_rfl).trans (by rw [(show (decide (3 < ((n : Nat) : Int))) = false from decide_eq_false (by omega))])) ?_; show Gets _ _ (codeAt [1, 1, 1, 1, 1, 0, 1, 0, 0, 1, 0, 0, 1, 1, 1, 1, 1, 1, 1] B) _ _
  refine Gets.ofN fitCrowd grp_sound (conT_agree _ _) 12 40 (by kernel_rfl) (x := .normal) (s' := (S61 pre n c bb lg l e)) (R71 pre n c bb lg l e) ?_
  show Gets _ _ (codeAt [1, 1, 1, 1, 1, 0, 1, 0, 0, 1, 1] B) _ _
  refine Gets.ofN fitCrowd grp_sound (conT_agree _ _) 12 40 (by kernel_rfl) (x := .normal) (s' := (S76 pre n c bb lg l e)) (R72 pre n c bb lg l e) ?_
  exact hq
noncomputable def S77 (pre : Nat) (n : Nat) (c : Nat) (i : Int) (bb : Int) (lg : Int) (l : List Int) (e : TypeId) : KSt := ⟨(frameL 128 [(2, (.slice (some ⟨0, pre, none⟩) n c)), (3, (.pointer (some ⟨1, 0, none⟩))), (7, (.pointer (some ⟨2, 0, none⟩))), (12, (.int .i64 i))]), ⟨3, 1, [(2, 0, .cells [(.int .u64 bb), (.int .i64 lg), (.bool true), (.int .i64 4), (.int .u64 (l.getD 0 0)), (.int .u64 (l.getD 1 0)), (.int .u64 (l.getD 2 0)), (.int .u64 (l.getD 3 0))] 81 true), (1, 0, .cells [(.int .u64 bb), (.int .i64 lg)] 39 true), (0, 0, .tail pre .u64 l e)]⟩⟩
noncomputable def S78 (pre : Nat) (n : Nat) (c : Nat) (i : Int) (bb : Int) (lg : Int) (l : List Int) (e : TypeId) : KSt := ⟨(frameL 128 [(2, (.slice (some ⟨0, pre, none⟩) n c)), (3, (.pointer (some ⟨1, 0, none⟩))), (7, (.pointer (some ⟨2, 0, none⟩))), (12, (.int .i64 i)), (59, (.bool (decide (i ≤ ((n : Nat) : Int)))))]), ⟨3, 1, [(2, 0, .cells [(.int .u64 bb), (.int .i64 lg), (.bool true), (.int .i64 4), (.int .u64 (l.getD 0 0)), (.int .u64 (l.getD 1 0)), (.int .u64 (l.getD 2 0)), (.int .u64 (l.getD 3 0))] 81 true), (1, 0, .cells [(.int .u64 bb), (.int .i64 lg)] 39 true), (0, 0, .tail pre .u64 l e)]⟩⟩
theorem R73 (pre : Nat) (n : Nat) (c : Nat) (i : Int) (bb : Int) (lg : Int) (l : List Int) (e : TypeId) : evCK Try.prog cfgA (runK Try.prog cfgA fsCrowd (conT grpDom grpE) 12 40) 12 (codeAt [1, 1, 1, 1, 1, 0, 1, 0, 0, 0, 0] B) (S77 pre n c i bb lg l e) (normC 1 [2, 3, 7, 12, 59]) =
  some (.normal, (S78 pre n c i bb lg l e)) := by kernel_rfl
theorem R74 (pre : Nat) (n : Nat) (c : Nat) (i : Int) (bb : Int) (lg : Int) (l : List Int) (e : TypeId) : evCK Try.prog cfgA (runK Try.prog cfgA fsCrowd (conT grpDom grpE) 12 40) 12 (codeAt [1, 1, 1, 1, 1, 0, 1, 0, 0, 0, 1, 0] B) (S78 pre n c i bb lg l e) (normC 1 [2, 3, 7, 12]) =
  some (.normal, (S77 pre n c i bb lg l e)) := by kernel_rfl
noncomputable def S79 (pre : Nat) (n : Nat) (c : Nat) (i : Int) (bb : Int) (lg : Int) (l : List Int) (e : TypeId) : KSt := ⟨(frameL 128 [(2, (.slice (some ⟨0, pre, none⟩) n c)), (3, (.pointer (some ⟨1, 0, none⟩))), (7, (.pointer (some ⟨2, 0, none⟩))), (12, (.int .i64 i)), (13, (.pointer (some ⟨3, 0, none⟩)))]), ⟨4, 1, [(3, 0, .cells [(.slice (some ⟨0, pre, none⟩) ((Int.toNat i) - 0) (c - 0)), (.int .i64 0), (.bool false), (.int .i64 0), (.int .u64 0), (.int .i64 0), (.int .u64 0), (.int .u64 0)] 54 true), (2, 0, .cells [(.int .u64 bb), (.int .i64 lg), (.bool true), (.int .i64 4), (.int .u64 (l.getD 0 0)), (.int .u64 (l.getD 1 0)), (.int .u64 (l.getD 2 0)), (.int .u64 (l.getD 3 0))] 81 true), (1, 0, .cells [(.int .u64 bb), (.int .i64 lg)] 39 true), (0, 0, .tail pre .u64 l e)]⟩⟩
noncomputable def S80 (pre : Nat) (n : Nat) (c : Nat) (i : Int) (bb : Int) (lg : Int) (l : List Int) (e : TypeId) : KSt := ⟨(frameL 128 [(2, (.slice (some ⟨0, pre, none⟩) n c)), (3, (.pointer (some ⟨1, 0, none⟩))), (7, (.pointer (some ⟨2, 0, none⟩))), (12, (.int .i64 i)), (13, (.pointer (some ⟨3, 0, none⟩)))]), ⟨4, 1, [(3, 0, .cells [(.slice (some ⟨0, (pre + 0), none⟩) ((Int.toNat i) - 0) (c - 0)), (.int .i64 0), (.bool false), (.int .i64 0), (.int .u64 0), (.int .i64 0), (.int .u64 0), (.int .u64 0)] 54 true), (2, 0, .cells [(.int .u64 bb), (.int .i64 lg), (.bool true), (.int .i64 4), (.int .u64 (l.getD 0 0)), (.int .u64 (l.getD 1 0)), (.int .u64 (l.getD 2 0)), (.int .u64 (l.getD 3 0))] 81 true), (1, 0, .cells [(.int .u64 bb), (.int .i64 lg)] 39 true), (0, 0, .tail pre .u64 l e)]⟩⟩
theorem R75 (pre : Nat) (n : Nat) (c : Nat) (i : Int) (bb : Int) (lg : Int) (l : List Int) (e : TypeId) : evCK Try.prog cfgA (runK Try.prog cfgA fsCrowd (conT grpDom grpE) 12 40) 12 (codeAt [1, 1, 1, 1, 1, 0, 1, 0, 0, 1, 0, 0, 0] B) (S77 pre n c i bb lg l e) (normC 1 [2, 3, 7, 12, 13]) =
  if 0 ≤ i ∧ i ≤ ((c : Nat) : Int) then
    bif ((Nat.ble 0 (Int.toNat i)) && (Nat.ble (Int.toNat i) c)) then
      bif (Nat.beq c 0) then
        some (.normal, (S79 pre n c i bb lg l e))
      else
        some (.normal, (S80 pre n c i bb lg l e))
    else
      none
  else
    none := by kernel_rfl
noncomputable def S81 (pre : Nat) (n : Nat) (c : Nat) (i : Int) (n1 : Int) (n2 : Int) (n3 : Int) (n4 : Int) (lg : Int) (bb : Int) (l : List Int) (e : TypeId) : KSt := ⟨(frameL 128 [(2, (.slice (some ⟨0, pre, none⟩) n c)), (3, (.pointer (some ⟨1, 0, none⟩))), (7, (.pointer (some ⟨2, 0, none⟩))), (12, (.int .i64 i)), (13, (.pointer (some ⟨3, 0, none⟩))), (14, (.bool (decide ((IntKind.wrap .u64 ((IntKind.wrap .u64 ((IntKind.wrap .u64 ((IntKind.wrap .u64 (0 + n1)) + n2)) + n3)) + n4)) ≥ (IntKind.wrap .u64 (IntKind.wrap .i64 (7 * (groupsV lg))))))))]), ⟨4, 1, [(3, 0, .cells [(.slice (some ⟨0, (pre + 0), none⟩) ((Int.toNat i) - 0) (c - 0)), (.int .i64 4), (.bool false), (.int .i64 0), (.int .u64 0), (.int .i64 0), (.int .u64 0), (.int .u64 0)] 54 true), (2, 0, .cells [(.int .u64 bb), (.int .i64 lg), (.bool true), (.int .i64 4), (.int .u64 (l.getD 0 0)), (.int .u64 (l.getD 1 0)), (.int .u64 (l.getD 2 0)), (.int .u64 (l.getD 3 0))] 81 true), (1, 0, .cells [(.int .u64 bb), (.int .i64 lg)] 39 true), (0, 0, .tail pre .u64 l e)]⟩⟩
noncomputable def S82 (pre : Nat) (n : Nat) (c : Nat) (i : Int) (n1 : Int) (n2 : Int) (n3 : Int) (lg : Int) (bb : Int) (l : List Int) (e : TypeId) : KSt := ⟨(frameL 128 [(2, (.slice (some ⟨0, pre, none⟩) n c)), (3, (.pointer (some ⟨1, 0, none⟩))), (7, (.pointer (some ⟨2, 0, none⟩))), (12, (.int .i64 i)), (13, (.pointer (some ⟨3, 0, none⟩))), (14, (.bool (decide ((IntKind.wrap .u64 ((IntKind.wrap .u64 ((IntKind.wrap .u64 ((IntKind.wrap .u64 (0 + n1)) + n2)) + n3)) + 0)) ≥ (IntKind.wrap .u64 (IntKind.wrap .i64 (7 * (groupsV lg))))))))]), ⟨4, 1, [(3, 0, .cells [(.slice (some ⟨0, (pre + 0), none⟩) ((Int.toNat i) - 0) (c - 0)), (.int .i64 3), (.bool true), (.int .i64 1), (.int .u64 bb), (.int .i64 6), (.int .u64 0), (.int .u64 0)] 54 true), (2, 0, .cells [(.int .u64 bb), (.int .i64 lg), (.bool true), (.int .i64 4), (.int .u64 (l.getD 0 0)), (.int .u64 (l.getD 1 0)), (.int .u64 (l.getD 2 0)), (.int .u64 (l.getD 3 0))] 81 true), (1, 0, .cells [(.int .u64 bb), (.int .i64 lg)] 39 true), (0, 0, .tail pre .u64 l e)]⟩⟩
noncomputable def S83 (pre : Nat) (n : Nat) (c : Nat) (i : Int) (n1 : Int) (n2 : Int) (lg : Int) (bb : Int) (l : List Int) (e : TypeId) : KSt := ⟨(frameL 128 [(2, (.slice (some ⟨0, pre, none⟩) n c)), (3, (.pointer (some ⟨1, 0, none⟩))), (7, (.pointer (some ⟨2, 0, none⟩))), (12, (.int .i64 i)), (13, (.pointer (some ⟨3, 0, none⟩))), (14, (.bool (decide ((IntKind.wrap .u64 ((IntKind.wrap .u64 ((IntKind.wrap .u64 ((IntKind.wrap .u64 (0 + n1)) + n2)) + 0)) + 0)) ≥ (IntKind.wrap .u64 (IntKind.wrap .i64 (7 * (groupsV lg))))))))]), ⟨4, 1, [(3, 0, .cells [(.slice (some ⟨0, (pre + 0), none⟩) ((Int.toNat i) - 0) (c - 0)), (.int .i64 2), (.bool true), (.int .i64 1), (.int .u64 bb), (.int .i64 5), (.int .u64 0), (.int .u64 0)] 54 true), (2, 0, .cells [(.int .u64 bb), (.int .i64 lg), (.bool true), (.int .i64 4), (.int .u64 (l.getD 0 0)), (.int .u64 (l.getD 1 0)), (.int .u64 (l.getD 2 0)), (.int .u64 (l.getD 3 0))] 81 true), (1, 0, .cells [(.int .u64 bb), (.int .i64 lg)] 39 true), (0, 0, .tail pre .u64 l e)]⟩⟩
noncomputable def S84 (pre : Nat) (n : Nat) (c : Nat) (i : Int) (n1 : Int) (lg : Int) (bb : Int) (l : List Int) (e : TypeId) : KSt := ⟨(frameL 128 [(2, (.slice (some ⟨0, pre, none⟩) n c)), (3, (.pointer (some ⟨1, 0, none⟩))), (7, (.pointer (some ⟨2, 0, none⟩))), (12, (.int .i64 i)), (13, (.pointer (some ⟨3, 0, none⟩))), (14, (.bool (decide ((IntKind.wrap .u64 ((IntKind.wrap .u64 ((IntKind.wrap .u64 ((IntKind.wrap .u64 (0 + n1)) + 0)) + 0)) + 0)) ≥ (IntKind.wrap .u64 (IntKind.wrap .i64 (7 * (groupsV lg))))))))]), ⟨4, 1, [(3, 0, .cells [(.slice (some ⟨0, (pre + 0), none⟩) ((Int.toNat i) - 0) (c - 0)), (.int .i64 1), (.bool true), (.int .i64 1), (.int .u64 bb), (.int .i64 4), (.int .u64 0), (.int .u64 0)] 54 true), (2, 0, .cells [(.int .u64 bb), (.int .i64 lg), (.bool true), (.int .i64 4), (.int .u64 (l.getD 0 0)), (.int .u64 (l.getD 1 0)), (.int .u64 (l.getD 2 0)), (.int .u64 (l.getD 3 0))] 81 true), (1, 0, .cells [(.int .u64 bb), (.int .i64 lg)] 39 true), (0, 0, .tail pre .u64 l e)]⟩⟩
noncomputable def S85 (pre : Nat) (n : Nat) (c : Nat) (i : Int) (lg : Int) (bb : Int) (l : List Int) (e : TypeId) : KSt := ⟨(frameL 128 [(2, (.slice (some ⟨0, pre, none⟩) n c)), (3, (.pointer (some ⟨1, 0, none⟩))), (7, (.pointer (some ⟨2, 0, none⟩))), (12, (.int .i64 i)), (13, (.pointer (some ⟨3, 0, none⟩))), (14, (.bool (decide (0 ≥ (IntKind.wrap .u64 (IntKind.wrap .i64 (7 * (groupsV lg))))))))]), ⟨4, 1, [(3, 0, .cells [(.slice (some ⟨0, (pre + 0), none⟩) ((Int.toNat i) - 0) (c - 0)), (.int .i64 0), (.bool true), (.int .i64 1), (.int .u64 bb), (.int .i64 3), (.int .u64 0), (.int .u64 0)] 54 true), (2, 0, .cells [(.int .u64 bb), (.int .i64 lg), (.bool true), (.int .i64 4), (.int .u64 (l.getD 0 0)), (.int .u64 (l.getD 1 0)), (.int .u64 (l.getD 2 0)), (.int .u64 (l.getD 3 0))] 81 true), (1, 0, .cells [(.int .u64 bb), (.int .i64 lg)] 39 true), (0, 0, .tail pre .u64 l e)]⟩⟩
theorem R76 (pre : Nat) (n : Nat) (c : Nat) (i : Int) (bb : Int) (lg : Int) (l : List Int) (e : TypeId) : evCK Try.prog cfgA (runK Try.prog cfgA fsCrowd (conT grpDom grpE) 12 40) 12 (codeAt [1, 1, 1, 1, 1, 0, 1, 0, 0, 1, 0, 0, 1, 0] B) (S80 pre n c i bb lg l e) (normC 1 [2, 3, 7, 12, 13, 14]) =
  bif (decide (0 < ((((Int.toNat i) - 0) : Nat) : Int))) then
    if (0 : Int) ≤ 0 ∧ 0 < ((((Int.toNat i) - 0) : Nat) : Int) then
      bif (Nat.ble pre ((pre + 0) + 0)) then
        obind (l[(((pre + 0) + 0) - pre)]?) fun n1 =>
          bif (decide (1 < ((((Int.toNat i) - 0) : Nat) : Int))) then
            if (0 : Int) ≤ 1 ∧ 1 < ((((Int.toNat i) - 0) : Nat) : Int) then
              bif (Nat.ble pre ((pre + 0) + 1)) then
                obind (l[(((pre + 0) + 1) - pre)]?) fun n2 =>
                  bif (decide (2 < ((((Int.toNat i) - 0) : Nat) : Int))) then
                    if (0 : Int) ≤ 2 ∧ 2 < ((((Int.toNat i) - 0) : Nat) : Int) then
                      bif (Nat.ble pre ((pre + 0) + 2)) then
                        obind (l[(((pre + 0) + 2) - pre)]?) fun n3 =>
                          bif (decide (3 < ((((Int.toNat i) - 0) : Nat) : Int))) then
                            if (0 : Int) ≤ 3 ∧ 3 < ((((Int.toNat i) - 0) : Nat) : Int) then
                              bif (Nat.ble pre ((pre + 0) + 3)) then
                                obind (l[(((pre + 0) + 3) - pre)]?) fun n4 =>
                                  some (.normal, (S81 pre n c i n1 n2 n3 n4 lg bb l e))
                              else
                                none
                            else
                              none
                          else
                            some (.normal, (S82 pre n c i n1 n2 n3 lg bb l e))
                      else
                        none
                    else
                      none
                  else
                    some (.normal, (S83 pre n c i n1 n2 lg bb l e))
              else
                none
            else
              none
          else
            some (.normal, (S84 pre n c i n1 lg bb l e))
      else
        none
    else
      none
  else
    some (.normal, (S85 pre n c i lg bb l e)) := by kernel_rfl
noncomputable def S86 (pre : Nat) (n : Nat) (c : Nat) (i : Int) (l : List Int) (lg : Int) (bb : Int) (e : TypeId) : KSt := ⟨(frameL 128 [(2, (.slice (some ⟨0, pre, none⟩) n c)), (3, (.pointer (some ⟨1, 0, none⟩))), (7, (.pointer (some ⟨2, 0, none⟩))), (12, (.int .i64 i)), (13, (.pointer (some ⟨3, 0, none⟩))), (14, (.bool (decide ((IntKind.wrap .u64 ((IntKind.wrap .u64 ((IntKind.wrap .u64 ((IntKind.wrap .u64 (0 + (l.getD 0 0))) + (l.getD 1 0))) + (l.getD 2 0))) + (l.getD 3 0))) ≥ (IntKind.wrap .u64 (IntKind.wrap .i64 (7 * (groupsV lg))))))))]), ⟨4, 1, [(3, 0, .cells [(.slice (some ⟨0, (pre + 0), none⟩) ((Int.toNat i) - 0) (c - 0)), (.int .i64 4), (.bool false), (.int .i64 0), (.int .u64 0), (.int .i64 0), (.int .u64 0), (.int .u64 0)] 54 true), (2, 0, .cells [(.int .u64 bb), (.int .i64 lg), (.bool true), (.int .i64 4), (.int .u64 (l.getD 0 0)), (.int .u64 (l.getD 1 0)), (.int .u64 (l.getD 2 0)), (.int .u64 (l.getD 3 0))] 81 true), (1, 0, .cells [(.int .u64 bb), (.int .i64 lg)] 39 true), (0, 0, .tail pre .u64 l e)]⟩⟩
noncomputable def S87 (pre : Nat) (n : Nat) (c : Nat) (i : Int) (l : List Int) (lg : Int) (bb : Int) (e : TypeId) : KSt := ⟨(frameL 128 [(2, (.slice (some ⟨0, pre, none⟩) n c)), (3, (.pointer (some ⟨1, 0, none⟩))), (7, (.pointer (some ⟨2, 0, none⟩))), (12, (.int .i64 i)), (13, (.pointer (some ⟨3, 0, none⟩))), (14, (.bool (decide ((IntKind.wrap .u64 ((IntKind.wrap .u64 ((IntKind.wrap .u64 ((IntKind.wrap .u64 (0 + (l.getD 0 0))) + (l.getD 1 0))) + (l.getD 2 0))) + (l.getD 3 0))) ≥ (IntKind.wrap .u64 (IntKind.wrap .i64 (7 * (groupsV lg)))))))), (15, (.bool (decide ((IntKind.wrap .u64 ((IntKind.wrap .u64 ((IntKind.wrap .u64 ((IntKind.wrap .u64 (0 + (l.getD 0 0))) + (l.getD 1 0))) + (l.getD 2 0))) + (l.getD 3 0))) ≥ (IntKind.wrap .u64 (IntKind.wrap .i64 (7 * (groupsV lg)))))))), (16, (.bool true))]), ⟨4, 1, [(3, 0, .cells [(.slice (some ⟨0, (pre + 0), none⟩) ((Int.toNat i) - 0) (c - 0)), (.int .i64 4), (.bool false), (.int .i64 0), (.int .u64 0), (.int .i64 0), (.int .u64 0), (.int .u64 0)] 54 true), (2, 0, .cells [(.int .u64 bb), (.int .i64 lg), (.bool true), (.int .i64 4), (.int .u64 (l.getD 0 0)), (.int .u64 (l.getD 1 0)), (.int .u64 (l.getD 2 0)), (.int .u64 (l.getD 3 0))] 81 true), (1, 0, .cells [(.int .u64 bb), (.int .i64 lg)] 39 true), (0, 0, .tail pre .u64 l e)]⟩⟩
theorem R77 (pre : Nat) (n : Nat) (c : Nat) (i : Int) (l : List Int) (lg : Int) (bb : Int) (e : TypeId) : evCK Try.prog cfgA (runK Try.prog cfgA fsCrowd (conT grpDom grpE) 12 40) 12 (codeAt [1, 1, 1, 1, 1, 0, 1, 0, 0, 1, 0, 0, 1, 1, 0] B) (S86 pre n c i l lg bb e) (normC 1 [2, 3, 7, 12, 13, 14, 15, 16]) =
  some (.normal, (S87 pre n c i l lg bb e)) := by kernel_rfl
noncomputable def S88 (pre : Nat) (n : Nat) (c : Nat) (i : Int) (l : List Int) (lg : Int) (bb : Int) (e : TypeId) : KSt := ⟨(frameL 128 [(2, (.slice (some ⟨0, pre, none⟩) n c)), (3, (.pointer (some ⟨1, 0, none⟩))), (7, (.pointer (some ⟨2, 0, none⟩))), (12, (.int .i64 i)), (13, (.pointer (some ⟨3, 0, none⟩))), (14, (.bool (decide ((IntKind.wrap .u64 ((IntKind.wrap .u64 ((IntKind.wrap .u64 ((IntKind.wrap .u64 (0 + (l.getD 0 0))) + (l.getD 1 0))) + (l.getD 2 0))) + (l.getD 3 0))) ≥ (IntKind.wrap .u64 (IntKind.wrap .i64 (7 * (groupsV lg)))))))), (15, (.bool (decide ((IntKind.wrap .u64 ((IntKind.wrap .u64 ((IntKind.wrap .u64 ((IntKind.wrap .u64 (0 + (l.getD 0 0))) + (l.getD 1 0))) + (l.getD 2 0))) + (l.getD 3 0))) ≥ (IntKind.wrap .u64 (IntKind.wrap .i64 (7 * (groupsV lg)))))))), (16, (.bool true)), (17, (.pointer (some ⟨4, 0, none⟩))), (18, (.bool false))]), ⟨5, 1, [(4, 0, .cells [(.int .i64 0), (.int .u64 0), (.int .i64 0), (.int .u64 0), (.int .u64 0)] 44 true), (3, 0, .cells [(.slice (some ⟨0, (pre + 0), none⟩) ((Int.toNat i) - 0) (c - 0)), (.int .i64 4), (.bool false), (.int .i64 0), (.int .u64 0), (.int .i64 0), (.int .u64 0), (.int .u64 0)] 54 true), (2, 0, .cells [(.int .u64 bb), (.int .i64 lg), (.bool true), (.int .i64 4), (.int .u64 (l.getD 0 0)), (.int .u64 (l.getD 1 0)), (.int .u64 (l.getD 2 0)), (.int .u64 (l.getD 3 0))] 81 true), (1, 0, .cells [(.int .u64 bb), (.int .i64 lg)] 39 true), (0, 0, .tail pre .u64 l e)]⟩⟩
theorem R78 (pre : Nat) (n : Nat) (c : Nat) (i : Int) (l : List Int) (lg : Int) (bb : Int) (e : TypeId) : evCK Try.prog cfgA (runK Try.prog cfgA fsCrowd (conT grpDom grpE) 12 40) 12 (codeAt [1, 1, 1, 1, 1, 0, 1, 0, 0, 1, 0, 0, 1, 1, 1, 0] B) (S87 pre n c i l lg bb e) (normC 1 [2, 3, 7, 12, 13, 14, 15, 16, 17, 18]) =
  some (.normal, (S88 pre n c i l lg bb e)) := by kernel_rfl
noncomputable def S89 (pre : Nat) (n : Nat) (c : Nat) (i : Int) (bb : Int) (lg : Int) (l : List Int) (e : TypeId) : KSt := ⟨(frameL 128 [(2, (.slice (some ⟨0, pre, none⟩) n c)), (3, (.pointer (some ⟨1, 0, none⟩))), (7, (.pointer (some ⟨2, 0, none⟩))), (12, (.int .i64 i)), (116, (.bool true))]), ⟨3, 1, [(2, 0, .cells [(.int .u64 bb), (.int .i64 lg), (.bool true), (.int .i64 4), (.int .u64 (l.getD 0 0)), (.int .u64 (l.getD 1 0)), (.int .u64 (l.getD 2 0)), (.int .u64 (l.getD 3 0))] 81 true), (1, 0, .cells [(.int .u64 bb), (.int .i64 lg)] 39 true), (0, 0, .tail pre .u64 l e)]⟩⟩
noncomputable def S90 (pre : Nat) (n : Nat) (c : Nat) (i : Int) (bb : Int) (lg : Int) (l : List Int) (e : TypeId) : KSt := ⟨(frameL 128 [(2, (.slice (some ⟨0, pre, none⟩) n c)), (3, (.pointer (some ⟨1, 0, none⟩))), (7, (.pointer (some ⟨2, 0, none⟩))), (12, (.int .i64 i)), (116, (.bool false))]), ⟨3, 1, [(2, 0, .cells [(.int .u64 bb), (.int .i64 lg), (.bool true), (.int .i64 4), (.int .u64 (l.getD 0 0)), (.int .u64 (l.getD 1 0)), (.int .u64 (l.getD 2 0)), (.int .u64 (l.getD 3 0))] 81 true), (1, 0, .cells [(.int .u64 bb), (.int .i64 lg)] 39 true), (0, 0, .tail pre .u64 l e)]⟩⟩
theorem R79 (pre : Nat) (n : Nat) (c : Nat) (i : Int) (l : List Int) (lg : Int) (bb : Int) (e : TypeId) : evCK Try.prog cfgA (runK Try.prog cfgA fsCrowd (conT grpDom grpE) 12 40) 12 (codeAt [1, 1, 1, 1, 1, 0, 1, 0, 0, 1, 0, 0, 1, 1, 1, 1, 0, 0] B) (S88 pre n c i l lg bb e) (normC 1 [2, 3, 7, 12, 116]) =
  bif (!((decide ((IntKind.wrap .u64 ((IntKind.wrap .u64 ((IntKind.wrap .u64 ((IntKind.wrap .u64 (0 + (l.getD 0 0))) + (l.getD 1 0))) + (l.getD 2 0))) + (l.getD 3 0))) ≥ (IntKind.wrap .u64 (IntKind.wrap .i64 (7 * (groupsV lg)))))) == (decide ((IntKind.wrap .u64 ((IntKind.wrap .u64 ((IntKind.wrap .u64 ((IntKind.wrap .u64 (0 + (l.getD 0 0))) + (l.getD 1 0))) + (l.getD 2 0))) + (l.getD 3 0))) ≥ (IntKind.wrap .u64 (IntKind.wrap .i64 (7 * (groupsV lg)))))))) then
    some (.normal, (S89 pre n c i bb lg l e))
  else
    some (.normal, (S90 pre n c i bb lg l e)) := by kernel_rfl
theorem R80 (pre : Nat) (n : Nat) (c : Nat) (i : Int) (bb : Int) (lg : Int) (l : List Int) (e : TypeId) : evCK Try.prog cfgA (runK Try.prog cfgA fsCrowd (conT grpDom grpE) 12 40) 12 (codeAt [1, 1, 1, 1, 1, 0, 1, 0, 0, 1, 0, 0, 1, 1, 1, 1, 0, 1, 1] B) (S90 pre n c i bb lg l e) (normC 1 [2, 3, 7, 12]) =
  some (.normal, (S77 pre n c i bb lg l e)) := by kernel_rfl
noncomputable def S91 (pre : Nat) (n : Nat) (c : Nat) (i : Int) (bb : Int) (lg : Int) (l : List Int) (e : TypeId) : KSt := ⟨(frameL 128 [(2, (.slice (some ⟨0, pre, none⟩) n c)), (3, (.pointer (some ⟨1, 0, none⟩))), (7, (.pointer (some ⟨2, 0, none⟩))), (12, (.int .i64 i)), (120, (.bool (decide (i < ((n : Nat) : Int)))))]), ⟨3, 1, [(2, 0, .cells [(.int .u64 bb), (.int .i64 lg), (.bool true), (.int .i64 4), (.int .u64 (l.getD 0 0)), (.int .u64 (l.getD 1 0)), (.int .u64 (l.getD 2 0)), (.int .u64 (l.getD 3 0))] 81 true), (1, 0, .cells [(.int .u64 bb), (.int .i64 lg)] 39 true), (0, 0, .tail pre .u64 l e)]⟩⟩
theorem R81 (pre : Nat) (n : Nat) (c : Nat) (i : Int) (bb : Int) (lg : Int) (l : List Int) (e : TypeId) : evCK Try.prog cfgA (runK Try.prog cfgA fsCrowd (conT grpDom grpE) 12 40) 12 (codeAt [1, 1, 1, 1, 1, 0, 1, 0, 0, 1, 0, 0, 1, 1, 1, 1, 1, 0] B) (S77 pre n c i bb lg l e) (normC 1 [2, 3, 7, 12, 120]) =
  some (.normal, (S91 pre n c i bb lg l e)) := by kernel_rfl
theorem R82 (pre : Nat) (n : Nat) (c : Nat) (i : Int) (bb : Int) (lg : Int) (l : List Int) (e : TypeId) : evCK Try.prog cfgA (runK Try.prog cfgA fsCrowd (conT grpDom grpE) 12 40) 12 (codeAt [1, 1, 1, 1, 1, 0, 1, 0, 0, 1, 0, 0, 1, 1, 1, 1, 1, 1, 0] B) (S91 pre n c i bb lg l e) (normC 1 [2, 3, 7, 12]) =
  if 0 ≤ i ∧ i < ((n : Nat) : Int) then
    bif (Nat.ble pre (pre + ((Int.toNat i) * 1))) then
      obind (l[((pre + ((Int.toNat i) * 1)) - pre)]?) fun n1 =>
        some (.normal, (S77 pre n c i bb lg l e))
    else
      none
  else
    none := by kernel_rfl
noncomputable def S92 (pre : Nat) (n : Nat) (c : Nat) (i : Int) (bb : Int) (lg : Int) (l : List Int) (e : TypeId) : KSt := ⟨(frameL 128 [(2, (.slice (some ⟨0, pre, none⟩) n c)), (3, (.pointer (some ⟨1, 0, none⟩))), (7, (.pointer (some ⟨2, 0, none⟩))), (12, (.int .i64 (IntKind.wrap .i64 (i + 1))))]), ⟨3, 1, [(2, 0, .cells [(.int .u64 bb), (.int .i64 lg), (.bool true), (.int .i64 4), (.int .u64 (l.getD 0 0)), (.int .u64 (l.getD 1 0)), (.int .u64 (l.getD 2 0)), (.int .u64 (l.getD 3 0))] 81 true), (1, 0, .cells [(.int .u64 bb), (.int .i64 lg)] 39 true), (0, 0, .tail pre .u64 l e)]⟩⟩
theorem R83 (pre : Nat) (n : Nat) (c : Nat) (i : Int) (bb : Int) (lg : Int) (l : List Int) (e : TypeId) : evCK Try.prog cfgA (runK Try.prog cfgA fsCrowd (conT grpDom grpE) 12 40) 12 (codeAt [1, 1, 1, 1, 1, 0, 1, 0, 0, 1, 1] B) (S77 pre n c i bb lg l e) (normC 1 [2, 3, 7, 12]) =
  some (.normal, (S92 pre n c i bb lg l e)) := by kernel_rfl
noncomputable def S93 (pre : Nat) (n : Nat) (c : Nat) (i : Int) (bb : Int) (lg : Int) (l : List Int) (e : TypeId) : KSt := ⟨(frameL 128 [(2, (.slice (some ⟨0, pre, none⟩) n c)), (3, (.pointer (some ⟨1, 0, none⟩))), (7, (.pointer (some ⟨2, 0, none⟩))), (12, (.int .i64 (i + 1)))]), ⟨3, 1, [(2, 0, .cells [(.int .u64 bb), (.int .i64 lg), (.bool true), (.int .i64 4), (.int .u64 (l.getD 0 0)), (.int .u64 (l.getD 1 0)), (.int .u64 (l.getD 2 0)), (.int .u64 (l.getD 3 0))] 81 true), (1, 0, .cells [(.int .u64 bb), (.int .i64 lg)] 39 true), (0, 0, .tail pre .u64 l e)]⟩⟩
theorem li0 (bb lg i : Int) (pre n c : Nat) (l : List Int) (e : TypeId)  (hn20 : n ≤ 20) (hc : n ≤ c) (hc2 : c ≤ 9223372036854775807) (hl : l.length = c) (hc0 : 0 < c) (hi : 4 ≤ i) (hn : i < (n : Int))  {Q : Ex → St → Prop} (hq : Q .normal (KSt.low (S93 pre n c i bb lg l e))) : Gets Try.prog (KH.low ⟨1, 1, [(0, 0, .tail pre .u64 l e)]⟩) (codeAt [1, 1, 1, 1, 1, 0, 1, 0, 0] B) (KSt.low (S77 pre n c i bb lg l e)) Q := by
  rw [C1_1_1_1_1_0_1_0_0]; refine Gets.seq ?_
  rw [C1_1_1_1_1_0_1_0_0_0]; refine Gets.seq ?_
  refine Gets.ofN fitCrowd grp_sound (conT_agree _ _) 12 40 (by kernel_rfl) (x := .normal) (s' := (S78 pre n c i bb lg l e)) (R73 pre n c i bb lg l e) ?_
  show Gets _ _ (codeAt [1, 1, 1, 1, 1, 0, 1, 0, 0, 0, 1] B) _ _
  rw [C1_1_1_1_1_0_1_0_0_0_1]; refine Gets.cond true (by kernel_rfl) ((show evalX (KSt.ts (S78 pre n c i bb lg l e)) (.tmp 59) = .bool (decide (i ≤ ((n : Nat) : Int))) by kernel_rfl).trans (by rw [(show (decide (i ≤ ((n : Nat) : Int))) = true from decide_eq_true (by omega))])) ?_; show Gets _ _ (codeAt [1, 1, 1, 1, 1, 0, 1, 0, 0, 0, 1, 0] B) _ _
  refine Gets.ofN fitCrowd grp_sound (conT_agree _ _) 12 40 (by kernel_rfl) (x := .normal) (s' := (S77 pre n c i bb lg l e)) (R74 pre n c i bb lg l e) ?_
  show Gets _ _ (codeAt [1, 1, 1, 1, 1, 0, 1, 0, 0, 1] B) _ _
  rw [C1_1_1_1_1_0_1_0_0_1]; refine Gets.seq ?_
  rw [C1_1_1_1_1_0_1_0_0_1_0]; refine Gets.block ?_
  rw [C1_1_1_1_1_0_1_0_0_1_0_0]; refine Gets.seq ?_
  refine Gets.ofN fitCrowd grp_sound (conT_agree _ _) 12 40 (by kernel_rfl) (x := .normal) (s' := (S80 pre n c i bb lg l e)) ((R75 pre n c i bb lg l e).trans (by rw [if_pos (⟨by omega, by omega⟩), condT (and_t (ble_t (by omega)) (ble_t (by omega))), condF (nbeq_f (by omega))])) ?_
  show Gets _ _ (codeAt [1, 1, 1, 1, 1, 0, 1, 0, 0, 1, 0, 0, 1] B) _ _
  rw [C1_1_1_1_1_0_1_0_0_1_0_0_1]; refine Gets.seq ?_
  refine Gets.ofN fitCrowd grp_sound (conT_agree _ _) 12 40 (by kernel_rfl) (x := .normal) (s' := (S86 pre n c i l lg bb e)) ((R76 pre n c i bb lg l e).trans (by rw [condT (decide_eq_true (by omega)), if_pos (⟨by omega, by omega⟩), condT (ble_t (by omega)), obind_at (k := 0) (by omega) (by omega), condT (decide_eq_true (by omega)), if_pos (⟨by omega, by omega⟩), condT (ble_t (by omega)), obind_at (k := 1) (by omega) (by omega), condT (decide_eq_true (by omega)), if_pos (⟨by omega, by omega⟩), condT (ble_t (by omega)), obind_at (k := 2) (by omega) (by omega), condT (decide_eq_true (by omega)), if_pos (⟨by omega, by omega⟩), condT (ble_t (by omega)), obind_at (k := 3) (by omega) (by omega)] <;> rfl)) ?_
  show Gets _ _ (codeAt [1, 1, 1, 1, 1, 0, 1, 0, 0, 1, 0, 0, 1, 1] B) _ _
  rw [C1_1_1_1_1_0_1_0_0_1_0_0_1_1]; refine Gets.seq ?_
  refine Gets.ofN fitCrowd grp_sound (conT_agree _ _) 12 40 (by kernel_rfl) (x := .normal) (s' := (S87 pre n c i l lg bb e)) (R77 pre n c i l lg bb e) ?_
  show Gets _ _ (codeAt [1, 1, 1, 1, 1, 0, 1, 0, 0, 1, 0, 0, 1, 1, 1] B) _ _
  rw [C1_1_1_1_1_0_1_0_0_1_0_0_1_1_1]; refine Gets.seq ?_
  refine Gets.ofN fitCrowd grp_sound (conT_agree _ _) 12 40 (by kernel_rfl) (x := .normal) (s' := (S88 pre n c i l lg bb e)) (R78 pre n c i l lg bb e) ?_
  show Gets _ _ (codeAt [1, 1, 1, 1, 1, 0, 1, 0, 0, 1, 0, 0, 1, 1, 1, 1] B) _ _
  rw [C1_1_1_1_1_0_1_0_0_1_0_0_1_1_1_1]; refine Gets.seq ?_
  rw [C1_1_1_1_1_0_1_0_0_1_0_0_1_1_1_1_0]; refine Gets.seq ?_
  refine Gets.ofN fitCrowd grp_sound (conT_agree _ _) 12 40 (by kernel_rfl) (x := .normal) (s' := (S90 pre n c i bb lg l e)) ((R79 pre n c i l lg bb e).trans (by rw [condF (not_f (beq_self_eq_true _))])) ?_
  show Gets _ _ (codeAt [1, 1, 1, 1, 1, 0, 1, 0, 0, 1, 0, 0, 1, 1, 1, 1, 0, 1] B) _ _
  rw [C1_1_1_1_1_0_1_0_0_1_0_0_1_1_1_1_0_1]; refine Gets.cond false (by kernel_rfl) (show evalX (KSt.ts (S90 pre n c i bb lg l e)) (.tmp 116) = .bool false by kernel_rfl) ?_; show Gets _ _ (codeAt [1, 1, 1, 1, 1, 0, 1, 0, 0, 1, 0, 0, 1, 1, 1, 1, 0, 1, 1] B) _ _
  refine Gets.ofN fitCrowd grp_sound (conT_agree _ _) 12 40 (by kernel_rfl) (x := .normal) (s' := (S77 pre n c i bb lg l e)) (R80 pre n c i bb lg l e) ?_
  show Gets _ _ (codeAt [1, 1, 1, 1, 1, 0, 1, 0, 0, 1, 0, 0, 1, 1, 1, 1, 1] B) _ _
  rw [C1_1_1_1_1_0_1_0_0_1_0_0_1_1_1_1_1]; refine Gets.seq ?_
  refine Gets.ofN fitCrowd grp_sound (conT_agree _ _) 12 40 (by kernel_rfl) (x := .normal) (s' := (S91 pre n c i bb lg l e)) (R81 pre n c i bb lg l e) ?_
  show Gets _ _ (codeAt [1, 1, 1, 1, 1, 0, 1, 0, 0, 1, 0, 0, 1, 1, 1, 1, 1, 1] B) _ _
  rw [C1_1_1_1_1_0_1_0_0_1_0_0_1_1_1_1_1_1]; refine Gets.cond true (by kernel_rfl) ((show evalX (KSt.ts (S91 pre n c i bb lg l e)) (.tmp 120) = .bool (decide (i < ((n : Nat) : Int))) by kernel_rfl).trans (by rw [(show (decide (i < ((n : Nat) : Int))) = true from decide_eq_true (by omega))])) ?_; show Gets _ _ (codeAt [1, 1, 1, 1, 1, 0, 1, 0, 0, 1, 0, 0, 1, 1, 1, 1, 1, 1, 0] B) _ _
  refine Gets.ofN fitCrowd grp_sound (conT_agree _ _) 12 40 (by kernel_rfl) (x := .normal) (s' := (S77 pre n c i bb lg l e)) ((R82 pre n c i bb lg l e).trans (by rw [if_pos (⟨by omega, by omega⟩), condT (ble_t (by omega)), obind_at (k := ((Int.toNat i) * 1)) (by omega) (by omega)] <;> rfl)) ?_
  show Gets _ _ (codeAt [1, 1, 1, 1, 1, 0, 1, 0, 0, 1, 1] B) _ _
  refine Gets.ofN fitCrowd grp_sound (conT_agree _ _) 12 40 (by kernel_rfl) (x := .normal) (s' := (S93 pre n c i bb lg l e)) ((R83 pre n c i bb lg l e).trans (by (show some (Ex.normal, (S92 pre n c i bb lg l e)) = some (Ex.normal, (S93 pre n c i bb lg l e)); unfold S92 S93; rw [(show (IntKind.wrap .i64 (i + 1)) = (i + 1) from wrap_i64_id (by omega) (by omega))]))) ?_
  exact hq
theorem R84 (pre : Nat) (n : Nat) (c : Nat) (i : Int) (bb : Int) (lg : Int) (l : List Int) (e : TypeId) : evCK Try.prog cfgA (runK Try.prog cfgA fsCrowd (conT grpDom grpE) 12 40) 12 (codeAt [1, 1, 1, 1, 1, 0, 1, 0, 0, 1, 0, 0, 1, 1, 1, 1, 1, 1, 1] B) (S91 pre n c i bb lg l e) (normC 1 [2, 3, 7, 12]) =
  some (.normal, (S77 pre n c i bb lg l e)) := by kernel_rfl
theorem li1 (bb lg i : Int) (pre n c : Nat) (l : List Int) (e : TypeId)  (hn20 : n ≤ 20) (hc : n ≤ c) (hc2 : c ≤ 9223372036854775807) (hl : l.length = c) (hc0 : 0 < c) (hi : 4 ≤ i) (hn : i = (n : Int))  {Q : Ex → St → Prop} (hq : Q .normal (KSt.low (S93 pre n c i bb lg l e))) : Gets Try.prog (KH.low ⟨1, 1, [(0, 0, .tail pre .u64 l e)]⟩) (codeAt [1, 1, 1, 1, 1, 0, 1, 0, 0] B) (KSt.low (S77 pre n c i bb lg l e)) Q := by
  rw [C1_1_1_1_1_0_1_0_0]; refine Gets.seq ?_
  rw [C1_1_1_1_1_0_1_0_0_0]; refine Gets.seq ?_
  refine Gets.ofN fitCrowd grp_sound (conT_agree _ _) 12 40 (by kernel_rfl) (x := .normal) (s' := (S78 pre n c i bb lg l e)) (R73 pre n c i bb lg l e) ?_
  show Gets _ _ (codeAt [1, 1, 1, 1, 1, 0, 1, 0, 0, 0, 1] B) _ _
  rw [C1_1_1_1_1_0_1_0_0_0_1]; refine Gets.cond true (by kernel_rfl) ((show evalX (KSt.ts (S78 pre n c i bb lg l e)) (.tmp 59) = .bool (decide (i ≤ ((n : Nat) : Int))) by kernel_rfl).trans (by rw [(show (decide (i ≤ ((n : Nat) : Int))) = true from decide_eq_true (by omega))])) ?_; show Gets _ _ (codeAt [1, 1, 1, 1, 1, 0, 1, 0, 0, 0, 1, 0] B) _ _
  refine Gets.ofN fitCrowd grp_sound (conT_agree _ _) 12 40 (by kernel_rfl) (x := .normal) (s' := (S77 pre n c i bb lg l e)) (R74 pre n c i bb lg l e) ?_
  show Gets _ _ (codeAt [1, 1, 1, 1, 1, 0, 1, 0, 0, 1] B) _ _
  rw [C1_1_1_1_1_0_1_0_0_1]; refine Gets.seq ?_
  rw [C1_1_1_1_1_0_1_0_0_1_0]; refine Gets.block ?_
  rw [C1_1_1_1_1_0_1_0_0_1_0_0]; refine Gets.seq ?_
  refine Gets.ofN fitCrowd grp_sound (conT_agree _ _) 12 40 (by kernel_rfl) (x := .normal) (s' := (S80 pre n c i bb lg l e)) ((R75 pre n c i bb lg l e).trans (by rw [if_pos (⟨by omega, by omega⟩), condT (and_t (ble_t (by omega)) (ble_t (by omega))), condF (nbeq_f (by omega))])) ?_
  show Gets _ _ (codeAt [1, 1, 1, 1, 1, 0, 1, 0, 0, 1, 0, 0, 1] B) _ _
  rw [C1_1_1_1_1_0_1_0_0_1_0_0_1]; refine Gets.seq ?_
  refine Gets.ofN fitCrowd grp_sound (conT_agree _ _) 12 40 (by kernel_rfl) (x := .normal) (s' := (S86 pre n c i l lg bb e)) ((R76 pre n c i bb lg l e).trans (by rw [condT (decide_eq_true (by omega)), if_pos (⟨by omega, by omega⟩), condT (ble_t (by omega)), obind_at (k := 0) (by omega) (by omega), condT (decide_eq_true (by omega)), if_pos (⟨by omega, by omega⟩), condT (ble_t (by omega)), obind_at (k := 1) (by omega) (by omega), condT (decide_eq_true (by omega)), if_pos (⟨by omega, by omega⟩), condT (ble_t (by omega)), obind_at (k := 2) (by omega) (by omega), condT (decide_eq_true (by omega)), if_pos (⟨by omega, by omega⟩), condT (ble_t (by omega)), obind_at (k := 3) (by omega) (by omega)] <;> rfl)) ?_
  show Gets _ _ (codeAt [1, 1, 1, 1, 1, 0, 1, 0, 0, 1, 0, 0, 1, 1] B) _ _
  rw [C1_1_1_1_1_0_1_0_0_1_0_0_1_1]; refine Gets.seq ?_
  refine Gets.ofN fitCrowd grp_sound (conT_agree _ _) 12 40 (by kernel_rfl) (x := .normal) (s' := (S87 pre n c i l lg bb e)) (R77 pre n c i l lg bb e) ?_
  show Gets _ _ (codeAt [1, 1, 1, 1, 1, 0, 1, 0, 0, 1, 0, 0, 1, 1, 1] B) _ _
  rw [C1_1_1_1_1_0_1_0_0_1_0_0_1_1_1]; refine Gets.seq ?_
  refine Gets.ofN fitCrowd grp_sound (conT_agree _ _) 12 40 (by kernel_rfl) (x := .normal) (s' := (S88 pre n c i l lg bb e)) (R78 pre n c i l lg bb e) ?_
  show Gets _ _ (codeAt [1, 1, 1, 1, 1, 0, 1, 0, 0, 1, 0, 0, 1, 1, 1, 1] B) _ _
  rw [C1_1_1_1_1_0_1_0_0_1_0_0_1_1_1_1]; refine Gets.seq ?_
  rw [C1_1_1_1_1_0_1_0_0_1_0_0_1_1_1_1_0]; refine Gets.seq ?_
  refine Gets.ofN fitCrowd grp_sound (conT_agree _ _) 12 40 (by kernel_rfl) (x := .normal) (s' := (S90 pre n c i bb lg l e)) ((R79 pre n c i l lg bb e).trans (by rw [condF (not_f (beq_self_eq_true _))])) ?_
  show Gets _ _ (codeAt [1, 1, 1, 1, 1, 0, 1, 0, 0, 1, 0, 0, 1, 1, 1, 1, 0, 1] B) _ _
  rw [C1_1_1_1_1_0_1_0_0_1_0_0_1_1_1_1_0_1]; refine Gets.cond false (by kernel_rfl) (show evalX (KSt.ts (S90 pre n c i bb lg l e)) (.tmp 116) = .bool false by kernel_rfl) ?_; show Gets _ _ (codeAt [1, 1, 1, 1, 1, 0, 1, 0, 0, 1, 0, 0, 1, 1, 1, 1, 0, 1, 1] B) _ _
  refine Gets.ofN fitCrowd grp_sound (conT_agree _ _) 12 40 (by kernel_rfl) (x := .normal) (s' := (S77 pre n c i bb lg l e)) (R80 pre n c i bb lg l e) ?_
  show Gets _ _ (codeAt [1, 1, 1, 1, 1, 0, 1, 0, 0, 1, 0, 0, 1, 1, 1, 1, 1] B) _ _
  rw [C1_1_1_1_1_0_1_0_0_1_0_0_1_1_1_1_1]; refine Gets.seq ?_
  refine Gets.ofN fitCrowd grp_sound (conT_agree _ _) 12 40 (by kernel_rfl) (x := .normal) (s' := (S91 pre n c i bb lg l e)) (R81 pre n c i bb lg l e) ?_
  show Gets _ _ (codeAt [1, 1, 1, 1, 1, 0, 1, 0, 0, 1, 0, 0, 1, 1, 1, 1, 1, 1] B) _ _
  rw [C1_1_1_1_1_0_1_0_0_1_0_0_1_1_1_1_1_1]; refine Gets.cond false (by kernel_rfl) ((show evalX (KSt.ts (S91 pre n c i bb lg l e)) (.tmp 120) = .bool (decide (i < ((n : Nat) : Int))) by kernel_rfl).trans (by rw [(show (decide (i < ((n : Nat) : Int))) = false from decide_eq_false (by omega))])) ?_; show Gets _ _ (codeAt [1, 1, 1, 1, 1, 0, 1, 0, 0, 1, 0, 0, 1, 1, 1, 1, 1, 1, 1] B) _ _
  refine Gets.ofN fitCrowd grp_sound (conT_agree _ _) 12 40 (by kernel_rfl) (x := .normal) (s' := (S77 pre n c i bb lg l e)) (R84 pre n c i bb lg l e) ?_
  show Gets _ _ (codeAt [1, 1, 1, 1, 1, 0, 1, 0, 0, 1, 1] B) _ _
  refine Gets.ofN fitCrowd grp_sound (conT_agree _ _) 12 40 (by kernel_rfl) (x := .normal) (s' := (S93 pre n c i bb lg l e)) ((R83 pre n c i bb lg l e).trans (by (show some (Ex.normal, (S92 pre n c i bb lg l e)) = some (Ex.normal, (S93 pre n c i bb lg l e)); unfold S92 S93; rw [(show (IntKind.wrap .i64 (i + 1)) = (i + 1) from wrap_i64_id (by omega) (by omega))]))) ?_
  exact hq
noncomputable def S94 (pre : Nat) (n : Nat) (c : Nat) (i : Int) (bb : Int) (lg : Int) (a0 : Int) (s0 : Int) (s1 : Int) (s2 : Int) (s3 : Int) (l : List Int) (e : TypeId) : KSt := ⟨(frameL 128 [(2, (.slice (some ⟨0, pre, none⟩) n c)), (3, (.pointer (some ⟨1, 0, none⟩))), (7, (.pointer (some ⟨2, 0, none⟩))), (12, (.int .i64 i))]), ⟨3, 1, [(2, 0, .cells [(.int .u64 bb), (.int .i64 lg), (.bool true), (.int .i64 a0), (.int .u64 s0), (.int .u64 s1), (.int .u64 s2), (.int .u64 s3)] 81 true), (1, 0, .cells [(.int .u64 bb), (.int .i64 lg)] 39 true), (0, 0, .tail pre .u64 l e)]⟩⟩
noncomputable def S95 (pre : Nat) (n : Nat) (c : Nat) (i : Int) (bb : Int) (lg : Int) (a0 : Int) (s0 : Int) (s1 : Int) (s2 : Int) (s3 : Int) (l : List Int) (e : TypeId) : KSt := ⟨(frameL 128 [(2, (.slice (some ⟨0, pre, none⟩) n c)), (3, (.pointer (some ⟨1, 0, none⟩))), (7, (.pointer (some ⟨2, 0, none⟩))), (12, (.int .i64 i)), (59, (.bool (decide (i ≤ ((n : Nat) : Int)))))]), ⟨3, 1, [(2, 0, .cells [(.int .u64 bb), (.int .i64 lg), (.bool true), (.int .i64 a0), (.int .u64 s0), (.int .u64 s1), (.int .u64 s2), (.int .u64 s3)] 81 true), (1, 0, .cells [(.int .u64 bb), (.int .i64 lg)] 39 true), (0, 0, .tail pre .u64 l e)]⟩⟩
theorem R85 (pre : Nat) (n : Nat) (c : Nat) (i : Int) (bb : Int) (lg : Int) (a0 : Int) (s0 : Int) (s1 : Int) (s2 : Int) (s3 : Int) (l : List Int) (e : TypeId) : evCK Try.prog cfgA (runK Try.prog cfgA fsCrowd (conT grpDom grpE) 12 40) 12 (codeAt [1, 1, 1, 1, 1, 0, 1, 0, 0, 0, 0] B) (S94 pre n c i bb lg a0 s0 s1 s2 s3 l e) (normC 1 [2, 3, 7, 12, 59]) =
  some (.normal, (S95 pre n c i bb lg a0 s0 s1 s2 s3 l e)) := by kernel_rfl
theorem C1_1_1_1_1_0_1_0_0_0_1_1 : (codeAt [1, 1, 1, 1, 1, 0, 1, 0, 0, 0, 1, 1] B) = .exit 0 := by kernel_rfl
theorem lx (bb lg i a0 s0 s1 s2 s3 : Int) (pre n c : Nat) (l : List Int) (e : TypeId)  (hx : (n : Int) < i)  {Q : Ex → St → Prop} (hq : Q (.exit 0) (KSt.low (S95 pre n c i bb lg a0 s0 s1 s2 s3 l e))) : Gets Try.prog (KH.low ⟨1, 1, [(0, 0, .tail pre .u64 l e)]⟩) (codeAt [1, 1, 1, 1, 1, 0, 1, 0, 0] B) (KSt.low (S94 pre n c i bb lg a0 s0 s1 s2 s3 l e)) Q := by
  rw [C1_1_1_1_1_0_1_0_0]; refine Gets.seq ?_
  rw [C1_1_1_1_1_0_1_0_0_0]; refine Gets.seq ?_
  refine Gets.ofN fitCrowd grp_sound (conT_agree _ _) 12 40 (by kernel_rfl) (x := .normal) (s' := (S95 pre n c i bb lg a0 s0 s1 s2 s3 l e)) (R85 pre n c i bb lg a0 s0 s1 s2 s3 l e) ?_
  show Gets _ _ (codeAt [1, 1, 1, 1, 1, 0, 1, 0, 0, 0, 1] B) _ _
  rw [C1_1_1_1_1_0_1_0_0_0_1]; refine Gets.cond false (by kernel_rfl) ((show evalX (KSt.ts (S95 pre n c i bb lg a0 s0 s1 s2 s3 l e)) (.tmp 59) = .bool (decide (i ≤ ((n : Nat) : Int))) by kernel_rfl).trans (by rw [(show (decide (i ≤ ((n : Nat) : Int))) = false from decide_eq_false (by omega))])) ?_; show Gets _ _ (codeAt [1, 1, 1, 1, 1, 0, 1, 0, 0, 0, 1, 1] B) _ _
  rw [C1_1_1_1_1_0_1_0_0_0_1_1]; refine Gets.ev fitCrowd.mix fitCrowd.cfg (fitCrowd.sound grp_sound 12 0) 12 rfl (s' := KSt.low (S95 pre n c i bb lg a0 s0 s1 s2 s3 l e)) (x := (.exit 0)) rfl ?_
  exact hq
theorem C1_1_1_1_1_1 : (codeAt [1, 1, 1, 1, 1, 1] B) = .seq (codeAt [1, 1, 1, 1, 1, 1, 0] B) (codeAt [1, 1, 1, 1, 1, 1, 1] B) := by kernel_rfl
theorem R86 (pre : Nat) (n : Nat) (c : Nat) (i : Int) (bb : Int) (lg : Int) (a0 : Int) (s0 : Int) (s1 : Int) (s2 : Int) (s3 : Int) (l : List Int) (e : TypeId) : evCK Try.prog cfgA (runK Try.prog cfgA fsCrowd (conT grpDom grpE) 12 40) 12 (codeAt [1, 1, 1, 1, 1, 1, 0] B) (S95 pre n c i bb lg a0 s0 s1 s2 s3 l e) (normC 1 [6]) =
  some (.normal, (S3 pre l e)) := by kernel_rfl
theorem C1_1_1_1_1_1_1 : (codeAt [1, 1, 1, 1, 1, 1, 1] B) = .ret := by kernel_rfl
theorem fin (bb lg i a0 s0 s1 s2 s3 : Int) (pre n c : Nat) (l : List Int) (e : TypeId)   {Q : Ex → St → Prop} (hq : Q .ret (KSt.low (S3 pre l e))) : Gets Try.prog (KH.low ⟨1, 1, [(0, 0, .tail pre .u64 l e)]⟩) (codeAt [1, 1, 1, 1, 1, 1] B) (KSt.low (S95 pre n c i bb lg a0 s0 s1 s2 s3 l e)) Q := by
  rw [C1_1_1_1_1_1]; refine Gets.seq ?_
  refine Gets.ofN fitCrowd grp_sound (conT_agree _ _) 12 40 (by kernel_rfl) (x := .normal) (s' := (S3 pre l e)) (R86 pre n c i bb lg a0 s0 s1 s2 s3 l e) ?_
  show Gets _ _ (codeAt [1, 1, 1, 1, 1, 1, 1] B) _ _
  rw [C1_1_1_1_1_1_1]; refine Gets.ev fitCrowd.mix fitCrowd.cfg (fitCrowd.sound grp_sound 12 0) 12 rfl (s' := KSt.low (S3 pre l e)) (x := .ret) rfl ?_
  exact hq
noncomputable def vS0 (bb : Int) (lg : Int) (th : Int) (pre : Nat) : KSt := (firstK [(.agg #[(.int .u64 bb), (.int .i64 lg)]), (.int .i64 th), (.slice (some ⟨0, pre, none⟩) 0 0)] 128 ⟨1, 1, []⟩)
noncomputable def vS1 (th : Int) (pre : Nat) (bb : Int) (lg : Int) : KSt := ⟨(frameL 128 [(1, (.int .i64 th)), (2, (.slice (some ⟨0, pre, none⟩) 0 0)), (3, (.pointer (some ⟨1, 0, none⟩)))]), ⟨2, 1, [(1, 0, .cells [(.int .u64 bb), (.int .i64 lg)] 39 true)]⟩⟩
theorem vR1 (bb : Int) (lg : Int) (th : Int) (pre : Nat) : evCK Try.prog cfgA (runK Try.prog cfgA fsCrowd (conT grpDom grpE) 12 40) 12 (codeAt [0] B) (vS0 bb lg th pre) (normC 1 [1, 2, 3]) =
  some (.normal, (vS1 th pre bb lg)) := by kernel_rfl
noncomputable def vS2 (th : Int) (pre : Nat) (bb : Int) (lg : Int) : KSt := ⟨(frameL 128 [(1, (.int .i64 th)), (2, (.slice (some ⟨0, pre, none⟩) 0 0)), (3, (.pointer (some ⟨1, 0, none⟩))), (21, (.bool false))]), ⟨2, 1, [(1, 0, .cells [(.int .u64 bb), (.int .i64 lg)] 39 true)]⟩⟩
theorem vR2 (th : Int) (pre : Nat) (bb : Int) (lg : Int) : evCK Try.prog cfgA (runK Try.prog cfgA fsCrowd (conT grpDom grpE) 12 40) 12 (codeAt [1, 0, 0] B) (vS1 th pre bb lg) (normC 1 [1, 2, 3, 21]) =
  some (.normal, (vS2 th pre bb lg)) := by kernel_rfl
theorem vR3 (th : Int) (pre : Nat) (bb : Int) (lg : Int) : evCK Try.prog cfgA (runK Try.prog cfgA fsCrowd (conT grpDom grpE) 12 40) 12 (codeAt [1, 0, 1, 1] B) (vS2 th pre bb lg) (normC 1 [1, 2, 3]) =
  some (.normal, (vS1 th pre bb lg)) := by kernel_rfl
noncomputable def vS3 (th : Int) (pre : Nat) (bb : Int) (lg : Int) : KSt := ⟨(frameL 128 [(1, (.int .i64 th)), (2, (.slice (some ⟨0, pre, none⟩) 0 0)), (3, (.pointer (some ⟨1, 0, none⟩))), (7, (.pointer (some ⟨2, 0, none⟩)))]), ⟨3, 1, [(2, 0, .cells [(.int .u64 bb), (.int .i64 lg), (.bool (decide ((groupsV lg) > 0))), (.int .i64 0), (.int .u64 0), (.int .u64 0), (.int .u64 0), (.int .u64 0)] 81 true), (1, 0, .cells [(.int .u64 bb), (.int .i64 lg)] 39 true)]⟩⟩
noncomputable def vS4 (th : Int) (pre : Nat) (bb : Int) (lg : Int) : KSt := ⟨(frameL 128 [(1, (.int .i64 th)), (2, (.slice (some ⟨0, pre, none⟩) 0 0)), (3, (.pointer (some ⟨1, 0, none⟩))), (7, (.pointer (some ⟨2, 0, none⟩)))]), ⟨3, 1, [(2, 0, .cells [(.int .u64 bb), (.int .i64 lg), (.bool false), (.int .i64 0), (.int .u64 0), (.int .u64 0), (.int .u64 0), (.int .u64 0)] 81 true), (1, 0, .cells [(.int .u64 bb), (.int .i64 lg)] 39 true)]⟩⟩
theorem vR4 (th : Int) (pre : Nat) (bb : Int) (lg : Int) : evCK Try.prog cfgA (runK Try.prog cfgA fsCrowd (conT grpDom grpE) 12 40) 12 (codeAt [1, 1, 0] B) (vS1 th pre bb lg) (normC 1 [1, 2, 3, 7]) =
  bif (bb != 0) then
    some (.normal, (vS3 th pre bb lg))
  else
    some (.normal, (vS4 th pre bb lg)) := by kernel_rfl
noncomputable def vS5 (pre : Nat) (bb : Int) (th : Int) (lg : Int) : KSt := ⟨(frameL 128 [(2, (.slice (some ⟨0, pre, none⟩) 0 0)), (3, (.pointer (some ⟨1, 0, none⟩))), (7, (.pointer (some ⟨2, 0, none⟩))), (31, (.bool (!(true && ((bb == bb) && (((IntKind.wrap .i64 (3 + (bits .and .i64 th 3))) == (IntKind.wrap .i64 (3 + (IntKind.wrap .i64 ((Int.tmod th 4) + 4))))) && true))))))]), ⟨3, 1, [(2, 0, .cells [(.int .u64 bb), (.int .i64 lg), (.bool false), (.int .i64 0), (.int .u64 0), (.int .u64 0), (.int .u64 0), (.int .u64 0)] 81 true), (1, 0, .cells [(.int .u64 bb), (.int .i64 lg)] 39 true)]⟩⟩
noncomputable def vS6 (pre : Nat) (bb : Int) (th : Int) (lg : Int) : KSt := ⟨(frameL 128 [(2, (.slice (some ⟨0, pre, none⟩) 0 0)), (3, (.pointer (some ⟨1, 0, none⟩))), (7, (.pointer (some ⟨2, 0, none⟩))), (31, (.bool (!(true && ((bb == bb) && (((IntKind.wrap .i64 (3 + (bits .and .i64 th 3))) == (IntKind.wrap .i64 (3 + (Int.tmod th 4)))) && true))))))]), ⟨3, 1, [(2, 0, .cells [(.int .u64 bb), (.int .i64 lg), (.bool false), (.int .i64 0), (.int .u64 0), (.int .u64 0), (.int .u64 0), (.int .u64 0)] 81 true), (1, 0, .cells [(.int .u64 bb), (.int .i64 lg)] 39 true)]⟩⟩
theorem vR5 (th : Int) (pre : Nat) (bb : Int) (lg : Int) : evCK Try.prog cfgA (runK Try.prog cfgA fsCrowd (conT grpDom grpE) 12 40) 12 (codeAt [1, 1, 1, 0, 0] B) (vS4 th pre bb lg) (normC 1 [2, 3, 7, 31]) =
  bif (decide ((Int.tmod th 4) < 0)) then
    some (.normal, (vS5 pre bb th lg))
  else
    some (.normal, (vS6 pre bb th lg)) := by kernel_rfl
noncomputable def vS7 (pre : Nat) (bb : Int) (lg : Int) : KSt := ⟨(frameL 128 [(2, (.slice (some ⟨0, pre, none⟩) 0 0)), (3, (.pointer (some ⟨1, 0, none⟩))), (7, (.pointer (some ⟨2, 0, none⟩)))]), ⟨3, 1, [(2, 0, .cells [(.int .u64 bb), (.int .i64 lg), (.bool false), (.int .i64 0), (.int .u64 0), (.int .u64 0), (.int .u64 0), (.int .u64 0)] 81 true), (1, 0, .cells [(.int .u64 bb), (.int .i64 lg)] 39 true)]⟩⟩
theorem vR6 (pre : Nat) (bb : Int) (th : Int) (lg : Int) : evCK Try.prog cfgA (runK Try.prog cfgA fsCrowd (conT grpDom grpE) 12 40) 12 (codeAt [1, 1, 1, 0, 1, 1] B) (vS5 pre bb th lg) (normC 1 [2, 3, 7]) =
  some (.normal, (vS7 pre bb lg)) := by kernel_rfl
theorem van0 (bb lg th : Int) (pre : Nat)  (q1 : (bb != 0) = false) (q2 : (decide ((Int.tmod th 4) < 0)) = true) (q3 : ((IntKind.wrap .i64 (3 + (bits .and .i64 th 3))) == (IntKind.wrap .i64 (3 + (IntKind.wrap .i64 ((Int.tmod th 4) + 4))))) = true) {Q : Ex → St → Prop} (hq : Gets Try.prog (KH.low ⟨1, 1, []⟩) (codeAt [1, 1, 1, 1] B) (KSt.low (vS7 pre bb lg)) (Q)) : Gets Try.prog (KH.low ⟨1, 1, []⟩) B (KSt.low (vS0 bb lg th pre)) Q := by
  rw [C]; refine Gets.seq ?_
  refine Gets.ofN fitCrowd grp_sound (conT_agree _ _) 12 40 (by kernel_rfl) (x := .normal) (s' := (vS1 th pre bb lg)) (vR1 bb lg th pre) ?_
  show Gets _ _ (codeAt [1] B) _ _
  rw [C1]; refine Gets.seq ?_
  rw [C1_0]; refine Gets.seq ?_
  refine Gets.ofN fitCrowd grp_sound (conT_agree _ _) 12 40 (by kernel_rfl) (x := .normal) (s' := (vS2 th pre bb lg)) (vR2 th pre bb lg) ?_
  show Gets _ _ (codeAt [1, 0, 1] B) _ _
  rw [C1_0_1]; refine Gets.cond false (by kernel_rfl) (show evalX (KSt.ts (vS2 th pre bb lg)) (.tmp 21) = .bool false by kernel_rfl) ?_; show Gets _ _ (codeAt [1, 0, 1, 1] B) _ _
  refine Gets.ofN fitCrowd grp_sound (conT_agree _ _) 12 40 (by kernel_rfl) (x := .normal) (s' := (vS1 th pre bb lg)) (vR3 th pre bb lg) ?_
  show Gets _ _ (codeAt [1, 1] B) _ _
  rw [C1_1]; refine Gets.seq ?_
  refine Gets.ofN fitCrowd grp_sound (conT_agree _ _) 12 40 (by kernel_rfl) (x := .normal) (s' := (vS4 th pre bb lg)) ((vR4 th pre bb lg).trans (by rw [condF (q1)])) ?_
  show Gets _ _ (codeAt [1, 1, 1] B) _ _
  rw [C1_1_1]; refine Gets.seq ?_
  rw [C1_1_1_0]; refine Gets.seq ?_
  refine Gets.ofN fitCrowd grp_sound (conT_agree _ _) 12 40 (by kernel_rfl) (x := .normal) (s' := (vS5 pre bb th lg)) ((vR5 th pre bb lg).trans (by rw [condT (q2)])) ?_
  show Gets _ _ (codeAt [1, 1, 1, 0, 1] B) _ _
  rw [C1_1_1_0_1]; refine Gets.cond false (by kernel_rfl) ((show evalX (KSt.ts (vS5 pre bb th lg)) (.tmp 31) = .bool (!(true && ((bb == bb) && (((IntKind.wrap .i64 (3 + (bits .and .i64 th 3))) == (IntKind.wrap .i64 (3 + (IntKind.wrap .i64 ((Int.tmod th 4) + 4))))) && true)))) by kernel_rfl).trans (by rw [(show (!(true && ((bb == bb) && (((IntKind.wrap .i64 (3 + (bits .and .i64 th 3))) == (IntKind.wrap .i64 (3 + (IntKind.wrap .i64 ((Int.tmod th 4) + 4))))) && true)))) = false from not_f (and_t (rfl) (and_t (beq_self_eq_true _) (and_t (q3) (rfl)))))])) ?_; show Gets _ _ (codeAt [1, 1, 1, 0, 1, 1] B) _ _
  refine Gets.ofN fitCrowd grp_sound (conT_agree _ _) 12 40 (by kernel_rfl) (x := .normal) (s' := (vS7 pre bb lg)) (vR6 pre bb th lg) ?_
  show Gets _ _ (codeAt [1, 1, 1, 1] B) _ _
  exact hq
noncomputable def vS8 (pre : Nat) (bb : Int) (th : Int) (lg : Int) : KSt := ⟨(frameL 128 [(2, (.slice (some ⟨0, pre, none⟩) 0 0)), (3, (.pointer (some ⟨1, 0, none⟩))), (7, (.pointer (some ⟨2, 0, none⟩))), (31, (.bool (!(true && ((bb == bb) && (((IntKind.wrap .i64 (3 + (bits .and .i64 th 3))) == (IntKind.wrap .i64 (3 + (IntKind.wrap .i64 ((Int.tmod th 4) + 4))))) && true))))))]), ⟨3, 1, [(2, 0, .cells [(.int .u64 bb), (.int .i64 lg), (.bool (decide ((groupsV lg) > 0))), (.int .i64 0), (.int .u64 0), (.int .u64 0), (.int .u64 0), (.int .u64 0)] 81 true), (1, 0, .cells [(.int .u64 bb), (.int .i64 lg)] 39 true)]⟩⟩
noncomputable def vS9 (pre : Nat) (bb : Int) (th : Int) (lg : Int) : KSt := ⟨(frameL 128 [(2, (.slice (some ⟨0, pre, none⟩) 0 0)), (3, (.pointer (some ⟨1, 0, none⟩))), (7, (.pointer (some ⟨2, 0, none⟩))), (31, (.bool (!(true && ((bb == bb) && (((IntKind.wrap .i64 (3 + (bits .and .i64 th 3))) == (IntKind.wrap .i64 (3 + (Int.tmod th 4)))) && true))))))]), ⟨3, 1, [(2, 0, .cells [(.int .u64 bb), (.int .i64 lg), (.bool (decide ((groupsV lg) > 0))), (.int .i64 0), (.int .u64 0), (.int .u64 0), (.int .u64 0), (.int .u64 0)] 81 true), (1, 0, .cells [(.int .u64 bb), (.int .i64 lg)] 39 true)]⟩⟩
theorem vR7 (th : Int) (pre : Nat) (bb : Int) (lg : Int) : evCK Try.prog cfgA (runK Try.prog cfgA fsCrowd (conT grpDom grpE) 12 40) 12 (codeAt [1, 1, 1, 0, 0] B) (vS3 th pre bb lg) (normC 1 [2, 3, 7, 31]) =
  bif (decide ((Int.tmod th 4) < 0)) then
    some (.normal, (vS8 pre bb th lg))
  else
    some (.normal, (vS9 pre bb th lg)) := by kernel_rfl
noncomputable def vS10 (pre : Nat) (bb : Int) (lg : Int) : KSt := ⟨(frameL 128 [(2, (.slice (some ⟨0, pre, none⟩) 0 0)), (3, (.pointer (some ⟨1, 0, none⟩))), (7, (.pointer (some ⟨2, 0, none⟩)))]), ⟨3, 1, [(2, 0, .cells [(.int .u64 bb), (.int .i64 lg), (.bool (decide ((groupsV lg) > 0))), (.int .i64 0), (.int .u64 0), (.int .u64 0), (.int .u64 0), (.int .u64 0)] 81 true), (1, 0, .cells [(.int .u64 bb), (.int .i64 lg)] 39 true)]⟩⟩
theorem vR8 (pre : Nat) (bb : Int) (th : Int) (lg : Int) : evCK Try.prog cfgA (runK Try.prog cfgA fsCrowd (conT grpDom grpE) 12 40) 12 (codeAt [1, 1, 1, 0, 1, 1] B) (vS8 pre bb th lg) (normC 1 [2, 3, 7]) =
  some (.normal, (vS10 pre bb lg)) := by kernel_rfl
theorem van1 (bb lg th : Int) (pre : Nat)  (q1 : (bb != 0) = true) (q2 : (decide ((Int.tmod th 4) < 0)) = true) (q3 : ((IntKind.wrap .i64 (3 + (bits .and .i64 th 3))) == (IntKind.wrap .i64 (3 + (IntKind.wrap .i64 ((Int.tmod th 4) + 4))))) = true) {Q : Ex → St → Prop} (hq : Gets Try.prog (KH.low ⟨1, 1, []⟩) (codeAt [1, 1, 1, 1] B) (KSt.low (vS10 pre bb lg)) (Q)) : Gets Try.prog (KH.low ⟨1, 1, []⟩) B (KSt.low (vS0 bb lg th pre)) Q := by
  rw [C]; refine Gets.seq ?_
  refine Gets.ofN fitCrowd grp_sound (conT_agree _ _) 12 40 (by kernel_rfl) (x := .normal) (s' := (vS1 th pre bb lg)) (vR1 bb lg th pre) ?_
  show Gets _ _ (codeAt [1] B) _ _
  rw [C1]; refine Gets.seq ?_
  rw [C1_0]; refine Gets.seq ?_
  refine Gets.ofN fitCrowd grp_sound (conT_agree _ _) 12 40 (by kernel_rfl) (x := .normal) (s' := (vS2 th pre bb lg)) (vR2 th pre bb lg) ?_
  show Gets _ _ (codeAt [1, 0, 1] B) _ _
  rw [C1_0_1]; refine Gets.cond false (by kernel_rfl) (show evalX (KSt.ts (vS2 th pre bb lg)) (.tmp 21) = .bool false by kernel_rfl) ?_; show Gets _ _ (codeAt [1, 0, 1, 1] B) _ _
  refine Gets.ofN fitCrowd grp_sound (conT_agree _ _) 12 40 (by kernel_rfl) (x := .normal) (s' := (vS1 th pre bb lg)) (vR3 th pre bb lg) ?_
  show Gets _ _ (codeAt [1, 1] B) _ _
  rw [C1_1]; refine Gets.seq ?_
  refine Gets.ofN fitCrowd grp_sound (conT_agree _ _) 12 40 (by kernel_rfl) (x := .normal) (s' := (vS3 th pre bb lg)) ((vR4 th pre bb lg).trans (by rw [condT (q1)])) ?_
  show Gets _ _ (codeAt [1, 1, 1] B) _ _
  rw [C1_1_1]; refine Gets.seq ?_
  rw [C1_1_1_0]; refine Gets.seq ?_
  refine Gets.ofN fitCrowd grp_sound (conT_agree _ _) 12 40 (by kernel_rfl) (x := .normal) (s' := (vS8 pre bb th lg)) ((vR7 th pre bb lg).trans (by rw [condT (q2)])) ?_
  show Gets _ _ (codeAt [1, 1, 1, 0, 1] B) _ _
  rw [C1_1_1_0_1]; refine Gets.cond false (by kernel_rfl) ((show evalX (KSt.ts (vS8 pre bb th lg)) (.tmp 31) = .bool (!(true && ((bb == bb) && (((IntKind.wrap .i64 (3 + (bits .and .i64 th 3))) == (IntKind.wrap .i64 (3 + (IntKind.wrap .i64 ((Int.tmod th 4) + 4))))) && true)))) by kernel_rfl).trans (by rw [(show (!(true && ((bb == bb) && (((IntKind.wrap .i64 (3 + (bits .and .i64 th 3))) == (IntKind.wrap .i64 (3 + (IntKind.wrap .i64 ((Int.tmod th 4) + 4))))) && true)))) = false from not_f (and_t (rfl) (and_t (beq_self_eq_true _) (and_t (q3) (rfl)))))])) ?_; show Gets _ _ (codeAt [1, 1, 1, 0, 1, 1] B) _ _
  refine Gets.ofN fitCrowd grp_sound (conT_agree _ _) 12 40 (by kernel_rfl) (x := .normal) (s' := (vS10 pre bb lg)) (vR8 pre bb th lg) ?_
  show Gets _ _ (codeAt [1, 1, 1, 1] B) _ _
  exact hq
theorem vR9 (pre : Nat) (bb : Int) (th : Int) (lg : Int) : evCK Try.prog cfgA (runK Try.prog cfgA fsCrowd (conT grpDom grpE) 12 40) 12 (codeAt [1, 1, 1, 0, 1, 1] B) (vS6 pre bb th lg) (normC 1 [2, 3, 7]) =
  some (.normal, (vS7 pre bb lg)) := by kernel_rfl
theorem vap0 (bb lg th : Int) (pre : Nat)  (q1 : (bb != 0) = false) (q2 : (decide ((Int.tmod th 4) < 0)) = false) (q3 : ((IntKind.wrap .i64 (3 + (bits .and .i64 th 3))) == (IntKind.wrap .i64 (3 + (Int.tmod th 4)))) = true) {Q : Ex → St → Prop} (hq : Gets Try.prog (KH.low ⟨1, 1, []⟩) (codeAt [1, 1, 1, 1] B) (KSt.low (vS7 pre bb lg)) (Q)) : Gets Try.prog (KH.low ⟨1, 1, []⟩) B (KSt.low (vS0 bb lg th pre)) Q := by
  rw [C]; refine Gets.seq ?_
  refine Gets.ofN fitCrowd grp_sound (conT_agree _ _) 12 40 (by kernel_rfl) (x := .normal) (s' := (vS1 th pre bb lg)) (vR1 bb lg th pre) ?_
  show Gets _ _ (codeAt [1] B) _ _
  rw [C1]; refine Gets.seq ?_
  rw [C1_0]; refine Gets.seq ?_
  refine Gets.ofN fitCrowd grp_sound (conT_agree _ _) 12 40 (by kernel_rfl) (x := .normal) (s' := (vS2 th pre bb lg)) (vR2 th pre bb lg) ?_
  show Gets _ _ (codeAt [1, 0, 1] B) _ _
  rw [C1_0_1]; refine Gets.cond false (by kernel_rfl) (show evalX (KSt.ts (vS2 th pre bb lg)) (.tmp 21) = .bool false by kernel_rfl) ?_; show Gets _ _ (codeAt [1, 0, 1, 1] B) _ _
  refine Gets.ofN fitCrowd grp_sound (conT_agree _ _) 12 40 (by kernel_rfl) (x := .normal) (s' := (vS1 th pre bb lg)) (vR3 th pre bb lg) ?_
  show Gets _ _ (codeAt [1, 1] B) _ _
  rw [C1_1]; refine Gets.seq ?_
  refine Gets.ofN fitCrowd grp_sound (conT_agree _ _) 12 40 (by kernel_rfl) (x := .normal) (s' := (vS4 th pre bb lg)) ((vR4 th pre bb lg).trans (by rw [condF (q1)])) ?_
  show Gets _ _ (codeAt [1, 1, 1] B) _ _
  rw [C1_1_1]; refine Gets.seq ?_
  rw [C1_1_1_0]; refine Gets.seq ?_
  refine Gets.ofN fitCrowd grp_sound (conT_agree _ _) 12 40 (by kernel_rfl) (x := .normal) (s' := (vS6 pre bb th lg)) ((vR5 th pre bb lg).trans (by rw [condF (q2)])) ?_
  show Gets _ _ (codeAt [1, 1, 1, 0, 1] B) _ _
  rw [C1_1_1_0_1]; refine Gets.cond false (by kernel_rfl) ((show evalX (KSt.ts (vS6 pre bb th lg)) (.tmp 31) = .bool (!(true && ((bb == bb) && (((IntKind.wrap .i64 (3 + (bits .and .i64 th 3))) == (IntKind.wrap .i64 (3 + (Int.tmod th 4)))) && true)))) by kernel_rfl).trans (by rw [(show (!(true && ((bb == bb) && (((IntKind.wrap .i64 (3 + (bits .and .i64 th 3))) == (IntKind.wrap .i64 (3 + (Int.tmod th 4)))) && true)))) = false from not_f (and_t (rfl) (and_t (beq_self_eq_true _) (and_t (q3) (rfl)))))])) ?_; show Gets _ _ (codeAt [1, 1, 1, 0, 1, 1] B) _ _
  refine Gets.ofN fitCrowd grp_sound (conT_agree _ _) 12 40 (by kernel_rfl) (x := .normal) (s' := (vS7 pre bb lg)) (vR9 pre bb th lg) ?_
  show Gets _ _ (codeAt [1, 1, 1, 1] B) _ _
  exact hq
theorem vR10 (pre : Nat) (bb : Int) (th : Int) (lg : Int) : evCK Try.prog cfgA (runK Try.prog cfgA fsCrowd (conT grpDom grpE) 12 40) 12 (codeAt [1, 1, 1, 0, 1, 1] B) (vS9 pre bb th lg) (normC 1 [2, 3, 7]) =
  some (.normal, (vS10 pre bb lg)) := by kernel_rfl
theorem vap1 (bb lg th : Int) (pre : Nat)  (q1 : (bb != 0) = true) (q2 : (decide ((Int.tmod th 4) < 0)) = false) (q3 : ((IntKind.wrap .i64 (3 + (bits .and .i64 th 3))) == (IntKind.wrap .i64 (3 + (Int.tmod th 4)))) = true) {Q : Ex → St → Prop} (hq : Gets Try.prog (KH.low ⟨1, 1, []⟩) (codeAt [1, 1, 1, 1] B) (KSt.low (vS10 pre bb lg)) (Q)) : Gets Try.prog (KH.low ⟨1, 1, []⟩) B (KSt.low (vS0 bb lg th pre)) Q := by
  rw [C]; refine Gets.seq ?_
  refine Gets.ofN fitCrowd grp_sound (conT_agree _ _) 12 40 (by kernel_rfl) (x := .normal) (s' := (vS1 th pre bb lg)) (vR1 bb lg th pre) ?_
  show Gets _ _ (codeAt [1] B) _ _
  rw [C1]; refine Gets.seq ?_
  rw [C1_0]; refine Gets.seq ?_
  refine Gets.ofN fitCrowd grp_sound (conT_agree _ _) 12 40 (by kernel_rfl) (x := .normal) (s' := (vS2 th pre bb lg)) (vR2 th pre bb lg) ?_
  show Gets _ _ (codeAt [1, 0, 1] B) _ _
  rw [C1_0_1]; refine Gets.cond false (by kernel_rfl) (show evalX (KSt.ts (vS2 th pre bb lg)) (.tmp 21) = .bool false by kernel_rfl) ?_; show Gets _ _ (codeAt [1, 0, 1, 1] B) _ _
  refine Gets.ofN fitCrowd grp_sound (conT_agree _ _) 12 40 (by kernel_rfl) (x := .normal) (s' := (vS1 th pre bb lg)) (vR3 th pre bb lg) ?_
  show Gets _ _ (codeAt [1, 1] B) _ _
  rw [C1_1]; refine Gets.seq ?_
  refine Gets.ofN fitCrowd grp_sound (conT_agree _ _) 12 40 (by kernel_rfl) (x := .normal) (s' := (vS3 th pre bb lg)) ((vR4 th pre bb lg).trans (by rw [condT (q1)])) ?_
  show Gets _ _ (codeAt [1, 1, 1] B) _ _
  rw [C1_1_1]; refine Gets.seq ?_
  rw [C1_1_1_0]; refine Gets.seq ?_
  refine Gets.ofN fitCrowd grp_sound (conT_agree _ _) 12 40 (by kernel_rfl) (x := .normal) (s' := (vS9 pre bb th lg)) ((vR7 th pre bb lg).trans (by rw [condF (q2)])) ?_
  show Gets _ _ (codeAt [1, 1, 1, 0, 1] B) _ _
  rw [C1_1_1_0_1]; refine Gets.cond false (by kernel_rfl) ((show evalX (KSt.ts (vS9 pre bb th lg)) (.tmp 31) = .bool (!(true && ((bb == bb) && (((IntKind.wrap .i64 (3 + (bits .and .i64 th 3))) == (IntKind.wrap .i64 (3 + (Int.tmod th 4)))) && true)))) by kernel_rfl).trans (by rw [(show (!(true && ((bb == bb) && (((IntKind.wrap .i64 (3 + (bits .and .i64 th 3))) == (IntKind.wrap .i64 (3 + (Int.tmod th 4)))) && true)))) = false from not_f (and_t (rfl) (and_t (beq_self_eq_true _) (and_t (q3) (rfl)))))])) ?_; show Gets _ _ (codeAt [1, 1, 1, 0, 1, 1] B) _ _
  refine Gets.ofN fitCrowd grp_sound (conT_agree _ _) 12 40 (by kernel_rfl) (x := .normal) (s' := (vS10 pre bb lg)) (vR10 pre bb th lg) ?_
  show Gets _ _ (codeAt [1, 1, 1, 1] B) _ _
  exact hq
noncomputable def vS11 (pre : Nat) (lg : Int) (bb : Int) : KSt := ⟨(frameL 128 [(2, (.slice (some ⟨0, pre, none⟩) 0 0)), (3, (.pointer (some ⟨1, 0, none⟩))), (7, (.pointer (some ⟨2, 0, none⟩))), (34, (.bool (!(decide ((groupsV lg) > 0)))))]), ⟨3, 1, [(2, 0, .cells [(.int .u64 bb), (.int .i64 lg), (.bool false), (.int .i64 0), (.int .u64 0), (.int .u64 0), (.int .u64 0), (.int .u64 0)] 81 true), (1, 0, .cells [(.int .u64 bb), (.int .i64 lg)] 39 true)]⟩⟩
noncomputable def vS12 (pre : Nat) (bb : Int) (lg : Int) : KSt := ⟨(frameL 128 [(2, (.slice (some ⟨0, pre, none⟩) 0 0)), (3, (.pointer (some ⟨1, 0, none⟩))), (7, (.pointer (some ⟨2, 0, none⟩))), (34, (.bool true))]), ⟨3, 1, [(2, 0, .cells [(.int .u64 bb), (.int .i64 lg), (.bool false), (.int .i64 0), (.int .u64 0), (.int .u64 0), (.int .u64 0), (.int .u64 0)] 81 true), (1, 0, .cells [(.int .u64 bb), (.int .i64 lg)] 39 true)]⟩⟩
theorem vR11 (pre : Nat) (bb : Int) (lg : Int) : evCK Try.prog cfgA (runK Try.prog cfgA fsCrowd (conT grpDom grpE) 12 40) 12 (codeAt [1, 1, 1, 1, 0, 0] B) (vS7 pre bb lg) (normC 1 [2, 3, 7, 34]) =
  bif (decide (bb > 0)) then
    some (.normal, (vS11 pre lg bb))
  else
    some (.normal, (vS12 pre bb lg)) := by kernel_rfl
noncomputable def vS13 (bb : Int) (lg : Int) : KSt := ⟨(frameL 128 [(7, (.pointer (some ⟨1, 0, none⟩))), (9, (.bool false))]), ⟨2, 1, [(1, 0, .cells [(.int .u64 bb), (.int .i64 lg), (.bool false), (.int .i64 0), (.int .u64 0), (.int .u64 0), (.int .u64 0), (.int .u64 0)] 81 true)]⟩⟩
theorem vR12 (pre : Nat) (bb : Int) (lg : Int) : evCK Try.prog cfgA (runK Try.prog cfgA fsCrowd (conT grpDom grpE) 12 40) 12 (codeAt [1, 1, 1, 1, 0, 1, 0, 0] B) (vS12 pre bb lg) (normC 1 [7, 9]) =
  some (.normal, (vS13 bb lg)) := by kernel_rfl
theorem vR13 (bb : Int) (lg : Int) : evCK Try.prog cfgA (runK Try.prog cfgA fsCrowd (conT grpDom grpE) 12 40) 12 (codeAt [1, 1, 1, 1, 0, 1, 0, 1, 0] B) (vS13 bb lg) (normC 1 [7, 9]) =
  some (.normal, (vS13 bb lg)) := by kernel_rfl
noncomputable def vS14  : KSt := ⟨(frameL 128 [(9, (.bool false)), (11, (.bool false))]), ⟨1, 1, []⟩⟩
theorem vR14 (bb : Int) (lg : Int) : evCK Try.prog cfgA (runK Try.prog cfgA fsCrowd (conT grpDom grpE) 12 40) 12 (codeAt [1, 1, 1, 1, 0, 1, 0, 1, 1, 0] B) (vS13 bb lg) (normC 1 [9, 11]) =
  some (.normal, vS14) := by kernel_rfl
noncomputable def vS15  : KSt := ⟨(frameL 128 [(6, (.bool true))]), ⟨1, 1, []⟩⟩
theorem vR15  : evCK Try.prog cfgA (runK Try.prog cfgA fsCrowd (conT grpDom grpE) 12 40) 12 (codeAt [1, 1, 1, 1, 0, 1, 0, 1, 1, 1, 0] B) vS14 (normC 1 [6]) =
  some (.normal, vS15) := by kernel_rfl
theorem vb0 (bb lg th : Int) (pre : Nat)  (q1 : (decide (bb > 0)) = false) {Q : Ex → St → Prop} (hq : Q .ret (KSt.low vS15)) : Gets Try.prog (KH.low ⟨1, 1, []⟩) (codeAt [1, 1, 1, 1] B) (KSt.low (vS7 pre bb lg)) Q := by
  rw [C1_1_1_1]; refine Gets.seq ?_
  rw [C1_1_1_1_0]; refine Gets.seq ?_
  refine Gets.ofN fitCrowd grp_sound (conT_agree _ _) 12 40 (by kernel_rfl) (x := .normal) (s' := (vS12 pre bb lg)) ((vR11 pre bb lg).trans (by rw [condF (q1)])) ?_
  show Gets _ _ (codeAt [1, 1, 1, 1, 0, 1] B) _ _
  rw [C1_1_1_1_0_1]; refine Gets.cond true (by kernel_rfl) (show evalX (KSt.ts (vS12 pre bb lg)) (.tmp 34) = .bool true by kernel_rfl) ?_; show Gets _ _ (codeAt [1, 1, 1, 1, 0, 1, 0] B) _ _
  rw [C1_1_1_1_0_1_0]; refine Gets.seq ?_
  refine Gets.ofN fitCrowd grp_sound (conT_agree _ _) 12 40 (by kernel_rfl) (x := .normal) (s' := (vS13 bb lg)) (vR12 pre bb lg) ?_
  show Gets _ _ (codeAt [1, 1, 1, 1, 0, 1, 0, 1] B) _ _
  rw [C1_1_1_1_0_1_0_1]; refine Gets.seq ?_
  refine Gets.ofN fitCrowd grp_sound (conT_agree _ _) 12 40 (by kernel_rfl) (x := .normal) (s' := (vS13 bb lg)) (vR13 bb lg) ?_
  show Gets _ _ (codeAt [1, 1, 1, 1, 0, 1, 0, 1, 1] B) _ _
  rw [C1_1_1_1_0_1_0_1_1]; refine Gets.seq ?_
  refine Gets.ofN fitCrowd grp_sound (conT_agree _ _) 12 40 (by kernel_rfl) (x := .normal) (s' := vS14) (vR14 bb lg) ?_
  show Gets _ _ (codeAt [1, 1, 1, 1, 0, 1, 0, 1, 1, 1] B) _ _
  rw [C1_1_1_1_0_1_0_1_1_1]; refine Gets.seq ?_
  refine Gets.ofN fitCrowd grp_sound (conT_agree _ _) 12 40 (by kernel_rfl) (x := .normal) (s' := vS15) (vR15) ?_
  show Gets _ _ (codeAt [1, 1, 1, 1, 0, 1, 0, 1, 1, 1, 1] B) _ _
  rw [C1_1_1_1_0_1_0_1_1_1_1]; refine Gets.ev fitCrowd.mix fitCrowd.cfg (fitCrowd.sound grp_sound 12 0) 12 rfl (s' := KSt.low vS15) (x := .ret) rfl ?_
  exact hq
theorem vb0f (bb lg th : Int) (pre : Nat)  (q1 : (decide (bb > 0)) = false) {Q : Ex → St → Prop} (hq : Q .ret (KSt.low vS15)) : Gets Try.prog (KH.low ⟨1, 1, []⟩) (codeAt [1, 1, 1, 1] B) (KSt.low (vS7 pre bb lg)) Q := by
  rw [C1_1_1_1]; refine Gets.seq ?_
  rw [C1_1_1_1_0]; refine Gets.seq ?_
  refine Gets.ofN fitCrowd grp_sound (conT_agree _ _) 12 40 (by kernel_rfl) (x := .normal) (s' := (vS12 pre bb lg)) ((vR11 pre bb lg).trans (by rw [condF (q1)])) ?_
  show Gets _ _ (codeAt [1, 1, 1, 1, 0, 1] B) _ _
  rw [C1_1_1_1_0_1]; refine Gets.cond true (by kernel_rfl) (show evalX (KSt.ts (vS12 pre bb lg)) (.tmp 34) = .bool true by kernel_rfl) ?_; show Gets _ _ (codeAt [1, 1, 1, 1, 0, 1, 0] B) _ _
  rw [C1_1_1_1_0_1_0]; refine Gets.seq ?_
  refine Gets.ofN fitCrowd grp_sound (conT_agree _ _) 12 40 (by kernel_rfl) (x := .normal) (s' := (vS13 bb lg)) (vR12 pre bb lg) ?_
  show Gets _ _ (codeAt [1, 1, 1, 1, 0, 1, 0, 1] B) _ _
  rw [C1_1_1_1_0_1_0_1]; refine Gets.seq ?_
  refine Gets.ofN fitCrowd grp_sound (conT_agree _ _) 12 40 (by kernel_rfl) (x := .normal) (s' := (vS13 bb lg)) (vR13 bb lg) ?_
  show Gets _ _ (codeAt [1, 1, 1, 1, 0, 1, 0, 1, 1] B) _ _
  rw [C1_1_1_1_0_1_0_1_1]; refine Gets.seq ?_
  refine Gets.ofN fitCrowd grp_sound (conT_agree _ _) 12 40 (by kernel_rfl) (x := .normal) (s' := vS14) (vR14 bb lg) ?_
  show Gets _ _ (codeAt [1, 1, 1, 1, 0, 1, 0, 1, 1, 1] B) _ _
  rw [C1_1_1_1_0_1_0_1_1_1]; refine Gets.seq ?_
  refine Gets.ofN fitCrowd grp_sound (conT_agree _ _) 12 40 (by kernel_rfl) (x := .normal) (s' := vS15) (vR15) ?_
  show Gets _ _ (codeAt [1, 1, 1, 1, 0, 1, 0, 1, 1, 1, 1] B) _ _
  rw [C1_1_1_1_0_1_0_1_1_1_1]; refine Gets.ev fitCrowd.mix fitCrowd.cfg (fitCrowd.sound grp_sound 12 0) 12 rfl (s' := KSt.low vS15) (x := .ret) rfl ?_
  exact hq
noncomputable def vS16 (pre : Nat) (lg : Int) (bb : Int) : KSt := ⟨(frameL 128 [(2, (.slice (some ⟨0, pre, none⟩) 0 0)), (3, (.pointer (some ⟨1, 0, none⟩))), (7, (.pointer (some ⟨2, 0, none⟩))), (34, (.bool (!(decide ((groupsV lg) > 0)))))]), ⟨3, 1, [(2, 0, .cells [(.int .u64 bb), (.int .i64 lg), (.bool (decide ((groupsV lg) > 0))), (.int .i64 0), (.int .u64 0), (.int .u64 0), (.int .u64 0), (.int .u64 0)] 81 true), (1, 0, .cells [(.int .u64 bb), (.int .i64 lg)] 39 true)]⟩⟩
noncomputable def vS17 (pre : Nat) (bb : Int) (lg : Int) : KSt := ⟨(frameL 128 [(2, (.slice (some ⟨0, pre, none⟩) 0 0)), (3, (.pointer (some ⟨1, 0, none⟩))), (7, (.pointer (some ⟨2, 0, none⟩))), (34, (.bool true))]), ⟨3, 1, [(2, 0, .cells [(.int .u64 bb), (.int .i64 lg), (.bool (decide ((groupsV lg) > 0))), (.int .i64 0), (.int .u64 0), (.int .u64 0), (.int .u64 0), (.int .u64 0)] 81 true), (1, 0, .cells [(.int .u64 bb), (.int .i64 lg)] 39 true)]⟩⟩
theorem vR16 (pre : Nat) (bb : Int) (lg : Int) : evCK Try.prog cfgA (runK Try.prog cfgA fsCrowd (conT grpDom grpE) 12 40) 12 (codeAt [1, 1, 1, 1, 0, 0] B) (vS10 pre bb lg) (normC 1 [2, 3, 7, 34]) =
  bif (decide (bb > 0)) then
    some (.normal, (vS16 pre lg bb))
  else
    some (.normal, (vS17 pre bb lg)) := by kernel_rfl
noncomputable def vS18 (bb : Int) (lg : Int) : KSt := ⟨(frameL 128 [(7, (.pointer (some ⟨1, 0, none⟩))), (9, (.bool false))]), ⟨2, 1, [(1, 0, .cells [(.int .u64 bb), (.int .i64 lg), (.bool (decide ((groupsV lg) > 0))), (.int .i64 0), (.int .u64 0), (.int .u64 0), (.int .u64 0), (.int .u64 0)] 81 true)]⟩⟩
noncomputable def vS19 (bb : Int) (lg : Int) : KSt := ⟨(frameL 128 [(7, (.pointer (some ⟨1, 0, none⟩))), (9, (.bool true))]), ⟨2, 1, [(1, 0, .cells [(.int .u64 bb), (.int .i64 lg), (.bool (decide ((groupsV lg) > 0))), (.int .i64 0), (.int .u64 0), (.int .u64 0), (.int .u64 0), (.int .u64 0)] 81 true)]⟩⟩
theorem vR17 (pre : Nat) (lg : Int) (bb : Int) : evCK Try.prog cfgA (runK Try.prog cfgA fsCrowd (conT grpDom grpE) 12 40) 12 (codeAt [1, 1, 1, 1, 0, 1, 0, 0] B) (vS16 pre lg bb) (normC 1 [7, 9]) =
  bif (!(decide ((groupsV lg) > 0))) then
    some (.normal, (vS18 bb lg))
  else
    some (.normal, (vS19 bb lg)) := by kernel_rfl
theorem vb1f (bb lg th : Int) (pre : Nat)  (q1 : (decide (bb > 0)) = true) (q2 : (decide ((groupsV lg) > 0)) = false) {Q : Ex → St → Prop} (hq : Q .ret (KSt.low vS15)) : Gets Try.prog (KH.low ⟨1, 1, []⟩) (codeAt [1, 1, 1, 1] B) (KSt.low (vS10 pre bb lg)) Q := by
  rw [C1_1_1_1]; refine Gets.seq ?_
  rw [C1_1_1_1_0]; refine Gets.seq ?_
  refine Gets.ofN fitCrowd grp_sound (conT_agree _ _) 12 40 (by kernel_rfl) (x := .normal) (s' := (vS16 pre lg bb)) ((vR16 pre bb lg).trans (by rw [condT (q1)])) ?_
  show Gets _ _ (codeAt [1, 1, 1, 1, 0, 1] B) _ _
  rw [C1_1_1_1_0_1]; refine Gets.cond true (by kernel_rfl) ((show evalX (KSt.ts (vS16 pre lg bb)) (.tmp 34) = .bool (!(decide ((groupsV lg) > 0))) by kernel_rfl).trans (by rw [(show (!(decide ((groupsV lg) > 0))) = true from not_t (q2))])) ?_; show Gets _ _ (codeAt [1, 1, 1, 1, 0, 1, 0] B) _ _
  rw [C1_1_1_1_0_1_0]; refine Gets.seq ?_
  refine Gets.ofN fitCrowd grp_sound (conT_agree _ _) 12 40 (by kernel_rfl) (x := .normal) (s' := (vS13 bb lg)) ((vR17 pre lg bb).trans (by rw [condT (not_t (q2))] <;> (show some (Ex.normal, (vS18 bb lg)) = some (Ex.normal, (vS13 bb lg)); unfold vS18 vS13; rw [(show (decide ((groupsV lg) > 0)) = false from q2)]))) ?_
  show Gets _ _ (codeAt [1, 1, 1, 1, 0, 1, 0, 1] B) _ _
  rw [C1_1_1_1_0_1_0_1]; refine Gets.seq ?_
  refine Gets.ofN fitCrowd grp_sound (conT_agree _ _) 12 40 (by kernel_rfl) (x := .normal) (s' := (vS13 bb lg)) (vR13 bb lg) ?_
  show Gets _ _ (codeAt [1, 1, 1, 1, 0, 1, 0, 1, 1] B) _ _
  rw [C1_1_1_1_0_1_0_1_1]; refine Gets.seq ?_
  refine Gets.ofN fitCrowd grp_sound (conT_agree _ _) 12 40 (by kernel_rfl) (x := .normal) (s' := vS14) (vR14 bb lg) ?_
  show Gets _ _ (codeAt [1, 1, 1, 1, 0, 1, 0, 1, 1, 1] B) _ _
  rw [C1_1_1_1_0_1_0_1_1_1]; refine Gets.seq ?_
  refine Gets.ofN fitCrowd grp_sound (conT_agree _ _) 12 40 (by kernel_rfl) (x := .normal) (s' := vS15) (vR15) ?_
  show Gets _ _ (codeAt [1, 1, 1, 1, 0, 1, 0, 1, 1, 1, 1] B) _ _
  rw [C1_1_1_1_0_1_0_1_1_1_1]; refine Gets.ev fitCrowd.mix fitCrowd.cfg (fitCrowd.sound grp_sound 12 0) 12 rfl (s' := KSt.low vS15) (x := .ret) rfl ?_
  exact hq
theorem vR18 (pre : Nat) (lg : Int) (bb : Int) : evCK Try.prog cfgA (runK Try.prog cfgA fsCrowd (conT grpDom grpE) 12 40) 12 (codeAt [1, 1, 1, 1, 0, 1, 1] B) (vS16 pre lg bb) (normC 1 [2, 3, 7]) =
  some (.normal, (vS10 pre bb lg)) := by kernel_rfl
noncomputable def vS20 (pre : Nat) (bb : Int) (lg : Int) : KSt := ⟨(frameL 128 [(2, (.slice (some ⟨0, pre, none⟩) 0 0)), (3, (.pointer (some ⟨1, 0, none⟩))), (7, (.pointer (some ⟨2, 0, none⟩)))]), ⟨3, 1, [(2, 0, .cells [(.int .u64 bb), (.int .i64 lg), (.bool true), (.int .i64 0), (.int .u64 0), (.int .u64 0), (.int .u64 0), (.int .u64 0)] 81 true), (1, 0, .cells [(.int .u64 bb), (.int .i64 lg)] 39 true)]⟩⟩
noncomputable def vS21 (pre : Nat) (bb : Int) (lg : Int) : KSt := ⟨(frameL 128 [(2, (.slice (some ⟨0, pre, none⟩) 0 0)), (3, (.pointer (some ⟨1, 0, none⟩))), (7, (.pointer (some ⟨2, 0, none⟩))), (12, (.int .i64 0))]), ⟨3, 1, [(2, 0, .cells [(.int .u64 bb), (.int .i64 lg), (.bool true), (.int .i64 0), (.int .u64 0), (.int .u64 0), (.int .u64 0), (.int .u64 0)] 81 true), (1, 0, .cells [(.int .u64 bb), (.int .i64 lg)] 39 true)]⟩⟩
theorem vR19 (pre : Nat) (bb : Int) (lg : Int) : evCK Try.prog cfgA (runK Try.prog cfgA fsCrowd (conT grpDom grpE) 12 40) 12 (codeAt [1, 1, 1, 1, 1, 0, 0] B) (vS20 pre bb lg) (normC 1 [2, 3, 7, 12]) =
  some (.normal, (vS21 pre bb lg)) := by kernel_rfl
noncomputable def vS22  : KSt := ⟨(frameL 128 []), ⟨1, 1, []⟩⟩
theorem vR20 (pre : Nat) (bb : Int) (lg : Int) : evCK Try.prog cfgA (runK Try.prog cfgA fsCrowd (conT grpDom grpE) 12 40) 12 (codeAt [1, 1, 1, 1, 1, 0, 1] B) (vS21 pre bb lg) (normC 1 []) =
  bif (!(true && ((bb == bb) && true))) then
    some (.ret, vS22)
  else
    some (.normal, vS22) := by kernel_rfl
theorem vR21  : evCK Try.prog cfgA (runK Try.prog cfgA fsCrowd (conT grpDom grpE) 12 40) 12 (codeAt [1, 1, 1, 1, 1, 1, 0] B) vS22 (normC 1 [6]) =
  some (.normal, vS15) := by kernel_rfl
theorem vb1 (bb lg th : Int) (pre : Nat)  (q1 : (decide (bb > 0)) = true) (q2 : (decide ((groupsV lg) > 0)) = true) {Q : Ex → St → Prop} (hq : Q .ret (KSt.low vS15)) : Gets Try.prog (KH.low ⟨1, 1, []⟩) (codeAt [1, 1, 1, 1] B) (KSt.low (vS10 pre bb lg)) Q := by
  rw [C1_1_1_1]; refine Gets.seq ?_
  rw [C1_1_1_1_0]; refine Gets.seq ?_
  refine Gets.ofN fitCrowd grp_sound (conT_agree _ _) 12 40 (by kernel_rfl) (x := .normal) (s' := (vS16 pre lg bb)) ((vR16 pre bb lg).trans (by rw [condT (q1)])) ?_
  show Gets _ _ (codeAt [1, 1, 1, 1, 0, 1] B) _ _
  rw [C1_1_1_1_0_1]; refine Gets.cond false (by kernel_rfl) ((show evalX (KSt.ts (vS16 pre lg bb)) (.tmp 34) = .bool (!(decide ((groupsV lg) > 0))) by kernel_rfl).trans (by rw [(show (!(decide ((groupsV lg) > 0))) = false from not_f (q2))])) ?_; show Gets _ _ (codeAt [1, 1, 1, 1, 0, 1, 1] B) _ _
  refine Gets.ofN fitCrowd grp_sound (conT_agree _ _) 12 40 (by kernel_rfl) (x := .normal) (s' := (vS20 pre bb lg)) ((vR18 pre lg bb).trans (by (show some (Ex.normal, (vS10 pre bb lg)) = some (Ex.normal, (vS20 pre bb lg)); unfold vS10 vS20; rw [(show (decide ((groupsV lg) > 0)) = true from q2)]))) ?_
  show Gets _ _ (codeAt [1, 1, 1, 1, 1] B) _ _
  rw [C1_1_1_1_1]; refine Gets.seq ?_
  rw [C1_1_1_1_1_0]; refine Gets.seq ?_
  refine Gets.ofN fitCrowd grp_sound (conT_agree _ _) 12 40 (by kernel_rfl) (x := .normal) (s' := (vS21 pre bb lg)) (vR19 pre bb lg) ?_
  show Gets _ _ (codeAt [1, 1, 1, 1, 1, 0, 1] B) _ _
  refine Gets.ofN fitCrowd grp_sound (conT_agree _ _) 12 40 (by kernel_rfl) (x := .normal) (s' := vS22) ((vR20 pre bb lg).trans (by rw [condF (not_f (and_t (rfl) (and_t (beq_self_eq_true _) (rfl))))])) ?_
  show Gets _ _ (codeAt [1, 1, 1, 1, 1, 1] B) _ _
  rw [C1_1_1_1_1_1]; refine Gets.seq ?_
  refine Gets.ofN fitCrowd grp_sound (conT_agree _ _) 12 40 (by kernel_rfl) (x := .normal) (s' := vS15) (vR21) ?_
  show Gets _ _ (codeAt [1, 1, 1, 1, 1, 1, 1] B) _ _
  rw [C1_1_1_1_1_1_1]; refine Gets.ev fitCrowd.mix fitCrowd.cfg (fitCrowd.sound grp_sound 12 0) 12 rfl (s' := KSt.low vS15) (x := .ret) rfl ?_
  exact hq
theorem C1_1_1_1_1_0_1 : (codeAt [1, 1, 1, 1, 1, 0, 1] B) = .block 0 (codeAt [1, 1, 1, 1, 1, 0, 1, 0] B) := by kernel_rfl
theorem C1_1_1_1_1_0_1_0 : (codeAt [1, 1, 1, 1, 1, 0, 1, 0] B) = .loop (codeAt [1, 1, 1, 1, 1, 0, 1, 0, 0] B) := by kernel_rfl
end Go.Proofs.Ytmphcolclkpnnaa.crowdActs
