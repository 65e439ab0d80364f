/- CrowdCounts: roads. -/
import Derived.Test.YtpnidhkghiiipaaFit
import Derived.WalkKit
import Derived.ProofKit
import Derived.OpenShut
import Derived.ChangeOld
import Derived.Below
import Derived.SizedLaws
namespace Go.Proofs.Ytpnidhkghiiipaa.crowdCounts
open Go.Eng
open Go.ChangeShapes Go.WideShapes Go.ChangeAt Go.RowKit
set_option linter.unusedVariables false
set_option linter.unusedSimpArgs false
set_option maxRecDepth 100000
noncomputable def cfgC : Cfg := ⟨[39]⟩
noncomputable def fsC : List FuncId := [3, 4, 5, 6, 7, 8, 9, 10, 11, 12, 13, 14, 15, 16, 17, 18, 19, 20, 21, 22, 25, 27, 28, 29, 30]
theorem fitC : Fit Try.prog cfgC fsC := ⟨by kernel_rfl, Cfg.ok_of (by kernel_rfl), by kernel_rfl⟩
theorem sum_dec {c0 c1 c2 c3 i t : Int} (hs : c0 + c1 + c2 + c3 = i) (p0 : 0 ≤ c0) (p1 : 0 ≤ c1) (p2 : 0 ≤ c2) (p3 : 0 ≤ c3) (hi : i ≤ 80) :
    (decide ((IntKind.wrap .u64 ((IntKind.wrap .u64 ((IntKind.wrap .u64 ((IntKind.wrap .u64 (0 + c0)) + c1)) + c2)) + c3)) ≥ t) == decide (i ≥ t)) = true := by
  rw [wrap_u64_id (n := 0 + c0) (by omega) (by omega), wrap_u64_id (n := 0 + c0 + c1) (by omega) (by omega), wrap_u64_id (n := 0 + c0 + c1 + c2) (by omega) (by omega), wrap_u64_id (by omega) (by omega), show 0 + c0 + c1 + c2 + c3 = i by omega]
  exact beq_self_eq_true _
noncomputable def B : Code := bodyOf Try.prog 3
theorem B_is : Try.f3.body = some B := by kernel_rfl
theorem B_ok : okCode Try.prog.globals.size B = true := by kernel_rfl
noncomputable def S0 (lg : Int) (pre : Nat) (n : Nat) (c : Nat) (l : List Int) (e : TypeId) : KSt := (firstK [(.int .u8 lg), (.slice (some ⟨0, pre, none⟩) n c)] 86 ⟨1, 1, [(0, 0, .tail pre .u8 l e)]⟩)
theorem C : B = .seq (codeAt [0] B) (codeAt [1] B) := by kernel_rfl
noncomputable def S1 (lg : Int) (pre : Nat) (n : Nat) (c : Nat) (l : List Int) (e : TypeId) : KSt := ⟨(frameL 86 [(0, (.int .u8 lg)), (1, (.slice (some ⟨0, pre, none⟩) n c))]), ⟨1, 1, [(0, 0, .tail pre .u8 l e)]⟩⟩
theorem R1 (lg : Int) (pre : Nat) (n : Nat) (c : Nat) (l : List Int) (e : TypeId) : evCK Try.prog cfgC (runK Try.prog cfgC fsC noT 16 40) 16 (codeAt [0] B) (S0 lg pre n c l e) (normC 1 [0, 1]) =
  some (.normal, (S1 lg pre n c l e)) := by kernel_rfl
theorem C1 : (codeAt [1] B) = .seq (codeAt [1, 0] B) (codeAt [1, 1] B) := by kernel_rfl
noncomputable def S2 (pre : Nat) (n : Nat) (c : Nat) (lg : Int) (l : List Int) (e : TypeId) : KSt := ⟨(frameL 86 [(1, (.slice (some ⟨0, pre, none⟩) n c)), (5, (.int .i64 (Int.tmod (IntKind.wrap .i64 lg) 4)))]), ⟨1, 1, [(0, 0, .tail pre .u8 l e)]⟩⟩
theorem R2 (lg : Int) (pre : Nat) (n : Nat) (c : Nat) (l : List Int) (e : TypeId) : evCK Try.prog cfgC (runK Try.prog cfgC fsC noT 16 40) 16 (codeAt [1, 0] B) (S1 lg pre n c l e) (normC 1 [1, 5]) =
  some (.normal, (S2 pre n c lg l e)) := by kernel_rfl
noncomputable def S3 (pre : Nat) (n : Nat) (c : Nat) (l : List Int) (e : TypeId) : KSt := ⟨(frameL 86 [(1, (.slice (some ⟨0, pre, none⟩) n c)), (5, (.int .i64 0))]), ⟨1, 1, [(0, 0, .tail pre .u8 l e)]⟩⟩
theorem C1_1 : (codeAt [1, 1] B) = .seq (codeAt [1, 1, 0] B) (codeAt [1, 1, 1] B) := by kernel_rfl
theorem C1_1_0 : (codeAt [1, 1, 0] B) = .seq (codeAt [1, 1, 0, 0] B) (codeAt [1, 1, 0, 1] B) := by kernel_rfl
noncomputable def S4 (pre : Nat) (n : Nat) (c : Nat) (l : List Int) (e : TypeId) : KSt := ⟨(frameL 86 [(1, (.slice (some ⟨0, pre, none⟩) n c)), (5, (.int .i64 0)), (19, (.bool (decide (((n : Nat) : Int) > 80))))]), ⟨1, 1, [(0, 0, .tail pre .u8 l e)]⟩⟩
theorem R3 (pre : Nat) (n : Nat) (c : Nat) (l : List Int) (e : TypeId) : evCK Try.prog cfgC (runK Try.prog cfgC fsC noT 16 40) 16 (codeAt [1, 1, 0, 0] B) (S3 pre n c l e) (normC 1 [1, 5, 19]) =
  some (.normal, (S4 pre n c l e)) := by kernel_rfl
theorem C1_1_0_1 : (codeAt [1, 1, 0, 1] B) = .cond (.tmp 19) (codeAt [1, 1, 0, 1, 0] B) (codeAt [1, 1, 0, 1, 1] B) := by kernel_rfl
theorem R4 (pre : Nat) (n : Nat) (c : Nat) (l : List Int) (e : TypeId) : evCK Try.prog cfgC (runK Try.prog cfgC fsC noT 16 40) 16 (codeAt [1, 1, 0, 1, 1] B) (S4 pre n c l e) (normC 1 [1, 5]) =
  some (.normal, (S3 pre n c l e)) := by kernel_rfl
theorem C1_1_1 : (codeAt [1, 1, 1] B) = .seq (codeAt [1, 1, 1, 0] B) (codeAt [1, 1, 1, 1] B) := by kernel_rfl
noncomputable def S5 (pre : Nat) (n : Nat) (c : Nat) (l : List Int) (e : TypeId) : KSt := ⟨(frameL 86 [(1, (.slice (some ⟨0, pre, none⟩) n c)), (5, (.int .i64 0)), (6, (.pointer (some ⟨1, 0, none⟩)))]), ⟨3, 1, [(2, 0, .map [] 0), (1, 0, .cells [(.int .i64 200), (.int .i64 0), (.int .i64 0), (.int .u64 0), (.map (some 2))] 48 true), (0, 0, .tail pre .u8 l e)]⟩⟩
theorem R5 (pre : Nat) (n : Nat) (c : Nat) (l : List Int) (e : TypeId) : evCK Try.prog cfgC (runK Try.prog cfgC fsC noT 16 40) 16 (codeAt [1, 1, 1, 0] B) (S3 pre n c l e) (normC 1 [1, 5, 6]) =
  some (.normal, (S5 pre n c l e)) := by kernel_rfl
theorem C1_1_1_1 : (codeAt [1, 1, 1, 1] B) = .seq (codeAt [1, 1, 1, 1, 0] B) (codeAt [1, 1, 1, 1, 1] B) := by kernel_rfl
noncomputable def S6 (pre : Nat) (n : Nat) (c : Nat) (l : List Int) (e : TypeId) : KSt := ⟨(frameL 86 [(1, (.slice (some ⟨0, pre, none⟩) n c)), (5, (.int .i64 0)), (6, (.pointer (some ⟨1, 0, none⟩))), (7, (.pointer (some ⟨2, 0, none⟩)))]), ⟨5, 1, [(4, 0, .ints .u64 ((List.replicate 16 0)) 26 true), (3, 0, .map [((.int .u64 1), (.slice (some ⟨4, 0, none⟩) 16 16), 0)] 1), (2, 0, .cells [(.int .u64 1), (.int .i64 0)] 30 true), (1, 0, .cells [(.int .i64 200), (.int .i64 16), (.int .i64 0), (.int .u64 1), (.map (some 3))] 48 true), (0, 0, .tail pre .u8 l e)]⟩⟩
theorem R6 (pre : Nat) (n : Nat) (c : Nat) (l : List Int) (e : TypeId) : evCK Try.prog cfgC (runK Try.prog cfgC fsC noT 16 40) 16 (codeAt [1, 1, 1, 1, 0] B) (S5 pre n c l e) (normC 1 [1, 5, 6, 7]) =
  some (.normal, (S6 pre n c l e)) := by kernel_rfl
theorem C1_1_1_1_1 : (codeAt [1, 1, 1, 1, 1] B) = .seq (codeAt [1, 1, 1, 1, 1, 0] B) (codeAt [1, 1, 1, 1, 1, 1] B) := by kernel_rfl
theorem C1_1_1_1_1_0 : (codeAt [1, 1, 1, 1, 1, 0] B) = .seq (codeAt [1, 1, 1, 1, 1, 0, 0] B) (codeAt [1, 1, 1, 1, 1, 0, 1] B) := by kernel_rfl
noncomputable def S7 (pre : Nat) (n : Nat) (c : Nat) (l : List Int) (e : TypeId) : KSt := ⟨(frameL 86 [(1, (.slice (some ⟨0, pre, none⟩) n c)), (5, (.int .i64 0)), (6, (.pointer (some ⟨1, 0, none⟩))), (7, (.pointer (some ⟨2, 0, none⟩))), (8, (.int .i64 0))]), ⟨5, 1, [(4, 0, .ints .u64 ((List.replicate 16 0)) 26 true), (3, 0, .map [((.int .u64 1), (.slice (some ⟨4, 0, none⟩) 16 16), 0)] 1), (2, 0, .cells [(.int .u64 1), (.int .i64 0)] 30 true), (1, 0, .cells [(.int .i64 200), (.int .i64 16), (.int .i64 0), (.int .u64 1), (.map (some 3))] 48 true), (0, 0, .tail pre .u8 l e)]⟩⟩
theorem R7 (pre : Nat) (n : Nat) (c : Nat) (l : List Int) (e : TypeId) : evCK Try.prog cfgC (runK Try.prog cfgC fsC noT 16 40) 16 (codeAt [1, 1, 1, 1, 1, 0, 0] B) (S6 pre n c l e) (normC 1 [1, 5, 6, 7, 8]) =
  some (.normal, (S7 pre n c l e)) := by kernel_rfl
theorem pre0 (lg i c0 c1 c2 c3 y : Int) (pre n c : Nat) (l L : List Int) (e : TypeId) (hn80 : n ≤ 80) (hk : (Int.tmod (IntKind.wrap .i64 lg) 4) = 0)   {Q : Ex → St → Prop} (hq : Gets Try.prog (KH.low ⟨1, 1, [(0, 0, .tail pre .u8 l e)]⟩) (codeAt [1, 1, 1, 1, 1, 0, 1] B) (KSt.low (S7 pre n c l e)) (onN (fun s => Gets Try.prog (KH.low ⟨1, 1, [(0, 0, .tail pre .u8 l e)]⟩) (codeAt [1, 1, 1, 1, 1, 1] B) s (Q)) (Q))) : Gets Try.prog (KH.low ⟨1, 1, [(0, 0, .tail pre .u8 l e)]⟩) B (KSt.low (S0 lg pre n c l e)) Q := by
  rw [C]; refine Gets.seq ?_
  refine Gets.ofN fitC SoundC.no AgreeT.no 16 40 (by kernel_rfl) (x := .normal) (s' := (S1 lg pre n c l e)) (R1 lg pre n c l e) ?_
  show Gets _ _ (codeAt [1] B) _ _
  rw [C1]; refine Gets.seq ?_
  refine Gets.ofN fitC SoundC.no AgreeT.no 16 40 (by kernel_rfl) (x := .normal) (s' := (S3 pre n c l e)) ((R2 lg pre n c l e).trans (by (show some (Ex.normal, (S2 pre n c lg l e)) = some (Ex.normal, (S3 pre n c l e)); unfold S2 S3; rw [(show (Int.tmod (IntKind.wrap .i64 lg) 4) = 0 from hk)]))) ?_
  show Gets _ _ (codeAt [1, 1] B) _ _
  rw [C1_1]; refine Gets.seq ?_
  rw [C1_1_0]; refine Gets.seq ?_
  refine Gets.ofN fitC SoundC.no AgreeT.no 16 40 (by kernel_rfl) (x := .normal) (s' := (S4 pre n c l e)) (R3 pre n c l e) ?_
  show Gets _ _ (codeAt [1, 1, 0, 1] B) _ _
  rw [C1_1_0_1]; refine Gets.cond false (by kernel_rfl) ((show evalX (KSt.ts (S4 pre n c l e)) (.tmp 19) = .bool (decide (((n : Nat) : Int) > 80)) by kernel_rfl).trans (by rw [(show (decide (((n : Nat) : Int) > 80)) = false from decide_eq_false (by ((try simp (disch := omega) only [wrap_i64_id, wrap_u64_id, List.length_set, List.length_replicate]) <;> omega)))])) ?_; show Gets _ _ (codeAt [1, 1, 0, 1, 1] B) _ _
  refine Gets.ofN fitC SoundC.no AgreeT.no 16 40 (by kernel_rfl) (x := .normal) (s' := (S3 pre n c l e)) (R4 pre n c l e) ?_
  show Gets _ _ (codeAt [1, 1, 1] B) _ _
  rw [C1_1_1]; refine Gets.seq ?_
  refine Gets.ofN fitC SoundC.no AgreeT.no 16 40 (by kernel_rfl) (x := .normal) (s' := (S5 pre n c l e)) (R5 pre n c l e) ?_
  show Gets _ _ (codeAt [1, 1, 1, 1] B) _ _
  rw [C1_1_1_1]; refine Gets.seq ?_
  refine Gets.ofN fitC SoundC.no AgreeT.no 16 40 (by kernel_rfl) (x := .normal) (s' := (S6 pre n c l e)) (R6 pre n c l e) ?_
  show Gets _ _ (codeAt [1, 1, 1, 1, 1] B) _ _
  rw [C1_1_1_1_1]; refine Gets.seq ?_
  rw [C1_1_1_1_1_0]; refine Gets.seq ?_
  refine Gets.ofN fitC SoundC.no AgreeT.no 16 40 (by kernel_rfl) (x := .normal) (s' := (S7 pre n c l e)) (R7 pre n c l e) ?_
  show Gets _ _ (codeAt [1, 1, 1, 1, 1, 0, 1] B) _ _
  exact hq
noncomputable def S8 (pre : Nat) (n : Nat) (c : Nat) (l : List Int) (e : TypeId) : KSt := ⟨(frameL 86 [(1, (.slice (some ⟨0, pre, none⟩) n c)), (5, (.int .i64 1))]), ⟨1, 1, [(0, 0, .tail pre .u8 l e)]⟩⟩
noncomputable def S9 (pre : Nat) (n : Nat) (c : Nat) (l : List Int) (e : TypeId) : KSt := ⟨(frameL 86 [(1, (.slice (some ⟨0, pre, none⟩) n c)), (5, (.int .i64 1)), (19, (.bool (decide (((n : Nat) : Int) > 80))))]), ⟨1, 1, [(0, 0, .tail pre .u8 l e)]⟩⟩
theorem R8 (pre : Nat) (n : Nat) (c : Nat) (l : List Int) (e : TypeId) : evCK Try.prog cfgC (runK Try.prog cfgC fsC noT 16 40) 16 (codeAt [1, 1, 0, 0] B) (S8 pre n c l e) (normC 1 [1, 5, 19]) =
  some (.normal, (S9 pre n c l e)) := by kernel_rfl
theorem R9 (pre : Nat) (n : Nat) (c : Nat) (l : List Int) (e : TypeId) : evCK Try.prog cfgC (runK Try.prog cfgC fsC noT 16 40) 16 (codeAt [1, 1, 0, 1, 1] B) (S9 pre n c l e) (normC 1 [1, 5]) =
  some (.normal, (S8 pre n c l e)) := by kernel_rfl
noncomputable def S10 (pre : Nat) (n : Nat) (c : Nat) (l : List Int) (e : TypeId) : KSt := ⟨(frameL 86 [(1, (.slice (some ⟨0, pre, none⟩) n c)), (5, (.int .i64 1)), (6, (.pointer (some ⟨1, 0, none⟩)))]), ⟨3, 1, [(2, 0, .map [] 0), (1, 0, .cells [(.int .i64 200), (.int .i64 0), (.int .i64 0), (.int .u64 0), (.map (some 2))] 48 true), (0, 0, .tail pre .u8 l e)]⟩⟩
theorem R10 (pre : Nat) (n : Nat) (c : Nat) (l : List Int) (e : TypeId) : evCK Try.prog cfgC (runK Try.prog cfgC fsC noT 16 40) 16 (codeAt [1, 1, 1, 0] B) (S8 pre n c l e) (normC 1 [1, 5, 6]) =
  some (.normal, (S10 pre n c l e)) := by kernel_rfl
noncomputable def S11 (pre : Nat) (n : Nat) (c : Nat) (l : List Int) (e : TypeId) : KSt := ⟨(frameL 86 [(1, (.slice (some ⟨0, pre, none⟩) n c)), (5, (.int .i64 1)), (6, (.pointer (some ⟨1, 0, none⟩))), (7, (.pointer (some ⟨2, 0, none⟩)))]), ⟨5, 1, [(4, 0, .ints .u64 ((List.replicate 25 0)) 26 true), (3, 0, .map [((.int .u64 1), (.slice (some ⟨4, 0, none⟩) 25 25), 0)] 1), (2, 0, .cells [(.int .u64 1), (.int .i64 1)] 30 true), (1, 0, .cells [(.int .i64 200), (.int .i64 25), (.int .i64 0), (.int .u64 1), (.map (some 3))] 48 true), (0, 0, .tail pre .u8 l e)]⟩⟩
theorem R11 (pre : Nat) (n : Nat) (c : Nat) (l : List Int) (e : TypeId) : evCK Try.prog cfgC (runK Try.prog cfgC fsC noT 16 40) 16 (codeAt [1, 1, 1, 1, 0] B) (S10 pre n c l e) (normC 1 [1, 5, 6, 7]) =
  some (.normal, (S11 pre n c l e)) := by kernel_rfl
noncomputable def S12 (pre : Nat) (n : Nat) (c : Nat) (l : List Int) (e : TypeId) : KSt := ⟨(frameL 86 [(1, (.slice (some ⟨0, pre, none⟩) n c)), (5, (.int .i64 1)), (6, (.pointer (some ⟨1, 0, none⟩))), (7, (.pointer (some ⟨2, 0, none⟩))), (8, (.int .i64 0))]), ⟨5, 1, [(4, 0, .ints .u64 ((List.replicate 25 0)) 26 true), (3, 0, .map [((.int .u64 1), (.slice (some ⟨4, 0, none⟩) 25 25), 0)] 1), (2, 0, .cells [(.int .u64 1), (.int .i64 1)] 30 true), (1, 0, .cells [(.int .i64 200), (.int .i64 25), (.int .i64 0), (.int .u64 1), (.map (some 3))] 48 true), (0, 0, .tail pre .u8 l e)]⟩⟩
theorem R12 (pre : Nat) (n : Nat) (c : Nat) (l : List Int) (e : TypeId) : evCK Try.prog cfgC (runK Try.prog cfgC fsC noT 16 40) 16 (codeAt [1, 1, 1, 1, 1, 0, 0] B) (S11 pre n c l e) (normC 1 [1, 5, 6, 7, 8]) =
  some (.normal, (S12 pre n c l e)) := by kernel_rfl
theorem pre1 (lg i c0 c1 c2 c3 y : Int) (pre n c : Nat) (l L : List Int) (e : TypeId) (hn80 : n ≤ 80) (hk : (Int.tmod (IntKind.wrap .i64 lg) 4) = 1)   {Q : Ex → St → Prop} (hq : Gets Try.prog (KH.low ⟨1, 1, [(0, 0, .tail pre .u8 l e)]⟩) (codeAt [1, 1, 1, 1, 1, 0, 1] B) (KSt.low (S12 pre n c l e)) (onN (fun s => Gets Try.prog (KH.low ⟨1, 1, [(0, 0, .tail pre .u8 l e)]⟩) (codeAt [1, 1, 1, 1, 1, 1] B) s (Q)) (Q))) : Gets Try.prog (KH.low ⟨1, 1, [(0, 0, .tail pre .u8 l e)]⟩) B (KSt.low (S0 lg pre n c l e)) Q := by
  rw [C]; refine Gets.seq ?_
  refine Gets.ofN fitC SoundC.no AgreeT.no 16 40 (by kernel_rfl) (x := .normal) (s' := (S1 lg pre n c l e)) (R1 lg pre n c l e) ?_
  show Gets _ _ (codeAt [1] B) _ _
  rw [C1]; refine Gets.seq ?_
  refine Gets.ofN fitC SoundC.no AgreeT.no 16 40 (by kernel_rfl) (x := .normal) (s' := (S8 pre n c l e)) ((R2 lg pre n c l e).trans (by (show some (Ex.normal, (S2 pre n c lg l e)) = some (Ex.normal, (S8 pre n c l e)); unfold S2 S8; rw [(show (Int.tmod (IntKind.wrap .i64 lg) 4) = 1 from hk)]))) ?_
  show Gets _ _ (codeAt [1, 1] B) _ _
  rw [C1_1]; refine Gets.seq ?_
  rw [C1_1_0]; refine Gets.seq ?_
  refine Gets.ofN fitC SoundC.no AgreeT.no 16 40 (by kernel_rfl) (x := .normal) (s' := (S9 pre n c l e)) (R8 pre n c l e) ?_
  show Gets _ _ (codeAt [1, 1, 0, 1] B) _ _
  rw [C1_1_0_1]; refine Gets.cond false (by kernel_rfl) ((show evalX (KSt.ts (S9 pre n c l e)) (.tmp 19) = .bool (decide (((n : Nat) : Int) > 80)) by kernel_rfl).trans (by rw [(show (decide (((n : Nat) : Int) > 80)) = false from decide_eq_false (by ((try simp (disch := omega) only [wrap_i64_id, wrap_u64_id, List.length_set, List.length_replicate]) <;> omega)))])) ?_; show Gets _ _ (codeAt [1, 1, 0, 1, 1] B) _ _
  refine Gets.ofN fitC SoundC.no AgreeT.no 16 40 (by kernel_rfl) (x := .normal) (s' := (S8 pre n c l e)) (R9 pre n c l e) ?_
  show Gets _ _ (codeAt [1, 1, 1] B) _ _
  rw [C1_1_1]; refine Gets.seq ?_
  refine Gets.ofN fitC SoundC.no AgreeT.no 16 40 (by kernel_rfl) (x := .normal) (s' := (S10 pre n c l e)) (R10 pre n c l e) ?_
  show Gets _ _ (codeAt [1, 1, 1, 1] B) _ _
  rw [C1_1_1_1]; refine Gets.seq ?_
  refine Gets.ofN fitC SoundC.no AgreeT.no 16 40 (by kernel_rfl) (x := .normal) (s' := (S11 pre n c l e)) (R11 pre n c l e) ?_
  show Gets _ _ (codeAt [1, 1, 1, 1, 1] B) _ _
  rw [C1_1_1_1_1]; refine Gets.seq ?_
  rw [C1_1_1_1_1_0]; refine Gets.seq ?_
  refine Gets.ofN fitC SoundC.no AgreeT.no 16 40 (by kernel_rfl) (x := .normal) (s' := (S12 pre n c l e)) (R12 pre n c l e) ?_
  show Gets _ _ (codeAt [1, 1, 1, 1, 1, 0, 1] B) _ _
  exact hq
noncomputable def S13 (pre : Nat) (n : Nat) (c : Nat) (l : List Int) (e : TypeId) : KSt := ⟨(frameL 86 [(1, (.slice (some ⟨0, pre, none⟩) n c)), (5, (.int .i64 2))]), ⟨1, 1, [(0, 0, .tail pre .u8 l e)]⟩⟩
noncomputable def S14 (pre : Nat) (n : Nat) (c : Nat) (l : List Int) (e : TypeId) : KSt := ⟨(frameL 86 [(1, (.slice (some ⟨0, pre, none⟩) n c)), (5, (.int .i64 2)), (19, (.bool (decide (((n : Nat) : Int) > 80))))]), ⟨1, 1, [(0, 0, .tail pre .u8 l e)]⟩⟩
theorem R13 (pre : Nat) (n : Nat) (c : Nat) (l : List Int) (e : TypeId) : evCK Try.prog cfgC (runK Try.prog cfgC fsC noT 16 40) 16 (codeAt [1, 1, 0, 0] B) (S13 pre n c l e) (normC 1 [1, 5, 19]) =
  some (.normal, (S14 pre n c l e)) := by kernel_rfl
theorem R14 (pre : Nat) (n : Nat) (c : Nat) (l : List Int) (e : TypeId) : evCK Try.prog cfgC (runK Try.prog cfgC fsC noT 16 40) 16 (codeAt [1, 1, 0, 1, 1] B) (S14 pre n c l e) (normC 1 [1, 5]) =
  some (.normal, (S13 pre n c l e)) := by kernel_rfl
noncomputable def S15 (pre : Nat) (n : Nat) (c : Nat) (l : List Int) (e : TypeId) : KSt := ⟨(frameL 86 [(1, (.slice (some ⟨0, pre, none⟩) n c)), (5, (.int .i64 2)), (6, (.pointer (some ⟨1, 0, none⟩)))]), ⟨3, 1, [(2, 0, .map [] 0), (1, 0, .cells [(.int .i64 200), (.int .i64 0), (.int .i64 0), (.int .u64 0), (.map (some 2))] 48 true), (0, 0, .tail pre .u8 l e)]⟩⟩
theorem R15 (pre : Nat) (n : Nat) (c : Nat) (l : List Int) (e : TypeId) : evCK Try.prog cfgC (runK Try.prog cfgC fsC noT 16 40) 16 (codeAt [1, 1, 1, 0] B) (S13 pre n c l e) (normC 1 [1, 5, 6]) =
  some (.normal, (S15 pre n c l e)) := by kernel_rfl
noncomputable def S16 (pre : Nat) (n : Nat) (c : Nat) (l : List Int) (e : TypeId) : KSt := ⟨(frameL 86 [(1, (.slice (some ⟨0, pre, none⟩) n c)), (5, (.int .i64 2)), (6, (.pointer (some ⟨1, 0, none⟩))), (7, (.pointer (some ⟨2, 0, none⟩)))]), ⟨5, 1, [(4, 0, .ints .u64 ((List.replicate 43 0)) 26 true), (3, 0, .map [((.int .u64 1), (.slice (some ⟨4, 0, none⟩) 43 43), 0)] 1), (2, 0, .cells [(.int .u64 1), (.int .i64 2)] 30 true), (1, 0, .cells [(.int .i64 200), (.int .i64 43), (.int .i64 0), (.int .u64 1), (.map (some 3))] 48 true), (0, 0, .tail pre .u8 l e)]⟩⟩
theorem R16 (pre : Nat) (n : Nat) (c : Nat) (l : List Int) (e : TypeId) : evCK Try.prog cfgC (runK Try.prog cfgC fsC noT 16 40) 16 (codeAt [1, 1, 1, 1, 0] B) (S15 pre n c l e) (normC 1 [1, 5, 6, 7]) =
  some (.normal, (S16 pre n c l e)) := by kernel_rfl
noncomputable def S17 (pre : Nat) (n : Nat) (c : Nat) (l : List Int) (e : TypeId) : KSt := ⟨(frameL 86 [(1, (.slice (some ⟨0, pre, none⟩) n c)), (5, (.int .i64 2)), (6, (.pointer (some ⟨1, 0, none⟩))), (7, (.pointer (some ⟨2, 0, none⟩))), (8, (.int .i64 0))]), ⟨5, 1, [(4, 0, .ints .u64 ((List.replicate 43 0)) 26 true), (3, 0, .map [((.int .u64 1), (.slice (some ⟨4, 0, none⟩) 43 43), 0)] 1), (2, 0, .cells [(.int .u64 1), (.int .i64 2)] 30 true), (1, 0, .cells [(.int .i64 200), (.int .i64 43), (.int .i64 0), (.int .u64 1), (.map (some 3))] 48 true), (0, 0, .tail pre .u8 l e)]⟩⟩
theorem R17 (pre : Nat) (n : Nat) (c : Nat) (l : List Int) (e : TypeId) : evCK Try.prog cfgC (runK Try.prog cfgC fsC noT 16 40) 16 (codeAt [1, 1, 1, 1, 1, 0, 0] B) (S16 pre n c l e) (normC 1 [1, 5, 6, 7, 8]) =
  some (.normal, (S17 pre n c l e)) := by kernel_rfl
theorem pre2 (lg i c0 c1 c2 c3 y : Int) (pre n c : Nat) (l L : List Int) (e : TypeId) (hn80 : n ≤ 80) (hk : (Int.tmod (IntKind.wrap .i64 lg) 4) = 2)   {Q : Ex → St → Prop} (hq : Gets Try.prog (KH.low ⟨1, 1, [(0, 0, .tail pre .u8 l e)]⟩) (codeAt [1, 1, 1, 1, 1, 0, 1] B) (KSt.low (S17 pre n c l e)) (onN (fun s => Gets Try.prog (KH.low ⟨1, 1, [(0, 0, .tail pre .u8 l e)]⟩) (codeAt [1, 1, 1, 1, 1, 1] B) s (Q)) (Q))) : Gets Try.prog (KH.low ⟨1, 1, [(0, 0, .tail pre .u8 l e)]⟩) B (KSt.low (S0 lg pre n c l e)) Q := by
  rw [C]; refine Gets.seq ?_
  refine Gets.ofN fitC SoundC.no AgreeT.no 16 40 (by kernel_rfl) (x := .normal) (s' := (S1 lg pre n c l e)) (R1 lg pre n c l e) ?_
  show Gets _ _ (codeAt [1] B) _ _
  rw [C1]; refine Gets.seq ?_
  refine Gets.ofN fitC SoundC.no AgreeT.no 16 40 (by kernel_rfl) (x := .normal) (s' := (S13 pre n c l e)) ((R2 lg pre n c l e).trans (by (show some (Ex.normal, (S2 pre n c lg l e)) = some (Ex.normal, (S13 pre n c l e)); unfold S2 S13; rw [(show (Int.tmod (IntKind.wrap .i64 lg) 4) = 2 from hk)]))) ?_
  show Gets _ _ (codeAt [1, 1] B) _ _
  rw [C1_1]; refine Gets.seq ?_
  rw [C1_1_0]; refine Gets.seq ?_
  refine Gets.ofN fitC SoundC.no AgreeT.no 16 40 (by kernel_rfl) (x := .normal) (s' := (S14 pre n c l e)) (R13 pre n c l e) ?_
  show Gets _ _ (codeAt [1, 1, 0, 1] B) _ _
  rw [C1_1_0_1]; refine Gets.cond false (by kernel_rfl) ((show evalX (KSt.ts (S14 pre n c l e)) (.tmp 19) = .bool (decide (((n : Nat) : Int) > 80)) by kernel_rfl).trans (by rw [(show (decide (((n : Nat) : Int) > 80)) = false from decide_eq_false (by ((try simp (disch := omega) only [wrap_i64_id, wrap_u64_id, List.length_set, List.length_replicate]) <;> omega)))])) ?_; show Gets _ _ (codeAt [1, 1, 0, 1, 1] B) _ _
  refine Gets.ofN fitC SoundC.no AgreeT.no 16 40 (by kernel_rfl) (x := .normal) (s' := (S13 pre n c l e)) (R14 pre n c l e) ?_
  show Gets _ _ (codeAt [1, 1, 1] B) _ _
  rw [C1_1_1]; refine Gets.seq ?_
  refine Gets.ofN fitC SoundC.no AgreeT.no 16 40 (by kernel_rfl) (x := .normal) (s' := (S15 pre n c l e)) (R15 pre n c l e) ?_
  show Gets _ _ (codeAt [1, 1, 1, 1] B) _ _
  rw [C1_1_1_1]; refine Gets.seq ?_
  refine Gets.ofN fitC SoundC.no AgreeT.no 16 40 (by kernel_rfl) (x := .normal) (s' := (S16 pre n c l e)) (R16 pre n c l e) ?_
  show Gets _ _ (codeAt [1, 1, 1, 1, 1] B) _ _
  rw [C1_1_1_1_1]; refine Gets.seq ?_
  rw [C1_1_1_1_1_0]; refine Gets.seq ?_
  refine Gets.ofN fitC SoundC.no AgreeT.no 16 40 (by kernel_rfl) (x := .normal) (s' := (S17 pre n c l e)) (R17 pre n c l e) ?_
  show Gets _ _ (codeAt [1, 1, 1, 1, 1, 0, 1] B) _ _
  exact hq
noncomputable def S18 (pre : Nat) (n : Nat) (c : Nat) (l : List Int) (e : TypeId) : KSt := ⟨(frameL 86 [(1, (.slice (some ⟨0, pre, none⟩) n c)), (5, (.int .i64 3))]), ⟨1, 1, [(0, 0, .tail pre .u8 l e)]⟩⟩
noncomputable def S19 (pre : Nat) (n : Nat) (c : Nat) (l : List Int) (e : TypeId) : KSt := ⟨(frameL 86 [(1, (.slice (some ⟨0, pre, none⟩) n c)), (5, (.int .i64 3)), (19, (.bool (decide (((n : Nat) : Int) > 80))))]), ⟨1, 1, [(0, 0, .tail pre .u8 l e)]⟩⟩
theorem R18 (pre : Nat) (n : Nat) (c : Nat) (l : List Int) (e : TypeId) : evCK Try.prog cfgC (runK Try.prog cfgC fsC noT 16 40) 16 (codeAt [1, 1, 0, 0] B) (S18 pre n c l e) (normC 1 [1, 5, 19]) =
  some (.normal, (S19 pre n c l e)) := by kernel_rfl
theorem R19 (pre : Nat) (n : Nat) (c : Nat) (l : List Int) (e : TypeId) : evCK Try.prog cfgC (runK Try.prog cfgC fsC noT 16 40) 16 (codeAt [1, 1, 0, 1, 1] B) (S19 pre n c l e) (normC 1 [1, 5]) =
  some (.normal, (S18 pre n c l e)) := by kernel_rfl
noncomputable def S20 (pre : Nat) (n : Nat) (c : Nat) (l : List Int) (e : TypeId) : KSt := ⟨(frameL 86 [(1, (.slice (some ⟨0, pre, none⟩) n c)), (5, (.int .i64 3)), (6, (.pointer (some ⟨1, 0, none⟩)))]), ⟨3, 1, [(2, 0, .map [] 0), (1, 0, .cells [(.int .i64 200), (.int .i64 0), (.int .i64 0), (.int .u64 0), (.map (some 2))] 48 true), (0, 0, .tail pre .u8 l e)]⟩⟩
theorem R20 (pre : Nat) (n : Nat) (c : Nat) (l : List Int) (e : TypeId) : evCK Try.prog cfgC (runK Try.prog cfgC fsC noT 16 40) 16 (codeAt [1, 1, 1, 0] B) (S18 pre n c l e) (normC 1 [1, 5, 6]) =
  some (.normal, (S20 pre n c l e)) := by kernel_rfl
noncomputable def S21 (pre : Nat) (n : Nat) (c : Nat) (l : List Int) (e : TypeId) : KSt := ⟨(frameL 86 [(1, (.slice (some ⟨0, pre, none⟩) n c)), (5, (.int .i64 3)), (6, (.pointer (some ⟨1, 0, none⟩))), (7, (.pointer (some ⟨2, 0, none⟩)))]), ⟨5, 1, [(4, 0, .ints .u64 ((List.replicate 79 0)) 26 true), (3, 0, .map [((.int .u64 1), (.slice (some ⟨4, 0, none⟩) 79 79), 0)] 1), (2, 0, .cells [(.int .u64 1), (.int .i64 3)] 30 true), (1, 0, .cells [(.int .i64 200), (.int .i64 79), (.int .i64 0), (.int .u64 1), (.map (some 3))] 48 true), (0, 0, .tail pre .u8 l e)]⟩⟩
theorem R21 (pre : Nat) (n : Nat) (c : Nat) (l : List Int) (e : TypeId) : evCK Try.prog cfgC (runK Try.prog cfgC fsC noT 16 40) 16 (codeAt [1, 1, 1, 1, 0] B) (S20 pre n c l e) (normC 1 [1, 5, 6, 7]) =
  some (.normal, (S21 pre n c l e)) := by kernel_rfl
noncomputable def S22 (pre : Nat) (n : Nat) (c : Nat) (l : List Int) (e : TypeId) : KSt := ⟨(frameL 86 [(1, (.slice (some ⟨0, pre, none⟩) n c)), (5, (.int .i64 3)), (6, (.pointer (some ⟨1, 0, none⟩))), (7, (.pointer (some ⟨2, 0, none⟩))), (8, (.int .i64 0))]), ⟨5, 1, [(4, 0, .ints .u64 ((List.replicate 79 0)) 26 true), (3, 0, .map [((.int .u64 1), (.slice (some ⟨4, 0, none⟩) 79 79), 0)] 1), (2, 0, .cells [(.int .u64 1), (.int .i64 3)] 30 true), (1, 0, .cells [(.int .i64 200), (.int .i64 79), (.int .i64 0), (.int .u64 1), (.map (some 3))] 48 true), (0, 0, .tail pre .u8 l e)]⟩⟩
theorem R22 (pre : Nat) (n : Nat) (c : Nat) (l : List Int) (e : TypeId) : evCK Try.prog cfgC (runK Try.prog cfgC fsC noT 16 40) 16 (codeAt [1, 1, 1, 1, 1, 0, 0] B) (S21 pre n c l e) (normC 1 [1, 5, 6, 7, 8]) =
  some (.normal, (S22 pre n c l e)) := by kernel_rfl
theorem pre3 (lg i c0 c1 c2 c3 y : Int) (pre n c : Nat) (l L : List Int) (e : TypeId) (hn80 : n ≤ 80) (hk : (Int.tmod (IntKind.wrap .i64 lg) 4) = 3)   {Q : Ex → St → Prop} (hq : Gets Try.prog (KH.low ⟨1, 1, [(0, 0, .tail pre .u8 l e)]⟩) (codeAt [1, 1, 1, 1, 1, 0, 1] B) (KSt.low (S22 pre n c l e)) (onN (fun s => Gets Try.prog (KH.low ⟨1, 1, [(0, 0, .tail pre .u8 l e)]⟩) (codeAt [1, 1, 1, 1, 1, 1] B) s (Q)) (Q))) : Gets Try.prog (KH.low ⟨1, 1, [(0, 0, .tail pre .u8 l e)]⟩) B (KSt.low (S0 lg pre n c l e)) Q := by
  rw [C]; refine Gets.seq ?_
  refine Gets.ofN fitC SoundC.no AgreeT.no 16 40 (by kernel_rfl) (x := .normal) (s' := (S1 lg pre n c l e)) (R1 lg pre n c l e) ?_
  show Gets _ _ (codeAt [1] B) _ _
  rw [C1]; refine Gets.seq ?_
  refine Gets.ofN fitC SoundC.no AgreeT.no 16 40 (by kernel_rfl) (x := .normal) (s' := (S18 pre n c l e)) ((R2 lg pre n c l e).trans (by (show some (Ex.normal, (S2 pre n c lg l e)) = some (Ex.normal, (S18 pre n c l e)); unfold S2 S18; rw [(show (Int.tmod (IntKind.wrap .i64 lg) 4) = 3 from hk)]))) ?_
  show Gets _ _ (codeAt [1, 1] B) _ _
  rw [C1_1]; refine Gets.seq ?_
  rw [C1_1_0]; refine Gets.seq ?_
  refine Gets.ofN fitC SoundC.no AgreeT.no 16 40 (by kernel_rfl) (x := .normal) (s' := (S19 pre n c l e)) (R18 pre n c l e) ?_
  show Gets _ _ (codeAt [1, 1, 0, 1] B) _ _
  rw [C1_1_0_1]; refine Gets.cond false (by kernel_rfl) ((show evalX (KSt.ts (S19 pre n c l e)) (.tmp 19) = .bool (decide (((n : Nat) : Int) > 80)) by kernel_rfl).trans (by rw [(show (decide (((n : Nat) : Int) > 80)) = false from decide_eq_false (by ((try simp (disch := omega) only [wrap_i64_id, wrap_u64_id, List.length_set, List.length_replicate]) <;> omega)))])) ?_; show Gets _ _ (codeAt [1, 1, 0, 1, 1] B) _ _
  refine Gets.ofN fitC SoundC.no AgreeT.no 16 40 (by kernel_rfl) (x := .normal) (s' := (S18 pre n c l e)) (R19 pre n c l e) ?_
  show Gets _ _ (codeAt [1, 1, 1] B) _ _
  rw [C1_1_1]; refine Gets.seq ?_
  refine Gets.ofN fitC SoundC.no AgreeT.no 16 40 (by kernel_rfl) (x := .normal) (s' := (S20 pre n c l e)) (R20 pre n c l e) ?_
  show Gets _ _ (codeAt [1, 1, 1, 1] B) _ _
  rw [C1_1_1_1]; refine Gets.seq ?_
  refine Gets.ofN fitC SoundC.no AgreeT.no 16 40 (by kernel_rfl) (x := .normal) (s' := (S21 pre n c l e)) (R21 pre n c l e) ?_
  show Gets _ _ (codeAt [1, 1, 1, 1, 1] B) _ _
  rw [C1_1_1_1_1]; refine Gets.seq ?_
  rw [C1_1_1_1_1_0]; refine Gets.seq ?_
  refine Gets.ofN fitC SoundC.no AgreeT.no 16 40 (by kernel_rfl) (x := .normal) (s' := (S22 pre n c l e)) (R22 pre n c l e) ?_
  show Gets _ _ (codeAt [1, 1, 1, 1, 1, 0, 1] B) _ _
  exact hq
noncomputable def S23 (pre : Nat) (n : Nat) (c : Nat) (i : Int) (L : List Int) (l : List Int) (e : TypeId) : KSt := ⟨(frameL 86 [(1, (.slice (some ⟨0, pre, none⟩) n c)), (5, (.int .i64 0)), (6, (.pointer (some ⟨1, 0, none⟩))), (7, (.pointer (some ⟨2, 0, none⟩))), (8, (.int .i64 i))]), ⟨5, 1, [(4, 0, .ints .u64 L 26 true), (3, 0, .map [((.int .u64 1), (.slice (some ⟨4, 0, none⟩) 16 16), 0)] 1), (2, 0, .cells [(.int .u64 1), (.int .i64 0)] 30 true), (1, 0, .cells [(.int .i64 200), (.int .i64 16), (.int .i64 0), (.int .u64 1), (.map (some 3))] 48 true), (0, 0, .tail pre .u8 l e)]⟩⟩
theorem C1_1_1_1_1_0_1_0_0 : (codeAt [1, 1, 1, 1, 1, 0, 1, 0, 0] B) = .seq (codeAt [1, 1, 1, 1, 1, 0, 1, 0, 0, 0] B) (codeAt [1, 1, 1, 1, 1, 0, 1, 0, 0, 1] B) := by kernel_rfl
theorem C1_1_1_1_1_0_1_0_0_0 : (codeAt [1, 1, 1, 1, 1, 0, 1, 0, 0, 0] B) = .seq (codeAt [1, 1, 1, 1, 1, 0, 1, 0, 0, 0, 0] B) (codeAt [1, 1, 1, 1, 1, 0, 1, 0, 0, 0, 1] B) := by kernel_rfl
noncomputable def S24 (pre : Nat) (n : Nat) (c : Nat) (i : Int) (L : List Int) (l : List Int) (e : TypeId) : KSt := ⟨(frameL 86 [(1, (.slice (some ⟨0, pre, none⟩) n c)), (5, (.int .i64 0)), (6, (.pointer (some ⟨1, 0, none⟩))), (7, (.pointer (some ⟨2, 0, none⟩))), (8, (.int .i64 i)), (31, (.bool (decide (i ≤ ((n : Nat) : Int)))))]), ⟨5, 1, [(4, 0, .ints .u64 L 26 true), (3, 0, .map [((.int .u64 1), (.slice (some ⟨4, 0, none⟩) 16 16), 0)] 1), (2, 0, .cells [(.int .u64 1), (.int .i64 0)] 30 true), (1, 0, .cells [(.int .i64 200), (.int .i64 16), (.int .i64 0), (.int .u64 1), (.map (some 3))] 48 true), (0, 0, .tail pre .u8 l e)]⟩⟩
theorem R23 (pre : Nat) (n : Nat) (c : Nat) (i : Int) (L : List Int) (l : List Int) (e : TypeId) : evCK Try.prog cfgC (runK Try.prog cfgC fsC noT 16 40) 16 (codeAt [1, 1, 1, 1, 1, 0, 1, 0, 0, 0, 0] B) (S23 pre n c i L l e) (normC 1 [1, 5, 6, 7, 8, 31]) =
  some (.normal, (S24 pre n c i L l e)) := by kernel_rfl
theorem C1_1_1_1_1_0_1_0_0_0_1 : (codeAt [1, 1, 1, 1, 1, 0, 1, 0, 0, 0, 1] B) = .cond (.tmp 31) (codeAt [1, 1, 1, 1, 1, 0, 1, 0, 0, 0, 1, 0] B) (codeAt [1, 1, 1, 1, 1, 0, 1, 0, 0, 0, 1, 1] B) := by kernel_rfl
theorem R24 (pre : Nat) (n : Nat) (c : Nat) (i : Int) (L : List Int) (l : List Int) (e : TypeId) : evCK Try.prog cfgC (runK Try.prog cfgC fsC noT 16 40) 16 (codeAt [1, 1, 1, 1, 1, 0, 1, 0, 0, 0, 1, 0] B) (S24 pre n c i L l e) (normC 1 [1, 5, 6, 7, 8]) =
  some (.normal, (S23 pre n c i L l e)) := by kernel_rfl
theorem C1_1_1_1_1_0_1_0_0_1 : (codeAt [1, 1, 1, 1, 1, 0, 1, 0, 0, 1] B) = .seq (codeAt [1, 1, 1, 1, 1, 0, 1, 0, 0, 1, 0] B) (codeAt [1, 1, 1, 1, 1, 0, 1, 0, 0, 1, 1] B) := by kernel_rfl
theorem C1_1_1_1_1_0_1_0_0_1_0 : (codeAt [1, 1, 1, 1, 1, 0, 1, 0, 0, 1, 0] B) = .block 1 (codeAt [1, 1, 1, 1, 1, 0, 1, 0, 0, 1, 0, 0] B) := by kernel_rfl
theorem C1_1_1_1_1_0_1_0_0_1_0_0 : (codeAt [1, 1, 1, 1, 1, 0, 1, 0, 0, 1, 0, 0] B) = .seq (codeAt [1, 1, 1, 1, 1, 0, 1, 0, 0, 1, 0, 0, 0] B) (codeAt [1, 1, 1, 1, 1, 0, 1, 0, 0, 1, 0, 0, 1] B) := by kernel_rfl
noncomputable def S25 (pre : Nat) (n : Nat) (c : Nat) (i : Int) (L : List Int) (l : List Int) (e : TypeId) : KSt := ⟨(frameL 86 [(1, (.slice (some ⟨0, pre, none⟩) n c)), (5, (.int .i64 0)), (6, (.pointer (some ⟨1, 0, none⟩))), (7, (.pointer (some ⟨2, 0, none⟩))), (8, (.int .i64 i)), (9, (.pointer (some ⟨3, 0, none⟩)))]), ⟨6, 1, [(5, 0, .ints .u64 L 26 true), (4, 0, .map [((.int .u64 1), (.slice (some ⟨5, 0, none⟩) 16 16), 0)] 1), (3, 0, .cells [(.int .u64 1), (.int .i64 0), (.bool true), (.int .i64 0), (.int .u64 0), (.int .u64 0), (.int .u64 0), (.int .u64 0)] 53 true), (2, 0, .cells [(.int .u64 1), (.int .i64 0)] 30 true), (1, 0, .cells [(.int .i64 200), (.int .i64 16), (.int .i64 0), (.int .u64 1), (.map (some 4))] 48 true), (0, 0, .tail pre .u8 l e)]⟩⟩
theorem R25 (pre : Nat) (n : Nat) (c : Nat) (i : Int) (L : List Int) (l : List Int) (e : TypeId) : evCK Try.prog cfgC (runK Try.prog cfgC fsC noT 16 40) 16 (codeAt [1, 1, 1, 1, 1, 0, 1, 0, 0, 1, 0, 0, 0] B) (S23 pre n c i L l e) (normC 1 [1, 5, 6, 7, 8, 9]) =
  some (.normal, (S25 pre n c i L l e)) := by kernel_rfl
theorem C1_1_1_1_1_0_1_0_0_1_0_0_1 : (codeAt [1, 1, 1, 1, 1, 0, 1, 0, 0, 1, 0, 0, 1] B) = .seq (codeAt [1, 1, 1, 1, 1, 0, 1, 0, 0, 1, 0, 0, 1, 0] B) (codeAt [1, 1, 1, 1, 1, 0, 1, 0, 0, 1, 0, 0, 1, 1] B) := by kernel_rfl
noncomputable def S26 (pre : Nat) (n : Nat) (c : Nat) (i : Int) (L : List Int) (n1 : Int) (n2 : Int) (n3 : Int) (n4 : Int) (l : List Int) (e : TypeId) : KSt := ⟨(frameL 86 [(1, (.slice (some ⟨0, pre, none⟩) n c)), (5, (.int .i64 0)), (6, (.pointer (some ⟨1, 0, none⟩))), (7, (.pointer (some ⟨2, 0, none⟩))), (8, (.int .i64 i)), (9, (.pointer (some ⟨3, 0, none⟩))), (10, (.int .i64 4)), (11, (.bool true))]), ⟨6, 1, [(5, 0, .ints .u64 L 26 true), (4, 0, .map [((.int .u64 1), (.slice (some ⟨5, 0, none⟩) 16 16), 0)] 1), (3, 0, .cells [(.int .u64 1), (.int .i64 0), (.bool true), (.int .i64 4), (.int .u64 n1), (.int .u64 n2), (.int .u64 n3), (.int .u64 n4)] 53 true), (2, 0, .cells [(.int .u64 1), (.int .i64 0)] 30 true), (1, 0, .cells [(.int .i64 200), (.int .i64 16), (.int .i64 0), (.int .u64 1), (.map (some 4))] 48 true), (0, 0, .tail pre .u8 l e)]⟩⟩
theorem R26 (pre : Nat) (n : Nat) (c : Nat) (i : Int) (L : List Int) (l : List Int) (e : TypeId) : evCK Try.prog cfgC (runK Try.prog cfgC fsC noT 16 40) 16 (codeAt [1, 1, 1, 1, 1, 0, 1, 0, 0, 1, 0, 0, 1, 0] B) (S25 pre n c i L l e) (normC 1 [1, 5, 6, 7, 8, 9, 10, 11]) =
  obind (L[3]?) fun n1 =>
    obind (L[4]?) fun n2 =>
      obind (L[5]?) fun n3 =>
        obind (L[6]?) fun n4 =>
          some (.normal, (S26 pre n c i L n1 n2 n3 n4 l e)) := by kernel_rfl
noncomputable def S27 (pre : Nat) (n : Nat) (c : Nat) (i : Int) (L : List Int) (c0 : Int) (c1 : Int) (c2 : Int) (c3 : Int) (l : List Int) (e : TypeId) : KSt := ⟨(frameL 86 [(1, (.slice (some ⟨0, pre, none⟩) n c)), (5, (.int .i64 0)), (6, (.pointer (some ⟨1, 0, none⟩))), (7, (.pointer (some ⟨2, 0, none⟩))), (8, (.int .i64 i)), (9, (.pointer (some ⟨3, 0, none⟩))), (10, (.int .i64 4)), (11, (.bool true))]), ⟨6, 1, [(5, 0, .ints .u64 L 26 true), (4, 0, .map [((.int .u64 1), (.slice (some ⟨5, 0, none⟩) 16 16), 0)] 1), (3, 0, .cells [(.int .u64 1), (.int .i64 0), (.bool true), (.int .i64 4), (.int .u64 c0), (.int .u64 c1), (.int .u64 c2), (.int .u64 c3)] 53 true), (2, 0, .cells [(.int .u64 1), (.int .i64 0)] 30 true), (1, 0, .cells [(.int .i64 200), (.int .i64 16), (.int .i64 0), (.int .u64 1), (.map (some 4))] 48 true), (0, 0, .tail pre .u8 l e)]⟩⟩
noncomputable def S28 (pre : Nat) (n : Nat) (c : Nat) (i : Int) (L : List Int) (l : List Int) (e : TypeId) : KSt := ⟨(frameL 86 [(1, (.slice (some ⟨0, pre, none⟩) n c)), (5, (.int .i64 0)), (6, (.pointer (some ⟨1, 0, none⟩))), (7, (.pointer (some ⟨2, 0, none⟩))), (8, (.int .i64 i)), (9, (.pointer (some ⟨3, 0, none⟩))), (10, (.int .i64 4)), (11, (.bool true))]), ⟨6, 1, [(5, 0, .ints .u64 L 26 true), (4, 0, .map [((.int .u64 1), (.slice (some ⟨5, 0, none⟩) 16 16), 0)] 1), (3, 0, .cells [(.int .u64 1), (.int .i64 0), (.bool true), (.int .i64 4), (.int .u64 (L.getD 3 0)), (.int .u64 (L.getD 4 0)), (.int .u64 (L.getD 5 0)), (.int .u64 (L.getD 6 0))] 53 true), (2, 0, .cells [(.int .u64 1), (.int .i64 0)] 30 true), (1, 0, .cells [(.int .i64 200), (.int .i64 16), (.int .i64 0), (.int .u64 1), (.map (some 4))] 48 true), (0, 0, .tail pre .u8 l e)]⟩⟩
theorem C1_1_1_1_1_0_1_0_0_1_0_0_1_1 : (codeAt [1, 1, 1, 1, 1, 0, 1, 0, 0, 1, 0, 0, 1, 1] B) = .seq (codeAt [1, 1, 1, 1, 1, 0, 1, 0, 0, 1, 0, 0, 1, 1, 0] B) (codeAt [1, 1, 1, 1, 1, 0, 1, 0, 0, 1, 0, 0, 1, 1, 1] B) := by kernel_rfl
noncomputable def S29 (pre : Nat) (n : Nat) (c : Nat) (i : Int) (c0 : Int) (c1 : Int) (c2 : Int) (c3 : Int) (L : List Int) (l : List Int) (e : TypeId) : KSt := ⟨(frameL 86 [(1, (.slice (some ⟨0, pre, none⟩) n c)), (5, (.int .i64 0)), (6, (.pointer (some ⟨1, 0, none⟩))), (7, (.pointer (some ⟨2, 0, none⟩))), (8, (.int .i64 i)), (10, (.int .i64 4)), (11, (.bool true)), (12, (.bool (decide ((IntKind.wrap .u64 ((IntKind.wrap .u64 ((IntKind.wrap .u64 ((IntKind.wrap .u64 (0 + c0)) + c1)) + c2)) + c3)) ≥ 7)))), (13, (.bool true))]), ⟨5, 1, [(4, 0, .ints .u64 L 26 true), (3, 0, .map [((.int .u64 1), (.slice (some ⟨4, 0, none⟩) 16 16), 0)] 1), (2, 0, .cells [(.int .u64 1), (.int .i64 0)] 30 true), (1, 0, .cells [(.int .i64 200), (.int .i64 16), (.int .i64 0), (.int .u64 1), (.map (some 3))] 48 true), (0, 0, .tail pre .u8 l e)]⟩⟩
theorem R27 (pre : Nat) (n : Nat) (c : Nat) (i : Int) (L : List Int) (c0 : Int) (c1 : Int) (c2 : Int) (c3 : Int) (l : List Int) (e : TypeId) : evCK Try.prog cfgC (runK Try.prog cfgC fsC noT 16 40) 16 (codeAt [1, 1, 1, 1, 1, 0, 1, 0, 0, 1, 0, 0, 1, 1, 0] B) (S27 pre n c i L c0 c1 c2 c3 l e) (normC 1 [1, 5, 6, 7, 8, 10, 11, 12, 13]) =
  some (.normal, (S29 pre n c i c0 c1 c2 c3 L l e)) := by kernel_rfl
theorem C1_1_1_1_1_0_1_0_0_1_0_0_1_1_1 : (codeAt [1, 1, 1, 1, 1, 0, 1, 0, 0, 1, 0, 0, 1, 1, 1] B) = .seq (codeAt [1, 1, 1, 1, 1, 0, 1, 0, 0, 1, 0, 0, 1, 1, 1, 0] B) (codeAt [1, 1, 1, 1, 1, 0, 1, 0, 0, 1, 0, 0, 1, 1, 1, 1] B) := by kernel_rfl
theorem C1_1_1_1_1_0_1_0_0_1_0_0_1_1_1_0 : (codeAt [1, 1, 1, 1, 1, 0, 1, 0, 0, 1, 0, 0, 1, 1, 1, 0] B) = .seq (codeAt [1, 1, 1, 1, 1, 0, 1, 0, 0, 1, 0, 0, 1, 1, 1, 0, 0] B) (codeAt [1, 1, 1, 1, 1, 0, 1, 0, 0, 1, 0, 0, 1, 1, 1, 0, 1] B) := by kernel_rfl
noncomputable def S30 (pre : Nat) (n : Nat) (c : Nat) (i : Int) (c0 : Int) (c1 : Int) (c2 : Int) (c3 : Int) (L : List Int) (l : List Int) (e : TypeId) : KSt := ⟨(frameL 86 [(1, (.slice (some ⟨0, pre, none⟩) n c)), (5, (.int .i64 0)), (6, (.pointer (some ⟨1, 0, none⟩))), (7, (.pointer (some ⟨2, 0, none⟩))), (8, (.int .i64 i)), (65, (.bool (!((decide ((IntKind.wrap .u64 ((IntKind.wrap .u64 ((IntKind.wrap .u64 ((IntKind.wrap .u64 (0 + c0)) + c1)) + c2)) + c3)) ≥ 7)) == (decide (i ≥ 7))))))]), ⟨5, 1, [(4, 0, .ints .u64 L 26 true), (3, 0, .map [((.int .u64 1), (.slice (some ⟨4, 0, none⟩) 16 16), 0)] 1), (2, 0, .cells [(.int .u64 1), (.int .i64 0)] 30 true), (1, 0, .cells [(.int .i64 200), (.int .i64 16), (.int .i64 0), (.int .u64 1), (.map (some 3))] 48 true), (0, 0, .tail pre .u8 l e)]⟩⟩
theorem R28 (pre : Nat) (n : Nat) (c : Nat) (i : Int) (c0 : Int) (c1 : Int) (c2 : Int) (c3 : Int) (L : List Int) (l : List Int) (e : TypeId) : evCK Try.prog cfgC (runK Try.prog cfgC fsC noT 16 40) 16 (codeAt [1, 1, 1, 1, 1, 0, 1, 0, 0, 1, 0, 0, 1, 1, 1, 0, 0] B) (S29 pre n c i c0 c1 c2 c3 L l e) (normC 1 [1, 5, 6, 7, 8, 65]) =
  some (.normal, (S30 pre n c i c0 c1 c2 c3 L l e)) := by kernel_rfl
theorem C1_1_1_1_1_0_1_0_0_1_0_0_1_1_1_0_1 : (codeAt [1, 1, 1, 1, 1, 0, 1, 0, 0, 1, 0, 0, 1, 1, 1, 0, 1] B) = .cond (.tmp 65) (codeAt [1, 1, 1, 1, 1, 0, 1, 0, 0, 1, 0, 0, 1, 1, 1, 0, 1, 0] B) (codeAt [1, 1, 1, 1, 1, 0, 1, 0, 0, 1, 0, 0, 1, 1, 1, 0, 1, 1] B) := by kernel_rfl
theorem R29 (pre : Nat) (n : Nat) (c : Nat) (i : Int) (c0 : Int) (c1 : Int) (c2 : Int) (c3 : Int) (L : List Int) (l : List Int) (e : TypeId) : evCK Try.prog cfgC (runK Try.prog cfgC fsC noT 16 40) 16 (codeAt [1, 1, 1, 1, 1, 0, 1, 0, 0, 1, 0, 0, 1, 1, 1, 0, 1, 1] B) (S30 pre n c i c0 c1 c2 c3 L l e) (normC 1 [1, 5, 6, 7, 8]) =
  some (.normal, (S23 pre n c i L l e)) := by kernel_rfl
theorem C1_1_1_1_1_0_1_0_0_1_0_0_1_1_1_1 : (codeAt [1, 1, 1, 1, 1, 0, 1, 0, 0, 1, 0, 0, 1, 1, 1, 1] B) = .seq (codeAt [1, 1, 1, 1, 1, 0, 1, 0, 0, 1, 0, 0, 1, 1, 1, 1, 0] B) (codeAt [1, 1, 1, 1, 1, 0, 1, 0, 0, 1, 0, 0, 1, 1, 1, 1, 1] B) := by kernel_rfl
noncomputable def S31 (pre : Nat) (n : Nat) (c : Nat) (i : Int) (L : List Int) (l : List Int) (e : TypeId) : KSt := ⟨(frameL 86 [(1, (.slice (some ⟨0, pre, none⟩) n c)), (5, (.int .i64 0)), (6, (.pointer (some ⟨1, 0, none⟩))), (7, (.pointer (some ⟨2, 0, none⟩))), (8, (.int .i64 i)), (69, (.bool (decide (i < ((n : Nat) : Int)))))]), ⟨5, 1, [(4, 0, .ints .u64 L 26 true), (3, 0, .map [((.int .u64 1), (.slice (some ⟨4, 0, none⟩) 16 16), 0)] 1), (2, 0, .cells [(.int .u64 1), (.int .i64 0)] 30 true), (1, 0, .cells [(.int .i64 200), (.int .i64 16), (.int .i64 0), (.int .u64 1), (.map (some 3))] 48 true), (0, 0, .tail pre .u8 l e)]⟩⟩
theorem R30 (pre : Nat) (n : Nat) (c : Nat) (i : Int) (L : List Int) (l : List Int) (e : TypeId) : evCK Try.prog cfgC (runK Try.prog cfgC fsC noT 16 40) 16 (codeAt [1, 1, 1, 1, 1, 0, 1, 0, 0, 1, 0, 0, 1, 1, 1, 1, 0] B) (S23 pre n c i L l e) (normC 1 [1, 5, 6, 7, 8, 69]) =
  some (.normal, (S31 pre n c i L l e)) := by kernel_rfl
theorem C1_1_1_1_1_0_1_0_0_1_0_0_1_1_1_1_1 : (codeAt [1, 1, 1, 1, 1, 0, 1, 0, 0, 1, 0, 0, 1, 1, 1, 1, 1] B) = .cond (.tmp 69) (codeAt [1, 1, 1, 1, 1, 0, 1, 0, 0, 1, 0, 0, 1, 1, 1, 1, 1, 0] B) (codeAt [1, 1, 1, 1, 1, 0, 1, 0, 0, 1, 0, 0, 1, 1, 1, 1, 1, 1] B) := by kernel_rfl
theorem R31 (pre : Nat) (n : Nat) (c : Nat) (i : Int) (L : List Int) (l : List Int) (e : TypeId) : evCK Try.prog cfgC (runK Try.prog cfgC fsC noT 16 40) 16 (codeAt [1, 1, 1, 1, 1, 0, 1, 0, 0, 1, 0, 0, 1, 1, 1, 1, 1, 1] B) (S31 pre n c i L l e) (normC 1 [1, 5, 6, 7, 8]) =
  some (.normal, (S23 pre n c i L l e)) := by kernel_rfl
noncomputable def S32 (pre : Nat) (n : Nat) (c : Nat) (i : Int) (L : List Int) (l : List Int) (e : TypeId) : KSt := ⟨(frameL 86 [(1, (.slice (some ⟨0, pre, none⟩) n c)), (5, (.int .i64 0)), (6, (.pointer (some ⟨1, 0, none⟩))), (7, (.pointer (some ⟨2, 0, none⟩))), (8, (.int .i64 (IntKind.wrap .i64 (i + 1))))]), ⟨5, 1, [(4, 0, .ints .u64 L 26 true), (3, 0, .map [((.int .u64 1), (.slice (some ⟨4, 0, none⟩) 16 16), 0)] 1), (2, 0, .cells [(.int .u64 1), (.int .i64 0)] 30 true), (1, 0, .cells [(.int .i64 200), (.int .i64 16), (.int .i64 0), (.int .u64 1), (.map (some 3))] 48 true), (0, 0, .tail pre .u8 l e)]⟩⟩
theorem R32 (pre : Nat) (n : Nat) (c : Nat) (i : Int) (L : List Int) (l : List Int) (e : TypeId) : evCK Try.prog cfgC (runK Try.prog cfgC fsC noT 16 40) 16 (codeAt [1, 1, 1, 1, 1, 0, 1, 0, 0, 1, 1] B) (S23 pre n c i L l e) (normC 1 [1, 5, 6, 7, 8]) =
  some (.normal, (S32 pre n c i L l e)) := by kernel_rfl
noncomputable def S33 (pre : Nat) (n : Nat) (c : Nat) (i : Int) (L : List Int) (l : List Int) (e : TypeId) : KSt := ⟨(frameL 86 [(1, (.slice (some ⟨0, pre, none⟩) n c)), (5, (.int .i64 0)), (6, (.pointer (some ⟨1, 0, none⟩))), (7, (.pointer (some ⟨2, 0, none⟩))), (8, (.int .i64 (i + 1)))]), ⟨5, 1, [(4, 0, .ints .u64 L 26 true), (3, 0, .map [((.int .u64 1), (.slice (some ⟨4, 0, none⟩) 16 16), 0)] 1), (2, 0, .cells [(.int .u64 1), (.int .i64 0)] 30 true), (1, 0, .cells [(.int .i64 200), (.int .i64 16), (.int .i64 0), (.int .u64 1), (.map (some 3))] 48 true), (0, 0, .tail pre .u8 l e)]⟩⟩
theorem re0 (lg i c0 c1 c2 c3 y : Int) (pre n c : Nat) (l L : List Int) (e : TypeId) (hL : L.length = 16) (hc0 : L.getD 3 0 = c0) (hc1 : L.getD 4 0 = c1) (hc2 : L.getD 5 0 = c2) (hc3 : L.getD 6 0 = c3) (p0 : 0 ≤ c0) (p1 : 0 ≤ c1) (p2 : 0 ≤ c2) (p3 : 0 ≤ c3) (hs : c0 + c1 + c2 + c3 = i) (hi : 0 ≤ i) (hn80 : n ≤ 80) (hc : n ≤ c) (hl : l.length = c) (hcp : c ≤ 9223372036854775807) (hin : i = (n : Int))   {Q : Ex → St → Prop} (hq : Q .normal (KSt.low (S33 pre n c i L l e))) : Gets Try.prog (KH.low ⟨1, 1, [(0, 0, .tail pre .u8 l e)]⟩) (codeAt [1, 1, 1, 1, 1, 0, 1, 0, 0] B) (KSt.low (S23 pre n c i L l e)) Q := by
  rw [C1_1_1_1_1_0_1_0_0]; refine Gets.seq ?_
  rw [C1_1_1_1_1_0_1_0_0_0]; refine Gets.seq ?_
  refine Gets.ofN fitC SoundC.no AgreeT.no 16 40 (by kernel_rfl) (x := .normal) (s' := (S24 pre n c i L l e)) (R23 pre n c i L l e) ?_
  show Gets _ _ (codeAt [1, 1, 1, 1, 1, 0, 1, 0, 0, 0, 1] B) _ _
  rw [C1_1_1_1_1_0_1_0_0_0_1]; refine Gets.cond true (by kernel_rfl) ((show evalX (KSt.ts (S24 pre n c i L l e)) (.tmp 31) = .bool (decide (i ≤ ((n : Nat) : Int))) by kernel_rfl).trans (by rw [(show (decide (i ≤ ((n : Nat) : Int))) = true from decide_eq_true (by ((try simp (disch := omega) only [hc0, hc1, hc2, hc3, wrap_i64_id, wrap_u64_id, List.length_set, List.length_replicate]) <;> omega)))])) ?_; show Gets _ _ (codeAt [1, 1, 1, 1, 1, 0, 1, 0, 0, 0, 1, 0] B) _ _
  refine Gets.ofN fitC SoundC.no AgreeT.no 16 40 (by kernel_rfl) (x := .normal) (s' := (S23 pre n c i L l e)) (R24 pre n c i L l e) ?_
  show Gets _ _ (codeAt [1, 1, 1, 1, 1, 0, 1, 0, 0, 1] B) _ _
  rw [C1_1_1_1_1_0_1_0_0_1]; refine Gets.seq ?_
  rw [C1_1_1_1_1_0_1_0_0_1_0]; refine Gets.block ?_
  rw [C1_1_1_1_1_0_1_0_0_1_0_0]; refine Gets.seq ?_
  refine Gets.ofN fitC SoundC.no AgreeT.no 16 40 (by kernel_rfl) (x := .normal) (s' := (S25 pre n c i L l e)) (R25 pre n c i L l e) ?_
  show Gets _ _ (codeAt [1, 1, 1, 1, 1, 0, 1, 0, 0, 1, 0, 0, 1] B) _ _
  rw [C1_1_1_1_1_0_1_0_0_1_0_0_1]; refine Gets.seq ?_
  refine Gets.ofN fitC SoundC.no AgreeT.no 16 40 (by kernel_rfl) (x := .normal) (s' := (S27 pre n c i L c0 c1 c2 c3 l e)) ((R26 pre n c i L l e).trans (by rw [obind_at (k := 3) (by ((try simp (disch := omega) only [hc0, hc1, hc2, hc3, wrap_i64_id, wrap_u64_id, List.length_set, List.length_replicate]) <;> omega)) (by ((try simp (disch := omega) only [hc0, hc1, hc2, hc3, wrap_i64_id, wrap_u64_id, List.length_set, List.length_replicate]) <;> omega)), obind_at (k := 4) (by ((try simp (disch := omega) only [hc0, hc1, hc2, hc3, wrap_i64_id, wrap_u64_id, List.length_set, List.length_replicate]) <;> omega)) (by ((try simp (disch := omega) only [hc0, hc1, hc2, hc3, wrap_i64_id, wrap_u64_id, List.length_set, List.length_replicate]) <;> omega)), obind_at (k := 5) (by ((try simp (disch := omega) only [hc0, hc1, hc2, hc3, wrap_i64_id, wrap_u64_id, List.length_set, List.length_replicate]) <;> omega)) (by ((try simp (disch := omega) only [hc0, hc1, hc2, hc3, wrap_i64_id, wrap_u64_id, List.length_set, List.length_replicate]) <;> omega)), obind_at (k := 6) (by ((try simp (disch := omega) only [hc0, hc1, hc2, hc3, wrap_i64_id, wrap_u64_id, List.length_set, List.length_replicate]) <;> omega)) (by ((try simp (disch := omega) only [hc0, hc1, hc2, hc3, wrap_i64_id, wrap_u64_id, List.length_set, List.length_replicate]) <;> omega))] <;> (show some (Ex.normal, (S28 pre n c i L l e)) = some (Ex.normal, (S27 pre n c i L c0 c1 c2 c3 l e)); unfold S28 S27; rw [(show (L.getD 3 0) = c0 from hc0), (show (L.getD 4 0) = c1 from hc1), (show (L.getD 5 0) = c2 from hc2), (show (L.getD 6 0) = c3 from hc3)]))) ?_
  show Gets _ _ (codeAt [1, 1, 1, 1, 1, 0, 1, 0, 0, 1, 0, 0, 1, 1] B) _ _
  rw [C1_1_1_1_1_0_1_0_0_1_0_0_1_1]; refine Gets.seq ?_
  refine Gets.ofN fitC SoundC.no AgreeT.no 16 40 (by kernel_rfl) (x := .normal) (s' := (S29 pre n c i c0 c1 c2 c3 L l e)) (R27 pre n c i L c0 c1 c2 c3 l e) ?_
  show Gets _ _ (codeAt [1, 1, 1, 1, 1, 0, 1, 0, 0, 1, 0, 0, 1, 1, 1] B) _ _
  rw [C1_1_1_1_1_0_1_0_0_1_0_0_1_1_1]; refine Gets.seq ?_
  rw [C1_1_1_1_1_0_1_0_0_1_0_0_1_1_1_0]; refine Gets.seq ?_
  refine Gets.ofN fitC SoundC.no AgreeT.no 16 40 (by kernel_rfl) (x := .normal) (s' := (S30 pre n c i c0 c1 c2 c3 L l e)) (R28 pre n c i c0 c1 c2 c3 L l e) ?_
  show Gets _ _ (codeAt [1, 1, 1, 1, 1, 0, 1, 0, 0, 1, 0, 0, 1, 1, 1, 0, 1] B) _ _
  rw [C1_1_1_1_1_0_1_0_0_1_0_0_1_1_1_0_1]; refine Gets.cond false (by kernel_rfl) ((show evalX (KSt.ts (S30 pre n c i c0 c1 c2 c3 L l e)) (.tmp 65) = .bool (!((decide ((IntKind.wrap .u64 ((IntKind.wrap .u64 ((IntKind.wrap .u64 ((IntKind.wrap .u64 (0 + c0)) + c1)) + c2)) + c3)) ≥ 7)) == (decide (i ≥ 7)))) by kernel_rfl).trans (by rw [(show (!((decide ((IntKind.wrap .u64 ((IntKind.wrap .u64 ((IntKind.wrap .u64 ((IntKind.wrap .u64 (0 + c0)) + c1)) + c2)) + c3)) ≥ 7)) == (decide (i ≥ 7)))) = false from not_f (sum_dec hs p0 p1 p2 p3 (by omega)))])) ?_; show Gets _ _ (codeAt [1, 1, 1, 1, 1, 0, 1, 0, 0, 1, 0, 0, 1, 1, 1, 0, 1, 1] B) _ _
  refine Gets.ofN fitC SoundC.no AgreeT.no 16 40 (by kernel_rfl) (x := .normal) (s' := (S23 pre n c i L l e)) (R29 pre n c i c0 c1 c2 c3 L l e) ?_
  show Gets _ _ (codeAt [1, 1, 1, 1, 1, 0, 1, 0, 0, 1, 0, 0, 1, 1, 1, 1] B) _ _
  rw [C1_1_1_1_1_0_1_0_0_1_0_0_1_1_1_1]; refine Gets.seq ?_
  refine Gets.ofN fitC SoundC.no AgreeT.no 16 40 (by kernel_rfl) (x := .normal) (s' := (S31 pre n c i L l e)) (R30 pre n c i L l e) ?_
  show Gets _ _ (codeAt [1, 1, 1, 1, 1, 0, 1, 0, 0, 1, 0, 0, 1, 1, 1, 1, 1] B) _ _
  rw [C1_1_1_1_1_0_1_0_0_1_0_0_1_1_1_1_1]; refine Gets.cond false (by kernel_rfl) ((show evalX (KSt.ts (S31 pre n c i L l e)) (.tmp 69) = .bool (decide (i < ((n : Nat) : Int))) by kernel_rfl).trans (by rw [(show (decide (i < ((n : Nat) : Int))) = false from decide_eq_false (by ((try simp (disch := omega) only [hc0, hc1, hc2, hc3, wrap_i64_id, wrap_u64_id, List.length_set, List.length_replicate]) <;> omega)))])) ?_; show Gets _ _ (codeAt [1, 1, 1, 1, 1, 0, 1, 0, 0, 1, 0, 0, 1, 1, 1, 1, 1, 1] B) _ _
  refine Gets.ofN fitC SoundC.no AgreeT.no 16 40 (by kernel_rfl) (x := .normal) (s' := (S23 pre n c i L l e)) (R31 pre n c i L l e) ?_
  show Gets _ _ (codeAt [1, 1, 1, 1, 1, 0, 1, 0, 0, 1, 1] B) _ _
  refine Gets.ofN fitC SoundC.no AgreeT.no 16 40 (by kernel_rfl) (x := .normal) (s' := (S33 pre n c i L l e)) ((R32 pre n c i L l e).trans (by (show some (Ex.normal, (S32 pre n c i L l e)) = some (Ex.normal, (S33 pre n c i L l e)); unfold S32 S33; rw [(show (IntKind.wrap .i64 (i + 1)) = (i + 1) from wrap_i64_id (by omega) (by omega))]))) ?_
  exact hq
noncomputable def S34 (pre : Nat) (n : Nat) (c : Nat) (i : Int) (L : List Int) (l : List Int) (e : TypeId) : KSt := ⟨(frameL 86 [(1, (.slice (some ⟨0, pre, none⟩) n c)), (5, (.int .i64 0)), (6, (.pointer (some ⟨1, 0, none⟩))), (7, (.pointer (some ⟨2, 0, none⟩))), (8, (.int .i64 i))]), ⟨5, 1, [(4, 0, .ints .u64 L 26 true), (3, 0, .map [((.int .u64 1), (.slice (some ⟨4, 0, none⟩) 16 16), 0)] 1), (2, 0, .cells [(.int .u64 1), (.int .i64 0)] 30 true), (1, 0, .cells [(.int .i64 200), (.int .i64 16), (.int .i64 1), (.int .u64 1), (.map (some 3))] 48 true), (0, 0, .tail pre .u8 l e)]⟩⟩
noncomputable def S35 (pre : Nat) (n : Nat) (c : Nat) (i : Int) (L : List Int) (n1 : Int) (n3 : Int) (l : List Int) (e : TypeId) : KSt := ⟨(frameL 86 [(1, (.slice (some ⟨0, pre, none⟩) n c)), (5, (.int .i64 0)), (6, (.pointer (some ⟨1, 0, none⟩))), (7, (.pointer (some ⟨2, 0, none⟩))), (8, (.int .i64 i))]), ⟨5, 1, [(4, 0, .ints .u64 ((List.set L (0 + ((Int.toNat ((IntKind.wrap .i64 (3 + (bits .and .i64 (Int.tmod (IntKind.wrap .i64 n1) 64) 3))))) * 1)) (IntKind.wrap .u64 (n3 + 1)))) 26 true), (3, 0, .map [((.int .u64 1), (.slice (some ⟨4, 0, none⟩) 16 16), 0)] 1), (2, 0, .cells [(.int .u64 1), (.int .i64 0)] 30 true), (1, 0, .cells [(.int .i64 200), (.int .i64 16), (.int .i64 0), (.int .u64 1), (.map (some 3))] 48 true), (0, 0, .tail pre .u8 l e)]⟩⟩
theorem R33 (pre : Nat) (n : Nat) (c : Nat) (i : Int) (L : List Int) (l : List Int) (e : TypeId) : evCK Try.prog cfgC (runK Try.prog cfgC fsC noT 16 40) 16 (codeAt [1, 1, 1, 1, 1, 0, 1, 0, 0, 1, 0, 0, 1, 1, 1, 1, 1, 0] B) (S31 pre n c i L l e) (normC 1 [1, 5, 6, 7, 8]) =
  if 0 ≤ i ∧ i < ((n : Nat) : Int) then
    bif (Nat.ble pre (pre + ((Int.toNat i) * 1))) then
      obind (l[((pre + ((Int.toNat i) * 1)) - pre)]?) fun n1 =>
        bif (!(decide ((IntKind.wrap .i64 (3 + (bits .and .i64 (Int.tmod (IntKind.wrap .i64 n1) 64) 3))) ≥ 0))) then
          some (.normal, (S23 pre n c i L l e))
        else
          bif (decide ((IntKind.wrap .i64 (3 + (bits .and .i64 (Int.tmod (IntKind.wrap .i64 n1) 64) 3))) < 0)) then
            some (.normal, (S34 pre n c i L l e))
          else
            bif (decide ((IntKind.wrap .i64 (3 + (bits .and .i64 (Int.tmod (IntKind.wrap .i64 n1) 64) 3))) ≥ 16)) then
              some (.normal, (S34 pre n c i L l e))
            else
              if 0 ≤ (IntKind.wrap .i64 (3 + (bits .and .i64 (Int.tmod (IntKind.wrap .i64 n1) 64) 3))) ∧ (IntKind.wrap .i64 (3 + (bits .and .i64 (Int.tmod (IntKind.wrap .i64 n1) 64) 3))) < 16 then
                obind (L[(0 + ((Int.toNat ((IntKind.wrap .i64 (3 + (bits .and .i64 (Int.tmod (IntKind.wrap .i64 n1) 64) 3))))) * 1))]?) fun n2 =>
                  obind (L[(0 + ((Int.toNat ((IntKind.wrap .i64 (3 + (bits .and .i64 (Int.tmod (IntKind.wrap .i64 n1) 64) 3))))) * 1))]?) fun n3 =>
                    bif (Nat.ble ((0 + ((Int.toNat ((IntKind.wrap .i64 (3 + (bits .and .i64 (Int.tmod (IntKind.wrap .i64 n1) 64) 3))))) * 1)) + 1) (List.length L)) then
                      some (.normal, (S35 pre n c i L n1 n3 l e))
                    else
                      none
              else
                none
    else
      none
  else
    none := by kernel_rfl
noncomputable def S36 (pre : Nat) (n : Nat) (c : Nat) (i : Int) (L : List Int) (y : Int) (l : List Int) (e : TypeId) : KSt := ⟨(frameL 86 [(1, (.slice (some ⟨0, pre, none⟩) n c)), (5, (.int .i64 0)), (6, (.pointer (some ⟨1, 0, none⟩))), (7, (.pointer (some ⟨2, 0, none⟩))), (8, (.int .i64 i))]), ⟨5, 1, [(4, 0, .ints .u64 ((List.set L (0 + ((Int.toNat (3 + y)) * 1)) (IntKind.wrap .u64 ((L.getD (0 + ((Int.toNat (3 + y)) * 1)) 0) + 1)))) 26 true), (3, 0, .map [((.int .u64 1), (.slice (some ⟨4, 0, none⟩) 16 16), 0)] 1), (2, 0, .cells [(.int .u64 1), (.int .i64 0)] 30 true), (1, 0, .cells [(.int .i64 200), (.int .i64 16), (.int .i64 0), (.int .u64 1), (.map (some 3))] 48 true), (0, 0, .tail pre .u8 l e)]⟩⟩
noncomputable def S37 (pre : Nat) (n : Nat) (c : Nat) (i : Int) (L : List Int) (l : List Int) (e : TypeId) : KSt := ⟨(frameL 86 [(1, (.slice (some ⟨0, pre, none⟩) n c)), (5, (.int .i64 0)), (6, (.pointer (some ⟨1, 0, none⟩))), (7, (.pointer (some ⟨2, 0, none⟩))), (8, (.int .i64 i))]), ⟨5, 1, [(4, 0, .ints .u64 ((List.set L (0 + ((Int.toNat (IntKind.wrap .i64 (3 + (bits .and .i64 (Int.tmod (IntKind.wrap .i64 (l.getD ((Int.toNat i) * 1) 0)) 64) 3)))) * 1)) (IntKind.wrap .u64 ((L.getD (0 + ((Int.toNat (IntKind.wrap .i64 (3 + (bits .and .i64 (Int.tmod (IntKind.wrap .i64 (l.getD ((Int.toNat i) * 1) 0)) 64) 3)))) * 1)) 0) + 1)))) 26 true), (3, 0, .map [((.int .u64 1), (.slice (some ⟨4, 0, none⟩) 16 16), 0)] 1), (2, 0, .cells [(.int .u64 1), (.int .i64 0)] 30 true), (1, 0, .cells [(.int .i64 200), (.int .i64 16), (.int .i64 0), (.int .u64 1), (.map (some 3))] 48 true), (0, 0, .tail pre .u8 l e)]⟩⟩
noncomputable def S38 (pre : Nat) (n : Nat) (c : Nat) (i : Int) (L : List Int) (y : Int) (l : List Int) (e : TypeId) : KSt := ⟨(frameL 86 [(1, (.slice (some ⟨0, pre, none⟩) n c)), (5, (.int .i64 0)), (6, (.pointer (some ⟨1, 0, none⟩))), (7, (.pointer (some ⟨2, 0, none⟩))), (8, (.int .i64 (IntKind.wrap .i64 (i + 1))))]), ⟨5, 1, [(4, 0, .ints .u64 ((List.set L (0 + ((Int.toNat (3 + y)) * 1)) (IntKind.wrap .u64 ((L.getD (0 + ((Int.toNat (3 + y)) * 1)) 0) + 1)))) 26 true), (3, 0, .map [((.int .u64 1), (.slice (some ⟨4, 0, none⟩) 16 16), 0)] 1), (2, 0, .cells [(.int .u64 1), (.int .i64 0)] 30 true), (1, 0, .cells [(.int .i64 200), (.int .i64 16), (.int .i64 0), (.int .u64 1), (.map (some 3))] 48 true), (0, 0, .tail pre .u8 l e)]⟩⟩
theorem R34 (pre : Nat) (n : Nat) (c : Nat) (i : Int) (L : List Int) (y : Int) (l : List Int) (e : TypeId) : evCK Try.prog cfgC (runK Try.prog cfgC fsC noT 16 40) 16 (codeAt [1, 1, 1, 1, 1, 0, 1, 0, 0, 1, 1] B) (S36 pre n c i L y l e) (normC 1 [1, 5, 6, 7, 8]) =
  some (.normal, (S38 pre n c i L y l e)) := by kernel_rfl
noncomputable def S39 (pre : Nat) (n : Nat) (c : Nat) (i : Int) (L : List Int) (y : Int) (l : List Int) (e : TypeId) : KSt := ⟨(frameL 86 [(1, (.slice (some ⟨0, pre, none⟩) n c)), (5, (.int .i64 0)), (6, (.pointer (some ⟨1, 0, none⟩))), (7, (.pointer (some ⟨2, 0, none⟩))), (8, (.int .i64 (i + 1)))]), ⟨5, 1, [(4, 0, .ints .u64 ((List.set L (0 + ((Int.toNat (3 + y)) * 1)) (IntKind.wrap .u64 ((L.getD (0 + ((Int.toNat (3 + y)) * 1)) 0) + 1)))) 26 true), (3, 0, .map [((.int .u64 1), (.slice (some ⟨4, 0, none⟩) 16 16), 0)] 1), (2, 0, .cells [(.int .u64 1), (.int .i64 0)] 30 true), (1, 0, .cells [(.int .i64 200), (.int .i64 16), (.int .i64 0), (.int .u64 1), (.map (some 3))] 48 true), (0, 0, .tail pre .u8 l e)]⟩⟩
theorem rm0 (lg i c0 c1 c2 c3 y : Int) (pre n c : Nat) (l L : List Int) (e : TypeId) (hL : L.length = 16) (hc0 : L.getD 3 0 = c0) (hc1 : L.getD 4 0 = c1) (hc2 : L.getD 5 0 = c2) (hc3 : L.getD 6 0 = c3) (p0 : 0 ≤ c0) (p1 : 0 ≤ c1) (p2 : 0 ≤ c2) (p3 : 0 ≤ c3) (hs : c0 + c1 + c2 + c3 = i) (hi : 0 ≤ i) (hn80 : n ≤ 80) (hc : n ≤ c) (hl : l.length = c) (hcp : c ≤ 9223372036854775807) (hin : i < (n : Int)) (hu : 0 ≤ l.getD ((Int.toNat i) * 1) 0 ∧ l.getD ((Int.toNat i) * 1) 0 < 256) (hy : (bits .and .i64 (Int.tmod (l.getD ((Int.toNat i) * 1) 0) 64) 3) = y) (hy0 : 0 ≤ y) (hy3 : y ≤ 3)   {Q : Ex → St → Prop} (hq : Q .normal (KSt.low (S39 pre n c i L y l e))) : Gets Try.prog (KH.low ⟨1, 1, [(0, 0, .tail pre .u8 l e)]⟩) (codeAt [1, 1, 1, 1, 1, 0, 1, 0, 0] B) (KSt.low (S23 pre n c i L l e)) Q := by
  rw [C1_1_1_1_1_0_1_0_0]; refine Gets.seq ?_
  rw [C1_1_1_1_1_0_1_0_0_0]; refine Gets.seq ?_
  refine Gets.ofN fitC SoundC.no AgreeT.no 16 40 (by kernel_rfl) (x := .normal) (s' := (S24 pre n c i L l e)) (R23 pre n c i L l e) ?_
  show Gets _ _ (codeAt [1, 1, 1, 1, 1, 0, 1, 0, 0, 0, 1] B) _ _
  rw [C1_1_1_1_1_0_1_0_0_0_1]; refine Gets.cond true (by kernel_rfl) ((show evalX (KSt.ts (S24 pre n c i L l e)) (.tmp 31) = .bool (decide (i ≤ ((n : Nat) : Int))) by kernel_rfl).trans (by rw [(show (decide (i ≤ ((n : Nat) : Int))) = true from decide_eq_true (by ((try simp (disch := omega) only [hy, hc0, hc1, hc2, hc3, wrap_i64_id, wrap_u64_id, List.length_set, List.length_replicate]) <;> omega)))])) ?_; show Gets _ _ (codeAt [1, 1, 1, 1, 1, 0, 1, 0, 0, 0, 1, 0] B) _ _
  refine Gets.ofN fitC SoundC.no AgreeT.no 16 40 (by kernel_rfl) (x := .normal) (s' := (S23 pre n c i L l e)) (R24 pre n c i L l e) ?_
  show Gets _ _ (codeAt [1, 1, 1, 1, 1, 0, 1, 0, 0, 1] B) _ _
  rw [C1_1_1_1_1_0_1_0_0_1]; refine Gets.seq ?_
  rw [C1_1_1_1_1_0_1_0_0_1_0]; refine Gets.block ?_
  rw [C1_1_1_1_1_0_1_0_0_1_0_0]; refine Gets.seq ?_
  refine Gets.ofN fitC SoundC.no AgreeT.no 16 40 (by kernel_rfl) (x := .normal) (s' := (S25 pre n c i L l e)) (R25 pre n c i L l e) ?_
  show Gets _ _ (codeAt [1, 1, 1, 1, 1, 0, 1, 0, 0, 1, 0, 0, 1] B) _ _
  rw [C1_1_1_1_1_0_1_0_0_1_0_0_1]; refine Gets.seq ?_
  refine Gets.ofN fitC SoundC.no AgreeT.no 16 40 (by kernel_rfl) (x := .normal) (s' := (S27 pre n c i L c0 c1 c2 c3 l e)) ((R26 pre n c i L l e).trans (by rw [obind_at (k := 3) (by ((try simp (disch := omega) only [hy, hc0, hc1, hc2, hc3, wrap_i64_id, wrap_u64_id, List.length_set, List.length_replicate]) <;> omega)) (by ((try simp (disch := omega) only [hy, hc0, hc1, hc2, hc3, wrap_i64_id, wrap_u64_id, List.length_set, List.length_replicate]) <;> omega)), obind_at (k := 4) (by ((try simp (disch := omega) only [hy, hc0, hc1, hc2, hc3, wrap_i64_id, wrap_u64_id, List.length_set, List.length_replicate]) <;> omega)) (by ((try simp (disch := omega) only [hy, hc0, hc1, hc2, hc3, wrap_i64_id, wrap_u64_id, List.length_set, List.length_replicate]) <;> omega)), obind_at (k := 5) (by ((try simp (disch := omega) only [hy, hc0, hc1, hc2, hc3, wrap_i64_id, wrap_u64_id, List.length_set, List.length_replicate]) <;> omega)) (by ((try simp (disch := omega) only [hy, hc0, hc1, hc2, hc3, wrap_i64_id, wrap_u64_id, List.length_set, List.length_replicate]) <;> omega)), obind_at (k := 6) (by ((try simp (disch := omega) only [hy, hc0, hc1, hc2, hc3, wrap_i64_id, wrap_u64_id, List.length_set, List.length_replicate]) <;> omega)) (by ((try simp (disch := omega) only [hy, hc0, hc1, hc2, hc3, wrap_i64_id, wrap_u64_id, List.length_set, List.length_replicate]) <;> omega))] <;> (show some (Ex.normal, (S28 pre n c i L l e)) = some (Ex.normal, (S27 pre n c i L c0 c1 c2 c3 l e)); unfold S28 S27; rw [(show (L.getD 3 0) = c0 from hc0), (show (L.getD 4 0) = c1 from hc1), (show (L.getD 5 0) = c2 from hc2), (show (L.getD 6 0) = c3 from hc3)]))) ?_
  show Gets _ _ (codeAt [1, 1, 1, 1, 1, 0, 1, 0, 0, 1, 0, 0, 1, 1] B) _ _
  rw [C1_1_1_1_1_0_1_0_0_1_0_0_1_1]; refine Gets.seq ?_
  refine Gets.ofN fitC SoundC.no AgreeT.no 16 40 (by kernel_rfl) (x := .normal) (s' := (S29 pre n c i c0 c1 c2 c3 L l e)) (R27 pre n c i L c0 c1 c2 c3 l e) ?_
  show Gets _ _ (codeAt [1, 1, 1, 1, 1, 0, 1, 0, 0, 1, 0, 0, 1, 1, 1] B) _ _
  rw [C1_1_1_1_1_0_1_0_0_1_0_0_1_1_1]; refine Gets.seq ?_
  rw [C1_1_1_1_1_0_1_0_0_1_0_0_1_1_1_0]; refine Gets.seq ?_
  refine Gets.ofN fitC SoundC.no AgreeT.no 16 40 (by kernel_rfl) (x := .normal) (s' := (S30 pre n c i c0 c1 c2 c3 L l e)) (R28 pre n c i c0 c1 c2 c3 L l e) ?_
  show Gets _ _ (codeAt [1, 1, 1, 1, 1, 0, 1, 0, 0, 1, 0, 0, 1, 1, 1, 0, 1] B) _ _
  rw [C1_1_1_1_1_0_1_0_0_1_0_0_1_1_1_0_1]; refine Gets.cond false (by kernel_rfl) ((show evalX (KSt.ts (S30 pre n c i c0 c1 c2 c3 L l e)) (.tmp 65) = .bool (!((decide ((IntKind.wrap .u64 ((IntKind.wrap .u64 ((IntKind.wrap .u64 ((IntKind.wrap .u64 (0 + c0)) + c1)) + c2)) + c3)) ≥ 7)) == (decide (i ≥ 7)))) by kernel_rfl).trans (by rw [(show (!((decide ((IntKind.wrap .u64 ((IntKind.wrap .u64 ((IntKind.wrap .u64 ((IntKind.wrap .u64 (0 + c0)) + c1)) + c2)) + c3)) ≥ 7)) == (decide (i ≥ 7)))) = false from not_f (sum_dec hs p0 p1 p2 p3 (by omega)))])) ?_; show Gets _ _ (codeAt [1, 1, 1, 1, 1, 0, 1, 0, 0, 1, 0, 0, 1, 1, 1, 0, 1, 1] B) _ _
  refine Gets.ofN fitC SoundC.no AgreeT.no 16 40 (by kernel_rfl) (x := .normal) (s' := (S23 pre n c i L l e)) (R29 pre n c i c0 c1 c2 c3 L l e) ?_
  show Gets _ _ (codeAt [1, 1, 1, 1, 1, 0, 1, 0, 0, 1, 0, 0, 1, 1, 1, 1] B) _ _
  rw [C1_1_1_1_1_0_1_0_0_1_0_0_1_1_1_1]; refine Gets.seq ?_
  refine Gets.ofN fitC SoundC.no AgreeT.no 16 40 (by kernel_rfl) (x := .normal) (s' := (S31 pre n c i L l e)) (R30 pre n c i L l e) ?_
  show Gets _ _ (codeAt [1, 1, 1, 1, 1, 0, 1, 0, 0, 1, 0, 0, 1, 1, 1, 1, 1] B) _ _
  rw [C1_1_1_1_1_0_1_0_0_1_0_0_1_1_1_1_1]; refine Gets.cond true (by kernel_rfl) ((show evalX (KSt.ts (S31 pre n c i L l e)) (.tmp 69) = .bool (decide (i < ((n : Nat) : Int))) by kernel_rfl).trans (by rw [(show (decide (i < ((n : Nat) : Int))) = true from decide_eq_true (by ((try simp (disch := omega) only [hy, hc0, hc1, hc2, hc3, wrap_i64_id, wrap_u64_id, List.length_set, List.length_replicate]) <;> omega)))])) ?_; show Gets _ _ (codeAt [1, 1, 1, 1, 1, 0, 1, 0, 0, 1, 0, 0, 1, 1, 1, 1, 1, 0] B) _ _
  refine Gets.ofN fitC SoundC.no AgreeT.no 16 40 (by kernel_rfl) (x := .normal) (s' := (S36 pre n c i L y l e)) ((R33 pre n c i L l e).trans (by rw [if_pos (⟨by ((try simp (disch := omega) only [hy, hc0, hc1, hc2, hc3, wrap_i64_id, wrap_u64_id, List.length_set, List.length_replicate]) <;> omega), by ((try simp (disch := omega) only [hy, hc0, hc1, hc2, hc3, wrap_i64_id, wrap_u64_id, List.length_set, List.length_replicate]) <;> omega)⟩), condT (ble_t (by ((try simp (disch := omega) only [hy, hc0, hc1, hc2, hc3, wrap_i64_id, wrap_u64_id, List.length_set, List.length_replicate]) <;> omega))), obind_at (k := ((Int.toNat i) * 1)) (by ((try simp (disch := omega) only [hy, hc0, hc1, hc2, hc3, wrap_i64_id, wrap_u64_id, List.length_set, List.length_replicate]) <;> omega)) (by ((try simp (disch := omega) only [hy, hc0, hc1, hc2, hc3, wrap_i64_id, wrap_u64_id, List.length_set, List.length_replicate]) <;> omega)), condF (not_f (decide_eq_true (by ((try simp (disch := omega) only [hy, hc0, hc1, hc2, hc3, wrap_i64_id, wrap_u64_id, List.length_set, List.length_replicate]) <;> omega)))), condF (decide_eq_false (by ((try simp (disch := omega) only [hy, hc0, hc1, hc2, hc3, wrap_i64_id, wrap_u64_id, List.length_set, List.length_replicate]) <;> omega))), condF (decide_eq_false (by ((try simp (disch := omega) only [hy, hc0, hc1, hc2, hc3, wrap_i64_id, wrap_u64_id, List.length_set, List.length_replicate]) <;> omega))), if_pos (⟨by ((try simp (disch := omega) only [hy, hc0, hc1, hc2, hc3, wrap_i64_id, wrap_u64_id, List.length_set, List.length_replicate]) <;> omega), by ((try simp (disch := omega) only [hy, hc0, hc1, hc2, hc3, wrap_i64_id, wrap_u64_id, List.length_set, List.length_replicate]) <;> omega)⟩), obind_at (k := 0 + ((Int.toNat (IntKind.wrap .i64 (3 + (bits .and .i64 (Int.tmod (IntKind.wrap .i64 (l.getD ((Int.toNat i) * 1) 0)) 64) 3)))) * 1)) (by ((try simp (disch := omega) only [hy, hc0, hc1, hc2, hc3, wrap_i64_id, wrap_u64_id, List.length_set, List.length_replicate]) <;> omega)) (by ((try simp (disch := omega) only [hy, hc0, hc1, hc2, hc3, wrap_i64_id, wrap_u64_id, List.length_set, List.length_replicate]) <;> omega)), obind_at (k := 0 + ((Int.toNat (IntKind.wrap .i64 (3 + (bits .and .i64 (Int.tmod (IntKind.wrap .i64 (l.getD ((Int.toNat i) * 1) 0)) 64) 3)))) * 1)) (by ((try simp (disch := omega) only [hy, hc0, hc1, hc2, hc3, wrap_i64_id, wrap_u64_id, List.length_set, List.length_replicate]) <;> omega)) (by ((try simp (disch := omega) only [hy, hc0, hc1, hc2, hc3, wrap_i64_id, wrap_u64_id, List.length_set, List.length_replicate]) <;> omega)), condT (ble_t (by ((try simp (disch := omega) only [hy, hc0, hc1, hc2, hc3, wrap_i64_id, wrap_u64_id, List.length_set, List.length_replicate]) <;> omega)))] <;> (show some (Ex.normal, (S37 pre n c i L l e)) = some (Ex.normal, (S36 pre n c i L y l e)); unfold S37 S36; rw [(show (IntKind.wrap .i64 (l.getD ((Int.toNat i) * 1) 0)) = (l.getD ((Int.toNat i) * 1) 0) from wrap_i64_id (by omega) (by omega)), (show (bits .and .i64 (Int.tmod (l.getD ((Int.toNat i) * 1) 0) 64) 3) = y from hy), (show (IntKind.wrap .i64 (3 + y)) = (3 + y) from wrap_i64_id (by omega) (by omega))]))) ?_
  show Gets _ _ (codeAt [1, 1, 1, 1, 1, 0, 1, 0, 0, 1, 1] B) _ _
  refine Gets.ofN fitC SoundC.no AgreeT.no 16 40 (by kernel_rfl) (x := .normal) (s' := (S39 pre n c i L y l e)) ((R34 pre n c i L y l e).trans (by (show some (Ex.normal, (S38 pre n c i L y l e)) = some (Ex.normal, (S39 pre n c i L y l e)); unfold S38 S39; rw [(show (IntKind.wrap .i64 (i + 1)) = (i + 1) from wrap_i64_id (by omega) (by omega))]))) ?_
  exact hq
theorem C1_1_1_1_1_0_1_0_0_0_1_1 : (codeAt [1, 1, 1, 1, 1, 0, 1, 0, 0, 0, 1, 1] B) = .exit 0 := by kernel_rfl
theorem rx0 (lg i c0 c1 c2 c3 y : Int) (pre n c : Nat) (l L : List Int) (e : TypeId) (hx : (n : Int) < i)   {Q : Ex → St → Prop} (hq : Q (.exit 0) (KSt.low (S24 pre n c i L l e))) : Gets Try.prog (KH.low ⟨1, 1, [(0, 0, .tail pre .u8 l e)]⟩) (codeAt [1, 1, 1, 1, 1, 0, 1, 0, 0] B) (KSt.low (S23 pre n c i L l e)) Q := by
  rw [C1_1_1_1_1_0_1_0_0]; refine Gets.seq ?_
  rw [C1_1_1_1_1_0_1_0_0_0]; refine Gets.seq ?_
  refine Gets.ofN fitC SoundC.no AgreeT.no 16 40 (by kernel_rfl) (x := .normal) (s' := (S24 pre n c i L l e)) (R23 pre n c i L l e) ?_
  show Gets _ _ (codeAt [1, 1, 1, 1, 1, 0, 1, 0, 0, 0, 1] B) _ _
  rw [C1_1_1_1_1_0_1_0_0_0_1]; refine Gets.cond false (by kernel_rfl) ((show evalX (KSt.ts (S24 pre n c i L l e)) (.tmp 31) = .bool (decide (i ≤ ((n : Nat) : Int))) by kernel_rfl).trans (by rw [(show (decide (i ≤ ((n : Nat) : Int))) = false from decide_eq_false (by ((try simp (disch := omega) only [wrap_i64_id, wrap_u64_id, List.length_set, List.length_replicate]) <;> omega)))])) ?_; show Gets _ _ (codeAt [1, 1, 1, 1, 1, 0, 1, 0, 0, 0, 1, 1] B) _ _
  rw [C1_1_1_1_1_0_1_0_0_0_1_1]; refine Gets.ev fitC.mix fitC.cfg (fitC.sound SoundC.no 16 0) 16 rfl (s' := KSt.low (S24 pre n c i L l e)) (x := (.exit 0)) rfl ?_
  exact hq
theorem C1_1_1_1_1_1 : (codeAt [1, 1, 1, 1, 1, 1] B) = .seq (codeAt [1, 1, 1, 1, 1, 1, 0] B) (codeAt [1, 1, 1, 1, 1, 1, 1] B) := by kernel_rfl
noncomputable def S40 (pre : Nat) (l : List Int) (e : TypeId) : KSt := ⟨(frameL 86 [(4, (.bool true))]), ⟨1, 1, [(0, 0, .tail pre .u8 l e)]⟩⟩
theorem R35 (pre : Nat) (n : Nat) (c : Nat) (i : Int) (L : List Int) (l : List Int) (e : TypeId) : evCK Try.prog cfgC (runK Try.prog cfgC fsC noT 16 40) 16 (codeAt [1, 1, 1, 1, 1, 1, 0] B) (S24 pre n c i L l e) (normC 1 [4]) =
  some (.normal, (S40 pre l e)) := by kernel_rfl
theorem C1_1_1_1_1_1_1 : (codeAt [1, 1, 1, 1, 1, 1, 1] B) = .ret := by kernel_rfl
theorem rf0 (lg i c0 c1 c2 c3 y : Int) (pre n c : Nat) (l L : List Int) (e : TypeId)   {Q : Ex → St → Prop} (hq : Q .ret (KSt.low (S40 pre l e))) : Gets Try.prog (KH.low ⟨1, 1, [(0, 0, .tail pre .u8 l e)]⟩) (codeAt [1, 1, 1, 1, 1, 1] B) (KSt.low (S24 pre n c i L l e)) Q := by
  rw [C1_1_1_1_1_1]; refine Gets.seq ?_
  refine Gets.ofN fitC SoundC.no AgreeT.no 16 40 (by kernel_rfl) (x := .normal) (s' := (S40 pre l e)) (R35 pre n c i L l e) ?_
  show Gets _ _ (codeAt [1, 1, 1, 1, 1, 1, 1] B) _ _
  rw [C1_1_1_1_1_1_1]; refine Gets.ev fitC.mix fitC.cfg (fitC.sound SoundC.no 16 0) 16 rfl (s' := KSt.low (S40 pre l e)) (x := .ret) rfl ?_
  exact hq
noncomputable def S41 (pre : Nat) (n : Nat) (c : Nat) (i : Int) (L : List Int) (l : List Int) (e : TypeId) : KSt := ⟨(frameL 86 [(1, (.slice (some ⟨0, pre, none⟩) n c)), (5, (.int .i64 1)), (6, (.pointer (some ⟨1, 0, none⟩))), (7, (.pointer (some ⟨2, 0, none⟩))), (8, (.int .i64 i))]), ⟨5, 1, [(4, 0, .ints .u64 L 26 true), (3, 0, .map [((.int .u64 1), (.slice (some ⟨4, 0, none⟩) 25 25), 0)] 1), (2, 0, .cells [(.int .u64 1), (.int .i64 1)] 30 true), (1, 0, .cells [(.int .i64 200), (.int .i64 25), (.int .i64 0), (.int .u64 1), (.map (some 3))] 48 true), (0, 0, .tail pre .u8 l e)]⟩⟩
noncomputable def S42 (pre : Nat) (n : Nat) (c : Nat) (i : Int) (L : List Int) (l : List Int) (e : TypeId) : KSt := ⟨(frameL 86 [(1, (.slice (some ⟨0, pre, none⟩) n c)), (5, (.int .i64 1)), (6, (.pointer (some ⟨1, 0, none⟩))), (7, (.pointer (some ⟨2, 0, none⟩))), (8, (.int .i64 i)), (31, (.bool (decide (i ≤ ((n : Nat) : Int)))))]), ⟨5, 1, [(4, 0, .ints .u64 L 26 true), (3, 0, .map [((.int .u64 1), (.slice (some ⟨4, 0, none⟩) 25 25), 0)] 1), (2, 0, .cells [(.int .u64 1), (.int .i64 1)] 30 true), (1, 0, .cells [(.int .i64 200), (.int .i64 25), (.int .i64 0), (.int .u64 1), (.map (some 3))] 48 true), (0, 0, .tail pre .u8 l e)]⟩⟩
theorem R36 (pre : Nat) (n : Nat) (c : Nat) (i : Int) (L : List Int) (l : List Int) (e : TypeId) : evCK Try.prog cfgC (runK Try.prog cfgC fsC noT 16 40) 16 (codeAt [1, 1, 1, 1, 1, 0, 1, 0, 0, 0, 0] B) (S41 pre n c i L l e) (normC 1 [1, 5, 6, 7, 8, 31]) =
  some (.normal, (S42 pre n c i L l e)) := by kernel_rfl
theorem R37 (pre : Nat) (n : Nat) (c : Nat) (i : Int) (L : List Int) (l : List Int) (e : TypeId) : evCK Try.prog cfgC (runK Try.prog cfgC fsC noT 16 40) 16 (codeAt [1, 1, 1, 1, 1, 0, 1, 0, 0, 0, 1, 0] B) (S42 pre n c i L l e) (normC 1 [1, 5, 6, 7, 8]) =
  some (.normal, (S41 pre n c i L l e)) := by kernel_rfl
noncomputable def S43 (pre : Nat) (n : Nat) (c : Nat) (i : Int) (L : List Int) (l : List Int) (e : TypeId) : KSt := ⟨(frameL 86 [(1, (.slice (some ⟨0, pre, none⟩) n c)), (5, (.int .i64 1)), (6, (.pointer (some ⟨1, 0, none⟩))), (7, (.pointer (some ⟨2, 0, none⟩))), (8, (.int .i64 i)), (9, (.pointer (some ⟨3, 0, none⟩)))]), ⟨6, 1, [(5, 0, .ints .u64 L 26 true), (4, 0, .map [((.int .u64 1), (.slice (some ⟨5, 0, none⟩) 25 25), 0)] 1), (3, 0, .cells [(.int .u64 1), (.int .i64 1), (.bool true), (.int .i64 0), (.int .u64 0), (.int .u64 0), (.int .u64 0), (.int .u64 0)] 53 true), (2, 0, .cells [(.int .u64 1), (.int .i64 1)] 30 true), (1, 0, .cells [(.int .i64 200), (.int .i64 25), (.int .i64 0), (.int .u64 1), (.map (some 4))] 48 true), (0, 0, .tail pre .u8 l e)]⟩⟩
theorem R38 (pre : Nat) (n : Nat) (c : Nat) (i : Int) (L : List Int) (l : List Int) (e : TypeId) : evCK Try.prog cfgC (runK Try.prog cfgC fsC noT 16 40) 16 (codeAt [1, 1, 1, 1, 1, 0, 1, 0, 0, 1, 0, 0, 0] B) (S41 pre n c i L l e) (normC 1 [1, 5, 6, 7, 8, 9]) =
  some (.normal, (S43 pre n c i L l e)) := by kernel_rfl
noncomputable def S44 (pre : Nat) (n : Nat) (c : Nat) (i : Int) (L : List Int) (n1 : Int) (n2 : Int) (n3 : Int) (n4 : Int) (l : List Int) (e : TypeId) : KSt := ⟨(frameL 86 [(1, (.slice (some ⟨0, pre, none⟩) n c)), (5, (.int .i64 1)), (6, (.pointer (some ⟨1, 0, none⟩))), (7, (.pointer (some ⟨2, 0, none⟩))), (8, (.int .i64 i)), (9, (.pointer (some ⟨3, 0, none⟩))), (10, (.int .i64 4)), (11, (.bool true))]), ⟨6, 1, [(5, 0, .ints .u64 L 26 true), (4, 0, .map [((.int .u64 1), (.slice (some ⟨5, 0, none⟩) 25 25), 0)] 1), (3, 0, .cells [(.int .u64 1), (.int .i64 1), (.bool true), (.int .i64 4), (.int .u64 n1), (.int .u64 n2), (.int .u64 n3), (.int .u64 n4)] 53 true), (2, 0, .cells [(.int .u64 1), (.int .i64 1)] 30 true), (1, 0, .cells [(.int .i64 200), (.int .i64 25), (.int .i64 0), (.int .u64 1), (.map (some 4))] 48 true), (0, 0, .tail pre .u8 l e)]⟩⟩
theorem R39 (pre : Nat) (n : Nat) (c : Nat) (i : Int) (L : List Int) (l : List Int) (e : TypeId) : evCK Try.prog cfgC (runK Try.prog cfgC fsC noT 16 40) 16 (codeAt [1, 1, 1, 1, 1, 0, 1, 0, 0, 1, 0, 0, 1, 0] B) (S43 pre n c i L l e) (normC 1 [1, 5, 6, 7, 8, 9, 10, 11]) =
  obind (L[3]?) fun n1 =>
    obind (L[4]?) fun n2 =>
      obind (L[5]?) fun n3 =>
        obind (L[6]?) fun n4 =>
          some (.normal, (S44 pre n c i L n1 n2 n3 n4 l e)) := by kernel_rfl
noncomputable def S45 (pre : Nat) (n : Nat) (c : Nat) (i : Int) (L : List Int) (c0 : Int) (c1 : Int) (c2 : Int) (c3 : Int) (l : List Int) (e : TypeId) : KSt := ⟨(frameL 86 [(1, (.slice (some ⟨0, pre, none⟩) n c)), (5, (.int .i64 1)), (6, (.pointer (some ⟨1, 0, none⟩))), (7, (.pointer (some ⟨2, 0, none⟩))), (8, (.int .i64 i)), (9, (.pointer (some ⟨3, 0, none⟩))), (10, (.int .i64 4)), (11, (.bool true))]), ⟨6, 1, [(5, 0, .ints .u64 L 26 true), (4, 0, .map [((.int .u64 1), (.slice (some ⟨5, 0, none⟩) 25 25), 0)] 1), (3, 0, .cells [(.int .u64 1), (.int .i64 1), (.bool true), (.int .i64 4), (.int .u64 c0), (.int .u64 c1), (.int .u64 c2), (.int .u64 c3)] 53 true), (2, 0, .cells [(.int .u64 1), (.int .i64 1)] 30 true), (1, 0, .cells [(.int .i64 200), (.int .i64 25), (.int .i64 0), (.int .u64 1), (.map (some 4))] 48 true), (0, 0, .tail pre .u8 l e)]⟩⟩
noncomputable def S46 (pre : Nat) (n : Nat) (c : Nat) (i : Int) (L : List Int) (l : List Int) (e : TypeId) : KSt := ⟨(frameL 86 [(1, (.slice (some ⟨0, pre, none⟩) n c)), (5, (.int .i64 1)), (6, (.pointer (some ⟨1, 0, none⟩))), (7, (.pointer (some ⟨2, 0, none⟩))), (8, (.int .i64 i)), (9, (.pointer (some ⟨3, 0, none⟩))), (10, (.int .i64 4)), (11, (.bool true))]), ⟨6, 1, [(5, 0, .ints .u64 L 26 true), (4, 0, .map [((.int .u64 1), (.slice (some ⟨5, 0, none⟩) 25 25), 0)] 1), (3, 0, .cells [(.int .u64 1), (.int .i64 1), (.bool true), (.int .i64 4), (.int .u64 (L.getD 3 0)), (.int .u64 (L.getD 4 0)), (.int .u64 (L.getD 5 0)), (.int .u64 (L.getD 6 0))] 53 true), (2, 0, .cells [(.int .u64 1), (.int .i64 1)] 30 true), (1, 0, .cells [(.int .i64 200), (.int .i64 25), (.int .i64 0), (.int .u64 1), (.map (some 4))] 48 true), (0, 0, .tail pre .u8 l e)]⟩⟩
noncomputable def S47 (pre : Nat) (n : Nat) (c : Nat) (i : Int) (c0 : Int) (c1 : Int) (c2 : Int) (c3 : Int) (L : List Int) (l : List Int) (e : TypeId) : KSt := ⟨(frameL 86 [(1, (.slice (some ⟨0, pre, none⟩) n c)), (5, (.int .i64 1)), (6, (.pointer (some ⟨1, 0, none⟩))), (7, (.pointer (some ⟨2, 0, none⟩))), (8, (.int .i64 i)), (10, (.int .i64 4)), (11, (.bool true)), (12, (.bool (decide ((IntKind.wrap .u64 ((IntKind.wrap .u64 ((IntKind.wrap .u64 ((IntKind.wrap .u64 (0 + c0)) + c1)) + c2)) + c3)) ≥ 14)))), (13, (.bool true))]), ⟨5, 1, [(4, 0, .ints .u64 L 26 true), (3, 0, .map [((.int .u64 1), (.slice (some ⟨4, 0, none⟩) 25 25), 0)] 1), (2, 0, .cells [(.int .u64 1), (.int .i64 1)] 30 true), (1, 0, .cells [(.int .i64 200), (.int .i64 25), (.int .i64 0), (.int .u64 1), (.map (some 3))] 48 true), (0, 0, .tail pre .u8 l e)]⟩⟩
theorem R40 (pre : Nat) (n : Nat) (c : Nat) (i : Int) (L : List Int) (c0 : Int) (c1 : Int) (c2 : Int) (c3 : Int) (l : List Int) (e : TypeId) : evCK Try.prog cfgC (runK Try.prog cfgC fsC noT 16 40) 16 (codeAt [1, 1, 1, 1, 1, 0, 1, 0, 0, 1, 0, 0, 1, 1, 0] B) (S45 pre n c i L c0 c1 c2 c3 l e) (normC 1 [1, 5, 6, 7, 8, 10, 11, 12, 13]) =
  some (.normal, (S47 pre n c i c0 c1 c2 c3 L l e)) := by kernel_rfl
noncomputable def S48 (pre : Nat) (n : Nat) (c : Nat) (i : Int) (c0 : Int) (c1 : Int) (c2 : Int) (c3 : Int) (L : List Int) (l : List Int) (e : TypeId) : KSt := ⟨(frameL 86 [(1, (.slice (some ⟨0, pre, none⟩) n c)), (5, (.int .i64 1)), (6, (.pointer (some ⟨1, 0, none⟩))), (7, (.pointer (some ⟨2, 0, none⟩))), (8, (.int .i64 i)), (65, (.bool (!((decide ((IntKind.wrap .u64 ((IntKind.wrap .u64 ((IntKind.wrap .u64 ((IntKind.wrap .u64 (0 + c0)) + c1)) + c2)) + c3)) ≥ 14)) == (decide (i ≥ 14))))))]), ⟨5, 1, [(4, 0, .ints .u64 L 26 true), (3, 0, .map [((.int .u64 1), (.slice (some ⟨4, 0, none⟩) 25 25), 0)] 1), (2, 0, .cells [(.int .u64 1), (.int .i64 1)] 30 true), (1, 0, .cells [(.int .i64 200), (.int .i64 25), (.int .i64 0), (.int .u64 1), (.map (some 3))] 48 true), (0, 0, .tail pre .u8 l e)]⟩⟩
theorem R41 (pre : Nat) (n : Nat) (c : Nat) (i : Int) (c0 : Int) (c1 : Int) (c2 : Int) (c3 : Int) (L : List Int) (l : List Int) (e : TypeId) : evCK Try.prog cfgC (runK Try.prog cfgC fsC noT 16 40) 16 (codeAt [1, 1, 1, 1, 1, 0, 1, 0, 0, 1, 0, 0, 1, 1, 1, 0, 0] B) (S47 pre n c i c0 c1 c2 c3 L l e) (normC 1 [1, 5, 6, 7, 8, 65]) =
  some (.normal, (S48 pre n c i c0 c1 c2 c3 L l e)) := by kernel_rfl
theorem R42 (pre : Nat) (n : Nat) (c : Nat) (i : Int) (c0 : Int) (c1 : Int) (c2 : Int) (c3 : Int) (L : List Int) (l : List Int) (e : TypeId) : evCK Try.prog cfgC (runK Try.prog cfgC fsC noT 16 40) 16 (codeAt [1, 1, 1, 1, 1, 0, 1, 0, 0, 1, 0, 0, 1, 1, 1, 0, 1, 1] B) (S48 pre n c i c0 c1 c2 c3 L l e) (normC 1 [1, 5, 6, 7, 8]) =
  some (.normal, (S41 pre n c i L l e)) := by kernel_rfl
noncomputable def S49 (pre : Nat) (n : Nat) (c : Nat) (i : Int) (L : List Int) (l : List Int) (e : TypeId) : KSt := ⟨(frameL 86 [(1, (.slice (some ⟨0, pre, none⟩) n c)), (5, (.int .i64 1)), (6, (.pointer (some ⟨1, 0, none⟩))), (7, (.pointer (some ⟨2, 0, none⟩))), (8, (.int .i64 i)), (69, (.bool (decide (i < ((n : Nat) : Int)))))]), ⟨5, 1, [(4, 0, .ints .u64 L 26 true), (3, 0, .map [((.int .u64 1), (.slice (some ⟨4, 0, none⟩) 25 25), 0)] 1), (2, 0, .cells [(.int .u64 1), (.int .i64 1)] 30 true), (1, 0, .cells [(.int .i64 200), (.int .i64 25), (.int .i64 0), (.int .u64 1), (.map (some 3))] 48 true), (0, 0, .tail pre .u8 l e)]⟩⟩
theorem R43 (pre : Nat) (n : Nat) (c : Nat) (i : Int) (L : List Int) (l : List Int) (e : TypeId) : evCK Try.prog cfgC (runK Try.prog cfgC fsC noT 16 40) 16 (codeAt [1, 1, 1, 1, 1, 0, 1, 0, 0, 1, 0, 0, 1, 1, 1, 1, 0] B) (S41 pre n c i L l e) (normC 1 [1, 5, 6, 7, 8, 69]) =
  some (.normal, (S49 pre n c i L l e)) := by kernel_rfl
theorem R44 (pre : Nat) (n : Nat) (c : Nat) (i : Int) (L : List Int) (l : List Int) (e : TypeId) : evCK Try.prog cfgC (runK Try.prog cfgC fsC noT 16 40) 16 (codeAt [1, 1, 1, 1, 1, 0, 1, 0, 0, 1, 0, 0, 1, 1, 1, 1, 1, 1] B) (S49 pre n c i L l e) (normC 1 [1, 5, 6, 7, 8]) =
  some (.normal, (S41 pre n c i L l e)) := by kernel_rfl
noncomputable def S50 (pre : Nat) (n : Nat) (c : Nat) (i : Int) (L : List Int) (l : List Int) (e : TypeId) : KSt := ⟨(frameL 86 [(1, (.slice (some ⟨0, pre, none⟩) n c)), (5, (.int .i64 1)), (6, (.pointer (some ⟨1, 0, none⟩))), (7, (.pointer (some ⟨2, 0, none⟩))), (8, (.int .i64 (IntKind.wrap .i64 (i + 1))))]), ⟨5, 1, [(4, 0, .ints .u64 L 26 true), (3, 0, .map [((.int .u64 1), (.slice (some ⟨4, 0, none⟩) 25 25), 0)] 1), (2, 0, .cells [(.int .u64 1), (.int .i64 1)] 30 true), (1, 0, .cells [(.int .i64 200), (.int .i64 25), (.int .i64 0), (.int .u64 1), (.map (some 3))] 48 true), (0, 0, .tail pre .u8 l e)]⟩⟩
theorem R45 (pre : Nat) (n : Nat) (c : Nat) (i : Int) (L : List Int) (l : List Int) (e : TypeId) : evCK Try.prog cfgC (runK Try.prog cfgC fsC noT 16 40) 16 (codeAt [1, 1, 1, 1, 1, 0, 1, 0, 0, 1, 1] B) (S41 pre n c i L l e) (normC 1 [1, 5, 6, 7, 8]) =
  some (.normal, (S50 pre n c i L l e)) := by kernel_rfl
noncomputable def S51 (pre : Nat) (n : Nat) (c : Nat) (i : Int) (L : List Int) (l : List Int) (e : TypeId) : KSt := ⟨(frameL 86 [(1, (.slice (some ⟨0, pre, none⟩) n c)), (5, (.int .i64 1)), (6, (.pointer (some ⟨1, 0, none⟩))), (7, (.pointer (some ⟨2, 0, none⟩))), (8, (.int .i64 (i + 1)))]), ⟨5, 1, [(4, 0, .ints .u64 L 26 true), (3, 0, .map [((.int .u64 1), (.slice (some ⟨4, 0, none⟩) 25 25), 0)] 1), (2, 0, .cells [(.int .u64 1), (.int .i64 1)] 30 true), (1, 0, .cells [(.int .i64 200), (.int .i64 25), (.int .i64 0), (.int .u64 1), (.map (some 3))] 48 true), (0, 0, .tail pre .u8 l e)]⟩⟩
theorem re1 (lg i c0 c1 c2 c3 y : Int) (pre n c : Nat) (l L : List Int) (e : TypeId) (hL : L.length = 25) (hc0 : L.getD 3 0 = c0) (hc1 : L.getD 4 0 = c1) (hc2 : L.getD 5 0 = c2) (hc3 : L.getD 6 0 = c3) (p0 : 0 ≤ c0) (p1 : 0 ≤ c1) (p2 : 0 ≤ c2) (p3 : 0 ≤ c3) (hs : c0 + c1 + c2 + c3 = i) (hi : 0 ≤ i) (hn80 : n ≤ 80) (hc : n ≤ c) (hl : l.length = c) (hcp : c ≤ 9223372036854775807) (hin : i = (n : Int))   {Q : Ex → St → Prop} (hq : Q .normal (KSt.low (S51 pre n c i L l e))) : Gets Try.prog (KH.low ⟨1, 1, [(0, 0, .tail pre .u8 l e)]⟩) (codeAt [1, 1, 1, 1, 1, 0, 1, 0, 0] B) (KSt.low (S41 pre n c i L l e)) Q := by
  rw [C1_1_1_1_1_0_1_0_0]; refine Gets.seq ?_
  rw [C1_1_1_1_1_0_1_0_0_0]; refine Gets.seq ?_
  refine Gets.ofN fitC SoundC.no AgreeT.no 16 40 (by kernel_rfl) (x := .normal) (s' := (S42 pre n c i L l e)) (R36 pre n c i L l e) ?_
  show Gets _ _ (codeAt [1, 1, 1, 1, 1, 0, 1, 0, 0, 0, 1] B) _ _
  rw [C1_1_1_1_1_0_1_0_0_0_1]; refine Gets.cond true (by kernel_rfl) ((show evalX (KSt.ts (S42 pre n c i L l e)) (.tmp 31) = .bool (decide (i ≤ ((n : Nat) : Int))) by kernel_rfl).trans (by rw [(show (decide (i ≤ ((n : Nat) : Int))) = true from decide_eq_true (by ((try simp (disch := omega) only [hc0, hc1, hc2, hc3, wrap_i64_id, wrap_u64_id, List.length_set, List.length_replicate]) <;> omega)))])) ?_; show Gets _ _ (codeAt [1, 1, 1, 1, 1, 0, 1, 0, 0, 0, 1, 0] B) _ _
  refine Gets.ofN fitC SoundC.no AgreeT.no 16 40 (by kernel_rfl) (x := .normal) (s' := (S41 pre n c i L l e)) (R37 pre n c i L l e) ?_
  show Gets _ _ (codeAt [1, 1, 1, 1, 1, 0, 1, 0, 0, 1] B) _ _
  rw [C1_1_1_1_1_0_1_0_0_1]; refine Gets.seq ?_
  rw [C1_1_1_1_1_0_1_0_0_1_0]; refine Gets.block ?_
  rw [C1_1_1_1_1_0_1_0_0_1_0_0]; refine Gets.seq ?_
  refine Gets.ofN fitC SoundC.no AgreeT.no 16 40 (by kernel_rfl) (x := .normal) (s' := (S43 pre n c i L l e)) (R38 pre n c i L l e) ?_
  show Gets _ _ (codeAt [1, 1, 1, 1, 1, 0, 1, 0, 0, 1, 0, 0, 1] B) _ _
  rw [C1_1_1_1_1_0_1_0_0_1_0_0_1]; refine Gets.seq ?_
  refine Gets.ofN fitC SoundC.no AgreeT.no 16 40 (by kernel_rfl) (x := .normal) (s' := (S45 pre n c i L c0 c1 c2 c3 l e)) ((R39 pre n c i L l e).trans (by rw [obind_at (k := 3) (by ((try simp (disch := omega) only [hc0, hc1, hc2, hc3, wrap_i64_id, wrap_u64_id, List.length_set, List.length_replicate]) <;> omega)) (by ((try simp (disch := omega) only [hc0, hc1, hc2, hc3, wrap_i64_id, wrap_u64_id, List.length_set, List.length_replicate]) <;> omega)), obind_at (k := 4) (by ((try simp (disch := omega) only [hc0, hc1, hc2, hc3, wrap_i64_id, wrap_u64_id, List.length_set, List.length_replicate]) <;> omega)) (by ((try simp (disch := omega) only [hc0, hc1, hc2, hc3, wrap_i64_id, wrap_u64_id, List.length_set, List.length_replicate]) <;> omega)), obind_at (k := 5) (by ((try simp (disch := omega) only [hc0, hc1, hc2, hc3, wrap_i64_id, wrap_u64_id, List.length_set, List.length_replicate]) <;> omega)) (by ((try simp (disch := omega) only [hc0, hc1, hc2, hc3, wrap_i64_id, wrap_u64_id, List.length_set, List.length_replicate]) <;> omega)), obind_at (k := 6) (by ((try simp (disch := omega) only [hc0, hc1, hc2, hc3, wrap_i64_id, wrap_u64_id, List.length_set, List.length_replicate]) <;> omega)) (by ((try simp (disch := omega) only [hc0, hc1, hc2, hc3, wrap_i64_id, wrap_u64_id, List.length_set, List.length_replicate]) <;> omega))] <;> (show some (Ex.normal, (S46 pre n c i L l e)) = some (Ex.normal, (S45 pre n c i L c0 c1 c2 c3 l e)); unfold S46 S45; rw [(show (L.getD 3 0) = c0 from hc0), (show (L.getD 4 0) = c1 from hc1), (show (L.getD 5 0) = c2 from hc2), (show (L.getD 6 0) = c3 from hc3)]))) ?_
  show Gets _ _ (codeAt [1, 1, 1, 1, 1, 0, 1, 0, 0, 1, 0, 0, 1, 1] B) _ _
  rw [C1_1_1_1_1_0_1_0_0_1_0_0_1_1]; refine Gets.seq ?_
  refine Gets.ofN fitC SoundC.no AgreeT.no 16 40 (by kernel_rfl) (x := .normal) (s' := (S47 pre n c i c0 c1 c2 c3 L l e)) (R40 pre n c i L c0 c1 c2 c3 l e) ?_
  show Gets _ _ (codeAt [1, 1, 1, 1, 1, 0, 1, 0, 0, 1, 0, 0, 1, 1, 1] B) _ _
  rw [C1_1_1_1_1_0_1_0_0_1_0_0_1_1_1]; refine Gets.seq ?_
  rw [C1_1_1_1_1_0_1_0_0_1_0_0_1_1_1_0]; refine Gets.seq ?_
  refine Gets.ofN fitC SoundC.no AgreeT.no 16 40 (by kernel_rfl) (x := .normal) (s' := (S48 pre n c i c0 c1 c2 c3 L l e)) (R41 pre n c i c0 c1 c2 c3 L l e) ?_
  show Gets _ _ (codeAt [1, 1, 1, 1, 1, 0, 1, 0, 0, 1, 0, 0, 1, 1, 1, 0, 1] B) _ _
  rw [C1_1_1_1_1_0_1_0_0_1_0_0_1_1_1_0_1]; refine Gets.cond false (by kernel_rfl) ((show evalX (KSt.ts (S48 pre n c i c0 c1 c2 c3 L l e)) (.tmp 65) = .bool (!((decide ((IntKind.wrap .u64 ((IntKind.wrap .u64 ((IntKind.wrap .u64 ((IntKind.wrap .u64 (0 + c0)) + c1)) + c2)) + c3)) ≥ 14)) == (decide (i ≥ 14)))) by kernel_rfl).trans (by rw [(show (!((decide ((IntKind.wrap .u64 ((IntKind.wrap .u64 ((IntKind.wrap .u64 ((IntKind.wrap .u64 (0 + c0)) + c1)) + c2)) + c3)) ≥ 14)) == (decide (i ≥ 14)))) = false from not_f (sum_dec hs p0 p1 p2 p3 (by omega)))])) ?_; show Gets _ _ (codeAt [1, 1, 1, 1, 1, 0, 1, 0, 0, 1, 0, 0, 1, 1, 1, 0, 1, 1] B) _ _
  refine Gets.ofN fitC SoundC.no AgreeT.no 16 40 (by kernel_rfl) (x := .normal) (s' := (S41 pre n c i L l e)) (R42 pre n c i c0 c1 c2 c3 L l e) ?_
  show Gets _ _ (codeAt [1, 1, 1, 1, 1, 0, 1, 0, 0, 1, 0, 0, 1, 1, 1, 1] B) _ _
  rw [C1_1_1_1_1_0_1_0_0_1_0_0_1_1_1_1]; refine Gets.seq ?_
  refine Gets.ofN fitC SoundC.no AgreeT.no 16 40 (by kernel_rfl) (x := .normal) (s' := (S49 pre n c i L l e)) (R43 pre n c i L l e) ?_
  show Gets _ _ (codeAt [1, 1, 1, 1, 1, 0, 1, 0, 0, 1, 0, 0, 1, 1, 1, 1, 1] B) _ _
  rw [C1_1_1_1_1_0_1_0_0_1_0_0_1_1_1_1_1]; refine Gets.cond false (by kernel_rfl) ((show evalX (KSt.ts (S49 pre n c i L l e)) (.tmp 69) = .bool (decide (i < ((n : Nat) : Int))) by kernel_rfl).trans (by rw [(show (decide (i < ((n : Nat) : Int))) = false from decide_eq_false (by ((try simp (disch := omega) only [hc0, hc1, hc2, hc3, wrap_i64_id, wrap_u64_id, List.length_set, List.length_replicate]) <;> omega)))])) ?_; show Gets _ _ (codeAt [1, 1, 1, 1, 1, 0, 1, 0, 0, 1, 0, 0, 1, 1, 1, 1, 1, 1] B) _ _
  refine Gets.ofN fitC SoundC.no AgreeT.no 16 40 (by kernel_rfl) (x := .normal) (s' := (S41 pre n c i L l e)) (R44 pre n c i L l e) ?_
  show Gets _ _ (codeAt [1, 1, 1, 1, 1, 0, 1, 0, 0, 1, 1] B) _ _
  refine Gets.ofN fitC SoundC.no AgreeT.no 16 40 (by kernel_rfl) (x := .normal) (s' := (S51 pre n c i L l e)) ((R45 pre n c i L l e).trans (by (show some (Ex.normal, (S50 pre n c i L l e)) = some (Ex.normal, (S51 pre n c i L l e)); unfold S50 S51; rw [(show (IntKind.wrap .i64 (i + 1)) = (i + 1) from wrap_i64_id (by omega) (by omega))]))) ?_
  exact hq
noncomputable def S52 (pre : Nat) (n : Nat) (c : Nat) (i : Int) (L : List Int) (l : List Int) (e : TypeId) : KSt := ⟨(frameL 86 [(1, (.slice (some ⟨0, pre, none⟩) n c)), (5, (.int .i64 1)), (6, (.pointer (some ⟨1, 0, none⟩))), (7, (.pointer (some ⟨2, 0, none⟩))), (8, (.int .i64 i))]), ⟨5, 1, [(4, 0, .ints .u64 L 26 true), (3, 0, .map [((.int .u64 1), (.slice (some ⟨4, 0, none⟩) 25 25), 0)] 1), (2, 0, .cells [(.int .u64 1), (.int .i64 1)] 30 true), (1, 0, .cells [(.int .i64 200), (.int .i64 25), (.int .i64 1), (.int .u64 1), (.map (some 3))] 48 true), (0, 0, .tail pre .u8 l e)]⟩⟩
noncomputable def S53 (pre : Nat) (n : Nat) (c : Nat) (i : Int) (L : List Int) (n1 : Int) (n3 : Int) (l : List Int) (e : TypeId) : KSt := ⟨(frameL 86 [(1, (.slice (some ⟨0, pre, none⟩) n c)), (5, (.int .i64 1)), (6, (.pointer (some ⟨1, 0, none⟩))), (7, (.pointer (some ⟨2, 0, none⟩))), (8, (.int .i64 i))]), ⟨5, 1, [(4, 0, .ints .u64 ((List.set L (0 + ((Int.toNat ((IntKind.wrap .i64 (3 + (bits .and .i64 (Int.tmod (IntKind.wrap .i64 n1) 64) 3))))) * 1)) (IntKind.wrap .u64 (n3 + 1)))) 26 true), (3, 0, .map [((.int .u64 1), (.slice (some ⟨4, 0, none⟩) 25 25), 0)] 1), (2, 0, .cells [(.int .u64 1), (.int .i64 1)] 30 true), (1, 0, .cells [(.int .i64 200), (.int .i64 25), (.int .i64 0), (.int .u64 1), (.map (some 3))] 48 true), (0, 0, .tail pre .u8 l e)]⟩⟩
theorem R46 (pre : Nat) (n : Nat) (c : Nat) (i : Int) (L : List Int) (l : List Int) (e : TypeId) : evCK Try.prog cfgC (runK Try.prog cfgC fsC noT 16 40) 16 (codeAt [1, 1, 1, 1, 1, 0, 1, 0, 0, 1, 0, 0, 1, 1, 1, 1, 1, 0] B) (S49 pre n c i L l e) (normC 1 [1, 5, 6, 7, 8]) =
  if 0 ≤ i ∧ i < ((n : Nat) : Int) then
    bif (Nat.ble pre (pre + ((Int.toNat i) * 1))) then
      obind (l[((pre + ((Int.toNat i) * 1)) - pre)]?) fun n1 =>
        bif (!(decide ((IntKind.wrap .i64 (3 + (bits .and .i64 (Int.tmod (IntKind.wrap .i64 n1) 64) 3))) ≥ 0))) then
          some (.normal, (S41 pre n c i L l e))
        else
          bif (decide ((IntKind.wrap .i64 (3 + (bits .and .i64 (Int.tmod (IntKind.wrap .i64 n1) 64) 3))) < 0)) then
            some (.normal, (S52 pre n c i L l e))
          else
            bif (decide ((IntKind.wrap .i64 (3 + (bits .and .i64 (Int.tmod (IntKind.wrap .i64 n1) 64) 3))) ≥ 25)) then
              some (.normal, (S52 pre n c i L l e))
            else
              if 0 ≤ (IntKind.wrap .i64 (3 + (bits .and .i64 (Int.tmod (IntKind.wrap .i64 n1) 64) 3))) ∧ (IntKind.wrap .i64 (3 + (bits .and .i64 (Int.tmod (IntKind.wrap .i64 n1) 64) 3))) < 25 then
                obind (L[(0 + ((Int.toNat ((IntKind.wrap .i64 (3 + (bits .and .i64 (Int.tmod (IntKind.wrap .i64 n1) 64) 3))))) * 1))]?) fun n2 =>
                  obind (L[(0 + ((Int.toNat ((IntKind.wrap .i64 (3 + (bits .and .i64 (Int.tmod (IntKind.wrap .i64 n1) 64) 3))))) * 1))]?) fun n3 =>
                    bif (Nat.ble ((0 + ((Int.toNat ((IntKind.wrap .i64 (3 + (bits .and .i64 (Int.tmod (IntKind.wrap .i64 n1) 64) 3))))) * 1)) + 1) (List.length L)) then
                      some (.normal, (S53 pre n c i L n1 n3 l e))
                    else
                      none
              else
                none
    else
      none
  else
    none := by kernel_rfl
noncomputable def S54 (pre : Nat) (n : Nat) (c : Nat) (i : Int) (L : List Int) (y : Int) (l : List Int) (e : TypeId) : KSt := ⟨(frameL 86 [(1, (.slice (some ⟨0, pre, none⟩) n c)), (5, (.int .i64 1)), (6, (.pointer (some ⟨1, 0, none⟩))), (7, (.pointer (some ⟨2, 0, none⟩))), (8, (.int .i64 i))]), ⟨5, 1, [(4, 0, .ints .u64 ((List.set L (0 + ((Int.toNat (3 + y)) * 1)) (IntKind.wrap .u64 ((L.getD (0 + ((Int.toNat (3 + y)) * 1)) 0) + 1)))) 26 true), (3, 0, .map [((.int .u64 1), (.slice (some ⟨4, 0, none⟩) 25 25), 0)] 1), (2, 0, .cells [(.int .u64 1), (.int .i64 1)] 30 true), (1, 0, .cells [(.int .i64 200), (.int .i64 25), (.int .i64 0), (.int .u64 1), (.map (some 3))] 48 true), (0, 0, .tail pre .u8 l e)]⟩⟩
noncomputable def S55 (pre : Nat) (n : Nat) (c : Nat) (i : Int) (L : List Int) (l : List Int) (e : TypeId) : KSt := ⟨(frameL 86 [(1, (.slice (some ⟨0, pre, none⟩) n c)), (5, (.int .i64 1)), (6, (.pointer (some ⟨1, 0, none⟩))), (7, (.pointer (some ⟨2, 0, none⟩))), (8, (.int .i64 i))]), ⟨5, 1, [(4, 0, .ints .u64 ((List.set L (0 + ((Int.toNat (IntKind.wrap .i64 (3 + (bits .and .i64 (Int.tmod (IntKind.wrap .i64 (l.getD ((Int.toNat i) * 1) 0)) 64) 3)))) * 1)) (IntKind.wrap .u64 ((L.getD (0 + ((Int.toNat (IntKind.wrap .i64 (3 + (bits .and .i64 (Int.tmod (IntKind.wrap .i64 (l.getD ((Int.toNat i) * 1) 0)) 64) 3)))) * 1)) 0) + 1)))) 26 true), (3, 0, .map [((.int .u64 1), (.slice (some ⟨4, 0, none⟩) 25 25), 0)] 1), (2, 0, .cells [(.int .u64 1), (.int .i64 1)] 30 true), (1, 0, .cells [(.int .i64 200), (.int .i64 25), (.int .i64 0), (.int .u64 1), (.map (some 3))] 48 true), (0, 0, .tail pre .u8 l e)]⟩⟩
noncomputable def S56 (pre : Nat) (n : Nat) (c : Nat) (i : Int) (L : List Int) (y : Int) (l : List Int) (e : TypeId) : KSt := ⟨(frameL 86 [(1, (.slice (some ⟨0, pre, none⟩) n c)), (5, (.int .i64 1)), (6, (.pointer (some ⟨1, 0, none⟩))), (7, (.pointer (some ⟨2, 0, none⟩))), (8, (.int .i64 (IntKind.wrap .i64 (i + 1))))]), ⟨5, 1, [(4, 0, .ints .u64 ((List.set L (0 + ((Int.toNat (3 + y)) * 1)) (IntKind.wrap .u64 ((L.getD (0 + ((Int.toNat (3 + y)) * 1)) 0) + 1)))) 26 true), (3, 0, .map [((.int .u64 1), (.slice (some ⟨4, 0, none⟩) 25 25), 0)] 1), (2, 0, .cells [(.int .u64 1), (.int .i64 1)] 30 true), (1, 0, .cells [(.int .i64 200), (.int .i64 25), (.int .i64 0), (.int .u64 1), (.map (some 3))] 48 true), (0, 0, .tail pre .u8 l e)]⟩⟩
theorem R47 (pre : Nat) (n : Nat) (c : Nat) (i : Int) (L : List Int) (y : Int) (l : List Int) (e : TypeId) : evCK Try.prog cfgC (runK Try.prog cfgC fsC noT 16 40) 16 (codeAt [1, 1, 1, 1, 1, 0, 1, 0, 0, 1, 1] B) (S54 pre n c i L y l e) (normC 1 [1, 5, 6, 7, 8]) =
  some (.normal, (S56 pre n c i L y l e)) := by kernel_rfl
noncomputable def S57 (pre : Nat) (n : Nat) (c : Nat) (i : Int) (L : List Int) (y : Int) (l : List Int) (e : TypeId) : KSt := ⟨(frameL 86 [(1, (.slice (some ⟨0, pre, none⟩) n c)), (5, (.int .i64 1)), (6, (.pointer (some ⟨1, 0, none⟩))), (7, (.pointer (some ⟨2, 0, none⟩))), (8, (.int .i64 (i + 1)))]), ⟨5, 1, [(4, 0, .ints .u64 ((List.set L (0 + ((Int.toNat (3 + y)) * 1)) (IntKind.wrap .u64 ((L.getD (0 + ((Int.toNat (3 + y)) * 1)) 0) + 1)))) 26 true), (3, 0, .map [((.int .u64 1), (.slice (some ⟨4, 0, none⟩) 25 25), 0)] 1), (2, 0, .cells [(.int .u64 1), (.int .i64 1)] 30 true), (1, 0, .cells [(.int .i64 200), (.int .i64 25), (.int .i64 0), (.int .u64 1), (.map (some 3))] 48 true), (0, 0, .tail pre .u8 l e)]⟩⟩
theorem rm1 (lg i c0 c1 c2 c3 y : Int) (pre n c : Nat) (l L : List Int) (e : TypeId) (hL : L.length = 25) (hc0 : L.getD 3 0 = c0) (hc1 : L.getD 4 0 = c1) (hc2 : L.getD 5 0 = c2) (hc3 : L.getD 6 0 = c3) (p0 : 0 ≤ c0) (p1 : 0 ≤ c1) (p2 : 0 ≤ c2) (p3 : 0 ≤ c3) (hs : c0 + c1 + c2 + c3 = i) (hi : 0 ≤ i) (hn80 : n ≤ 80) (hc : n ≤ c) (hl : l.length = c) (hcp : c ≤ 9223372036854775807) (hin : i < (n : Int)) (hu : 0 ≤ l.getD ((Int.toNat i) * 1) 0 ∧ l.getD ((Int.toNat i) * 1) 0 < 256) (hy : (bits .and .i64 (Int.tmod (l.getD ((Int.toNat i) * 1) 0) 64) 3) = y) (hy0 : 0 ≤ y) (hy3 : y ≤ 3)   {Q : Ex → St → Prop} (hq : Q .normal (KSt.low (S57 pre n c i L y l e))) : Gets Try.prog (KH.low ⟨1, 1, [(0, 0, .tail pre .u8 l e)]⟩) (codeAt [1, 1, 1, 1, 1, 0, 1, 0, 0] B) (KSt.low (S41 pre n c i L l e)) Q := by
  rw [C1_1_1_1_1_0_1_0_0]; refine Gets.seq ?_
  rw [C1_1_1_1_1_0_1_0_0_0]; refine Gets.seq ?_
  refine Gets.ofN fitC SoundC.no AgreeT.no 16 40 (by kernel_rfl) (x := .normal) (s' := (S42 pre n c i L l e)) (R36 pre n c i L l e) ?_
  show Gets _ _ (codeAt [1, 1, 1, 1, 1, 0, 1, 0, 0, 0, 1] B) _ _
  rw [C1_1_1_1_1_0_1_0_0_0_1]; refine Gets.cond true (by kernel_rfl) ((show evalX (KSt.ts (S42 pre n c i L l e)) (.tmp 31) = .bool (decide (i ≤ ((n : Nat) : Int))) by kernel_rfl).trans (by rw [(show (decide (i ≤ ((n : Nat) : Int))) = true from decide_eq_true (by ((try simp (disch := omega) only [hy, hc0, hc1, hc2, hc3, wrap_i64_id, wrap_u64_id, List.length_set, List.length_replicate]) <;> omega)))])) ?_; show Gets _ _ (codeAt [1, 1, 1, 1, 1, 0, 1, 0, 0, 0, 1, 0] B) _ _
  refine Gets.ofN fitC SoundC.no AgreeT.no 16 40 (by kernel_rfl) (x := .normal) (s' := (S41 pre n c i L l e)) (R37 pre n c i L l e) ?_
  show Gets _ _ (codeAt [1, 1, 1, 1, 1, 0, 1, 0, 0, 1] B) _ _
  rw [C1_1_1_1_1_0_1_0_0_1]; refine Gets.seq ?_
  rw [C1_1_1_1_1_0_1_0_0_1_0]; refine Gets.block ?_
  rw [C1_1_1_1_1_0_1_0_0_1_0_0]; refine Gets.seq ?_
  refine Gets.ofN fitC SoundC.no AgreeT.no 16 40 (by kernel_rfl) (x := .normal) (s' := (S43 pre n c i L l e)) (R38 pre n c i L l e) ?_
  show Gets _ _ (codeAt [1, 1, 1, 1, 1, 0, 1, 0, 0, 1, 0, 0, 1] B) _ _
  rw [C1_1_1_1_1_0_1_0_0_1_0_0_1]; refine Gets.seq ?_
  refine Gets.ofN fitC SoundC.no AgreeT.no 16 40 (by kernel_rfl) (x := .normal) (s' := (S45 pre n c i L c0 c1 c2 c3 l e)) ((R39 pre n c i L l e).trans (by rw [obind_at (k := 3) (by ((try simp (disch := omega) only [hy, hc0, hc1, hc2, hc3, wrap_i64_id, wrap_u64_id, List.length_set, List.length_replicate]) <;> omega)) (by ((try simp (disch := omega) only [hy, hc0, hc1, hc2, hc3, wrap_i64_id, wrap_u64_id, List.length_set, List.length_replicate]) <;> omega)), obind_at (k := 4) (by ((try simp (disch := omega) only [hy, hc0, hc1, hc2, hc3, wrap_i64_id, wrap_u64_id, List.length_set, List.length_replicate]) <;> omega)) (by ((try simp (disch := omega) only [hy, hc0, hc1, hc2, hc3, wrap_i64_id, wrap_u64_id, List.length_set, List.length_replicate]) <;> omega)), obind_at (k := 5) (by ((try simp (disch := omega) only [hy, hc0, hc1, hc2, hc3, wrap_i64_id, wrap_u64_id, List.length_set, List.length_replicate]) <;> omega)) (by ((try simp (disch := omega) only [hy, hc0, hc1, hc2, hc3, wrap_i64_id, wrap_u64_id, List.length_set, List.length_replicate]) <;> omega)), obind_at (k := 6) (by ((try simp (disch := omega) only [hy, hc0, hc1, hc2, hc3, wrap_i64_id, wrap_u64_id, List.length_set, List.length_replicate]) <;> omega)) (by ((try simp (disch := omega) only [hy, hc0, hc1, hc2, hc3, wrap_i64_id, wrap_u64_id, List.length_set, List.length_replicate]) <;> omega))] <;> (show some (Ex.normal, (S46 pre n c i L l e)) = some (Ex.normal, (S45 pre n c i L c0 c1 c2 c3 l e)); unfold S46 S45; rw [(show (L.getD 3 0) = c0 from hc0), (show (L.getD 4 0) = c1 from hc1), (show (L.getD 5 0) = c2 from hc2), (show (L.getD 6 0) = c3 from hc3)]))) ?_
  show Gets _ _ (codeAt [1, 1, 1, 1, 1, 0, 1, 0, 0, 1, 0, 0, 1, 1] B) _ _
  rw [C1_1_1_1_1_0_1_0_0_1_0_0_1_1]; refine Gets.seq ?_
  refine Gets.ofN fitC SoundC.no AgreeT.no 16 40 (by kernel_rfl) (x := .normal) (s' := (S47 pre n c i c0 c1 c2 c3 L l e)) (R40 pre n c i L c0 c1 c2 c3 l e) ?_
  show Gets _ _ (codeAt [1, 1, 1, 1, 1, 0, 1, 0, 0, 1, 0, 0, 1, 1, 1] B) _ _
  rw [C1_1_1_1_1_0_1_0_0_1_0_0_1_1_1]; refine Gets.seq ?_
  rw [C1_1_1_1_1_0_1_0_0_1_0_0_1_1_1_0]; refine Gets.seq ?_
  refine Gets.ofN fitC SoundC.no AgreeT.no 16 40 (by kernel_rfl) (x := .normal) (s' := (S48 pre n c i c0 c1 c2 c3 L l e)) (R41 pre n c i c0 c1 c2 c3 L l e) ?_
  show Gets _ _ (codeAt [1, 1, 1, 1, 1, 0, 1, 0, 0, 1, 0, 0, 1, 1, 1, 0, 1] B) _ _
  rw [C1_1_1_1_1_0_1_0_0_1_0_0_1_1_1_0_1]; refine Gets.cond false (by kernel_rfl) ((show evalX (KSt.ts (S48 pre n c i c0 c1 c2 c3 L l e)) (.tmp 65) = .bool (!((decide ((IntKind.wrap .u64 ((IntKind.wrap .u64 ((IntKind.wrap .u64 ((IntKind.wrap .u64 (0 + c0)) + c1)) + c2)) + c3)) ≥ 14)) == (decide (i ≥ 14)))) by kernel_rfl).trans (by rw [(show (!((decide ((IntKind.wrap .u64 ((IntKind.wrap .u64 ((IntKind.wrap .u64 ((IntKind.wrap .u64 (0 + c0)) + c1)) + c2)) + c3)) ≥ 14)) == (decide (i ≥ 14)))) = false from not_f (sum_dec hs p0 p1 p2 p3 (by omega)))])) ?_; show Gets _ _ (codeAt [1, 1, 1, 1, 1, 0, 1, 0, 0, 1, 0, 0, 1, 1, 1, 0, 1, 1] B) _ _
  refine Gets.ofN fitC SoundC.no AgreeT.no 16 40 (by kernel_rfl) (x := .normal) (s' := (S41 pre n c i L l e)) (R42 pre n c i c0 c1 c2 c3 L l e) ?_
  show Gets _ _ (codeAt [1, 1, 1, 1, 1, 0, 1, 0, 0, 1, 0, 0, 1, 1, 1, 1] B) _ _
  rw [C1_1_1_1_1_0_1_0_0_1_0_0_1_1_1_1]; refine Gets.seq ?_
  refine Gets.ofN fitC SoundC.no AgreeT.no 16 40 (by kernel_rfl) (x := .normal) (s' := (S49 pre n c i L l e)) (R43 pre n c i L l e) ?_
  show Gets _ _ (codeAt [1, 1, 1, 1, 1, 0, 1, 0, 0, 1, 0, 0, 1, 1, 1, 1, 1] B) _ _
  rw [C1_1_1_1_1_0_1_0_0_1_0_0_1_1_1_1_1]; refine Gets.cond true (by kernel_rfl) ((show evalX (KSt.ts (S49 pre n c i L l e)) (.tmp 69) = .bool (decide (i < ((n : Nat) : Int))) by kernel_rfl).trans (by rw [(show (decide (i < ((n : Nat) : Int))) = true from decide_eq_true (by ((try simp (disch := omega) only [hy, hc0, hc1, hc2, hc3, wrap_i64_id, wrap_u64_id, List.length_set, List.length_replicate]) <;> omega)))])) ?_; show Gets _ _ (codeAt [1, 1, 1, 1, 1, 0, 1, 0, 0, 1, 0, 0, 1, 1, 1, 1, 1, 0] B) _ _
  refine Gets.ofN fitC SoundC.no AgreeT.no 16 40 (by kernel_rfl) (x := .normal) (s' := (S54 pre n c i L y l e)) ((R46 pre n c i L l e).trans (by rw [if_pos (⟨by ((try simp (disch := omega) only [hy, hc0, hc1, hc2, hc3, wrap_i64_id, wrap_u64_id, List.length_set, List.length_replicate]) <;> omega), by ((try simp (disch := omega) only [hy, hc0, hc1, hc2, hc3, wrap_i64_id, wrap_u64_id, List.length_set, List.length_replicate]) <;> omega)⟩), condT (ble_t (by ((try simp (disch := omega) only [hy, hc0, hc1, hc2, hc3, wrap_i64_id, wrap_u64_id, List.length_set, List.length_replicate]) <;> omega))), obind_at (k := ((Int.toNat i) * 1)) (by ((try simp (disch := omega) only [hy, hc0, hc1, hc2, hc3, wrap_i64_id, wrap_u64_id, List.length_set, List.length_replicate]) <;> omega)) (by ((try simp (disch := omega) only [hy, hc0, hc1, hc2, hc3, wrap_i64_id, wrap_u64_id, List.length_set, List.length_replicate]) <;> omega)), condF (not_f (decide_eq_true (by ((try simp (disch := omega) only [hy, hc0, hc1, hc2, hc3, wrap_i64_id, wrap_u64_id, List.length_set, List.length_replicate]) <;> omega)))), condF (decide_eq_false (by ((try simp (disch := omega) only [hy, hc0, hc1, hc2, hc3, wrap_i64_id, wrap_u64_id, List.length_set, List.length_replicate]) <;> omega))), condF (decide_eq_false (by ((try simp (disch := omega) only [hy, hc0, hc1, hc2, hc3, wrap_i64_id, wrap_u64_id, List.length_set, List.length_replicate]) <;> omega))), if_pos (⟨by ((try simp (disch := omega) only [hy, hc0, hc1, hc2, hc3, wrap_i64_id, wrap_u64_id, List.length_set, List.length_replicate]) <;> omega), by ((try simp (disch := omega) only [hy, hc0, hc1, hc2, hc3, wrap_i64_id, wrap_u64_id, List.length_set, List.length_replicate]) <;> omega)⟩), obind_at (k := 0 + ((Int.toNat (IntKind.wrap .i64 (3 + (bits .and .i64 (Int.tmod (IntKind.wrap .i64 (l.getD ((Int.toNat i) * 1) 0)) 64) 3)))) * 1)) (by ((try simp (disch := omega) only [hy, hc0, hc1, hc2, hc3, wrap_i64_id, wrap_u64_id, List.length_set, List.length_replicate]) <;> omega)) (by ((try simp (disch := omega) only [hy, hc0, hc1, hc2, hc3, wrap_i64_id, wrap_u64_id, List.length_set, List.length_replicate]) <;> omega)), obind_at (k := 0 + ((Int.toNat (IntKind.wrap .i64 (3 + (bits .and .i64 (Int.tmod (IntKind.wrap .i64 (l.getD ((Int.toNat i) * 1) 0)) 64) 3)))) * 1)) (by ((try simp (disch := omega) only [hy, hc0, hc1, hc2, hc3, wrap_i64_id, wrap_u64_id, List.length_set, List.length_replicate]) <;> omega)) (by ((try simp (disch := omega) only [hy, hc0, hc1, hc2, hc3, wrap_i64_id, wrap_u64_id, List.length_set, List.length_replicate]) <;> omega)), condT (ble_t (by ((try simp (disch := omega) only [hy, hc0, hc1, hc2, hc3, wrap_i64_id, wrap_u64_id, List.length_set, List.length_replicate]) <;> omega)))] <;> (show some (Ex.normal, (S55 pre n c i L l e)) = some (Ex.normal, (S54 pre n c i L y l e)); unfold S55 S54; rw [(show (IntKind.wrap .i64 (l.getD ((Int.toNat i) * 1) 0)) = (l.getD ((Int.toNat i) * 1) 0) from wrap_i64_id (by omega) (by omega)), (show (bits .and .i64 (Int.tmod (l.getD ((Int.toNat i) * 1) 0) 64) 3) = y from hy), (show (IntKind.wrap .i64 (3 + y)) = (3 + y) from wrap_i64_id (by omega) (by omega))]))) ?_
  show Gets _ _ (codeAt [1, 1, 1, 1, 1, 0, 1, 0, 0, 1, 1] B) _ _
  refine Gets.ofN fitC SoundC.no AgreeT.no 16 40 (by kernel_rfl) (x := .normal) (s' := (S57 pre n c i L y l e)) ((R47 pre n c i L y l e).trans (by (show some (Ex.normal, (S56 pre n c i L y l e)) = some (Ex.normal, (S57 pre n c i L y l e)); unfold S56 S57; rw [(show (IntKind.wrap .i64 (i + 1)) = (i + 1) from wrap_i64_id (by omega) (by omega))]))) ?_
  exact hq
theorem rx1 (lg i c0 c1 c2 c3 y : Int) (pre n c : Nat) (l L : List Int) (e : TypeId) (hx : (n : Int) < i)   {Q : Ex → St → Prop} (hq : Q (.exit 0) (KSt.low (S42 pre n c i L l e))) : Gets Try.prog (KH.low ⟨1, 1, [(0, 0, .tail pre .u8 l e)]⟩) (codeAt [1, 1, 1, 1, 1, 0, 1, 0, 0] B) (KSt.low (S41 pre n c i L l e)) Q := by
  rw [C1_1_1_1_1_0_1_0_0]; refine Gets.seq ?_
  rw [C1_1_1_1_1_0_1_0_0_0]; refine Gets.seq ?_
  refine Gets.ofN fitC SoundC.no AgreeT.no 16 40 (by kernel_rfl) (x := .normal) (s' := (S42 pre n c i L l e)) (R36 pre n c i L l e) ?_
  show Gets _ _ (codeAt [1, 1, 1, 1, 1, 0, 1, 0, 0, 0, 1] B) _ _
  rw [C1_1_1_1_1_0_1_0_0_0_1]; refine Gets.cond false (by kernel_rfl) ((show evalX (KSt.ts (S42 pre n c i L l e)) (.tmp 31) = .bool (decide (i ≤ ((n : Nat) : Int))) by kernel_rfl).trans (by rw [(show (decide (i ≤ ((n : Nat) : Int))) = false from decide_eq_false (by ((try simp (disch := omega) only [wrap_i64_id, wrap_u64_id, List.length_set, List.length_replicate]) <;> omega)))])) ?_; show Gets _ _ (codeAt [1, 1, 1, 1, 1, 0, 1, 0, 0, 0, 1, 1] B) _ _
  rw [C1_1_1_1_1_0_1_0_0_0_1_1]; refine Gets.ev fitC.mix fitC.cfg (fitC.sound SoundC.no 16 0) 16 rfl (s' := KSt.low (S42 pre n c i L l e)) (x := (.exit 0)) rfl ?_
  exact hq
theorem R48 (pre : Nat) (n : Nat) (c : Nat) (i : Int) (L : List Int) (l : List Int) (e : TypeId) : evCK Try.prog cfgC (runK Try.prog cfgC fsC noT 16 40) 16 (codeAt [1, 1, 1, 1, 1, 1, 0] B) (S42 pre n c i L l e) (normC 1 [4]) =
  some (.normal, (S40 pre l e)) := by kernel_rfl
theorem rf1 (lg i c0 c1 c2 c3 y : Int) (pre n c : Nat) (l L : List Int) (e : TypeId)   {Q : Ex → St → Prop} (hq : Q .ret (KSt.low (S40 pre l e))) : Gets Try.prog (KH.low ⟨1, 1, [(0, 0, .tail pre .u8 l e)]⟩) (codeAt [1, 1, 1, 1, 1, 1] B) (KSt.low (S42 pre n c i L l e)) Q := by
  rw [C1_1_1_1_1_1]; refine Gets.seq ?_
  refine Gets.ofN fitC SoundC.no AgreeT.no 16 40 (by kernel_rfl) (x := .normal) (s' := (S40 pre l e)) (R48 pre n c i L l e) ?_
  show Gets _ _ (codeAt [1, 1, 1, 1, 1, 1, 1] B) _ _
  rw [C1_1_1_1_1_1_1]; refine Gets.ev fitC.mix fitC.cfg (fitC.sound SoundC.no 16 0) 16 rfl (s' := KSt.low (S40 pre l e)) (x := .ret) rfl ?_
  exact hq
noncomputable def S58 (pre : Nat) (n : Nat) (c : Nat) (i : Int) (L : List Int) (l : List Int) (e : TypeId) : KSt := ⟨(frameL 86 [(1, (.slice (some ⟨0, pre, none⟩) n c)), (5, (.int .i64 2)), (6, (.pointer (some ⟨1, 0, none⟩))), (7, (.pointer (some ⟨2, 0, none⟩))), (8, (.int .i64 i))]), ⟨5, 1, [(4, 0, .ints .u64 L 26 true), (3, 0, .map [((.int .u64 1), (.slice (some ⟨4, 0, none⟩) 43 43), 0)] 1), (2, 0, .cells [(.int .u64 1), (.int .i64 2)] 30 true), (1, 0, .cells [(.int .i64 200), (.int .i64 43), (.int .i64 0), (.int .u64 1), (.map (some 3))] 48 true), (0, 0, .tail pre .u8 l e)]⟩⟩
noncomputable def S59 (pre : Nat) (n : Nat) (c : Nat) (i : Int) (L : List Int) (l : List Int) (e : TypeId) : KSt := ⟨(frameL 86 [(1, (.slice (some ⟨0, pre, none⟩) n c)), (5, (.int .i64 2)), (6, (.pointer (some ⟨1, 0, none⟩))), (7, (.pointer (some ⟨2, 0, none⟩))), (8, (.int .i64 i)), (31, (.bool (decide (i ≤ ((n : Nat) : Int)))))]), ⟨5, 1, [(4, 0, .ints .u64 L 26 true), (3, 0, .map [((.int .u64 1), (.slice (some ⟨4, 0, none⟩) 43 43), 0)] 1), (2, 0, .cells [(.int .u64 1), (.int .i64 2)] 30 true), (1, 0, .cells [(.int .i64 200), (.int .i64 43), (.int .i64 0), (.int .u64 1), (.map (some 3))] 48 true), (0, 0, .tail pre .u8 l e)]⟩⟩
theorem R49 (pre : Nat) (n : Nat) (c : Nat) (i : Int) (L : List Int) (l : List Int) (e : TypeId) : evCK Try.prog cfgC (runK Try.prog cfgC fsC noT 16 40) 16 (codeAt [1, 1, 1, 1, 1, 0, 1, 0, 0, 0, 0] B) (S58 pre n c i L l e) (normC 1 [1, 5, 6, 7, 8, 31]) =
  some (.normal, (S59 pre n c i L l e)) := by kernel_rfl
theorem R50 (pre : Nat) (n : Nat) (c : Nat) (i : Int) (L : List Int) (l : List Int) (e : TypeId) : evCK Try.prog cfgC (runK Try.prog cfgC fsC noT 16 40) 16 (codeAt [1, 1, 1, 1, 1, 0, 1, 0, 0, 0, 1, 0] B) (S59 pre n c i L l e) (normC 1 [1, 5, 6, 7, 8]) =
  some (.normal, (S58 pre n c i L l e)) := by kernel_rfl
noncomputable def S60 (pre : Nat) (n : Nat) (c : Nat) (i : Int) (L : List Int) (l : List Int) (e : TypeId) : KSt := ⟨(frameL 86 [(1, (.slice (some ⟨0, pre, none⟩) n c)), (5, (.int .i64 2)), (6, (.pointer (some ⟨1, 0, none⟩))), (7, (.pointer (some ⟨2, 0, none⟩))), (8, (.int .i64 i)), (9, (.pointer (some ⟨3, 0, none⟩)))]), ⟨6, 1, [(5, 0, .ints .u64 L 26 true), (4, 0, .map [((.int .u64 1), (.slice (some ⟨5, 0, none⟩) 43 43), 0)] 1), (3, 0, .cells [(.int .u64 1), (.int .i64 2), (.bool true), (.int .i64 0), (.int .u64 0), (.int .u64 0), (.int .u64 0), (.int .u64 0)] 53 true), (2, 0, .cells [(.int .u64 1), (.int .i64 2)] 30 true), (1, 0, .cells [(.int .i64 200), (.int .i64 43), (.int .i64 0), (.int .u64 1), (.map (some 4))] 48 true), (0, 0, .tail pre .u8 l e)]⟩⟩
theorem R51 (pre : Nat) (n : Nat) (c : Nat) (i : Int) (L : List Int) (l : List Int) (e : TypeId) : evCK Try.prog cfgC (runK Try.prog cfgC fsC noT 16 40) 16 (codeAt [1, 1, 1, 1, 1, 0, 1, 0, 0, 1, 0, 0, 0] B) (S58 pre n c i L l e) (normC 1 [1, 5, 6, 7, 8, 9]) =
  some (.normal, (S60 pre n c i L l e)) := by kernel_rfl
noncomputable def S61 (pre : Nat) (n : Nat) (c : Nat) (i : Int) (L : List Int) (n1 : Int) (n2 : Int) (n3 : Int) (n4 : Int) (l : List Int) (e : TypeId) : KSt := ⟨(frameL 86 [(1, (.slice (some ⟨0, pre, none⟩) n c)), (5, (.int .i64 2)), (6, (.pointer (some ⟨1, 0, none⟩))), (7, (.pointer (some ⟨2, 0, none⟩))), (8, (.int .i64 i)), (9, (.pointer (some ⟨3, 0, none⟩))), (10, (.int .i64 4)), (11, (.bool true))]), ⟨6, 1, [(5, 0, .ints .u64 L 26 true), (4, 0, .map [((.int .u64 1), (.slice (some ⟨5, 0, none⟩) 43 43), 0)] 1), (3, 0, .cells [(.int .u64 1), (.int .i64 2), (.bool true), (.int .i64 4), (.int .u64 n1), (.int .u64 n2), (.int .u64 n3), (.int .u64 n4)] 53 true), (2, 0, .cells [(.int .u64 1), (.int .i64 2)] 30 true), (1, 0, .cells [(.int .i64 200), (.int .i64 43), (.int .i64 0), (.int .u64 1), (.map (some 4))] 48 true), (0, 0, .tail pre .u8 l e)]⟩⟩
theorem R52 (pre : Nat) (n : Nat) (c : Nat) (i : Int) (L : List Int) (l : List Int) (e : TypeId) : evCK Try.prog cfgC (runK Try.prog cfgC fsC noT 16 40) 16 (codeAt [1, 1, 1, 1, 1, 0, 1, 0, 0, 1, 0, 0, 1, 0] B) (S60 pre n c i L l e) (normC 1 [1, 5, 6, 7, 8, 9, 10, 11]) =
  obind (L[3]?) fun n1 =>
    obind (L[4]?) fun n2 =>
      obind (L[5]?) fun n3 =>
        obind (L[6]?) fun n4 =>
          some (.normal, (S61 pre n c i L n1 n2 n3 n4 l e)) := by kernel_rfl
noncomputable def S62 (pre : Nat) (n : Nat) (c : Nat) (i : Int) (L : List Int) (c0 : Int) (c1 : Int) (c2 : Int) (c3 : Int) (l : List Int) (e : TypeId) : KSt := ⟨(frameL 86 [(1, (.slice (some ⟨0, pre, none⟩) n c)), (5, (.int .i64 2)), (6, (.pointer (some ⟨1, 0, none⟩))), (7, (.pointer (some ⟨2, 0, none⟩))), (8, (.int .i64 i)), (9, (.pointer (some ⟨3, 0, none⟩))), (10, (.int .i64 4)), (11, (.bool true))]), ⟨6, 1, [(5, 0, .ints .u64 L 26 true), (4, 0, .map [((.int .u64 1), (.slice (some ⟨5, 0, none⟩) 43 43), 0)] 1), (3, 0, .cells [(.int .u64 1), (.int .i64 2), (.bool true), (.int .i64 4), (.int .u64 c0), (.int .u64 c1), (.int .u64 c2), (.int .u64 c3)] 53 true), (2, 0, .cells [(.int .u64 1), (.int .i64 2)] 30 true), (1, 0, .cells [(.int .i64 200), (.int .i64 43), (.int .i64 0), (.int .u64 1), (.map (some 4))] 48 true), (0, 0, .tail pre .u8 l e)]⟩⟩
noncomputable def S63 (pre : Nat) (n : Nat) (c : Nat) (i : Int) (L : List Int) (l : List Int) (e : TypeId) : KSt := ⟨(frameL 86 [(1, (.slice (some ⟨0, pre, none⟩) n c)), (5, (.int .i64 2)), (6, (.pointer (some ⟨1, 0, none⟩))), (7, (.pointer (some ⟨2, 0, none⟩))), (8, (.int .i64 i)), (9, (.pointer (some ⟨3, 0, none⟩))), (10, (.int .i64 4)), (11, (.bool true))]), ⟨6, 1, [(5, 0, .ints .u64 L 26 true), (4, 0, .map [((.int .u64 1), (.slice (some ⟨5, 0, none⟩) 43 43), 0)] 1), (3, 0, .cells [(.int .u64 1), (.int .i64 2), (.bool true), (.int .i64 4), (.int .u64 (L.getD 3 0)), (.int .u64 (L.getD 4 0)), (.int .u64 (L.getD 5 0)), (.int .u64 (L.getD 6 0))] 53 true), (2, 0, .cells [(.int .u64 1), (.int .i64 2)] 30 true), (1, 0, .cells [(.int .i64 200), (.int .i64 43), (.int .i64 0), (.int .u64 1), (.map (some 4))] 48 true), (0, 0, .tail pre .u8 l e)]⟩⟩
noncomputable def S64 (pre : Nat) (n : Nat) (c : Nat) (i : Int) (c0 : Int) (c1 : Int) (c2 : Int) (c3 : Int) (L : List Int) (l : List Int) (e : TypeId) : KSt := ⟨(frameL 86 [(1, (.slice (some ⟨0, pre, none⟩) n c)), (5, (.int .i64 2)), (6, (.pointer (some ⟨1, 0, none⟩))), (7, (.pointer (some ⟨2, 0, none⟩))), (8, (.int .i64 i)), (10, (.int .i64 4)), (11, (.bool true)), (12, (.bool (decide ((IntKind.wrap .u64 ((IntKind.wrap .u64 ((IntKind.wrap .u64 ((IntKind.wrap .u64 (0 + c0)) + c1)) + c2)) + c3)) ≥ 28)))), (13, (.bool true))]), ⟨5, 1, [(4, 0, .ints .u64 L 26 true), (3, 0, .map [((.int .u64 1), (.slice (some ⟨4, 0, none⟩) 43 43), 0)] 1), (2, 0, .cells [(.int .u64 1), (.int .i64 2)] 30 true), (1, 0, .cells [(.int .i64 200), (.int .i64 43), (.int .i64 0), (.int .u64 1), (.map (some 3))] 48 true), (0, 0, .tail pre .u8 l e)]⟩⟩
theorem R53 (pre : Nat) (n : Nat) (c : Nat) (i : Int) (L : List Int) (c0 : Int) (c1 : Int) (c2 : Int) (c3 : Int) (l : List Int) (e : TypeId) : evCK Try.prog cfgC (runK Try.prog cfgC fsC noT 16 40) 16 (codeAt [1, 1, 1, 1, 1, 0, 1, 0, 0, 1, 0, 0, 1, 1, 0] B) (S62 pre n c i L c0 c1 c2 c3 l e) (normC 1 [1, 5, 6, 7, 8, 10, 11, 12, 13]) =
  some (.normal, (S64 pre n c i c0 c1 c2 c3 L l e)) := by kernel_rfl
noncomputable def S65 (pre : Nat) (n : Nat) (c : Nat) (i : Int) (c0 : Int) (c1 : Int) (c2 : Int) (c3 : Int) (L : List Int) (l : List Int) (e : TypeId) : KSt := ⟨(frameL 86 [(1, (.slice (some ⟨0, pre, none⟩) n c)), (5, (.int .i64 2)), (6, (.pointer (some ⟨1, 0, none⟩))), (7, (.pointer (some ⟨2, 0, none⟩))), (8, (.int .i64 i)), (65, (.bool (!((decide ((IntKind.wrap .u64 ((IntKind.wrap .u64 ((IntKind.wrap .u64 ((IntKind.wrap .u64 (0 + c0)) + c1)) + c2)) + c3)) ≥ 28)) == (decide (i ≥ 28))))))]), ⟨5, 1, [(4, 0, .ints .u64 L 26 true), (3, 0, .map [((.int .u64 1), (.slice (some ⟨4, 0, none⟩) 43 43), 0)] 1), (2, 0, .cells [(.int .u64 1), (.int .i64 2)] 30 true), (1, 0, .cells [(.int .i64 200), (.int .i64 43), (.int .i64 0), (.int .u64 1), (.map (some 3))] 48 true), (0, 0, .tail pre .u8 l e)]⟩⟩
theorem R54 (pre : Nat) (n : Nat) (c : Nat) (i : Int) (c0 : Int) (c1 : Int) (c2 : Int) (c3 : Int) (L : List Int) (l : List Int) (e : TypeId) : evCK Try.prog cfgC (runK Try.prog cfgC fsC noT 16 40) 16 (codeAt [1, 1, 1, 1, 1, 0, 1, 0, 0, 1, 0, 0, 1, 1, 1, 0, 0] B) (S64 pre n c i c0 c1 c2 c3 L l e) (normC 1 [1, 5, 6, 7, 8, 65]) =
  some (.normal, (S65 pre n c i c0 c1 c2 c3 L l e)) := by kernel_rfl
theorem R55 (pre : Nat) (n : Nat) (c : Nat) (i : Int) (c0 : Int) (c1 : Int) (c2 : Int) (c3 : Int) (L : List Int) (l : List Int) (e : TypeId) : evCK Try.prog cfgC (runK Try.prog cfgC fsC noT 16 40) 16 (codeAt [1, 1, 1, 1, 1, 0, 1, 0, 0, 1, 0, 0, 1, 1, 1, 0, 1, 1] B) (S65 pre n c i c0 c1 c2 c3 L l e) (normC 1 [1, 5, 6, 7, 8]) =
  some (.normal, (S58 pre n c i L l e)) := by kernel_rfl
noncomputable def S66 (pre : Nat) (n : Nat) (c : Nat) (i : Int) (L : List Int) (l : List Int) (e : TypeId) : KSt := ⟨(frameL 86 [(1, (.slice (some ⟨0, pre, none⟩) n c)), (5, (.int .i64 2)), (6, (.pointer (some ⟨1, 0, none⟩))), (7, (.pointer (some ⟨2, 0, none⟩))), (8, (.int .i64 i)), (69, (.bool (decide (i < ((n : Nat) : Int)))))]), ⟨5, 1, [(4, 0, .ints .u64 L 26 true), (3, 0, .map [((.int .u64 1), (.slice (some ⟨4, 0, none⟩) 43 43), 0)] 1), (2, 0, .cells [(.int .u64 1), (.int .i64 2)] 30 true), (1, 0, .cells [(.int .i64 200), (.int .i64 43), (.int .i64 0), (.int .u64 1), (.map (some 3))] 48 true), (0, 0, .tail pre .u8 l e)]⟩⟩
theorem R56 (pre : Nat) (n : Nat) (c : Nat) (i : Int) (L : List Int) (l : List Int) (e : TypeId) : evCK Try.prog cfgC (runK Try.prog cfgC fsC noT 16 40) 16 (codeAt [1, 1, 1, 1, 1, 0, 1, 0, 0, 1, 0, 0, 1, 1, 1, 1, 0] B) (S58 pre n c i L l e) (normC 1 [1, 5, 6, 7, 8, 69]) =
  some (.normal, (S66 pre n c i L l e)) := by kernel_rfl
theorem R57 (pre : Nat) (n : Nat) (c : Nat) (i : Int) (L : List Int) (l : List Int) (e : TypeId) : evCK Try.prog cfgC (runK Try.prog cfgC fsC noT 16 40) 16 (codeAt [1, 1, 1, 1, 1, 0, 1, 0, 0, 1, 0, 0, 1, 1, 1, 1, 1, 1] B) (S66 pre n c i L l e) (normC 1 [1, 5, 6, 7, 8]) =
  some (.normal, (S58 pre n c i L l e)) := by kernel_rfl
noncomputable def S67 (pre : Nat) (n : Nat) (c : Nat) (i : Int) (L : List Int) (l : List Int) (e : TypeId) : KSt := ⟨(frameL 86 [(1, (.slice (some ⟨0, pre, none⟩) n c)), (5, (.int .i64 2)), (6, (.pointer (some ⟨1, 0, none⟩))), (7, (.pointer (some ⟨2, 0, none⟩))), (8, (.int .i64 (IntKind.wrap .i64 (i + 1))))]), ⟨5, 1, [(4, 0, .ints .u64 L 26 true), (3, 0, .map [((.int .u64 1), (.slice (some ⟨4, 0, none⟩) 43 43), 0)] 1), (2, 0, .cells [(.int .u64 1), (.int .i64 2)] 30 true), (1, 0, .cells [(.int .i64 200), (.int .i64 43), (.int .i64 0), (.int .u64 1), (.map (some 3))] 48 true), (0, 0, .tail pre .u8 l e)]⟩⟩
theorem R58 (pre : Nat) (n : Nat) (c : Nat) (i : Int) (L : List Int) (l : List Int) (e : TypeId) : evCK Try.prog cfgC (runK Try.prog cfgC fsC noT 16 40) 16 (codeAt [1, 1, 1, 1, 1, 0, 1, 0, 0, 1, 1] B) (S58 pre n c i L l e) (normC 1 [1, 5, 6, 7, 8]) =
  some (.normal, (S67 pre n c i L l e)) := by kernel_rfl
noncomputable def S68 (pre : Nat) (n : Nat) (c : Nat) (i : Int) (L : List Int) (l : List Int) (e : TypeId) : KSt := ⟨(frameL 86 [(1, (.slice (some ⟨0, pre, none⟩) n c)), (5, (.int .i64 2)), (6, (.pointer (some ⟨1, 0, none⟩))), (7, (.pointer (some ⟨2, 0, none⟩))), (8, (.int .i64 (i + 1)))]), ⟨5, 1, [(4, 0, .ints .u64 L 26 true), (3, 0, .map [((.int .u64 1), (.slice (some ⟨4, 0, none⟩) 43 43), 0)] 1), (2, 0, .cells [(.int .u64 1), (.int .i64 2)] 30 true), (1, 0, .cells [(.int .i64 200), (.int .i64 43), (.int .i64 0), (.int .u64 1), (.map (some 3))] 48 true), (0, 0, .tail pre .u8 l e)]⟩⟩
theorem re2 (lg i c0 c1 c2 c3 y : Int) (pre n c : Nat) (l L : List Int) (e : TypeId) (hL : L.length = 43) (hc0 : L.getD 3 0 = c0) (hc1 : L.getD 4 0 = c1) (hc2 : L.getD 5 0 = c2) (hc3 : L.getD 6 0 = c3) (p0 : 0 ≤ c0) (p1 : 0 ≤ c1) (p2 : 0 ≤ c2) (p3 : 0 ≤ c3) (hs : c0 + c1 + c2 + c3 = i) (hi : 0 ≤ i) (hn80 : n ≤ 80) (hc : n ≤ c) (hl : l.length = c) (hcp : c ≤ 9223372036854775807) (hin : i = (n : Int))   {Q : Ex → St → Prop} (hq : Q .normal (KSt.low (S68 pre n c i L l e))) : Gets Try.prog (KH.low ⟨1, 1, [(0, 0, .tail pre .u8 l e)]⟩) (codeAt [1, 1, 1, 1, 1, 0, 1, 0, 0] B) (KSt.low (S58 pre n c i L l e)) Q := by
  rw [C1_1_1_1_1_0_1_0_0]; refine Gets.seq ?_
  rw [C1_1_1_1_1_0_1_0_0_0]; refine Gets.seq ?_
  refine Gets.ofN fitC SoundC.no AgreeT.no 16 40 (by kernel_rfl) (x := .normal) (s' := (S59 pre n c i L l e)) (R49 pre n c i L l e) ?_
  show Gets _ _ (codeAt [1, 1, 1, 1, 1, 0, 1, 0, 0, 0, 1] B) _ _
  rw [C1_1_1_1_1_0_1_0_0_0_1]; refine Gets.cond true (by kernel_rfl) ((show evalX (KSt.ts (S59 pre n c i L l e)) (.tmp 31) = .bool (decide (i ≤ ((n : Nat) : Int))) by kernel_rfl).trans (by rw [(show (decide (i ≤ ((n : Nat) : Int))) = true from decide_eq_true (by ((try simp (disch := omega) only [hc0, hc1, hc2, hc3, wrap_i64_id, wrap_u64_id, List.length_set, List.length_replicate]) <;> omega)))])) ?_; show Gets _ _ (codeAt [1, 1, 1, 1, 1, 0, 1, 0, 0, 0, 1, 0] B) _ _
  refine Gets.ofN fitC SoundC.no AgreeT.no 16 40 (by kernel_rfl) (x := .normal) (s' := (S58 pre n c i L l e)) (R50 pre n c i L l e) ?_
  show Gets _ _ (codeAt [1, 1, 1, 1, 1, 0, 1, 0, 0, 1] B) _ _
  rw [C1_1_1_1_1_0_1_0_0_1]; refine Gets.seq ?_
  rw [C1_1_1_1_1_0_1_0_0_1_0]; refine Gets.block ?_
  rw [C1_1_1_1_1_0_1_0_0_1_0_0]; refine Gets.seq ?_
  refine Gets.ofN fitC SoundC.no AgreeT.no 16 40 (by kernel_rfl) (x := .normal) (s' := (S60 pre n c i L l e)) (R51 pre n c i L l e) ?_
  show Gets _ _ (codeAt [1, 1, 1, 1, 1, 0, 1, 0, 0, 1, 0, 0, 1] B) _ _
  rw [C1_1_1_1_1_0_1_0_0_1_0_0_1]; refine Gets.seq ?_
  refine Gets.ofN fitC SoundC.no AgreeT.no 16 40 (by kernel_rfl) (x := .normal) (s' := (S62 pre n c i L c0 c1 c2 c3 l e)) ((R52 pre n c i L l e).trans (by rw [obind_at (k := 3) (by ((try simp (disch := omega) only [hc0, hc1, hc2, hc3, wrap_i64_id, wrap_u64_id, List.length_set, List.length_replicate]) <;> omega)) (by ((try simp (disch := omega) only [hc0, hc1, hc2, hc3, wrap_i64_id, wrap_u64_id, List.length_set, List.length_replicate]) <;> omega)), obind_at (k := 4) (by ((try simp (disch := omega) only [hc0, hc1, hc2, hc3, wrap_i64_id, wrap_u64_id, List.length_set, List.length_replicate]) <;> omega)) (by ((try simp (disch := omega) only [hc0, hc1, hc2, hc3, wrap_i64_id, wrap_u64_id, List.length_set, List.length_replicate]) <;> omega)), obind_at (k := 5) (by ((try simp (disch := omega) only [hc0, hc1, hc2, hc3, wrap_i64_id, wrap_u64_id, List.length_set, List.length_replicate]) <;> omega)) (by ((try simp (disch := omega) only [hc0, hc1, hc2, hc3, wrap_i64_id, wrap_u64_id, List.length_set, List.length_replicate]) <;> omega)), obind_at (k := 6) (by ((try simp (disch := omega) only [hc0, hc1, hc2, hc3, wrap_i64_id, wrap_u64_id, List.length_set, List.length_replicate]) <;> omega)) (by ((try simp (disch := omega) only [hc0, hc1, hc2, hc3, wrap_i64_id, wrap_u64_id, List.length_set, List.length_replicate]) <;> omega))] <;> (show some (Ex.normal, (S63 pre n c i L l e)) = some (Ex.normal, (S62 pre n c i L c0 c1 c2 c3 l e)); unfold S63 S62; rw [(show (L.getD 3 0) = c0 from hc0), (show (L.getD 4 0) = c1 from hc1), (show (L.getD 5 0) = c2 from hc2), (show (L.getD 6 0) = c3 from hc3)]))) ?_
  show Gets _ _ (codeAt [1, 1, 1, 1, 1, 0, 1, 0, 0, 1, 0, 0, 1, 1] B) _ _
  rw [C1_1_1_1_1_0_1_0_0_1_0_0_1_1]; refine Gets.seq ?_
  refine Gets.ofN fitC SoundC.no AgreeT.no 16 40 (by kernel_rfl) (x := .normal) (s' := (S64 pre n c i c0 c1 c2 c3 L l e)) (R53 pre n c i L c0 c1 c2 c3 l e) ?_
  show Gets _ _ (codeAt [1, 1, 1, 1, 1, 0, 1, 0, 0, 1, 0, 0, 1, 1, 1] B) _ _
  rw [C1_1_1_1_1_0_1_0_0_1_0_0_1_1_1]; refine Gets.seq ?_
  rw [C1_1_1_1_1_0_1_0_0_1_0_0_1_1_1_0]; refine Gets.seq ?_
  refine Gets.ofN fitC SoundC.no AgreeT.no 16 40 (by kernel_rfl) (x := .normal) (s' := (S65 pre n c i c0 c1 c2 c3 L l e)) (R54 pre n c i c0 c1 c2 c3 L l e) ?_
  show Gets _ _ (codeAt [1, 1, 1, 1, 1, 0, 1, 0, 0, 1, 0, 0, 1, 1, 1, 0, 1] B) _ _
  rw [C1_1_1_1_1_0_1_0_0_1_0_0_1_1_1_0_1]; refine Gets.cond false (by kernel_rfl) ((show evalX (KSt.ts (S65 pre n c i c0 c1 c2 c3 L l e)) (.tmp 65) = .bool (!((decide ((IntKind.wrap .u64 ((IntKind.wrap .u64 ((IntKind.wrap .u64 ((IntKind.wrap .u64 (0 + c0)) + c1)) + c2)) + c3)) ≥ 28)) == (decide (i ≥ 28)))) by kernel_rfl).trans (by rw [(show (!((decide ((IntKind.wrap .u64 ((IntKind.wrap .u64 ((IntKind.wrap .u64 ((IntKind.wrap .u64 (0 + c0)) + c1)) + c2)) + c3)) ≥ 28)) == (decide (i ≥ 28)))) = false from not_f (sum_dec hs p0 p1 p2 p3 (by omega)))])) ?_; show Gets _ _ (codeAt [1, 1, 1, 1, 1, 0, 1, 0, 0, 1, 0, 0, 1, 1, 1, 0, 1, 1] B) _ _
  refine Gets.ofN fitC SoundC.no AgreeT.no 16 40 (by kernel_rfl) (x := .normal) (s' := (S58 pre n c i L l e)) (R55 pre n c i c0 c1 c2 c3 L l e) ?_
  show Gets _ _ (codeAt [1, 1, 1, 1, 1, 0, 1, 0, 0, 1, 0, 0, 1, 1, 1, 1] B) _ _
  rw [C1_1_1_1_1_0_1_0_0_1_0_0_1_1_1_1]; refine Gets.seq ?_
  refine Gets.ofN fitC SoundC.no AgreeT.no 16 40 (by kernel_rfl) (x := .normal) (s' := (S66 pre n c i L l e)) (R56 pre n c i L l e) ?_
  show Gets _ _ (codeAt [1, 1, 1, 1, 1, 0, 1, 0, 0, 1, 0, 0, 1, 1, 1, 1, 1] B) _ _
  rw [C1_1_1_1_1_0_1_0_0_1_0_0_1_1_1_1_1]; refine Gets.cond false (by kernel_rfl) ((show evalX (KSt.ts (S66 pre n c i L l e)) (.tmp 69) = .bool (decide (i < ((n : Nat) : Int))) by kernel_rfl).trans (by rw [(show (decide (i < ((n : Nat) : Int))) = false from decide_eq_false (by ((try simp (disch := omega) only [hc0, hc1, hc2, hc3, wrap_i64_id, wrap_u64_id, List.length_set, List.length_replicate]) <;> omega)))])) ?_; show Gets _ _ (codeAt [1, 1, 1, 1, 1, 0, 1, 0, 0, 1, 0, 0, 1, 1, 1, 1, 1, 1] B) _ _
  refine Gets.ofN fitC SoundC.no AgreeT.no 16 40 (by kernel_rfl) (x := .normal) (s' := (S58 pre n c i L l e)) (R57 pre n c i L l e) ?_
  show Gets _ _ (codeAt [1, 1, 1, 1, 1, 0, 1, 0, 0, 1, 1] B) _ _
  refine Gets.ofN fitC SoundC.no AgreeT.no 16 40 (by kernel_rfl) (x := .normal) (s' := (S68 pre n c i L l e)) ((R58 pre n c i L l e).trans (by (show some (Ex.normal, (S67 pre n c i L l e)) = some (Ex.normal, (S68 pre n c i L l e)); unfold S67 S68; rw [(show (IntKind.wrap .i64 (i + 1)) = (i + 1) from wrap_i64_id (by omega) (by omega))]))) ?_
  exact hq
noncomputable def S69 (pre : Nat) (n : Nat) (c : Nat) (i : Int) (L : List Int) (l : List Int) (e : TypeId) : KSt := ⟨(frameL 86 [(1, (.slice (some ⟨0, pre, none⟩) n c)), (5, (.int .i64 2)), (6, (.pointer (some ⟨1, 0, none⟩))), (7, (.pointer (some ⟨2, 0, none⟩))), (8, (.int .i64 i))]), ⟨5, 1, [(4, 0, .ints .u64 L 26 true), (3, 0, .map [((.int .u64 1), (.slice (some ⟨4, 0, none⟩) 43 43), 0)] 1), (2, 0, .cells [(.int .u64 1), (.int .i64 2)] 30 true), (1, 0, .cells [(.int .i64 200), (.int .i64 43), (.int .i64 1), (.int .u64 1), (.map (some 3))] 48 true), (0, 0, .tail pre .u8 l e)]⟩⟩
noncomputable def S70 (pre : Nat) (n : Nat) (c : Nat) (i : Int) (L : List Int) (n1 : Int) (n3 : Int) (l : List Int) (e : TypeId) : KSt := ⟨(frameL 86 [(1, (.slice (some ⟨0, pre, none⟩) n c)), (5, (.int .i64 2)), (6, (.pointer (some ⟨1, 0, none⟩))), (7, (.pointer (some ⟨2, 0, none⟩))), (8, (.int .i64 i))]), ⟨5, 1, [(4, 0, .ints .u64 ((List.set L (0 + ((Int.toNat ((IntKind.wrap .i64 (3 + (bits .and .i64 (Int.tmod (IntKind.wrap .i64 n1) 64) 3))))) * 1)) (IntKind.wrap .u64 (n3 + 1)))) 26 true), (3, 0, .map [((.int .u64 1), (.slice (some ⟨4, 0, none⟩) 43 43), 0)] 1), (2, 0, .cells [(.int .u64 1), (.int .i64 2)] 30 true), (1, 0, .cells [(.int .i64 200), (.int .i64 43), (.int .i64 0), (.int .u64 1), (.map (some 3))] 48 true), (0, 0, .tail pre .u8 l e)]⟩⟩
theorem R59 (pre : Nat) (n : Nat) (c : Nat) (i : Int) (L : List Int) (l : List Int) (e : TypeId) : evCK Try.prog cfgC (runK Try.prog cfgC fsC noT 16 40) 16 (codeAt [1, 1, 1, 1, 1, 0, 1, 0, 0, 1, 0, 0, 1, 1, 1, 1, 1, 0] B) (S66 pre n c i L l e) (normC 1 [1, 5, 6, 7, 8]) =
  if 0 ≤ i ∧ i < ((n : Nat) : Int) then
    bif (Nat.ble pre (pre + ((Int.toNat i) * 1))) then
      obind (l[((pre + ((Int.toNat i) * 1)) - pre)]?) fun n1 =>
        bif (!(decide ((IntKind.wrap .i64 (3 + (bits .and .i64 (Int.tmod (IntKind.wrap .i64 n1) 64) 3))) ≥ 0))) then
          some (.normal, (S58 pre n c i L l e))
        else
          bif (decide ((IntKind.wrap .i64 (3 + (bits .and .i64 (Int.tmod (IntKind.wrap .i64 n1) 64) 3))) < 0)) then
            some (.normal, (S69 pre n c i L l e))
          else
            bif (decide ((IntKind.wrap .i64 (3 + (bits .and .i64 (Int.tmod (IntKind.wrap .i64 n1) 64) 3))) ≥ 43)) then
              some (.normal, (S69 pre n c i L l e))
            else
              if 0 ≤ (IntKind.wrap .i64 (3 + (bits .and .i64 (Int.tmod (IntKind.wrap .i64 n1) 64) 3))) ∧ (IntKind.wrap .i64 (3 + (bits .and .i64 (Int.tmod (IntKind.wrap .i64 n1) 64) 3))) < 43 then
                obind (L[(0 + ((Int.toNat ((IntKind.wrap .i64 (3 + (bits .and .i64 (Int.tmod (IntKind.wrap .i64 n1) 64) 3))))) * 1))]?) fun n2 =>
                  obind (L[(0 + ((Int.toNat ((IntKind.wrap .i64 (3 + (bits .and .i64 (Int.tmod (IntKind.wrap .i64 n1) 64) 3))))) * 1))]?) fun n3 =>
                    bif (Nat.ble ((0 + ((Int.toNat ((IntKind.wrap .i64 (3 + (bits .and .i64 (Int.tmod (IntKind.wrap .i64 n1) 64) 3))))) * 1)) + 1) (List.length L)) then
                      some (.normal, (S70 pre n c i L n1 n3 l e))
                    else
                      none
              else
                none
    else
      none
  else
    none := by kernel_rfl
noncomputable def S71 (pre : Nat) (n : Nat) (c : Nat) (i : Int) (L : List Int) (y : Int) (l : List Int) (e : TypeId) : KSt := ⟨(frameL 86 [(1, (.slice (some ⟨0, pre, none⟩) n c)), (5, (.int .i64 2)), (6, (.pointer (some ⟨1, 0, none⟩))), (7, (.pointer (some ⟨2, 0, none⟩))), (8, (.int .i64 i))]), ⟨5, 1, [(4, 0, .ints .u64 ((List.set L (0 + ((Int.toNat (3 + y)) * 1)) (IntKind.wrap .u64 ((L.getD (0 + ((Int.toNat (3 + y)) * 1)) 0) + 1)))) 26 true), (3, 0, .map [((.int .u64 1), (.slice (some ⟨4, 0, none⟩) 43 43), 0)] 1), (2, 0, .cells [(.int .u64 1), (.int .i64 2)] 30 true), (1, 0, .cells [(.int .i64 200), (.int .i64 43), (.int .i64 0), (.int .u64 1), (.map (some 3))] 48 true), (0, 0, .tail pre .u8 l e)]⟩⟩
noncomputable def S72 (pre : Nat) (n : Nat) (c : Nat) (i : Int) (L : List Int) (l : List Int) (e : TypeId) : KSt := ⟨(frameL 86 [(1, (.slice (some ⟨0, pre, none⟩) n c)), (5, (.int .i64 2)), (6, (.pointer (some ⟨1, 0, none⟩))), (7, (.pointer (some ⟨2, 0, none⟩))), (8, (.int .i64 i))]), ⟨5, 1, [(4, 0, .ints .u64 ((List.set L (0 + ((Int.toNat (IntKind.wrap .i64 (3 + (bits .and .i64 (Int.tmod (IntKind.wrap .i64 (l.getD ((Int.toNat i) * 1) 0)) 64) 3)))) * 1)) (IntKind.wrap .u64 ((L.getD (0 + ((Int.toNat (IntKind.wrap .i64 (3 + (bits .and .i64 (Int.tmod (IntKind.wrap .i64 (l.getD ((Int.toNat i) * 1) 0)) 64) 3)))) * 1)) 0) + 1)))) 26 true), (3, 0, .map [((.int .u64 1), (.slice (some ⟨4, 0, none⟩) 43 43), 0)] 1), (2, 0, .cells [(.int .u64 1), (.int .i64 2)] 30 true), (1, 0, .cells [(.int .i64 200), (.int .i64 43), (.int .i64 0), (.int .u64 1), (.map (some 3))] 48 true), (0, 0, .tail pre .u8 l e)]⟩⟩
noncomputable def S73 (pre : Nat) (n : Nat) (c : Nat) (i : Int) (L : List Int) (y : Int) (l : List Int) (e : TypeId) : KSt := ⟨(frameL 86 [(1, (.slice (some ⟨0, pre, none⟩) n c)), (5, (.int .i64 2)), (6, (.pointer (some ⟨1, 0, none⟩))), (7, (.pointer (some ⟨2, 0, none⟩))), (8, (.int .i64 (IntKind.wrap .i64 (i + 1))))]), ⟨5, 1, [(4, 0, .ints .u64 ((List.set L (0 + ((Int.toNat (3 + y)) * 1)) (IntKind.wrap .u64 ((L.getD (0 + ((Int.toNat (3 + y)) * 1)) 0) + 1)))) 26 true), (3, 0, .map [((.int .u64 1), (.slice (some ⟨4, 0, none⟩) 43 43), 0)] 1), (2, 0, .cells [(.int .u64 1), (.int .i64 2)] 30 true), (1, 0, .cells [(.int .i64 200), (.int .i64 43), (.int .i64 0), (.int .u64 1), (.map (some 3))] 48 true), (0, 0, .tail pre .u8 l e)]⟩⟩
theorem R60 (pre : Nat) (n : Nat) (c : Nat) (i : Int) (L : List Int) (y : Int) (l : List Int) (e : TypeId) : evCK Try.prog cfgC (runK Try.prog cfgC fsC noT 16 40) 16 (codeAt [1, 1, 1, 1, 1, 0, 1, 0, 0, 1, 1] B) (S71 pre n c i L y l e) (normC 1 [1, 5, 6, 7, 8]) =
  some (.normal, (S73 pre n c i L y l e)) := by kernel_rfl
noncomputable def S74 (pre : Nat) (n : Nat) (c : Nat) (i : Int) (L : List Int) (y : Int) (l : List Int) (e : TypeId) : KSt := ⟨(frameL 86 [(1, (.slice (some ⟨0, pre, none⟩) n c)), (5, (.int .i64 2)), (6, (.pointer (some ⟨1, 0, none⟩))), (7, (.pointer (some ⟨2, 0, none⟩))), (8, (.int .i64 (i + 1)))]), ⟨5, 1, [(4, 0, .ints .u64 ((List.set L (0 + ((Int.toNat (3 + y)) * 1)) (IntKind.wrap .u64 ((L.getD (0 + ((Int.toNat (3 + y)) * 1)) 0) + 1)))) 26 true), (3, 0, .map [((.int .u64 1), (.slice (some ⟨4, 0, none⟩) 43 43), 0)] 1), (2, 0, .cells [(.int .u64 1), (.int .i64 2)] 30 true), (1, 0, .cells [(.int .i64 200), (.int .i64 43), (.int .i64 0), (.int .u64 1), (.map (some 3))] 48 true), (0, 0, .tail pre .u8 l e)]⟩⟩
theorem rm2 (lg i c0 c1 c2 c3 y : Int) (pre n c : Nat) (l L : List Int) (e : TypeId) (hL : L.length = 43) (hc0 : L.getD 3 0 = c0) (hc1 : L.getD 4 0 = c1) (hc2 : L.getD 5 0 = c2) (hc3 : L.getD 6 0 = c3) (p0 : 0 ≤ c0) (p1 : 0 ≤ c1) (p2 : 0 ≤ c2) (p3 : 0 ≤ c3) (hs : c0 + c1 + c2 + c3 = i) (hi : 0 ≤ i) (hn80 : n ≤ 80) (hc : n ≤ c) (hl : l.length = c) (hcp : c ≤ 9223372036854775807) (hin : i < (n : Int)) (hu : 0 ≤ l.getD ((Int.toNat i) * 1) 0 ∧ l.getD ((Int.toNat i) * 1) 0 < 256) (hy : (bits .and .i64 (Int.tmod (l.getD ((Int.toNat i) * 1) 0) 64) 3) = y) (hy0 : 0 ≤ y) (hy3 : y ≤ 3)   {Q : Ex → St → Prop} (hq : Q .normal (KSt.low (S74 pre n c i L y l e))) : Gets Try.prog (KH.low ⟨1, 1, [(0, 0, .tail pre .u8 l e)]⟩) (codeAt [1, 1, 1, 1, 1, 0, 1, 0, 0] B) (KSt.low (S58 pre n c i L l e)) Q := by
  rw [C1_1_1_1_1_0_1_0_0]; refine Gets.seq ?_
  rw [C1_1_1_1_1_0_1_0_0_0]; refine Gets.seq ?_
  refine Gets.ofN fitC SoundC.no AgreeT.no 16 40 (by kernel_rfl) (x := .normal) (s' := (S59 pre n c i L l e)) (R49 pre n c i L l e) ?_
  show Gets _ _ (codeAt [1, 1, 1, 1, 1, 0, 1, 0, 0, 0, 1] B) _ _
  rw [C1_1_1_1_1_0_1_0_0_0_1]; refine Gets.cond true (by kernel_rfl) ((show evalX (KSt.ts (S59 pre n c i L l e)) (.tmp 31) = .bool (decide (i ≤ ((n : Nat) : Int))) by kernel_rfl).trans (by rw [(show (decide (i ≤ ((n : Nat) : Int))) = true from decide_eq_true (by ((try simp (disch := omega) only [hy, hc0, hc1, hc2, hc3, wrap_i64_id, wrap_u64_id, List.length_set, List.length_replicate]) <;> omega)))])) ?_; show Gets _ _ (codeAt [1, 1, 1, 1, 1, 0, 1, 0, 0, 0, 1, 0] B) _ _
  refine Gets.ofN fitC SoundC.no AgreeT.no 16 40 (by kernel_rfl) (x := .normal) (s' := (S58 pre n c i L l e)) (R50 pre n c i L l e) ?_
  show Gets _ _ (codeAt [1, 1, 1, 1, 1, 0, 1, 0, 0, 1] B) _ _
  rw [C1_1_1_1_1_0_1_0_0_1]; refine Gets.seq ?_
  rw [C1_1_1_1_1_0_1_0_0_1_0]; refine Gets.block ?_
  rw [C1_1_1_1_1_0_1_0_0_1_0_0]; refine Gets.seq ?_
  refine Gets.ofN fitC SoundC.no AgreeT.no 16 40 (by kernel_rfl) (x := .normal) (s' := (S60 pre n c i L l e)) (R51 pre n c i L l e) ?_
  show Gets _ _ (codeAt [1, 1, 1, 1, 1, 0, 1, 0, 0, 1, 0, 0, 1] B) _ _
  rw [C1_1_1_1_1_0_1_0_0_1_0_0_1]; refine Gets.seq ?_
  refine Gets.ofN fitC SoundC.no AgreeT.no 16 40 (by kernel_rfl) (x := .normal) (s' := (S62 pre n c i L c0 c1 c2 c3 l e)) ((R52 pre n c i L l e).trans (by rw [obind_at (k := 3) (by ((try simp (disch := omega) only [hy, hc0, hc1, hc2, hc3, wrap_i64_id, wrap_u64_id, List.length_set, List.length_replicate]) <;> omega)) (by ((try simp (disch := omega) only [hy, hc0, hc1, hc2, hc3, wrap_i64_id, wrap_u64_id, List.length_set, List.length_replicate]) <;> omega)), obind_at (k := 4) (by ((try simp (disch := omega) only [hy, hc0, hc1, hc2, hc3, wrap_i64_id, wrap_u64_id, List.length_set, List.length_replicate]) <;> omega)) (by ((try simp (disch := omega) only [hy, hc0, hc1, hc2, hc3, wrap_i64_id, wrap_u64_id, List.length_set, List.length_replicate]) <;> omega)), obind_at (k := 5) (by ((try simp (disch := omega) only [hy, hc0, hc1, hc2, hc3, wrap_i64_id, wrap_u64_id, List.length_set, List.length_replicate]) <;> omega)) (by ((try simp (disch := omega) only [hy, hc0, hc1, hc2, hc3, wrap_i64_id, wrap_u64_id, List.length_set, List.length_replicate]) <;> omega)), obind_at (k := 6) (by ((try simp (disch := omega) only [hy, hc0, hc1, hc2, hc3, wrap_i64_id, wrap_u64_id, List.length_set, List.length_replicate]) <;> omega)) (by ((try simp (disch := omega) only [hy, hc0, hc1, hc2, hc3, wrap_i64_id, wrap_u64_id, List.length_set, List.length_replicate]) <;> omega))] <;> (show some (Ex.normal, (S63 pre n c i L l e)) = some (Ex.normal, (S62 pre n c i L c0 c1 c2 c3 l e)); unfold S63 S62; rw [(show (L.getD 3 0) = c0 from hc0), (show (L.getD 4 0) = c1 from hc1), (show (L.getD 5 0) = c2 from hc2), (show (L.getD 6 0) = c3 from hc3)]))) ?_
  show Gets _ _ (codeAt [1, 1, 1, 1, 1, 0, 1, 0, 0, 1, 0, 0, 1, 1] B) _ _
  rw [C1_1_1_1_1_0_1_0_0_1_0_0_1_1]; refine Gets.seq ?_
  refine Gets.ofN fitC SoundC.no AgreeT.no 16 40 (by kernel_rfl) (x := .normal) (s' := (S64 pre n c i c0 c1 c2 c3 L l e)) (R53 pre n c i L c0 c1 c2 c3 l e) ?_
  show Gets _ _ (codeAt [1, 1, 1, 1, 1, 0, 1, 0, 0, 1, 0, 0, 1, 1, 1] B) _ _
  rw [C1_1_1_1_1_0_1_0_0_1_0_0_1_1_1]; refine Gets.seq ?_
  rw [C1_1_1_1_1_0_1_0_0_1_0_0_1_1_1_0]; refine Gets.seq ?_
  refine Gets.ofN fitC SoundC.no AgreeT.no 16 40 (by kernel_rfl) (x := .normal) (s' := (S65 pre n c i c0 c1 c2 c3 L l e)) (R54 pre n c i c0 c1 c2 c3 L l e) ?_
  show Gets _ _ (codeAt [1, 1, 1, 1, 1, 0, 1, 0, 0, 1, 0, 0, 1, 1, 1, 0, 1] B) _ _
  rw [C1_1_1_1_1_0_1_0_0_1_0_0_1_1_1_0_1]; refine Gets.cond false (by kernel_rfl) ((show evalX (KSt.ts (S65 pre n c i c0 c1 c2 c3 L l e)) (.tmp 65) = .bool (!((decide ((IntKind.wrap .u64 ((IntKind.wrap .u64 ((IntKind.wrap .u64 ((IntKind.wrap .u64 (0 + c0)) + c1)) + c2)) + c3)) ≥ 28)) == (decide (i ≥ 28)))) by kernel_rfl).trans (by rw [(show (!((decide ((IntKind.wrap .u64 ((IntKind.wrap .u64 ((IntKind.wrap .u64 ((IntKind.wrap .u64 (0 + c0)) + c1)) + c2)) + c3)) ≥ 28)) == (decide (i ≥ 28)))) = false from not_f (sum_dec hs p0 p1 p2 p3 (by omega)))])) ?_; show Gets _ _ (codeAt [1, 1, 1, 1, 1, 0, 1, 0, 0, 1, 0, 0, 1, 1, 1, 0, 1, 1] B) _ _
  refine Gets.ofN fitC SoundC.no AgreeT.no 16 40 (by kernel_rfl) (x := .normal) (s' := (S58 pre n c i L l e)) (R55 pre n c i c0 c1 c2 c3 L l e) ?_
  show Gets _ _ (codeAt [1, 1, 1, 1, 1, 0, 1, 0, 0, 1, 0, 0, 1, 1, 1, 1] B) _ _
  rw [C1_1_1_1_1_0_1_0_0_1_0_0_1_1_1_1]; refine Gets.seq ?_
  refine Gets.ofN fitC SoundC.no AgreeT.no 16 40 (by kernel_rfl) (x := .normal) (s' := (S66 pre n c i L l e)) (R56 pre n c i L l e) ?_
  show Gets _ _ (codeAt [1, 1, 1, 1, 1, 0, 1, 0, 0, 1, 0, 0, 1, 1, 1, 1, 1] B) _ _
  rw [C1_1_1_1_1_0_1_0_0_1_0_0_1_1_1_1_1]; refine Gets.cond true (by kernel_rfl) ((show evalX (KSt.ts (S66 pre n c i L l e)) (.tmp 69) = .bool (decide (i < ((n : Nat) : Int))) by kernel_rfl).trans (by rw [(show (decide (i < ((n : Nat) : Int))) = true from decide_eq_true (by ((try simp (disch := omega) only [hy, hc0, hc1, hc2, hc3, wrap_i64_id, wrap_u64_id, List.length_set, List.length_replicate]) <;> omega)))])) ?_; show Gets _ _ (codeAt [1, 1, 1, 1, 1, 0, 1, 0, 0, 1, 0, 0, 1, 1, 1, 1, 1, 0] B) _ _
  refine Gets.ofN fitC SoundC.no AgreeT.no 16 40 (by kernel_rfl) (x := .normal) (s' := (S71 pre n c i L y l e)) ((R59 pre n c i L l e).trans (by rw [if_pos (⟨by ((try simp (disch := omega) only [hy, hc0, hc1, hc2, hc3, wrap_i64_id, wrap_u64_id, List.length_set, List.length_replicate]) <;> omega), by ((try simp (disch := omega) only [hy, hc0, hc1, hc2, hc3, wrap_i64_id, wrap_u64_id, List.length_set, List.length_replicate]) <;> omega)⟩), condT (ble_t (by ((try simp (disch := omega) only [hy, hc0, hc1, hc2, hc3, wrap_i64_id, wrap_u64_id, List.length_set, List.length_replicate]) <;> omega))), obind_at (k := ((Int.toNat i) * 1)) (by ((try simp (disch := omega) only [hy, hc0, hc1, hc2, hc3, wrap_i64_id, wrap_u64_id, List.length_set, List.length_replicate]) <;> omega)) (by ((try simp (disch := omega) only [hy, hc0, hc1, hc2, hc3, wrap_i64_id, wrap_u64_id, List.length_set, List.length_replicate]) <;> omega)), condF (not_f (decide_eq_true (by ((try simp (disch := omega) only [hy, hc0, hc1, hc2, hc3, wrap_i64_id, wrap_u64_id, List.length_set, List.length_replicate]) <;> omega)))), condF (decide_eq_false (by ((try simp (disch := omega) only [hy, hc0, hc1, hc2, hc3, wrap_i64_id, wrap_u64_id, List.length_set, List.length_replicate]) <;> omega))), condF (decide_eq_false (by ((try simp (disch := omega) only [hy, hc0, hc1, hc2, hc3, wrap_i64_id, wrap_u64_id, List.length_set, List.length_replicate]) <;> omega))), if_pos (⟨by ((try simp (disch := omega) only [hy, hc0, hc1, hc2, hc3, wrap_i64_id, wrap_u64_id, List.length_set, List.length_replicate]) <;> omega), by ((try simp (disch := omega) only [hy, hc0, hc1, hc2, hc3, wrap_i64_id, wrap_u64_id, List.length_set, List.length_replicate]) <;> omega)⟩), obind_at (k := 0 + ((Int.toNat (IntKind.wrap .i64 (3 + (bits .and .i64 (Int.tmod (IntKind.wrap .i64 (l.getD ((Int.toNat i) * 1) 0)) 64) 3)))) * 1)) (by ((try simp (disch := omega) only [hy, hc0, hc1, hc2, hc3, wrap_i64_id, wrap_u64_id, List.length_set, List.length_replicate]) <;> omega)) (by ((try simp (disch := omega) only [hy, hc0, hc1, hc2, hc3, wrap_i64_id, wrap_u64_id, List.length_set, List.length_replicate]) <;> omega)), obind_at (k := 0 + ((Int.toNat (IntKind.wrap .i64 (3 + (bits .and .i64 (Int.tmod (IntKind.wrap .i64 (l.getD ((Int.toNat i) * 1) 0)) 64) 3)))) * 1)) (by ((try simp (disch := omega) only [hy, hc0, hc1, hc2, hc3, wrap_i64_id, wrap_u64_id, List.length_set, List.length_replicate]) <;> omega)) (by ((try simp (disch := omega) only [hy, hc0, hc1, hc2, hc3, wrap_i64_id, wrap_u64_id, List.length_set, List.length_replicate]) <;> omega)), condT (ble_t (by ((try simp (disch := omega) only [hy, hc0, hc1, hc2, hc3, wrap_i64_id, wrap_u64_id, List.length_set, List.length_replicate]) <;> omega)))] <;> (show some (Ex.normal, (S72 pre n c i L l e)) = some (Ex.normal, (S71 pre n c i L y l e)); unfold S72 S71; rw [(show (IntKind.wrap .i64 (l.getD ((Int.toNat i) * 1) 0)) = (l.getD ((Int.toNat i) * 1) 0) from wrap_i64_id (by omega) (by omega)), (show (bits .and .i64 (Int.tmod (l.getD ((Int.toNat i) * 1) 0) 64) 3) = y from hy), (show (IntKind.wrap .i64 (3 + y)) = (3 + y) from wrap_i64_id (by omega) (by omega))]))) ?_
  show Gets _ _ (codeAt [1, 1, 1, 1, 1, 0, 1, 0, 0, 1, 1] B) _ _
  refine Gets.ofN fitC SoundC.no AgreeT.no 16 40 (by kernel_rfl) (x := .normal) (s' := (S74 pre n c i L y l e)) ((R60 pre n c i L y l e).trans (by (show some (Ex.normal, (S73 pre n c i L y l e)) = some (Ex.normal, (S74 pre n c i L y l e)); unfold S73 S74; rw [(show (IntKind.wrap .i64 (i + 1)) = (i + 1) from wrap_i64_id (by omega) (by omega))]))) ?_
  exact hq
theorem rx2 (lg i c0 c1 c2 c3 y : Int) (pre n c : Nat) (l L : List Int) (e : TypeId) (hx : (n : Int) < i)   {Q : Ex → St → Prop} (hq : Q (.exit 0) (KSt.low (S59 pre n c i L l e))) : Gets Try.prog (KH.low ⟨1, 1, [(0, 0, .tail pre .u8 l e)]⟩) (codeAt [1, 1, 1, 1, 1, 0, 1, 0, 0] B) (KSt.low (S58 pre n c i L l e)) Q := by
  rw [C1_1_1_1_1_0_1_0_0]; refine Gets.seq ?_
  rw [C1_1_1_1_1_0_1_0_0_0]; refine Gets.seq ?_
  refine Gets.ofN fitC SoundC.no AgreeT.no 16 40 (by kernel_rfl) (x := .normal) (s' := (S59 pre n c i L l e)) (R49 pre n c i L l e) ?_
  show Gets _ _ (codeAt [1, 1, 1, 1, 1, 0, 1, 0, 0, 0, 1] B) _ _
  rw [C1_1_1_1_1_0_1_0_0_0_1]; refine Gets.cond false (by kernel_rfl) ((show evalX (KSt.ts (S59 pre n c i L l e)) (.tmp 31) = .bool (decide (i ≤ ((n : Nat) : Int))) by kernel_rfl).trans (by rw [(show (decide (i ≤ ((n : Nat) : Int))) = false from decide_eq_false (by ((try simp (disch := omega) only [wrap_i64_id, wrap_u64_id, List.length_set, List.length_replicate]) <;> omega)))])) ?_; show Gets _ _ (codeAt [1, 1, 1, 1, 1, 0, 1, 0, 0, 0, 1, 1] B) _ _
  rw [C1_1_1_1_1_0_1_0_0_0_1_1]; refine Gets.ev fitC.mix fitC.cfg (fitC.sound SoundC.no 16 0) 16 rfl (s' := KSt.low (S59 pre n c i L l e)) (x := (.exit 0)) rfl ?_
  exact hq
theorem R61 (pre : Nat) (n : Nat) (c : Nat) (i : Int) (L : List Int) (l : List Int) (e : TypeId) : evCK Try.prog cfgC (runK Try.prog cfgC fsC noT 16 40) 16 (codeAt [1, 1, 1, 1, 1, 1, 0] B) (S59 pre n c i L l e) (normC 1 [4]) =
  some (.normal, (S40 pre l e)) := by kernel_rfl
theorem rf2 (lg i c0 c1 c2 c3 y : Int) (pre n c : Nat) (l L : List Int) (e : TypeId)   {Q : Ex → St → Prop} (hq : Q .ret (KSt.low (S40 pre l e))) : Gets Try.prog (KH.low ⟨1, 1, [(0, 0, .tail pre .u8 l e)]⟩) (codeAt [1, 1, 1, 1, 1, 1] B) (KSt.low (S59 pre n c i L l e)) Q := by
  rw [C1_1_1_1_1_1]; refine Gets.seq ?_
  refine Gets.ofN fitC SoundC.no AgreeT.no 16 40 (by kernel_rfl) (x := .normal) (s' := (S40 pre l e)) (R61 pre n c i L l e) ?_
  show Gets _ _ (codeAt [1, 1, 1, 1, 1, 1, 1] B) _ _
  rw [C1_1_1_1_1_1_1]; refine Gets.ev fitC.mix fitC.cfg (fitC.sound SoundC.no 16 0) 16 rfl (s' := KSt.low (S40 pre l e)) (x := .ret) rfl ?_
  exact hq
noncomputable def S75 (pre : Nat) (n : Nat) (c : Nat) (i : Int) (L : List Int) (l : List Int) (e : TypeId) : KSt := ⟨(frameL 86 [(1, (.slice (some ⟨0, pre, none⟩) n c)), (5, (.int .i64 3)), (6, (.pointer (some ⟨1, 0, none⟩))), (7, (.pointer (some ⟨2, 0, none⟩))), (8, (.int .i64 i))]), ⟨5, 1, [(4, 0, .ints .u64 L 26 true), (3, 0, .map [((.int .u64 1), (.slice (some ⟨4, 0, none⟩) 79 79), 0)] 1), (2, 0, .cells [(.int .u64 1), (.int .i64 3)] 30 true), (1, 0, .cells [(.int .i64 200), (.int .i64 79), (.int .i64 0), (.int .u64 1), (.map (some 3))] 48 true), (0, 0, .tail pre .u8 l e)]⟩⟩
noncomputable def S76 (pre : Nat) (n : Nat) (c : Nat) (i : Int) (L : List Int) (l : List Int) (e : TypeId) : KSt := ⟨(frameL 86 [(1, (.slice (some ⟨0, pre, none⟩) n c)), (5, (.int .i64 3)), (6, (.pointer (some ⟨1, 0, none⟩))), (7, (.pointer (some ⟨2, 0, none⟩))), (8, (.int .i64 i)), (31, (.bool (decide (i ≤ ((n : Nat) : Int)))))]), ⟨5, 1, [(4, 0, .ints .u64 L 26 true), (3, 0, .map [((.int .u64 1), (.slice (some ⟨4, 0, none⟩) 79 79), 0)] 1), (2, 0, .cells [(.int .u64 1), (.int .i64 3)] 30 true), (1, 0, .cells [(.int .i64 200), (.int .i64 79), (.int .i64 0), (.int .u64 1), (.map (some 3))] 48 true), (0, 0, .tail pre .u8 l e)]⟩⟩
theorem R62 (pre : Nat) (n : Nat) (c : Nat) (i : Int) (L : List Int) (l : List Int) (e : TypeId) : evCK Try.prog cfgC (runK Try.prog cfgC fsC noT 16 40) 16 (codeAt [1, 1, 1, 1, 1, 0, 1, 0, 0, 0, 0] B) (S75 pre n c i L l e) (normC 1 [1, 5, 6, 7, 8, 31]) =
  some (.normal, (S76 pre n c i L l e)) := by kernel_rfl
theorem R63 (pre : Nat) (n : Nat) (c : Nat) (i : Int) (L : List Int) (l : List Int) (e : TypeId) : evCK Try.prog cfgC (runK Try.prog cfgC fsC noT 16 40) 16 (codeAt [1, 1, 1, 1, 1, 0, 1, 0, 0, 0, 1, 0] B) (S76 pre n c i L l e) (normC 1 [1, 5, 6, 7, 8]) =
  some (.normal, (S75 pre n c i L l e)) := by kernel_rfl
noncomputable def S77 (pre : Nat) (n : Nat) (c : Nat) (i : Int) (L : List Int) (l : List Int) (e : TypeId) : KSt := ⟨(frameL 86 [(1, (.slice (some ⟨0, pre, none⟩) n c)), (5, (.int .i64 3)), (6, (.pointer (some ⟨1, 0, none⟩))), (7, (.pointer (some ⟨2, 0, none⟩))), (8, (.int .i64 i)), (9, (.pointer (some ⟨3, 0, none⟩)))]), ⟨6, 1, [(5, 0, .ints .u64 L 26 true), (4, 0, .map [((.int .u64 1), (.slice (some ⟨5, 0, none⟩) 79 79), 0)] 1), (3, 0, .cells [(.int .u64 1), (.int .i64 3), (.bool true), (.int .i64 0), (.int .u64 0), (.int .u64 0), (.int .u64 0), (.int .u64 0)] 53 true), (2, 0, .cells [(.int .u64 1), (.int .i64 3)] 30 true), (1, 0, .cells [(.int .i64 200), (.int .i64 79), (.int .i64 0), (.int .u64 1), (.map (some 4))] 48 true), (0, 0, .tail pre .u8 l e)]⟩⟩
theorem R64 (pre : Nat) (n : Nat) (c : Nat) (i : Int) (L : List Int) (l : List Int) (e : TypeId) : evCK Try.prog cfgC (runK Try.prog cfgC fsC noT 16 40) 16 (codeAt [1, 1, 1, 1, 1, 0, 1, 0, 0, 1, 0, 0, 0] B) (S75 pre n c i L l e) (normC 1 [1, 5, 6, 7, 8, 9]) =
  some (.normal, (S77 pre n c i L l e)) := by kernel_rfl
noncomputable def S78 (pre : Nat) (n : Nat) (c : Nat) (i : Int) (L : List Int) (n1 : Int) (n2 : Int) (n3 : Int) (n4 : Int) (l : List Int) (e : TypeId) : KSt := ⟨(frameL 86 [(1, (.slice (some ⟨0, pre, none⟩) n c)), (5, (.int .i64 3)), (6, (.pointer (some ⟨1, 0, none⟩))), (7, (.pointer (some ⟨2, 0, none⟩))), (8, (.int .i64 i)), (9, (.pointer (some ⟨3, 0, none⟩))), (10, (.int .i64 4)), (11, (.bool true))]), ⟨6, 1, [(5, 0, .ints .u64 L 26 true), (4, 0, .map [((.int .u64 1), (.slice (some ⟨5, 0, none⟩) 79 79), 0)] 1), (3, 0, .cells [(.int .u64 1), (.int .i64 3), (.bool true), (.int .i64 4), (.int .u64 n1), (.int .u64 n2), (.int .u64 n3), (.int .u64 n4)] 53 true), (2, 0, .cells [(.int .u64 1), (.int .i64 3)] 30 true), (1, 0, .cells [(.int .i64 200), (.int .i64 79), (.int .i64 0), (.int .u64 1), (.map (some 4))] 48 true), (0, 0, .tail pre .u8 l e)]⟩⟩
theorem R65 (pre : Nat) (n : Nat) (c : Nat) (i : Int) (L : List Int) (l : List Int) (e : TypeId) : evCK Try.prog cfgC (runK Try.prog cfgC fsC noT 16 40) 16 (codeAt [1, 1, 1, 1, 1, 0, 1, 0, 0, 1, 0, 0, 1, 0] B) (S77 pre n c i L l e) (normC 1 [1, 5, 6, 7, 8, 9, 10, 11]) =
  obind (L[3]?) fun n1 =>
    obind (L[4]?) fun n2 =>
      obind (L[5]?) fun n3 =>
        obind (L[6]?) fun n4 =>
          some (.normal, (S78 pre n c i L n1 n2 n3 n4 l e)) := by kernel_rfl
noncomputable def S79 (pre : Nat) (n : Nat) (c : Nat) (i : Int) (L : List Int) (c0 : Int) (c1 : Int) (c2 : Int) (c3 : Int) (l : List Int) (e : TypeId) : KSt := ⟨(frameL 86 [(1, (.slice (some ⟨0, pre, none⟩) n c)), (5, (.int .i64 3)), (6, (.pointer (some ⟨1, 0, none⟩))), (7, (.pointer (some ⟨2, 0, none⟩))), (8, (.int .i64 i)), (9, (.pointer (some ⟨3, 0, none⟩))), (10, (.int .i64 4)), (11, (.bool true))]), ⟨6, 1, [(5, 0, .ints .u64 L 26 true), (4, 0, .map [((.int .u64 1), (.slice (some ⟨5, 0, none⟩) 79 79), 0)] 1), (3, 0, .cells [(.int .u64 1), (.int .i64 3), (.bool true), (.int .i64 4), (.int .u64 c0), (.int .u64 c1), (.int .u64 c2), (.int .u64 c3)] 53 true), (2, 0, .cells [(.int .u64 1), (.int .i64 3)] 30 true), (1, 0, .cells [(.int .i64 200), (.int .i64 79), (.int .i64 0), (.int .u64 1), (.map (some 4))] 48 true), (0, 0, .tail pre .u8 l e)]⟩⟩
noncomputable def S80 (pre : Nat) (n : Nat) (c : Nat) (i : Int) (L : List Int) (l : List Int) (e : TypeId) : KSt := ⟨(frameL 86 [(1, (.slice (some ⟨0, pre, none⟩) n c)), (5, (.int .i64 3)), (6, (.pointer (some ⟨1, 0, none⟩))), (7, (.pointer (some ⟨2, 0, none⟩))), (8, (.int .i64 i)), (9, (.pointer (some ⟨3, 0, none⟩))), (10, (.int .i64 4)), (11, (.bool true))]), ⟨6, 1, [(5, 0, .ints .u64 L 26 true), (4, 0, .map [((.int .u64 1), (.slice (some ⟨5, 0, none⟩) 79 79), 0)] 1), (3, 0, .cells [(.int .u64 1), (.int .i64 3), (.bool true), (.int .i64 4), (.int .u64 (L.getD 3 0)), (.int .u64 (L.getD 4 0)), (.int .u64 (L.getD 5 0)), (.int .u64 (L.getD 6 0))] 53 true), (2, 0, .cells [(.int .u64 1), (.int .i64 3)] 30 true), (1, 0, .cells [(.int .i64 200), (.int .i64 79), (.int .i64 0), (.int .u64 1), (.map (some 4))] 48 true), (0, 0, .tail pre .u8 l e)]⟩⟩
noncomputable def S81 (pre : Nat) (n : Nat) (c : Nat) (i : Int) (c0 : Int) (c1 : Int) (c2 : Int) (c3 : Int) (L : List Int) (l : List Int) (e : TypeId) : KSt := ⟨(frameL 86 [(1, (.slice (some ⟨0, pre, none⟩) n c)), (5, (.int .i64 3)), (6, (.pointer (some ⟨1, 0, none⟩))), (7, (.pointer (some ⟨2, 0, none⟩))), (8, (.int .i64 i)), (10, (.int .i64 4)), (11, (.bool true)), (12, (.bool (decide ((IntKind.wrap .u64 ((IntKind.wrap .u64 ((IntKind.wrap .u64 ((IntKind.wrap .u64 (0 + c0)) + c1)) + c2)) + c3)) ≥ 56)))), (13, (.bool true))]), ⟨5, 1, [(4, 0, .ints .u64 L 26 true), (3, 0, .map [((.int .u64 1), (.slice (some ⟨4, 0, none⟩) 79 79), 0)] 1), (2, 0, .cells [(.int .u64 1), (.int .i64 3)] 30 true), (1, 0, .cells [(.int .i64 200), (.int .i64 79), (.int .i64 0), (.int .u64 1), (.map (some 3))] 48 true), (0, 0, .tail pre .u8 l e)]⟩⟩
theorem R66 (pre : Nat) (n : Nat) (c : Nat) (i : Int) (L : List Int) (c0 : Int) (c1 : Int) (c2 : Int) (c3 : Int) (l : List Int) (e : TypeId) : evCK Try.prog cfgC (runK Try.prog cfgC fsC noT 16 40) 16 (codeAt [1, 1, 1, 1, 1, 0, 1, 0, 0, 1, 0, 0, 1, 1, 0] B) (S79 pre n c i L c0 c1 c2 c3 l e) (normC 1 [1, 5, 6, 7, 8, 10, 11, 12, 13]) =
  some (.normal, (S81 pre n c i c0 c1 c2 c3 L l e)) := by kernel_rfl
noncomputable def S82 (pre : Nat) (n : Nat) (c : Nat) (i : Int) (c0 : Int) (c1 : Int) (c2 : Int) (c3 : Int) (L : List Int) (l : List Int) (e : TypeId) : KSt := ⟨(frameL 86 [(1, (.slice (some ⟨0, pre, none⟩) n c)), (5, (.int .i64 3)), (6, (.pointer (some ⟨1, 0, none⟩))), (7, (.pointer (some ⟨2, 0, none⟩))), (8, (.int .i64 i)), (65, (.bool (!((decide ((IntKind.wrap .u64 ((IntKind.wrap .u64 ((IntKind.wrap .u64 ((IntKind.wrap .u64 (0 + c0)) + c1)) + c2)) + c3)) ≥ 56)) == (decide (i ≥ 56))))))]), ⟨5, 1, [(4, 0, .ints .u64 L 26 true), (3, 0, .map [((.int .u64 1), (.slice (some ⟨4, 0, none⟩) 79 79), 0)] 1), (2, 0, .cells [(.int .u64 1), (.int .i64 3)] 30 true), (1, 0, .cells [(.int .i64 200), (.int .i64 79), (.int .i64 0), (.int .u64 1), (.map (some 3))] 48 true), (0, 0, .tail pre .u8 l e)]⟩⟩
theorem R67 (pre : Nat) (n : Nat) (c : Nat) (i : Int) (c0 : Int) (c1 : Int) (c2 : Int) (c3 : Int) (L : List Int) (l : List Int) (e : TypeId) : evCK Try.prog cfgC (runK Try.prog cfgC fsC noT 16 40) 16 (codeAt [1, 1, 1, 1, 1, 0, 1, 0, 0, 1, 0, 0, 1, 1, 1, 0, 0] B) (S81 pre n c i c0 c1 c2 c3 L l e) (normC 1 [1, 5, 6, 7, 8, 65]) =
  some (.normal, (S82 pre n c i c0 c1 c2 c3 L l e)) := by kernel_rfl
theorem R68 (pre : Nat) (n : Nat) (c : Nat) (i : Int) (c0 : Int) (c1 : Int) (c2 : Int) (c3 : Int) (L : List Int) (l : List Int) (e : TypeId) : evCK Try.prog cfgC (runK Try.prog cfgC fsC noT 16 40) 16 (codeAt [1, 1, 1, 1, 1, 0, 1, 0, 0, 1, 0, 0, 1, 1, 1, 0, 1, 1] B) (S82 pre n c i c0 c1 c2 c3 L l e) (normC 1 [1, 5, 6, 7, 8]) =
  some (.normal, (S75 pre n c i L l e)) := by kernel_rfl
noncomputable def S83 (pre : Nat) (n : Nat) (c : Nat) (i : Int) (L : List Int) (l : List Int) (e : TypeId) : KSt := ⟨(frameL 86 [(1, (.slice (some ⟨0, pre, none⟩) n c)), (5, (.int .i64 3)), (6, (.pointer (some ⟨1, 0, none⟩))), (7, (.pointer (some ⟨2, 0, none⟩))), (8, (.int .i64 i)), (69, (.bool (decide (i < ((n : Nat) : Int)))))]), ⟨5, 1, [(4, 0, .ints .u64 L 26 true), (3, 0, .map [((.int .u64 1), (.slice (some ⟨4, 0, none⟩) 79 79), 0)] 1), (2, 0, .cells [(.int .u64 1), (.int .i64 3)] 30 true), (1, 0, .cells [(.int .i64 200), (.int .i64 79), (.int .i64 0), (.int .u64 1), (.map (some 3))] 48 true), (0, 0, .tail pre .u8 l e)]⟩⟩
theorem R69 (pre : Nat) (n : Nat) (c : Nat) (i : Int) (L : List Int) (l : List Int) (e : TypeId) : evCK Try.prog cfgC (runK Try.prog cfgC fsC noT 16 40) 16 (codeAt [1, 1, 1, 1, 1, 0, 1, 0, 0, 1, 0, 0, 1, 1, 1, 1, 0] B) (S75 pre n c i L l e) (normC 1 [1, 5, 6, 7, 8, 69]) =
  some (.normal, (S83 pre n c i L l e)) := by kernel_rfl
theorem R70 (pre : Nat) (n : Nat) (c : Nat) (i : Int) (L : List Int) (l : List Int) (e : TypeId) : evCK Try.prog cfgC (runK Try.prog cfgC fsC noT 16 40) 16 (codeAt [1, 1, 1, 1, 1, 0, 1, 0, 0, 1, 0, 0, 1, 1, 1, 1, 1, 1] B) (S83 pre n c i L l e) (normC 1 [1, 5, 6, 7, 8]) =
  some (.normal, (S75 pre n c i L l e)) := by kernel_rfl
noncomputable def S84 (pre : Nat) (n : Nat) (c : Nat) (i : Int) (L : List Int) (l : List Int) (e : TypeId) : KSt := ⟨(frameL 86 [(1, (.slice (some ⟨0, pre, none⟩) n c)), (5, (.int .i64 3)), (6, (.pointer (some ⟨1, 0, none⟩))), (7, (.pointer (some ⟨2, 0, none⟩))), (8, (.int .i64 (IntKind.wrap .i64 (i + 1))))]), ⟨5, 1, [(4, 0, .ints .u64 L 26 true), (3, 0, .map [((.int .u64 1), (.slice (some ⟨4, 0, none⟩) 79 79), 0)] 1), (2, 0, .cells [(.int .u64 1), (.int .i64 3)] 30 true), (1, 0, .cells [(.int .i64 200), (.int .i64 79), (.int .i64 0), (.int .u64 1), (.map (some 3))] 48 true), (0, 0, .tail pre .u8 l e)]⟩⟩
theorem R71 (pre : Nat) (n : Nat) (c : Nat) (i : Int) (L : List Int) (l : List Int) (e : TypeId) : evCK Try.prog cfgC (runK Try.prog cfgC fsC noT 16 40) 16 (codeAt [1, 1, 1, 1, 1, 0, 1, 0, 0, 1, 1] B) (S75 pre n c i L l e) (normC 1 [1, 5, 6, 7, 8]) =
  some (.normal, (S84 pre n c i L l e)) := by kernel_rfl
noncomputable def S85 (pre : Nat) (n : Nat) (c : Nat) (i : Int) (L : List Int) (l : List Int) (e : TypeId) : KSt := ⟨(frameL 86 [(1, (.slice (some ⟨0, pre, none⟩) n c)), (5, (.int .i64 3)), (6, (.pointer (some ⟨1, 0, none⟩))), (7, (.pointer (some ⟨2, 0, none⟩))), (8, (.int .i64 (i + 1)))]), ⟨5, 1, [(4, 0, .ints .u64 L 26 true), (3, 0, .map [((.int .u64 1), (.slice (some ⟨4, 0, none⟩) 79 79), 0)] 1), (2, 0, .cells [(.int .u64 1), (.int .i64 3)] 30 true), (1, 0, .cells [(.int .i64 200), (.int .i64 79), (.int .i64 0), (.int .u64 1), (.map (some 3))] 48 true), (0, 0, .tail pre .u8 l e)]⟩⟩
theorem re3 (lg i c0 c1 c2 c3 y : Int) (pre n c : Nat) (l L : List Int) (e : TypeId) (hL : L.length = 79) (hc0 : L.getD 3 0 = c0) (hc1 : L.getD 4 0 = c1) (hc2 : L.getD 5 0 = c2) (hc3 : L.getD 6 0 = c3) (p0 : 0 ≤ c0) (p1 : 0 ≤ c1) (p2 : 0 ≤ c2) (p3 : 0 ≤ c3) (hs : c0 + c1 + c2 + c3 = i) (hi : 0 ≤ i) (hn80 : n ≤ 80) (hc : n ≤ c) (hl : l.length = c) (hcp : c ≤ 9223372036854775807) (hin : i = (n : Int))   {Q : Ex → St → Prop} (hq : Q .normal (KSt.low (S85 pre n c i L l e))) : Gets Try.prog (KH.low ⟨1, 1, [(0, 0, .tail pre .u8 l e)]⟩) (codeAt [1, 1, 1, 1, 1, 0, 1, 0, 0] B) (KSt.low (S75 pre n c i L l e)) Q := by
  rw [C1_1_1_1_1_0_1_0_0]; refine Gets.seq ?_
  rw [C1_1_1_1_1_0_1_0_0_0]; refine Gets.seq ?_
  refine Gets.ofN fitC SoundC.no AgreeT.no 16 40 (by kernel_rfl) (x := .normal) (s' := (S76 pre n c i L l e)) (R62 pre n c i L l e) ?_
  show Gets _ _ (codeAt [1, 1, 1, 1, 1, 0, 1, 0, 0, 0, 1] B) _ _
  rw [C1_1_1_1_1_0_1_0_0_0_1]; refine Gets.cond true (by kernel_rfl) ((show evalX (KSt.ts (S76 pre n c i L l e)) (.tmp 31) = .bool (decide (i ≤ ((n : Nat) : Int))) by kernel_rfl).trans (by rw [(show (decide (i ≤ ((n : Nat) : Int))) = true from decide_eq_true (by ((try simp (disch := omega) only [hc0, hc1, hc2, hc3, wrap_i64_id, wrap_u64_id, List.length_set, List.length_replicate]) <;> omega)))])) ?_; show Gets _ _ (codeAt [1, 1, 1, 1, 1, 0, 1, 0, 0, 0, 1, 0] B) _ _
  refine Gets.ofN fitC SoundC.no AgreeT.no 16 40 (by kernel_rfl) (x := .normal) (s' := (S75 pre n c i L l e)) (R63 pre n c i L l e) ?_
  show Gets _ _ (codeAt [1, 1, 1, 1, 1, 0, 1, 0, 0, 1] B) _ _
  rw [C1_1_1_1_1_0_1_0_0_1]; refine Gets.seq ?_
  rw [C1_1_1_1_1_0_1_0_0_1_0]; refine Gets.block ?_
  rw [C1_1_1_1_1_0_1_0_0_1_0_0]; refine Gets.seq ?_
  refine Gets.ofN fitC SoundC.no AgreeT.no 16 40 (by kernel_rfl) (x := .normal) (s' := (S77 pre n c i L l e)) (R64 pre n c i L l e) ?_
  show Gets _ _ (codeAt [1, 1, 1, 1, 1, 0, 1, 0, 0, 1, 0, 0, 1] B) _ _
  rw [C1_1_1_1_1_0_1_0_0_1_0_0_1]; refine Gets.seq ?_
  refine Gets.ofN fitC SoundC.no AgreeT.no 16 40 (by kernel_rfl) (x := .normal) (s' := (S79 pre n c i L c0 c1 c2 c3 l e)) ((R65 pre n c i L l e).trans (by rw [obind_at (k := 3) (by ((try simp (disch := omega) only [hc0, hc1, hc2, hc3, wrap_i64_id, wrap_u64_id, List.length_set, List.length_replicate]) <;> omega)) (by ((try simp (disch := omega) only [hc0, hc1, hc2, hc3, wrap_i64_id, wrap_u64_id, List.length_set, List.length_replicate]) <;> omega)), obind_at (k := 4) (by ((try simp (disch := omega) only [hc0, hc1, hc2, hc3, wrap_i64_id, wrap_u64_id, List.length_set, List.length_replicate]) <;> omega)) (by ((try simp (disch := omega) only [hc0, hc1, hc2, hc3, wrap_i64_id, wrap_u64_id, List.length_set, List.length_replicate]) <;> omega)), obind_at (k := 5) (by ((try simp (disch := omega) only [hc0, hc1, hc2, hc3, wrap_i64_id, wrap_u64_id, List.length_set, List.length_replicate]) <;> omega)) (by ((try simp (disch := omega) only [hc0, hc1, hc2, hc3, wrap_i64_id, wrap_u64_id, List.length_set, List.length_replicate]) <;> omega)), obind_at (k := 6) (by ((try simp (disch := omega) only [hc0, hc1, hc2, hc3, wrap_i64_id, wrap_u64_id, List.length_set, List.length_replicate]) <;> omega)) (by ((try simp (disch := omega) only [hc0, hc1, hc2, hc3, wrap_i64_id, wrap_u64_id, List.length_set, List.length_replicate]) <;> omega))] <;> (show some (Ex.normal, (S80 pre n c i L l e)) = some (Ex.normal, (S79 pre n c i L c0 c1 c2 c3 l e)); unfold S80 S79; rw [(show (L.getD 3 0) = c0 from hc0), (show (L.getD 4 0) = c1 from hc1), (show (L.getD 5 0) = c2 from hc2), (show (L.getD 6 0) = c3 from hc3)]))) ?_
  show Gets _ _ (codeAt [1, 1, 1, 1, 1, 0, 1, 0, 0, 1, 0, 0, 1, 1] B) _ _
  rw [C1_1_1_1_1_0_1_0_0_1_0_0_1_1]; refine Gets.seq ?_
  refine Gets.ofN fitC SoundC.no AgreeT.no 16 40 (by kernel_rfl) (x := .normal) (s' := (S81 pre n c i c0 c1 c2 c3 L l e)) (R66 pre n c i L c0 c1 c2 c3 l e) ?_
  show Gets _ _ (codeAt [1, 1, 1, 1, 1, 0, 1, 0, 0, 1, 0, 0, 1, 1, 1] B) _ _
  rw [C1_1_1_1_1_0_1_0_0_1_0_0_1_1_1]; refine Gets.seq ?_
  rw [C1_1_1_1_1_0_1_0_0_1_0_0_1_1_1_0]; refine Gets.seq ?_
  refine Gets.ofN fitC SoundC.no AgreeT.no 16 40 (by kernel_rfl) (x := .normal) (s' := (S82 pre n c i c0 c1 c2 c3 L l e)) (R67 pre n c i c0 c1 c2 c3 L l e) ?_
  show Gets _ _ (codeAt [1, 1, 1, 1, 1, 0, 1, 0, 0, 1, 0, 0, 1, 1, 1, 0, 1] B) _ _
  rw [C1_1_1_1_1_0_1_0_0_1_0_0_1_1_1_0_1]; refine Gets.cond false (by kernel_rfl) ((show evalX (KSt.ts (S82 pre n c i c0 c1 c2 c3 L l e)) (.tmp 65) = .bool (!((decide ((IntKind.wrap .u64 ((IntKind.wrap .u64 ((IntKind.wrap .u64 ((IntKind.wrap .u64 (0 + c0)) + c1)) + c2)) + c3)) ≥ 56)) == (decide (i ≥ 56)))) by kernel_rfl).trans (by rw [(show (!((decide ((IntKind.wrap .u64 ((IntKind.wrap .u64 ((IntKind.wrap .u64 ((IntKind.wrap .u64 (0 + c0)) + c1)) + c2)) + c3)) ≥ 56)) == (decide (i ≥ 56)))) = false from not_f (sum_dec hs p0 p1 p2 p3 (by omega)))])) ?_; show Gets _ _ (codeAt [1, 1, 1, 1, 1, 0, 1, 0, 0, 1, 0, 0, 1, 1, 1, 0, 1, 1] B) _ _
  refine Gets.ofN fitC SoundC.no AgreeT.no 16 40 (by kernel_rfl) (x := .normal) (s' := (S75 pre n c i L l e)) (R68 pre n c i c0 c1 c2 c3 L l e) ?_
  show Gets _ _ (codeAt [1, 1, 1, 1, 1, 0, 1, 0, 0, 1, 0, 0, 1, 1, 1, 1] B) _ _
  rw [C1_1_1_1_1_0_1_0_0_1_0_0_1_1_1_1]; refine Gets.seq ?_
  refine Gets.ofN fitC SoundC.no AgreeT.no 16 40 (by kernel_rfl) (x := .normal) (s' := (S83 pre n c i L l e)) (R69 pre n c i L l e) ?_
  show Gets _ _ (codeAt [1, 1, 1, 1, 1, 0, 1, 0, 0, 1, 0, 0, 1, 1, 1, 1, 1] B) _ _
  rw [C1_1_1_1_1_0_1_0_0_1_0_0_1_1_1_1_1]; refine Gets.cond false (by kernel_rfl) ((show evalX (KSt.ts (S83 pre n c i L l e)) (.tmp 69) = .bool (decide (i < ((n : Nat) : Int))) by kernel_rfl).trans (by rw [(show (decide (i < ((n : Nat) : Int))) = false from decide_eq_false (by ((try simp (disch := omega) only [hc0, hc1, hc2, hc3, wrap_i64_id, wrap_u64_id, List.length_set, List.length_replicate]) <;> omega)))])) ?_; show Gets _ _ (codeAt [1, 1, 1, 1, 1, 0, 1, 0, 0, 1, 0, 0, 1, 1, 1, 1, 1, 1] B) _ _
  refine Gets.ofN fitC SoundC.no AgreeT.no 16 40 (by kernel_rfl) (x := .normal) (s' := (S75 pre n c i L l e)) (R70 pre n c i L l e) ?_
  show Gets _ _ (codeAt [1, 1, 1, 1, 1, 0, 1, 0, 0, 1, 1] B) _ _
  refine Gets.ofN fitC SoundC.no AgreeT.no 16 40 (by kernel_rfl) (x := .normal) (s' := (S85 pre n c i L l e)) ((R71 pre n c i L l e).trans (by (show some (Ex.normal, (S84 pre n c i L l e)) = some (Ex.normal, (S85 pre n c i L l e)); unfold S84 S85; rw [(show (IntKind.wrap .i64 (i + 1)) = (i + 1) from wrap_i64_id (by omega) (by omega))]))) ?_
  exact hq
noncomputable def S86 (pre : Nat) (n : Nat) (c : Nat) (i : Int) (L : List Int) (l : List Int) (e : TypeId) : KSt := ⟨(frameL 86 [(1, (.slice (some ⟨0, pre, none⟩) n c)), (5, (.int .i64 3)), (6, (.pointer (some ⟨1, 0, none⟩))), (7, (.pointer (some ⟨2, 0, none⟩))), (8, (.int .i64 i))]), ⟨5, 1, [(4, 0, .ints .u64 L 26 true), (3, 0, .map [((.int .u64 1), (.slice (some ⟨4, 0, none⟩) 79 79), 0)] 1), (2, 0, .cells [(.int .u64 1), (.int .i64 3)] 30 true), (1, 0, .cells [(.int .i64 200), (.int .i64 79), (.int .i64 1), (.int .u64 1), (.map (some 3))] 48 true), (0, 0, .tail pre .u8 l e)]⟩⟩
noncomputable def S87 (pre : Nat) (n : Nat) (c : Nat) (i : Int) (L : List Int) (n1 : Int) (n3 : Int) (l : List Int) (e : TypeId) : KSt := ⟨(frameL 86 [(1, (.slice (some ⟨0, pre, none⟩) n c)), (5, (.int .i64 3)), (6, (.pointer (some ⟨1, 0, none⟩))), (7, (.pointer (some ⟨2, 0, none⟩))), (8, (.int .i64 i))]), ⟨5, 1, [(4, 0, .ints .u64 ((List.set L (0 + ((Int.toNat ((IntKind.wrap .i64 (3 + (bits .and .i64 (Int.tmod (IntKind.wrap .i64 n1) 64) 3))))) * 1)) (IntKind.wrap .u64 (n3 + 1)))) 26 true), (3, 0, .map [((.int .u64 1), (.slice (some ⟨4, 0, none⟩) 79 79), 0)] 1), (2, 0, .cells [(.int .u64 1), (.int .i64 3)] 30 true), (1, 0, .cells [(.int .i64 200), (.int .i64 79), (.int .i64 0), (.int .u64 1), (.map (some 3))] 48 true), (0, 0, .tail pre .u8 l e)]⟩⟩
theorem R72 (pre : Nat) (n : Nat) (c : Nat) (i : Int) (L : List Int) (l : List Int) (e : TypeId) : evCK Try.prog cfgC (runK Try.prog cfgC fsC noT 16 40) 16 (codeAt [1, 1, 1, 1, 1, 0, 1, 0, 0, 1, 0, 0, 1, 1, 1, 1, 1, 0] B) (S83 pre n c i L l e) (normC 1 [1, 5, 6, 7, 8]) =
  if 0 ≤ i ∧ i < ((n : Nat) : Int) then
    bif (Nat.ble pre (pre + ((Int.toNat i) * 1))) then
      obind (l[((pre + ((Int.toNat i) * 1)) - pre)]?) fun n1 =>
        bif (!(decide ((IntKind.wrap .i64 (3 + (bits .and .i64 (Int.tmod (IntKind.wrap .i64 n1) 64) 3))) ≥ 0))) then
          some (.normal, (S75 pre n c i L l e))
        else
          bif (decide ((IntKind.wrap .i64 (3 + (bits .and .i64 (Int.tmod (IntKind.wrap .i64 n1) 64) 3))) < 0)) then
            some (.normal, (S86 pre n c i L l e))
          else
            bif (decide ((IntKind.wrap .i64 (3 + (bits .and .i64 (Int.tmod (IntKind.wrap .i64 n1) 64) 3))) ≥ 79)) then
              some (.normal, (S86 pre n c i L l e))
            else
              if 0 ≤ (IntKind.wrap .i64 (3 + (bits .and .i64 (Int.tmod (IntKind.wrap .i64 n1) 64) 3))) ∧ (IntKind.wrap .i64 (3 + (bits .and .i64 (Int.tmod (IntKind.wrap .i64 n1) 64) 3))) < 79 then
                obind (L[(0 + ((Int.toNat ((IntKind.wrap .i64 (3 + (bits .and .i64 (Int.tmod (IntKind.wrap .i64 n1) 64) 3))))) * 1))]?) fun n2 =>
                  obind (L[(0 + ((Int.toNat ((IntKind.wrap .i64 (3 + (bits .and .i64 (Int.tmod (IntKind.wrap .i64 n1) 64) 3))))) * 1))]?) fun n3 =>
                    bif (Nat.ble ((0 + ((Int.toNat ((IntKind.wrap .i64 (3 + (bits .and .i64 (Int.tmod (IntKind.wrap .i64 n1) 64) 3))))) * 1)) + 1) (List.length L)) then
                      some (.normal, (S87 pre n c i L n1 n3 l e))
                    else
                      none
              else
                none
    else
      none
  else
    none := by kernel_rfl
noncomputable def S88 (pre : Nat) (n : Nat) (c : Nat) (i : Int) (L : List Int) (y : Int) (l : List Int) (e : TypeId) : KSt := ⟨(frameL 86 [(1, (.slice (some ⟨0, pre, none⟩) n c)), (5, (.int .i64 3)), (6, (.pointer (some ⟨1, 0, none⟩))), (7, (.pointer (some ⟨2, 0, none⟩))), (8, (.int .i64 i))]), ⟨5, 1, [(4, 0, .ints .u64 ((List.set L (0 + ((Int.toNat (3 + y)) * 1)) (IntKind.wrap .u64 ((L.getD (0 + ((Int.toNat (3 + y)) * 1)) 0) + 1)))) 26 true), (3, 0, .map [((.int .u64 1), (.slice (some ⟨4, 0, none⟩) 79 79), 0)] 1), (2, 0, .cells [(.int .u64 1), (.int .i64 3)] 30 true), (1, 0, .cells [(.int .i64 200), (.int .i64 79), (.int .i64 0), (.int .u64 1), (.map (some 3))] 48 true), (0, 0, .tail pre .u8 l e)]⟩⟩
noncomputable def S89 (pre : Nat) (n : Nat) (c : Nat) (i : Int) (L : List Int) (l : List Int) (e : TypeId) : KSt := ⟨(frameL 86 [(1, (.slice (some ⟨0, pre, none⟩) n c)), (5, (.int .i64 3)), (6, (.pointer (some ⟨1, 0, none⟩))), (7, (.pointer (some ⟨2, 0, none⟩))), (8, (.int .i64 i))]), ⟨5, 1, [(4, 0, .ints .u64 ((List.set L (0 + ((Int.toNat (IntKind.wrap .i64 (3 + (bits .and .i64 (Int.tmod (IntKind.wrap .i64 (l.getD ((Int.toNat i) * 1) 0)) 64) 3)))) * 1)) (IntKind.wrap .u64 ((L.getD (0 + ((Int.toNat (IntKind.wrap .i64 (3 + (bits .and .i64 (Int.tmod (IntKind.wrap .i64 (l.getD ((Int.toNat i) * 1) 0)) 64) 3)))) * 1)) 0) + 1)))) 26 true), (3, 0, .map [((.int .u64 1), (.slice (some ⟨4, 0, none⟩) 79 79), 0)] 1), (2, 0, .cells [(.int .u64 1), (.int .i64 3)] 30 true), (1, 0, .cells [(.int .i64 200), (.int .i64 79), (.int .i64 0), (.int .u64 1), (.map (some 3))] 48 true), (0, 0, .tail pre .u8 l e)]⟩⟩
noncomputable def S90 (pre : Nat) (n : Nat) (c : Nat) (i : Int) (L : List Int) (y : Int) (l : List Int) (e : TypeId) : KSt := ⟨(frameL 86 [(1, (.slice (some ⟨0, pre, none⟩) n c)), (5, (.int .i64 3)), (6, (.pointer (some ⟨1, 0, none⟩))), (7, (.pointer (some ⟨2, 0, none⟩))), (8, (.int .i64 (IntKind.wrap .i64 (i + 1))))]), ⟨5, 1, [(4, 0, .ints .u64 ((List.set L (0 + ((Int.toNat (3 + y)) * 1)) (IntKind.wrap .u64 ((L.getD (0 + ((Int.toNat (3 + y)) * 1)) 0) + 1)))) 26 true), (3, 0, .map [((.int .u64 1), (.slice (some ⟨4, 0, none⟩) 79 79), 0)] 1), (2, 0, .cells [(.int .u64 1), (.int .i64 3)] 30 true), (1, 0, .cells [(.int .i64 200), (.int .i64 79), (.int .i64 0), (.int .u64 1), (.map (some 3))] 48 true), (0, 0, .tail pre .u8 l e)]⟩⟩
theorem R73 (pre : Nat) (n : Nat) (c : Nat) (i : Int) (L : List Int) (y : Int) (l : List Int) (e : TypeId) : evCK Try.prog cfgC (runK Try.prog cfgC fsC noT 16 40) 16 (codeAt [1, 1, 1, 1, 1, 0, 1, 0, 0, 1, 1] B) (S88 pre n c i L y l e) (normC 1 [1, 5, 6, 7, 8]) =
  some (.normal, (S90 pre n c i L y l e)) := by kernel_rfl
noncomputable def S91 (pre : Nat) (n : Nat) (c : Nat) (i : Int) (L : List Int) (y : Int) (l : List Int) (e : TypeId) : KSt := ⟨(frameL 86 [(1, (.slice (some ⟨0, pre, none⟩) n c)), (5, (.int .i64 3)), (6, (.pointer (some ⟨1, 0, none⟩))), (7, (.pointer (some ⟨2, 0, none⟩))), (8, (.int .i64 (i + 1)))]), ⟨5, 1, [(4, 0, .ints .u64 ((List.set L (0 + ((Int.toNat (3 + y)) * 1)) (IntKind.wrap .u64 ((L.getD (0 + ((Int.toNat (3 + y)) * 1)) 0) + 1)))) 26 true), (3, 0, .map [((.int .u64 1), (.slice (some ⟨4, 0, none⟩) 79 79), 0)] 1), (2, 0, .cells [(.int .u64 1), (.int .i64 3)] 30 true), (1, 0, .cells [(.int .i64 200), (.int .i64 79), (.int .i64 0), (.int .u64 1), (.map (some 3))] 48 true), (0, 0, .tail pre .u8 l e)]⟩⟩
theorem rm3 (lg i c0 c1 c2 c3 y : Int) (pre n c : Nat) (l L : List Int) (e : TypeId) (hL : L.length = 79) (hc0 : L.getD 3 0 = c0) (hc1 : L.getD 4 0 = c1) (hc2 : L.getD 5 0 = c2) (hc3 : L.getD 6 0 = c3) (p0 : 0 ≤ c0) (p1 : 0 ≤ c1) (p2 : 0 ≤ c2) (p3 : 0 ≤ c3) (hs : c0 + c1 + c2 + c3 = i) (hi : 0 ≤ i) (hn80 : n ≤ 80) (hc : n ≤ c) (hl : l.length = c) (hcp : c ≤ 9223372036854775807) (hin : i < (n : Int)) (hu : 0 ≤ l.getD ((Int.toNat i) * 1) 0 ∧ l.getD ((Int.toNat i) * 1) 0 < 256) (hy : (bits .and .i64 (Int.tmod (l.getD ((Int.toNat i) * 1) 0) 64) 3) = y) (hy0 : 0 ≤ y) (hy3 : y ≤ 3)   {Q : Ex → St → Prop} (hq : Q .normal (KSt.low (S91 pre n c i L y l e))) : Gets Try.prog (KH.low ⟨1, 1, [(0, 0, .tail pre .u8 l e)]⟩) (codeAt [1, 1, 1, 1, 1, 0, 1, 0, 0] B) (KSt.low (S75 pre n c i L l e)) Q := by
  rw [C1_1_1_1_1_0_1_0_0]; refine Gets.seq ?_
  rw [C1_1_1_1_1_0_1_0_0_0]; refine Gets.seq ?_
  refine Gets.ofN fitC SoundC.no AgreeT.no 16 40 (by kernel_rfl) (x := .normal) (s' := (S76 pre n c i L l e)) (R62 pre n c i L l e) ?_
  show Gets _ _ (codeAt [1, 1, 1, 1, 1, 0, 1, 0, 0, 0, 1] B) _ _
  rw [C1_1_1_1_1_0_1_0_0_0_1]; refine Gets.cond true (by kernel_rfl) ((show evalX (KSt.ts (S76 pre n c i L l e)) (.tmp 31) = .bool (decide (i ≤ ((n : Nat) : Int))) by kernel_rfl).trans (by rw [(show (decide (i ≤ ((n : Nat) : Int))) = true from decide_eq_true (by ((try simp (disch := omega) only [hy, hc0, hc1, hc2, hc3, wrap_i64_id, wrap_u64_id, List.length_set, List.length_replicate]) <;> omega)))])) ?_; show Gets _ _ (codeAt [1, 1, 1, 1, 1, 0, 1, 0, 0, 0, 1, 0] B) _ _
  refine Gets.ofN fitC SoundC.no AgreeT.no 16 40 (by kernel_rfl) (x := .normal) (s' := (S75 pre n c i L l e)) (R63 pre n c i L l e) ?_
  show Gets _ _ (codeAt [1, 1, 1, 1, 1, 0, 1, 0, 0, 1] B) _ _
  rw [C1_1_1_1_1_0_1_0_0_1]; refine Gets.seq ?_
  rw [C1_1_1_1_1_0_1_0_0_1_0]; refine Gets.block ?_
  rw [C1_1_1_1_1_0_1_0_0_1_0_0]; refine Gets.seq ?_
  refine Gets.ofN fitC SoundC.no AgreeT.no 16 40 (by kernel_rfl) (x := .normal) (s' := (S77 pre n c i L l e)) (R64 pre n c i L l e) ?_
  show Gets _ _ (codeAt [1, 1, 1, 1, 1, 0, 1, 0, 0, 1, 0, 0, 1] B) _ _
  rw [C1_1_1_1_1_0_1_0_0_1_0_0_1]; refine Gets.seq ?_
  refine Gets.ofN fitC SoundC.no AgreeT.no 16 40 (by kernel_rfl) (x := .normal) (s' := (S79 pre n c i L c0 c1 c2 c3 l e)) ((R65 pre n c i L l e).trans (by rw [obind_at (k := 3) (by ((try simp (disch := omega) only [hy, hc0, hc1, hc2, hc3, wrap_i64_id, wrap_u64_id, List.length_set, List.length_replicate]) <;> omega)) (by ((try simp (disch := omega) only [hy, hc0, hc1, hc2, hc3, wrap_i64_id, wrap_u64_id, List.length_set, List.length_replicate]) <;> omega)), obind_at (k := 4) (by ((try simp (disch := omega) only [hy, hc0, hc1, hc2, hc3, wrap_i64_id, wrap_u64_id, List.length_set, List.length_replicate]) <;> omega)) (by ((try simp (disch := omega) only [hy, hc0, hc1, hc2, hc3, wrap_i64_id, wrap_u64_id, List.length_set, List.length_replicate]) <;> omega)), obind_at (k := 5) (by ((try simp (disch := omega) only [hy, hc0, hc1, hc2, hc3, wrap_i64_id, wrap_u64_id, List.length_set, List.length_replicate]) <;> omega)) (by ((try simp (disch := omega) only [hy, hc0, hc1, hc2, hc3, wrap_i64_id, wrap_u64_id, List.length_set, List.length_replicate]) <;> omega)), obind_at (k := 6) (by ((try simp (disch := omega) only [hy, hc0, hc1, hc2, hc3, wrap_i64_id, wrap_u64_id, List.length_set, List.length_replicate]) <;> omega)) (by ((try simp (disch := omega) only [hy, hc0, hc1, hc2, hc3, wrap_i64_id, wrap_u64_id, List.length_set, List.length_replicate]) <;> omega))] <;> (show some (Ex.normal, (S80 pre n c i L l e)) = some (Ex.normal, (S79 pre n c i L c0 c1 c2 c3 l e)); unfold S80 S79; rw [(show (L.getD 3 0) = c0 from hc0), (show (L.getD 4 0) = c1 from hc1), (show (L.getD 5 0) = c2 from hc2), (show (L.getD 6 0) = c3 from hc3)]))) ?_
  show Gets _ _ (codeAt [1, 1, 1, 1, 1, 0, 1, 0, 0, 1, 0, 0, 1, 1] B) _ _
  rw [C1_1_1_1_1_0_1_0_0_1_0_0_1_1]; refine Gets.seq ?_
  refine Gets.ofN fitC SoundC.no AgreeT.no 16 40 (by kernel_rfl) (x := .normal) (s' := (S81 pre n c i c0 c1 c2 c3 L l e)) (R66 pre n c i L c0 c1 c2 c3 l e) ?_
  show Gets _ _ (codeAt [1, 1, 1, 1, 1, 0, 1, 0, 0, 1, 0, 0, 1, 1, 1] B) _ _
  rw [C1_1_1_1_1_0_1_0_0_1_0_0_1_1_1]; refine Gets.seq ?_
  rw [C1_1_1_1_1_0_1_0_0_1_0_0_1_1_1_0]; refine Gets.seq ?_
  refine Gets.ofN fitC SoundC.no AgreeT.no 16 40 (by kernel_rfl) (x := .normal) (s' := (S82 pre n c i c0 c1 c2 c3 L l e)) (R67 pre n c i c0 c1 c2 c3 L l e) ?_
  show Gets _ _ (codeAt [1, 1, 1, 1, 1, 0, 1, 0, 0, 1, 0, 0, 1, 1, 1, 0, 1] B) _ _
  rw [C1_1_1_1_1_0_1_0_0_1_0_0_1_1_1_0_1]; refine Gets.cond false (by kernel_rfl) ((show evalX (KSt.ts (S82 pre n c i c0 c1 c2 c3 L l e)) (.tmp 65) = .bool (!((decide ((IntKind.wrap .u64 ((IntKind.wrap .u64 ((IntKind.wrap .u64 ((IntKind.wrap .u64 (0 + c0)) + c1)) + c2)) + c3)) ≥ 56)) == (decide (i ≥ 56)))) by kernel_rfl).trans (by rw [(show (!((decide ((IntKind.wrap .u64 ((IntKind.wrap .u64 ((IntKind.wrap .u64 ((IntKind.wrap .u64 (0 + c0)) + c1)) + c2)) + c3)) ≥ 56)) == (decide (i ≥ 56)))) = false from not_f (sum_dec hs p0 p1 p2 p3 (by omega)))])) ?_; show Gets _ _ (codeAt [1, 1, 1, 1, 1, 0, 1, 0, 0, 1, 0, 0, 1, 1, 1, 0, 1, 1] B) _ _
  refine Gets.ofN fitC SoundC.no AgreeT.no 16 40 (by kernel_rfl) (x := .normal) (s' := (S75 pre n c i L l e)) (R68 pre n c i c0 c1 c2 c3 L l e) ?_
  show Gets _ _ (codeAt [1, 1, 1, 1, 1, 0, 1, 0, 0, 1, 0, 0, 1, 1, 1, 1] B) _ _
  rw [C1_1_1_1_1_0_1_0_0_1_0_0_1_1_1_1]; refine Gets.seq ?_
  refine Gets.ofN fitC SoundC.no AgreeT.no 16 40 (by kernel_rfl) (x := .normal) (s' := (S83 pre n c i L l e)) (R69 pre n c i L l e) ?_
  show Gets _ _ (codeAt [1, 1, 1, 1, 1, 0, 1, 0, 0, 1, 0, 0, 1, 1, 1, 1, 1] B) _ _
  rw [C1_1_1_1_1_0_1_0_0_1_0_0_1_1_1_1_1]; refine Gets.cond true (by kernel_rfl) ((show evalX (KSt.ts (S83 pre n c i L l e)) (.tmp 69) = .bool (decide (i < ((n : Nat) : Int))) by kernel_rfl).trans (by rw [(show (decide (i < ((n : Nat) : Int))) = true from decide_eq_true (by ((try simp (disch := omega) only [hy, hc0, hc1, hc2, hc3, wrap_i64_id, wrap_u64_id, List.length_set, List.length_replicate]) <;> omega)))])) ?_; show Gets _ _ (codeAt [1, 1, 1, 1, 1, 0, 1, 0, 0, 1, 0, 0, 1, 1, 1, 1, 1, 0] B) _ _
  refine Gets.ofN fitC SoundC.no AgreeT.no 16 40 (by kernel_rfl) (x := .normal) (s' := (S88 pre n c i L y l e)) ((R72 pre n c i L l e).trans (by rw [if_pos (⟨by ((try simp (disch := omega) only [hy, hc0, hc1, hc2, hc3, wrap_i64_id, wrap_u64_id, List.length_set, List.length_replicate]) <;> omega), by ((try simp (disch := omega) only [hy, hc0, hc1, hc2, hc3, wrap_i64_id, wrap_u64_id, List.length_set, List.length_replicate]) <;> omega)⟩), condT (ble_t (by ((try simp (disch := omega) only [hy, hc0, hc1, hc2, hc3, wrap_i64_id, wrap_u64_id, List.length_set, List.length_replicate]) <;> omega))), obind_at (k := ((Int.toNat i) * 1)) (by ((try simp (disch := omega) only [hy, hc0, hc1, hc2, hc3, wrap_i64_id, wrap_u64_id, List.length_set, List.length_replicate]) <;> omega)) (by ((try simp (disch := omega) only [hy, hc0, hc1, hc2, hc3, wrap_i64_id, wrap_u64_id, List.length_set, List.length_replicate]) <;> omega)), condF (not_f (decide_eq_true (by ((try simp (disch := omega) only [hy, hc0, hc1, hc2, hc3, wrap_i64_id, wrap_u64_id, List.length_set, List.length_replicate]) <;> omega)))), condF (decide_eq_false (by ((try simp (disch := omega) only [hy, hc0, hc1, hc2, hc3, wrap_i64_id, wrap_u64_id, List.length_set, List.length_replicate]) <;> omega))), condF (decide_eq_false (by ((try simp (disch := omega) only [hy, hc0, hc1, hc2, hc3, wrap_i64_id, wrap_u64_id, List.length_set, List.length_replicate]) <;> omega))), if_pos (⟨by ((try simp (disch := omega) only [hy, hc0, hc1, hc2, hc3, wrap_i64_id, wrap_u64_id, List.length_set, List.length_replicate]) <;> omega), by ((try simp (disch := omega) only [hy, hc0, hc1, hc2, hc3, wrap_i64_id, wrap_u64_id, List.length_set, List.length_replicate]) <;> omega)⟩), obind_at (k := 0 + ((Int.toNat (IntKind.wrap .i64 (3 + (bits .and .i64 (Int.tmod (IntKind.wrap .i64 (l.getD ((Int.toNat i) * 1) 0)) 64) 3)))) * 1)) (by ((try simp (disch := omega) only [hy, hc0, hc1, hc2, hc3, wrap_i64_id, wrap_u64_id, List.length_set, List.length_replicate]) <;> omega)) (by ((try simp (disch := omega) only [hy, hc0, hc1, hc2, hc3, wrap_i64_id, wrap_u64_id, List.length_set, List.length_replicate]) <;> omega)), obind_at (k := 0 + ((Int.toNat (IntKind.wrap .i64 (3 + (bits .and .i64 (Int.tmod (IntKind.wrap .i64 (l.getD ((Int.toNat i) * 1) 0)) 64) 3)))) * 1)) (by ((try simp (disch := omega) only [hy, hc0, hc1, hc2, hc3, wrap_i64_id, wrap_u64_id, List.length_set, List.length_replicate]) <;> omega)) (by ((try simp (disch := omega) only [hy, hc0, hc1, hc2, hc3, wrap_i64_id, wrap_u64_id, List.length_set, List.length_replicate]) <;> omega)), condT (ble_t (by ((try simp (disch := omega) only [hy, hc0, hc1, hc2, hc3, wrap_i64_id, wrap_u64_id, List.length_set, List.length_replicate]) <;> omega)))] <;> (show some (Ex.normal, (S89 pre n c i L l e)) = some (Ex.normal, (S88 pre n c i L y l e)); unfold S89 S88; rw [(show (IntKind.wrap .i64 (l.getD ((Int.toNat i) * 1) 0)) = (l.getD ((Int.toNat i) * 1) 0) from wrap_i64_id (by omega) (by omega)), (show (bits .and .i64 (Int.tmod (l.getD ((Int.toNat i) * 1) 0) 64) 3) = y from hy), (show (IntKind.wrap .i64 (3 + y)) = (3 + y) from wrap_i64_id (by omega) (by omega))]))) ?_
  show Gets _ _ (codeAt [1, 1, 1, 1, 1, 0, 1, 0, 0, 1, 1] B) _ _
  refine Gets.ofN fitC SoundC.no AgreeT.no 16 40 (by kernel_rfl) (x := .normal) (s' := (S91 pre n c i L y l e)) ((R73 pre n c i L y l e).trans (by (show some (Ex.normal, (S90 pre n c i L y l e)) = some (Ex.normal, (S91 pre n c i L y l e)); unfold S90 S91; rw [(show (IntKind.wrap .i64 (i + 1)) = (i + 1) from wrap_i64_id (by omega) (by omega))]))) ?_
  exact hq
theorem rx3 (lg i c0 c1 c2 c3 y : Int) (pre n c : Nat) (l L : List Int) (e : TypeId) (hx : (n : Int) < i)   {Q : Ex → St → Prop} (hq : Q (.exit 0) (KSt.low (S76 pre n c i L l e))) : Gets Try.prog (KH.low ⟨1, 1, [(0, 0, .tail pre .u8 l e)]⟩) (codeAt [1, 1, 1, 1, 1, 0, 1, 0, 0] B) (KSt.low (S75 pre n c i L l e)) Q := by
  rw [C1_1_1_1_1_0_1_0_0]; refine Gets.seq ?_
  rw [C1_1_1_1_1_0_1_0_0_0]; refine Gets.seq ?_
  refine Gets.ofN fitC SoundC.no AgreeT.no 16 40 (by kernel_rfl) (x := .normal) (s' := (S76 pre n c i L l e)) (R62 pre n c i L l e) ?_
  show Gets _ _ (codeAt [1, 1, 1, 1, 1, 0, 1, 0, 0, 0, 1] B) _ _
  rw [C1_1_1_1_1_0_1_0_0_0_1]; refine Gets.cond false (by kernel_rfl) ((show evalX (KSt.ts (S76 pre n c i L l e)) (.tmp 31) = .bool (decide (i ≤ ((n : Nat) : Int))) by kernel_rfl).trans (by rw [(show (decide (i ≤ ((n : Nat) : Int))) = false from decide_eq_false (by ((try simp (disch := omega) only [wrap_i64_id, wrap_u64_id, List.length_set, List.length_replicate]) <;> omega)))])) ?_; show Gets _ _ (codeAt [1, 1, 1, 1, 1, 0, 1, 0, 0, 0, 1, 1] B) _ _
  rw [C1_1_1_1_1_0_1_0_0_0_1_1]; refine Gets.ev fitC.mix fitC.cfg (fitC.sound SoundC.no 16 0) 16 rfl (s' := KSt.low (S76 pre n c i L l e)) (x := (.exit 0)) rfl ?_
  exact hq
theorem R74 (pre : Nat) (n : Nat) (c : Nat) (i : Int) (L : List Int) (l : List Int) (e : TypeId) : evCK Try.prog cfgC (runK Try.prog cfgC fsC noT 16 40) 16 (codeAt [1, 1, 1, 1, 1, 1, 0] B) (S76 pre n c i L l e) (normC 1 [4]) =
  some (.normal, (S40 pre l e)) := by kernel_rfl
theorem rf3 (lg i c0 c1 c2 c3 y : Int) (pre n c : Nat) (l L : List Int) (e : TypeId)   {Q : Ex → St → Prop} (hq : Q .ret (KSt.low (S40 pre l e))) : Gets Try.prog (KH.low ⟨1, 1, [(0, 0, .tail pre .u8 l e)]⟩) (codeAt [1, 1, 1, 1, 1, 1] B) (KSt.low (S76 pre n c i L l e)) Q := by
  rw [C1_1_1_1_1_1]; refine Gets.seq ?_
  refine Gets.ofN fitC SoundC.no AgreeT.no 16 40 (by kernel_rfl) (x := .normal) (s' := (S40 pre l e)) (R74 pre n c i L l e) ?_
  show Gets _ _ (codeAt [1, 1, 1, 1, 1, 1, 1] B) _ _
  rw [C1_1_1_1_1_1_1]; refine Gets.ev fitC.mix fitC.cfg (fitC.sound SoundC.no 16 0) 16 rfl (s' := KSt.low (S40 pre l e)) (x := .ret) rfl ?_
  exact hq
noncomputable def S92 (pre : Nat) (n : Nat) (c : Nat) (lg : Int) (l : List Int) (e : TypeId) : KSt := ⟨(frameL 86 [(1, (.slice (some ⟨0, pre, none⟩) n c)), (5, (.int .i64 (Int.tmod (IntKind.wrap .i64 lg) 4))), (19, (.bool (decide (((n : Nat) : Int) > 80))))]), ⟨1, 1, [(0, 0, .tail pre .u8 l e)]⟩⟩
theorem R75 (pre : Nat) (n : Nat) (c : Nat) (lg : Int) (l : List Int) (e : TypeId) : evCK Try.prog cfgC (runK Try.prog cfgC fsC noT 16 40) 16 (codeAt [1, 1, 0, 0] B) (S2 pre n c lg l e) (normC 1 [1, 5, 19]) =
  some (.normal, (S92 pre n c lg l e)) := by kernel_rfl
theorem C1_1_0_1_0 : (codeAt [1, 1, 0, 1, 0] B) = .seq (codeAt [1, 1, 0, 1, 0, 0] B) (codeAt [1, 1, 0, 1, 0, 1] B) := by kernel_rfl
theorem R76 (pre : Nat) (n : Nat) (c : Nat) (lg : Int) (l : List Int) (e : TypeId) : evCK Try.prog cfgC (runK Try.prog cfgC fsC noT 16 40) 16 (codeAt [1, 1, 0, 1, 0, 0] B) (S92 pre n c lg l e) (normC 1 [4]) =
  some (.normal, (S40 pre l e)) := by kernel_rfl
theorem C1_1_0_1_0_1 : (codeAt [1, 1, 0, 1, 0, 1] B) = .ret := by kernel_rfl
theorem r80 (lg i c0 c1 c2 c3 y : Int) (pre n c : Nat) (l L : List Int) (e : TypeId) (hn : 80 < n)   {Q : Ex → St → Prop} (hq : Q .ret (KSt.low (S40 pre l e))) : Gets Try.prog (KH.low ⟨1, 1, [(0, 0, .tail pre .u8 l e)]⟩) B (KSt.low (S0 lg pre n c l e)) Q := by
  rw [C]; refine Gets.seq ?_
  refine Gets.ofN fitC SoundC.no AgreeT.no 16 40 (by kernel_rfl) (x := .normal) (s' := (S1 lg pre n c l e)) (R1 lg pre n c l e) ?_
  show Gets _ _ (codeAt [1] B) _ _
  rw [C1]; refine Gets.seq ?_
  refine Gets.ofN fitC SoundC.no AgreeT.no 16 40 (by kernel_rfl) (x := .normal) (s' := (S2 pre n c lg l e)) (R2 lg pre n c l e) ?_
  show Gets _ _ (codeAt [1, 1] B) _ _
  rw [C1_1]; refine Gets.seq ?_
  rw [C1_1_0]; refine Gets.seq ?_
  refine Gets.ofN fitC SoundC.no AgreeT.no 16 40 (by kernel_rfl) (x := .normal) (s' := (S92 pre n c lg l e)) (R75 pre n c lg l e) ?_
  show Gets _ _ (codeAt [1, 1, 0, 1] B) _ _
  rw [C1_1_0_1]; refine Gets.cond true (by kernel_rfl) ((show evalX (KSt.ts (S92 pre n c lg l e)) (.tmp 19) = .bool (decide (((n : Nat) : Int) > 80)) by kernel_rfl).trans (by rw [(show (decide (((n : Nat) : Int) > 80)) = true from decide_eq_true (by ((try simp (disch := omega) only [wrap_i64_id, wrap_u64_id, List.length_set, List.length_replicate]) <;> omega)))])) ?_; show Gets _ _ (codeAt [1, 1, 0, 1, 0] B) _ _
  rw [C1_1_0_1_0]; refine Gets.seq ?_
  refine Gets.ofN fitC SoundC.no AgreeT.no 16 40 (by kernel_rfl) (x := .normal) (s' := (S40 pre l e)) (R76 pre n c lg l e) ?_
  show Gets _ _ (codeAt [1, 1, 0, 1, 0, 1] B) _ _
  rw [C1_1_0_1_0_1]; refine Gets.ev fitC.mix fitC.cfg (fitC.sound SoundC.no 16 0) 16 rfl (s' := KSt.low (S40 pre l e)) (x := .ret) rfl ?_
  exact hq
noncomputable def vS0 (lg : Int) (pre : Nat) : KSt := (firstK [(.int .u8 lg), (.slice (some ⟨0, pre, none⟩) 0 0)] 86 ⟨1, 1, []⟩)
noncomputable def vS1 (lg : Int) (pre : Nat) : KSt := ⟨(frameL 86 [(0, (.int .u8 lg)), (1, (.slice (some ⟨0, pre, none⟩) 0 0))]), ⟨1, 1, []⟩⟩
theorem vR1 (lg : Int) (pre : Nat) : evCK Try.prog cfgC (runK Try.prog cfgC fsC noT 16 40) 16 (codeAt [0] B) (vS0 lg pre) (normC 1 [0, 1]) =
  some (.normal, (vS1 lg pre)) := by kernel_rfl
noncomputable def vS2 (pre : Nat) (lg : Int) : KSt := ⟨(frameL 86 [(1, (.slice (some ⟨0, pre, none⟩) 0 0)), (5, (.int .i64 (Int.tmod (IntKind.wrap .i64 lg) 4)))]), ⟨1, 1, []⟩⟩
theorem vR2 (lg : Int) (pre : Nat) : evCK Try.prog cfgC (runK Try.prog cfgC fsC noT 16 40) 16 (codeAt [1, 0] B) (vS1 lg pre) (normC 1 [1, 5]) =
  some (.normal, (vS2 pre lg)) := by kernel_rfl
noncomputable def vS3 (pre : Nat) : KSt := ⟨(frameL 86 [(1, (.slice (some ⟨0, pre, none⟩) 0 0)), (5, (.int .i64 0))]), ⟨1, 1, []⟩⟩
noncomputable def vS4 (pre : Nat) : KSt := ⟨(frameL 86 [(1, (.slice (some ⟨0, pre, none⟩) 0 0)), (5, (.int .i64 0)), (19, (.bool false))]), ⟨1, 1, []⟩⟩
theorem vR3 (pre : Nat) : evCK Try.prog cfgC (runK Try.prog cfgC fsC noT 16 40) 16 (codeAt [1, 1, 0, 0] B) (vS3 pre) (normC 1 [1, 5, 19]) =
  some (.normal, (vS4 pre)) := by kernel_rfl
theorem vR4 (pre : Nat) : evCK Try.prog cfgC (runK Try.prog cfgC fsC noT 16 40) 16 (codeAt [1, 1, 0, 1, 1] B) (vS4 pre) (normC 1 [1, 5]) =
  some (.normal, (vS3 pre)) := by kernel_rfl
noncomputable def vS5 (pre : Nat) : KSt := ⟨(frameL 86 [(1, (.slice (some ⟨0, pre, none⟩) 0 0)), (5, (.int .i64 0)), (6, (.pointer (some ⟨1, 0, none⟩)))]), ⟨3, 1, [(2, 0, .map [] 0), (1, 0, .cells [(.int .i64 200), (.int .i64 0), (.int .i64 0), (.int .u64 0), (.map (some 2))] 48 true)]⟩⟩
theorem vR5 (pre : Nat) : evCK Try.prog cfgC (runK Try.prog cfgC fsC noT 16 40) 16 (codeAt [1, 1, 1, 0] B) (vS3 pre) (normC 1 [1, 5, 6]) =
  some (.normal, (vS5 pre)) := by kernel_rfl
noncomputable def vS6 (pre : Nat) : KSt := ⟨(frameL 86 [(1, (.slice (some ⟨0, pre, none⟩) 0 0)), (5, (.int .i64 0)), (6, (.pointer (some ⟨1, 0, none⟩))), (7, (.pointer (some ⟨2, 0, none⟩)))]), ⟨5, 1, [(4, 0, .ints .u64 ((List.replicate 16 0)) 26 true), (3, 0, .map [((.int .u64 1), (.slice (some ⟨4, 0, none⟩) 16 16), 0)] 1), (2, 0, .cells [(.int .u64 1), (.int .i64 0)] 30 true), (1, 0, .cells [(.int .i64 200), (.int .i64 16), (.int .i64 0), (.int .u64 1), (.map (some 3))] 48 true)]⟩⟩
theorem vR6 (pre : Nat) : evCK Try.prog cfgC (runK Try.prog cfgC fsC noT 16 40) 16 (codeAt [1, 1, 1, 1, 0] B) (vS5 pre) (normC 1 [1, 5, 6, 7]) =
  some (.normal, (vS6 pre)) := by kernel_rfl
noncomputable def vS7 (pre : Nat) : KSt := ⟨(frameL 86 [(1, (.slice (some ⟨0, pre, none⟩) 0 0)), (5, (.int .i64 0)), (6, (.pointer (some ⟨1, 0, none⟩))), (7, (.pointer (some ⟨2, 0, none⟩))), (8, (.int .i64 0))]), ⟨5, 1, [(4, 0, .ints .u64 ((List.replicate 16 0)) 26 true), (3, 0, .map [((.int .u64 1), (.slice (some ⟨4, 0, none⟩) 16 16), 0)] 1), (2, 0, .cells [(.int .u64 1), (.int .i64 0)] 30 true), (1, 0, .cells [(.int .i64 200), (.int .i64 16), (.int .i64 0), (.int .u64 1), (.map (some 3))] 48 true)]⟩⟩
theorem vR7 (pre : Nat) : evCK Try.prog cfgC (runK Try.prog cfgC fsC noT 16 40) 16 (codeAt [1, 1, 1, 1, 1, 0, 0] B) (vS6 pre) (normC 1 [1, 5, 6, 7, 8]) =
  some (.normal, (vS7 pre)) := by kernel_rfl
theorem vpre0 (lg i c0 c1 c2 c3 y : Int) (pre : Nat) (L : List Int) (hk : (Int.tmod (IntKind.wrap .i64 lg) 4) = 0)   {Q : Ex → St → Prop} (hq : Gets Try.prog (KH.low ⟨1, 1, []⟩) (codeAt [1, 1, 1, 1, 1, 0, 1] B) (KSt.low (vS7 pre)) (onN (fun s => Gets Try.prog (KH.low ⟨1, 1, []⟩) (codeAt [1, 1, 1, 1, 1, 1] B) s (Q)) (Q))) : Gets Try.prog (KH.low ⟨1, 1, []⟩) B (KSt.low (vS0 lg pre)) Q := by
  rw [C]; refine Gets.seq ?_
  refine Gets.ofN fitC SoundC.no AgreeT.no 16 40 (by kernel_rfl) (x := .normal) (s' := (vS1 lg pre)) (vR1 lg pre) ?_
  show Gets _ _ (codeAt [1] B) _ _
  rw [C1]; refine Gets.seq ?_
  refine Gets.ofN fitC SoundC.no AgreeT.no 16 40 (by kernel_rfl) (x := .normal) (s' := (vS3 pre)) ((vR2 lg pre).trans (by (show some (Ex.normal, (vS2 pre lg)) = some (Ex.normal, (vS3 pre)); unfold vS2 vS3; rw [(show (Int.tmod (IntKind.wrap .i64 lg) 4) = 0 from hk)]))) ?_
  show Gets _ _ (codeAt [1, 1] B) _ _
  rw [C1_1]; refine Gets.seq ?_
  rw [C1_1_0]; refine Gets.seq ?_
  refine Gets.ofN fitC SoundC.no AgreeT.no 16 40 (by kernel_rfl) (x := .normal) (s' := (vS4 pre)) (vR3 pre) ?_
  show Gets _ _ (codeAt [1, 1, 0, 1] B) _ _
  rw [C1_1_0_1]; refine Gets.cond false (by kernel_rfl) (show evalX (KSt.ts (vS4 pre)) (.tmp 19) = .bool false by kernel_rfl) ?_; show Gets _ _ (codeAt [1, 1, 0, 1, 1] B) _ _
  refine Gets.ofN fitC SoundC.no AgreeT.no 16 40 (by kernel_rfl) (x := .normal) (s' := (vS3 pre)) (vR4 pre) ?_
  show Gets _ _ (codeAt [1, 1, 1] B) _ _
  rw [C1_1_1]; refine Gets.seq ?_
  refine Gets.ofN fitC SoundC.no AgreeT.no 16 40 (by kernel_rfl) (x := .normal) (s' := (vS5 pre)) (vR5 pre) ?_
  show Gets _ _ (codeAt [1, 1, 1, 1] B) _ _
  rw [C1_1_1_1]; refine Gets.seq ?_
  refine Gets.ofN fitC SoundC.no AgreeT.no 16 40 (by kernel_rfl) (x := .normal) (s' := (vS6 pre)) (vR6 pre) ?_
  show Gets _ _ (codeAt [1, 1, 1, 1, 1] B) _ _
  rw [C1_1_1_1_1]; refine Gets.seq ?_
  rw [C1_1_1_1_1_0]; refine Gets.seq ?_
  refine Gets.ofN fitC SoundC.no AgreeT.no 16 40 (by kernel_rfl) (x := .normal) (s' := (vS7 pre)) (vR7 pre) ?_
  show Gets _ _ (codeAt [1, 1, 1, 1, 1, 0, 1] B) _ _
  exact hq
noncomputable def vS8 (pre : Nat) : KSt := ⟨(frameL 86 [(1, (.slice (some ⟨0, pre, none⟩) 0 0)), (5, (.int .i64 1))]), ⟨1, 1, []⟩⟩
noncomputable def vS9 (pre : Nat) : KSt := ⟨(frameL 86 [(1, (.slice (some ⟨0, pre, none⟩) 0 0)), (5, (.int .i64 1)), (19, (.bool false))]), ⟨1, 1, []⟩⟩
theorem vR8 (pre : Nat) : evCK Try.prog cfgC (runK Try.prog cfgC fsC noT 16 40) 16 (codeAt [1, 1, 0, 0] B) (vS8 pre) (normC 1 [1, 5, 19]) =
  some (.normal, (vS9 pre)) := by kernel_rfl
theorem vR9 (pre : Nat) : evCK Try.prog cfgC (runK Try.prog cfgC fsC noT 16 40) 16 (codeAt [1, 1, 0, 1, 1] B) (vS9 pre) (normC 1 [1, 5]) =
  some (.normal, (vS8 pre)) := by kernel_rfl
noncomputable def vS10 (pre : Nat) : KSt := ⟨(frameL 86 [(1, (.slice (some ⟨0, pre, none⟩) 0 0)), (5, (.int .i64 1)), (6, (.pointer (some ⟨1, 0, none⟩)))]), ⟨3, 1, [(2, 0, .map [] 0), (1, 0, .cells [(.int .i64 200), (.int .i64 0), (.int .i64 0), (.int .u64 0), (.map (some 2))] 48 true)]⟩⟩
theorem vR10 (pre : Nat) : evCK Try.prog cfgC (runK Try.prog cfgC fsC noT 16 40) 16 (codeAt [1, 1, 1, 0] B) (vS8 pre) (normC 1 [1, 5, 6]) =
  some (.normal, (vS10 pre)) := by kernel_rfl
noncomputable def vS11 (pre : Nat) : KSt := ⟨(frameL 86 [(1, (.slice (some ⟨0, pre, none⟩) 0 0)), (5, (.int .i64 1)), (6, (.pointer (some ⟨1, 0, none⟩))), (7, (.pointer (some ⟨2, 0, none⟩)))]), ⟨5, 1, [(4, 0, .ints .u64 ((List.replicate 25 0)) 26 true), (3, 0, .map [((.int .u64 1), (.slice (some ⟨4, 0, none⟩) 25 25), 0)] 1), (2, 0, .cells [(.int .u64 1), (.int .i64 1)] 30 true), (1, 0, .cells [(.int .i64 200), (.int .i64 25), (.int .i64 0), (.int .u64 1), (.map (some 3))] 48 true)]⟩⟩
theorem vR11 (pre : Nat) : evCK Try.prog cfgC (runK Try.prog cfgC fsC noT 16 40) 16 (codeAt [1, 1, 1, 1, 0] B) (vS10 pre) (normC 1 [1, 5, 6, 7]) =
  some (.normal, (vS11 pre)) := by kernel_rfl
noncomputable def vS12 (pre : Nat) : KSt := ⟨(frameL 86 [(1, (.slice (some ⟨0, pre, none⟩) 0 0)), (5, (.int .i64 1)), (6, (.pointer (some ⟨1, 0, none⟩))), (7, (.pointer (some ⟨2, 0, none⟩))), (8, (.int .i64 0))]), ⟨5, 1, [(4, 0, .ints .u64 ((List.replicate 25 0)) 26 true), (3, 0, .map [((.int .u64 1), (.slice (some ⟨4, 0, none⟩) 25 25), 0)] 1), (2, 0, .cells [(.int .u64 1), (.int .i64 1)] 30 true), (1, 0, .cells [(.int .i64 200), (.int .i64 25), (.int .i64 0), (.int .u64 1), (.map (some 3))] 48 true)]⟩⟩
theorem vR12 (pre : Nat) : evCK Try.prog cfgC (runK Try.prog cfgC fsC noT 16 40) 16 (codeAt [1, 1, 1, 1, 1, 0, 0] B) (vS11 pre) (normC 1 [1, 5, 6, 7, 8]) =
  some (.normal, (vS12 pre)) := by kernel_rfl
theorem vpre1 (lg i c0 c1 c2 c3 y : Int) (pre : Nat) (L : List Int) (hk : (Int.tmod (IntKind.wrap .i64 lg) 4) = 1)   {Q : Ex → St → Prop} (hq : Gets Try.prog (KH.low ⟨1, 1, []⟩) (codeAt [1, 1, 1, 1, 1, 0, 1] B) (KSt.low (vS12 pre)) (onN (fun s => Gets Try.prog (KH.low ⟨1, 1, []⟩) (codeAt [1, 1, 1, 1, 1, 1] B) s (Q)) (Q))) : Gets Try.prog (KH.low ⟨1, 1, []⟩) B (KSt.low (vS0 lg pre)) Q := by
  rw [C]; refine Gets.seq ?_
  refine Gets.ofN fitC SoundC.no AgreeT.no 16 40 (by kernel_rfl) (x := .normal) (s' := (vS1 lg pre)) (vR1 lg pre) ?_
  show Gets _ _ (codeAt [1] B) _ _
  rw [C1]; refine Gets.seq ?_
  refine Gets.ofN fitC SoundC.no AgreeT.no 16 40 (by kernel_rfl) (x := .normal) (s' := (vS8 pre)) ((vR2 lg pre).trans (by (show some (Ex.normal, (vS2 pre lg)) = some (Ex.normal, (vS8 pre)); unfold vS2 vS8; rw [(show (Int.tmod (IntKind.wrap .i64 lg) 4) = 1 from hk)]))) ?_
  show Gets _ _ (codeAt [1, 1] B) _ _
  rw [C1_1]; refine Gets.seq ?_
  rw [C1_1_0]; refine Gets.seq ?_
  refine Gets.ofN fitC SoundC.no AgreeT.no 16 40 (by kernel_rfl) (x := .normal) (s' := (vS9 pre)) (vR8 pre) ?_
  show Gets _ _ (codeAt [1, 1, 0, 1] B) _ _
  rw [C1_1_0_1]; refine Gets.cond false (by kernel_rfl) (show evalX (KSt.ts (vS9 pre)) (.tmp 19) = .bool false by kernel_rfl) ?_; show Gets _ _ (codeAt [1, 1, 0, 1, 1] B) _ _
  refine Gets.ofN fitC SoundC.no AgreeT.no 16 40 (by kernel_rfl) (x := .normal) (s' := (vS8 pre)) (vR9 pre) ?_
  show Gets _ _ (codeAt [1, 1, 1] B) _ _
  rw [C1_1_1]; refine Gets.seq ?_
  refine Gets.ofN fitC SoundC.no AgreeT.no 16 40 (by kernel_rfl) (x := .normal) (s' := (vS10 pre)) (vR10 pre) ?_
  show Gets _ _ (codeAt [1, 1, 1, 1] B) _ _
  rw [C1_1_1_1]; refine Gets.seq ?_
  refine Gets.ofN fitC SoundC.no AgreeT.no 16 40 (by kernel_rfl) (x := .normal) (s' := (vS11 pre)) (vR11 pre) ?_
  show Gets _ _ (codeAt [1, 1, 1, 1, 1] B) _ _
  rw [C1_1_1_1_1]; refine Gets.seq ?_
  rw [C1_1_1_1_1_0]; refine Gets.seq ?_
  refine Gets.ofN fitC SoundC.no AgreeT.no 16 40 (by kernel_rfl) (x := .normal) (s' := (vS12 pre)) (vR12 pre) ?_
  show Gets _ _ (codeAt [1, 1, 1, 1, 1, 0, 1] B) _ _
  exact hq
noncomputable def vS13 (pre : Nat) : KSt := ⟨(frameL 86 [(1, (.slice (some ⟨0, pre, none⟩) 0 0)), (5, (.int .i64 2))]), ⟨1, 1, []⟩⟩
noncomputable def vS14 (pre : Nat) : KSt := ⟨(frameL 86 [(1, (.slice (some ⟨0, pre, none⟩) 0 0)), (5, (.int .i64 2)), (19, (.bool false))]), ⟨1, 1, []⟩⟩
theorem vR13 (pre : Nat) : evCK Try.prog cfgC (runK Try.prog cfgC fsC noT 16 40) 16 (codeAt [1, 1, 0, 0] B) (vS13 pre) (normC 1 [1, 5, 19]) =
  some (.normal, (vS14 pre)) := by kernel_rfl
theorem vR14 (pre : Nat) : evCK Try.prog cfgC (runK Try.prog cfgC fsC noT 16 40) 16 (codeAt [1, 1, 0, 1, 1] B) (vS14 pre) (normC 1 [1, 5]) =
  some (.normal, (vS13 pre)) := by kernel_rfl
noncomputable def vS15 (pre : Nat) : KSt := ⟨(frameL 86 [(1, (.slice (some ⟨0, pre, none⟩) 0 0)), (5, (.int .i64 2)), (6, (.pointer (some ⟨1, 0, none⟩)))]), ⟨3, 1, [(2, 0, .map [] 0), (1, 0, .cells [(.int .i64 200), (.int .i64 0), (.int .i64 0), (.int .u64 0), (.map (some 2))] 48 true)]⟩⟩
theorem vR15 (pre : Nat) : evCK Try.prog cfgC (runK Try.prog cfgC fsC noT 16 40) 16 (codeAt [1, 1, 1, 0] B) (vS13 pre) (normC 1 [1, 5, 6]) =
  some (.normal, (vS15 pre)) := by kernel_rfl
noncomputable def vS16 (pre : Nat) : KSt := ⟨(frameL 86 [(1, (.slice (some ⟨0, pre, none⟩) 0 0)), (5, (.int .i64 2)), (6, (.pointer (some ⟨1, 0, none⟩))), (7, (.pointer (some ⟨2, 0, none⟩)))]), ⟨5, 1, [(4, 0, .ints .u64 ((List.replicate 43 0)) 26 true), (3, 0, .map [((.int .u64 1), (.slice (some ⟨4, 0, none⟩) 43 43), 0)] 1), (2, 0, .cells [(.int .u64 1), (.int .i64 2)] 30 true), (1, 0, .cells [(.int .i64 200), (.int .i64 43), (.int .i64 0), (.int .u64 1), (.map (some 3))] 48 true)]⟩⟩
theorem vR16 (pre : Nat) : evCK Try.prog cfgC (runK Try.prog cfgC fsC noT 16 40) 16 (codeAt [1, 1, 1, 1, 0] B) (vS15 pre) (normC 1 [1, 5, 6, 7]) =
  some (.normal, (vS16 pre)) := by kernel_rfl
noncomputable def vS17 (pre : Nat) : KSt := ⟨(frameL 86 [(1, (.slice (some ⟨0, pre, none⟩) 0 0)), (5, (.int .i64 2)), (6, (.pointer (some ⟨1, 0, none⟩))), (7, (.pointer (some ⟨2, 0, none⟩))), (8, (.int .i64 0))]), ⟨5, 1, [(4, 0, .ints .u64 ((List.replicate 43 0)) 26 true), (3, 0, .map [((.int .u64 1), (.slice (some ⟨4, 0, none⟩) 43 43), 0)] 1), (2, 0, .cells [(.int .u64 1), (.int .i64 2)] 30 true), (1, 0, .cells [(.int .i64 200), (.int .i64 43), (.int .i64 0), (.int .u64 1), (.map (some 3))] 48 true)]⟩⟩
theorem vR17 (pre : Nat) : evCK Try.prog cfgC (runK Try.prog cfgC fsC noT 16 40) 16 (codeAt [1, 1, 1, 1, 1, 0, 0] B) (vS16 pre) (normC 1 [1, 5, 6, 7, 8]) =
  some (.normal, (vS17 pre)) := by kernel_rfl
theorem vpre2 (lg i c0 c1 c2 c3 y : Int) (pre : Nat) (L : List Int) (hk : (Int.tmod (IntKind.wrap .i64 lg) 4) = 2)   {Q : Ex → St → Prop} (hq : Gets Try.prog (KH.low ⟨1, 1, []⟩) (codeAt [1, 1, 1, 1, 1, 0, 1] B) (KSt.low (vS17 pre)) (onN (fun s => Gets Try.prog (KH.low ⟨1, 1, []⟩) (codeAt [1, 1, 1, 1, 1, 1] B) s (Q)) (Q))) : Gets Try.prog (KH.low ⟨1, 1, []⟩) B (KSt.low (vS0 lg pre)) Q := by
  rw [C]; refine Gets.seq ?_
  refine Gets.ofN fitC SoundC.no AgreeT.no 16 40 (by kernel_rfl) (x := .normal) (s' := (vS1 lg pre)) (vR1 lg pre) ?_
  show Gets _ _ (codeAt [1] B) _ _
  rw [C1]; refine Gets.seq ?_
  refine Gets.ofN fitC SoundC.no AgreeT.no 16 40 (by kernel_rfl) (x := .normal) (s' := (vS13 pre)) ((vR2 lg pre).trans (by (show some (Ex.normal, (vS2 pre lg)) = some (Ex.normal, (vS13 pre)); unfold vS2 vS13; rw [(show (Int.tmod (IntKind.wrap .i64 lg) 4) = 2 from hk)]))) ?_
  show Gets _ _ (codeAt [1, 1] B) _ _
  rw [C1_1]; refine Gets.seq ?_
  rw [C1_1_0]; refine Gets.seq ?_
  refine Gets.ofN fitC SoundC.no AgreeT.no 16 40 (by kernel_rfl) (x := .normal) (s' := (vS14 pre)) (vR13 pre) ?_
  show Gets _ _ (codeAt [1, 1, 0, 1] B) _ _
  rw [C1_1_0_1]; refine Gets.cond false (by kernel_rfl) (show evalX (KSt.ts (vS14 pre)) (.tmp 19) = .bool false by kernel_rfl) ?_; show Gets _ _ (codeAt [1, 1, 0, 1, 1] B) _ _
  refine Gets.ofN fitC SoundC.no AgreeT.no 16 40 (by kernel_rfl) (x := .normal) (s' := (vS13 pre)) (vR14 pre) ?_
  show Gets _ _ (codeAt [1, 1, 1] B) _ _
  rw [C1_1_1]; refine Gets.seq ?_
  refine Gets.ofN fitC SoundC.no AgreeT.no 16 40 (by kernel_rfl) (x := .normal) (s' := (vS15 pre)) (vR15 pre) ?_
  show Gets _ _ (codeAt [1, 1, 1, 1] B) _ _
  rw [C1_1_1_1]; refine Gets.seq ?_
  refine Gets.ofN fitC SoundC.no AgreeT.no 16 40 (by kernel_rfl) (x := .normal) (s' := (vS16 pre)) (vR16 pre) ?_
  show Gets _ _ (codeAt [1, 1, 1, 1, 1] B) _ _
  rw [C1_1_1_1_1]; refine Gets.seq ?_
  rw [C1_1_1_1_1_0]; refine Gets.seq ?_
  refine Gets.ofN fitC SoundC.no AgreeT.no 16 40 (by kernel_rfl) (x := .normal) (s' := (vS17 pre)) (vR17 pre) ?_
  show Gets _ _ (codeAt [1, 1, 1, 1, 1, 0, 1] B) _ _
  exact hq
noncomputable def vS18 (pre : Nat) : KSt := ⟨(frameL 86 [(1, (.slice (some ⟨0, pre, none⟩) 0 0)), (5, (.int .i64 3))]), ⟨1, 1, []⟩⟩
noncomputable def vS19 (pre : Nat) : KSt := ⟨(frameL 86 [(1, (.slice (some ⟨0, pre, none⟩) 0 0)), (5, (.int .i64 3)), (19, (.bool false))]), ⟨1, 1, []⟩⟩
theorem vR18 (pre : Nat) : evCK Try.prog cfgC (runK Try.prog cfgC fsC noT 16 40) 16 (codeAt [1, 1, 0, 0] B) (vS18 pre) (normC 1 [1, 5, 19]) =
  some (.normal, (vS19 pre)) := by kernel_rfl
theorem vR19 (pre : Nat) : evCK Try.prog cfgC (runK Try.prog cfgC fsC noT 16 40) 16 (codeAt [1, 1, 0, 1, 1] B) (vS19 pre) (normC 1 [1, 5]) =
  some (.normal, (vS18 pre)) := by kernel_rfl
noncomputable def vS20 (pre : Nat) : KSt := ⟨(frameL 86 [(1, (.slice (some ⟨0, pre, none⟩) 0 0)), (5, (.int .i64 3)), (6, (.pointer (some ⟨1, 0, none⟩)))]), ⟨3, 1, [(2, 0, .map [] 0), (1, 0, .cells [(.int .i64 200), (.int .i64 0), (.int .i64 0), (.int .u64 0), (.map (some 2))] 48 true)]⟩⟩
theorem vR20 (pre : Nat) : evCK Try.prog cfgC (runK Try.prog cfgC fsC noT 16 40) 16 (codeAt [1, 1, 1, 0] B) (vS18 pre) (normC 1 [1, 5, 6]) =
  some (.normal, (vS20 pre)) := by kernel_rfl
noncomputable def vS21 (pre : Nat) : KSt := ⟨(frameL 86 [(1, (.slice (some ⟨0, pre, none⟩) 0 0)), (5, (.int .i64 3)), (6, (.pointer (some ⟨1, 0, none⟩))), (7, (.pointer (some ⟨2, 0, none⟩)))]), ⟨5, 1, [(4, 0, .ints .u64 ((List.replicate 79 0)) 26 true), (3, 0, .map [((.int .u64 1), (.slice (some ⟨4, 0, none⟩) 79 79), 0)] 1), (2, 0, .cells [(.int .u64 1), (.int .i64 3)] 30 true), (1, 0, .cells [(.int .i64 200), (.int .i64 79), (.int .i64 0), (.int .u64 1), (.map (some 3))] 48 true)]⟩⟩
theorem vR21 (pre : Nat) : evCK Try.prog cfgC (runK Try.prog cfgC fsC noT 16 40) 16 (codeAt [1, 1, 1, 1, 0] B) (vS20 pre) (normC 1 [1, 5, 6, 7]) =
  some (.normal, (vS21 pre)) := by kernel_rfl
noncomputable def vS22 (pre : Nat) : KSt := ⟨(frameL 86 [(1, (.slice (some ⟨0, pre, none⟩) 0 0)), (5, (.int .i64 3)), (6, (.pointer (some ⟨1, 0, none⟩))), (7, (.pointer (some ⟨2, 0, none⟩))), (8, (.int .i64 0))]), ⟨5, 1, [(4, 0, .ints .u64 ((List.replicate 79 0)) 26 true), (3, 0, .map [((.int .u64 1), (.slice (some ⟨4, 0, none⟩) 79 79), 0)] 1), (2, 0, .cells [(.int .u64 1), (.int .i64 3)] 30 true), (1, 0, .cells [(.int .i64 200), (.int .i64 79), (.int .i64 0), (.int .u64 1), (.map (some 3))] 48 true)]⟩⟩
theorem vR22 (pre : Nat) : evCK Try.prog cfgC (runK Try.prog cfgC fsC noT 16 40) 16 (codeAt [1, 1, 1, 1, 1, 0, 0] B) (vS21 pre) (normC 1 [1, 5, 6, 7, 8]) =
  some (.normal, (vS22 pre)) := by kernel_rfl
theorem vpre3 (lg i c0 c1 c2 c3 y : Int) (pre : Nat) (L : List Int) (hk : (Int.tmod (IntKind.wrap .i64 lg) 4) = 3)   {Q : Ex → St → Prop} (hq : Gets Try.prog (KH.low ⟨1, 1, []⟩) (codeAt [1, 1, 1, 1, 1, 0, 1] B) (KSt.low (vS22 pre)) (onN (fun s => Gets Try.prog (KH.low ⟨1, 1, []⟩) (codeAt [1, 1, 1, 1, 1, 1] B) s (Q)) (Q))) : Gets Try.prog (KH.low ⟨1, 1, []⟩) B (KSt.low (vS0 lg pre)) Q := by
  rw [C]; refine Gets.seq ?_
  refine Gets.ofN fitC SoundC.no AgreeT.no 16 40 (by kernel_rfl) (x := .normal) (s' := (vS1 lg pre)) (vR1 lg pre) ?_
  show Gets _ _ (codeAt [1] B) _ _
  rw [C1]; refine Gets.seq ?_
  refine Gets.ofN fitC SoundC.no AgreeT.no 16 40 (by kernel_rfl) (x := .normal) (s' := (vS18 pre)) ((vR2 lg pre).trans (by (show some (Ex.normal, (vS2 pre lg)) = some (Ex.normal, (vS18 pre)); unfold vS2 vS18; rw [(show (Int.tmod (IntKind.wrap .i64 lg) 4) = 3 from hk)]))) ?_
  show Gets _ _ (codeAt [1, 1] B) _ _
  rw [C1_1]; refine Gets.seq ?_
  rw [C1_1_0]; refine Gets.seq ?_
  refine Gets.ofN fitC SoundC.no AgreeT.no 16 40 (by kernel_rfl) (x := .normal) (s' := (vS19 pre)) (vR18 pre) ?_
  show Gets _ _ (codeAt [1, 1, 0, 1] B) _ _
  rw [C1_1_0_1]; refine Gets.cond false (by kernel_rfl) (show evalX (KSt.ts (vS19 pre)) (.tmp 19) = .bool false by kernel_rfl) ?_; show Gets _ _ (codeAt [1, 1, 0, 1, 1] B) _ _
  refine Gets.ofN fitC SoundC.no AgreeT.no 16 40 (by kernel_rfl) (x := .normal) (s' := (vS18 pre)) (vR19 pre) ?_
  show Gets _ _ (codeAt [1, 1, 1] B) _ _
  rw [C1_1_1]; refine Gets.seq ?_
  refine Gets.ofN fitC SoundC.no AgreeT.no 16 40 (by kernel_rfl) (x := .normal) (s' := (vS20 pre)) (vR20 pre) ?_
  show Gets _ _ (codeAt [1, 1, 1, 1] B) _ _
  rw [C1_1_1_1]; refine Gets.seq ?_
  refine Gets.ofN fitC SoundC.no AgreeT.no 16 40 (by kernel_rfl) (x := .normal) (s' := (vS21 pre)) (vR21 pre) ?_
  show Gets _ _ (codeAt [1, 1, 1, 1, 1] B) _ _
  rw [C1_1_1_1_1]; refine Gets.seq ?_
  rw [C1_1_1_1_1_0]; refine Gets.seq ?_
  refine Gets.ofN fitC SoundC.no AgreeT.no 16 40 (by kernel_rfl) (x := .normal) (s' := (vS22 pre)) (vR22 pre) ?_
  show Gets _ _ (codeAt [1, 1, 1, 1, 1, 0, 1] B) _ _
  exact hq
noncomputable def vS23 (pre : Nat) (i : Int) (L : List Int) : KSt := ⟨(frameL 86 [(1, (.slice (some ⟨0, pre, none⟩) 0 0)), (5, (.int .i64 0)), (6, (.pointer (some ⟨1, 0, none⟩))), (7, (.pointer (some ⟨2, 0, none⟩))), (8, (.int .i64 i))]), ⟨5, 1, [(4, 0, .ints .u64 L 26 true), (3, 0, .map [((.int .u64 1), (.slice (some ⟨4, 0, none⟩) 16 16), 0)] 1), (2, 0, .cells [(.int .u64 1), (.int .i64 0)] 30 true), (1, 0, .cells [(.int .i64 200), (.int .i64 16), (.int .i64 0), (.int .u64 1), (.map (some 3))] 48 true)]⟩⟩
noncomputable def vS24 (pre : Nat) (i : Int) (L : List Int) : KSt := ⟨(frameL 86 [(1, (.slice (some ⟨0, pre, none⟩) 0 0)), (5, (.int .i64 0)), (6, (.pointer (some ⟨1, 0, none⟩))), (7, (.pointer (some ⟨2, 0, none⟩))), (8, (.int .i64 i)), (31, (.bool (decide (i ≤ 0))))]), ⟨5, 1, [(4, 0, .ints .u64 L 26 true), (3, 0, .map [((.int .u64 1), (.slice (some ⟨4, 0, none⟩) 16 16), 0)] 1), (2, 0, .cells [(.int .u64 1), (.int .i64 0)] 30 true), (1, 0, .cells [(.int .i64 200), (.int .i64 16), (.int .i64 0), (.int .u64 1), (.map (some 3))] 48 true)]⟩⟩
theorem vR23 (pre : Nat) (i : Int) (L : List Int) : evCK Try.prog cfgC (runK Try.prog cfgC fsC noT 16 40) 16 (codeAt [1, 1, 1, 1, 1, 0, 1, 0, 0, 0, 0] B) (vS23 pre i L) (normC 1 [1, 5, 6, 7, 8, 31]) =
  some (.normal, (vS24 pre i L)) := by kernel_rfl
theorem vR24 (pre : Nat) (i : Int) (L : List Int) : evCK Try.prog cfgC (runK Try.prog cfgC fsC noT 16 40) 16 (codeAt [1, 1, 1, 1, 1, 0, 1, 0, 0, 0, 1, 0] B) (vS24 pre i L) (normC 1 [1, 5, 6, 7, 8]) =
  some (.normal, (vS23 pre i L)) := by kernel_rfl
noncomputable def vS25 (pre : Nat) (i : Int) (L : List Int) : KSt := ⟨(frameL 86 [(1, (.slice (some ⟨0, pre, none⟩) 0 0)), (5, (.int .i64 0)), (6, (.pointer (some ⟨1, 0, none⟩))), (7, (.pointer (some ⟨2, 0, none⟩))), (8, (.int .i64 i)), (9, (.pointer (some ⟨3, 0, none⟩)))]), ⟨6, 1, [(5, 0, .ints .u64 L 26 true), (4, 0, .map [((.int .u64 1), (.slice (some ⟨5, 0, none⟩) 16 16), 0)] 1), (3, 0, .cells [(.int .u64 1), (.int .i64 0), (.bool true), (.int .i64 0), (.int .u64 0), (.int .u64 0), (.int .u64 0), (.int .u64 0)] 53 true), (2, 0, .cells [(.int .u64 1), (.int .i64 0)] 30 true), (1, 0, .cells [(.int .i64 200), (.int .i64 16), (.int .i64 0), (.int .u64 1), (.map (some 4))] 48 true)]⟩⟩
theorem vR25 (pre : Nat) (i : Int) (L : List Int) : evCK Try.prog cfgC (runK Try.prog cfgC fsC noT 16 40) 16 (codeAt [1, 1, 1, 1, 1, 0, 1, 0, 0, 1, 0, 0, 0] B) (vS23 pre i L) (normC 1 [1, 5, 6, 7, 8, 9]) =
  some (.normal, (vS25 pre i L)) := by kernel_rfl
noncomputable def vS26 (pre : Nat) (i : Int) (L : List Int) (n1 : Int) (n2 : Int) (n3 : Int) (n4 : Int) : KSt := ⟨(frameL 86 [(1, (.slice (some ⟨0, pre, none⟩) 0 0)), (5, (.int .i64 0)), (6, (.pointer (some ⟨1, 0, none⟩))), (7, (.pointer (some ⟨2, 0, none⟩))), (8, (.int .i64 i)), (9, (.pointer (some ⟨3, 0, none⟩))), (10, (.int .i64 4)), (11, (.bool true))]), ⟨6, 1, [(5, 0, .ints .u64 L 26 true), (4, 0, .map [((.int .u64 1), (.slice (some ⟨5, 0, none⟩) 16 16), 0)] 1), (3, 0, .cells [(.int .u64 1), (.int .i64 0), (.bool true), (.int .i64 4), (.int .u64 n1), (.int .u64 n2), (.int .u64 n3), (.int .u64 n4)] 53 true), (2, 0, .cells [(.int .u64 1), (.int .i64 0)] 30 true), (1, 0, .cells [(.int .i64 200), (.int .i64 16), (.int .i64 0), (.int .u64 1), (.map (some 4))] 48 true)]⟩⟩
theorem vR26 (pre : Nat) (i : Int) (L : List Int) : evCK Try.prog cfgC (runK Try.prog cfgC fsC noT 16 40) 16 (codeAt [1, 1, 1, 1, 1, 0, 1, 0, 0, 1, 0, 0, 1, 0] B) (vS25 pre i L) (normC 1 [1, 5, 6, 7, 8, 9, 10, 11]) =
  obind (L[3]?) fun n1 =>
    obind (L[4]?) fun n2 =>
      obind (L[5]?) fun n3 =>
        obind (L[6]?) fun n4 =>
          some (.normal, (vS26 pre i L n1 n2 n3 n4)) := by kernel_rfl
noncomputable def vS27 (pre : Nat) (i : Int) (L : List Int) (c0 : Int) (c1 : Int) (c2 : Int) (c3 : Int) : KSt := ⟨(frameL 86 [(1, (.slice (some ⟨0, pre, none⟩) 0 0)), (5, (.int .i64 0)), (6, (.pointer (some ⟨1, 0, none⟩))), (7, (.pointer (some ⟨2, 0, none⟩))), (8, (.int .i64 i)), (9, (.pointer (some ⟨3, 0, none⟩))), (10, (.int .i64 4)), (11, (.bool true))]), ⟨6, 1, [(5, 0, .ints .u64 L 26 true), (4, 0, .map [((.int .u64 1), (.slice (some ⟨5, 0, none⟩) 16 16), 0)] 1), (3, 0, .cells [(.int .u64 1), (.int .i64 0), (.bool true), (.int .i64 4), (.int .u64 c0), (.int .u64 c1), (.int .u64 c2), (.int .u64 c3)] 53 true), (2, 0, .cells [(.int .u64 1), (.int .i64 0)] 30 true), (1, 0, .cells [(.int .i64 200), (.int .i64 16), (.int .i64 0), (.int .u64 1), (.map (some 4))] 48 true)]⟩⟩
noncomputable def vS28 (pre : Nat) (i : Int) (L : List Int) : KSt := ⟨(frameL 86 [(1, (.slice (some ⟨0, pre, none⟩) 0 0)), (5, (.int .i64 0)), (6, (.pointer (some ⟨1, 0, none⟩))), (7, (.pointer (some ⟨2, 0, none⟩))), (8, (.int .i64 i)), (9, (.pointer (some ⟨3, 0, none⟩))), (10, (.int .i64 4)), (11, (.bool true))]), ⟨6, 1, [(5, 0, .ints .u64 L 26 true), (4, 0, .map [((.int .u64 1), (.slice (some ⟨5, 0, none⟩) 16 16), 0)] 1), (3, 0, .cells [(.int .u64 1), (.int .i64 0), (.bool true), (.int .i64 4), (.int .u64 (L.getD 3 0)), (.int .u64 (L.getD 4 0)), (.int .u64 (L.getD 5 0)), (.int .u64 (L.getD 6 0))] 53 true), (2, 0, .cells [(.int .u64 1), (.int .i64 0)] 30 true), (1, 0, .cells [(.int .i64 200), (.int .i64 16), (.int .i64 0), (.int .u64 1), (.map (some 4))] 48 true)]⟩⟩
noncomputable def vS29 (pre : Nat) (i : Int) (c0 : Int) (c1 : Int) (c2 : Int) (c3 : Int) (L : List Int) : KSt := ⟨(frameL 86 [(1, (.slice (some ⟨0, pre, none⟩) 0 0)), (5, (.int .i64 0)), (6, (.pointer (some ⟨1, 0, none⟩))), (7, (.pointer (some ⟨2, 0, none⟩))), (8, (.int .i64 i)), (10, (.int .i64 4)), (11, (.bool true)), (12, (.bool (decide ((IntKind.wrap .u64 ((IntKind.wrap .u64 ((IntKind.wrap .u64 ((IntKind.wrap .u64 (0 + c0)) + c1)) + c2)) + c3)) ≥ 7)))), (13, (.bool true))]), ⟨5, 1, [(4, 0, .ints .u64 L 26 true), (3, 0, .map [((.int .u64 1), (.slice (some ⟨4, 0, none⟩) 16 16), 0)] 1), (2, 0, .cells [(.int .u64 1), (.int .i64 0)] 30 true), (1, 0, .cells [(.int .i64 200), (.int .i64 16), (.int .i64 0), (.int .u64 1), (.map (some 3))] 48 true)]⟩⟩
theorem vR27 (pre : Nat) (i : Int) (L : List Int) (c0 : Int) (c1 : Int) (c2 : Int) (c3 : Int) : evCK Try.prog cfgC (runK Try.prog cfgC fsC noT 16 40) 16 (codeAt [1, 1, 1, 1, 1, 0, 1, 0, 0, 1, 0, 0, 1, 1, 0] B) (vS27 pre i L c0 c1 c2 c3) (normC 1 [1, 5, 6, 7, 8, 10, 11, 12, 13]) =
  some (.normal, (vS29 pre i c0 c1 c2 c3 L)) := by kernel_rfl
noncomputable def vS30 (pre : Nat) (i : Int) (c0 : Int) (c1 : Int) (c2 : Int) (c3 : Int) (L : List Int) : KSt := ⟨(frameL 86 [(1, (.slice (some ⟨0, pre, none⟩) 0 0)), (5, (.int .i64 0)), (6, (.pointer (some ⟨1, 0, none⟩))), (7, (.pointer (some ⟨2, 0, none⟩))), (8, (.int .i64 i)), (65, (.bool (!((decide ((IntKind.wrap .u64 ((IntKind.wrap .u64 ((IntKind.wrap .u64 ((IntKind.wrap .u64 (0 + c0)) + c1)) + c2)) + c3)) ≥ 7)) == (decide (i ≥ 7))))))]), ⟨5, 1, [(4, 0, .ints .u64 L 26 true), (3, 0, .map [((.int .u64 1), (.slice (some ⟨4, 0, none⟩) 16 16), 0)] 1), (2, 0, .cells [(.int .u64 1), (.int .i64 0)] 30 true), (1, 0, .cells [(.int .i64 200), (.int .i64 16), (.int .i64 0), (.int .u64 1), (.map (some 3))] 48 true)]⟩⟩
theorem vR28 (pre : Nat) (i : Int) (c0 : Int) (c1 : Int) (c2 : Int) (c3 : Int) (L : List Int) : evCK Try.prog cfgC (runK Try.prog cfgC fsC noT 16 40) 16 (codeAt [1, 1, 1, 1, 1, 0, 1, 0, 0, 1, 0, 0, 1, 1, 1, 0, 0] B) (vS29 pre i c0 c1 c2 c3 L) (normC 1 [1, 5, 6, 7, 8, 65]) =
  some (.normal, (vS30 pre i c0 c1 c2 c3 L)) := by kernel_rfl
theorem vR29 (pre : Nat) (i : Int) (c0 : Int) (c1 : Int) (c2 : Int) (c3 : Int) (L : List Int) : evCK Try.prog cfgC (runK Try.prog cfgC fsC noT 16 40) 16 (codeAt [1, 1, 1, 1, 1, 0, 1, 0, 0, 1, 0, 0, 1, 1, 1, 0, 1, 1] B) (vS30 pre i c0 c1 c2 c3 L) (normC 1 [1, 5, 6, 7, 8]) =
  some (.normal, (vS23 pre i L)) := by kernel_rfl
noncomputable def vS31 (pre : Nat) (i : Int) (L : List Int) : KSt := ⟨(frameL 86 [(1, (.slice (some ⟨0, pre, none⟩) 0 0)), (5, (.int .i64 0)), (6, (.pointer (some ⟨1, 0, none⟩))), (7, (.pointer (some ⟨2, 0, none⟩))), (8, (.int .i64 i)), (69, (.bool (decide (i < 0))))]), ⟨5, 1, [(4, 0, .ints .u64 L 26 true), (3, 0, .map [((.int .u64 1), (.slice (some ⟨4, 0, none⟩) 16 16), 0)] 1), (2, 0, .cells [(.int .u64 1), (.int .i64 0)] 30 true), (1, 0, .cells [(.int .i64 200), (.int .i64 16), (.int .i64 0), (.int .u64 1), (.map (some 3))] 48 true)]⟩⟩
theorem vR30 (pre : Nat) (i : Int) (L : List Int) : evCK Try.prog cfgC (runK Try.prog cfgC fsC noT 16 40) 16 (codeAt [1, 1, 1, 1, 1, 0, 1, 0, 0, 1, 0, 0, 1, 1, 1, 1, 0] B) (vS23 pre i L) (normC 1 [1, 5, 6, 7, 8, 69]) =
  some (.normal, (vS31 pre i L)) := by kernel_rfl
theorem vR31 (pre : Nat) (i : Int) (L : List Int) : evCK Try.prog cfgC (runK Try.prog cfgC fsC noT 16 40) 16 (codeAt [1, 1, 1, 1, 1, 0, 1, 0, 0, 1, 0, 0, 1, 1, 1, 1, 1, 1] B) (vS31 pre i L) (normC 1 [1, 5, 6, 7, 8]) =
  some (.normal, (vS23 pre i L)) := by kernel_rfl
noncomputable def vS32 (pre : Nat) (i : Int) (L : List Int) : KSt := ⟨(frameL 86 [(1, (.slice (some ⟨0, pre, none⟩) 0 0)), (5, (.int .i64 0)), (6, (.pointer (some ⟨1, 0, none⟩))), (7, (.pointer (some ⟨2, 0, none⟩))), (8, (.int .i64 (IntKind.wrap .i64 (i + 1))))]), ⟨5, 1, [(4, 0, .ints .u64 L 26 true), (3, 0, .map [((.int .u64 1), (.slice (some ⟨4, 0, none⟩) 16 16), 0)] 1), (2, 0, .cells [(.int .u64 1), (.int .i64 0)] 30 true), (1, 0, .cells [(.int .i64 200), (.int .i64 16), (.int .i64 0), (.int .u64 1), (.map (some 3))] 48 true)]⟩⟩
theorem vR32 (pre : Nat) (i : Int) (L : List Int) : evCK Try.prog cfgC (runK Try.prog cfgC fsC noT 16 40) 16 (codeAt [1, 1, 1, 1, 1, 0, 1, 0, 0, 1, 1] B) (vS23 pre i L) (normC 1 [1, 5, 6, 7, 8]) =
  some (.normal, (vS32 pre i L)) := by kernel_rfl
noncomputable def vS33 (pre : Nat) (i : Int) (L : List Int) : KSt := ⟨(frameL 86 [(1, (.slice (some ⟨0, pre, none⟩) 0 0)), (5, (.int .i64 0)), (6, (.pointer (some ⟨1, 0, none⟩))), (7, (.pointer (some ⟨2, 0, none⟩))), (8, (.int .i64 (i + 1)))]), ⟨5, 1, [(4, 0, .ints .u64 L 26 true), (3, 0, .map [((.int .u64 1), (.slice (some ⟨4, 0, none⟩) 16 16), 0)] 1), (2, 0, .cells [(.int .u64 1), (.int .i64 0)] 30 true), (1, 0, .cells [(.int .i64 200), (.int .i64 16), (.int .i64 0), (.int .u64 1), (.map (some 3))] 48 true)]⟩⟩
theorem vre0 (lg i c0 c1 c2 c3 y : Int) (pre : Nat) (L : List Int) (hL : L.length = 16) (hc0 : L.getD 3 0 = c0) (hc1 : L.getD 4 0 = c1) (hc2 : L.getD 5 0 = c2) (hc3 : L.getD 6 0 = c3) (p0 : 0 ≤ c0) (p1 : 0 ≤ c1) (p2 : 0 ≤ c2) (p3 : 0 ≤ c3) (hs : c0 + c1 + c2 + c3 = i) (hi : 0 ≤ i) (hin : i = 0)   {Q : Ex → St → Prop} (hq : Q .normal (KSt.low (vS33 pre i L))) : Gets Try.prog (KH.low ⟨1, 1, []⟩) (codeAt [1, 1, 1, 1, 1, 0, 1, 0, 0] B) (KSt.low (vS23 pre i L)) Q := by
  rw [C1_1_1_1_1_0_1_0_0]; refine Gets.seq ?_
  rw [C1_1_1_1_1_0_1_0_0_0]; refine Gets.seq ?_
  refine Gets.ofN fitC SoundC.no AgreeT.no 16 40 (by kernel_rfl) (x := .normal) (s' := (vS24 pre i L)) (vR23 pre i L) ?_
  show Gets _ _ (codeAt [1, 1, 1, 1, 1, 0, 1, 0, 0, 0, 1] B) _ _
  rw [C1_1_1_1_1_0_1_0_0_0_1]; refine Gets.cond true (by kernel_rfl) ((show evalX (KSt.ts (vS24 pre i L)) (.tmp 31) = .bool (decide (i ≤ 0)) by kernel_rfl).trans (by rw [(show (decide (i ≤ 0)) = true from decide_eq_true (by ((try simp (disch := omega) only [hc0, hc1, hc2, hc3, wrap_i64_id, wrap_u64_id, List.length_set, List.length_replicate]) <;> omega)))])) ?_; show Gets _ _ (codeAt [1, 1, 1, 1, 1, 0, 1, 0, 0, 0, 1, 0] B) _ _
  refine Gets.ofN fitC SoundC.no AgreeT.no 16 40 (by kernel_rfl) (x := .normal) (s' := (vS23 pre i L)) (vR24 pre i L) ?_
  show Gets _ _ (codeAt [1, 1, 1, 1, 1, 0, 1, 0, 0, 1] B) _ _
  rw [C1_1_1_1_1_0_1_0_0_1]; refine Gets.seq ?_
  rw [C1_1_1_1_1_0_1_0_0_1_0]; refine Gets.block ?_
  rw [C1_1_1_1_1_0_1_0_0_1_0_0]; refine Gets.seq ?_
  refine Gets.ofN fitC SoundC.no AgreeT.no 16 40 (by kernel_rfl) (x := .normal) (s' := (vS25 pre i L)) (vR25 pre i L) ?_
  show Gets _ _ (codeAt [1, 1, 1, 1, 1, 0, 1, 0, 0, 1, 0, 0, 1] B) _ _
  rw [C1_1_1_1_1_0_1_0_0_1_0_0_1]; refine Gets.seq ?_
  refine Gets.ofN fitC SoundC.no AgreeT.no 16 40 (by kernel_rfl) (x := .normal) (s' := (vS27 pre i L c0 c1 c2 c3)) ((vR26 pre i L).trans (by rw [obind_at (k := 3) (by ((try simp (disch := omega) only [hc0, hc1, hc2, hc3, wrap_i64_id, wrap_u64_id, List.length_set, List.length_replicate]) <;> omega)) (by ((try simp (disch := omega) only [hc0, hc1, hc2, hc3, wrap_i64_id, wrap_u64_id, List.length_set, List.length_replicate]) <;> omega)), obind_at (k := 4) (by ((try simp (disch := omega) only [hc0, hc1, hc2, hc3, wrap_i64_id, wrap_u64_id, List.length_set, List.length_replicate]) <;> omega)) (by ((try simp (disch := omega) only [hc0, hc1, hc2, hc3, wrap_i64_id, wrap_u64_id, List.length_set, List.length_replicate]) <;> omega)), obind_at (k := 5) (by ((try simp (disch := omega) only [hc0, hc1, hc2, hc3, wrap_i64_id, wrap_u64_id, List.length_set, List.length_replicate]) <;> omega)) (by ((try simp (disch := omega) only [hc0, hc1, hc2, hc3, wrap_i64_id, wrap_u64_id, List.length_set, List.length_replicate]) <;> omega)), obind_at (k := 6) (by ((try simp (disch := omega) only [hc0, hc1, hc2, hc3, wrap_i64_id, wrap_u64_id, List.length_set, List.length_replicate]) <;> omega)) (by ((try simp (disch := omega) only [hc0, hc1, hc2, hc3, wrap_i64_id, wrap_u64_id, List.length_set, List.length_replicate]) <;> omega))] <;> (show some (Ex.normal, (vS28 pre i L)) = some (Ex.normal, (vS27 pre i L c0 c1 c2 c3)); unfold vS28 vS27; rw [(show (L.getD 3 0) = c0 from hc0), (show (L.getD 4 0) = c1 from hc1), (show (L.getD 5 0) = c2 from hc2), (show (L.getD 6 0) = c3 from hc3)]))) ?_
  show Gets _ _ (codeAt [1, 1, 1, 1, 1, 0, 1, 0, 0, 1, 0, 0, 1, 1] B) _ _
  rw [C1_1_1_1_1_0_1_0_0_1_0_0_1_1]; refine Gets.seq ?_
  refine Gets.ofN fitC SoundC.no AgreeT.no 16 40 (by kernel_rfl) (x := .normal) (s' := (vS29 pre i c0 c1 c2 c3 L)) (vR27 pre i L c0 c1 c2 c3) ?_
  show Gets _ _ (codeAt [1, 1, 1, 1, 1, 0, 1, 0, 0, 1, 0, 0, 1, 1, 1] B) _ _
  rw [C1_1_1_1_1_0_1_0_0_1_0_0_1_1_1]; refine Gets.seq ?_
  rw [C1_1_1_1_1_0_1_0_0_1_0_0_1_1_1_0]; refine Gets.seq ?_
  refine Gets.ofN fitC SoundC.no AgreeT.no 16 40 (by kernel_rfl) (x := .normal) (s' := (vS30 pre i c0 c1 c2 c3 L)) (vR28 pre i c0 c1 c2 c3 L) ?_
  show Gets _ _ (codeAt [1, 1, 1, 1, 1, 0, 1, 0, 0, 1, 0, 0, 1, 1, 1, 0, 1] B) _ _
  rw [C1_1_1_1_1_0_1_0_0_1_0_0_1_1_1_0_1]; refine Gets.cond false (by kernel_rfl) ((show evalX (KSt.ts (vS30 pre i c0 c1 c2 c3 L)) (.tmp 65) = .bool (!((decide ((IntKind.wrap .u64 ((IntKind.wrap .u64 ((IntKind.wrap .u64 ((IntKind.wrap .u64 (0 + c0)) + c1)) + c2)) + c3)) ≥ 7)) == (decide (i ≥ 7)))) by kernel_rfl).trans (by rw [(show (!((decide ((IntKind.wrap .u64 ((IntKind.wrap .u64 ((IntKind.wrap .u64 ((IntKind.wrap .u64 (0 + c0)) + c1)) + c2)) + c3)) ≥ 7)) == (decide (i ≥ 7)))) = false from not_f (sum_dec hs p0 p1 p2 p3 (by omega)))])) ?_; show Gets _ _ (codeAt [1, 1, 1, 1, 1, 0, 1, 0, 0, 1, 0, 0, 1, 1, 1, 0, 1, 1] B) _ _
  refine Gets.ofN fitC SoundC.no AgreeT.no 16 40 (by kernel_rfl) (x := .normal) (s' := (vS23 pre i L)) (vR29 pre i c0 c1 c2 c3 L) ?_
  show Gets _ _ (codeAt [1, 1, 1, 1, 1, 0, 1, 0, 0, 1, 0, 0, 1, 1, 1, 1] B) _ _
  rw [C1_1_1_1_1_0_1_0_0_1_0_0_1_1_1_1]; refine Gets.seq ?_
  refine Gets.ofN fitC SoundC.no AgreeT.no 16 40 (by kernel_rfl) (x := .normal) (s' := (vS31 pre i L)) (vR30 pre i L) ?_
  show Gets _ _ (codeAt [1, 1, 1, 1, 1, 0, 1, 0, 0, 1, 0, 0, 1, 1, 1, 1, 1] B) _ _
  rw [C1_1_1_1_1_0_1_0_0_1_0_0_1_1_1_1_1]; refine Gets.cond false (by kernel_rfl) ((show evalX (KSt.ts (vS31 pre i L)) (.tmp 69) = .bool (decide (i < 0)) by kernel_rfl).trans (by rw [(show (decide (i < 0)) = false from decide_eq_false (by ((try simp (disch := omega) only [hc0, hc1, hc2, hc3, wrap_i64_id, wrap_u64_id, List.length_set, List.length_replicate]) <;> omega)))])) ?_; show Gets _ _ (codeAt [1, 1, 1, 1, 1, 0, 1, 0, 0, 1, 0, 0, 1, 1, 1, 1, 1, 1] B) _ _
  refine Gets.ofN fitC SoundC.no AgreeT.no 16 40 (by kernel_rfl) (x := .normal) (s' := (vS23 pre i L)) (vR31 pre i L) ?_
  show Gets _ _ (codeAt [1, 1, 1, 1, 1, 0, 1, 0, 0, 1, 1] B) _ _
  refine Gets.ofN fitC SoundC.no AgreeT.no 16 40 (by kernel_rfl) (x := .normal) (s' := (vS33 pre i L)) ((vR32 pre i L).trans (by (show some (Ex.normal, (vS32 pre i L)) = some (Ex.normal, (vS33 pre i L)); unfold vS32 vS33; rw [(show (IntKind.wrap .i64 (i + 1)) = (i + 1) from wrap_i64_id (by omega) (by omega))]))) ?_
  exact hq
theorem vrx0 (lg i c0 c1 c2 c3 y : Int) (pre : Nat) (L : List Int) (hx : 0 < i)   {Q : Ex → St → Prop} (hq : Q (.exit 0) (KSt.low (vS24 pre i L))) : Gets Try.prog (KH.low ⟨1, 1, []⟩) (codeAt [1, 1, 1, 1, 1, 0, 1, 0, 0] B) (KSt.low (vS23 pre i L)) Q := by
  rw [C1_1_1_1_1_0_1_0_0]; refine Gets.seq ?_
  rw [C1_1_1_1_1_0_1_0_0_0]; refine Gets.seq ?_
  refine Gets.ofN fitC SoundC.no AgreeT.no 16 40 (by kernel_rfl) (x := .normal) (s' := (vS24 pre i L)) (vR23 pre i L) ?_
  show Gets _ _ (codeAt [1, 1, 1, 1, 1, 0, 1, 0, 0, 0, 1] B) _ _
  rw [C1_1_1_1_1_0_1_0_0_0_1]; refine Gets.cond false (by kernel_rfl) ((show evalX (KSt.ts (vS24 pre i L)) (.tmp 31) = .bool (decide (i ≤ 0)) by kernel_rfl).trans (by rw [(show (decide (i ≤ 0)) = false from decide_eq_false (by ((try simp (disch := omega) only [wrap_i64_id, wrap_u64_id, List.length_set, List.length_replicate]) <;> omega)))])) ?_; show Gets _ _ (codeAt [1, 1, 1, 1, 1, 0, 1, 0, 0, 0, 1, 1] B) _ _
  rw [C1_1_1_1_1_0_1_0_0_0_1_1]; refine Gets.ev fitC.mix fitC.cfg (fitC.sound SoundC.no 16 0) 16 rfl (s' := KSt.low (vS24 pre i L)) (x := (.exit 0)) rfl ?_
  exact hq
noncomputable def vS34  : KSt := ⟨(frameL 86 [(4, (.bool true))]), ⟨1, 1, []⟩⟩
theorem vR33 (pre : Nat) (i : Int) (L : List Int) : evCK Try.prog cfgC (runK Try.prog cfgC fsC noT 16 40) 16 (codeAt [1, 1, 1, 1, 1, 1, 0] B) (vS24 pre i L) (normC 1 [4]) =
  some (.normal, vS34) := by kernel_rfl
theorem vrf0 (lg i c0 c1 c2 c3 y : Int) (pre : Nat) (L : List Int)   {Q : Ex → St → Prop} (hq : Q .ret (KSt.low vS34)) : Gets Try.prog (KH.low ⟨1, 1, []⟩) (codeAt [1, 1, 1, 1, 1, 1] B) (KSt.low (vS24 pre i L)) Q := by
  rw [C1_1_1_1_1_1]; refine Gets.seq ?_
  refine Gets.ofN fitC SoundC.no AgreeT.no 16 40 (by kernel_rfl) (x := .normal) (s' := vS34) (vR33 pre i L) ?_
  show Gets _ _ (codeAt [1, 1, 1, 1, 1, 1, 1] B) _ _
  rw [C1_1_1_1_1_1_1]; refine Gets.ev fitC.mix fitC.cfg (fitC.sound SoundC.no 16 0) 16 rfl (s' := KSt.low vS34) (x := .ret) rfl ?_
  exact hq
noncomputable def vS35 (pre : Nat) (i : Int) (L : List Int) : KSt := ⟨(frameL 86 [(1, (.slice (some ⟨0, pre, none⟩) 0 0)), (5, (.int .i64 1)), (6, (.pointer (some ⟨1, 0, none⟩))), (7, (.pointer (some ⟨2, 0, none⟩))), (8, (.int .i64 i))]), ⟨5, 1, [(4, 0, .ints .u64 L 26 true), (3, 0, .map [((.int .u64 1), (.slice (some ⟨4, 0, none⟩) 25 25), 0)] 1), (2, 0, .cells [(.int .u64 1), (.int .i64 1)] 30 true), (1, 0, .cells [(.int .i64 200), (.int .i64 25), (.int .i64 0), (.int .u64 1), (.map (some 3))] 48 true)]⟩⟩
noncomputable def vS36 (pre : Nat) (i : Int) (L : List Int) : KSt := ⟨(frameL 86 [(1, (.slice (some ⟨0, pre, none⟩) 0 0)), (5, (.int .i64 1)), (6, (.pointer (some ⟨1, 0, none⟩))), (7, (.pointer (some ⟨2, 0, none⟩))), (8, (.int .i64 i)), (31, (.bool (decide (i ≤ 0))))]), ⟨5, 1, [(4, 0, .ints .u64 L 26 true), (3, 0, .map [((.int .u64 1), (.slice (some ⟨4, 0, none⟩) 25 25), 0)] 1), (2, 0, .cells [(.int .u64 1), (.int .i64 1)] 30 true), (1, 0, .cells [(.int .i64 200), (.int .i64 25), (.int .i64 0), (.int .u64 1), (.map (some 3))] 48 true)]⟩⟩
theorem vR34 (pre : Nat) (i : Int) (L : List Int) : evCK Try.prog cfgC (runK Try.prog cfgC fsC noT 16 40) 16 (codeAt [1, 1, 1, 1, 1, 0, 1, 0, 0, 0, 0] B) (vS35 pre i L) (normC 1 [1, 5, 6, 7, 8, 31]) =
  some (.normal, (vS36 pre i L)) := by kernel_rfl
theorem vR35 (pre : Nat) (i : Int) (L : List Int) : evCK Try.prog cfgC (runK Try.prog cfgC fsC noT 16 40) 16 (codeAt [1, 1, 1, 1, 1, 0, 1, 0, 0, 0, 1, 0] B) (vS36 pre i L) (normC 1 [1, 5, 6, 7, 8]) =
  some (.normal, (vS35 pre i L)) := by kernel_rfl
noncomputable def vS37 (pre : Nat) (i : Int) (L : List Int) : KSt := ⟨(frameL 86 [(1, (.slice (some ⟨0, pre, none⟩) 0 0)), (5, (.int .i64 1)), (6, (.pointer (some ⟨1, 0, none⟩))), (7, (.pointer (some ⟨2, 0, none⟩))), (8, (.int .i64 i)), (9, (.pointer (some ⟨3, 0, none⟩)))]), ⟨6, 1, [(5, 0, .ints .u64 L 26 true), (4, 0, .map [((.int .u64 1), (.slice (some ⟨5, 0, none⟩) 25 25), 0)] 1), (3, 0, .cells [(.int .u64 1), (.int .i64 1), (.bool true), (.int .i64 0), (.int .u64 0), (.int .u64 0), (.int .u64 0), (.int .u64 0)] 53 true), (2, 0, .cells [(.int .u64 1), (.int .i64 1)] 30 true), (1, 0, .cells [(.int .i64 200), (.int .i64 25), (.int .i64 0), (.int .u64 1), (.map (some 4))] 48 true)]⟩⟩
theorem vR36 (pre : Nat) (i : Int) (L : List Int) : evCK Try.prog cfgC (runK Try.prog cfgC fsC noT 16 40) 16 (codeAt [1, 1, 1, 1, 1, 0, 1, 0, 0, 1, 0, 0, 0] B) (vS35 pre i L) (normC 1 [1, 5, 6, 7, 8, 9]) =
  some (.normal, (vS37 pre i L)) := by kernel_rfl
noncomputable def vS38 (pre : Nat) (i : Int) (L : List Int) (n1 : Int) (n2 : Int) (n3 : Int) (n4 : Int) : KSt := ⟨(frameL 86 [(1, (.slice (some ⟨0, pre, none⟩) 0 0)), (5, (.int .i64 1)), (6, (.pointer (some ⟨1, 0, none⟩))), (7, (.pointer (some ⟨2, 0, none⟩))), (8, (.int .i64 i)), (9, (.pointer (some ⟨3, 0, none⟩))), (10, (.int .i64 4)), (11, (.bool true))]), ⟨6, 1, [(5, 0, .ints .u64 L 26 true), (4, 0, .map [((.int .u64 1), (.slice (some ⟨5, 0, none⟩) 25 25), 0)] 1), (3, 0, .cells [(.int .u64 1), (.int .i64 1), (.bool true), (.int .i64 4), (.int .u64 n1), (.int .u64 n2), (.int .u64 n3), (.int .u64 n4)] 53 true), (2, 0, .cells [(.int .u64 1), (.int .i64 1)] 30 true), (1, 0, .cells [(.int .i64 200), (.int .i64 25), (.int .i64 0), (.int .u64 1), (.map (some 4))] 48 true)]⟩⟩
theorem vR37 (pre : Nat) (i : Int) (L : List Int) : evCK Try.prog cfgC (runK Try.prog cfgC fsC noT 16 40) 16 (codeAt [1, 1, 1, 1, 1, 0, 1, 0, 0, 1, 0, 0, 1, 0] B) (vS37 pre i L) (normC 1 [1, 5, 6, 7, 8, 9, 10, 11]) =
  obind (L[3]?) fun n1 =>
    obind (L[4]?) fun n2 =>
      obind (L[5]?) fun n3 =>
        obind (L[6]?) fun n4 =>
          some (.normal, (vS38 pre i L n1 n2 n3 n4)) := by kernel_rfl
noncomputable def vS39 (pre : Nat) (i : Int) (L : List Int) (c0 : Int) (c1 : Int) (c2 : Int) (c3 : Int) : KSt := ⟨(frameL 86 [(1, (.slice (some ⟨0, pre, none⟩) 0 0)), (5, (.int .i64 1)), (6, (.pointer (some ⟨1, 0, none⟩))), (7, (.pointer (some ⟨2, 0, none⟩))), (8, (.int .i64 i)), (9, (.pointer (some ⟨3, 0, none⟩))), (10, (.int .i64 4)), (11, (.bool true))]), ⟨6, 1, [(5, 0, .ints .u64 L 26 true), (4, 0, .map [((.int .u64 1), (.slice (some ⟨5, 0, none⟩) 25 25), 0)] 1), (3, 0, .cells [(.int .u64 1), (.int .i64 1), (.bool true), (.int .i64 4), (.int .u64 c0), (.int .u64 c1), (.int .u64 c2), (.int .u64 c3)] 53 true), (2, 0, .cells [(.int .u64 1), (.int .i64 1)] 30 true), (1, 0, .cells [(.int .i64 200), (.int .i64 25), (.int .i64 0), (.int .u64 1), (.map (some 4))] 48 true)]⟩⟩
noncomputable def vS40 (pre : Nat) (i : Int) (L : List Int) : KSt := ⟨(frameL 86 [(1, (.slice (some ⟨0, pre, none⟩) 0 0)), (5, (.int .i64 1)), (6, (.pointer (some ⟨1, 0, none⟩))), (7, (.pointer (some ⟨2, 0, none⟩))), (8, (.int .i64 i)), (9, (.pointer (some ⟨3, 0, none⟩))), (10, (.int .i64 4)), (11, (.bool true))]), ⟨6, 1, [(5, 0, .ints .u64 L 26 true), (4, 0, .map [((.int .u64 1), (.slice (some ⟨5, 0, none⟩) 25 25), 0)] 1), (3, 0, .cells [(.int .u64 1), (.int .i64 1), (.bool true), (.int .i64 4), (.int .u64 (L.getD 3 0)), (.int .u64 (L.getD 4 0)), (.int .u64 (L.getD 5 0)), (.int .u64 (L.getD 6 0))] 53 true), (2, 0, .cells [(.int .u64 1), (.int .i64 1)] 30 true), (1, 0, .cells [(.int .i64 200), (.int .i64 25), (.int .i64 0), (.int .u64 1), (.map (some 4))] 48 true)]⟩⟩
noncomputable def vS41 (pre : Nat) (i : Int) (c0 : Int) (c1 : Int) (c2 : Int) (c3 : Int) (L : List Int) : KSt := ⟨(frameL 86 [(1, (.slice (some ⟨0, pre, none⟩) 0 0)), (5, (.int .i64 1)), (6, (.pointer (some ⟨1, 0, none⟩))), (7, (.pointer (some ⟨2, 0, none⟩))), (8, (.int .i64 i)), (10, (.int .i64 4)), (11, (.bool true)), (12, (.bool (decide ((IntKind.wrap .u64 ((IntKind.wrap .u64 ((IntKind.wrap .u64 ((IntKind.wrap .u64 (0 + c0)) + c1)) + c2)) + c3)) ≥ 14)))), (13, (.bool true))]), ⟨5, 1, [(4, 0, .ints .u64 L 26 true), (3, 0, .map [((.int .u64 1), (.slice (some ⟨4, 0, none⟩) 25 25), 0)] 1), (2, 0, .cells [(.int .u64 1), (.int .i64 1)] 30 true), (1, 0, .cells [(.int .i64 200), (.int .i64 25), (.int .i64 0), (.int .u64 1), (.map (some 3))] 48 true)]⟩⟩
theorem vR38 (pre : Nat) (i : Int) (L : List Int) (c0 : Int) (c1 : Int) (c2 : Int) (c3 : Int) : evCK Try.prog cfgC (runK Try.prog cfgC fsC noT 16 40) 16 (codeAt [1, 1, 1, 1, 1, 0, 1, 0, 0, 1, 0, 0, 1, 1, 0] B) (vS39 pre i L c0 c1 c2 c3) (normC 1 [1, 5, 6, 7, 8, 10, 11, 12, 13]) =
  some (.normal, (vS41 pre i c0 c1 c2 c3 L)) := by kernel_rfl
noncomputable def vS42 (pre : Nat) (i : Int) (c0 : Int) (c1 : Int) (c2 : Int) (c3 : Int) (L : List Int) : KSt := ⟨(frameL 86 [(1, (.slice (some ⟨0, pre, none⟩) 0 0)), (5, (.int .i64 1)), (6, (.pointer (some ⟨1, 0, none⟩))), (7, (.pointer (some ⟨2, 0, none⟩))), (8, (.int .i64 i)), (65, (.bool (!((decide ((IntKind.wrap .u64 ((IntKind.wrap .u64 ((IntKind.wrap .u64 ((IntKind.wrap .u64 (0 + c0)) + c1)) + c2)) + c3)) ≥ 14)) == (decide (i ≥ 14))))))]), ⟨5, 1, [(4, 0, .ints .u64 L 26 true), (3, 0, .map [((.int .u64 1), (.slice (some ⟨4, 0, none⟩) 25 25), 0)] 1), (2, 0, .cells [(.int .u64 1), (.int .i64 1)] 30 true), (1, 0, .cells [(.int .i64 200), (.int .i64 25), (.int .i64 0), (.int .u64 1), (.map (some 3))] 48 true)]⟩⟩
theorem vR39 (pre : Nat) (i : Int) (c0 : Int) (c1 : Int) (c2 : Int) (c3 : Int) (L : List Int) : evCK Try.prog cfgC (runK Try.prog cfgC fsC noT 16 40) 16 (codeAt [1, 1, 1, 1, 1, 0, 1, 0, 0, 1, 0, 0, 1, 1, 1, 0, 0] B) (vS41 pre i c0 c1 c2 c3 L) (normC 1 [1, 5, 6, 7, 8, 65]) =
  some (.normal, (vS42 pre i c0 c1 c2 c3 L)) := by kernel_rfl
theorem vR40 (pre : Nat) (i : Int) (c0 : Int) (c1 : Int) (c2 : Int) (c3 : Int) (L : List Int) : evCK Try.prog cfgC (runK Try.prog cfgC fsC noT 16 40) 16 (codeAt [1, 1, 1, 1, 1, 0, 1, 0, 0, 1, 0, 0, 1, 1, 1, 0, 1, 1] B) (vS42 pre i c0 c1 c2 c3 L) (normC 1 [1, 5, 6, 7, 8]) =
  some (.normal, (vS35 pre i L)) := by kernel_rfl
noncomputable def vS43 (pre : Nat) (i : Int) (L : List Int) : KSt := ⟨(frameL 86 [(1, (.slice (some ⟨0, pre, none⟩) 0 0)), (5, (.int .i64 1)), (6, (.pointer (some ⟨1, 0, none⟩))), (7, (.pointer (some ⟨2, 0, none⟩))), (8, (.int .i64 i)), (69, (.bool (decide (i < 0))))]), ⟨5, 1, [(4, 0, .ints .u64 L 26 true), (3, 0, .map [((.int .u64 1), (.slice (some ⟨4, 0, none⟩) 25 25), 0)] 1), (2, 0, .cells [(.int .u64 1), (.int .i64 1)] 30 true), (1, 0, .cells [(.int .i64 200), (.int .i64 25), (.int .i64 0), (.int .u64 1), (.map (some 3))] 48 true)]⟩⟩
theorem vR41 (pre : Nat) (i : Int) (L : List Int) : evCK Try.prog cfgC (runK Try.prog cfgC fsC noT 16 40) 16 (codeAt [1, 1, 1, 1, 1, 0, 1, 0, 0, 1, 0, 0, 1, 1, 1, 1, 0] B) (vS35 pre i L) (normC 1 [1, 5, 6, 7, 8, 69]) =
  some (.normal, (vS43 pre i L)) := by kernel_rfl
theorem vR42 (pre : Nat) (i : Int) (L : List Int) : evCK Try.prog cfgC (runK Try.prog cfgC fsC noT 16 40) 16 (codeAt [1, 1, 1, 1, 1, 0, 1, 0, 0, 1, 0, 0, 1, 1, 1, 1, 1, 1] B) (vS43 pre i L) (normC 1 [1, 5, 6, 7, 8]) =
  some (.normal, (vS35 pre i L)) := by kernel_rfl
noncomputable def vS44 (pre : Nat) (i : Int) (L : List Int) : KSt := ⟨(frameL 86 [(1, (.slice (some ⟨0, pre, none⟩) 0 0)), (5, (.int .i64 1)), (6, (.pointer (some ⟨1, 0, none⟩))), (7, (.pointer (some ⟨2, 0, none⟩))), (8, (.int .i64 (IntKind.wrap .i64 (i + 1))))]), ⟨5, 1, [(4, 0, .ints .u64 L 26 true), (3, 0, .map [((.int .u64 1), (.slice (some ⟨4, 0, none⟩) 25 25), 0)] 1), (2, 0, .cells [(.int .u64 1), (.int .i64 1)] 30 true), (1, 0, .cells [(.int .i64 200), (.int .i64 25), (.int .i64 0), (.int .u64 1), (.map (some 3))] 48 true)]⟩⟩
theorem vR43 (pre : Nat) (i : Int) (L : List Int) : evCK Try.prog cfgC (runK Try.prog cfgC fsC noT 16 40) 16 (codeAt [1, 1, 1, 1, 1, 0, 1, 0, 0, 1, 1] B) (vS35 pre i L) (normC 1 [1, 5, 6, 7, 8]) =
  some (.normal, (vS44 pre i L)) := by kernel_rfl
noncomputable def vS45 (pre : Nat) (i : Int) (L : List Int) : KSt := ⟨(frameL 86 [(1, (.slice (some ⟨0, pre, none⟩) 0 0)), (5, (.int .i64 1)), (6, (.pointer (some ⟨1, 0, none⟩))), (7, (.pointer (some ⟨2, 0, none⟩))), (8, (.int .i64 (i + 1)))]), ⟨5, 1, [(4, 0, .ints .u64 L 26 true), (3, 0, .map [((.int .u64 1), (.slice (some ⟨4, 0, none⟩) 25 25), 0)] 1), (2, 0, .cells [(.int .u64 1), (.int .i64 1)] 30 true), (1, 0, .cells [(.int .i64 200), (.int .i64 25), (.int .i64 0), (.int .u64 1), (.map (some 3))] 48 true)]⟩⟩
theorem vre1 (lg i c0 c1 c2 c3 y : Int) (pre : Nat) (L : List Int) (hL : L.length = 25) (hc0 : L.getD 3 0 = c0) (hc1 : L.getD 4 0 = c1) (hc2 : L.getD 5 0 = c2) (hc3 : L.getD 6 0 = c3) (p0 : 0 ≤ c0) (p1 : 0 ≤ c1) (p2 : 0 ≤ c2) (p3 : 0 ≤ c3) (hs : c0 + c1 + c2 + c3 = i) (hi : 0 ≤ i) (hin : i = 0)   {Q : Ex → St → Prop} (hq : Q .normal (KSt.low (vS45 pre i L))) : Gets Try.prog (KH.low ⟨1, 1, []⟩) (codeAt [1, 1, 1, 1, 1, 0, 1, 0, 0] B) (KSt.low (vS35 pre i L)) Q := by
  rw [C1_1_1_1_1_0_1_0_0]; refine Gets.seq ?_
  rw [C1_1_1_1_1_0_1_0_0_0]; refine Gets.seq ?_
  refine Gets.ofN fitC SoundC.no AgreeT.no 16 40 (by kernel_rfl) (x := .normal) (s' := (vS36 pre i L)) (vR34 pre i L) ?_
  show Gets _ _ (codeAt [1, 1, 1, 1, 1, 0, 1, 0, 0, 0, 1] B) _ _
  rw [C1_1_1_1_1_0_1_0_0_0_1]; refine Gets.cond true (by kernel_rfl) ((show evalX (KSt.ts (vS36 pre i L)) (.tmp 31) = .bool (decide (i ≤ 0)) by kernel_rfl).trans (by rw [(show (decide (i ≤ 0)) = true from decide_eq_true (by ((try simp (disch := omega) only [hc0, hc1, hc2, hc3, wrap_i64_id, wrap_u64_id, List.length_set, List.length_replicate]) <;> omega)))])) ?_; show Gets _ _ (codeAt [1, 1, 1, 1, 1, 0, 1, 0, 0, 0, 1, 0] B) _ _
  refine Gets.ofN fitC SoundC.no AgreeT.no 16 40 (by kernel_rfl) (x := .normal) (s' := (vS35 pre i L)) (vR35 pre i L) ?_
  show Gets _ _ (codeAt [1, 1, 1, 1, 1, 0, 1, 0, 0, 1] B) _ _
  rw [C1_1_1_1_1_0_1_0_0_1]; refine Gets.seq ?_
  rw [C1_1_1_1_1_0_1_0_0_1_0]; refine Gets.block ?_
  rw [C1_1_1_1_1_0_1_0_0_1_0_0]; refine Gets.seq ?_
  refine Gets.ofN fitC SoundC.no AgreeT.no 16 40 (by kernel_rfl) (x := .normal) (s' := (vS37 pre i L)) (vR36 pre i L) ?_
  show Gets _ _ (codeAt [1, 1, 1, 1, 1, 0, 1, 0, 0, 1, 0, 0, 1] B) _ _
  rw [C1_1_1_1_1_0_1_0_0_1_0_0_1]; refine Gets.seq ?_
  refine Gets.ofN fitC SoundC.no AgreeT.no 16 40 (by kernel_rfl) (x := .normal) (s' := (vS39 pre i L c0 c1 c2 c3)) ((vR37 pre i L).trans (by rw [obind_at (k := 3) (by ((try simp (disch := omega) only [hc0, hc1, hc2, hc3, wrap_i64_id, wrap_u64_id, List.length_set, List.length_replicate]) <;> omega)) (by ((try simp (disch := omega) only [hc0, hc1, hc2, hc3, wrap_i64_id, wrap_u64_id, List.length_set, List.length_replicate]) <;> omega)), obind_at (k := 4) (by ((try simp (disch := omega) only [hc0, hc1, hc2, hc3, wrap_i64_id, wrap_u64_id, List.length_set, List.length_replicate]) <;> omega)) (by ((try simp (disch := omega) only [hc0, hc1, hc2, hc3, wrap_i64_id, wrap_u64_id, List.length_set, List.length_replicate]) <;> omega)), obind_at (k := 5) (by ((try simp (disch := omega) only [hc0, hc1, hc2, hc3, wrap_i64_id, wrap_u64_id, List.length_set, List.length_replicate]) <;> omega)) (by ((try simp (disch := omega) only [hc0, hc1, hc2, hc3, wrap_i64_id, wrap_u64_id, List.length_set, List.length_replicate]) <;> omega)), obind_at (k := 6) (by ((try simp (disch := omega) only [hc0, hc1, hc2, hc3, wrap_i64_id, wrap_u64_id, List.length_set, List.length_replicate]) <;> omega)) (by ((try simp (disch := omega) only [hc0, hc1, hc2, hc3, wrap_i64_id, wrap_u64_id, List.length_set, List.length_replicate]) <;> omega))] <;> (show some (Ex.normal, (vS40 pre i L)) = some (Ex.normal, (vS39 pre i L c0 c1 c2 c3)); unfold vS40 vS39; rw [(show (L.getD 3 0) = c0 from hc0), (show (L.getD 4 0) = c1 from hc1), (show (L.getD 5 0) = c2 from hc2), (show (L.getD 6 0) = c3 from hc3)]))) ?_
  show Gets _ _ (codeAt [1, 1, 1, 1, 1, 0, 1, 0, 0, 1, 0, 0, 1, 1] B) _ _
  rw [C1_1_1_1_1_0_1_0_0_1_0_0_1_1]; refine Gets.seq ?_
  refine Gets.ofN fitC SoundC.no AgreeT.no 16 40 (by kernel_rfl) (x := .normal) (s' := (vS41 pre i c0 c1 c2 c3 L)) (vR38 pre i L c0 c1 c2 c3) ?_
  show Gets _ _ (codeAt [1, 1, 1, 1, 1, 0, 1, 0, 0, 1, 0, 0, 1, 1, 1] B) _ _
  rw [C1_1_1_1_1_0_1_0_0_1_0_0_1_1_1]; refine Gets.seq ?_
  rw [C1_1_1_1_1_0_1_0_0_1_0_0_1_1_1_0]; refine Gets.seq ?_
  refine Gets.ofN fitC SoundC.no AgreeT.no 16 40 (by kernel_rfl) (x := .normal) (s' := (vS42 pre i c0 c1 c2 c3 L)) (vR39 pre i c0 c1 c2 c3 L) ?_
  show Gets _ _ (codeAt [1, 1, 1, 1, 1, 0, 1, 0, 0, 1, 0, 0, 1, 1, 1, 0, 1] B) _ _
  rw [C1_1_1_1_1_0_1_0_0_1_0_0_1_1_1_0_1]; refine Gets.cond false (by kernel_rfl) ((show evalX (KSt.ts (vS42 pre i c0 c1 c2 c3 L)) (.tmp 65) = .bool (!((decide ((IntKind.wrap .u64 ((IntKind.wrap .u64 ((IntKind.wrap .u64 ((IntKind.wrap .u64 (0 + c0)) + c1)) + c2)) + c3)) ≥ 14)) == (decide (i ≥ 14)))) by kernel_rfl).trans (by rw [(show (!((decide ((IntKind.wrap .u64 ((IntKind.wrap .u64 ((IntKind.wrap .u64 ((IntKind.wrap .u64 (0 + c0)) + c1)) + c2)) + c3)) ≥ 14)) == (decide (i ≥ 14)))) = false from not_f (sum_dec hs p0 p1 p2 p3 (by omega)))])) ?_; show Gets _ _ (codeAt [1, 1, 1, 1, 1, 0, 1, 0, 0, 1, 0, 0, 1, 1, 1, 0, 1, 1] B) _ _
  refine Gets.ofN fitC SoundC.no AgreeT.no 16 40 (by kernel_rfl) (x := .normal) (s' := (vS35 pre i L)) (vR40 pre i c0 c1 c2 c3 L) ?_
  show Gets _ _ (codeAt [1, 1, 1, 1, 1, 0, 1, 0, 0, 1, 0, 0, 1, 1, 1, 1] B) _ _
  rw [C1_1_1_1_1_0_1_0_0_1_0_0_1_1_1_1]; refine Gets.seq ?_
  refine Gets.ofN fitC SoundC.no AgreeT.no 16 40 (by kernel_rfl) (x := .normal) (s' := (vS43 pre i L)) (vR41 pre i L) ?_
  show Gets _ _ (codeAt [1, 1, 1, 1, 1, 0, 1, 0, 0, 1, 0, 0, 1, 1, 1, 1, 1] B) _ _
  rw [C1_1_1_1_1_0_1_0_0_1_0_0_1_1_1_1_1]; refine Gets.cond false (by kernel_rfl) ((show evalX (KSt.ts (vS43 pre i L)) (.tmp 69) = .bool (decide (i < 0)) by kernel_rfl).trans (by rw [(show (decide (i < 0)) = false from decide_eq_false (by ((try simp (disch := omega) only [hc0, hc1, hc2, hc3, wrap_i64_id, wrap_u64_id, List.length_set, List.length_replicate]) <;> omega)))])) ?_; show Gets _ _ (codeAt [1, 1, 1, 1, 1, 0, 1, 0, 0, 1, 0, 0, 1, 1, 1, 1, 1, 1] B) _ _
  refine Gets.ofN fitC SoundC.no AgreeT.no 16 40 (by kernel_rfl) (x := .normal) (s' := (vS35 pre i L)) (vR42 pre i L) ?_
  show Gets _ _ (codeAt [1, 1, 1, 1, 1, 0, 1, 0, 0, 1, 1] B) _ _
  refine Gets.ofN fitC SoundC.no AgreeT.no 16 40 (by kernel_rfl) (x := .normal) (s' := (vS45 pre i L)) ((vR43 pre i L).trans (by (show some (Ex.normal, (vS44 pre i L)) = some (Ex.normal, (vS45 pre i L)); unfold vS44 vS45; rw [(show (IntKind.wrap .i64 (i + 1)) = (i + 1) from wrap_i64_id (by omega) (by omega))]))) ?_
  exact hq
theorem vrx1 (lg i c0 c1 c2 c3 y : Int) (pre : Nat) (L : List Int) (hx : 0 < i)   {Q : Ex → St → Prop} (hq : Q (.exit 0) (KSt.low (vS36 pre i L))) : Gets Try.prog (KH.low ⟨1, 1, []⟩) (codeAt [1, 1, 1, 1, 1, 0, 1, 0, 0] B) (KSt.low (vS35 pre i L)) Q := by
  rw [C1_1_1_1_1_0_1_0_0]; refine Gets.seq ?_
  rw [C1_1_1_1_1_0_1_0_0_0]; refine Gets.seq ?_
  refine Gets.ofN fitC SoundC.no AgreeT.no 16 40 (by kernel_rfl) (x := .normal) (s' := (vS36 pre i L)) (vR34 pre i L) ?_
  show Gets _ _ (codeAt [1, 1, 1, 1, 1, 0, 1, 0, 0, 0, 1] B) _ _
  rw [C1_1_1_1_1_0_1_0_0_0_1]; refine Gets.cond false (by kernel_rfl) ((show evalX (KSt.ts (vS36 pre i L)) (.tmp 31) = .bool (decide (i ≤ 0)) by kernel_rfl).trans (by rw [(show (decide (i ≤ 0)) = false from decide_eq_false (by ((try simp (disch := omega) only [wrap_i64_id, wrap_u64_id, List.length_set, List.length_replicate]) <;> omega)))])) ?_; show Gets _ _ (codeAt [1, 1, 1, 1, 1, 0, 1, 0, 0, 0, 1, 1] B) _ _
  rw [C1_1_1_1_1_0_1_0_0_0_1_1]; refine Gets.ev fitC.mix fitC.cfg (fitC.sound SoundC.no 16 0) 16 rfl (s' := KSt.low (vS36 pre i L)) (x := (.exit 0)) rfl ?_
  exact hq
theorem vR44 (pre : Nat) (i : Int) (L : List Int) : evCK Try.prog cfgC (runK Try.prog cfgC fsC noT 16 40) 16 (codeAt [1, 1, 1, 1, 1, 1, 0] B) (vS36 pre i L) (normC 1 [4]) =
  some (.normal, vS34) := by kernel_rfl
theorem vrf1 (lg i c0 c1 c2 c3 y : Int) (pre : Nat) (L : List Int)   {Q : Ex → St → Prop} (hq : Q .ret (KSt.low vS34)) : Gets Try.prog (KH.low ⟨1, 1, []⟩) (codeAt [1, 1, 1, 1, 1, 1] B) (KSt.low (vS36 pre i L)) Q := by
  rw [C1_1_1_1_1_1]; refine Gets.seq ?_
  refine Gets.ofN fitC SoundC.no AgreeT.no 16 40 (by kernel_rfl) (x := .normal) (s' := vS34) (vR44 pre i L) ?_
  show Gets _ _ (codeAt [1, 1, 1, 1, 1, 1, 1] B) _ _
  rw [C1_1_1_1_1_1_1]; refine Gets.ev fitC.mix fitC.cfg (fitC.sound SoundC.no 16 0) 16 rfl (s' := KSt.low vS34) (x := .ret) rfl ?_
  exact hq
noncomputable def vS46 (pre : Nat) (i : Int) (L : List Int) : KSt := ⟨(frameL 86 [(1, (.slice (some ⟨0, pre, none⟩) 0 0)), (5, (.int .i64 2)), (6, (.pointer (some ⟨1, 0, none⟩))), (7, (.pointer (some ⟨2, 0, none⟩))), (8, (.int .i64 i))]), ⟨5, 1, [(4, 0, .ints .u64 L 26 true), (3, 0, .map [((.int .u64 1), (.slice (some ⟨4, 0, none⟩) 43 43), 0)] 1), (2, 0, .cells [(.int .u64 1), (.int .i64 2)] 30 true), (1, 0, .cells [(.int .i64 200), (.int .i64 43), (.int .i64 0), (.int .u64 1), (.map (some 3))] 48 true)]⟩⟩
noncomputable def vS47 (pre : Nat) (i : Int) (L : List Int) : KSt := ⟨(frameL 86 [(1, (.slice (some ⟨0, pre, none⟩) 0 0)), (5, (.int .i64 2)), (6, (.pointer (some ⟨1, 0, none⟩))), (7, (.pointer (some ⟨2, 0, none⟩))), (8, (.int .i64 i)), (31, (.bool (decide (i ≤ 0))))]), ⟨5, 1, [(4, 0, .ints .u64 L 26 true), (3, 0, .map [((.int .u64 1), (.slice (some ⟨4, 0, none⟩) 43 43), 0)] 1), (2, 0, .cells [(.int .u64 1), (.int .i64 2)] 30 true), (1, 0, .cells [(.int .i64 200), (.int .i64 43), (.int .i64 0), (.int .u64 1), (.map (some 3))] 48 true)]⟩⟩
theorem vR45 (pre : Nat) (i : Int) (L : List Int) : evCK Try.prog cfgC (runK Try.prog cfgC fsC noT 16 40) 16 (codeAt [1, 1, 1, 1, 1, 0, 1, 0, 0, 0, 0] B) (vS46 pre i L) (normC 1 [1, 5, 6, 7, 8, 31]) =
  some (.normal, (vS47 pre i L)) := by kernel_rfl
theorem vR46 (pre : Nat) (i : Int) (L : List Int) : evCK Try.prog cfgC (runK Try.prog cfgC fsC noT 16 40) 16 (codeAt [1, 1, 1, 1, 1, 0, 1, 0, 0, 0, 1, 0] B) (vS47 pre i L) (normC 1 [1, 5, 6, 7, 8]) =
  some (.normal, (vS46 pre i L)) := by kernel_rfl
end Go.Proofs.Ytpnidhkghiiipaa.crowdCounts
