/- CrowdCounts: roads. -/
import Derived.Test.YtpnidhkghiiipaaCcW0
import Derived.WalkKit
import Derived.ProofKit
import Derived.OpenShut
import Derived.ChangeOld
import Derived.Below
import Derived.SizedLaws
namespace Go.Proofs.Ytpnidhkghiiipaa.crowdCounts
open Go.Eng
open Go.ChangeShapes Go.WideShapes Go.ChangeAt Go.RowKit
set_option linter.unusedVariables false
set_option linter.unusedSimpArgs false
set_option maxRecDepth 100000
noncomputable def vS48 (pre : Nat) (i : Int) (L : List Int) : KSt := ⟨(frameL 86 [(1, (.slice (some ⟨0, pre, none⟩) 0 0)), (5, (.int .i64 2)), (6, (.pointer (some ⟨1, 0, none⟩))), (7, (.pointer (some ⟨2, 0, none⟩))), (8, (.int .i64 i)), (9, (.pointer (some ⟨3, 0, none⟩)))]), ⟨6, 1, [(5, 0, .ints .u64 L 26 true), (4, 0, .map [((.int .u64 1), (.slice (some ⟨5, 0, none⟩) 43 43), 0)] 1), (3, 0, .cells [(.int .u64 1), (.int .i64 2), (.bool true), (.int .i64 0), (.int .u64 0), (.int .u64 0), (.int .u64 0), (.int .u64 0)] 53 true), (2, 0, .cells [(.int .u64 1), (.int .i64 2)] 30 true), (1, 0, .cells [(.int .i64 200), (.int .i64 43), (.int .i64 0), (.int .u64 1), (.map (some 4))] 48 true)]⟩⟩
theorem vR47 (pre : Nat) (i : Int) (L : List Int) : evCK Try.prog cfgC (runK Try.prog cfgC fsC noT 16 40) 16 (codeAt [1, 1, 1, 1, 1, 0, 1, 0, 0, 1, 0, 0, 0] B) (vS46 pre i L) (normC 1 [1, 5, 6, 7, 8, 9]) =
  some (.normal, (vS48 pre i L)) := by kernel_rfl
noncomputable def vS49 (pre : Nat) (i : Int) (L : List Int) (n1 : Int) (n2 : Int) (n3 : Int) (n4 : Int) : KSt := ⟨(frameL 86 [(1, (.slice (some ⟨0, pre, none⟩) 0 0)), (5, (.int .i64 2)), (6, (.pointer (some ⟨1, 0, none⟩))), (7, (.pointer (some ⟨2, 0, none⟩))), (8, (.int .i64 i)), (9, (.pointer (some ⟨3, 0, none⟩))), (10, (.int .i64 4)), (11, (.bool true))]), ⟨6, 1, [(5, 0, .ints .u64 L 26 true), (4, 0, .map [((.int .u64 1), (.slice (some ⟨5, 0, none⟩) 43 43), 0)] 1), (3, 0, .cells [(.int .u64 1), (.int .i64 2), (.bool true), (.int .i64 4), (.int .u64 n1), (.int .u64 n2), (.int .u64 n3), (.int .u64 n4)] 53 true), (2, 0, .cells [(.int .u64 1), (.int .i64 2)] 30 true), (1, 0, .cells [(.int .i64 200), (.int .i64 43), (.int .i64 0), (.int .u64 1), (.map (some 4))] 48 true)]⟩⟩
theorem vR48 (pre : Nat) (i : Int) (L : List Int) : evCK Try.prog cfgC (runK Try.prog cfgC fsC noT 16 40) 16 (codeAt [1, 1, 1, 1, 1, 0, 1, 0, 0, 1, 0, 0, 1, 0] B) (vS48 pre i L) (normC 1 [1, 5, 6, 7, 8, 9, 10, 11]) =
  obind (L[3]?) fun n1 =>
    obind (L[4]?) fun n2 =>
      obind (L[5]?) fun n3 =>
        obind (L[6]?) fun n4 =>
          some (.normal, (vS49 pre i L n1 n2 n3 n4)) := by kernel_rfl
noncomputable def vS50 (pre : Nat) (i : Int) (L : List Int) (c0 : Int) (c1 : Int) (c2 : Int) (c3 : Int) : KSt := ⟨(frameL 86 [(1, (.slice (some ⟨0, pre, none⟩) 0 0)), (5, (.int .i64 2)), (6, (.pointer (some ⟨1, 0, none⟩))), (7, (.pointer (some ⟨2, 0, none⟩))), (8, (.int .i64 i)), (9, (.pointer (some ⟨3, 0, none⟩))), (10, (.int .i64 4)), (11, (.bool true))]), ⟨6, 1, [(5, 0, .ints .u64 L 26 true), (4, 0, .map [((.int .u64 1), (.slice (some ⟨5, 0, none⟩) 43 43), 0)] 1), (3, 0, .cells [(.int .u64 1), (.int .i64 2), (.bool true), (.int .i64 4), (.int .u64 c0), (.int .u64 c1), (.int .u64 c2), (.int .u64 c3)] 53 true), (2, 0, .cells [(.int .u64 1), (.int .i64 2)] 30 true), (1, 0, .cells [(.int .i64 200), (.int .i64 43), (.int .i64 0), (.int .u64 1), (.map (some 4))] 48 true)]⟩⟩
noncomputable def vS51 (pre : Nat) (i : Int) (L : List Int) : KSt := ⟨(frameL 86 [(1, (.slice (some ⟨0, pre, none⟩) 0 0)), (5, (.int .i64 2)), (6, (.pointer (some ⟨1, 0, none⟩))), (7, (.pointer (some ⟨2, 0, none⟩))), (8, (.int .i64 i)), (9, (.pointer (some ⟨3, 0, none⟩))), (10, (.int .i64 4)), (11, (.bool true))]), ⟨6, 1, [(5, 0, .ints .u64 L 26 true), (4, 0, .map [((.int .u64 1), (.slice (some ⟨5, 0, none⟩) 43 43), 0)] 1), (3, 0, .cells [(.int .u64 1), (.int .i64 2), (.bool true), (.int .i64 4), (.int .u64 (L.getD 3 0)), (.int .u64 (L.getD 4 0)), (.int .u64 (L.getD 5 0)), (.int .u64 (L.getD 6 0))] 53 true), (2, 0, .cells [(.int .u64 1), (.int .i64 2)] 30 true), (1, 0, .cells [(.int .i64 200), (.int .i64 43), (.int .i64 0), (.int .u64 1), (.map (some 4))] 48 true)]⟩⟩
noncomputable def vS52 (pre : Nat) (i : Int) (c0 : Int) (c1 : Int) (c2 : Int) (c3 : Int) (L : List Int) : KSt := ⟨(frameL 86 [(1, (.slice (some ⟨0, pre, none⟩) 0 0)), (5, (.int .i64 2)), (6, (.pointer (some ⟨1, 0, none⟩))), (7, (.pointer (some ⟨2, 0, none⟩))), (8, (.int .i64 i)), (10, (.int .i64 4)), (11, (.bool true)), (12, (.bool (decide ((IntKind.wrap .u64 ((IntKind.wrap .u64 ((IntKind.wrap .u64 ((IntKind.wrap .u64 (0 + c0)) + c1)) + c2)) + c3)) ≥ 28)))), (13, (.bool true))]), ⟨5, 1, [(4, 0, .ints .u64 L 26 true), (3, 0, .map [((.int .u64 1), (.slice (some ⟨4, 0, none⟩) 43 43), 0)] 1), (2, 0, .cells [(.int .u64 1), (.int .i64 2)] 30 true), (1, 0, .cells [(.int .i64 200), (.int .i64 43), (.int .i64 0), (.int .u64 1), (.map (some 3))] 48 true)]⟩⟩
theorem vR49 (pre : Nat) (i : Int) (L : List Int) (c0 : Int) (c1 : Int) (c2 : Int) (c3 : Int) : evCK Try.prog cfgC (runK Try.prog cfgC fsC noT 16 40) 16 (codeAt [1, 1, 1, 1, 1, 0, 1, 0, 0, 1, 0, 0, 1, 1, 0] B) (vS50 pre i L c0 c1 c2 c3) (normC 1 [1, 5, 6, 7, 8, 10, 11, 12, 13]) =
  some (.normal, (vS52 pre i c0 c1 c2 c3 L)) := by kernel_rfl
noncomputable def vS53 (pre : Nat) (i : Int) (c0 : Int) (c1 : Int) (c2 : Int) (c3 : Int) (L : List Int) : KSt := ⟨(frameL 86 [(1, (.slice (some ⟨0, pre, none⟩) 0 0)), (5, (.int .i64 2)), (6, (.pointer (some ⟨1, 0, none⟩))), (7, (.pointer (some ⟨2, 0, none⟩))), (8, (.int .i64 i)), (65, (.bool (!((decide ((IntKind.wrap .u64 ((IntKind.wrap .u64 ((IntKind.wrap .u64 ((IntKind.wrap .u64 (0 + c0)) + c1)) + c2)) + c3)) ≥ 28)) == (decide (i ≥ 28))))))]), ⟨5, 1, [(4, 0, .ints .u64 L 26 true), (3, 0, .map [((.int .u64 1), (.slice (some ⟨4, 0, none⟩) 43 43), 0)] 1), (2, 0, .cells [(.int .u64 1), (.int .i64 2)] 30 true), (1, 0, .cells [(.int .i64 200), (.int .i64 43), (.int .i64 0), (.int .u64 1), (.map (some 3))] 48 true)]⟩⟩
theorem vR50 (pre : Nat) (i : Int) (c0 : Int) (c1 : Int) (c2 : Int) (c3 : Int) (L : List Int) : evCK Try.prog cfgC (runK Try.prog cfgC fsC noT 16 40) 16 (codeAt [1, 1, 1, 1, 1, 0, 1, 0, 0, 1, 0, 0, 1, 1, 1, 0, 0] B) (vS52 pre i c0 c1 c2 c3 L) (normC 1 [1, 5, 6, 7, 8, 65]) =
  some (.normal, (vS53 pre i c0 c1 c2 c3 L)) := by kernel_rfl
theorem vR51 (pre : Nat) (i : Int) (c0 : Int) (c1 : Int) (c2 : Int) (c3 : Int) (L : List Int) : evCK Try.prog cfgC (runK Try.prog cfgC fsC noT 16 40) 16 (codeAt [1, 1, 1, 1, 1, 0, 1, 0, 0, 1, 0, 0, 1, 1, 1, 0, 1, 1] B) (vS53 pre i c0 c1 c2 c3 L) (normC 1 [1, 5, 6, 7, 8]) =
  some (.normal, (vS46 pre i L)) := by kernel_rfl
noncomputable def vS54 (pre : Nat) (i : Int) (L : List Int) : KSt := ⟨(frameL 86 [(1, (.slice (some ⟨0, pre, none⟩) 0 0)), (5, (.int .i64 2)), (6, (.pointer (some ⟨1, 0, none⟩))), (7, (.pointer (some ⟨2, 0, none⟩))), (8, (.int .i64 i)), (69, (.bool (decide (i < 0))))]), ⟨5, 1, [(4, 0, .ints .u64 L 26 true), (3, 0, .map [((.int .u64 1), (.slice (some ⟨4, 0, none⟩) 43 43), 0)] 1), (2, 0, .cells [(.int .u64 1), (.int .i64 2)] 30 true), (1, 0, .cells [(.int .i64 200), (.int .i64 43), (.int .i64 0), (.int .u64 1), (.map (some 3))] 48 true)]⟩⟩
theorem vR52 (pre : Nat) (i : Int) (L : List Int) : evCK Try.prog cfgC (runK Try.prog cfgC fsC noT 16 40) 16 (codeAt [1, 1, 1, 1, 1, 0, 1, 0, 0, 1, 0, 0, 1, 1, 1, 1, 0] B) (vS46 pre i L) (normC 1 [1, 5, 6, 7, 8, 69]) =
  some (.normal, (vS54 pre i L)) := by kernel_rfl
theorem vR53 (pre : Nat) (i : Int) (L : List Int) : evCK Try.prog cfgC (runK Try.prog cfgC fsC noT 16 40) 16 (codeAt [1, 1, 1, 1, 1, 0, 1, 0, 0, 1, 0, 0, 1, 1, 1, 1, 1, 1] B) (vS54 pre i L) (normC 1 [1, 5, 6, 7, 8]) =
  some (.normal, (vS46 pre i L)) := by kernel_rfl
noncomputable def vS55 (pre : Nat) (i : Int) (L : List Int) : KSt := ⟨(frameL 86 [(1, (.slice (some ⟨0, pre, none⟩) 0 0)), (5, (.int .i64 2)), (6, (.pointer (some ⟨1, 0, none⟩))), (7, (.pointer (some ⟨2, 0, none⟩))), (8, (.int .i64 (IntKind.wrap .i64 (i + 1))))]), ⟨5, 1, [(4, 0, .ints .u64 L 26 true), (3, 0, .map [((.int .u64 1), (.slice (some ⟨4, 0, none⟩) 43 43), 0)] 1), (2, 0, .cells [(.int .u64 1), (.int .i64 2)] 30 true), (1, 0, .cells [(.int .i64 200), (.int .i64 43), (.int .i64 0), (.int .u64 1), (.map (some 3))] 48 true)]⟩⟩
theorem vR54 (pre : Nat) (i : Int) (L : List Int) : evCK Try.prog cfgC (runK Try.prog cfgC fsC noT 16 40) 16 (codeAt [1, 1, 1, 1, 1, 0, 1, 0, 0, 1, 1] B) (vS46 pre i L) (normC 1 [1, 5, 6, 7, 8]) =
  some (.normal, (vS55 pre i L)) := by kernel_rfl
noncomputable def vS56 (pre : Nat) (i : Int) (L : List Int) : KSt := ⟨(frameL 86 [(1, (.slice (some ⟨0, pre, none⟩) 0 0)), (5, (.int .i64 2)), (6, (.pointer (some ⟨1, 0, none⟩))), (7, (.pointer (some ⟨2, 0, none⟩))), (8, (.int .i64 (i + 1)))]), ⟨5, 1, [(4, 0, .ints .u64 L 26 true), (3, 0, .map [((.int .u64 1), (.slice (some ⟨4, 0, none⟩) 43 43), 0)] 1), (2, 0, .cells [(.int .u64 1), (.int .i64 2)] 30 true), (1, 0, .cells [(.int .i64 200), (.int .i64 43), (.int .i64 0), (.int .u64 1), (.map (some 3))] 48 true)]⟩⟩
theorem vre2 (lg i c0 c1 c2 c3 y : Int) (pre : Nat) (L : List Int) (hL : L.length = 43) (hc0 : L.getD 3 0 = c0) (hc1 : L.getD 4 0 = c1) (hc2 : L.getD 5 0 = c2) (hc3 : L.getD 6 0 = c3) (p0 : 0 ≤ c0) (p1 : 0 ≤ c1) (p2 : 0 ≤ c2) (p3 : 0 ≤ c3) (hs : c0 + c1 + c2 + c3 = i) (hi : 0 ≤ i) (hin : i = 0)   {Q : Ex → St → Prop} (hq : Q .normal (KSt.low (vS56 pre i L))) : Gets Try.prog (KH.low ⟨1, 1, []⟩) (codeAt [1, 1, 1, 1, 1, 0, 1, 0, 0] B) (KSt.low (vS46 pre i L)) Q := by
  rw [C1_1_1_1_1_0_1_0_0]; refine Gets.seq ?_
  rw [C1_1_1_1_1_0_1_0_0_0]; refine Gets.seq ?_
  refine Gets.ofN fitC SoundC.no AgreeT.no 16 40 (by kernel_rfl) (x := .normal) (s' := (vS47 pre i L)) (vR45 pre i L) ?_
  show Gets _ _ (codeAt [1, 1, 1, 1, 1, 0, 1, 0, 0, 0, 1] B) _ _
  rw [C1_1_1_1_1_0_1_0_0_0_1]; refine Gets.cond true (by kernel_rfl) ((show evalX (KSt.ts (vS47 pre i L)) (.tmp 31) = .bool (decide (i ≤ 0)) by kernel_rfl).trans (by rw [(show (decide (i ≤ 0)) = true from decide_eq_true (by ((try simp (disch := omega) only [hc0, hc1, hc2, hc3, wrap_i64_id, wrap_u64_id, List.length_set, List.length_replicate]) <;> omega)))])) ?_; show Gets _ _ (codeAt [1, 1, 1, 1, 1, 0, 1, 0, 0, 0, 1, 0] B) _ _
  refine Gets.ofN fitC SoundC.no AgreeT.no 16 40 (by kernel_rfl) (x := .normal) (s' := (vS46 pre i L)) (vR46 pre i L) ?_
  show Gets _ _ (codeAt [1, 1, 1, 1, 1, 0, 1, 0, 0, 1] B) _ _
  rw [C1_1_1_1_1_0_1_0_0_1]; refine Gets.seq ?_
  rw [C1_1_1_1_1_0_1_0_0_1_0]; refine Gets.block ?_
  rw [C1_1_1_1_1_0_1_0_0_1_0_0]; refine Gets.seq ?_
  refine Gets.ofN fitC SoundC.no AgreeT.no 16 40 (by kernel_rfl) (x := .normal) (s' := (vS48 pre i L)) (vR47 pre i L) ?_
  show Gets _ _ (codeAt [1, 1, 1, 1, 1, 0, 1, 0, 0, 1, 0, 0, 1] B) _ _
  rw [C1_1_1_1_1_0_1_0_0_1_0_0_1]; refine Gets.seq ?_
  refine Gets.ofN fitC SoundC.no AgreeT.no 16 40 (by kernel_rfl) (x := .normal) (s' := (vS50 pre i L c0 c1 c2 c3)) ((vR48 pre i L).trans (by rw [obind_at (k := 3) (by ((try simp (disch := omega) only [hc0, hc1, hc2, hc3, wrap_i64_id, wrap_u64_id, List.length_set, List.length_replicate]) <;> omega)) (by ((try simp (disch := omega) only [hc0, hc1, hc2, hc3, wrap_i64_id, wrap_u64_id, List.length_set, List.length_replicate]) <;> omega)), obind_at (k := 4) (by ((try simp (disch := omega) only [hc0, hc1, hc2, hc3, wrap_i64_id, wrap_u64_id, List.length_set, List.length_replicate]) <;> omega)) (by ((try simp (disch := omega) only [hc0, hc1, hc2, hc3, wrap_i64_id, wrap_u64_id, List.length_set, List.length_replicate]) <;> omega)), obind_at (k := 5) (by ((try simp (disch := omega) only [hc0, hc1, hc2, hc3, wrap_i64_id, wrap_u64_id, List.length_set, List.length_replicate]) <;> omega)) (by ((try simp (disch := omega) only [hc0, hc1, hc2, hc3, wrap_i64_id, wrap_u64_id, List.length_set, List.length_replicate]) <;> omega)), obind_at (k := 6) (by ((try simp (disch := omega) only [hc0, hc1, hc2, hc3, wrap_i64_id, wrap_u64_id, List.length_set, List.length_replicate]) <;> omega)) (by ((try simp (disch := omega) only [hc0, hc1, hc2, hc3, wrap_i64_id, wrap_u64_id, List.length_set, List.length_replicate]) <;> omega))] <;> (show some (Ex.normal, (vS51 pre i L)) = some (Ex.normal, (vS50 pre i L c0 c1 c2 c3)); unfold vS51 vS50; rw [(show (L.getD 3 0) = c0 from hc0), (show (L.getD 4 0) = c1 from hc1), (show (L.getD 5 0) = c2 from hc2), (show (L.getD 6 0) = c3 from hc3)]))) ?_
  show Gets _ _ (codeAt [1, 1, 1, 1, 1, 0, 1, 0, 0, 1, 0, 0, 1, 1] B) _ _
  rw [C1_1_1_1_1_0_1_0_0_1_0_0_1_1]; refine Gets.seq ?_
  refine Gets.ofN fitC SoundC.no AgreeT.no 16 40 (by kernel_rfl) (x := .normal) (s' := (vS52 pre i c0 c1 c2 c3 L)) (vR49 pre i L c0 c1 c2 c3) ?_
  show Gets _ _ (codeAt [1, 1, 1, 1, 1, 0, 1, 0, 0, 1, 0, 0, 1, 1, 1] B) _ _
  rw [C1_1_1_1_1_0_1_0_0_1_0_0_1_1_1]; refine Gets.seq ?_
  rw [C1_1_1_1_1_0_1_0_0_1_0_0_1_1_1_0]; refine Gets.seq ?_
  refine Gets.ofN fitC SoundC.no AgreeT.no 16 40 (by kernel_rfl) (x := .normal) (s' := (vS53 pre i c0 c1 c2 c3 L)) (vR50 pre i c0 c1 c2 c3 L) ?_
  show Gets _ _ (codeAt [1, 1, 1, 1, 1, 0, 1, 0, 0, 1, 0, 0, 1, 1, 1, 0, 1] B) _ _
  rw [C1_1_1_1_1_0_1_0_0_1_0_0_1_1_1_0_1]; refine Gets.cond false (by kernel_rfl) ((show evalX (KSt.ts (vS53 pre i c0 c1 c2 c3 L)) (.tmp 65) = .bool (!((decide ((IntKind.wrap .u64 ((IntKind.wrap .u64 ((IntKind.wrap .u64 ((IntKind.wrap .u64 (0 + c0)) + c1)) + c2)) + c3)) ≥ 28)) == (decide (i ≥ 28)))) by kernel_rfl).trans (by rw [(show (!((decide ((IntKind.wrap .u64 ((IntKind.wrap .u64 ((IntKind.wrap .u64 ((IntKind.wrap .u64 (0 + c0)) + c1)) + c2)) + c3)) ≥ 28)) == (decide (i ≥ 28)))) = false from not_f (sum_dec hs p0 p1 p2 p3 (by omega)))])) ?_; show Gets _ _ (codeAt [1, 1, 1, 1, 1, 0, 1, 0, 0, 1, 0, 0, 1, 1, 1, 0, 1, 1] B) _ _
  refine Gets.ofN fitC SoundC.no AgreeT.no 16 40 (by kernel_rfl) (x := .normal) (s' := (vS46 pre i L)) (vR51 pre i c0 c1 c2 c3 L) ?_
  show Gets _ _ (codeAt [1, 1, 1, 1, 1, 0, 1, 0, 0, 1, 0, 0, 1, 1, 1, 1] B) _ _
  rw [C1_1_1_1_1_0_1_0_0_1_0_0_1_1_1_1]; refine Gets.seq ?_
  refine Gets.ofN fitC SoundC.no AgreeT.no 16 40 (by kernel_rfl) (x := .normal) (s' := (vS54 pre i L)) (vR52 pre i L) ?_
  show Gets _ _ (codeAt [1, 1, 1, 1, 1, 0, 1, 0, 0, 1, 0, 0, 1, 1, 1, 1, 1] B) _ _
  rw [C1_1_1_1_1_0_1_0_0_1_0_0_1_1_1_1_1]; refine Gets.cond false (by kernel_rfl) ((show evalX (KSt.ts (vS54 pre i L)) (.tmp 69) = .bool (decide (i < 0)) by kernel_rfl).trans (by rw [(show (decide (i < 0)) = false from decide_eq_false (by ((try simp (disch := omega) only [hc0, hc1, hc2, hc3, wrap_i64_id, wrap_u64_id, List.length_set, List.length_replicate]) <;> omega)))])) ?_; show Gets _ _ (codeAt [1, 1, 1, 1, 1, 0, 1, 0, 0, 1, 0, 0, 1, 1, 1, 1, 1, 1] B) _ _
  refine Gets.ofN fitC SoundC.no AgreeT.no 16 40 (by kernel_rfl) (x := .normal) (s' := (vS46 pre i L)) (vR53 pre i L) ?_
  show Gets _ _ (codeAt [1, 1, 1, 1, 1, 0, 1, 0, 0, 1, 1] B) _ _
  refine Gets.ofN fitC SoundC.no AgreeT.no 16 40 (by kernel_rfl) (x := .normal) (s' := (vS56 pre i L)) ((vR54 pre i L).trans (by (show some (Ex.normal, (vS55 pre i L)) = some (Ex.normal, (vS56 pre i L)); unfold vS55 vS56; rw [(show (IntKind.wrap .i64 (i + 1)) = (i + 1) from wrap_i64_id (by omega) (by omega))]))) ?_
  exact hq
theorem vrx2 (lg i c0 c1 c2 c3 y : Int) (pre : Nat) (L : List Int) (hx : 0 < i)   {Q : Ex → St → Prop} (hq : Q (.exit 0) (KSt.low (vS47 pre i L))) : Gets Try.prog (KH.low ⟨1, 1, []⟩) (codeAt [1, 1, 1, 1, 1, 0, 1, 0, 0] B) (KSt.low (vS46 pre i L)) Q := by
  rw [C1_1_1_1_1_0_1_0_0]; refine Gets.seq ?_
  rw [C1_1_1_1_1_0_1_0_0_0]; refine Gets.seq ?_
  refine Gets.ofN fitC SoundC.no AgreeT.no 16 40 (by kernel_rfl) (x := .normal) (s' := (vS47 pre i L)) (vR45 pre i L) ?_
  show Gets _ _ (codeAt [1, 1, 1, 1, 1, 0, 1, 0, 0, 0, 1] B) _ _
  rw [C1_1_1_1_1_0_1_0_0_0_1]; refine Gets.cond false (by kernel_rfl) ((show evalX (KSt.ts (vS47 pre i L)) (.tmp 31) = .bool (decide (i ≤ 0)) by kernel_rfl).trans (by rw [(show (decide (i ≤ 0)) = false from decide_eq_false (by ((try simp (disch := omega) only [wrap_i64_id, wrap_u64_id, List.length_set, List.length_replicate]) <;> omega)))])) ?_; show Gets _ _ (codeAt [1, 1, 1, 1, 1, 0, 1, 0, 0, 0, 1, 1] B) _ _
  rw [C1_1_1_1_1_0_1_0_0_0_1_1]; refine Gets.ev fitC.mix fitC.cfg (fitC.sound SoundC.no 16 0) 16 rfl (s' := KSt.low (vS47 pre i L)) (x := (.exit 0)) rfl ?_
  exact hq
theorem vR55 (pre : Nat) (i : Int) (L : List Int) : evCK Try.prog cfgC (runK Try.prog cfgC fsC noT 16 40) 16 (codeAt [1, 1, 1, 1, 1, 1, 0] B) (vS47 pre i L) (normC 1 [4]) =
  some (.normal, vS34) := by kernel_rfl
theorem vrf2 (lg i c0 c1 c2 c3 y : Int) (pre : Nat) (L : List Int)   {Q : Ex → St → Prop} (hq : Q .ret (KSt.low vS34)) : Gets Try.prog (KH.low ⟨1, 1, []⟩) (codeAt [1, 1, 1, 1, 1, 1] B) (KSt.low (vS47 pre i L)) Q := by
  rw [C1_1_1_1_1_1]; refine Gets.seq ?_
  refine Gets.ofN fitC SoundC.no AgreeT.no 16 40 (by kernel_rfl) (x := .normal) (s' := vS34) (vR55 pre i L) ?_
  show Gets _ _ (codeAt [1, 1, 1, 1, 1, 1, 1] B) _ _
  rw [C1_1_1_1_1_1_1]; refine Gets.ev fitC.mix fitC.cfg (fitC.sound SoundC.no 16 0) 16 rfl (s' := KSt.low vS34) (x := .ret) rfl ?_
  exact hq
noncomputable def vS57 (pre : Nat) (i : Int) (L : List Int) : KSt := ⟨(frameL 86 [(1, (.slice (some ⟨0, pre, none⟩) 0 0)), (5, (.int .i64 3)), (6, (.pointer (some ⟨1, 0, none⟩))), (7, (.pointer (some ⟨2, 0, none⟩))), (8, (.int .i64 i))]), ⟨5, 1, [(4, 0, .ints .u64 L 26 true), (3, 0, .map [((.int .u64 1), (.slice (some ⟨4, 0, none⟩) 79 79), 0)] 1), (2, 0, .cells [(.int .u64 1), (.int .i64 3)] 30 true), (1, 0, .cells [(.int .i64 200), (.int .i64 79), (.int .i64 0), (.int .u64 1), (.map (some 3))] 48 true)]⟩⟩
noncomputable def vS58 (pre : Nat) (i : Int) (L : List Int) : KSt := ⟨(frameL 86 [(1, (.slice (some ⟨0, pre, none⟩) 0 0)), (5, (.int .i64 3)), (6, (.pointer (some ⟨1, 0, none⟩))), (7, (.pointer (some ⟨2, 0, none⟩))), (8, (.int .i64 i)), (31, (.bool (decide (i ≤ 0))))]), ⟨5, 1, [(4, 0, .ints .u64 L 26 true), (3, 0, .map [((.int .u64 1), (.slice (some ⟨4, 0, none⟩) 79 79), 0)] 1), (2, 0, .cells [(.int .u64 1), (.int .i64 3)] 30 true), (1, 0, .cells [(.int .i64 200), (.int .i64 79), (.int .i64 0), (.int .u64 1), (.map (some 3))] 48 true)]⟩⟩
theorem vR56 (pre : Nat) (i : Int) (L : List Int) : evCK Try.prog cfgC (runK Try.prog cfgC fsC noT 16 40) 16 (codeAt [1, 1, 1, 1, 1, 0, 1, 0, 0, 0, 0] B) (vS57 pre i L) (normC 1 [1, 5, 6, 7, 8, 31]) =
  some (.normal, (vS58 pre i L)) := by kernel_rfl
theorem vR57 (pre : Nat) (i : Int) (L : List Int) : evCK Try.prog cfgC (runK Try.prog cfgC fsC noT 16 40) 16 (codeAt [1, 1, 1, 1, 1, 0, 1, 0, 0, 0, 1, 0] B) (vS58 pre i L) (normC 1 [1, 5, 6, 7, 8]) =
  some (.normal, (vS57 pre i L)) := by kernel_rfl
noncomputable def vS59 (pre : Nat) (i : Int) (L : List Int) : KSt := ⟨(frameL 86 [(1, (.slice (some ⟨0, pre, none⟩) 0 0)), (5, (.int .i64 3)), (6, (.pointer (some ⟨1, 0, none⟩))), (7, (.pointer (some ⟨2, 0, none⟩))), (8, (.int .i64 i)), (9, (.pointer (some ⟨3, 0, none⟩)))]), ⟨6, 1, [(5, 0, .ints .u64 L 26 true), (4, 0, .map [((.int .u64 1), (.slice (some ⟨5, 0, none⟩) 79 79), 0)] 1), (3, 0, .cells [(.int .u64 1), (.int .i64 3), (.bool true), (.int .i64 0), (.int .u64 0), (.int .u64 0), (.int .u64 0), (.int .u64 0)] 53 true), (2, 0, .cells [(.int .u64 1), (.int .i64 3)] 30 true), (1, 0, .cells [(.int .i64 200), (.int .i64 79), (.int .i64 0), (.int .u64 1), (.map (some 4))] 48 true)]⟩⟩
theorem vR58 (pre : Nat) (i : Int) (L : List Int) : evCK Try.prog cfgC (runK Try.prog cfgC fsC noT 16 40) 16 (codeAt [1, 1, 1, 1, 1, 0, 1, 0, 0, 1, 0, 0, 0] B) (vS57 pre i L) (normC 1 [1, 5, 6, 7, 8, 9]) =
  some (.normal, (vS59 pre i L)) := by kernel_rfl
noncomputable def vS60 (pre : Nat) (i : Int) (L : List Int) (n1 : Int) (n2 : Int) (n3 : Int) (n4 : Int) : KSt := ⟨(frameL 86 [(1, (.slice (some ⟨0, pre, none⟩) 0 0)), (5, (.int .i64 3)), (6, (.pointer (some ⟨1, 0, none⟩))), (7, (.pointer (some ⟨2, 0, none⟩))), (8, (.int .i64 i)), (9, (.pointer (some ⟨3, 0, none⟩))), (10, (.int .i64 4)), (11, (.bool true))]), ⟨6, 1, [(5, 0, .ints .u64 L 26 true), (4, 0, .map [((.int .u64 1), (.slice (some ⟨5, 0, none⟩) 79 79), 0)] 1), (3, 0, .cells [(.int .u64 1), (.int .i64 3), (.bool true), (.int .i64 4), (.int .u64 n1), (.int .u64 n2), (.int .u64 n3), (.int .u64 n4)] 53 true), (2, 0, .cells [(.int .u64 1), (.int .i64 3)] 30 true), (1, 0, .cells [(.int .i64 200), (.int .i64 79), (.int .i64 0), (.int .u64 1), (.map (some 4))] 48 true)]⟩⟩
theorem vR59 (pre : Nat) (i : Int) (L : List Int) : evCK Try.prog cfgC (runK Try.prog cfgC fsC noT 16 40) 16 (codeAt [1, 1, 1, 1, 1, 0, 1, 0, 0, 1, 0, 0, 1, 0] B) (vS59 pre i L) (normC 1 [1, 5, 6, 7, 8, 9, 10, 11]) =
  obind (L[3]?) fun n1 =>
    obind (L[4]?) fun n2 =>
      obind (L[5]?) fun n3 =>
        obind (L[6]?) fun n4 =>
          some (.normal, (vS60 pre i L n1 n2 n3 n4)) := by kernel_rfl
noncomputable def vS61 (pre : Nat) (i : Int) (L : List Int) (c0 : Int) (c1 : Int) (c2 : Int) (c3 : Int) : KSt := ⟨(frameL 86 [(1, (.slice (some ⟨0, pre, none⟩) 0 0)), (5, (.int .i64 3)), (6, (.pointer (some ⟨1, 0, none⟩))), (7, (.pointer (some ⟨2, 0, none⟩))), (8, (.int .i64 i)), (9, (.pointer (some ⟨3, 0, none⟩))), (10, (.int .i64 4)), (11, (.bool true))]), ⟨6, 1, [(5, 0, .ints .u64 L 26 true), (4, 0, .map [((.int .u64 1), (.slice (some ⟨5, 0, none⟩) 79 79), 0)] 1), (3, 0, .cells [(.int .u64 1), (.int .i64 3), (.bool true), (.int .i64 4), (.int .u64 c0), (.int .u64 c1), (.int .u64 c2), (.int .u64 c3)] 53 true), (2, 0, .cells [(.int .u64 1), (.int .i64 3)] 30 true), (1, 0, .cells [(.int .i64 200), (.int .i64 79), (.int .i64 0), (.int .u64 1), (.map (some 4))] 48 true)]⟩⟩
noncomputable def vS62 (pre : Nat) (i : Int) (L : List Int) : KSt := ⟨(frameL 86 [(1, (.slice (some ⟨0, pre, none⟩) 0 0)), (5, (.int .i64 3)), (6, (.pointer (some ⟨1, 0, none⟩))), (7, (.pointer (some ⟨2, 0, none⟩))), (8, (.int .i64 i)), (9, (.pointer (some ⟨3, 0, none⟩))), (10, (.int .i64 4)), (11, (.bool true))]), ⟨6, 1, [(5, 0, .ints .u64 L 26 true), (4, 0, .map [((.int .u64 1), (.slice (some ⟨5, 0, none⟩) 79 79), 0)] 1), (3, 0, .cells [(.int .u64 1), (.int .i64 3), (.bool true), (.int .i64 4), (.int .u64 (L.getD 3 0)), (.int .u64 (L.getD 4 0)), (.int .u64 (L.getD 5 0)), (.int .u64 (L.getD 6 0))] 53 true), (2, 0, .cells [(.int .u64 1), (.int .i64 3)] 30 true), (1, 0, .cells [(.int .i64 200), (.int .i64 79), (.int .i64 0), (.int .u64 1), (.map (some 4))] 48 true)]⟩⟩
noncomputable def vS63 (pre : Nat) (i : Int) (c0 : Int) (c1 : Int) (c2 : Int) (c3 : Int) (L : List Int) : KSt := ⟨(frameL 86 [(1, (.slice (some ⟨0, pre, none⟩) 0 0)), (5, (.int .i64 3)), (6, (.pointer (some ⟨1, 0, none⟩))), (7, (.pointer (some ⟨2, 0, none⟩))), (8, (.int .i64 i)), (10, (.int .i64 4)), (11, (.bool true)), (12, (.bool (decide ((IntKind.wrap .u64 ((IntKind.wrap .u64 ((IntKind.wrap .u64 ((IntKind.wrap .u64 (0 + c0)) + c1)) + c2)) + c3)) ≥ 56)))), (13, (.bool true))]), ⟨5, 1, [(4, 0, .ints .u64 L 26 true), (3, 0, .map [((.int .u64 1), (.slice (some ⟨4, 0, none⟩) 79 79), 0)] 1), (2, 0, .cells [(.int .u64 1), (.int .i64 3)] 30 true), (1, 0, .cells [(.int .i64 200), (.int .i64 79), (.int .i64 0), (.int .u64 1), (.map (some 3))] 48 true)]⟩⟩
theorem vR60 (pre : Nat) (i : Int) (L : List Int) (c0 : Int) (c1 : Int) (c2 : Int) (c3 : Int) : evCK Try.prog cfgC (runK Try.prog cfgC fsC noT 16 40) 16 (codeAt [1, 1, 1, 1, 1, 0, 1, 0, 0, 1, 0, 0, 1, 1, 0] B) (vS61 pre i L c0 c1 c2 c3) (normC 1 [1, 5, 6, 7, 8, 10, 11, 12, 13]) =
  some (.normal, (vS63 pre i c0 c1 c2 c3 L)) := by kernel_rfl
noncomputable def vS64 (pre : Nat) (i : Int) (c0 : Int) (c1 : Int) (c2 : Int) (c3 : Int) (L : List Int) : KSt := ⟨(frameL 86 [(1, (.slice (some ⟨0, pre, none⟩) 0 0)), (5, (.int .i64 3)), (6, (.pointer (some ⟨1, 0, none⟩))), (7, (.pointer (some ⟨2, 0, none⟩))), (8, (.int .i64 i)), (65, (.bool (!((decide ((IntKind.wrap .u64 ((IntKind.wrap .u64 ((IntKind.wrap .u64 ((IntKind.wrap .u64 (0 + c0)) + c1)) + c2)) + c3)) ≥ 56)) == (decide (i ≥ 56))))))]), ⟨5, 1, [(4, 0, .ints .u64 L 26 true), (3, 0, .map [((.int .u64 1), (.slice (some ⟨4, 0, none⟩) 79 79), 0)] 1), (2, 0, .cells [(.int .u64 1), (.int .i64 3)] 30 true), (1, 0, .cells [(.int .i64 200), (.int .i64 79), (.int .i64 0), (.int .u64 1), (.map (some 3))] 48 true)]⟩⟩
theorem vR61 (pre : Nat) (i : Int) (c0 : Int) (c1 : Int) (c2 : Int) (c3 : Int) (L : List Int) : evCK Try.prog cfgC (runK Try.prog cfgC fsC noT 16 40) 16 (codeAt [1, 1, 1, 1, 1, 0, 1, 0, 0, 1, 0, 0, 1, 1, 1, 0, 0] B) (vS63 pre i c0 c1 c2 c3 L) (normC 1 [1, 5, 6, 7, 8, 65]) =
  some (.normal, (vS64 pre i c0 c1 c2 c3 L)) := by kernel_rfl
theorem vR62 (pre : Nat) (i : Int) (c0 : Int) (c1 : Int) (c2 : Int) (c3 : Int) (L : List Int) : evCK Try.prog cfgC (runK Try.prog cfgC fsC noT 16 40) 16 (codeAt [1, 1, 1, 1, 1, 0, 1, 0, 0, 1, 0, 0, 1, 1, 1, 0, 1, 1] B) (vS64 pre i c0 c1 c2 c3 L) (normC 1 [1, 5, 6, 7, 8]) =
  some (.normal, (vS57 pre i L)) := by kernel_rfl
noncomputable def vS65 (pre : Nat) (i : Int) (L : List Int) : KSt := ⟨(frameL 86 [(1, (.slice (some ⟨0, pre, none⟩) 0 0)), (5, (.int .i64 3)), (6, (.pointer (some ⟨1, 0, none⟩))), (7, (.pointer (some ⟨2, 0, none⟩))), (8, (.int .i64 i)), (69, (.bool (decide (i < 0))))]), ⟨5, 1, [(4, 0, .ints .u64 L 26 true), (3, 0, .map [((.int .u64 1), (.slice (some ⟨4, 0, none⟩) 79 79), 0)] 1), (2, 0, .cells [(.int .u64 1), (.int .i64 3)] 30 true), (1, 0, .cells [(.int .i64 200), (.int .i64 79), (.int .i64 0), (.int .u64 1), (.map (some 3))] 48 true)]⟩⟩
theorem vR63 (pre : Nat) (i : Int) (L : List Int) : evCK Try.prog cfgC (runK Try.prog cfgC fsC noT 16 40) 16 (codeAt [1, 1, 1, 1, 1, 0, 1, 0, 0, 1, 0, 0, 1, 1, 1, 1, 0] B) (vS57 pre i L) (normC 1 [1, 5, 6, 7, 8, 69]) =
  some (.normal, (vS65 pre i L)) := by kernel_rfl
theorem vR64 (pre : Nat) (i : Int) (L : List Int) : evCK Try.prog cfgC (runK Try.prog cfgC fsC noT 16 40) 16 (codeAt [1, 1, 1, 1, 1, 0, 1, 0, 0, 1, 0, 0, 1, 1, 1, 1, 1, 1] B) (vS65 pre i L) (normC 1 [1, 5, 6, 7, 8]) =
  some (.normal, (vS57 pre i L)) := by kernel_rfl
noncomputable def vS66 (pre : Nat) (i : Int) (L : List Int) : KSt := ⟨(frameL 86 [(1, (.slice (some ⟨0, pre, none⟩) 0 0)), (5, (.int .i64 3)), (6, (.pointer (some ⟨1, 0, none⟩))), (7, (.pointer (some ⟨2, 0, none⟩))), (8, (.int .i64 (IntKind.wrap .i64 (i + 1))))]), ⟨5, 1, [(4, 0, .ints .u64 L 26 true), (3, 0, .map [((.int .u64 1), (.slice (some ⟨4, 0, none⟩) 79 79), 0)] 1), (2, 0, .cells [(.int .u64 1), (.int .i64 3)] 30 true), (1, 0, .cells [(.int .i64 200), (.int .i64 79), (.int .i64 0), (.int .u64 1), (.map (some 3))] 48 true)]⟩⟩
theorem vR65 (pre : Nat) (i : Int) (L : List Int) : evCK Try.prog cfgC (runK Try.prog cfgC fsC noT 16 40) 16 (codeAt [1, 1, 1, 1, 1, 0, 1, 0, 0, 1, 1] B) (vS57 pre i L) (normC 1 [1, 5, 6, 7, 8]) =
  some (.normal, (vS66 pre i L)) := by kernel_rfl
noncomputable def vS67 (pre : Nat) (i : Int) (L : List Int) : KSt := ⟨(frameL 86 [(1, (.slice (some ⟨0, pre, none⟩) 0 0)), (5, (.int .i64 3)), (6, (.pointer (some ⟨1, 0, none⟩))), (7, (.pointer (some ⟨2, 0, none⟩))), (8, (.int .i64 (i + 1)))]), ⟨5, 1, [(4, 0, .ints .u64 L 26 true), (3, 0, .map [((.int .u64 1), (.slice (some ⟨4, 0, none⟩) 79 79), 0)] 1), (2, 0, .cells [(.int .u64 1), (.int .i64 3)] 30 true), (1, 0, .cells [(.int .i64 200), (.int .i64 79), (.int .i64 0), (.int .u64 1), (.map (some 3))] 48 true)]⟩⟩
theorem vre3 (lg i c0 c1 c2 c3 y : Int) (pre : Nat) (L : List Int) (hL : L.length = 79) (hc0 : L.getD 3 0 = c0) (hc1 : L.getD 4 0 = c1) (hc2 : L.getD 5 0 = c2) (hc3 : L.getD 6 0 = c3) (p0 : 0 ≤ c0) (p1 : 0 ≤ c1) (p2 : 0 ≤ c2) (p3 : 0 ≤ c3) (hs : c0 + c1 + c2 + c3 = i) (hi : 0 ≤ i) (hin : i = 0)   {Q : Ex → St → Prop} (hq : Q .normal (KSt.low (vS67 pre i L))) : Gets Try.prog (KH.low ⟨1, 1, []⟩) (codeAt [1, 1, 1, 1, 1, 0, 1, 0, 0] B) (KSt.low (vS57 pre i L)) Q := by
  rw [C1_1_1_1_1_0_1_0_0]; refine Gets.seq ?_
  rw [C1_1_1_1_1_0_1_0_0_0]; refine Gets.seq ?_
  refine Gets.ofN fitC SoundC.no AgreeT.no 16 40 (by kernel_rfl) (x := .normal) (s' := (vS58 pre i L)) (vR56 pre i L) ?_
  show Gets _ _ (codeAt [1, 1, 1, 1, 1, 0, 1, 0, 0, 0, 1] B) _ _
  rw [C1_1_1_1_1_0_1_0_0_0_1]; refine Gets.cond true (by kernel_rfl) ((show evalX (KSt.ts (vS58 pre i L)) (.tmp 31) = .bool (decide (i ≤ 0)) by kernel_rfl).trans (by rw [(show (decide (i ≤ 0)) = true from decide_eq_true (by ((try simp (disch := omega) only [hc0, hc1, hc2, hc3, wrap_i64_id, wrap_u64_id, List.length_set, List.length_replicate]) <;> omega)))])) ?_; show Gets _ _ (codeAt [1, 1, 1, 1, 1, 0, 1, 0, 0, 0, 1, 0] B) _ _
  refine Gets.ofN fitC SoundC.no AgreeT.no 16 40 (by kernel_rfl) (x := .normal) (s' := (vS57 pre i L)) (vR57 pre i L) ?_
  show Gets _ _ (codeAt [1, 1, 1, 1, 1, 0, 1, 0, 0, 1] B) _ _
  rw [C1_1_1_1_1_0_1_0_0_1]; refine Gets.seq ?_
  rw [C1_1_1_1_1_0_1_0_0_1_0]; refine Gets.block ?_
  rw [C1_1_1_1_1_0_1_0_0_1_0_0]; refine Gets.seq ?_
  refine Gets.ofN fitC SoundC.no AgreeT.no 16 40 (by kernel_rfl) (x := .normal) (s' := (vS59 pre i L)) (vR58 pre i L) ?_
  show Gets _ _ (codeAt [1, 1, 1, 1, 1, 0, 1, 0, 0, 1, 0, 0, 1] B) _ _
  rw [C1_1_1_1_1_0_1_0_0_1_0_0_1]; refine Gets.seq ?_
  refine Gets.ofN fitC SoundC.no AgreeT.no 16 40 (by kernel_rfl) (x := .normal) (s' := (vS61 pre i L c0 c1 c2 c3)) ((vR59 pre i L).trans (by rw [obind_at (k := 3) (by ((try simp (disch := omega) only [hc0, hc1, hc2, hc3, wrap_i64_id, wrap_u64_id, List.length_set, List.length_replicate]) <;> omega)) (by ((try simp (disch := omega) only [hc0, hc1, hc2, hc3, wrap_i64_id, wrap_u64_id, List.length_set, List.length_replicate]) <;> omega)), obind_at (k := 4) (by ((try simp (disch := omega) only [hc0, hc1, hc2, hc3, wrap_i64_id, wrap_u64_id, List.length_set, List.length_replicate]) <;> omega)) (by ((try simp (disch := omega) only [hc0, hc1, hc2, hc3, wrap_i64_id, wrap_u64_id, List.length_set, List.length_replicate]) <;> omega)), obind_at (k := 5) (by ((try simp (disch := omega) only [hc0, hc1, hc2, hc3, wrap_i64_id, wrap_u64_id, List.length_set, List.length_replicate]) <;> omega)) (by ((try simp (disch := omega) only [hc0, hc1, hc2, hc3, wrap_i64_id, wrap_u64_id, List.length_set, List.length_replicate]) <;> omega)), obind_at (k := 6) (by ((try simp (disch := omega) only [hc0, hc1, hc2, hc3, wrap_i64_id, wrap_u64_id, List.length_set, List.length_replicate]) <;> omega)) (by ((try simp (disch := omega) only [hc0, hc1, hc2, hc3, wrap_i64_id, wrap_u64_id, List.length_set, List.length_replicate]) <;> omega))] <;> (show some (Ex.normal, (vS62 pre i L)) = some (Ex.normal, (vS61 pre i L c0 c1 c2 c3)); unfold vS62 vS61; rw [(show (L.getD 3 0) = c0 from hc0), (show (L.getD 4 0) = c1 from hc1), (show (L.getD 5 0) = c2 from hc2), (show (L.getD 6 0) = c3 from hc3)]))) ?_
  show Gets _ _ (codeAt [1, 1, 1, 1, 1, 0, 1, 0, 0, 1, 0, 0, 1, 1] B) _ _
  rw [C1_1_1_1_1_0_1_0_0_1_0_0_1_1]; refine Gets.seq ?_
  refine Gets.ofN fitC SoundC.no AgreeT.no 16 40 (by kernel_rfl) (x := .normal) (s' := (vS63 pre i c0 c1 c2 c3 L)) (vR60 pre i L c0 c1 c2 c3) ?_
  show Gets _ _ (codeAt [1, 1, 1, 1, 1, 0, 1, 0, 0, 1, 0, 0, 1, 1, 1] B) _ _
  rw [C1_1_1_1_1_0_1_0_0_1_0_0_1_1_1]; refine Gets.seq ?_
  rw [C1_1_1_1_1_0_1_0_0_1_0_0_1_1_1_0]; refine Gets.seq ?_
  refine Gets.ofN fitC SoundC.no AgreeT.no 16 40 (by kernel_rfl) (x := .normal) (s' := (vS64 pre i c0 c1 c2 c3 L)) (vR61 pre i c0 c1 c2 c3 L) ?_
  show Gets _ _ (codeAt [1, 1, 1, 1, 1, 0, 1, 0, 0, 1, 0, 0, 1, 1, 1, 0, 1] B) _ _
  rw [C1_1_1_1_1_0_1_0_0_1_0_0_1_1_1_0_1]; refine Gets.cond false (by kernel_rfl) ((show evalX (KSt.ts (vS64 pre i c0 c1 c2 c3 L)) (.tmp 65) = .bool (!((decide ((IntKind.wrap .u64 ((IntKind.wrap .u64 ((IntKind.wrap .u64 ((IntKind.wrap .u64 (0 + c0)) + c1)) + c2)) + c3)) ≥ 56)) == (decide (i ≥ 56)))) by kernel_rfl).trans (by rw [(show (!((decide ((IntKind.wrap .u64 ((IntKind.wrap .u64 ((IntKind.wrap .u64 ((IntKind.wrap .u64 (0 + c0)) + c1)) + c2)) + c3)) ≥ 56)) == (decide (i ≥ 56)))) = false from not_f (sum_dec hs p0 p1 p2 p3 (by omega)))])) ?_; show Gets _ _ (codeAt [1, 1, 1, 1, 1, 0, 1, 0, 0, 1, 0, 0, 1, 1, 1, 0, 1, 1] B) _ _
  refine Gets.ofN fitC SoundC.no AgreeT.no 16 40 (by kernel_rfl) (x := .normal) (s' := (vS57 pre i L)) (vR62 pre i c0 c1 c2 c3 L) ?_
  show Gets _ _ (codeAt [1, 1, 1, 1, 1, 0, 1, 0, 0, 1, 0, 0, 1, 1, 1, 1] B) _ _
  rw [C1_1_1_1_1_0_1_0_0_1_0_0_1_1_1_1]; refine Gets.seq ?_
  refine Gets.ofN fitC SoundC.no AgreeT.no 16 40 (by kernel_rfl) (x := .normal) (s' := (vS65 pre i L)) (vR63 pre i L) ?_
  show Gets _ _ (codeAt [1, 1, 1, 1, 1, 0, 1, 0, 0, 1, 0, 0, 1, 1, 1, 1, 1] B) _ _
  rw [C1_1_1_1_1_0_1_0_0_1_0_0_1_1_1_1_1]; refine Gets.cond false (by kernel_rfl) ((show evalX (KSt.ts (vS65 pre i L)) (.tmp 69) = .bool (decide (i < 0)) by kernel_rfl).trans (by rw [(show (decide (i < 0)) = false from decide_eq_false (by ((try simp (disch := omega) only [hc0, hc1, hc2, hc3, wrap_i64_id, wrap_u64_id, List.length_set, List.length_replicate]) <;> omega)))])) ?_; show Gets _ _ (codeAt [1, 1, 1, 1, 1, 0, 1, 0, 0, 1, 0, 0, 1, 1, 1, 1, 1, 1] B) _ _
  refine Gets.ofN fitC SoundC.no AgreeT.no 16 40 (by kernel_rfl) (x := .normal) (s' := (vS57 pre i L)) (vR64 pre i L) ?_
  show Gets _ _ (codeAt [1, 1, 1, 1, 1, 0, 1, 0, 0, 1, 1] B) _ _
  refine Gets.ofN fitC SoundC.no AgreeT.no 16 40 (by kernel_rfl) (x := .normal) (s' := (vS67 pre i L)) ((vR65 pre i L).trans (by (show some (Ex.normal, (vS66 pre i L)) = some (Ex.normal, (vS67 pre i L)); unfold vS66 vS67; rw [(show (IntKind.wrap .i64 (i + 1)) = (i + 1) from wrap_i64_id (by omega) (by omega))]))) ?_
  exact hq
theorem vrx3 (lg i c0 c1 c2 c3 y : Int) (pre : Nat) (L : List Int) (hx : 0 < i)   {Q : Ex → St → Prop} (hq : Q (.exit 0) (KSt.low (vS58 pre i L))) : Gets Try.prog (KH.low ⟨1, 1, []⟩) (codeAt [1, 1, 1, 1, 1, 0, 1, 0, 0] B) (KSt.low (vS57 pre i L)) Q := by
  rw [C1_1_1_1_1_0_1_0_0]; refine Gets.seq ?_
  rw [C1_1_1_1_1_0_1_0_0_0]; refine Gets.seq ?_
  refine Gets.ofN fitC SoundC.no AgreeT.no 16 40 (by kernel_rfl) (x := .normal) (s' := (vS58 pre i L)) (vR56 pre i L) ?_
  show Gets _ _ (codeAt [1, 1, 1, 1, 1, 0, 1, 0, 0, 0, 1] B) _ _
  rw [C1_1_1_1_1_0_1_0_0_0_1]; refine Gets.cond false (by kernel_rfl) ((show evalX (KSt.ts (vS58 pre i L)) (.tmp 31) = .bool (decide (i ≤ 0)) by kernel_rfl).trans (by rw [(show (decide (i ≤ 0)) = false from decide_eq_false (by ((try simp (disch := omega) only [wrap_i64_id, wrap_u64_id, List.length_set, List.length_replicate]) <;> omega)))])) ?_; show Gets _ _ (codeAt [1, 1, 1, 1, 1, 0, 1, 0, 0, 0, 1, 1] B) _ _
  rw [C1_1_1_1_1_0_1_0_0_0_1_1]; refine Gets.ev fitC.mix fitC.cfg (fitC.sound SoundC.no 16 0) 16 rfl (s' := KSt.low (vS58 pre i L)) (x := (.exit 0)) rfl ?_
  exact hq
theorem vR66 (pre : Nat) (i : Int) (L : List Int) : evCK Try.prog cfgC (runK Try.prog cfgC fsC noT 16 40) 16 (codeAt [1, 1, 1, 1, 1, 1, 0] B) (vS58 pre i L) (normC 1 [4]) =
  some (.normal, vS34) := by kernel_rfl
theorem vrf3 (lg i c0 c1 c2 c3 y : Int) (pre : Nat) (L : List Int)   {Q : Ex → St → Prop} (hq : Q .ret (KSt.low vS34)) : Gets Try.prog (KH.low ⟨1, 1, []⟩) (codeAt [1, 1, 1, 1, 1, 1] B) (KSt.low (vS58 pre i L)) Q := by
  rw [C1_1_1_1_1_1]; refine Gets.seq ?_
  refine Gets.ofN fitC SoundC.no AgreeT.no 16 40 (by kernel_rfl) (x := .normal) (s' := vS34) (vR66 pre i L) ?_
  show Gets _ _ (codeAt [1, 1, 1, 1, 1, 1, 1] B) _ _
  rw [C1_1_1_1_1_1_1]; refine Gets.ev fitC.mix fitC.cfg (fitC.sound SoundC.no 16 0) 16 rfl (s' := KSt.low vS34) (x := .ret) rfl ?_
  exact hq
theorem C1_1_1_1_1_0_1 : (codeAt [1, 1, 1, 1, 1, 0, 1] B) = .block 0 (codeAt [1, 1, 1, 1, 1, 0, 1, 0] B) := by kernel_rfl
theorem C1_1_1_1_1_0_1_0 : (codeAt [1, 1, 1, 1, 1, 0, 1, 0] B) = .loop (codeAt [1, 1, 1, 1, 1, 0, 1, 0, 0] B) := by kernel_rfl
end Go.Proofs.Ytpnidhkghiiipaa.crowdCounts
