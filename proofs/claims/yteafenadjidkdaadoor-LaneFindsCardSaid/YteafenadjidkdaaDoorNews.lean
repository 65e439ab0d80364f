/- The reference's places: new rows. -/
import Derived.Test.YteafenadjidkdaaDoorClaimed
import Derived.WalkKit
import Derived.ProofKit
import Derived.OpenShut
import Derived.ChangeOld
import Derived.Below
import Derived.SizedLaws
namespace Go.Proofs.YteafenadjidkdaaDoor.news
open Go.Eng
open Go.ChangeShapes Go.WideShapes Go.ChangeAt Go.RowKit
set_option linter.unusedVariables false
set_option linter.unusedSimpArgs false
set_option maxRecDepth 100000
open Go.Proofs.YteafenadjidkdaaDoor.claimed (MH mh_wf mh_ro view_var)
noncomputable def cfgT : Cfg := ⟨[]⟩
noncomputable def fsT : List FuncId := [15, 33]
theorem fitT : Fit Tryd.prog cfgT fsT := ⟨by kernel_rfl, Cfg.ok_of (by kernel_rfl), by kernel_rfl⟩
def plL (w b : Int) : Nat → List Int
  | 0 => []
  | k + 1 => plL w b k ++ (if byteRV w (k : Int) = b then [(k : Int)] else [])
theorem pl_len (w b : Int) : ∀ k, (plL w b k).length ≤ k
  | 0 => Nat.le_refl _
  | k + 1 => by
    have := pl_len w b k
    show (plL w b k ++ _).length ≤ k + 1
    rw [List.length_append]
    split <;> simp <;> omega
theorem pl_lo (w b : Int) {k : Int} (hk : 0 ≤ k) (h : ¬ (byteRV w k = b)) : plL w b (Int.toNat (k + 1)) = plL w b (Int.toNat k) := by
  rw [show Int.toNat (k + 1) = Int.toNat k + 1 by omega]
  show plL w b (Int.toNat k) ++ _ = _
  rw [Int.toNat_of_nonneg hk, if_neg h, List.append_nil]
theorem pl_hi (w b : Int) {k : Int} (hk : 0 ≤ k) (h : byteRV w k = b) : plL w b (Int.toNat (k + 1)) = plL w b (Int.toNat k) ++ [k] := by
  rw [show Int.toNat (k + 1) = Int.toNat k + 1 by omega]
  show plL w b (Int.toNat k) ++ _ = _
  rw [Int.toNat_of_nonneg hk, if_pos h]
noncomputable def Bpl : Code := bodyOf Tryd.prog 15
theorem Bpl_is : Tryd.f15.body = some Bpl := by kernel_rfl
theorem Bpl_ok : okCode Tryd.prog.globals.size Bpl = true := by kernel_rfl
noncomputable def plS0 (w : Int) (b : Int) (e0 : TypeId) : KSt := (firstK [(.int .u64 w), (.int .i64 b)] 22 ⟨1, 1, [(0, 0, .cells [(.int .u8 0), (.int .u8 1), (.int .u8 56), (.int .u8 2), (.int .u8 57), (.int .u8 49), (.int .u8 28), (.int .u8 3), (.int .u8 61), (.int .u8 58), (.int .u8 42), (.int .u8 50), (.int .u8 38), (.int .u8 29), (.int .u8 17), (.int .u8 4), (.int .u8 62), (.int .u8 47), (.int .u8 59), (.int .u8 36), (.int .u8 45), (.int .u8 43), (.int .u8 51), (.int .u8 22), (.int .u8 53), (.int .u8 39), (.int .u8 33), (.int .u8 30), (.int .u8 24), (.int .u8 18), (.int .u8 12), (.int .u8 5), (.int .u8 63), (.int .u8 55), (.int .u8 48), (.int .u8 27), (.int .u8 60), (.int .u8 41), (.int .u8 37), (.int .u8 16), (.int .u8 46), (.int .u8 35), (.int .u8 44), (.int .u8 21), (.int .u8 52), (.int .u8 32), (.int .u8 23), (.int .u8 11), (.int .u8 54), (.int .u8 26), (.int .u8 40), (.int .u8 15), (.int .u8 34), (.int .u8 20), (.int .u8 31), (.int .u8 10), (.int .u8 25), (.int .u8 14), (.int .u8 19), (.int .u8 9), (.int .u8 13), (.int .u8 8), (.int .u8 7), (.int .u8 6)] e0 false)]⟩)
theorem plC : Bpl = .seq (codeAt [0] Bpl) (codeAt [1] Bpl) := by kernel_rfl
noncomputable def plS1 (w : Int) (b : Int) (e0 : TypeId) : KSt := ⟨(frameL 22 [(0, (.int .u64 w)), (1, (.int .i64 b))]), ⟨1, 1, [(0, 0, .cells [(.int .u8 0), (.int .u8 1), (.int .u8 56), (.int .u8 2), (.int .u8 57), (.int .u8 49), (.int .u8 28), (.int .u8 3), (.int .u8 61), (.int .u8 58), (.int .u8 42), (.int .u8 50), (.int .u8 38), (.int .u8 29), (.int .u8 17), (.int .u8 4), (.int .u8 62), (.int .u8 47), (.int .u8 59), (.int .u8 36), (.int .u8 45), (.int .u8 43), (.int .u8 51), (.int .u8 22), (.int .u8 53), (.int .u8 39), (.int .u8 33), (.int .u8 30), (.int .u8 24), (.int .u8 18), (.int .u8 12), (.int .u8 5), (.int .u8 63), (.int .u8 55), (.int .u8 48), (.int .u8 27), (.int .u8 60), (.int .u8 41), (.int .u8 37), (.int .u8 16), (.int .u8 46), (.int .u8 35), (.int .u8 44), (.int .u8 21), (.int .u8 52), (.int .u8 32), (.int .u8 23), (.int .u8 11), (.int .u8 54), (.int .u8 26), (.int .u8 40), (.int .u8 15), (.int .u8 34), (.int .u8 20), (.int .u8 31), (.int .u8 10), (.int .u8 25), (.int .u8 14), (.int .u8 19), (.int .u8 9), (.int .u8 13), (.int .u8 8), (.int .u8 7), (.int .u8 6)] e0 false)]⟩⟩
theorem plR1 (w : Int) (b : Int) (e0 : TypeId) : evCK Tryd.prog cfgT (runK Tryd.prog cfgT fsT (conT laneDom laneE) 12 40) 12 (codeAt [0] Bpl) (plS0 w b e0) (normC 1 [0, 1]) =
  some (.normal, (plS1 w b e0)) := by kernel_rfl
theorem plC1 : (codeAt [1] Bpl) = .seq (codeAt [1, 0] Bpl) (codeAt [1, 1] Bpl) := by kernel_rfl
noncomputable def plS2 (w : Int) (b : Int) (e0 : TypeId) : KSt := ⟨(frameL 22 [(0, (.int .u64 w)), (1, (.int .i64 b)), (5, (.slice (some ⟨1, 0, none⟩) 0 0))]), ⟨2, 1, [(1, 0, .cells [] 3 true), (0, 0, .cells [(.int .u8 0), (.int .u8 1), (.int .u8 56), (.int .u8 2), (.int .u8 57), (.int .u8 49), (.int .u8 28), (.int .u8 3), (.int .u8 61), (.int .u8 58), (.int .u8 42), (.int .u8 50), (.int .u8 38), (.int .u8 29), (.int .u8 17), (.int .u8 4), (.int .u8 62), (.int .u8 47), (.int .u8 59), (.int .u8 36), (.int .u8 45), (.int .u8 43), (.int .u8 51), (.int .u8 22), (.int .u8 53), (.int .u8 39), (.int .u8 33), (.int .u8 30), (.int .u8 24), (.int .u8 18), (.int .u8 12), (.int .u8 5), (.int .u8 63), (.int .u8 55), (.int .u8 48), (.int .u8 27), (.int .u8 60), (.int .u8 41), (.int .u8 37), (.int .u8 16), (.int .u8 46), (.int .u8 35), (.int .u8 44), (.int .u8 21), (.int .u8 52), (.int .u8 32), (.int .u8 23), (.int .u8 11), (.int .u8 54), (.int .u8 26), (.int .u8 40), (.int .u8 15), (.int .u8 34), (.int .u8 20), (.int .u8 31), (.int .u8 10), (.int .u8 25), (.int .u8 14), (.int .u8 19), (.int .u8 9), (.int .u8 13), (.int .u8 8), (.int .u8 7), (.int .u8 6)] e0 false)]⟩⟩
theorem plR2 (w : Int) (b : Int) (e0 : TypeId) : evCK Tryd.prog cfgT (runK Tryd.prog cfgT fsT (conT laneDom laneE) 12 40) 12 (codeAt [1, 0] Bpl) (plS1 w b e0) (normC 1 [0, 1, 5]) =
  some (.normal, (plS2 w b e0)) := by kernel_rfl
theorem plC1_1 : (codeAt [1, 1] Bpl) = .seq (codeAt [1, 1, 0] Bpl) (codeAt [1, 1, 1] Bpl) := by kernel_rfl
theorem plC1_1_0 : (codeAt [1, 1, 0] Bpl) = .seq (codeAt [1, 1, 0, 0] Bpl) (codeAt [1, 1, 0, 1] Bpl) := by kernel_rfl
noncomputable def plS3 (w : Int) (b : Int) (e0 : TypeId) : KSt := ⟨(frameL 22 [(0, (.int .u64 w)), (1, (.int .i64 b)), (5, (.slice (some ⟨1, 0, none⟩) 0 0)), (6, (.int .i64 0))]), ⟨2, 1, [(1, 0, .cells [] 3 true), (0, 0, .cells [(.int .u8 0), (.int .u8 1), (.int .u8 56), (.int .u8 2), (.int .u8 57), (.int .u8 49), (.int .u8 28), (.int .u8 3), (.int .u8 61), (.int .u8 58), (.int .u8 42), (.int .u8 50), (.int .u8 38), (.int .u8 29), (.int .u8 17), (.int .u8 4), (.int .u8 62), (.int .u8 47), (.int .u8 59), (.int .u8 36), (.int .u8 45), (.int .u8 43), (.int .u8 51), (.int .u8 22), (.int .u8 53), (.int .u8 39), (.int .u8 33), (.int .u8 30), (.int .u8 24), (.int .u8 18), (.int .u8 12), (.int .u8 5), (.int .u8 63), (.int .u8 55), (.int .u8 48), (.int .u8 27), (.int .u8 60), (.int .u8 41), (.int .u8 37), (.int .u8 16), (.int .u8 46), (.int .u8 35), (.int .u8 44), (.int .u8 21), (.int .u8 52), (.int .u8 32), (.int .u8 23), (.int .u8 11), (.int .u8 54), (.int .u8 26), (.int .u8 40), (.int .u8 15), (.int .u8 34), (.int .u8 20), (.int .u8 31), (.int .u8 10), (.int .u8 25), (.int .u8 14), (.int .u8 19), (.int .u8 9), (.int .u8 13), (.int .u8 8), (.int .u8 7), (.int .u8 6)] e0 false)]⟩⟩
theorem plR3 (w : Int) (b : Int) (e0 : TypeId) : evCK Tryd.prog cfgT (runK Tryd.prog cfgT fsT (conT laneDom laneE) 12 40) 12 (codeAt [1, 1, 0, 0] Bpl) (plS2 w b e0) (normC 1 [0, 1, 5, 6]) =
  some (.normal, (plS3 w b e0)) := by kernel_rfl
theorem plpre (w b k : Int) (m : Nat) (L : List Int) (e0 : TypeId)   {Q : Ex → St → Prop} (hq : Gets Tryd.prog (varH .u8 tz e0).low (codeAt [1, 1, 0, 1] Bpl) (KSt.low (plS3 w b e0)) (onN (fun s => Gets Tryd.prog (varH .u8 tz e0).low (codeAt [1, 1, 1] Bpl) s (Q)) (Q))) : Gets Tryd.prog (varH .u8 tz e0).low Bpl (KSt.low (plS0 w b e0)) Q := by
  rw [plC]; refine Gets.seq ?_
  refine Gets.ofN fitT lane_sound (conT_agree _ _) 12 40 (by kernel_rfl) (x := .normal) (s' := (plS1 w b e0)) (plR1 w b e0) ?_
  show Gets _ _ (codeAt [1] Bpl) _ _
  rw [plC1]; refine Gets.seq ?_
  refine Gets.ofN fitT lane_sound (conT_agree _ _) 12 40 (by kernel_rfl) (x := .normal) (s' := (plS2 w b e0)) (plR2 w b e0) ?_
  show Gets _ _ (codeAt [1, 1] Bpl) _ _
  rw [plC1_1]; refine Gets.seq ?_
  rw [plC1_1_0]; refine Gets.seq ?_
  refine Gets.ofN fitT lane_sound (conT_agree _ _) 12 40 (by kernel_rfl) (x := .normal) (s' := (plS3 w b e0)) (plR3 w b e0) ?_
  show Gets _ _ (codeAt [1, 1, 0, 1] Bpl) _ _
  exact hq
noncomputable def plS4 (w : Int) (b : Int) (k : Int) (e0 : TypeId) : KSt := ⟨(frameL 22 [(0, (.int .u64 w)), (1, (.int .i64 b)), (5, (.slice (some ⟨1, 0, none⟩) 0 0)), (6, (.int .i64 k))]), ⟨2, 1, [(1, 0, .cells [] 3 true), (0, 0, .cells [(.int .u8 0), (.int .u8 1), (.int .u8 56), (.int .u8 2), (.int .u8 57), (.int .u8 49), (.int .u8 28), (.int .u8 3), (.int .u8 61), (.int .u8 58), (.int .u8 42), (.int .u8 50), (.int .u8 38), (.int .u8 29), (.int .u8 17), (.int .u8 4), (.int .u8 62), (.int .u8 47), (.int .u8 59), (.int .u8 36), (.int .u8 45), (.int .u8 43), (.int .u8 51), (.int .u8 22), (.int .u8 53), (.int .u8 39), (.int .u8 33), (.int .u8 30), (.int .u8 24), (.int .u8 18), (.int .u8 12), (.int .u8 5), (.int .u8 63), (.int .u8 55), (.int .u8 48), (.int .u8 27), (.int .u8 60), (.int .u8 41), (.int .u8 37), (.int .u8 16), (.int .u8 46), (.int .u8 35), (.int .u8 44), (.int .u8 21), (.int .u8 52), (.int .u8 32), (.int .u8 23), (.int .u8 11), (.int .u8 54), (.int .u8 26), (.int .u8 40), (.int .u8 15), (.int .u8 34), (.int .u8 20), (.int .u8 31), (.int .u8 10), (.int .u8 25), (.int .u8 14), (.int .u8 19), (.int .u8 9), (.int .u8 13), (.int .u8 8), (.int .u8 7), (.int .u8 6)] e0 false)]⟩⟩
theorem plC1_1_0_1_0_0 : (codeAt [1, 1, 0, 1, 0, 0] Bpl) = .seq (codeAt [1, 1, 0, 1, 0, 0, 0] Bpl) (codeAt [1, 1, 0, 1, 0, 0, 1] Bpl) := by kernel_rfl
theorem plC1_1_0_1_0_0_0 : (codeAt [1, 1, 0, 1, 0, 0, 0] Bpl) = .seq (codeAt [1, 1, 0, 1, 0, 0, 0, 0] Bpl) (codeAt [1, 1, 0, 1, 0, 0, 0, 1] Bpl) := by kernel_rfl
noncomputable def plS5 (w : Int) (b : Int) (k : Int) (e0 : TypeId) : KSt := ⟨(frameL 22 [(0, (.int .u64 w)), (1, (.int .i64 b)), (5, (.slice (some ⟨1, 0, none⟩) 0 0)), (6, (.int .i64 k)), (9, (.bool (decide (k < 8))))]), ⟨2, 1, [(1, 0, .cells [] 3 true), (0, 0, .cells [(.int .u8 0), (.int .u8 1), (.int .u8 56), (.int .u8 2), (.int .u8 57), (.int .u8 49), (.int .u8 28), (.int .u8 3), (.int .u8 61), (.int .u8 58), (.int .u8 42), (.int .u8 50), (.int .u8 38), (.int .u8 29), (.int .u8 17), (.int .u8 4), (.int .u8 62), (.int .u8 47), (.int .u8 59), (.int .u8 36), (.int .u8 45), (.int .u8 43), (.int .u8 51), (.int .u8 22), (.int .u8 53), (.int .u8 39), (.int .u8 33), (.int .u8 30), (.int .u8 24), (.int .u8 18), (.int .u8 12), (.int .u8 5), (.int .u8 63), (.int .u8 55), (.int .u8 48), (.int .u8 27), (.int .u8 60), (.int .u8 41), (.int .u8 37), (.int .u8 16), (.int .u8 46), (.int .u8 35), (.int .u8 44), (.int .u8 21), (.int .u8 52), (.int .u8 32), (.int .u8 23), (.int .u8 11), (.int .u8 54), (.int .u8 26), (.int .u8 40), (.int .u8 15), (.int .u8 34), (.int .u8 20), (.int .u8 31), (.int .u8 10), (.int .u8 25), (.int .u8 14), (.int .u8 19), (.int .u8 9), (.int .u8 13), (.int .u8 8), (.int .u8 7), (.int .u8 6)] e0 false)]⟩⟩
theorem plR4 (w : Int) (b : Int) (k : Int) (e0 : TypeId) : evCK Tryd.prog cfgT (runK Tryd.prog cfgT fsT (conT laneDom laneE) 12 40) 12 (codeAt [1, 1, 0, 1, 0, 0, 0, 0] Bpl) (plS4 w b k e0) (normC 1 [0, 1, 5, 6, 9]) =
  some (.normal, (plS5 w b k e0)) := by kernel_rfl
theorem plC1_1_0_1_0_0_0_1 : (codeAt [1, 1, 0, 1, 0, 0, 0, 1] Bpl) = .cond (.tmp 9) (codeAt [1, 1, 0, 1, 0, 0, 0, 1, 0] Bpl) (codeAt [1, 1, 0, 1, 0, 0, 0, 1, 1] Bpl) := by kernel_rfl
theorem plR5 (w : Int) (b : Int) (k : Int) (e0 : TypeId) : evCK Tryd.prog cfgT (runK Tryd.prog cfgT fsT (conT laneDom laneE) 12 40) 12 (codeAt [1, 1, 0, 1, 0, 0, 0, 1, 0] Bpl) (plS5 w b k e0) (normC 1 [0, 1, 5, 6]) =
  some (.normal, (plS4 w b k e0)) := by kernel_rfl
theorem plC1_1_0_1_0_0_1 : (codeAt [1, 1, 0, 1, 0, 0, 1] Bpl) = .seq (codeAt [1, 1, 0, 1, 0, 0, 1, 0] Bpl) (codeAt [1, 1, 0, 1, 0, 0, 1, 1] Bpl) := by kernel_rfl
theorem plC1_1_0_1_0_0_1_0 : (codeAt [1, 1, 0, 1, 0, 0, 1, 0] Bpl) = .block 1 (codeAt [1, 1, 0, 1, 0, 0, 1, 0, 0] Bpl) := by kernel_rfl
theorem plC1_1_0_1_0_0_1_0_0 : (codeAt [1, 1, 0, 1, 0, 0, 1, 0, 0] Bpl) = .seq (codeAt [1, 1, 0, 1, 0, 0, 1, 0, 0, 0] Bpl) (codeAt [1, 1, 0, 1, 0, 0, 1, 0, 0, 1] Bpl) := by kernel_rfl
noncomputable def plS6 (w : Int) (b : Int) (k : Int) (e0 : TypeId) : KSt := ⟨(frameL 22 [(0, (.int .u64 w)), (1, (.int .i64 b)), (5, (.slice (some ⟨1, 0, none⟩) 0 0)), (6, (.int .i64 k)), (16, (.bool ((byteRV w k) == b)))]), ⟨2, 1, [(1, 0, .cells [] 3 true), (0, 0, .cells [(.int .u8 0), (.int .u8 1), (.int .u8 56), (.int .u8 2), (.int .u8 57), (.int .u8 49), (.int .u8 28), (.int .u8 3), (.int .u8 61), (.int .u8 58), (.int .u8 42), (.int .u8 50), (.int .u8 38), (.int .u8 29), (.int .u8 17), (.int .u8 4), (.int .u8 62), (.int .u8 47), (.int .u8 59), (.int .u8 36), (.int .u8 45), (.int .u8 43), (.int .u8 51), (.int .u8 22), (.int .u8 53), (.int .u8 39), (.int .u8 33), (.int .u8 30), (.int .u8 24), (.int .u8 18), (.int .u8 12), (.int .u8 5), (.int .u8 63), (.int .u8 55), (.int .u8 48), (.int .u8 27), (.int .u8 60), (.int .u8 41), (.int .u8 37), (.int .u8 16), (.int .u8 46), (.int .u8 35), (.int .u8 44), (.int .u8 21), (.int .u8 52), (.int .u8 32), (.int .u8 23), (.int .u8 11), (.int .u8 54), (.int .u8 26), (.int .u8 40), (.int .u8 15), (.int .u8 34), (.int .u8 20), (.int .u8 31), (.int .u8 10), (.int .u8 25), (.int .u8 14), (.int .u8 19), (.int .u8 9), (.int .u8 13), (.int .u8 8), (.int .u8 7), (.int .u8 6)] e0 false)]⟩⟩
theorem plR6 (w : Int) (b : Int) (k : Int) (e0 : TypeId) : evCK Tryd.prog cfgT (runK Tryd.prog cfgT fsT (conT laneDom laneE) 12 40) 12 (codeAt [1, 1, 0, 1, 0, 0, 1, 0, 0, 0] Bpl) (plS4 w b k e0) (normC 1 [0, 1, 5, 6, 16]) =
  some (.normal, (plS6 w b k e0)) := by kernel_rfl
theorem plC1_1_0_1_0_0_1_0_0_1 : (codeAt [1, 1, 0, 1, 0, 0, 1, 0, 0, 1] Bpl) = .cond (.tmp 16) (codeAt [1, 1, 0, 1, 0, 0, 1, 0, 0, 1, 0] Bpl) (codeAt [1, 1, 0, 1, 0, 0, 1, 0, 0, 1, 1] Bpl) := by kernel_rfl
theorem plR7 (w : Int) (b : Int) (k : Int) (e0 : TypeId) : evCK Tryd.prog cfgT (runK Tryd.prog cfgT fsT (conT laneDom laneE) 12 40) 12 (codeAt [1, 1, 0, 1, 0, 0, 1, 0, 0, 1, 1] Bpl) (plS6 w b k e0) (normC 1 [0, 1, 5, 6]) =
  some (.normal, (plS4 w b k e0)) := by kernel_rfl
noncomputable def plS7 (w : Int) (b : Int) (k : Int) (e0 : TypeId) : KSt := ⟨(frameL 22 [(0, (.int .u64 w)), (1, (.int .i64 b)), (5, (.slice (some ⟨1, 0, none⟩) 0 0)), (6, (.int .i64 (IntKind.wrap .i64 (k + 1))))]), ⟨2, 1, [(1, 0, .cells [] 3 true), (0, 0, .cells [(.int .u8 0), (.int .u8 1), (.int .u8 56), (.int .u8 2), (.int .u8 57), (.int .u8 49), (.int .u8 28), (.int .u8 3), (.int .u8 61), (.int .u8 58), (.int .u8 42), (.int .u8 50), (.int .u8 38), (.int .u8 29), (.int .u8 17), (.int .u8 4), (.int .u8 62), (.int .u8 47), (.int .u8 59), (.int .u8 36), (.int .u8 45), (.int .u8 43), (.int .u8 51), (.int .u8 22), (.int .u8 53), (.int .u8 39), (.int .u8 33), (.int .u8 30), (.int .u8 24), (.int .u8 18), (.int .u8 12), (.int .u8 5), (.int .u8 63), (.int .u8 55), (.int .u8 48), (.int .u8 27), (.int .u8 60), (.int .u8 41), (.int .u8 37), (.int .u8 16), (.int .u8 46), (.int .u8 35), (.int .u8 44), (.int .u8 21), (.int .u8 52), (.int .u8 32), (.int .u8 23), (.int .u8 11), (.int .u8 54), (.int .u8 26), (.int .u8 40), (.int .u8 15), (.int .u8 34), (.int .u8 20), (.int .u8 31), (.int .u8 10), (.int .u8 25), (.int .u8 14), (.int .u8 19), (.int .u8 9), (.int .u8 13), (.int .u8 8), (.int .u8 7), (.int .u8 6)] e0 false)]⟩⟩
theorem plR8 (w : Int) (b : Int) (k : Int) (e0 : TypeId) : evCK Tryd.prog cfgT (runK Tryd.prog cfgT fsT (conT laneDom laneE) 12 40) 12 (codeAt [1, 1, 0, 1, 0, 0, 1, 1] Bpl) (plS4 w b k e0) (normC 1 [0, 1, 5, 6]) =
  some (.normal, (plS7 w b k e0)) := by kernel_rfl
noncomputable def plS8 (w : Int) (b : Int) (k : Int) (e0 : TypeId) : KSt := ⟨(frameL 22 [(0, (.int .u64 w)), (1, (.int .i64 b)), (5, (.slice (some ⟨1, 0, none⟩) 0 0)), (6, (.int .i64 (k + 1)))]), ⟨2, 1, [(1, 0, .cells [] 3 true), (0, 0, .cells [(.int .u8 0), (.int .u8 1), (.int .u8 56), (.int .u8 2), (.int .u8 57), (.int .u8 49), (.int .u8 28), (.int .u8 3), (.int .u8 61), (.int .u8 58), (.int .u8 42), (.int .u8 50), (.int .u8 38), (.int .u8 29), (.int .u8 17), (.int .u8 4), (.int .u8 62), (.int .u8 47), (.int .u8 59), (.int .u8 36), (.int .u8 45), (.int .u8 43), (.int .u8 51), (.int .u8 22), (.int .u8 53), (.int .u8 39), (.int .u8 33), (.int .u8 30), (.int .u8 24), (.int .u8 18), (.int .u8 12), (.int .u8 5), (.int .u8 63), (.int .u8 55), (.int .u8 48), (.int .u8 27), (.int .u8 60), (.int .u8 41), (.int .u8 37), (.int .u8 16), (.int .u8 46), (.int .u8 35), (.int .u8 44), (.int .u8 21), (.int .u8 52), (.int .u8 32), (.int .u8 23), (.int .u8 11), (.int .u8 54), (.int .u8 26), (.int .u8 40), (.int .u8 15), (.int .u8 34), (.int .u8 20), (.int .u8 31), (.int .u8 10), (.int .u8 25), (.int .u8 14), (.int .u8 19), (.int .u8 9), (.int .u8 13), (.int .u8 8), (.int .u8 7), (.int .u8 6)] e0 false)]⟩⟩
theorem ple0 (w b k : Int) (m : Nat) (L : List Int) (e0 : TypeId) (hk : 0 ≤ k) (hk8 : k < 8) (hb : ((byteRV w k) == b) = false)   {Q : Ex → St → Prop} (hq : Q .normal (KSt.low (plS8 w b k e0))) : Gets Tryd.prog (varH .u8 tz e0).low (codeAt [1, 1, 0, 1, 0, 0] Bpl) (KSt.low (plS4 w b k e0)) Q := by
  rw [plC1_1_0_1_0_0]; refine Gets.seq ?_
  rw [plC1_1_0_1_0_0_0]; refine Gets.seq ?_
  refine Gets.ofN fitT lane_sound (conT_agree _ _) 12 40 (by kernel_rfl) (x := .normal) (s' := (plS5 w b k e0)) (plR4 w b k e0) ?_
  show Gets _ _ (codeAt [1, 1, 0, 1, 0, 0, 0, 1] Bpl) _ _
  rw [plC1_1_0_1_0_0_0_1]; refine Gets.cond true (by kernel_rfl) ((show evalX (KSt.ts (plS5 w b k e0)) (.tmp 9) = .bool (decide (k < 8)) by kernel_rfl).trans (by rw [(show (decide (k < 8)) = true from decide_eq_true (by omega))])) ?_; show Gets _ _ (codeAt [1, 1, 0, 1, 0, 0, 0, 1, 0] Bpl) _ _
  refine Gets.ofN fitT lane_sound (conT_agree _ _) 12 40 (by kernel_rfl) (x := .normal) (s' := (plS4 w b k e0)) (plR5 w b k e0) ?_
  show Gets _ _ (codeAt [1, 1, 0, 1, 0, 0, 1] Bpl) _ _
  rw [plC1_1_0_1_0_0_1]; refine Gets.seq ?_
  rw [plC1_1_0_1_0_0_1_0]; refine Gets.block ?_
  rw [plC1_1_0_1_0_0_1_0_0]; refine Gets.seq ?_
  refine Gets.ofN fitT lane_sound (conT_agree _ _) 12 40 (by kernel_rfl) (x := .normal) (s' := (plS6 w b k e0)) (plR6 w b k e0) ?_
  show Gets _ _ (codeAt [1, 1, 0, 1, 0, 0, 1, 0, 0, 1] Bpl) _ _
  rw [plC1_1_0_1_0_0_1_0_0_1]; refine Gets.cond false (by kernel_rfl) ((show evalX (KSt.ts (plS6 w b k e0)) (.tmp 16) = .bool ((byteRV w k) == b) by kernel_rfl).trans (by rw [(show ((byteRV w k) == b) = false from hb)])) ?_; show Gets _ _ (codeAt [1, 1, 0, 1, 0, 0, 1, 0, 0, 1, 1] Bpl) _ _
  refine Gets.ofN fitT lane_sound (conT_agree _ _) 12 40 (by kernel_rfl) (x := .normal) (s' := (plS4 w b k e0)) (plR7 w b k e0) ?_
  show Gets _ _ (codeAt [1, 1, 0, 1, 0, 0, 1, 1] Bpl) _ _
  refine Gets.ofN fitT lane_sound (conT_agree _ _) 12 40 (by kernel_rfl) (x := .normal) (s' := (plS8 w b k e0)) ((plR8 w b k e0).trans (by (show some (Ex.normal, (plS7 w b k e0)) = some (Ex.normal, (plS8 w b k e0)); unfold plS7 plS8; rw [(show (IntKind.wrap .i64 (k + 1)) = (k + 1) from wrap_i64_id (by omega) (by omega))]))) ?_
  exact hq
noncomputable def plS9 (w : Int) (b : Int) (k : Int) (e0 : TypeId) : KSt := ⟨(frameL 22 [(0, (.int .u64 w)), (1, (.int .i64 b)), (5, (.slice (some ⟨1, 0, none⟩) 1 1)), (6, (.int .i64 k))]), ⟨2, 1, [(1, 0, .cells [(.int .i64 k)] 3 true), (0, 0, .cells [(.int .u8 0), (.int .u8 1), (.int .u8 56), (.int .u8 2), (.int .u8 57), (.int .u8 49), (.int .u8 28), (.int .u8 3), (.int .u8 61), (.int .u8 58), (.int .u8 42), (.int .u8 50), (.int .u8 38), (.int .u8 29), (.int .u8 17), (.int .u8 4), (.int .u8 62), (.int .u8 47), (.int .u8 59), (.int .u8 36), (.int .u8 45), (.int .u8 43), (.int .u8 51), (.int .u8 22), (.int .u8 53), (.int .u8 39), (.int .u8 33), (.int .u8 30), (.int .u8 24), (.int .u8 18), (.int .u8 12), (.int .u8 5), (.int .u8 63), (.int .u8 55), (.int .u8 48), (.int .u8 27), (.int .u8 60), (.int .u8 41), (.int .u8 37), (.int .u8 16), (.int .u8 46), (.int .u8 35), (.int .u8 44), (.int .u8 21), (.int .u8 52), (.int .u8 32), (.int .u8 23), (.int .u8 11), (.int .u8 54), (.int .u8 26), (.int .u8 40), (.int .u8 15), (.int .u8 34), (.int .u8 20), (.int .u8 31), (.int .u8 10), (.int .u8 25), (.int .u8 14), (.int .u8 19), (.int .u8 9), (.int .u8 13), (.int .u8 8), (.int .u8 7), (.int .u8 6)] e0 false)]⟩⟩
theorem plR9 (w : Int) (b : Int) (k : Int) (e0 : TypeId) : evCK Tryd.prog cfgT (runK Tryd.prog cfgT fsT (conT laneDom laneE) 12 40) 12 (codeAt [1, 1, 0, 1, 0, 0, 1, 0, 0, 1, 0] Bpl) (plS6 w b k e0) (normC 1 [0, 1, 5, 6]) =
  some (.normal, (plS9 w b k e0)) := by kernel_rfl
noncomputable def plS10 (w : Int) (b : Int) (k : Int) (e0 : TypeId) : KSt := ⟨(frameL 22 [(0, (.int .u64 w)), (1, (.int .i64 b)), (5, (.slice (some ⟨1, 0, none⟩) 1 1)), (6, (.int .i64 (IntKind.wrap .i64 (k + 1))))]), ⟨2, 1, [(1, 0, .cells [(.int .i64 k)] 3 true), (0, 0, .cells [(.int .u8 0), (.int .u8 1), (.int .u8 56), (.int .u8 2), (.int .u8 57), (.int .u8 49), (.int .u8 28), (.int .u8 3), (.int .u8 61), (.int .u8 58), (.int .u8 42), (.int .u8 50), (.int .u8 38), (.int .u8 29), (.int .u8 17), (.int .u8 4), (.int .u8 62), (.int .u8 47), (.int .u8 59), (.int .u8 36), (.int .u8 45), (.int .u8 43), (.int .u8 51), (.int .u8 22), (.int .u8 53), (.int .u8 39), (.int .u8 33), (.int .u8 30), (.int .u8 24), (.int .u8 18), (.int .u8 12), (.int .u8 5), (.int .u8 63), (.int .u8 55), (.int .u8 48), (.int .u8 27), (.int .u8 60), (.int .u8 41), (.int .u8 37), (.int .u8 16), (.int .u8 46), (.int .u8 35), (.int .u8 44), (.int .u8 21), (.int .u8 52), (.int .u8 32), (.int .u8 23), (.int .u8 11), (.int .u8 54), (.int .u8 26), (.int .u8 40), (.int .u8 15), (.int .u8 34), (.int .u8 20), (.int .u8 31), (.int .u8 10), (.int .u8 25), (.int .u8 14), (.int .u8 19), (.int .u8 9), (.int .u8 13), (.int .u8 8), (.int .u8 7), (.int .u8 6)] e0 false)]⟩⟩
theorem plR10 (w : Int) (b : Int) (k : Int) (e0 : TypeId) : evCK Tryd.prog cfgT (runK Tryd.prog cfgT fsT (conT laneDom laneE) 12 40) 12 (codeAt [1, 1, 0, 1, 0, 0, 1, 1] Bpl) (plS9 w b k e0) (normC 1 [0, 1, 5, 6]) =
  some (.normal, (plS10 w b k e0)) := by kernel_rfl
noncomputable def plS11 (w : Int) (b : Int) (k : Int) (e0 : TypeId) : KSt := ⟨(frameL 22 [(0, (.int .u64 w)), (1, (.int .i64 b)), (5, (.slice (some ⟨1, 0, none⟩) 1 1)), (6, (.int .i64 (k + 1)))]), ⟨2, 1, [(1, 0, .cells [(.int .i64 k)] 3 true), (0, 0, .cells [(.int .u8 0), (.int .u8 1), (.int .u8 56), (.int .u8 2), (.int .u8 57), (.int .u8 49), (.int .u8 28), (.int .u8 3), (.int .u8 61), (.int .u8 58), (.int .u8 42), (.int .u8 50), (.int .u8 38), (.int .u8 29), (.int .u8 17), (.int .u8 4), (.int .u8 62), (.int .u8 47), (.int .u8 59), (.int .u8 36), (.int .u8 45), (.int .u8 43), (.int .u8 51), (.int .u8 22), (.int .u8 53), (.int .u8 39), (.int .u8 33), (.int .u8 30), (.int .u8 24), (.int .u8 18), (.int .u8 12), (.int .u8 5), (.int .u8 63), (.int .u8 55), (.int .u8 48), (.int .u8 27), (.int .u8 60), (.int .u8 41), (.int .u8 37), (.int .u8 16), (.int .u8 46), (.int .u8 35), (.int .u8 44), (.int .u8 21), (.int .u8 52), (.int .u8 32), (.int .u8 23), (.int .u8 11), (.int .u8 54), (.int .u8 26), (.int .u8 40), (.int .u8 15), (.int .u8 34), (.int .u8 20), (.int .u8 31), (.int .u8 10), (.int .u8 25), (.int .u8 14), (.int .u8 19), (.int .u8 9), (.int .u8 13), (.int .u8 8), (.int .u8 7), (.int .u8 6)] e0 false)]⟩⟩
theorem ple1 (w b k : Int) (m : Nat) (L : List Int) (e0 : TypeId) (hk : 0 ≤ k) (hk8 : k < 8) (hb : ((byteRV w k) == b) = true)   {Q : Ex → St → Prop} (hq : Q .normal (KSt.low (plS11 w b k e0))) : Gets Tryd.prog (varH .u8 tz e0).low (codeAt [1, 1, 0, 1, 0, 0] Bpl) (KSt.low (plS4 w b k e0)) Q := by
  rw [plC1_1_0_1_0_0]; refine Gets.seq ?_
  rw [plC1_1_0_1_0_0_0]; refine Gets.seq ?_
  refine Gets.ofN fitT lane_sound (conT_agree _ _) 12 40 (by kernel_rfl) (x := .normal) (s' := (plS5 w b k e0)) (plR4 w b k e0) ?_
  show Gets _ _ (codeAt [1, 1, 0, 1, 0, 0, 0, 1] Bpl) _ _
  rw [plC1_1_0_1_0_0_0_1]; refine Gets.cond true (by kernel_rfl) ((show evalX (KSt.ts (plS5 w b k e0)) (.tmp 9) = .bool (decide (k < 8)) by kernel_rfl).trans (by rw [(show (decide (k < 8)) = true from decide_eq_true (by omega))])) ?_; show Gets _ _ (codeAt [1, 1, 0, 1, 0, 0, 0, 1, 0] Bpl) _ _
  refine Gets.ofN fitT lane_sound (conT_agree _ _) 12 40 (by kernel_rfl) (x := .normal) (s' := (plS4 w b k e0)) (plR5 w b k e0) ?_
  show Gets _ _ (codeAt [1, 1, 0, 1, 0, 0, 1] Bpl) _ _
  rw [plC1_1_0_1_0_0_1]; refine Gets.seq ?_
  rw [plC1_1_0_1_0_0_1_0]; refine Gets.block ?_
  rw [plC1_1_0_1_0_0_1_0_0]; refine Gets.seq ?_
  refine Gets.ofN fitT lane_sound (conT_agree _ _) 12 40 (by kernel_rfl) (x := .normal) (s' := (plS6 w b k e0)) (plR6 w b k e0) ?_
  show Gets _ _ (codeAt [1, 1, 0, 1, 0, 0, 1, 0, 0, 1] Bpl) _ _
  rw [plC1_1_0_1_0_0_1_0_0_1]; refine Gets.cond true (by kernel_rfl) ((show evalX (KSt.ts (plS6 w b k e0)) (.tmp 16) = .bool ((byteRV w k) == b) by kernel_rfl).trans (by rw [(show ((byteRV w k) == b) = true from hb)])) ?_; show Gets _ _ (codeAt [1, 1, 0, 1, 0, 0, 1, 0, 0, 1, 0] Bpl) _ _
  refine Gets.ofN fitT lane_sound (conT_agree _ _) 12 40 (by kernel_rfl) (x := .normal) (s' := (plS9 w b k e0)) (plR9 w b k e0) ?_
  show Gets _ _ (codeAt [1, 1, 0, 1, 0, 0, 1, 1] Bpl) _ _
  refine Gets.ofN fitT lane_sound (conT_agree _ _) 12 40 (by kernel_rfl) (x := .normal) (s' := (plS11 w b k e0)) ((plR10 w b k e0).trans (by (show some (Ex.normal, (plS10 w b k e0)) = some (Ex.normal, (plS11 w b k e0)); unfold plS10 plS11; rw [(show (IntKind.wrap .i64 (k + 1)) = (k + 1) from wrap_i64_id (by omega) (by omega))]))) ?_
  exact hq
noncomputable def plS12 (w : Int) (b : Int) (m : Nat) (k : Int) (L : List Int) (e0 : TypeId) : KSt := ⟨(frameL 22 [(0, (.int .u64 w)), (1, (.int .i64 b)), (5, (.slice (some ⟨1, 0, none⟩) m m)), (6, (.int .i64 k))]), ⟨2, 1, [(1, 0, .ints .i64 L 3 true), (0, 0, .cells [(.int .u8 0), (.int .u8 1), (.int .u8 56), (.int .u8 2), (.int .u8 57), (.int .u8 49), (.int .u8 28), (.int .u8 3), (.int .u8 61), (.int .u8 58), (.int .u8 42), (.int .u8 50), (.int .u8 38), (.int .u8 29), (.int .u8 17), (.int .u8 4), (.int .u8 62), (.int .u8 47), (.int .u8 59), (.int .u8 36), (.int .u8 45), (.int .u8 43), (.int .u8 51), (.int .u8 22), (.int .u8 53), (.int .u8 39), (.int .u8 33), (.int .u8 30), (.int .u8 24), (.int .u8 18), (.int .u8 12), (.int .u8 5), (.int .u8 63), (.int .u8 55), (.int .u8 48), (.int .u8 27), (.int .u8 60), (.int .u8 41), (.int .u8 37), (.int .u8 16), (.int .u8 46), (.int .u8 35), (.int .u8 44), (.int .u8 21), (.int .u8 52), (.int .u8 32), (.int .u8 23), (.int .u8 11), (.int .u8 54), (.int .u8 26), (.int .u8 40), (.int .u8 15), (.int .u8 34), (.int .u8 20), (.int .u8 31), (.int .u8 10), (.int .u8 25), (.int .u8 14), (.int .u8 19), (.int .u8 9), (.int .u8 13), (.int .u8 8), (.int .u8 7), (.int .u8 6)] e0 false)]⟩⟩
noncomputable def plS13 (w : Int) (b : Int) (m : Nat) (k : Int) (L : List Int) (e0 : TypeId) : KSt := ⟨(frameL 22 [(0, (.int .u64 w)), (1, (.int .i64 b)), (5, (.slice (some ⟨1, 0, none⟩) m m)), (6, (.int .i64 k)), (9, (.bool (decide (k < 8))))]), ⟨2, 1, [(1, 0, .ints .i64 L 3 true), (0, 0, .cells [(.int .u8 0), (.int .u8 1), (.int .u8 56), (.int .u8 2), (.int .u8 57), (.int .u8 49), (.int .u8 28), (.int .u8 3), (.int .u8 61), (.int .u8 58), (.int .u8 42), (.int .u8 50), (.int .u8 38), (.int .u8 29), (.int .u8 17), (.int .u8 4), (.int .u8 62), (.int .u8 47), (.int .u8 59), (.int .u8 36), (.int .u8 45), (.int .u8 43), (.int .u8 51), (.int .u8 22), (.int .u8 53), (.int .u8 39), (.int .u8 33), (.int .u8 30), (.int .u8 24), (.int .u8 18), (.int .u8 12), (.int .u8 5), (.int .u8 63), (.int .u8 55), (.int .u8 48), (.int .u8 27), (.int .u8 60), (.int .u8 41), (.int .u8 37), (.int .u8 16), (.int .u8 46), (.int .u8 35), (.int .u8 44), (.int .u8 21), (.int .u8 52), (.int .u8 32), (.int .u8 23), (.int .u8 11), (.int .u8 54), (.int .u8 26), (.int .u8 40), (.int .u8 15), (.int .u8 34), (.int .u8 20), (.int .u8 31), (.int .u8 10), (.int .u8 25), (.int .u8 14), (.int .u8 19), (.int .u8 9), (.int .u8 13), (.int .u8 8), (.int .u8 7), (.int .u8 6)] e0 false)]⟩⟩
theorem plR11 (w : Int) (b : Int) (m : Nat) (k : Int) (L : List Int) (e0 : TypeId) : evCK Tryd.prog cfgT (runK Tryd.prog cfgT fsT (conT laneDom laneE) 12 40) 12 (codeAt [1, 1, 0, 1, 0, 0, 0, 0] Bpl) (plS12 w b m k L e0) (normC 1 [0, 1, 5, 6, 9]) =
  some (.normal, (plS13 w b m k L e0)) := by kernel_rfl
theorem plR12 (w : Int) (b : Int) (m : Nat) (k : Int) (L : List Int) (e0 : TypeId) : evCK Tryd.prog cfgT (runK Tryd.prog cfgT fsT (conT laneDom laneE) 12 40) 12 (codeAt [1, 1, 0, 1, 0, 0, 0, 1, 0] Bpl) (plS13 w b m k L e0) (normC 1 [0, 1, 5, 6]) =
  some (.normal, (plS12 w b m k L e0)) := by kernel_rfl
noncomputable def plS14 (w : Int) (b : Int) (m : Nat) (k : Int) (L : List Int) (e0 : TypeId) : KSt := ⟨(frameL 22 [(0, (.int .u64 w)), (1, (.int .i64 b)), (5, (.slice (some ⟨1, 0, none⟩) m m)), (6, (.int .i64 k)), (16, (.bool ((byteRV w k) == b)))]), ⟨2, 1, [(1, 0, .ints .i64 L 3 true), (0, 0, .cells [(.int .u8 0), (.int .u8 1), (.int .u8 56), (.int .u8 2), (.int .u8 57), (.int .u8 49), (.int .u8 28), (.int .u8 3), (.int .u8 61), (.int .u8 58), (.int .u8 42), (.int .u8 50), (.int .u8 38), (.int .u8 29), (.int .u8 17), (.int .u8 4), (.int .u8 62), (.int .u8 47), (.int .u8 59), (.int .u8 36), (.int .u8 45), (.int .u8 43), (.int .u8 51), (.int .u8 22), (.int .u8 53), (.int .u8 39), (.int .u8 33), (.int .u8 30), (.int .u8 24), (.int .u8 18), (.int .u8 12), (.int .u8 5), (.int .u8 63), (.int .u8 55), (.int .u8 48), (.int .u8 27), (.int .u8 60), (.int .u8 41), (.int .u8 37), (.int .u8 16), (.int .u8 46), (.int .u8 35), (.int .u8 44), (.int .u8 21), (.int .u8 52), (.int .u8 32), (.int .u8 23), (.int .u8 11), (.int .u8 54), (.int .u8 26), (.int .u8 40), (.int .u8 15), (.int .u8 34), (.int .u8 20), (.int .u8 31), (.int .u8 10), (.int .u8 25), (.int .u8 14), (.int .u8 19), (.int .u8 9), (.int .u8 13), (.int .u8 8), (.int .u8 7), (.int .u8 6)] e0 false)]⟩⟩
theorem plR13 (w : Int) (b : Int) (m : Nat) (k : Int) (L : List Int) (e0 : TypeId) : evCK Tryd.prog cfgT (runK Tryd.prog cfgT fsT (conT laneDom laneE) 12 40) 12 (codeAt [1, 1, 0, 1, 0, 0, 1, 0, 0, 0] Bpl) (plS12 w b m k L e0) (normC 1 [0, 1, 5, 6, 16]) =
  some (.normal, (plS14 w b m k L e0)) := by kernel_rfl
theorem plR14 (w : Int) (b : Int) (m : Nat) (k : Int) (L : List Int) (e0 : TypeId) : evCK Tryd.prog cfgT (runK Tryd.prog cfgT fsT (conT laneDom laneE) 12 40) 12 (codeAt [1, 1, 0, 1, 0, 0, 1, 0, 0, 1, 1] Bpl) (plS14 w b m k L e0) (normC 1 [0, 1, 5, 6]) =
  some (.normal, (plS12 w b m k L e0)) := by kernel_rfl
noncomputable def plS15 (w : Int) (b : Int) (m : Nat) (k : Int) (L : List Int) (e0 : TypeId) : KSt := ⟨(frameL 22 [(0, (.int .u64 w)), (1, (.int .i64 b)), (5, (.slice (some ⟨1, 0, none⟩) m m)), (6, (.int .i64 (IntKind.wrap .i64 (k + 1))))]), ⟨2, 1, [(1, 0, .ints .i64 L 3 true), (0, 0, .cells [(.int .u8 0), (.int .u8 1), (.int .u8 56), (.int .u8 2), (.int .u8 57), (.int .u8 49), (.int .u8 28), (.int .u8 3), (.int .u8 61), (.int .u8 58), (.int .u8 42), (.int .u8 50), (.int .u8 38), (.int .u8 29), (.int .u8 17), (.int .u8 4), (.int .u8 62), (.int .u8 47), (.int .u8 59), (.int .u8 36), (.int .u8 45), (.int .u8 43), (.int .u8 51), (.int .u8 22), (.int .u8 53), (.int .u8 39), (.int .u8 33), (.int .u8 30), (.int .u8 24), (.int .u8 18), (.int .u8 12), (.int .u8 5), (.int .u8 63), (.int .u8 55), (.int .u8 48), (.int .u8 27), (.int .u8 60), (.int .u8 41), (.int .u8 37), (.int .u8 16), (.int .u8 46), (.int .u8 35), (.int .u8 44), (.int .u8 21), (.int .u8 52), (.int .u8 32), (.int .u8 23), (.int .u8 11), (.int .u8 54), (.int .u8 26), (.int .u8 40), (.int .u8 15), (.int .u8 34), (.int .u8 20), (.int .u8 31), (.int .u8 10), (.int .u8 25), (.int .u8 14), (.int .u8 19), (.int .u8 9), (.int .u8 13), (.int .u8 8), (.int .u8 7), (.int .u8 6)] e0 false)]⟩⟩
theorem plR15 (w : Int) (b : Int) (m : Nat) (k : Int) (L : List Int) (e0 : TypeId) : evCK Tryd.prog cfgT (runK Tryd.prog cfgT fsT (conT laneDom laneE) 12 40) 12 (codeAt [1, 1, 0, 1, 0, 0, 1, 1] Bpl) (plS12 w b m k L e0) (normC 1 [0, 1, 5, 6]) =
  some (.normal, (plS15 w b m k L e0)) := by kernel_rfl
noncomputable def plS16 (w : Int) (b : Int) (m : Nat) (k : Int) (L : List Int) (e0 : TypeId) : KSt := ⟨(frameL 22 [(0, (.int .u64 w)), (1, (.int .i64 b)), (5, (.slice (some ⟨1, 0, none⟩) m m)), (6, (.int .i64 (k + 1)))]), ⟨2, 1, [(1, 0, .ints .i64 L 3 true), (0, 0, .cells [(.int .u8 0), (.int .u8 1), (.int .u8 56), (.int .u8 2), (.int .u8 57), (.int .u8 49), (.int .u8 28), (.int .u8 3), (.int .u8 61), (.int .u8 58), (.int .u8 42), (.int .u8 50), (.int .u8 38), (.int .u8 29), (.int .u8 17), (.int .u8 4), (.int .u8 62), (.int .u8 47), (.int .u8 59), (.int .u8 36), (.int .u8 45), (.int .u8 43), (.int .u8 51), (.int .u8 22), (.int .u8 53), (.int .u8 39), (.int .u8 33), (.int .u8 30), (.int .u8 24), (.int .u8 18), (.int .u8 12), (.int .u8 5), (.int .u8 63), (.int .u8 55), (.int .u8 48), (.int .u8 27), (.int .u8 60), (.int .u8 41), (.int .u8 37), (.int .u8 16), (.int .u8 46), (.int .u8 35), (.int .u8 44), (.int .u8 21), (.int .u8 52), (.int .u8 32), (.int .u8 23), (.int .u8 11), (.int .u8 54), (.int .u8 26), (.int .u8 40), (.int .u8 15), (.int .u8 34), (.int .u8 20), (.int .u8 31), (.int .u8 10), (.int .u8 25), (.int .u8 14), (.int .u8 19), (.int .u8 9), (.int .u8 13), (.int .u8 8), (.int .u8 7), (.int .u8 6)] e0 false)]⟩⟩
theorem pln0 (w b k : Int) (m : Nat) (L : List Int) (e0 : TypeId) (hk : 0 ≤ k) (hk8 : k < 8) (hm : L.length = m) (hm1 : 1 ≤ m) (hm8 : m ≤ 8) (hb : ((byteRV w k) == b) = false)   {Q : Ex → St → Prop} (hq : Q .normal (KSt.low (plS16 w b m k L e0))) : Gets Tryd.prog (varH .u8 tz e0).low (codeAt [1, 1, 0, 1, 0, 0] Bpl) (KSt.low (plS12 w b m k L e0)) Q := by
  rw [plC1_1_0_1_0_0]; refine Gets.seq ?_
  rw [plC1_1_0_1_0_0_0]; refine Gets.seq ?_
  refine Gets.ofN fitT lane_sound (conT_agree _ _) 12 40 (by kernel_rfl) (x := .normal) (s' := (plS13 w b m k L e0)) (plR11 w b m k L e0) ?_
  show Gets _ _ (codeAt [1, 1, 0, 1, 0, 0, 0, 1] Bpl) _ _
  rw [plC1_1_0_1_0_0_0_1]; refine Gets.cond true (by kernel_rfl) ((show evalX (KSt.ts (plS13 w b m k L e0)) (.tmp 9) = .bool (decide (k < 8)) by kernel_rfl).trans (by rw [(show (decide (k < 8)) = true from decide_eq_true (by omega))])) ?_; show Gets _ _ (codeAt [1, 1, 0, 1, 0, 0, 0, 1, 0] Bpl) _ _
  refine Gets.ofN fitT lane_sound (conT_agree _ _) 12 40 (by kernel_rfl) (x := .normal) (s' := (plS12 w b m k L e0)) (plR12 w b m k L e0) ?_
  show Gets _ _ (codeAt [1, 1, 0, 1, 0, 0, 1] Bpl) _ _
  rw [plC1_1_0_1_0_0_1]; refine Gets.seq ?_
  rw [plC1_1_0_1_0_0_1_0]; refine Gets.block ?_
  rw [plC1_1_0_1_0_0_1_0_0]; refine Gets.seq ?_
  refine Gets.ofN fitT lane_sound (conT_agree _ _) 12 40 (by kernel_rfl) (x := .normal) (s' := (plS14 w b m k L e0)) (plR13 w b m k L e0) ?_
  show Gets _ _ (codeAt [1, 1, 0, 1, 0, 0, 1, 0, 0, 1] Bpl) _ _
  rw [plC1_1_0_1_0_0_1_0_0_1]; refine Gets.cond false (by kernel_rfl) ((show evalX (KSt.ts (plS14 w b m k L e0)) (.tmp 16) = .bool ((byteRV w k) == b) by kernel_rfl).trans (by rw [(show ((byteRV w k) == b) = false from hb)])) ?_; show Gets _ _ (codeAt [1, 1, 0, 1, 0, 0, 1, 0, 0, 1, 1] Bpl) _ _
  refine Gets.ofN fitT lane_sound (conT_agree _ _) 12 40 (by kernel_rfl) (x := .normal) (s' := (plS12 w b m k L e0)) (plR14 w b m k L e0) ?_
  show Gets _ _ (codeAt [1, 1, 0, 1, 0, 0, 1, 1] Bpl) _ _
  refine Gets.ofN fitT lane_sound (conT_agree _ _) 12 40 (by kernel_rfl) (x := .normal) (s' := (plS16 w b m k L e0)) ((plR15 w b m k L e0).trans (by (show some (Ex.normal, (plS15 w b m k L e0)) = some (Ex.normal, (plS16 w b m k L e0)); unfold plS15 plS16; rw [(show (IntKind.wrap .i64 (k + 1)) = (k + 1) from wrap_i64_id (by omega) (by omega))]))) ?_
  exact hq
noncomputable def plS17 (w : Int) (b : Int) (m : Nat) (k : Int) (L : List Int) (e0 : TypeId) : KSt := ⟨(frameL 22 [(0, (.int .u64 w)), (1, (.int .i64 b)), (5, (.slice (some ⟨1, 0, none⟩) (m + 1) m)), (6, (.int .i64 k))]), ⟨2, 1, [(1, 0, .ints .i64 ((List.take (0 + m) L ++ [k] ++ List.drop ((0 + m) + (List.length [k])) L)) 3 true), (0, 0, .cells [(.int .u8 0), (.int .u8 1), (.int .u8 56), (.int .u8 2), (.int .u8 57), (.int .u8 49), (.int .u8 28), (.int .u8 3), (.int .u8 61), (.int .u8 58), (.int .u8 42), (.int .u8 50), (.int .u8 38), (.int .u8 29), (.int .u8 17), (.int .u8 4), (.int .u8 62), (.int .u8 47), (.int .u8 59), (.int .u8 36), (.int .u8 45), (.int .u8 43), (.int .u8 51), (.int .u8 22), (.int .u8 53), (.int .u8 39), (.int .u8 33), (.int .u8 30), (.int .u8 24), (.int .u8 18), (.int .u8 12), (.int .u8 5), (.int .u8 63), (.int .u8 55), (.int .u8 48), (.int .u8 27), (.int .u8 60), (.int .u8 41), (.int .u8 37), (.int .u8 16), (.int .u8 46), (.int .u8 35), (.int .u8 44), (.int .u8 21), (.int .u8 52), (.int .u8 32), (.int .u8 23), (.int .u8 11), (.int .u8 54), (.int .u8 26), (.int .u8 40), (.int .u8 15), (.int .u8 34), (.int .u8 20), (.int .u8 31), (.int .u8 10), (.int .u8 25), (.int .u8 14), (.int .u8 19), (.int .u8 9), (.int .u8 13), (.int .u8 8), (.int .u8 7), (.int .u8 6)] e0 false)]⟩⟩
noncomputable def plS18 (w : Int) (b : Int) (m : Nat) (k : Int) (L : List Int) (e0 : TypeId) : KSt := ⟨(frameL 22 [(0, (.int .u64 w)), (1, (.int .i64 b)), (5, (.slice (some ⟨1, 0, none⟩) (m + 1) (m + 1))), (6, (.int .i64 k))]), ⟨2, 1, [(1, 0, .ints .i64 ((List.take m L ++ [k])) 3 true), (0, 0, .cells [(.int .u8 0), (.int .u8 1), (.int .u8 56), (.int .u8 2), (.int .u8 57), (.int .u8 49), (.int .u8 28), (.int .u8 3), (.int .u8 61), (.int .u8 58), (.int .u8 42), (.int .u8 50), (.int .u8 38), (.int .u8 29), (.int .u8 17), (.int .u8 4), (.int .u8 62), (.int .u8 47), (.int .u8 59), (.int .u8 36), (.int .u8 45), (.int .u8 43), (.int .u8 51), (.int .u8 22), (.int .u8 53), (.int .u8 39), (.int .u8 33), (.int .u8 30), (.int .u8 24), (.int .u8 18), (.int .u8 12), (.int .u8 5), (.int .u8 63), (.int .u8 55), (.int .u8 48), (.int .u8 27), (.int .u8 60), (.int .u8 41), (.int .u8 37), (.int .u8 16), (.int .u8 46), (.int .u8 35), (.int .u8 44), (.int .u8 21), (.int .u8 52), (.int .u8 32), (.int .u8 23), (.int .u8 11), (.int .u8 54), (.int .u8 26), (.int .u8 40), (.int .u8 15), (.int .u8 34), (.int .u8 20), (.int .u8 31), (.int .u8 10), (.int .u8 25), (.int .u8 14), (.int .u8 19), (.int .u8 9), (.int .u8 13), (.int .u8 8), (.int .u8 7), (.int .u8 6)] e0 false)]⟩⟩
theorem plR16 (w : Int) (b : Int) (m : Nat) (k : Int) (L : List Int) (e0 : TypeId) : evCK Tryd.prog cfgT (runK Tryd.prog cfgT fsT (conT laneDom laneE) 12 40) 12 (codeAt [1, 1, 0, 1, 0, 0, 1, 0, 0, 1, 0] Bpl) (plS14 w b m k L e0) (normC 1 [0, 1, 5, 6]) =
  bif (Nat.ble ((m + 1) * 9) 1099511627776) then
    bif (Nat.ble (m + 1) m) then
      bif (Nat.ble (0 + (m + 1)) (List.length L)) then
        some (.normal, (plS17 w b m k L e0))
      else
        none
    else
      bif ((Nat.beq m 0) && (Nat.beq m 0)) then
        some (.normal, (plS9 w b k e0))
      else
        bif ((Nat.ble m (List.length L)) && (Nat.ble 1 m)) then
          some (.normal, (plS18 w b m k L e0))
        else
          none
  else
    none := by kernel_rfl
noncomputable def plS19 (w : Int) (b : Int) (m : Nat) (k : Int) (L : List Int) (e0 : TypeId) : KSt := ⟨(frameL 22 [(0, (.int .u64 w)), (1, (.int .i64 b)), (5, (.slice (some ⟨1, 0, none⟩) (m + 1) (m + 1))), (6, (.int .i64 (IntKind.wrap .i64 (k + 1))))]), ⟨2, 1, [(1, 0, .ints .i64 ((List.take m L ++ [k])) 3 true), (0, 0, .cells [(.int .u8 0), (.int .u8 1), (.int .u8 56), (.int .u8 2), (.int .u8 57), (.int .u8 49), (.int .u8 28), (.int .u8 3), (.int .u8 61), (.int .u8 58), (.int .u8 42), (.int .u8 50), (.int .u8 38), (.int .u8 29), (.int .u8 17), (.int .u8 4), (.int .u8 62), (.int .u8 47), (.int .u8 59), (.int .u8 36), (.int .u8 45), (.int .u8 43), (.int .u8 51), (.int .u8 22), (.int .u8 53), (.int .u8 39), (.int .u8 33), (.int .u8 30), (.int .u8 24), (.int .u8 18), (.int .u8 12), (.int .u8 5), (.int .u8 63), (.int .u8 55), (.int .u8 48), (.int .u8 27), (.int .u8 60), (.int .u8 41), (.int .u8 37), (.int .u8 16), (.int .u8 46), (.int .u8 35), (.int .u8 44), (.int .u8 21), (.int .u8 52), (.int .u8 32), (.int .u8 23), (.int .u8 11), (.int .u8 54), (.int .u8 26), (.int .u8 40), (.int .u8 15), (.int .u8 34), (.int .u8 20), (.int .u8 31), (.int .u8 10), (.int .u8 25), (.int .u8 14), (.int .u8 19), (.int .u8 9), (.int .u8 13), (.int .u8 8), (.int .u8 7), (.int .u8 6)] e0 false)]⟩⟩
theorem plR17 (w : Int) (b : Int) (m : Nat) (k : Int) (L : List Int) (e0 : TypeId) : evCK Tryd.prog cfgT (runK Tryd.prog cfgT fsT (conT laneDom laneE) 12 40) 12 (codeAt [1, 1, 0, 1, 0, 0, 1, 1] Bpl) (plS18 w b m k L e0) (normC 1 [0, 1, 5, 6]) =
  some (.normal, (plS19 w b m k L e0)) := by kernel_rfl
noncomputable def plS20 (w : Int) (b : Int) (m : Nat) (k : Int) (L : List Int) (e0 : TypeId) : KSt := ⟨(frameL 22 [(0, (.int .u64 w)), (1, (.int .i64 b)), (5, (.slice (some ⟨1, 0, none⟩) (m + 1) (m + 1))), (6, (.int .i64 (k + 1)))]), ⟨2, 1, [(1, 0, .ints .i64 ((List.take m L ++ [k])) 3 true), (0, 0, .cells [(.int .u8 0), (.int .u8 1), (.int .u8 56), (.int .u8 2), (.int .u8 57), (.int .u8 49), (.int .u8 28), (.int .u8 3), (.int .u8 61), (.int .u8 58), (.int .u8 42), (.int .u8 50), (.int .u8 38), (.int .u8 29), (.int .u8 17), (.int .u8 4), (.int .u8 62), (.int .u8 47), (.int .u8 59), (.int .u8 36), (.int .u8 45), (.int .u8 43), (.int .u8 51), (.int .u8 22), (.int .u8 53), (.int .u8 39), (.int .u8 33), (.int .u8 30), (.int .u8 24), (.int .u8 18), (.int .u8 12), (.int .u8 5), (.int .u8 63), (.int .u8 55), (.int .u8 48), (.int .u8 27), (.int .u8 60), (.int .u8 41), (.int .u8 37), (.int .u8 16), (.int .u8 46), (.int .u8 35), (.int .u8 44), (.int .u8 21), (.int .u8 52), (.int .u8 32), (.int .u8 23), (.int .u8 11), (.int .u8 54), (.int .u8 26), (.int .u8 40), (.int .u8 15), (.int .u8 34), (.int .u8 20), (.int .u8 31), (.int .u8 10), (.int .u8 25), (.int .u8 14), (.int .u8 19), (.int .u8 9), (.int .u8 13), (.int .u8 8), (.int .u8 7), (.int .u8 6)] e0 false)]⟩⟩
theorem pln1 (w b k : Int) (m : Nat) (L : List Int) (e0 : TypeId) (hk : 0 ≤ k) (hk8 : k < 8) (hm : L.length = m) (hm1 : 1 ≤ m) (hm8 : m ≤ 8) (hb : ((byteRV w k) == b) = true)   {Q : Ex → St → Prop} (hq : Q .normal (KSt.low (plS20 w b m k L e0))) : Gets Tryd.prog (varH .u8 tz e0).low (codeAt [1, 1, 0, 1, 0, 0] Bpl) (KSt.low (plS12 w b m k L e0)) Q := by
  rw [plC1_1_0_1_0_0]; refine Gets.seq ?_
  rw [plC1_1_0_1_0_0_0]; refine Gets.seq ?_
  refine Gets.ofN fitT lane_sound (conT_agree _ _) 12 40 (by kernel_rfl) (x := .normal) (s' := (plS13 w b m k L e0)) (plR11 w b m k L e0) ?_
  show Gets _ _ (codeAt [1, 1, 0, 1, 0, 0, 0, 1] Bpl) _ _
  rw [plC1_1_0_1_0_0_0_1]; refine Gets.cond true (by kernel_rfl) ((show evalX (KSt.ts (plS13 w b m k L e0)) (.tmp 9) = .bool (decide (k < 8)) by kernel_rfl).trans (by rw [(show (decide (k < 8)) = true from decide_eq_true (by omega))])) ?_; show Gets _ _ (codeAt [1, 1, 0, 1, 0, 0, 0, 1, 0] Bpl) _ _
  refine Gets.ofN fitT lane_sound (conT_agree _ _) 12 40 (by kernel_rfl) (x := .normal) (s' := (plS12 w b m k L e0)) (plR12 w b m k L e0) ?_
  show Gets _ _ (codeAt [1, 1, 0, 1, 0, 0, 1] Bpl) _ _
  rw [plC1_1_0_1_0_0_1]; refine Gets.seq ?_
  rw [plC1_1_0_1_0_0_1_0]; refine Gets.block ?_
  rw [plC1_1_0_1_0_0_1_0_0]; refine Gets.seq ?_
  refine Gets.ofN fitT lane_sound (conT_agree _ _) 12 40 (by kernel_rfl) (x := .normal) (s' := (plS14 w b m k L e0)) (plR13 w b m k L e0) ?_
  show Gets _ _ (codeAt [1, 1, 0, 1, 0, 0, 1, 0, 0, 1] Bpl) _ _
  rw [plC1_1_0_1_0_0_1_0_0_1]; refine Gets.cond true (by kernel_rfl) ((show evalX (KSt.ts (plS14 w b m k L e0)) (.tmp 16) = .bool ((byteRV w k) == b) by kernel_rfl).trans (by rw [(show ((byteRV w k) == b) = true from hb)])) ?_; show Gets _ _ (codeAt [1, 1, 0, 1, 0, 0, 1, 0, 0, 1, 0] Bpl) _ _
  refine Gets.ofN fitT lane_sound (conT_agree _ _) 12 40 (by kernel_rfl) (x := .normal) (s' := (plS18 w b m k L e0)) ((plR16 w b m k L e0).trans (by rw [condT (ble_t (by omega)), condF (ble_f (by omega)), condF (and_f1 (nbeq_f (by omega))), condT (and_t (ble_t (by omega)) (ble_t (by omega)))])) ?_
  show Gets _ _ (codeAt [1, 1, 0, 1, 0, 0, 1, 1] Bpl) _ _
  refine Gets.ofN fitT lane_sound (conT_agree _ _) 12 40 (by kernel_rfl) (x := .normal) (s' := (plS20 w b m k L e0)) ((plR17 w b m k L e0).trans (by (show some (Ex.normal, (plS19 w b m k L e0)) = some (Ex.normal, (plS20 w b m k L e0)); unfold plS19 plS20; rw [(show (IntKind.wrap .i64 (k + 1)) = (k + 1) from wrap_i64_id (by omega) (by omega))]))) ?_
  exact hq
theorem plC1_1_0_1_0_0_0_1_1 : (codeAt [1, 1, 0, 1, 0, 0, 0, 1, 1] Bpl) = .exit 0 := by kernel_rfl
theorem plxe (w b k : Int) (m : Nat) (L : List Int) (e0 : TypeId) (hk : k = 8)   {Q : Ex → St → Prop} (hq : Q (.exit 0) (KSt.low (plS5 w b k e0))) : Gets Tryd.prog (varH .u8 tz e0).low (codeAt [1, 1, 0, 1, 0, 0] Bpl) (KSt.low (plS4 w b k e0)) Q := by
  rw [plC1_1_0_1_0_0]; refine Gets.seq ?_
  rw [plC1_1_0_1_0_0_0]; refine Gets.seq ?_
  refine Gets.ofN fitT lane_sound (conT_agree _ _) 12 40 (by kernel_rfl) (x := .normal) (s' := (plS5 w b k e0)) (plR4 w b k e0) ?_
  show Gets _ _ (codeAt [1, 1, 0, 1, 0, 0, 0, 1] Bpl) _ _
  rw [plC1_1_0_1_0_0_0_1]; refine Gets.cond false (by kernel_rfl) ((show evalX (KSt.ts (plS5 w b k e0)) (.tmp 9) = .bool (decide (k < 8)) by kernel_rfl).trans (by rw [(show (decide (k < 8)) = false from decide_eq_false (by omega))])) ?_; show Gets _ _ (codeAt [1, 1, 0, 1, 0, 0, 0, 1, 1] Bpl) _ _
  rw [plC1_1_0_1_0_0_0_1_1]; refine Gets.ev fitT.mix fitT.cfg (fitT.sound lane_sound 12 0) 12 rfl (s' := KSt.low (plS5 w b k e0)) (x := (.exit 0)) rfl ?_
  exact hq
theorem plxn (w b k : Int) (m : Nat) (L : List Int) (e0 : TypeId) (hk : k = 8)   {Q : Ex → St → Prop} (hq : Q (.exit 0) (KSt.low (plS13 w b m k L e0))) : Gets Tryd.prog (varH .u8 tz e0).low (codeAt [1, 1, 0, 1, 0, 0] Bpl) (KSt.low (plS12 w b m k L e0)) Q := by
  rw [plC1_1_0_1_0_0]; refine Gets.seq ?_
  rw [plC1_1_0_1_0_0_0]; refine Gets.seq ?_
  refine Gets.ofN fitT lane_sound (conT_agree _ _) 12 40 (by kernel_rfl) (x := .normal) (s' := (plS13 w b m k L e0)) (plR11 w b m k L e0) ?_
  show Gets _ _ (codeAt [1, 1, 0, 1, 0, 0, 0, 1] Bpl) _ _
  rw [plC1_1_0_1_0_0_0_1]; refine Gets.cond false (by kernel_rfl) ((show evalX (KSt.ts (plS13 w b m k L e0)) (.tmp 9) = .bool (decide (k < 8)) by kernel_rfl).trans (by rw [(show (decide (k < 8)) = false from decide_eq_false (by omega))])) ?_; show Gets _ _ (codeAt [1, 1, 0, 1, 0, 0, 0, 1, 1] Bpl) _ _
  rw [plC1_1_0_1_0_0_0_1_1]; refine Gets.ev fitT.mix fitT.cfg (fitT.sound lane_sound 12 0) 12 rfl (s' := KSt.low (plS13 w b m k L e0)) (x := (.exit 0)) rfl ?_
  exact hq
theorem plC1_1_1 : (codeAt [1, 1, 1] Bpl) = .seq (codeAt [1, 1, 1, 0] Bpl) (codeAt [1, 1, 1, 1] Bpl) := by kernel_rfl
noncomputable def plS21 (e0 : TypeId) : KSt := ⟨(frameL 22 [(4, (.slice (some ⟨1, 0, none⟩) 0 0))]), ⟨2, 1, [(1, 0, .cells [] 3 true), (0, 0, .cells [(.int .u8 0), (.int .u8 1), (.int .u8 56), (.int .u8 2), (.int .u8 57), (.int .u8 49), (.int .u8 28), (.int .u8 3), (.int .u8 61), (.int .u8 58), (.int .u8 42), (.int .u8 50), (.int .u8 38), (.int .u8 29), (.int .u8 17), (.int .u8 4), (.int .u8 62), (.int .u8 47), (.int .u8 59), (.int .u8 36), (.int .u8 45), (.int .u8 43), (.int .u8 51), (.int .u8 22), (.int .u8 53), (.int .u8 39), (.int .u8 33), (.int .u8 30), (.int .u8 24), (.int .u8 18), (.int .u8 12), (.int .u8 5), (.int .u8 63), (.int .u8 55), (.int .u8 48), (.int .u8 27), (.int .u8 60), (.int .u8 41), (.int .u8 37), (.int .u8 16), (.int .u8 46), (.int .u8 35), (.int .u8 44), (.int .u8 21), (.int .u8 52), (.int .u8 32), (.int .u8 23), (.int .u8 11), (.int .u8 54), (.int .u8 26), (.int .u8 40), (.int .u8 15), (.int .u8 34), (.int .u8 20), (.int .u8 31), (.int .u8 10), (.int .u8 25), (.int .u8 14), (.int .u8 19), (.int .u8 9), (.int .u8 13), (.int .u8 8), (.int .u8 7), (.int .u8 6)] e0 false)]⟩⟩
theorem plR18 (w : Int) (b : Int) (k : Int) (e0 : TypeId) : evCK Tryd.prog cfgT (runK Tryd.prog cfgT fsT (conT laneDom laneE) 12 40) 12 (codeAt [1, 1, 1, 0] Bpl) (plS5 w b k e0) (normC 1 [4]) =
  some (.normal, (plS21 e0)) := by kernel_rfl
theorem plC1_1_1_1 : (codeAt [1, 1, 1, 1] Bpl) = .ret := by kernel_rfl
theorem plfe (w b k : Int) (m : Nat) (L : List Int) (e0 : TypeId)   {Q : Ex → St → Prop} (hq : Q .ret (KSt.low (plS21 e0))) : Gets Tryd.prog (varH .u8 tz e0).low (codeAt [1, 1, 1] Bpl) (KSt.low (plS5 w b k e0)) Q := by
  rw [plC1_1_1]; refine Gets.seq ?_
  refine Gets.ofN fitT lane_sound (conT_agree _ _) 12 40 (by kernel_rfl) (x := .normal) (s' := (plS21 e0)) (plR18 w b k e0) ?_
  show Gets _ _ (codeAt [1, 1, 1, 1] Bpl) _ _
  rw [plC1_1_1_1]; refine Gets.ev fitT.mix fitT.cfg (fitT.sound lane_sound 12 0) 12 rfl (s' := KSt.low (plS21 e0)) (x := .ret) rfl ?_
  exact hq
noncomputable def plS22 (m : Nat) (L : List Int) (e0 : TypeId) : KSt := ⟨(frameL 22 [(4, (.slice (some ⟨1, 0, none⟩) m m))]), ⟨2, 1, [(1, 0, .ints .i64 L 3 true), (0, 0, .cells [(.int .u8 0), (.int .u8 1), (.int .u8 56), (.int .u8 2), (.int .u8 57), (.int .u8 49), (.int .u8 28), (.int .u8 3), (.int .u8 61), (.int .u8 58), (.int .u8 42), (.int .u8 50), (.int .u8 38), (.int .u8 29), (.int .u8 17), (.int .u8 4), (.int .u8 62), (.int .u8 47), (.int .u8 59), (.int .u8 36), (.int .u8 45), (.int .u8 43), (.int .u8 51), (.int .u8 22), (.int .u8 53), (.int .u8 39), (.int .u8 33), (.int .u8 30), (.int .u8 24), (.int .u8 18), (.int .u8 12), (.int .u8 5), (.int .u8 63), (.int .u8 55), (.int .u8 48), (.int .u8 27), (.int .u8 60), (.int .u8 41), (.int .u8 37), (.int .u8 16), (.int .u8 46), (.int .u8 35), (.int .u8 44), (.int .u8 21), (.int .u8 52), (.int .u8 32), (.int .u8 23), (.int .u8 11), (.int .u8 54), (.int .u8 26), (.int .u8 40), (.int .u8 15), (.int .u8 34), (.int .u8 20), (.int .u8 31), (.int .u8 10), (.int .u8 25), (.int .u8 14), (.int .u8 19), (.int .u8 9), (.int .u8 13), (.int .u8 8), (.int .u8 7), (.int .u8 6)] e0 false)]⟩⟩
theorem plR19 (w : Int) (b : Int) (m : Nat) (k : Int) (L : List Int) (e0 : TypeId) : evCK Tryd.prog cfgT (runK Tryd.prog cfgT fsT (conT laneDom laneE) 12 40) 12 (codeAt [1, 1, 1, 0] Bpl) (plS13 w b m k L e0) (normC 1 [4]) =
  some (.normal, (plS22 m L e0)) := by kernel_rfl
theorem plfn (w b k : Int) (m : Nat) (L : List Int) (e0 : TypeId)   {Q : Ex → St → Prop} (hq : Q .ret (KSt.low (plS22 m L e0))) : Gets Tryd.prog (varH .u8 tz e0).low (codeAt [1, 1, 1] Bpl) (KSt.low (plS13 w b m k L e0)) Q := by
  rw [plC1_1_1]; refine Gets.seq ?_
  refine Gets.ofN fitT lane_sound (conT_agree _ _) 12 40 (by kernel_rfl) (x := .normal) (s' := (plS22 m L e0)) (plR19 w b m k L e0) ?_
  show Gets _ _ (codeAt [1, 1, 1, 1] Bpl) _ _
  rw [plC1_1_1_1]; refine Gets.ev fitT.mix fitT.cfg (fitT.sound lane_sound 12 0) 12 rfl (s' := KSt.low (plS22 m L e0)) (x := .ret) rfl ?_
  exact hq
theorem plC1_1_0_1 : (codeAt [1, 1, 0, 1] Bpl) = .block 0 (codeAt [1, 1, 0, 1, 0] Bpl) := by kernel_rfl
theorem plC1_1_0_1_0 : (codeAt [1, 1, 0, 1, 0] Bpl) = .loop (codeAt [1, 1, 0, 1, 0, 0] Bpl) := by kernel_rfl
noncomputable def Qpl (w b : Int) (e0 : TypeId) : Ex → St → Prop := Eng.Ends Tryd.prog Tryd.f15.results.toList fun r sh => r = .slice (some ⟨1, 0, none⟩) (List.length (plL w b 8)) (List.length (plL w b 8)) ∧ Fits (MH e0).low sh (effK (MH e0) [] [.ints .i64 (plL w b 8) 3 true]).low
theorem qpl {w b : Int} {e0 : TypeId} {s : KSt} {m : Nat} (hm : List.length (plL w b 8) = m) (hr : resL Tryd.prog s.low Tryd.f15.results.toList = some [.slice (some ⟨1, 0, none⟩) m m])
    (h1 : s.low.h.get 1 = some (KObj.ints .i64 (plL w b 8) 3 true).low) (hx : s.low.h.next ≤ 2) : Qpl w b e0 .ret s.low := by
  subst hm
  refine Ends.of hr ⟨rfl, ?_⟩
  rw [effK_low]
  refine Fits.eff (mh_wf e0) (by simp) (fun p hp => by cases hp) (fun i o ho => ?_) (fun a o ho _ => .inl (mh_ro e0 a o ho)) hx
  match i, ho with
  | 0, ho => cases ho; exact h1
inductive Ipl (w b : Int) (e0 : TypeId) : Nat → KSt → Prop
  | e (k : Int) (m : Nat) (L : List Int) (hk : 0 ≤ k) (hk8 : k ≤ 8) (hE : plL w b (Int.toNat k) = []) : Ipl w b e0 (8 - k).toNat (plS4 w b k e0)
  | n (k : Int) (m : Nat) (L : List Int) (hk : 0 ≤ k) (hk8 : k ≤ 8) (hE : plL w b (Int.toNat k) = L) (hm : L.length = m) (hm1 : 1 ≤ m) : Ipl w b e0 (8 - k).toNat (plS12 w b m k L e0)
theorem looppl (w b : Int) (e0 : TypeId) (m : Nat) (s : KSt) (hI : Ipl w b e0 m s) :
    Gets Tryd.prog (varH .u8 tz e0).low (codeAt [1, 1, 0, 1] Bpl) s.low (onN (fun s => Gets Tryd.prog (varH .u8 tz e0).low (codeAt [1, 1, 1] Bpl) s ((Qpl w b e0))) ((Qpl w b e0))) := by
  rw [plC1_1_0_1, plC1_1_0_1_0]
  refine Gets.loopG (fun m s => Ipl w b e0 m s) ?_ _ _ hI
  clear hI m s
  intro m s hI
  cases hI with
  | e k m L hk hk8 hE =>
    by_cases h8 : k = 8
    · refine plxe w b k 0 [] e0 h8 ?_
      refine ⟨fun _ => ?_, fun h => by cases h⟩
      subst h8
      have hE8 : plL w b 8 = [] := hE
      exact plfe w b 8 0 [] e0 (qpl (m := 0) (b := b) (by rw [hE8]; rfl) (by kernel_rfl) (by rw [hE8]; kernel_rfl) (show (2 : Nat) ≤ 2 by decide))
    · cases hb : ((byteRV w k) == b) with
      | false =>
        refine ple0 w b k 0 [] e0 hk (by omega) hb ?_
        exact ⟨_, _, by omega, rfl, .e (k + 1) 0 [] (by omega) (by omega) (by rw [pl_lo w b hk (by simpa using hb)]; exact hE)⟩
      | true =>
        refine ple1 w b k 0 [] e0 hk (by omega) hb ?_
        exact ⟨(8 - (k + 1)).toNat, (plS12 w b 1 (k + 1) [k] e0), by omega, rfl, .n (k + 1) 1 [k] (by omega) (by omega) (by rw [pl_hi w b hk (by simpa using hb), hE]; rfl) rfl (by omega)⟩
  | n k m L hk hk8 hE hm hm1 =>
    have hm8 : m ≤ 8 := by have := pl_len w b (Int.toNat k); rw [hE, hm] at this; omega
    by_cases h8 : k = 8
    · refine plxn w b k m L e0 h8 ?_
      refine ⟨fun _ => ?_, fun h => by cases h⟩
      subst h8
      have hE8 : plL w b 8 = L := hE
      exact plfn w b 8 m L e0 (qpl (m := m) (b := b) (by rw [hE8]; exact hm) (by kernel_rfl) (by rw [hE8]; kernel_rfl) (show (2 : Nat) ≤ 2 by decide))
    · cases hb : ((byteRV w k) == b) with
      | false =>
        refine pln0 w b k m L e0 hk (by omega) hm hm1 hm8 hb ?_
        exact ⟨_, _, by omega, rfl, .n (k + 1) m L (by omega) (by omega) (by rw [pl_lo w b hk (by simpa using hb)]; exact hE) hm hm1⟩
      | true =>
        refine pln1 w b k m L e0 hk (by omega) hm hm1 hm8 hb ?_
        exact ⟨_, _, by omega, rfl, .n (k + 1) (m + 1) _ (by omega) (by omega) (by rw [pl_hi w b hk (by simpa using hb), hE, ← hm, List.take_length]) (by rw [List.length_append, List.length_take, hm, Nat.min_self]; rfl) (by omega)⟩
theorem pl_does (w b : Int) (e0 : TypeId) : DoesC Tryd.prog 15 [(.int .u64 w), (.int .i64 b)] (MH e0).low (.slice (some ⟨1, 0, none⟩) (List.length (plL w b 8)) (List.length (plL w b 8))) (effK (MH e0) [] [.ints .i64 (plL w b 8) 3 true]).low := by
  refine Gets.does Tryd.func15 Bpl_is (by rw [oneVar]; exact (show (1 : Nat) ≤ 1 by decide)) ?_
  show Gets Tryd.prog (varH .u8 tz e0).low Bpl (KSt.low (plS0 w b e0)) (Qpl w b e0)
  refine plpre w b 0 0 [] e0 ?_
  exact looppl w b e0 _ _ (.e 0 0 [] (by omega) (by omega) rfl)
def plE : ConE := fun acc f args => match f, args with
  | 15, [(.int .u64 w), (.int .i64 b)] => (match acc.cells 0 with
    | some (cs, e, false) => (match isTz tz cs with
      | true => some ⟨[0], [(.int .u64 w), (.int .i64 b)], [.cells cs e false], .slice (some ⟨1, 0, none⟩) (List.length (plL w b 8)) (List.length (plL w b 8)), [], [.ints .i64 (plL w b 8) 3 true]⟩
      | false => none)
    | _ => none)
  | _, _ => none
theorem pl_ok : ∀ (h : AH) (f : FuncId) (args : List Value) (c : Con), plE (accA h) f args = some c → ConOk Tryd.prog f args h c := by
  intro h f args c hE
  unfold plE at hE
  split at hE
  · split at hE
    · rename_i cs e hc
      split at hE
      · rename_i hz
        have hcs := isTz_eq hz
        subst hcs
        have hc0 : h.get 0 = some (.cells (intCells .u8 tz) e false) := by
          have hc : cellsA h 0 = _ := hc
          unfold cellsA at hc
          split at hc
          · rename_i hq; cases hc; exact hq
          · cases hc
        cases hE
        exact ⟨view_var rfl rfl h hc0, pl_does _ _ e, fun a o ho hr => (by obtain ⟨_, rfl⟩ := mkH1_get ho; cases hr), fun p hp => (by cases hp), fun o ho => (by
          rcases List.mem_singleton.1 ho with rfl; rfl), .nil⟩
      · cases hE
    · cases hE
  · cases hE
theorem pl_fnok : FnOk Tryd.prog 15 := fitT.fnOk _ (by
  have h0 : fsT.contains 15 = true := by kernel_rfl
  simpa using h0)

def rcL (w : Int) : Nat → List Int
  | 0 => []
  | k + 1 => rcL w k ++ (if byteRV w (k : Int) ≥ 128 then [(k : Int)] else [])
theorem rc_len (w : Int) : ∀ k, (rcL w k).length ≤ k
  | 0 => Nat.le_refl _
  | k + 1 => by
    have := rc_len w k
    show (rcL w k ++ _).length ≤ k + 1
    rw [List.length_append]
    split <;> simp <;> omega
theorem rc_lo (w : Int) {k : Int} (hk : 0 ≤ k) (h : ¬ (byteRV w k ≥ 128)) : rcL w (Int.toNat (k + 1)) = rcL w (Int.toNat k) := by
  rw [show Int.toNat (k + 1) = Int.toNat k + 1 by omega]
  show rcL w (Int.toNat k) ++ _ = _
  rw [Int.toNat_of_nonneg hk, if_neg h, List.append_nil]
theorem rc_hi (w : Int) {k : Int} (hk : 0 ≤ k) (h : byteRV w k ≥ 128) : rcL w (Int.toNat (k + 1)) = rcL w (Int.toNat k) ++ [k] := by
  rw [show Int.toNat (k + 1) = Int.toNat k + 1 by omega]
  show rcL w (Int.toNat k) ++ _ = _
  rw [Int.toNat_of_nonneg hk, if_pos h]
noncomputable def Brc : Code := bodyOf Tryd.prog 33
theorem Brc_is : Tryd.f33.body = some Brc := by kernel_rfl
theorem Brc_ok : okCode Tryd.prog.globals.size Brc = true := by kernel_rfl
noncomputable def rcS0 (w : Int) (e0 : TypeId) : KSt := (firstK [(.int .u64 w)] 19 ⟨1, 1, [(0, 0, .cells [(.int .u8 0), (.int .u8 1), (.int .u8 56), (.int .u8 2), (.int .u8 57), (.int .u8 49), (.int .u8 28), (.int .u8 3), (.int .u8 61), (.int .u8 58), (.int .u8 42), (.int .u8 50), (.int .u8 38), (.int .u8 29), (.int .u8 17), (.int .u8 4), (.int .u8 62), (.int .u8 47), (.int .u8 59), (.int .u8 36), (.int .u8 45), (.int .u8 43), (.int .u8 51), (.int .u8 22), (.int .u8 53), (.int .u8 39), (.int .u8 33), (.int .u8 30), (.int .u8 24), (.int .u8 18), (.int .u8 12), (.int .u8 5), (.int .u8 63), (.int .u8 55), (.int .u8 48), (.int .u8 27), (.int .u8 60), (.int .u8 41), (.int .u8 37), (.int .u8 16), (.int .u8 46), (.int .u8 35), (.int .u8 44), (.int .u8 21), (.int .u8 52), (.int .u8 32), (.int .u8 23), (.int .u8 11), (.int .u8 54), (.int .u8 26), (.int .u8 40), (.int .u8 15), (.int .u8 34), (.int .u8 20), (.int .u8 31), (.int .u8 10), (.int .u8 25), (.int .u8 14), (.int .u8 19), (.int .u8 9), (.int .u8 13), (.int .u8 8), (.int .u8 7), (.int .u8 6)] e0 false)]⟩)
theorem rcC : Brc = .seq (codeAt [0] Brc) (codeAt [1] Brc) := by kernel_rfl
noncomputable def rcS1 (w : Int) (e0 : TypeId) : KSt := ⟨(frameL 19 [(0, (.int .u64 w))]), ⟨1, 1, [(0, 0, .cells [(.int .u8 0), (.int .u8 1), (.int .u8 56), (.int .u8 2), (.int .u8 57), (.int .u8 49), (.int .u8 28), (.int .u8 3), (.int .u8 61), (.int .u8 58), (.int .u8 42), (.int .u8 50), (.int .u8 38), (.int .u8 29), (.int .u8 17), (.int .u8 4), (.int .u8 62), (.int .u8 47), (.int .u8 59), (.int .u8 36), (.int .u8 45), (.int .u8 43), (.int .u8 51), (.int .u8 22), (.int .u8 53), (.int .u8 39), (.int .u8 33), (.int .u8 30), (.int .u8 24), (.int .u8 18), (.int .u8 12), (.int .u8 5), (.int .u8 63), (.int .u8 55), (.int .u8 48), (.int .u8 27), (.int .u8 60), (.int .u8 41), (.int .u8 37), (.int .u8 16), (.int .u8 46), (.int .u8 35), (.int .u8 44), (.int .u8 21), (.int .u8 52), (.int .u8 32), (.int .u8 23), (.int .u8 11), (.int .u8 54), (.int .u8 26), (.int .u8 40), (.int .u8 15), (.int .u8 34), (.int .u8 20), (.int .u8 31), (.int .u8 10), (.int .u8 25), (.int .u8 14), (.int .u8 19), (.int .u8 9), (.int .u8 13), (.int .u8 8), (.int .u8 7), (.int .u8 6)] e0 false)]⟩⟩
theorem rcR1 (w : Int) (e0 : TypeId) : evCK Tryd.prog cfgT (runK Tryd.prog cfgT fsT (conT laneDom laneE) 12 40) 12 (codeAt [0] Brc) (rcS0 w e0) (normC 1 [0]) =
  some (.normal, (rcS1 w e0)) := by kernel_rfl
theorem rcC1 : (codeAt [1] Brc) = .seq (codeAt [1, 0] Brc) (codeAt [1, 1] Brc) := by kernel_rfl
noncomputable def rcS2 (w : Int) (e0 : TypeId) : KSt := ⟨(frameL 19 [(0, (.int .u64 w)), (3, (.slice (some ⟨1, 0, none⟩) 0 0))]), ⟨2, 1, [(1, 0, .cells [] 3 true), (0, 0, .cells [(.int .u8 0), (.int .u8 1), (.int .u8 56), (.int .u8 2), (.int .u8 57), (.int .u8 49), (.int .u8 28), (.int .u8 3), (.int .u8 61), (.int .u8 58), (.int .u8 42), (.int .u8 50), (.int .u8 38), (.int .u8 29), (.int .u8 17), (.int .u8 4), (.int .u8 62), (.int .u8 47), (.int .u8 59), (.int .u8 36), (.int .u8 45), (.int .u8 43), (.int .u8 51), (.int .u8 22), (.int .u8 53), (.int .u8 39), (.int .u8 33), (.int .u8 30), (.int .u8 24), (.int .u8 18), (.int .u8 12), (.int .u8 5), (.int .u8 63), (.int .u8 55), (.int .u8 48), (.int .u8 27), (.int .u8 60), (.int .u8 41), (.int .u8 37), (.int .u8 16), (.int .u8 46), (.int .u8 35), (.int .u8 44), (.int .u8 21), (.int .u8 52), (.int .u8 32), (.int .u8 23), (.int .u8 11), (.int .u8 54), (.int .u8 26), (.int .u8 40), (.int .u8 15), (.int .u8 34), (.int .u8 20), (.int .u8 31), (.int .u8 10), (.int .u8 25), (.int .u8 14), (.int .u8 19), (.int .u8 9), (.int .u8 13), (.int .u8 8), (.int .u8 7), (.int .u8 6)] e0 false)]⟩⟩
theorem rcR2 (w : Int) (e0 : TypeId) : evCK Tryd.prog cfgT (runK Tryd.prog cfgT fsT (conT laneDom laneE) 12 40) 12 (codeAt [1, 0] Brc) (rcS1 w e0) (normC 1 [0, 3]) =
  some (.normal, (rcS2 w e0)) := by kernel_rfl
theorem rcC1_1 : (codeAt [1, 1] Brc) = .seq (codeAt [1, 1, 0] Brc) (codeAt [1, 1, 1] Brc) := by kernel_rfl
theorem rcC1_1_0 : (codeAt [1, 1, 0] Brc) = .seq (codeAt [1, 1, 0, 0] Brc) (codeAt [1, 1, 0, 1] Brc) := by kernel_rfl
noncomputable def rcS3 (w : Int) (e0 : TypeId) : KSt := ⟨(frameL 19 [(0, (.int .u64 w)), (3, (.slice (some ⟨1, 0, none⟩) 0 0)), (4, (.int .i64 0))]), ⟨2, 1, [(1, 0, .cells [] 3 true), (0, 0, .cells [(.int .u8 0), (.int .u8 1), (.int .u8 56), (.int .u8 2), (.int .u8 57), (.int .u8 49), (.int .u8 28), (.int .u8 3), (.int .u8 61), (.int .u8 58), (.int .u8 42), (.int .u8 50), (.int .u8 38), (.int .u8 29), (.int .u8 17), (.int .u8 4), (.int .u8 62), (.int .u8 47), (.int .u8 59), (.int .u8 36), (.int .u8 45), (.int .u8 43), (.int .u8 51), (.int .u8 22), (.int .u8 53), (.int .u8 39), (.int .u8 33), (.int .u8 30), (.int .u8 24), (.int .u8 18), (.int .u8 12), (.int .u8 5), (.int .u8 63), (.int .u8 55), (.int .u8 48), (.int .u8 27), (.int .u8 60), (.int .u8 41), (.int .u8 37), (.int .u8 16), (.int .u8 46), (.int .u8 35), (.int .u8 44), (.int .u8 21), (.int .u8 52), (.int .u8 32), (.int .u8 23), (.int .u8 11), (.int .u8 54), (.int .u8 26), (.int .u8 40), (.int .u8 15), (.int .u8 34), (.int .u8 20), (.int .u8 31), (.int .u8 10), (.int .u8 25), (.int .u8 14), (.int .u8 19), (.int .u8 9), (.int .u8 13), (.int .u8 8), (.int .u8 7), (.int .u8 6)] e0 false)]⟩⟩
theorem rcR3 (w : Int) (e0 : TypeId) : evCK Tryd.prog cfgT (runK Tryd.prog cfgT fsT (conT laneDom laneE) 12 40) 12 (codeAt [1, 1, 0, 0] Brc) (rcS2 w e0) (normC 1 [0, 3, 4]) =
  some (.normal, (rcS3 w e0)) := by kernel_rfl
theorem rcpre (w b k : Int) (m : Nat) (L : List Int) (e0 : TypeId)   {Q : Ex → St → Prop} (hq : Gets Tryd.prog (varH .u8 tz e0).low (codeAt [1, 1, 0, 1] Brc) (KSt.low (rcS3 w e0)) (onN (fun s => Gets Tryd.prog (varH .u8 tz e0).low (codeAt [1, 1, 1] Brc) s (Q)) (Q))) : Gets Tryd.prog (varH .u8 tz e0).low Brc (KSt.low (rcS0 w e0)) Q := by
  rw [rcC]; refine Gets.seq ?_
  refine Gets.ofN fitT lane_sound (conT_agree _ _) 12 40 (by kernel_rfl) (x := .normal) (s' := (rcS1 w e0)) (rcR1 w e0) ?_
  show Gets _ _ (codeAt [1] Brc) _ _
  rw [rcC1]; refine Gets.seq ?_
  refine Gets.ofN fitT lane_sound (conT_agree _ _) 12 40 (by kernel_rfl) (x := .normal) (s' := (rcS2 w e0)) (rcR2 w e0) ?_
  show Gets _ _ (codeAt [1, 1] Brc) _ _
  rw [rcC1_1]; refine Gets.seq ?_
  rw [rcC1_1_0]; refine Gets.seq ?_
  refine Gets.ofN fitT lane_sound (conT_agree _ _) 12 40 (by kernel_rfl) (x := .normal) (s' := (rcS3 w e0)) (rcR3 w e0) ?_
  show Gets _ _ (codeAt [1, 1, 0, 1] Brc) _ _
  exact hq
noncomputable def rcS4 (w : Int) (k : Int) (e0 : TypeId) : KSt := ⟨(frameL 19 [(0, (.int .u64 w)), (3, (.slice (some ⟨1, 0, none⟩) 0 0)), (4, (.int .i64 k))]), ⟨2, 1, [(1, 0, .cells [] 3 true), (0, 0, .cells [(.int .u8 0), (.int .u8 1), (.int .u8 56), (.int .u8 2), (.int .u8 57), (.int .u8 49), (.int .u8 28), (.int .u8 3), (.int .u8 61), (.int .u8 58), (.int .u8 42), (.int .u8 50), (.int .u8 38), (.int .u8 29), (.int .u8 17), (.int .u8 4), (.int .u8 62), (.int .u8 47), (.int .u8 59), (.int .u8 36), (.int .u8 45), (.int .u8 43), (.int .u8 51), (.int .u8 22), (.int .u8 53), (.int .u8 39), (.int .u8 33), (.int .u8 30), (.int .u8 24), (.int .u8 18), (.int .u8 12), (.int .u8 5), (.int .u8 63), (.int .u8 55), (.int .u8 48), (.int .u8 27), (.int .u8 60), (.int .u8 41), (.int .u8 37), (.int .u8 16), (.int .u8 46), (.int .u8 35), (.int .u8 44), (.int .u8 21), (.int .u8 52), (.int .u8 32), (.int .u8 23), (.int .u8 11), (.int .u8 54), (.int .u8 26), (.int .u8 40), (.int .u8 15), (.int .u8 34), (.int .u8 20), (.int .u8 31), (.int .u8 10), (.int .u8 25), (.int .u8 14), (.int .u8 19), (.int .u8 9), (.int .u8 13), (.int .u8 8), (.int .u8 7), (.int .u8 6)] e0 false)]⟩⟩
theorem rcC1_1_0_1_0_0 : (codeAt [1, 1, 0, 1, 0, 0] Brc) = .seq (codeAt [1, 1, 0, 1, 0, 0, 0] Brc) (codeAt [1, 1, 0, 1, 0, 0, 1] Brc) := by kernel_rfl
theorem rcC1_1_0_1_0_0_0 : (codeAt [1, 1, 0, 1, 0, 0, 0] Brc) = .seq (codeAt [1, 1, 0, 1, 0, 0, 0, 0] Brc) (codeAt [1, 1, 0, 1, 0, 0, 0, 1] Brc) := by kernel_rfl
noncomputable def rcS5 (w : Int) (k : Int) (e0 : TypeId) : KSt := ⟨(frameL 19 [(0, (.int .u64 w)), (3, (.slice (some ⟨1, 0, none⟩) 0 0)), (4, (.int .i64 k)), (7, (.bool (decide (k < 8))))]), ⟨2, 1, [(1, 0, .cells [] 3 true), (0, 0, .cells [(.int .u8 0), (.int .u8 1), (.int .u8 56), (.int .u8 2), (.int .u8 57), (.int .u8 49), (.int .u8 28), (.int .u8 3), (.int .u8 61), (.int .u8 58), (.int .u8 42), (.int .u8 50), (.int .u8 38), (.int .u8 29), (.int .u8 17), (.int .u8 4), (.int .u8 62), (.int .u8 47), (.int .u8 59), (.int .u8 36), (.int .u8 45), (.int .u8 43), (.int .u8 51), (.int .u8 22), (.int .u8 53), (.int .u8 39), (.int .u8 33), (.int .u8 30), (.int .u8 24), (.int .u8 18), (.int .u8 12), (.int .u8 5), (.int .u8 63), (.int .u8 55), (.int .u8 48), (.int .u8 27), (.int .u8 60), (.int .u8 41), (.int .u8 37), (.int .u8 16), (.int .u8 46), (.int .u8 35), (.int .u8 44), (.int .u8 21), (.int .u8 52), (.int .u8 32), (.int .u8 23), (.int .u8 11), (.int .u8 54), (.int .u8 26), (.int .u8 40), (.int .u8 15), (.int .u8 34), (.int .u8 20), (.int .u8 31), (.int .u8 10), (.int .u8 25), (.int .u8 14), (.int .u8 19), (.int .u8 9), (.int .u8 13), (.int .u8 8), (.int .u8 7), (.int .u8 6)] e0 false)]⟩⟩
theorem rcR4 (w : Int) (k : Int) (e0 : TypeId) : evCK Tryd.prog cfgT (runK Tryd.prog cfgT fsT (conT laneDom laneE) 12 40) 12 (codeAt [1, 1, 0, 1, 0, 0, 0, 0] Brc) (rcS4 w k e0) (normC 1 [0, 3, 4, 7]) =
  some (.normal, (rcS5 w k e0)) := by kernel_rfl
theorem rcC1_1_0_1_0_0_0_1 : (codeAt [1, 1, 0, 1, 0, 0, 0, 1] Brc) = .cond (.tmp 7) (codeAt [1, 1, 0, 1, 0, 0, 0, 1, 0] Brc) (codeAt [1, 1, 0, 1, 0, 0, 0, 1, 1] Brc) := by kernel_rfl
theorem rcR5 (w : Int) (k : Int) (e0 : TypeId) : evCK Tryd.prog cfgT (runK Tryd.prog cfgT fsT (conT laneDom laneE) 12 40) 12 (codeAt [1, 1, 0, 1, 0, 0, 0, 1, 0] Brc) (rcS5 w k e0) (normC 1 [0, 3, 4]) =
  some (.normal, (rcS4 w k e0)) := by kernel_rfl
theorem rcC1_1_0_1_0_0_1 : (codeAt [1, 1, 0, 1, 0, 0, 1] Brc) = .seq (codeAt [1, 1, 0, 1, 0, 0, 1, 0] Brc) (codeAt [1, 1, 0, 1, 0, 0, 1, 1] Brc) := by kernel_rfl
theorem rcC1_1_0_1_0_0_1_0 : (codeAt [1, 1, 0, 1, 0, 0, 1, 0] Brc) = .block 1 (codeAt [1, 1, 0, 1, 0, 0, 1, 0, 0] Brc) := by kernel_rfl
theorem rcC1_1_0_1_0_0_1_0_0 : (codeAt [1, 1, 0, 1, 0, 0, 1, 0, 0] Brc) = .seq (codeAt [1, 1, 0, 1, 0, 0, 1, 0, 0, 0] Brc) (codeAt [1, 1, 0, 1, 0, 0, 1, 0, 0, 1] Brc) := by kernel_rfl
noncomputable def rcS6 (w : Int) (k : Int) (e0 : TypeId) : KSt := ⟨(frameL 19 [(0, (.int .u64 w)), (3, (.slice (some ⟨1, 0, none⟩) 0 0)), (4, (.int .i64 k)), (13, (.bool (decide ((byteRV w k) ≥ 128))))]), ⟨2, 1, [(1, 0, .cells [] 3 true), (0, 0, .cells [(.int .u8 0), (.int .u8 1), (.int .u8 56), (.int .u8 2), (.int .u8 57), (.int .u8 49), (.int .u8 28), (.int .u8 3), (.int .u8 61), (.int .u8 58), (.int .u8 42), (.int .u8 50), (.int .u8 38), (.int .u8 29), (.int .u8 17), (.int .u8 4), (.int .u8 62), (.int .u8 47), (.int .u8 59), (.int .u8 36), (.int .u8 45), (.int .u8 43), (.int .u8 51), (.int .u8 22), (.int .u8 53), (.int .u8 39), (.int .u8 33), (.int .u8 30), (.int .u8 24), (.int .u8 18), (.int .u8 12), (.int .u8 5), (.int .u8 63), (.int .u8 55), (.int .u8 48), (.int .u8 27), (.int .u8 60), (.int .u8 41), (.int .u8 37), (.int .u8 16), (.int .u8 46), (.int .u8 35), (.int .u8 44), (.int .u8 21), (.int .u8 52), (.int .u8 32), (.int .u8 23), (.int .u8 11), (.int .u8 54), (.int .u8 26), (.int .u8 40), (.int .u8 15), (.int .u8 34), (.int .u8 20), (.int .u8 31), (.int .u8 10), (.int .u8 25), (.int .u8 14), (.int .u8 19), (.int .u8 9), (.int .u8 13), (.int .u8 8), (.int .u8 7), (.int .u8 6)] e0 false)]⟩⟩
theorem rcR6 (w : Int) (k : Int) (e0 : TypeId) : evCK Tryd.prog cfgT (runK Tryd.prog cfgT fsT (conT laneDom laneE) 12 40) 12 (codeAt [1, 1, 0, 1, 0, 0, 1, 0, 0, 0] Brc) (rcS4 w k e0) (normC 1 [0, 3, 4, 13]) =
  some (.normal, (rcS6 w k e0)) := by kernel_rfl
theorem rcC1_1_0_1_0_0_1_0_0_1 : (codeAt [1, 1, 0, 1, 0, 0, 1, 0, 0, 1] Brc) = .cond (.tmp 13) (codeAt [1, 1, 0, 1, 0, 0, 1, 0, 0, 1, 0] Brc) (codeAt [1, 1, 0, 1, 0, 0, 1, 0, 0, 1, 1] Brc) := by kernel_rfl
theorem rcR7 (w : Int) (k : Int) (e0 : TypeId) : evCK Tryd.prog cfgT (runK Tryd.prog cfgT fsT (conT laneDom laneE) 12 40) 12 (codeAt [1, 1, 0, 1, 0, 0, 1, 0, 0, 1, 1] Brc) (rcS6 w k e0) (normC 1 [0, 3, 4]) =
  some (.normal, (rcS4 w k e0)) := by kernel_rfl
noncomputable def rcS7 (w : Int) (k : Int) (e0 : TypeId) : KSt := ⟨(frameL 19 [(0, (.int .u64 w)), (3, (.slice (some ⟨1, 0, none⟩) 0 0)), (4, (.int .i64 (IntKind.wrap .i64 (k + 1))))]), ⟨2, 1, [(1, 0, .cells [] 3 true), (0, 0, .cells [(.int .u8 0), (.int .u8 1), (.int .u8 56), (.int .u8 2), (.int .u8 57), (.int .u8 49), (.int .u8 28), (.int .u8 3), (.int .u8 61), (.int .u8 58), (.int .u8 42), (.int .u8 50), (.int .u8 38), (.int .u8 29), (.int .u8 17), (.int .u8 4), (.int .u8 62), (.int .u8 47), (.int .u8 59), (.int .u8 36), (.int .u8 45), (.int .u8 43), (.int .u8 51), (.int .u8 22), (.int .u8 53), (.int .u8 39), (.int .u8 33), (.int .u8 30), (.int .u8 24), (.int .u8 18), (.int .u8 12), (.int .u8 5), (.int .u8 63), (.int .u8 55), (.int .u8 48), (.int .u8 27), (.int .u8 60), (.int .u8 41), (.int .u8 37), (.int .u8 16), (.int .u8 46), (.int .u8 35), (.int .u8 44), (.int .u8 21), (.int .u8 52), (.int .u8 32), (.int .u8 23), (.int .u8 11), (.int .u8 54), (.int .u8 26), (.int .u8 40), (.int .u8 15), (.int .u8 34), (.int .u8 20), (.int .u8 31), (.int .u8 10), (.int .u8 25), (.int .u8 14), (.int .u8 19), (.int .u8 9), (.int .u8 13), (.int .u8 8), (.int .u8 7), (.int .u8 6)] e0 false)]⟩⟩
theorem rcR8 (w : Int) (k : Int) (e0 : TypeId) : evCK Tryd.prog cfgT (runK Tryd.prog cfgT fsT (conT laneDom laneE) 12 40) 12 (codeAt [1, 1, 0, 1, 0, 0, 1, 1] Brc) (rcS4 w k e0) (normC 1 [0, 3, 4]) =
  some (.normal, (rcS7 w k e0)) := by kernel_rfl
noncomputable def rcS8 (w : Int) (k : Int) (e0 : TypeId) : KSt := ⟨(frameL 19 [(0, (.int .u64 w)), (3, (.slice (some ⟨1, 0, none⟩) 0 0)), (4, (.int .i64 (k + 1)))]), ⟨2, 1, [(1, 0, .cells [] 3 true), (0, 0, .cells [(.int .u8 0), (.int .u8 1), (.int .u8 56), (.int .u8 2), (.int .u8 57), (.int .u8 49), (.int .u8 28), (.int .u8 3), (.int .u8 61), (.int .u8 58), (.int .u8 42), (.int .u8 50), (.int .u8 38), (.int .u8 29), (.int .u8 17), (.int .u8 4), (.int .u8 62), (.int .u8 47), (.int .u8 59), (.int .u8 36), (.int .u8 45), (.int .u8 43), (.int .u8 51), (.int .u8 22), (.int .u8 53), (.int .u8 39), (.int .u8 33), (.int .u8 30), (.int .u8 24), (.int .u8 18), (.int .u8 12), (.int .u8 5), (.int .u8 63), (.int .u8 55), (.int .u8 48), (.int .u8 27), (.int .u8 60), (.int .u8 41), (.int .u8 37), (.int .u8 16), (.int .u8 46), (.int .u8 35), (.int .u8 44), (.int .u8 21), (.int .u8 52), (.int .u8 32), (.int .u8 23), (.int .u8 11), (.int .u8 54), (.int .u8 26), (.int .u8 40), (.int .u8 15), (.int .u8 34), (.int .u8 20), (.int .u8 31), (.int .u8 10), (.int .u8 25), (.int .u8 14), (.int .u8 19), (.int .u8 9), (.int .u8 13), (.int .u8 8), (.int .u8 7), (.int .u8 6)] e0 false)]⟩⟩
theorem rce0 (w b k : Int) (m : Nat) (L : List Int) (e0 : TypeId) (hk : 0 ≤ k) (hk8 : k < 8) (hb : (decide ((byteRV w k) ≥ 128)) = false)   {Q : Ex → St → Prop} (hq : Q .normal (KSt.low (rcS8 w k e0))) : Gets Tryd.prog (varH .u8 tz e0).low (codeAt [1, 1, 0, 1, 0, 0] Brc) (KSt.low (rcS4 w k e0)) Q := by
  rw [rcC1_1_0_1_0_0]; refine Gets.seq ?_
  rw [rcC1_1_0_1_0_0_0]; refine Gets.seq ?_
  refine Gets.ofN fitT lane_sound (conT_agree _ _) 12 40 (by kernel_rfl) (x := .normal) (s' := (rcS5 w k e0)) (rcR4 w k e0) ?_
  show Gets _ _ (codeAt [1, 1, 0, 1, 0, 0, 0, 1] Brc) _ _
  rw [rcC1_1_0_1_0_0_0_1]; refine Gets.cond true (by kernel_rfl) ((show evalX (KSt.ts (rcS5 w k e0)) (.tmp 7) = .bool (decide (k < 8)) by kernel_rfl).trans (by rw [(show (decide (k < 8)) = true from decide_eq_true (by omega))])) ?_; show Gets _ _ (codeAt [1, 1, 0, 1, 0, 0, 0, 1, 0] Brc) _ _
  refine Gets.ofN fitT lane_sound (conT_agree _ _) 12 40 (by kernel_rfl) (x := .normal) (s' := (rcS4 w k e0)) (rcR5 w k e0) ?_
  show Gets _ _ (codeAt [1, 1, 0, 1, 0, 0, 1] Brc) _ _
  rw [rcC1_1_0_1_0_0_1]; refine Gets.seq ?_
  rw [rcC1_1_0_1_0_0_1_0]; refine Gets.block ?_
  rw [rcC1_1_0_1_0_0_1_0_0]; refine Gets.seq ?_
  refine Gets.ofN fitT lane_sound (conT_agree _ _) 12 40 (by kernel_rfl) (x := .normal) (s' := (rcS6 w k e0)) (rcR6 w k e0) ?_
  show Gets _ _ (codeAt [1, 1, 0, 1, 0, 0, 1, 0, 0, 1] Brc) _ _
  rw [rcC1_1_0_1_0_0_1_0_0_1]; refine Gets.cond false (by kernel_rfl) ((show evalX (KSt.ts (rcS6 w k e0)) (.tmp 13) = .bool (decide ((byteRV w k) ≥ 128)) by kernel_rfl).trans (by rw [(show (decide ((byteRV w k) ≥ 128)) = false from hb)])) ?_; show Gets _ _ (codeAt [1, 1, 0, 1, 0, 0, 1, 0, 0, 1, 1] Brc) _ _
  refine Gets.ofN fitT lane_sound (conT_agree _ _) 12 40 (by kernel_rfl) (x := .normal) (s' := (rcS4 w k e0)) (rcR7 w k e0) ?_
  show Gets _ _ (codeAt [1, 1, 0, 1, 0, 0, 1, 1] Brc) _ _
  refine Gets.ofN fitT lane_sound (conT_agree _ _) 12 40 (by kernel_rfl) (x := .normal) (s' := (rcS8 w k e0)) ((rcR8 w k e0).trans (by (show some (Ex.normal, (rcS7 w k e0)) = some (Ex.normal, (rcS8 w k e0)); unfold rcS7 rcS8; rw [(show (IntKind.wrap .i64 (k + 1)) = (k + 1) from wrap_i64_id (by omega) (by omega))]))) ?_
  exact hq
noncomputable def rcS9 (w : Int) (k : Int) (e0 : TypeId) : KSt := ⟨(frameL 19 [(0, (.int .u64 w)), (3, (.slice (some ⟨1, 0, none⟩) 1 1)), (4, (.int .i64 k))]), ⟨2, 1, [(1, 0, .cells [(.int .i64 k)] 3 true), (0, 0, .cells [(.int .u8 0), (.int .u8 1), (.int .u8 56), (.int .u8 2), (.int .u8 57), (.int .u8 49), (.int .u8 28), (.int .u8 3), (.int .u8 61), (.int .u8 58), (.int .u8 42), (.int .u8 50), (.int .u8 38), (.int .u8 29), (.int .u8 17), (.int .u8 4), (.int .u8 62), (.int .u8 47), (.int .u8 59), (.int .u8 36), (.int .u8 45), (.int .u8 43), (.int .u8 51), (.int .u8 22), (.int .u8 53), (.int .u8 39), (.int .u8 33), (.int .u8 30), (.int .u8 24), (.int .u8 18), (.int .u8 12), (.int .u8 5), (.int .u8 63), (.int .u8 55), (.int .u8 48), (.int .u8 27), (.int .u8 60), (.int .u8 41), (.int .u8 37), (.int .u8 16), (.int .u8 46), (.int .u8 35), (.int .u8 44), (.int .u8 21), (.int .u8 52), (.int .u8 32), (.int .u8 23), (.int .u8 11), (.int .u8 54), (.int .u8 26), (.int .u8 40), (.int .u8 15), (.int .u8 34), (.int .u8 20), (.int .u8 31), (.int .u8 10), (.int .u8 25), (.int .u8 14), (.int .u8 19), (.int .u8 9), (.int .u8 13), (.int .u8 8), (.int .u8 7), (.int .u8 6)] e0 false)]⟩⟩
theorem rcR9 (w : Int) (k : Int) (e0 : TypeId) : evCK Tryd.prog cfgT (runK Tryd.prog cfgT fsT (conT laneDom laneE) 12 40) 12 (codeAt [1, 1, 0, 1, 0, 0, 1, 0, 0, 1, 0] Brc) (rcS6 w k e0) (normC 1 [0, 3, 4]) =
  some (.normal, (rcS9 w k e0)) := by kernel_rfl
noncomputable def rcS10 (w : Int) (k : Int) (e0 : TypeId) : KSt := ⟨(frameL 19 [(0, (.int .u64 w)), (3, (.slice (some ⟨1, 0, none⟩) 1 1)), (4, (.int .i64 (IntKind.wrap .i64 (k + 1))))]), ⟨2, 1, [(1, 0, .cells [(.int .i64 k)] 3 true), (0, 0, .cells [(.int .u8 0), (.int .u8 1), (.int .u8 56), (.int .u8 2), (.int .u8 57), (.int .u8 49), (.int .u8 28), (.int .u8 3), (.int .u8 61), (.int .u8 58), (.int .u8 42), (.int .u8 50), (.int .u8 38), (.int .u8 29), (.int .u8 17), (.int .u8 4), (.int .u8 62), (.int .u8 47), (.int .u8 59), (.int .u8 36), (.int .u8 45), (.int .u8 43), (.int .u8 51), (.int .u8 22), (.int .u8 53), (.int .u8 39), (.int .u8 33), (.int .u8 30), (.int .u8 24), (.int .u8 18), (.int .u8 12), (.int .u8 5), (.int .u8 63), (.int .u8 55), (.int .u8 48), (.int .u8 27), (.int .u8 60), (.int .u8 41), (.int .u8 37), (.int .u8 16), (.int .u8 46), (.int .u8 35), (.int .u8 44), (.int .u8 21), (.int .u8 52), (.int .u8 32), (.int .u8 23), (.int .u8 11), (.int .u8 54), (.int .u8 26), (.int .u8 40), (.int .u8 15), (.int .u8 34), (.int .u8 20), (.int .u8 31), (.int .u8 10), (.int .u8 25), (.int .u8 14), (.int .u8 19), (.int .u8 9), (.int .u8 13), (.int .u8 8), (.int .u8 7), (.int .u8 6)] e0 false)]⟩⟩
theorem rcR10 (w : Int) (k : Int) (e0 : TypeId) : evCK Tryd.prog cfgT (runK Tryd.prog cfgT fsT (conT laneDom laneE) 12 40) 12 (codeAt [1, 1, 0, 1, 0, 0, 1, 1] Brc) (rcS9 w k e0) (normC 1 [0, 3, 4]) =
  some (.normal, (rcS10 w k e0)) := by kernel_rfl
noncomputable def rcS11 (w : Int) (k : Int) (e0 : TypeId) : KSt := ⟨(frameL 19 [(0, (.int .u64 w)), (3, (.slice (some ⟨1, 0, none⟩) 1 1)), (4, (.int .i64 (k + 1)))]), ⟨2, 1, [(1, 0, .cells [(.int .i64 k)] 3 true), (0, 0, .cells [(.int .u8 0), (.int .u8 1), (.int .u8 56), (.int .u8 2), (.int .u8 57), (.int .u8 49), (.int .u8 28), (.int .u8 3), (.int .u8 61), (.int .u8 58), (.int .u8 42), (.int .u8 50), (.int .u8 38), (.int .u8 29), (.int .u8 17), (.int .u8 4), (.int .u8 62), (.int .u8 47), (.int .u8 59), (.int .u8 36), (.int .u8 45), (.int .u8 43), (.int .u8 51), (.int .u8 22), (.int .u8 53), (.int .u8 39), (.int .u8 33), (.int .u8 30), (.int .u8 24), (.int .u8 18), (.int .u8 12), (.int .u8 5), (.int .u8 63), (.int .u8 55), (.int .u8 48), (.int .u8 27), (.int .u8 60), (.int .u8 41), (.int .u8 37), (.int .u8 16), (.int .u8 46), (.int .u8 35), (.int .u8 44), (.int .u8 21), (.int .u8 52), (.int .u8 32), (.int .u8 23), (.int .u8 11), (.int .u8 54), (.int .u8 26), (.int .u8 40), (.int .u8 15), (.int .u8 34), (.int .u8 20), (.int .u8 31), (.int .u8 10), (.int .u8 25), (.int .u8 14), (.int .u8 19), (.int .u8 9), (.int .u8 13), (.int .u8 8), (.int .u8 7), (.int .u8 6)] e0 false)]⟩⟩
theorem rce1 (w b k : Int) (m : Nat) (L : List Int) (e0 : TypeId) (hk : 0 ≤ k) (hk8 : k < 8) (hb : (decide ((byteRV w k) ≥ 128)) = true)   {Q : Ex → St → Prop} (hq : Q .normal (KSt.low (rcS11 w k e0))) : Gets Tryd.prog (varH .u8 tz e0).low (codeAt [1, 1, 0, 1, 0, 0] Brc) (KSt.low (rcS4 w k e0)) Q := by
  rw [rcC1_1_0_1_0_0]; refine Gets.seq ?_
  rw [rcC1_1_0_1_0_0_0]; refine Gets.seq ?_
  refine Gets.ofN fitT lane_sound (conT_agree _ _) 12 40 (by kernel_rfl) (x := .normal) (s' := (rcS5 w k e0)) (rcR4 w k e0) ?_
  show Gets _ _ (codeAt [1, 1, 0, 1, 0, 0, 0, 1] Brc) _ _
  rw [rcC1_1_0_1_0_0_0_1]; refine Gets.cond true (by kernel_rfl) ((show evalX (KSt.ts (rcS5 w k e0)) (.tmp 7) = .bool (decide (k < 8)) by kernel_rfl).trans (by rw [(show (decide (k < 8)) = true from decide_eq_true (by omega))])) ?_; show Gets _ _ (codeAt [1, 1, 0, 1, 0, 0, 0, 1, 0] Brc) _ _
  refine Gets.ofN fitT lane_sound (conT_agree _ _) 12 40 (by kernel_rfl) (x := .normal) (s' := (rcS4 w k e0)) (rcR5 w k e0) ?_
  show Gets _ _ (codeAt [1, 1, 0, 1, 0, 0, 1] Brc) _ _
  rw [rcC1_1_0_1_0_0_1]; refine Gets.seq ?_
  rw [rcC1_1_0_1_0_0_1_0]; refine Gets.block ?_
  rw [rcC1_1_0_1_0_0_1_0_0]; refine Gets.seq ?_
  refine Gets.ofN fitT lane_sound (conT_agree _ _) 12 40 (by kernel_rfl) (x := .normal) (s' := (rcS6 w k e0)) (rcR6 w k e0) ?_
  show Gets _ _ (codeAt [1, 1, 0, 1, 0, 0, 1, 0, 0, 1] Brc) _ _
  rw [rcC1_1_0_1_0_0_1_0_0_1]; refine Gets.cond true (by kernel_rfl) ((show evalX (KSt.ts (rcS6 w k e0)) (.tmp 13) = .bool (decide ((byteRV w k) ≥ 128)) by kernel_rfl).trans (by rw [(show (decide ((byteRV w k) ≥ 128)) = true from hb)])) ?_; show Gets _ _ (codeAt [1, 1, 0, 1, 0, 0, 1, 0, 0, 1, 0] Brc) _ _
  refine Gets.ofN fitT lane_sound (conT_agree _ _) 12 40 (by kernel_rfl) (x := .normal) (s' := (rcS9 w k e0)) (rcR9 w k e0) ?_
  show Gets _ _ (codeAt [1, 1, 0, 1, 0, 0, 1, 1] Brc) _ _
  refine Gets.ofN fitT lane_sound (conT_agree _ _) 12 40 (by kernel_rfl) (x := .normal) (s' := (rcS11 w k e0)) ((rcR10 w k e0).trans (by (show some (Ex.normal, (rcS10 w k e0)) = some (Ex.normal, (rcS11 w k e0)); unfold rcS10 rcS11; rw [(show (IntKind.wrap .i64 (k + 1)) = (k + 1) from wrap_i64_id (by omega) (by omega))]))) ?_
  exact hq
noncomputable def rcS12 (w : Int) (m : Nat) (k : Int) (L : List Int) (e0 : TypeId) : KSt := ⟨(frameL 19 [(0, (.int .u64 w)), (3, (.slice (some ⟨1, 0, none⟩) m m)), (4, (.int .i64 k))]), ⟨2, 1, [(1, 0, .ints .i64 L 3 true), (0, 0, .cells [(.int .u8 0), (.int .u8 1), (.int .u8 56), (.int .u8 2), (.int .u8 57), (.int .u8 49), (.int .u8 28), (.int .u8 3), (.int .u8 61), (.int .u8 58), (.int .u8 42), (.int .u8 50), (.int .u8 38), (.int .u8 29), (.int .u8 17), (.int .u8 4), (.int .u8 62), (.int .u8 47), (.int .u8 59), (.int .u8 36), (.int .u8 45), (.int .u8 43), (.int .u8 51), (.int .u8 22), (.int .u8 53), (.int .u8 39), (.int .u8 33), (.int .u8 30), (.int .u8 24), (.int .u8 18), (.int .u8 12), (.int .u8 5), (.int .u8 63), (.int .u8 55), (.int .u8 48), (.int .u8 27), (.int .u8 60), (.int .u8 41), (.int .u8 37), (.int .u8 16), (.int .u8 46), (.int .u8 35), (.int .u8 44), (.int .u8 21), (.int .u8 52), (.int .u8 32), (.int .u8 23), (.int .u8 11), (.int .u8 54), (.int .u8 26), (.int .u8 40), (.int .u8 15), (.int .u8 34), (.int .u8 20), (.int .u8 31), (.int .u8 10), (.int .u8 25), (.int .u8 14), (.int .u8 19), (.int .u8 9), (.int .u8 13), (.int .u8 8), (.int .u8 7), (.int .u8 6)] e0 false)]⟩⟩
noncomputable def rcS13 (w : Int) (m : Nat) (k : Int) (L : List Int) (e0 : TypeId) : KSt := ⟨(frameL 19 [(0, (.int .u64 w)), (3, (.slice (some ⟨1, 0, none⟩) m m)), (4, (.int .i64 k)), (7, (.bool (decide (k < 8))))]), ⟨2, 1, [(1, 0, .ints .i64 L 3 true), (0, 0, .cells [(.int .u8 0), (.int .u8 1), (.int .u8 56), (.int .u8 2), (.int .u8 57), (.int .u8 49), (.int .u8 28), (.int .u8 3), (.int .u8 61), (.int .u8 58), (.int .u8 42), (.int .u8 50), (.int .u8 38), (.int .u8 29), (.int .u8 17), (.int .u8 4), (.int .u8 62), (.int .u8 47), (.int .u8 59), (.int .u8 36), (.int .u8 45), (.int .u8 43), (.int .u8 51), (.int .u8 22), (.int .u8 53), (.int .u8 39), (.int .u8 33), (.int .u8 30), (.int .u8 24), (.int .u8 18), (.int .u8 12), (.int .u8 5), (.int .u8 63), (.int .u8 55), (.int .u8 48), (.int .u8 27), (.int .u8 60), (.int .u8 41), (.int .u8 37), (.int .u8 16), (.int .u8 46), (.int .u8 35), (.int .u8 44), (.int .u8 21), (.int .u8 52), (.int .u8 32), (.int .u8 23), (.int .u8 11), (.int .u8 54), (.int .u8 26), (.int .u8 40), (.int .u8 15), (.int .u8 34), (.int .u8 20), (.int .u8 31), (.int .u8 10), (.int .u8 25), (.int .u8 14), (.int .u8 19), (.int .u8 9), (.int .u8 13), (.int .u8 8), (.int .u8 7), (.int .u8 6)] e0 false)]⟩⟩
theorem rcR11 (w : Int) (m : Nat) (k : Int) (L : List Int) (e0 : TypeId) : evCK Tryd.prog cfgT (runK Tryd.prog cfgT fsT (conT laneDom laneE) 12 40) 12 (codeAt [1, 1, 0, 1, 0, 0, 0, 0] Brc) (rcS12 w m k L e0) (normC 1 [0, 3, 4, 7]) =
  some (.normal, (rcS13 w m k L e0)) := by kernel_rfl
theorem rcR12 (w : Int) (m : Nat) (k : Int) (L : List Int) (e0 : TypeId) : evCK Tryd.prog cfgT (runK Tryd.prog cfgT fsT (conT laneDom laneE) 12 40) 12 (codeAt [1, 1, 0, 1, 0, 0, 0, 1, 0] Brc) (rcS13 w m k L e0) (normC 1 [0, 3, 4]) =
  some (.normal, (rcS12 w m k L e0)) := by kernel_rfl
noncomputable def rcS14 (w : Int) (m : Nat) (k : Int) (L : List Int) (e0 : TypeId) : KSt := ⟨(frameL 19 [(0, (.int .u64 w)), (3, (.slice (some ⟨1, 0, none⟩) m m)), (4, (.int .i64 k)), (13, (.bool (decide ((byteRV w k) ≥ 128))))]), ⟨2, 1, [(1, 0, .ints .i64 L 3 true), (0, 0, .cells [(.int .u8 0), (.int .u8 1), (.int .u8 56), (.int .u8 2), (.int .u8 57), (.int .u8 49), (.int .u8 28), (.int .u8 3), (.int .u8 61), (.int .u8 58), (.int .u8 42), (.int .u8 50), (.int .u8 38), (.int .u8 29), (.int .u8 17), (.int .u8 4), (.int .u8 62), (.int .u8 47), (.int .u8 59), (.int .u8 36), (.int .u8 45), (.int .u8 43), (.int .u8 51), (.int .u8 22), (.int .u8 53), (.int .u8 39), (.int .u8 33), (.int .u8 30), (.int .u8 24), (.int .u8 18), (.int .u8 12), (.int .u8 5), (.int .u8 63), (.int .u8 55), (.int .u8 48), (.int .u8 27), (.int .u8 60), (.int .u8 41), (.int .u8 37), (.int .u8 16), (.int .u8 46), (.int .u8 35), (.int .u8 44), (.int .u8 21), (.int .u8 52), (.int .u8 32), (.int .u8 23), (.int .u8 11), (.int .u8 54), (.int .u8 26), (.int .u8 40), (.int .u8 15), (.int .u8 34), (.int .u8 20), (.int .u8 31), (.int .u8 10), (.int .u8 25), (.int .u8 14), (.int .u8 19), (.int .u8 9), (.int .u8 13), (.int .u8 8), (.int .u8 7), (.int .u8 6)] e0 false)]⟩⟩
theorem rcR13 (w : Int) (m : Nat) (k : Int) (L : List Int) (e0 : TypeId) : evCK Tryd.prog cfgT (runK Tryd.prog cfgT fsT (conT laneDom laneE) 12 40) 12 (codeAt [1, 1, 0, 1, 0, 0, 1, 0, 0, 0] Brc) (rcS12 w m k L e0) (normC 1 [0, 3, 4, 13]) =
  some (.normal, (rcS14 w m k L e0)) := by kernel_rfl
theorem rcR14 (w : Int) (m : Nat) (k : Int) (L : List Int) (e0 : TypeId) : evCK Tryd.prog cfgT (runK Tryd.prog cfgT fsT (conT laneDom laneE) 12 40) 12 (codeAt [1, 1, 0, 1, 0, 0, 1, 0, 0, 1, 1] Brc) (rcS14 w m k L e0) (normC 1 [0, 3, 4]) =
  some (.normal, (rcS12 w m k L e0)) := by kernel_rfl
noncomputable def rcS15 (w : Int) (m : Nat) (k : Int) (L : List Int) (e0 : TypeId) : KSt := ⟨(frameL 19 [(0, (.int .u64 w)), (3, (.slice (some ⟨1, 0, none⟩) m m)), (4, (.int .i64 (IntKind.wrap .i64 (k + 1))))]), ⟨2, 1, [(1, 0, .ints .i64 L 3 true), (0, 0, .cells [(.int .u8 0), (.int .u8 1), (.int .u8 56), (.int .u8 2), (.int .u8 57), (.int .u8 49), (.int .u8 28), (.int .u8 3), (.int .u8 61), (.int .u8 58), (.int .u8 42), (.int .u8 50), (.int .u8 38), (.int .u8 29), (.int .u8 17), (.int .u8 4), (.int .u8 62), (.int .u8 47), (.int .u8 59), (.int .u8 36), (.int .u8 45), (.int .u8 43), (.int .u8 51), (.int .u8 22), (.int .u8 53), (.int .u8 39), (.int .u8 33), (.int .u8 30), (.int .u8 24), (.int .u8 18), (.int .u8 12), (.int .u8 5), (.int .u8 63), (.int .u8 55), (.int .u8 48), (.int .u8 27), (.int .u8 60), (.int .u8 41), (.int .u8 37), (.int .u8 16), (.int .u8 46), (.int .u8 35), (.int .u8 44), (.int .u8 21), (.int .u8 52), (.int .u8 32), (.int .u8 23), (.int .u8 11), (.int .u8 54), (.int .u8 26), (.int .u8 40), (.int .u8 15), (.int .u8 34), (.int .u8 20), (.int .u8 31), (.int .u8 10), (.int .u8 25), (.int .u8 14), (.int .u8 19), (.int .u8 9), (.int .u8 13), (.int .u8 8), (.int .u8 7), (.int .u8 6)] e0 false)]⟩⟩
theorem rcR15 (w : Int) (m : Nat) (k : Int) (L : List Int) (e0 : TypeId) : evCK Tryd.prog cfgT (runK Tryd.prog cfgT fsT (conT laneDom laneE) 12 40) 12 (codeAt [1, 1, 0, 1, 0, 0, 1, 1] Brc) (rcS12 w m k L e0) (normC 1 [0, 3, 4]) =
  some (.normal, (rcS15 w m k L e0)) := by kernel_rfl
noncomputable def rcS16 (w : Int) (m : Nat) (k : Int) (L : List Int) (e0 : TypeId) : KSt := ⟨(frameL 19 [(0, (.int .u64 w)), (3, (.slice (some ⟨1, 0, none⟩) m m)), (4, (.int .i64 (k + 1)))]), ⟨2, 1, [(1, 0, .ints .i64 L 3 true), (0, 0, .cells [(.int .u8 0), (.int .u8 1), (.int .u8 56), (.int .u8 2), (.int .u8 57), (.int .u8 49), (.int .u8 28), (.int .u8 3), (.int .u8 61), (.int .u8 58), (.int .u8 42), (.int .u8 50), (.int .u8 38), (.int .u8 29), (.int .u8 17), (.int .u8 4), (.int .u8 62), (.int .u8 47), (.int .u8 59), (.int .u8 36), (.int .u8 45), (.int .u8 43), (.int .u8 51), (.int .u8 22), (.int .u8 53), (.int .u8 39), (.int .u8 33), (.int .u8 30), (.int .u8 24), (.int .u8 18), (.int .u8 12), (.int .u8 5), (.int .u8 63), (.int .u8 55), (.int .u8 48), (.int .u8 27), (.int .u8 60), (.int .u8 41), (.int .u8 37), (.int .u8 16), (.int .u8 46), (.int .u8 35), (.int .u8 44), (.int .u8 21), (.int .u8 52), (.int .u8 32), (.int .u8 23), (.int .u8 11), (.int .u8 54), (.int .u8 26), (.int .u8 40), (.int .u8 15), (.int .u8 34), (.int .u8 20), (.int .u8 31), (.int .u8 10), (.int .u8 25), (.int .u8 14), (.int .u8 19), (.int .u8 9), (.int .u8 13), (.int .u8 8), (.int .u8 7), (.int .u8 6)] e0 false)]⟩⟩
theorem rcn0 (w b k : Int) (m : Nat) (L : List Int) (e0 : TypeId) (hk : 0 ≤ k) (hk8 : k < 8) (hm : L.length = m) (hm1 : 1 ≤ m) (hm8 : m ≤ 8) (hb : (decide ((byteRV w k) ≥ 128)) = false)   {Q : Ex → St → Prop} (hq : Q .normal (KSt.low (rcS16 w m k L e0))) : Gets Tryd.prog (varH .u8 tz e0).low (codeAt [1, 1, 0, 1, 0, 0] Brc) (KSt.low (rcS12 w m k L e0)) Q := by
  rw [rcC1_1_0_1_0_0]; refine Gets.seq ?_
  rw [rcC1_1_0_1_0_0_0]; refine Gets.seq ?_
  refine Gets.ofN fitT lane_sound (conT_agree _ _) 12 40 (by kernel_rfl) (x := .normal) (s' := (rcS13 w m k L e0)) (rcR11 w m k L e0) ?_
  show Gets _ _ (codeAt [1, 1, 0, 1, 0, 0, 0, 1] Brc) _ _
  rw [rcC1_1_0_1_0_0_0_1]; refine Gets.cond true (by kernel_rfl) ((show evalX (KSt.ts (rcS13 w m k L e0)) (.tmp 7) = .bool (decide (k < 8)) by kernel_rfl).trans (by rw [(show (decide (k < 8)) = true from decide_eq_true (by omega))])) ?_; show Gets _ _ (codeAt [1, 1, 0, 1, 0, 0, 0, 1, 0] Brc) _ _
  refine Gets.ofN fitT lane_sound (conT_agree _ _) 12 40 (by kernel_rfl) (x := .normal) (s' := (rcS12 w m k L e0)) (rcR12 w m k L e0) ?_
  show Gets _ _ (codeAt [1, 1, 0, 1, 0, 0, 1] Brc) _ _
  rw [rcC1_1_0_1_0_0_1]; refine Gets.seq ?_
  rw [rcC1_1_0_1_0_0_1_0]; refine Gets.block ?_
  rw [rcC1_1_0_1_0_0_1_0_0]; refine Gets.seq ?_
  refine Gets.ofN fitT lane_sound (conT_agree _ _) 12 40 (by kernel_rfl) (x := .normal) (s' := (rcS14 w m k L e0)) (rcR13 w m k L e0) ?_
  show Gets _ _ (codeAt [1, 1, 0, 1, 0, 0, 1, 0, 0, 1] Brc) _ _
  rw [rcC1_1_0_1_0_0_1_0_0_1]; refine Gets.cond false (by kernel_rfl) ((show evalX (KSt.ts (rcS14 w m k L e0)) (.tmp 13) = .bool (decide ((byteRV w k) ≥ 128)) by kernel_rfl).trans (by rw [(show (decide ((byteRV w k) ≥ 128)) = false from hb)])) ?_; show Gets _ _ (codeAt [1, 1, 0, 1, 0, 0, 1, 0, 0, 1, 1] Brc) _ _
  refine Gets.ofN fitT lane_sound (conT_agree _ _) 12 40 (by kernel_rfl) (x := .normal) (s' := (rcS12 w m k L e0)) (rcR14 w m k L e0) ?_
  show Gets _ _ (codeAt [1, 1, 0, 1, 0, 0, 1, 1] Brc) _ _
  refine Gets.ofN fitT lane_sound (conT_agree _ _) 12 40 (by kernel_rfl) (x := .normal) (s' := (rcS16 w m k L e0)) ((rcR15 w m k L e0).trans (by (show some (Ex.normal, (rcS15 w m k L e0)) = some (Ex.normal, (rcS16 w m k L e0)); unfold rcS15 rcS16; rw [(show (IntKind.wrap .i64 (k + 1)) = (k + 1) from wrap_i64_id (by omega) (by omega))]))) ?_
  exact hq
noncomputable def rcS17 (w : Int) (m : Nat) (k : Int) (L : List Int) (e0 : TypeId) : KSt := ⟨(frameL 19 [(0, (.int .u64 w)), (3, (.slice (some ⟨1, 0, none⟩) (m + 1) m)), (4, (.int .i64 k))]), ⟨2, 1, [(1, 0, .ints .i64 ((List.take (0 + m) L ++ [k] ++ List.drop ((0 + m) + (List.length [k])) L)) 3 true), (0, 0, .cells [(.int .u8 0), (.int .u8 1), (.int .u8 56), (.int .u8 2), (.int .u8 57), (.int .u8 49), (.int .u8 28), (.int .u8 3), (.int .u8 61), (.int .u8 58), (.int .u8 42), (.int .u8 50), (.int .u8 38), (.int .u8 29), (.int .u8 17), (.int .u8 4), (.int .u8 62), (.int .u8 47), (.int .u8 59), (.int .u8 36), (.int .u8 45), (.int .u8 43), (.int .u8 51), (.int .u8 22), (.int .u8 53), (.int .u8 39), (.int .u8 33), (.int .u8 30), (.int .u8 24), (.int .u8 18), (.int .u8 12), (.int .u8 5), (.int .u8 63), (.int .u8 55), (.int .u8 48), (.int .u8 27), (.int .u8 60), (.int .u8 41), (.int .u8 37), (.int .u8 16), (.int .u8 46), (.int .u8 35), (.int .u8 44), (.int .u8 21), (.int .u8 52), (.int .u8 32), (.int .u8 23), (.int .u8 11), (.int .u8 54), (.int .u8 26), (.int .u8 40), (.int .u8 15), (.int .u8 34), (.int .u8 20), (.int .u8 31), (.int .u8 10), (.int .u8 25), (.int .u8 14), (.int .u8 19), (.int .u8 9), (.int .u8 13), (.int .u8 8), (.int .u8 7), (.int .u8 6)] e0 false)]⟩⟩
noncomputable def rcS18 (w : Int) (m : Nat) (k : Int) (L : List Int) (e0 : TypeId) : KSt := ⟨(frameL 19 [(0, (.int .u64 w)), (3, (.slice (some ⟨1, 0, none⟩) (m + 1) (m + 1))), (4, (.int .i64 k))]), ⟨2, 1, [(1, 0, .ints .i64 ((List.take m L ++ [k])) 3 true), (0, 0, .cells [(.int .u8 0), (.int .u8 1), (.int .u8 56), (.int .u8 2), (.int .u8 57), (.int .u8 49), (.int .u8 28), (.int .u8 3), (.int .u8 61), (.int .u8 58), (.int .u8 42), (.int .u8 50), (.int .u8 38), (.int .u8 29), (.int .u8 17), (.int .u8 4), (.int .u8 62), (.int .u8 47), (.int .u8 59), (.int .u8 36), (.int .u8 45), (.int .u8 43), (.int .u8 51), (.int .u8 22), (.int .u8 53), (.int .u8 39), (.int .u8 33), (.int .u8 30), (.int .u8 24), (.int .u8 18), (.int .u8 12), (.int .u8 5), (.int .u8 63), (.int .u8 55), (.int .u8 48), (.int .u8 27), (.int .u8 60), (.int .u8 41), (.int .u8 37), (.int .u8 16), (.int .u8 46), (.int .u8 35), (.int .u8 44), (.int .u8 21), (.int .u8 52), (.int .u8 32), (.int .u8 23), (.int .u8 11), (.int .u8 54), (.int .u8 26), (.int .u8 40), (.int .u8 15), (.int .u8 34), (.int .u8 20), (.int .u8 31), (.int .u8 10), (.int .u8 25), (.int .u8 14), (.int .u8 19), (.int .u8 9), (.int .u8 13), (.int .u8 8), (.int .u8 7), (.int .u8 6)] e0 false)]⟩⟩
theorem rcR16 (w : Int) (m : Nat) (k : Int) (L : List Int) (e0 : TypeId) : evCK Tryd.prog cfgT (runK Tryd.prog cfgT fsT (conT laneDom laneE) 12 40) 12 (codeAt [1, 1, 0, 1, 0, 0, 1, 0, 0, 1, 0] Brc) (rcS14 w m k L e0) (normC 1 [0, 3, 4]) =
  bif (Nat.ble ((m + 1) * 9) 1099511627776) then
    bif (Nat.ble (m + 1) m) then
      bif (Nat.ble (0 + (m + 1)) (List.length L)) then
        some (.normal, (rcS17 w m k L e0))
      else
        none
    else
      bif ((Nat.beq m 0) && (Nat.beq m 0)) then
        some (.normal, (rcS9 w k e0))
      else
        bif ((Nat.ble m (List.length L)) && (Nat.ble 1 m)) then
          some (.normal, (rcS18 w m k L e0))
        else
          none
  else
    none := by kernel_rfl
noncomputable def rcS19 (w : Int) (m : Nat) (k : Int) (L : List Int) (e0 : TypeId) : KSt := ⟨(frameL 19 [(0, (.int .u64 w)), (3, (.slice (some ⟨1, 0, none⟩) (m + 1) (m + 1))), (4, (.int .i64 (IntKind.wrap .i64 (k + 1))))]), ⟨2, 1, [(1, 0, .ints .i64 ((List.take m L ++ [k])) 3 true), (0, 0, .cells [(.int .u8 0), (.int .u8 1), (.int .u8 56), (.int .u8 2), (.int .u8 57), (.int .u8 49), (.int .u8 28), (.int .u8 3), (.int .u8 61), (.int .u8 58), (.int .u8 42), (.int .u8 50), (.int .u8 38), (.int .u8 29), (.int .u8 17), (.int .u8 4), (.int .u8 62), (.int .u8 47), (.int .u8 59), (.int .u8 36), (.int .u8 45), (.int .u8 43), (.int .u8 51), (.int .u8 22), (.int .u8 53), (.int .u8 39), (.int .u8 33), (.int .u8 30), (.int .u8 24), (.int .u8 18), (.int .u8 12), (.int .u8 5), (.int .u8 63), (.int .u8 55), (.int .u8 48), (.int .u8 27), (.int .u8 60), (.int .u8 41), (.int .u8 37), (.int .u8 16), (.int .u8 46), (.int .u8 35), (.int .u8 44), (.int .u8 21), (.int .u8 52), (.int .u8 32), (.int .u8 23), (.int .u8 11), (.int .u8 54), (.int .u8 26), (.int .u8 40), (.int .u8 15), (.int .u8 34), (.int .u8 20), (.int .u8 31), (.int .u8 10), (.int .u8 25), (.int .u8 14), (.int .u8 19), (.int .u8 9), (.int .u8 13), (.int .u8 8), (.int .u8 7), (.int .u8 6)] e0 false)]⟩⟩
theorem rcR17 (w : Int) (m : Nat) (k : Int) (L : List Int) (e0 : TypeId) : evCK Tryd.prog cfgT (runK Tryd.prog cfgT fsT (conT laneDom laneE) 12 40) 12 (codeAt [1, 1, 0, 1, 0, 0, 1, 1] Brc) (rcS18 w m k L e0) (normC 1 [0, 3, 4]) =
  some (.normal, (rcS19 w m k L e0)) := by kernel_rfl
noncomputable def rcS20 (w : Int) (m : Nat) (k : Int) (L : List Int) (e0 : TypeId) : KSt := ⟨(frameL 19 [(0, (.int .u64 w)), (3, (.slice (some ⟨1, 0, none⟩) (m + 1) (m + 1))), (4, (.int .i64 (k + 1)))]), ⟨2, 1, [(1, 0, .ints .i64 ((List.take m L ++ [k])) 3 true), (0, 0, .cells [(.int .u8 0), (.int .u8 1), (.int .u8 56), (.int .u8 2), (.int .u8 57), (.int .u8 49), (.int .u8 28), (.int .u8 3), (.int .u8 61), (.int .u8 58), (.int .u8 42), (.int .u8 50), (.int .u8 38), (.int .u8 29), (.int .u8 17), (.int .u8 4), (.int .u8 62), (.int .u8 47), (.int .u8 59), (.int .u8 36), (.int .u8 45), (.int .u8 43), (.int .u8 51), (.int .u8 22), (.int .u8 53), (.int .u8 39), (.int .u8 33), (.int .u8 30), (.int .u8 24), (.int .u8 18), (.int .u8 12), (.int .u8 5), (.int .u8 63), (.int .u8 55), (.int .u8 48), (.int .u8 27), (.int .u8 60), (.int .u8 41), (.int .u8 37), (.int .u8 16), (.int .u8 46), (.int .u8 35), (.int .u8 44), (.int .u8 21), (.int .u8 52), (.int .u8 32), (.int .u8 23), (.int .u8 11), (.int .u8 54), (.int .u8 26), (.int .u8 40), (.int .u8 15), (.int .u8 34), (.int .u8 20), (.int .u8 31), (.int .u8 10), (.int .u8 25), (.int .u8 14), (.int .u8 19), (.int .u8 9), (.int .u8 13), (.int .u8 8), (.int .u8 7), (.int .u8 6)] e0 false)]⟩⟩
theorem rcn1 (w b k : Int) (m : Nat) (L : List Int) (e0 : TypeId) (hk : 0 ≤ k) (hk8 : k < 8) (hm : L.length = m) (hm1 : 1 ≤ m) (hm8 : m ≤ 8) (hb : (decide ((byteRV w k) ≥ 128)) = true)   {Q : Ex → St → Prop} (hq : Q .normal (KSt.low (rcS20 w m k L e0))) : Gets Tryd.prog (varH .u8 tz e0).low (codeAt [1, 1, 0, 1, 0, 0] Brc) (KSt.low (rcS12 w m k L e0)) Q := by
  rw [rcC1_1_0_1_0_0]; refine Gets.seq ?_
  rw [rcC1_1_0_1_0_0_0]; refine Gets.seq ?_
  refine Gets.ofN fitT lane_sound (conT_agree _ _) 12 40 (by kernel_rfl) (x := .normal) (s' := (rcS13 w m k L e0)) (rcR11 w m k L e0) ?_
  show Gets _ _ (codeAt [1, 1, 0, 1, 0, 0, 0, 1] Brc) _ _
  rw [rcC1_1_0_1_0_0_0_1]; refine Gets.cond true (by kernel_rfl) ((show evalX (KSt.ts (rcS13 w m k L e0)) (.tmp 7) = .bool (decide (k < 8)) by kernel_rfl).trans (by rw [(show (decide (k < 8)) = true from decide_eq_true (by omega))])) ?_; show Gets _ _ (codeAt [1, 1, 0, 1, 0, 0, 0, 1, 0] Brc) _ _
  refine Gets.ofN fitT lane_sound (conT_agree _ _) 12 40 (by kernel_rfl) (x := .normal) (s' := (rcS12 w m k L e0)) (rcR12 w m k L e0) ?_
  show Gets _ _ (codeAt [1, 1, 0, 1, 0, 0, 1] Brc) _ _
  rw [rcC1_1_0_1_0_0_1]; refine Gets.seq ?_
  rw [rcC1_1_0_1_0_0_1_0]; refine Gets.block ?_
  rw [rcC1_1_0_1_0_0_1_0_0]; refine Gets.seq ?_
  refine Gets.ofN fitT lane_sound (conT_agree _ _) 12 40 (by kernel_rfl) (x := .normal) (s' := (rcS14 w m k L e0)) (rcR13 w m k L e0) ?_
  show Gets _ _ (codeAt [1, 1, 0, 1, 0, 0, 1, 0, 0, 1] Brc) _ _
  rw [rcC1_1_0_1_0_0_1_0_0_1]; refine Gets.cond true (by kernel_rfl) ((show evalX (KSt.ts (rcS14 w m k L e0)) (.tmp 13) = .bool (decide ((byteRV w k) ≥ 128)) by kernel_rfl).trans (by rw [(show (decide ((byteRV w k) ≥ 128)) = true from hb)])) ?_; show Gets _ _ (codeAt [1, 1, 0, 1, 0, 0, 1, 0, 0, 1, 0] Brc) _ _
  refine Gets.ofN fitT lane_sound (conT_agree _ _) 12 40 (by kernel_rfl) (x := .normal) (s' := (rcS18 w m k L e0)) ((rcR16 w m k L e0).trans (by rw [condT (ble_t (by omega)), condF (ble_f (by omega)), condF (and_f1 (nbeq_f (by omega))), condT (and_t (ble_t (by omega)) (ble_t (by omega)))])) ?_
  show Gets _ _ (codeAt [1, 1, 0, 1, 0, 0, 1, 1] Brc) _ _
  refine Gets.ofN fitT lane_sound (conT_agree _ _) 12 40 (by kernel_rfl) (x := .normal) (s' := (rcS20 w m k L e0)) ((rcR17 w m k L e0).trans (by (show some (Ex.normal, (rcS19 w m k L e0)) = some (Ex.normal, (rcS20 w m k L e0)); unfold rcS19 rcS20; rw [(show (IntKind.wrap .i64 (k + 1)) = (k + 1) from wrap_i64_id (by omega) (by omega))]))) ?_
  exact hq
theorem rcC1_1_0_1_0_0_0_1_1 : (codeAt [1, 1, 0, 1, 0, 0, 0, 1, 1] Brc) = .exit 0 := by kernel_rfl
theorem rcxe (w b k : Int) (m : Nat) (L : List Int) (e0 : TypeId) (hk : k = 8)   {Q : Ex → St → Prop} (hq : Q (.exit 0) (KSt.low (rcS5 w k e0))) : Gets Tryd.prog (varH .u8 tz e0).low (codeAt [1, 1, 0, 1, 0, 0] Brc) (KSt.low (rcS4 w k e0)) Q := by
  rw [rcC1_1_0_1_0_0]; refine Gets.seq ?_
  rw [rcC1_1_0_1_0_0_0]; refine Gets.seq ?_
  refine Gets.ofN fitT lane_sound (conT_agree _ _) 12 40 (by kernel_rfl) (x := .normal) (s' := (rcS5 w k e0)) (rcR4 w k e0) ?_
  show Gets _ _ (codeAt [1, 1, 0, 1, 0, 0, 0, 1] Brc) _ _
  rw [rcC1_1_0_1_0_0_0_1]; refine Gets.cond false (by kernel_rfl) ((show evalX (KSt.ts (rcS5 w k e0)) (.tmp 7) = .bool (decide (k < 8)) by kernel_rfl).trans (by rw [(show (decide (k < 8)) = false from decide_eq_false (by omega))])) ?_; show Gets _ _ (codeAt [1, 1, 0, 1, 0, 0, 0, 1, 1] Brc) _ _
  rw [rcC1_1_0_1_0_0_0_1_1]; refine Gets.ev fitT.mix fitT.cfg (fitT.sound lane_sound 12 0) 12 rfl (s' := KSt.low (rcS5 w k e0)) (x := (.exit 0)) rfl ?_
  exact hq
theorem rcxn (w b k : Int) (m : Nat) (L : List Int) (e0 : TypeId) (hk : k = 8)   {Q : Ex → St → Prop} (hq : Q (.exit 0) (KSt.low (rcS13 w m k L e0))) : Gets Tryd.prog (varH .u8 tz e0).low (codeAt [1, 1, 0, 1, 0, 0] Brc) (KSt.low (rcS12 w m k L e0)) Q := by
  rw [rcC1_1_0_1_0_0]; refine Gets.seq ?_
  rw [rcC1_1_0_1_0_0_0]; refine Gets.seq ?_
  refine Gets.ofN fitT lane_sound (conT_agree _ _) 12 40 (by kernel_rfl) (x := .normal) (s' := (rcS13 w m k L e0)) (rcR11 w m k L e0) ?_
  show Gets _ _ (codeAt [1, 1, 0, 1, 0, 0, 0, 1] Brc) _ _
  rw [rcC1_1_0_1_0_0_0_1]; refine Gets.cond false (by kernel_rfl) ((show evalX (KSt.ts (rcS13 w m k L e0)) (.tmp 7) = .bool (decide (k < 8)) by kernel_rfl).trans (by rw [(show (decide (k < 8)) = false from decide_eq_false (by omega))])) ?_; show Gets _ _ (codeAt [1, 1, 0, 1, 0, 0, 0, 1, 1] Brc) _ _
  rw [rcC1_1_0_1_0_0_0_1_1]; refine Gets.ev fitT.mix fitT.cfg (fitT.sound lane_sound 12 0) 12 rfl (s' := KSt.low (rcS13 w m k L e0)) (x := (.exit 0)) rfl ?_
  exact hq
theorem rcC1_1_1 : (codeAt [1, 1, 1] Brc) = .seq (codeAt [1, 1, 1, 0] Brc) (codeAt [1, 1, 1, 1] Brc) := by kernel_rfl
noncomputable def rcS21 (e0 : TypeId) : KSt := ⟨(frameL 19 [(2, (.slice (some ⟨1, 0, none⟩) 0 0))]), ⟨2, 1, [(1, 0, .cells [] 3 true), (0, 0, .cells [(.int .u8 0), (.int .u8 1), (.int .u8 56), (.int .u8 2), (.int .u8 57), (.int .u8 49), (.int .u8 28), (.int .u8 3), (.int .u8 61), (.int .u8 58), (.int .u8 42), (.int .u8 50), (.int .u8 38), (.int .u8 29), (.int .u8 17), (.int .u8 4), (.int .u8 62), (.int .u8 47), (.int .u8 59), (.int .u8 36), (.int .u8 45), (.int .u8 43), (.int .u8 51), (.int .u8 22), (.int .u8 53), (.int .u8 39), (.int .u8 33), (.int .u8 30), (.int .u8 24), (.int .u8 18), (.int .u8 12), (.int .u8 5), (.int .u8 63), (.int .u8 55), (.int .u8 48), (.int .u8 27), (.int .u8 60), (.int .u8 41), (.int .u8 37), (.int .u8 16), (.int .u8 46), (.int .u8 35), (.int .u8 44), (.int .u8 21), (.int .u8 52), (.int .u8 32), (.int .u8 23), (.int .u8 11), (.int .u8 54), (.int .u8 26), (.int .u8 40), (.int .u8 15), (.int .u8 34), (.int .u8 20), (.int .u8 31), (.int .u8 10), (.int .u8 25), (.int .u8 14), (.int .u8 19), (.int .u8 9), (.int .u8 13), (.int .u8 8), (.int .u8 7), (.int .u8 6)] e0 false)]⟩⟩
theorem rcR18 (w : Int) (k : Int) (e0 : TypeId) : evCK Tryd.prog cfgT (runK Tryd.prog cfgT fsT (conT laneDom laneE) 12 40) 12 (codeAt [1, 1, 1, 0] Brc) (rcS5 w k e0) (normC 1 [2]) =
  some (.normal, (rcS21 e0)) := by kernel_rfl
theorem rcC1_1_1_1 : (codeAt [1, 1, 1, 1] Brc) = .ret := by kernel_rfl
theorem rcfe (w b k : Int) (m : Nat) (L : List Int) (e0 : TypeId)   {Q : Ex → St → Prop} (hq : Q .ret (KSt.low (rcS21 e0))) : Gets Tryd.prog (varH .u8 tz e0).low (codeAt [1, 1, 1] Brc) (KSt.low (rcS5 w k e0)) Q := by
  rw [rcC1_1_1]; refine Gets.seq ?_
  refine Gets.ofN fitT lane_sound (conT_agree _ _) 12 40 (by kernel_rfl) (x := .normal) (s' := (rcS21 e0)) (rcR18 w k e0) ?_
  show Gets _ _ (codeAt [1, 1, 1, 1] Brc) _ _
  rw [rcC1_1_1_1]; refine Gets.ev fitT.mix fitT.cfg (fitT.sound lane_sound 12 0) 12 rfl (s' := KSt.low (rcS21 e0)) (x := .ret) rfl ?_
  exact hq
noncomputable def rcS22 (m : Nat) (L : List Int) (e0 : TypeId) : KSt := ⟨(frameL 19 [(2, (.slice (some ⟨1, 0, none⟩) m m))]), ⟨2, 1, [(1, 0, .ints .i64 L 3 true), (0, 0, .cells [(.int .u8 0), (.int .u8 1), (.int .u8 56), (.int .u8 2), (.int .u8 57), (.int .u8 49), (.int .u8 28), (.int .u8 3), (.int .u8 61), (.int .u8 58), (.int .u8 42), (.int .u8 50), (.int .u8 38), (.int .u8 29), (.int .u8 17), (.int .u8 4), (.int .u8 62), (.int .u8 47), (.int .u8 59), (.int .u8 36), (.int .u8 45), (.int .u8 43), (.int .u8 51), (.int .u8 22), (.int .u8 53), (.int .u8 39), (.int .u8 33), (.int .u8 30), (.int .u8 24), (.int .u8 18), (.int .u8 12), (.int .u8 5), (.int .u8 63), (.int .u8 55), (.int .u8 48), (.int .u8 27), (.int .u8 60), (.int .u8 41), (.int .u8 37), (.int .u8 16), (.int .u8 46), (.int .u8 35), (.int .u8 44), (.int .u8 21), (.int .u8 52), (.int .u8 32), (.int .u8 23), (.int .u8 11), (.int .u8 54), (.int .u8 26), (.int .u8 40), (.int .u8 15), (.int .u8 34), (.int .u8 20), (.int .u8 31), (.int .u8 10), (.int .u8 25), (.int .u8 14), (.int .u8 19), (.int .u8 9), (.int .u8 13), (.int .u8 8), (.int .u8 7), (.int .u8 6)] e0 false)]⟩⟩
theorem rcR19 (w : Int) (m : Nat) (k : Int) (L : List Int) (e0 : TypeId) : evCK Tryd.prog cfgT (runK Tryd.prog cfgT fsT (conT laneDom laneE) 12 40) 12 (codeAt [1, 1, 1, 0] Brc) (rcS13 w m k L e0) (normC 1 [2]) =
  some (.normal, (rcS22 m L e0)) := by kernel_rfl
theorem rcfn (w b k : Int) (m : Nat) (L : List Int) (e0 : TypeId)   {Q : Ex → St → Prop} (hq : Q .ret (KSt.low (rcS22 m L e0))) : Gets Tryd.prog (varH .u8 tz e0).low (codeAt [1, 1, 1] Brc) (KSt.low (rcS13 w m k L e0)) Q := by
  rw [rcC1_1_1]; refine Gets.seq ?_
  refine Gets.ofN fitT lane_sound (conT_agree _ _) 12 40 (by kernel_rfl) (x := .normal) (s' := (rcS22 m L e0)) (rcR19 w m k L e0) ?_
  show Gets _ _ (codeAt [1, 1, 1, 1] Brc) _ _
  rw [rcC1_1_1_1]; refine Gets.ev fitT.mix fitT.cfg (fitT.sound lane_sound 12 0) 12 rfl (s' := KSt.low (rcS22 m L e0)) (x := .ret) rfl ?_
  exact hq
theorem rcC1_1_0_1 : (codeAt [1, 1, 0, 1] Brc) = .block 0 (codeAt [1, 1, 0, 1, 0] Brc) := by kernel_rfl
theorem rcC1_1_0_1_0 : (codeAt [1, 1, 0, 1, 0] Brc) = .loop (codeAt [1, 1, 0, 1, 0, 0] Brc) := by kernel_rfl
noncomputable def Qrc (w : Int) (e0 : TypeId) : Ex → St → Prop := Eng.Ends Tryd.prog Tryd.f33.results.toList fun r sh => r = .slice (some ⟨1, 0, none⟩) (List.length (rcL w 8)) (List.length (rcL w 8)) ∧ Fits (MH e0).low sh (effK (MH e0) [] [.ints .i64 (rcL w 8) 3 true]).low
theorem qrc {w b : Int} {e0 : TypeId} {s : KSt} {m : Nat} (hm : List.length (rcL w 8) = m) (hr : resL Tryd.prog s.low Tryd.f33.results.toList = some [.slice (some ⟨1, 0, none⟩) m m])
    (h1 : s.low.h.get 1 = some (KObj.ints .i64 (rcL w 8) 3 true).low) (hx : s.low.h.next ≤ 2) : Qrc w e0 .ret s.low := by
  subst hm
  refine Ends.of hr ⟨rfl, ?_⟩
  rw [effK_low]
  refine Fits.eff (mh_wf e0) (by simp) (fun p hp => by cases hp) (fun i o ho => ?_) (fun a o ho _ => .inl (mh_ro e0 a o ho)) hx
  match i, ho with
  | 0, ho => cases ho; exact h1
inductive Irc (w : Int) (e0 : TypeId) : Nat → KSt → Prop
  | e (k : Int) (m : Nat) (L : List Int) (hk : 0 ≤ k) (hk8 : k ≤ 8) (hE : rcL w (Int.toNat k) = []) : Irc w e0 (8 - k).toNat (rcS4 w k e0)
  | n (k : Int) (m : Nat) (L : List Int) (hk : 0 ≤ k) (hk8 : k ≤ 8) (hE : rcL w (Int.toNat k) = L) (hm : L.length = m) (hm1 : 1 ≤ m) : Irc w e0 (8 - k).toNat (rcS12 w m k L e0)
theorem looprc (w : Int) (e0 : TypeId) (m : Nat) (s : KSt) (hI : Irc w e0 m s) :
    Gets Tryd.prog (varH .u8 tz e0).low (codeAt [1, 1, 0, 1] Brc) s.low (onN (fun s => Gets Tryd.prog (varH .u8 tz e0).low (codeAt [1, 1, 1] Brc) s ((Qrc w e0))) ((Qrc w e0))) := by
  rw [rcC1_1_0_1, rcC1_1_0_1_0]
  refine Gets.loopG (fun m s => Irc w e0 m s) ?_ _ _ hI
  clear hI m s
  intro m s hI
  cases hI with
  | e k m L hk hk8 hE =>
    by_cases h8 : k = 8
    · refine rcxe w 0 k 0 [] e0 h8 ?_
      refine ⟨fun _ => ?_, fun h => by cases h⟩
      subst h8
      have hE8 : rcL w 8 = [] := hE
      exact rcfe w 0 8 0 [] e0 (qrc (m := 0) (b := 0) (by rw [hE8]; rfl) (by kernel_rfl) (by rw [hE8]; kernel_rfl) (show (2 : Nat) ≤ 2 by decide))
    · cases hb : (decide ((byteRV w k) ≥ 128)) with
      | false =>
        refine rce0 w 0 k 0 [] e0 hk (by omega) hb ?_
        exact ⟨_, _, by omega, rfl, .e (k + 1) 0 [] (by omega) (by omega) (by rw [rc_lo w hk (by simpa using hb)]; exact hE)⟩
      | true =>
        refine rce1 w 0 k 0 [] e0 hk (by omega) hb ?_
        exact ⟨(8 - (k + 1)).toNat, (rcS12 w 1 (k + 1) [k] e0), by omega, rfl, .n (k + 1) 1 [k] (by omega) (by omega) (by rw [rc_hi w hk (by simpa using hb), hE]; rfl) rfl (by omega)⟩
  | n k m L hk hk8 hE hm hm1 =>
    have hm8 : m ≤ 8 := by have := rc_len w (Int.toNat k); rw [hE, hm] at this; omega
    by_cases h8 : k = 8
    · refine rcxn w 0 k m L e0 h8 ?_
      refine ⟨fun _ => ?_, fun h => by cases h⟩
      subst h8
      have hE8 : rcL w 8 = L := hE
      exact rcfn w 0 8 m L e0 (qrc (m := m) (b := 0) (by rw [hE8]; exact hm) (by kernel_rfl) (by rw [hE8]; kernel_rfl) (show (2 : Nat) ≤ 2 by decide))
    · cases hb : (decide ((byteRV w k) ≥ 128)) with
      | false =>
        refine rcn0 w 0 k m L e0 hk (by omega) hm hm1 hm8 hb ?_
        exact ⟨_, _, by omega, rfl, .n (k + 1) m L (by omega) (by omega) (by rw [rc_lo w hk (by simpa using hb)]; exact hE) hm hm1⟩
      | true =>
        refine rcn1 w 0 k m L e0 hk (by omega) hm hm1 hm8 hb ?_
        exact ⟨_, _, by omega, rfl, .n (k + 1) (m + 1) _ (by omega) (by omega) (by rw [rc_hi w hk (by simpa using hb), hE, ← hm, List.take_length]) (by rw [List.length_append, List.length_take, hm, Nat.min_self]; rfl) (by omega)⟩
theorem rc_does (w : Int) (e0 : TypeId) : DoesC Tryd.prog 33 [(.int .u64 w)] (MH e0).low (.slice (some ⟨1, 0, none⟩) (List.length (rcL w 8)) (List.length (rcL w 8))) (effK (MH e0) [] [.ints .i64 (rcL w 8) 3 true]).low := by
  refine Gets.does Tryd.func33 Brc_is (by rw [oneVar]; exact (show (1 : Nat) ≤ 1 by decide)) ?_
  show Gets Tryd.prog (varH .u8 tz e0).low Brc (KSt.low (rcS0 w e0)) (Qrc w e0)
  refine rcpre w 0 0 0 [] e0 ?_
  exact looprc w e0 _ _ (.e 0 0 [] (by omega) (by omega) rfl)
def rcE : ConE := fun acc f args => match f, args with
  | 33, [(.int .u64 w)] => (match acc.cells 0 with
    | some (cs, e, false) => (match isTz tz cs with
      | true => some ⟨[0], [(.int .u64 w)], [.cells cs e false], .slice (some ⟨1, 0, none⟩) (List.length (rcL w 8)) (List.length (rcL w 8)), [], [.ints .i64 (rcL w 8) 3 true]⟩
      | false => none)
    | _ => none)
  | _, _ => none
theorem rc_ok : ∀ (h : AH) (f : FuncId) (args : List Value) (c : Con), rcE (accA h) f args = some c → ConOk Tryd.prog f args h c := by
  intro h f args c hE
  unfold rcE at hE
  split at hE
  · split at hE
    · rename_i cs e hc
      split at hE
      · rename_i hz
        have hcs := isTz_eq hz
        subst hcs
        have hc0 : h.get 0 = some (.cells (intCells .u8 tz) e false) := by
          have hc : cellsA h 0 = _ := hc
          unfold cellsA at hc
          split at hc
          · rename_i hq; cases hc; exact hq
          · cases hc
        cases hE
        exact ⟨view_var rfl rfl h hc0, rc_does _ e, fun a o ho hr => (by obtain ⟨_, rfl⟩ := mkH1_get ho; cases hr), fun p hp => (by cases hp), fun o ho => (by
          rcases List.mem_singleton.1 ho with rfl; rfl), .nil⟩
      · cases hE
    · cases hE
  · cases hE
theorem rc_fnok : FnOk Tryd.prog 33 := fitT.fnOk _ (by
  have h0 : fsT.contains 33 = true := by kernel_rfl
  simpa using h0)

end Go.Proofs.YteafenadjidkdaaDoor.news
