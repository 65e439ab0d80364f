/- Which places are claimed: a new row. -/
import Derived.Test.YteafenadjidkdaaDoorLane
import Derived.WalkKit
import Derived.ProofKit
import Derived.OpenShut
import Derived.ChangeOld
import Derived.Below
import Derived.SizedLaws
namespace Go.Proofs.YteafenadjidkdaaDoor.claimed
open Go.Eng
open Go.ChangeShapes Go.WideShapes Go.ChangeAt Go.RowKit
set_option linter.unusedVariables false
set_option linter.unusedSimpArgs false
set_option maxRecDepth 100000
noncomputable def cfgT : Cfg := ⟨[]⟩
noncomputable def fsT : List FuncId := [32]
theorem fitT : Fit Tryd.prog cfgT fsT := ⟨by kernel_rfl, Cfg.ok_of (by kernel_rfl), by kernel_rfl⟩
def onS (Q : Ex → St → Prop) : Ex → St → Prop
  | .goto _, _ => False
  | x, s => Q x s
theorem Gets.scope {P : Program} {h0 : AH} {c : Code} {s : St} {Q : Ex → St → Prop} (h : Gets P h0 c s (onS Q)) : Gets P h0 (.scope c) s Q := by
  intro ρ0 w0 a w ρ t
  refine wpIn_Fr.2 (scope_wp 0 (fun _ _ _ _ => False) (fun _ _ _ _ h => h.elim) (fun _ _ _ h => h) ?_)
  refine wp_mono (wpIn_Fr.1 (h ρ0 w0 a w ρ t)) ?_
  rintro e a' w' ⟨x, s', ρ', rfl, hq, t'⟩
  cases x with
  | goto l => exact hq.elim
  | normal => exact ⟨_, s', ρ', rfl, hq, t'⟩
  | exit id => exact ⟨_, s', ρ', rfl, hq, t'⟩
  | ret => exact ⟨_, s', ρ', rfl, hq, t'⟩
/-- The places that are claimed, below a place. -/
def clL (w : Int) : Nat → List Int
  | 0 => []
  | k + 1 => clL w k ++ (if byteV w (k : Int) < 128 then [] else [(k : Int)])
theorem clL_len (w : Int) : ∀ k, (clL w k).length ≤ k
  | 0 => Nat.le_refl _
  | k + 1 => by
    have := clL_len w k
    show (clL w k ++ _).length ≤ k + 1
    rw [List.length_append]
    split <;> simp <;> omega
theorem clL_lo {w k : Int} (hk : 0 ≤ k) (h : decide (byteV w k < 128) = true) : clL w (Int.toNat (k + 1)) = clL w (Int.toNat k) := by
  rw [show Int.toNat (k + 1) = Int.toNat k + 1 by omega]
  show clL w (Int.toNat k) ++ _ = _
  rw [Int.toNat_of_nonneg hk, if_pos (of_decide_eq_true h), List.append_nil]
theorem clL_hi {w k : Int} (hk : 0 ≤ k) (h : decide (byteV w k < 128) = false) : clL w (Int.toNat (k + 1)) = clL w (Int.toNat k) ++ [k] := by
  rw [show Int.toNat (k + 1) = Int.toNat k + 1 by omega]
  show clL w (Int.toNat k) ++ _ = _
  rw [Int.toNat_of_nonneg hk, if_neg (of_decide_eq_false h)]
def clNone (w : Int) : Bool := (clL w 8).isEmpty
noncomputable def MH (e0 : TypeId) : KH := mkH [.cells (intCells .u8 tz) e0 false]
def clV (w : Int) : Value := match clNone w with
  | true => .slice none 0 0
  | false => .slice (some ⟨1, 0, none⟩) (List.length (clL w 8)) (List.length (clL w 8))
def clNews (w : Int) : List KObj := match clNone w with
  | true => []
  | false => [.ints .i64 (clL w 8) 3 true]
noncomputable def B : Code := bodyOf Tryd.prog 32
theorem B_is : Tryd.f32.body = some B := by kernel_rfl
theorem B_ok : okCode Tryd.prog.globals.size B = true := by kernel_rfl
noncomputable def S0 (w : Int) (e0 : TypeId) : KSt := (firstK [(.int .u64 w)] 18 ⟨1, 1, [(0, 0, .cells [(.int .u8 0), (.int .u8 1), (.int .u8 56), (.int .u8 2), (.int .u8 57), (.int .u8 49), (.int .u8 28), (.int .u8 3), (.int .u8 61), (.int .u8 58), (.int .u8 42), (.int .u8 50), (.int .u8 38), (.int .u8 29), (.int .u8 17), (.int .u8 4), (.int .u8 62), (.int .u8 47), (.int .u8 59), (.int .u8 36), (.int .u8 45), (.int .u8 43), (.int .u8 51), (.int .u8 22), (.int .u8 53), (.int .u8 39), (.int .u8 33), (.int .u8 30), (.int .u8 24), (.int .u8 18), (.int .u8 12), (.int .u8 5), (.int .u8 63), (.int .u8 55), (.int .u8 48), (.int .u8 27), (.int .u8 60), (.int .u8 41), (.int .u8 37), (.int .u8 16), (.int .u8 46), (.int .u8 35), (.int .u8 44), (.int .u8 21), (.int .u8 52), (.int .u8 32), (.int .u8 23), (.int .u8 11), (.int .u8 54), (.int .u8 26), (.int .u8 40), (.int .u8 15), (.int .u8 34), (.int .u8 20), (.int .u8 31), (.int .u8 10), (.int .u8 25), (.int .u8 14), (.int .u8 19), (.int .u8 9), (.int .u8 13), (.int .u8 8), (.int .u8 7), (.int .u8 6)] e0 false)]⟩)
theorem C : B = .seq (codeAt [0] B) (codeAt [1] B) := by kernel_rfl
noncomputable def S1 (w : Int) (e0 : TypeId) : KSt := ⟨(frameL 18 [(0, (.int .u64 w))]), ⟨1, 1, [(0, 0, .cells [(.int .u8 0), (.int .u8 1), (.int .u8 56), (.int .u8 2), (.int .u8 57), (.int .u8 49), (.int .u8 28), (.int .u8 3), (.int .u8 61), (.int .u8 58), (.int .u8 42), (.int .u8 50), (.int .u8 38), (.int .u8 29), (.int .u8 17), (.int .u8 4), (.int .u8 62), (.int .u8 47), (.int .u8 59), (.int .u8 36), (.int .u8 45), (.int .u8 43), (.int .u8 51), (.int .u8 22), (.int .u8 53), (.int .u8 39), (.int .u8 33), (.int .u8 30), (.int .u8 24), (.int .u8 18), (.int .u8 12), (.int .u8 5), (.int .u8 63), (.int .u8 55), (.int .u8 48), (.int .u8 27), (.int .u8 60), (.int .u8 41), (.int .u8 37), (.int .u8 16), (.int .u8 46), (.int .u8 35), (.int .u8 44), (.int .u8 21), (.int .u8 52), (.int .u8 32), (.int .u8 23), (.int .u8 11), (.int .u8 54), (.int .u8 26), (.int .u8 40), (.int .u8 15), (.int .u8 34), (.int .u8 20), (.int .u8 31), (.int .u8 10), (.int .u8 25), (.int .u8 14), (.int .u8 19), (.int .u8 9), (.int .u8 13), (.int .u8 8), (.int .u8 7), (.int .u8 6)] e0 false)]⟩⟩
theorem R1 (w : Int) (e0 : TypeId) : evCK Tryd.prog cfgT (runK Tryd.prog cfgT fsT (conT laneDom laneE) 12 40) 12 (codeAt [0] B) (S0 w e0) (normC 1 [0]) =
  some (.normal, (S1 w e0)) := by kernel_rfl
theorem C1 : (codeAt [1] B) = .scope (codeAt [1, 0] B) := by kernel_rfl
theorem C1_0 : (codeAt [1, 0] B) = .seq (codeAt [1, 0, 0] B) (codeAt [1, 0, 1] B) := by kernel_rfl
noncomputable def S2 (w : Int) (e0 : TypeId) : KSt := ⟨(frameL 18 [(0, (.int .u64 w)), (3, (.slice none 0 0))]), ⟨1, 1, [(0, 0, .cells [(.int .u8 0), (.int .u8 1), (.int .u8 56), (.int .u8 2), (.int .u8 57), (.int .u8 49), (.int .u8 28), (.int .u8 3), (.int .u8 61), (.int .u8 58), (.int .u8 42), (.int .u8 50), (.int .u8 38), (.int .u8 29), (.int .u8 17), (.int .u8 4), (.int .u8 62), (.int .u8 47), (.int .u8 59), (.int .u8 36), (.int .u8 45), (.int .u8 43), (.int .u8 51), (.int .u8 22), (.int .u8 53), (.int .u8 39), (.int .u8 33), (.int .u8 30), (.int .u8 24), (.int .u8 18), (.int .u8 12), (.int .u8 5), (.int .u8 63), (.int .u8 55), (.int .u8 48), (.int .u8 27), (.int .u8 60), (.int .u8 41), (.int .u8 37), (.int .u8 16), (.int .u8 46), (.int .u8 35), (.int .u8 44), (.int .u8 21), (.int .u8 52), (.int .u8 32), (.int .u8 23), (.int .u8 11), (.int .u8 54), (.int .u8 26), (.int .u8 40), (.int .u8 15), (.int .u8 34), (.int .u8 20), (.int .u8 31), (.int .u8 10), (.int .u8 25), (.int .u8 14), (.int .u8 19), (.int .u8 9), (.int .u8 13), (.int .u8 8), (.int .u8 7), (.int .u8 6)] e0 false)]⟩⟩
theorem R2 (w : Int) (e0 : TypeId) : evCK Tryd.prog cfgT (runK Tryd.prog cfgT fsT (conT laneDom laneE) 12 40) 12 (codeAt [1, 0, 0] B) (S1 w e0) (normC 1 [0, 3]) =
  some (.normal, (S2 w e0)) := by kernel_rfl
theorem C1_0_1 : (codeAt [1, 0, 1] B) = .seq (codeAt [1, 0, 1, 0] B) (codeAt [1, 0, 1, 1] B) := by kernel_rfl
theorem R3 (w : Int) (e0 : TypeId) : evCK Tryd.prog cfgT (runK Tryd.prog cfgT fsT (conT laneDom laneE) 12 40) 12 (codeAt [1, 0, 1, 0] B) (S2 w e0) (normC 1 [0, 3]) =
  some (.normal, (S2 w e0)) := by kernel_rfl
theorem C1_0_1_1 : (codeAt [1, 0, 1, 1] B) = .seq (codeAt [1, 0, 1, 1, 0] B) (codeAt [1, 0, 1, 1, 1] B) := by kernel_rfl
theorem C1_0_1_1_0 : (codeAt [1, 0, 1, 1, 0] B) = .seq (codeAt [1, 0, 1, 1, 0, 0] B) (codeAt [1, 0, 1, 1, 0, 1] B) := by kernel_rfl
noncomputable def S3 (w : Int) (e0 : TypeId) : KSt := ⟨(frameL 18 [(0, (.int .u64 w)), (3, (.slice none 0 0)), (5, (.int .i64 0))]), ⟨1, 1, [(0, 0, .cells [(.int .u8 0), (.int .u8 1), (.int .u8 56), (.int .u8 2), (.int .u8 57), (.int .u8 49), (.int .u8 28), (.int .u8 3), (.int .u8 61), (.int .u8 58), (.int .u8 42), (.int .u8 50), (.int .u8 38), (.int .u8 29), (.int .u8 17), (.int .u8 4), (.int .u8 62), (.int .u8 47), (.int .u8 59), (.int .u8 36), (.int .u8 45), (.int .u8 43), (.int .u8 51), (.int .u8 22), (.int .u8 53), (.int .u8 39), (.int .u8 33), (.int .u8 30), (.int .u8 24), (.int .u8 18), (.int .u8 12), (.int .u8 5), (.int .u8 63), (.int .u8 55), (.int .u8 48), (.int .u8 27), (.int .u8 60), (.int .u8 41), (.int .u8 37), (.int .u8 16), (.int .u8 46), (.int .u8 35), (.int .u8 44), (.int .u8 21), (.int .u8 52), (.int .u8 32), (.int .u8 23), (.int .u8 11), (.int .u8 54), (.int .u8 26), (.int .u8 40), (.int .u8 15), (.int .u8 34), (.int .u8 20), (.int .u8 31), (.int .u8 10), (.int .u8 25), (.int .u8 14), (.int .u8 19), (.int .u8 9), (.int .u8 13), (.int .u8 8), (.int .u8 7), (.int .u8 6)] e0 false)]⟩⟩
theorem R4 (w : Int) (e0 : TypeId) : evCK Tryd.prog cfgT (runK Tryd.prog cfgT fsT (conT laneDom laneE) 12 40) 12 (codeAt [1, 0, 1, 1, 0, 0] B) (S2 w e0) (normC 1 [0, 3, 5]) =
  some (.normal, (S3 w e0)) := by kernel_rfl
theorem pre (w k : Int) (m : Nat) (L : List Int) (e0 : TypeId)   {Q : Ex → St → Prop} (hq : Gets Tryd.prog (varH .u8 tz e0).low (codeAt [1, 0, 1, 1, 0, 1] B) (KSt.low (S3 w e0)) (onN (fun s => Gets Tryd.prog (varH .u8 tz e0).low (codeAt [1, 0, 1, 1, 1] B) s (onS (Q))) (onS (Q)))) : Gets Tryd.prog (varH .u8 tz e0).low B (KSt.low (S0 w e0)) Q := by
  rw [C]; refine Gets.seq ?_
  refine Gets.ofN fitT lane_sound (conT_agree _ _) 12 40 (by kernel_rfl) (x := .normal) (s' := (S1 w e0)) (R1 w e0) ?_
  show Gets _ _ (codeAt [1] B) _ _
  rw [C1]; refine Gets.scope ?_
  rw [C1_0]; refine Gets.seq ?_
  refine Gets.ofN fitT lane_sound (conT_agree _ _) 12 40 (by kernel_rfl) (x := .normal) (s' := (S2 w e0)) (R2 w e0) ?_
  show Gets _ _ (codeAt [1, 0, 1] B) _ _
  rw [C1_0_1]; refine Gets.seq ?_
  refine Gets.ofN fitT lane_sound (conT_agree _ _) 12 40 (by kernel_rfl) (x := .normal) (s' := (S2 w e0)) (R3 w e0) ?_
  show Gets _ _ (codeAt [1, 0, 1, 1] B) _ _
  rw [C1_0_1_1]; refine Gets.seq ?_
  rw [C1_0_1_1_0]; refine Gets.seq ?_
  refine Gets.ofN fitT lane_sound (conT_agree _ _) 12 40 (by kernel_rfl) (x := .normal) (s' := (S3 w e0)) (R4 w e0) ?_
  show Gets _ _ (codeAt [1, 0, 1, 1, 0, 1] B) _ _
  exact hq
noncomputable def S4 (w : Int) (k : Int) (e0 : TypeId) : KSt := ⟨(frameL 18 [(0, (.int .u64 w)), (3, (.slice none 0 0)), (5, (.int .i64 k))]), ⟨1, 1, [(0, 0, .cells [(.int .u8 0), (.int .u8 1), (.int .u8 56), (.int .u8 2), (.int .u8 57), (.int .u8 49), (.int .u8 28), (.int .u8 3), (.int .u8 61), (.int .u8 58), (.int .u8 42), (.int .u8 50), (.int .u8 38), (.int .u8 29), (.int .u8 17), (.int .u8 4), (.int .u8 62), (.int .u8 47), (.int .u8 59), (.int .u8 36), (.int .u8 45), (.int .u8 43), (.int .u8 51), (.int .u8 22), (.int .u8 53), (.int .u8 39), (.int .u8 33), (.int .u8 30), (.int .u8 24), (.int .u8 18), (.int .u8 12), (.int .u8 5), (.int .u8 63), (.int .u8 55), (.int .u8 48), (.int .u8 27), (.int .u8 60), (.int .u8 41), (.int .u8 37), (.int .u8 16), (.int .u8 46), (.int .u8 35), (.int .u8 44), (.int .u8 21), (.int .u8 52), (.int .u8 32), (.int .u8 23), (.int .u8 11), (.int .u8 54), (.int .u8 26), (.int .u8 40), (.int .u8 15), (.int .u8 34), (.int .u8 20), (.int .u8 31), (.int .u8 10), (.int .u8 25), (.int .u8 14), (.int .u8 19), (.int .u8 9), (.int .u8 13), (.int .u8 8), (.int .u8 7), (.int .u8 6)] e0 false)]⟩⟩
theorem C1_0_1_1_0_1_0_0 : (codeAt [1, 0, 1, 1, 0, 1, 0, 0] B) = .seq (codeAt [1, 0, 1, 1, 0, 1, 0, 0, 0] B) (codeAt [1, 0, 1, 1, 0, 1, 0, 0, 1] B) := by kernel_rfl
noncomputable def S5 (w : Int) (k : Int) (e0 : TypeId) : KSt := ⟨(frameL 18 [(0, (.int .u64 w)), (3, (.slice none 0 0)), (5, (.int .i64 k)), (6, (.bool (decide (k < 8))))]), ⟨1, 1, [(0, 0, .cells [(.int .u8 0), (.int .u8 1), (.int .u8 56), (.int .u8 2), (.int .u8 57), (.int .u8 49), (.int .u8 28), (.int .u8 3), (.int .u8 61), (.int .u8 58), (.int .u8 42), (.int .u8 50), (.int .u8 38), (.int .u8 29), (.int .u8 17), (.int .u8 4), (.int .u8 62), (.int .u8 47), (.int .u8 59), (.int .u8 36), (.int .u8 45), (.int .u8 43), (.int .u8 51), (.int .u8 22), (.int .u8 53), (.int .u8 39), (.int .u8 33), (.int .u8 30), (.int .u8 24), (.int .u8 18), (.int .u8 12), (.int .u8 5), (.int .u8 63), (.int .u8 55), (.int .u8 48), (.int .u8 27), (.int .u8 60), (.int .u8 41), (.int .u8 37), (.int .u8 16), (.int .u8 46), (.int .u8 35), (.int .u8 44), (.int .u8 21), (.int .u8 52), (.int .u8 32), (.int .u8 23), (.int .u8 11), (.int .u8 54), (.int .u8 26), (.int .u8 40), (.int .u8 15), (.int .u8 34), (.int .u8 20), (.int .u8 31), (.int .u8 10), (.int .u8 25), (.int .u8 14), (.int .u8 19), (.int .u8 9), (.int .u8 13), (.int .u8 8), (.int .u8 7), (.int .u8 6)] e0 false)]⟩⟩
theorem R5 (w : Int) (k : Int) (e0 : TypeId) : evCK Tryd.prog cfgT (runK Tryd.prog cfgT fsT (conT laneDom laneE) 12 40) 12 (codeAt [1, 0, 1, 1, 0, 1, 0, 0, 0] B) (S4 w k e0) (normC 1 [0, 3, 5, 6]) =
  some (.normal, (S5 w k e0)) := by kernel_rfl
theorem C1_0_1_1_0_1_0_0_1 : (codeAt [1, 0, 1, 1, 0, 1, 0, 0, 1] B) = .seq (codeAt [1, 0, 1, 1, 0, 1, 0, 0, 1, 0] B) (codeAt [1, 0, 1, 1, 0, 1, 0, 0, 1, 1] B) := by kernel_rfl
theorem C1_0_1_1_0_1_0_0_1_0 : (codeAt [1, 0, 1, 1, 0, 1, 0, 0, 1, 0] B) = .cond (.tmp 6) (codeAt [1, 0, 1, 1, 0, 1, 0, 0, 1, 0, 0] B) (codeAt [1, 0, 1, 1, 0, 1, 0, 0, 1, 0, 1] B) := by kernel_rfl
theorem R6 (w : Int) (k : Int) (e0 : TypeId) : evCK Tryd.prog cfgT (runK Tryd.prog cfgT fsT (conT laneDom laneE) 12 40) 12 (codeAt [1, 0, 1, 1, 0, 1, 0, 0, 1, 0, 0] B) (S5 w k e0) (normC 1 [0, 3, 5]) =
  some (.normal, (S4 w k e0)) := by kernel_rfl
theorem C1_0_1_1_0_1_0_0_1_1 : (codeAt [1, 0, 1, 1, 0, 1, 0, 0, 1, 1] B) = .seq (codeAt [1, 0, 1, 1, 0, 1, 0, 0, 1, 1, 0] B) (codeAt [1, 0, 1, 1, 0, 1, 0, 0, 1, 1, 1] B) := by kernel_rfl
theorem C1_0_1_1_0_1_0_0_1_1_0 : (codeAt [1, 0, 1, 1, 0, 1, 0, 0, 1, 1, 0] B) = .block 1 (codeAt [1, 0, 1, 1, 0, 1, 0, 0, 1, 1, 0, 0] B) := by kernel_rfl
theorem C1_0_1_1_0_1_0_0_1_1_0_0 : (codeAt [1, 0, 1, 1, 0, 1, 0, 0, 1, 1, 0, 0] B) = .seq (codeAt [1, 0, 1, 1, 0, 1, 0, 0, 1, 1, 0, 0, 0] B) (codeAt [1, 0, 1, 1, 0, 1, 0, 0, 1, 1, 0, 0, 1] B) := by kernel_rfl
noncomputable def S6 (w : Int) (k : Int) (e0 : TypeId) : KSt := ⟨(frameL 18 [(0, (.int .u64 w)), (3, (.slice none 0 0)), (4, (.int .i64 k)), (5, (.int .i64 k))]), ⟨1, 1, [(0, 0, .cells [(.int .u8 0), (.int .u8 1), (.int .u8 56), (.int .u8 2), (.int .u8 57), (.int .u8 49), (.int .u8 28), (.int .u8 3), (.int .u8 61), (.int .u8 58), (.int .u8 42), (.int .u8 50), (.int .u8 38), (.int .u8 29), (.int .u8 17), (.int .u8 4), (.int .u8 62), (.int .u8 47), (.int .u8 59), (.int .u8 36), (.int .u8 45), (.int .u8 43), (.int .u8 51), (.int .u8 22), (.int .u8 53), (.int .u8 39), (.int .u8 33), (.int .u8 30), (.int .u8 24), (.int .u8 18), (.int .u8 12), (.int .u8 5), (.int .u8 63), (.int .u8 55), (.int .u8 48), (.int .u8 27), (.int .u8 60), (.int .u8 41), (.int .u8 37), (.int .u8 16), (.int .u8 46), (.int .u8 35), (.int .u8 44), (.int .u8 21), (.int .u8 52), (.int .u8 32), (.int .u8 23), (.int .u8 11), (.int .u8 54), (.int .u8 26), (.int .u8 40), (.int .u8 15), (.int .u8 34), (.int .u8 20), (.int .u8 31), (.int .u8 10), (.int .u8 25), (.int .u8 14), (.int .u8 19), (.int .u8 9), (.int .u8 13), (.int .u8 8), (.int .u8 7), (.int .u8 6)] e0 false)]⟩⟩
theorem R7 (w : Int) (k : Int) (e0 : TypeId) : evCK Tryd.prog cfgT (runK Tryd.prog cfgT fsT (conT laneDom laneE) 12 40) 12 (codeAt [1, 0, 1, 1, 0, 1, 0, 0, 1, 1, 0, 0, 0] B) (S4 w k e0) (normC 1 [0, 3, 4, 5]) =
  some (.normal, (S6 w k e0)) := by kernel_rfl
theorem C1_0_1_1_0_1_0_0_1_1_0_0_1 : (codeAt [1, 0, 1, 1, 0, 1, 0, 0, 1, 1, 0, 0, 1] B) = .seq (codeAt [1, 0, 1, 1, 0, 1, 0, 0, 1, 1, 0, 0, 1, 0] B) (codeAt [1, 0, 1, 1, 0, 1, 0, 0, 1, 1, 0, 0, 1, 1] B) := by kernel_rfl
theorem C1_0_1_1_0_1_0_0_1_1_0_0_1_0 : (codeAt [1, 0, 1, 1, 0, 1, 0, 0, 1, 1, 0, 0, 1, 0] B) = .seq (codeAt [1, 0, 1, 1, 0, 1, 0, 0, 1, 1, 0, 0, 1, 0, 0] B) (codeAt [1, 0, 1, 1, 0, 1, 0, 0, 1, 1, 0, 0, 1, 0, 1] B) := by kernel_rfl
noncomputable def S7 (w : Int) (k : Int) (e0 : TypeId) : KSt := ⟨(frameL 18 [(0, (.int .u64 w)), (3, (.slice none 0 0)), (4, (.int .i64 k)), (5, (.int .i64 k)), (11, (.bool (decide ((byteV w k) < 128))))]), ⟨1, 1, [(0, 0, .cells [(.int .u8 0), (.int .u8 1), (.int .u8 56), (.int .u8 2), (.int .u8 57), (.int .u8 49), (.int .u8 28), (.int .u8 3), (.int .u8 61), (.int .u8 58), (.int .u8 42), (.int .u8 50), (.int .u8 38), (.int .u8 29), (.int .u8 17), (.int .u8 4), (.int .u8 62), (.int .u8 47), (.int .u8 59), (.int .u8 36), (.int .u8 45), (.int .u8 43), (.int .u8 51), (.int .u8 22), (.int .u8 53), (.int .u8 39), (.int .u8 33), (.int .u8 30), (.int .u8 24), (.int .u8 18), (.int .u8 12), (.int .u8 5), (.int .u8 63), (.int .u8 55), (.int .u8 48), (.int .u8 27), (.int .u8 60), (.int .u8 41), (.int .u8 37), (.int .u8 16), (.int .u8 46), (.int .u8 35), (.int .u8 44), (.int .u8 21), (.int .u8 52), (.int .u8 32), (.int .u8 23), (.int .u8 11), (.int .u8 54), (.int .u8 26), (.int .u8 40), (.int .u8 15), (.int .u8 34), (.int .u8 20), (.int .u8 31), (.int .u8 10), (.int .u8 25), (.int .u8 14), (.int .u8 19), (.int .u8 9), (.int .u8 13), (.int .u8 8), (.int .u8 7), (.int .u8 6)] e0 false)]⟩⟩
theorem R8 (w : Int) (k : Int) (e0 : TypeId) : evCK Tryd.prog cfgT (runK Tryd.prog cfgT fsT (conT laneDom laneE) 12 40) 12 (codeAt [1, 0, 1, 1, 0, 1, 0, 0, 1, 1, 0, 0, 1, 0, 0] B) (S6 w k e0) (normC 1 [0, 3, 4, 5, 11]) =
  some (.normal, (S7 w k e0)) := by kernel_rfl
theorem C1_0_1_1_0_1_0_0_1_1_0_0_1_0_1 : (codeAt [1, 0, 1, 1, 0, 1, 0, 0, 1, 1, 0, 0, 1, 0, 1] B) = .cond (.tmp 11) (codeAt [1, 0, 1, 1, 0, 1, 0, 0, 1, 1, 0, 0, 1, 0, 1, 0] B) (codeAt [1, 0, 1, 1, 0, 1, 0, 0, 1, 1, 0, 0, 1, 0, 1, 1] B) := by kernel_rfl
theorem C1_0_1_1_0_1_0_0_1_1_0_0_1_0_1_0 : (codeAt [1, 0, 1, 1, 0, 1, 0, 0, 1, 1, 0, 0, 1, 0, 1, 0] B) = .exit 1 := by kernel_rfl
noncomputable def S8 (w : Int) (k : Int) (e0 : TypeId) : KSt := ⟨(frameL 18 [(0, (.int .u64 w)), (3, (.slice none 0 0)), (5, (.int .i64 (IntKind.wrap .i64 (k + 1))))]), ⟨1, 1, [(0, 0, .cells [(.int .u8 0), (.int .u8 1), (.int .u8 56), (.int .u8 2), (.int .u8 57), (.int .u8 49), (.int .u8 28), (.int .u8 3), (.int .u8 61), (.int .u8 58), (.int .u8 42), (.int .u8 50), (.int .u8 38), (.int .u8 29), (.int .u8 17), (.int .u8 4), (.int .u8 62), (.int .u8 47), (.int .u8 59), (.int .u8 36), (.int .u8 45), (.int .u8 43), (.int .u8 51), (.int .u8 22), (.int .u8 53), (.int .u8 39), (.int .u8 33), (.int .u8 30), (.int .u8 24), (.int .u8 18), (.int .u8 12), (.int .u8 5), (.int .u8 63), (.int .u8 55), (.int .u8 48), (.int .u8 27), (.int .u8 60), (.int .u8 41), (.int .u8 37), (.int .u8 16), (.int .u8 46), (.int .u8 35), (.int .u8 44), (.int .u8 21), (.int .u8 52), (.int .u8 32), (.int .u8 23), (.int .u8 11), (.int .u8 54), (.int .u8 26), (.int .u8 40), (.int .u8 15), (.int .u8 34), (.int .u8 20), (.int .u8 31), (.int .u8 10), (.int .u8 25), (.int .u8 14), (.int .u8 19), (.int .u8 9), (.int .u8 13), (.int .u8 8), (.int .u8 7), (.int .u8 6)] e0 false)]⟩⟩
theorem R9 (w : Int) (k : Int) (e0 : TypeId) : evCK Tryd.prog cfgT (runK Tryd.prog cfgT fsT (conT laneDom laneE) 12 40) 12 (codeAt [1, 0, 1, 1, 0, 1, 0, 0, 1, 1, 1] B) (S7 w k e0) (normC 1 [0, 3, 5]) =
  some (.normal, (S8 w k e0)) := by kernel_rfl
noncomputable def S9 (w : Int) (k : Int) (e0 : TypeId) : KSt := ⟨(frameL 18 [(0, (.int .u64 w)), (3, (.slice none 0 0)), (5, (.int .i64 (k + 1)))]), ⟨1, 1, [(0, 0, .cells [(.int .u8 0), (.int .u8 1), (.int .u8 56), (.int .u8 2), (.int .u8 57), (.int .u8 49), (.int .u8 28), (.int .u8 3), (.int .u8 61), (.int .u8 58), (.int .u8 42), (.int .u8 50), (.int .u8 38), (.int .u8 29), (.int .u8 17), (.int .u8 4), (.int .u8 62), (.int .u8 47), (.int .u8 59), (.int .u8 36), (.int .u8 45), (.int .u8 43), (.int .u8 51), (.int .u8 22), (.int .u8 53), (.int .u8 39), (.int .u8 33), (.int .u8 30), (.int .u8 24), (.int .u8 18), (.int .u8 12), (.int .u8 5), (.int .u8 63), (.int .u8 55), (.int .u8 48), (.int .u8 27), (.int .u8 60), (.int .u8 41), (.int .u8 37), (.int .u8 16), (.int .u8 46), (.int .u8 35), (.int .u8 44), (.int .u8 21), (.int .u8 52), (.int .u8 32), (.int .u8 23), (.int .u8 11), (.int .u8 54), (.int .u8 26), (.int .u8 40), (.int .u8 15), (.int .u8 34), (.int .u8 20), (.int .u8 31), (.int .u8 10), (.int .u8 25), (.int .u8 14), (.int .u8 19), (.int .u8 9), (.int .u8 13), (.int .u8 8), (.int .u8 7), (.int .u8 6)] e0 false)]⟩⟩
theorem e0_ (w k : Int) (m : Nat) (L : List Int) (e0 : TypeId) (hk : 0 ≤ k) (hk8 : k < 8) (hb : (decide ((byteV w k) < 128)) = true)   {Q : Ex → St → Prop} (hq : Q .normal (KSt.low (S9 w k e0))) : Gets Tryd.prog (varH .u8 tz e0).low (codeAt [1, 0, 1, 1, 0, 1, 0, 0] B) (KSt.low (S4 w k e0)) Q := by
  rw [C1_0_1_1_0_1_0_0]; refine Gets.seq ?_
  refine Gets.ofN fitT lane_sound (conT_agree _ _) 12 40 (by kernel_rfl) (x := .normal) (s' := (S5 w k e0)) (R5 w k e0) ?_
  show Gets _ _ (codeAt [1, 0, 1, 1, 0, 1, 0, 0, 1] B) _ _
  rw [C1_0_1_1_0_1_0_0_1]; refine Gets.seq ?_
  rw [C1_0_1_1_0_1_0_0_1_0]; refine Gets.cond true (by kernel_rfl) ((show evalX (KSt.ts (S5 w k e0)) (.tmp 6) = .bool (decide (k < 8)) by kernel_rfl).trans (by rw [(show (decide (k < 8)) = true from decide_eq_true (by omega))])) ?_; show Gets _ _ (codeAt [1, 0, 1, 1, 0, 1, 0, 0, 1, 0, 0] B) _ _
  refine Gets.ofN fitT lane_sound (conT_agree _ _) 12 40 (by kernel_rfl) (x := .normal) (s' := (S4 w k e0)) (R6 w k e0) ?_
  show Gets _ _ (codeAt [1, 0, 1, 1, 0, 1, 0, 0, 1, 1] B) _ _
  rw [C1_0_1_1_0_1_0_0_1_1]; refine Gets.seq ?_
  rw [C1_0_1_1_0_1_0_0_1_1_0]; refine Gets.block ?_
  rw [C1_0_1_1_0_1_0_0_1_1_0_0]; refine Gets.seq ?_
  refine Gets.ofN fitT lane_sound (conT_agree _ _) 12 40 (by kernel_rfl) (x := .normal) (s' := (S6 w k e0)) (R7 w k e0) ?_
  show Gets _ _ (codeAt [1, 0, 1, 1, 0, 1, 0, 0, 1, 1, 0, 0, 1] B) _ _
  rw [C1_0_1_1_0_1_0_0_1_1_0_0_1]; refine Gets.seq ?_
  rw [C1_0_1_1_0_1_0_0_1_1_0_0_1_0]; refine Gets.seq ?_
  refine Gets.ofN fitT lane_sound (conT_agree _ _) 12 40 (by kernel_rfl) (x := .normal) (s' := (S7 w k e0)) (R8 w k e0) ?_
  show Gets _ _ (codeAt [1, 0, 1, 1, 0, 1, 0, 0, 1, 1, 0, 0, 1, 0, 1] B) _ _
  rw [C1_0_1_1_0_1_0_0_1_1_0_0_1_0_1]; refine Gets.cond true (by kernel_rfl) ((show evalX (KSt.ts (S7 w k e0)) (.tmp 11) = .bool (decide ((byteV w k) < 128)) by kernel_rfl).trans (by rw [(show (decide ((byteV w k) < 128)) = true from hb)])) ?_; show Gets _ _ (codeAt [1, 0, 1, 1, 0, 1, 0, 0, 1, 1, 0, 0, 1, 0, 1, 0] B) _ _
  rw [C1_0_1_1_0_1_0_0_1_1_0_0_1_0_1_0]; refine Gets.ev fitT.mix fitT.cfg (fitT.sound lane_sound 12 0) 12 rfl (s' := KSt.low (S7 w k e0)) (x := (.exit 1)) rfl ?_
  refine ⟨fun _ => ?_, fun h => by cases h⟩
  show Gets _ _ (codeAt [1, 0, 1, 1, 0, 1, 0, 0, 1, 1, 1] B) _ _
  refine Gets.ofN fitT lane_sound (conT_agree _ _) 12 40 (by kernel_rfl) (x := .normal) (s' := (S9 w k e0)) ((R9 w k e0).trans (by (show some (Ex.normal, (S8 w k e0)) = some (Ex.normal, (S9 w k e0)); unfold S8 S9; rw [(show (IntKind.wrap .i64 (k + 1)) = (k + 1) from wrap_i64_id (by omega) (by omega))]))) ?_
  exact hq
theorem R10 (w : Int) (k : Int) (e0 : TypeId) : evCK Tryd.prog cfgT (runK Tryd.prog cfgT fsT (conT laneDom laneE) 12 40) 12 (codeAt [1, 0, 1, 1, 0, 1, 0, 0, 1, 1, 0, 0, 1, 0, 1, 1] B) (S7 w k e0) (normC 1 [0, 3, 4, 5]) =
  some (.normal, (S6 w k e0)) := by kernel_rfl
noncomputable def S10 (w : Int) (k : Int) (e0 : TypeId) : KSt := ⟨(frameL 18 [(0, (.int .u64 w)), (3, (.slice (some ⟨1, 0, none⟩) 1 1)), (5, (.int .i64 k))]), ⟨2, 1, [(1, 0, .cells [(.int .i64 k)] 3 true), (0, 0, .cells [(.int .u8 0), (.int .u8 1), (.int .u8 56), (.int .u8 2), (.int .u8 57), (.int .u8 49), (.int .u8 28), (.int .u8 3), (.int .u8 61), (.int .u8 58), (.int .u8 42), (.int .u8 50), (.int .u8 38), (.int .u8 29), (.int .u8 17), (.int .u8 4), (.int .u8 62), (.int .u8 47), (.int .u8 59), (.int .u8 36), (.int .u8 45), (.int .u8 43), (.int .u8 51), (.int .u8 22), (.int .u8 53), (.int .u8 39), (.int .u8 33), (.int .u8 30), (.int .u8 24), (.int .u8 18), (.int .u8 12), (.int .u8 5), (.int .u8 63), (.int .u8 55), (.int .u8 48), (.int .u8 27), (.int .u8 60), (.int .u8 41), (.int .u8 37), (.int .u8 16), (.int .u8 46), (.int .u8 35), (.int .u8 44), (.int .u8 21), (.int .u8 52), (.int .u8 32), (.int .u8 23), (.int .u8 11), (.int .u8 54), (.int .u8 26), (.int .u8 40), (.int .u8 15), (.int .u8 34), (.int .u8 20), (.int .u8 31), (.int .u8 10), (.int .u8 25), (.int .u8 14), (.int .u8 19), (.int .u8 9), (.int .u8 13), (.int .u8 8), (.int .u8 7), (.int .u8 6)] e0 false)]⟩⟩
theorem R11 (w : Int) (k : Int) (e0 : TypeId) : evCK Tryd.prog cfgT (runK Tryd.prog cfgT fsT (conT laneDom laneE) 12 40) 12 (codeAt [1, 0, 1, 1, 0, 1, 0, 0, 1, 1, 0, 0, 1, 1] B) (S6 w k e0) (normC 1 [0, 3, 5]) =
  some (.normal, (S10 w k e0)) := by kernel_rfl
noncomputable def S11 (w : Int) (k : Int) (e0 : TypeId) : KSt := ⟨(frameL 18 [(0, (.int .u64 w)), (3, (.slice (some ⟨1, 0, none⟩) 1 1)), (5, (.int .i64 (IntKind.wrap .i64 (k + 1))))]), ⟨2, 1, [(1, 0, .cells [(.int .i64 k)] 3 true), (0, 0, .cells [(.int .u8 0), (.int .u8 1), (.int .u8 56), (.int .u8 2), (.int .u8 57), (.int .u8 49), (.int .u8 28), (.int .u8 3), (.int .u8 61), (.int .u8 58), (.int .u8 42), (.int .u8 50), (.int .u8 38), (.int .u8 29), (.int .u8 17), (.int .u8 4), (.int .u8 62), (.int .u8 47), (.int .u8 59), (.int .u8 36), (.int .u8 45), (.int .u8 43), (.int .u8 51), (.int .u8 22), (.int .u8 53), (.int .u8 39), (.int .u8 33), (.int .u8 30), (.int .u8 24), (.int .u8 18), (.int .u8 12), (.int .u8 5), (.int .u8 63), (.int .u8 55), (.int .u8 48), (.int .u8 27), (.int .u8 60), (.int .u8 41), (.int .u8 37), (.int .u8 16), (.int .u8 46), (.int .u8 35), (.int .u8 44), (.int .u8 21), (.int .u8 52), (.int .u8 32), (.int .u8 23), (.int .u8 11), (.int .u8 54), (.int .u8 26), (.int .u8 40), (.int .u8 15), (.int .u8 34), (.int .u8 20), (.int .u8 31), (.int .u8 10), (.int .u8 25), (.int .u8 14), (.int .u8 19), (.int .u8 9), (.int .u8 13), (.int .u8 8), (.int .u8 7), (.int .u8 6)] e0 false)]⟩⟩
theorem R12 (w : Int) (k : Int) (e0 : TypeId) : evCK Tryd.prog cfgT (runK Tryd.prog cfgT fsT (conT laneDom laneE) 12 40) 12 (codeAt [1, 0, 1, 1, 0, 1, 0, 0, 1, 1, 1] B) (S10 w k e0) (normC 1 [0, 3, 5]) =
  some (.normal, (S11 w k e0)) := by kernel_rfl
noncomputable def S12 (w : Int) (k : Int) (e0 : TypeId) : KSt := ⟨(frameL 18 [(0, (.int .u64 w)), (3, (.slice (some ⟨1, 0, none⟩) 1 1)), (5, (.int .i64 (k + 1)))]), ⟨2, 1, [(1, 0, .cells [(.int .i64 k)] 3 true), (0, 0, .cells [(.int .u8 0), (.int .u8 1), (.int .u8 56), (.int .u8 2), (.int .u8 57), (.int .u8 49), (.int .u8 28), (.int .u8 3), (.int .u8 61), (.int .u8 58), (.int .u8 42), (.int .u8 50), (.int .u8 38), (.int .u8 29), (.int .u8 17), (.int .u8 4), (.int .u8 62), (.int .u8 47), (.int .u8 59), (.int .u8 36), (.int .u8 45), (.int .u8 43), (.int .u8 51), (.int .u8 22), (.int .u8 53), (.int .u8 39), (.int .u8 33), (.int .u8 30), (.int .u8 24), (.int .u8 18), (.int .u8 12), (.int .u8 5), (.int .u8 63), (.int .u8 55), (.int .u8 48), (.int .u8 27), (.int .u8 60), (.int .u8 41), (.int .u8 37), (.int .u8 16), (.int .u8 46), (.int .u8 35), (.int .u8 44), (.int .u8 21), (.int .u8 52), (.int .u8 32), (.int .u8 23), (.int .u8 11), (.int .u8 54), (.int .u8 26), (.int .u8 40), (.int .u8 15), (.int .u8 34), (.int .u8 20), (.int .u8 31), (.int .u8 10), (.int .u8 25), (.int .u8 14), (.int .u8 19), (.int .u8 9), (.int .u8 13), (.int .u8 8), (.int .u8 7), (.int .u8 6)] e0 false)]⟩⟩
theorem e1 (w k : Int) (m : Nat) (L : List Int) (e0 : TypeId) (hk : 0 ≤ k) (hk8 : k < 8) (hb : (decide ((byteV w k) < 128)) = false)   {Q : Ex → St → Prop} (hq : Q .normal (KSt.low (S12 w k e0))) : Gets Tryd.prog (varH .u8 tz e0).low (codeAt [1, 0, 1, 1, 0, 1, 0, 0] B) (KSt.low (S4 w k e0)) Q := by
  rw [C1_0_1_1_0_1_0_0]; refine Gets.seq ?_
  refine Gets.ofN fitT lane_sound (conT_agree _ _) 12 40 (by kernel_rfl) (x := .normal) (s' := (S5 w k e0)) (R5 w k e0) ?_
  show Gets _ _ (codeAt [1, 0, 1, 1, 0, 1, 0, 0, 1] B) _ _
  rw [C1_0_1_1_0_1_0_0_1]; refine Gets.seq ?_
  rw [C1_0_1_1_0_1_0_0_1_0]; refine Gets.cond true (by kernel_rfl) ((show evalX (KSt.ts (S5 w k e0)) (.tmp 6) = .bool (decide (k < 8)) by kernel_rfl).trans (by rw [(show (decide (k < 8)) = true from decide_eq_true (by omega))])) ?_; show Gets _ _ (codeAt [1, 0, 1, 1, 0, 1, 0, 0, 1, 0, 0] B) _ _
  refine Gets.ofN fitT lane_sound (conT_agree _ _) 12 40 (by kernel_rfl) (x := .normal) (s' := (S4 w k e0)) (R6 w k e0) ?_
  show Gets _ _ (codeAt [1, 0, 1, 1, 0, 1, 0, 0, 1, 1] B) _ _
  rw [C1_0_1_1_0_1_0_0_1_1]; refine Gets.seq ?_
  rw [C1_0_1_1_0_1_0_0_1_1_0]; refine Gets.block ?_
  rw [C1_0_1_1_0_1_0_0_1_1_0_0]; refine Gets.seq ?_
  refine Gets.ofN fitT lane_sound (conT_agree _ _) 12 40 (by kernel_rfl) (x := .normal) (s' := (S6 w k e0)) (R7 w k e0) ?_
  show Gets _ _ (codeAt [1, 0, 1, 1, 0, 1, 0, 0, 1, 1, 0, 0, 1] B) _ _
  rw [C1_0_1_1_0_1_0_0_1_1_0_0_1]; refine Gets.seq ?_
  rw [C1_0_1_1_0_1_0_0_1_1_0_0_1_0]; refine Gets.seq ?_
  refine Gets.ofN fitT lane_sound (conT_agree _ _) 12 40 (by kernel_rfl) (x := .normal) (s' := (S7 w k e0)) (R8 w k e0) ?_
  show Gets _ _ (codeAt [1, 0, 1, 1, 0, 1, 0, 0, 1, 1, 0, 0, 1, 0, 1] B) _ _
  rw [C1_0_1_1_0_1_0_0_1_1_0_0_1_0_1]; refine Gets.cond false (by kernel_rfl) ((show evalX (KSt.ts (S7 w k e0)) (.tmp 11) = .bool (decide ((byteV w k) < 128)) by kernel_rfl).trans (by rw [(show (decide ((byteV w k) < 128)) = false from hb)])) ?_; show Gets _ _ (codeAt [1, 0, 1, 1, 0, 1, 0, 0, 1, 1, 0, 0, 1, 0, 1, 1] B) _ _
  refine Gets.ofN fitT lane_sound (conT_agree _ _) 12 40 (by kernel_rfl) (x := .normal) (s' := (S6 w k e0)) (R10 w k e0) ?_
  show Gets _ _ (codeAt [1, 0, 1, 1, 0, 1, 0, 0, 1, 1, 0, 0, 1, 1] B) _ _
  refine Gets.ofN fitT lane_sound (conT_agree _ _) 12 40 (by kernel_rfl) (x := .normal) (s' := (S10 w k e0)) (R11 w k e0) ?_
  show Gets _ _ (codeAt [1, 0, 1, 1, 0, 1, 0, 0, 1, 1, 1] B) _ _
  refine Gets.ofN fitT lane_sound (conT_agree _ _) 12 40 (by kernel_rfl) (x := .normal) (s' := (S12 w k e0)) ((R12 w k e0).trans (by (show some (Ex.normal, (S11 w k e0)) = some (Ex.normal, (S12 w k e0)); unfold S11 S12; rw [(show (IntKind.wrap .i64 (k + 1)) = (k + 1) from wrap_i64_id (by omega) (by omega))]))) ?_
  exact hq
noncomputable def S13 (w : Int) (m : Nat) (k : Int) (L : List Int) (e0 : TypeId) : KSt := ⟨(frameL 18 [(0, (.int .u64 w)), (3, (.slice (some ⟨1, 0, none⟩) m m)), (5, (.int .i64 k))]), ⟨2, 1, [(1, 0, .ints .i64 L 3 true), (0, 0, .cells [(.int .u8 0), (.int .u8 1), (.int .u8 56), (.int .u8 2), (.int .u8 57), (.int .u8 49), (.int .u8 28), (.int .u8 3), (.int .u8 61), (.int .u8 58), (.int .u8 42), (.int .u8 50), (.int .u8 38), (.int .u8 29), (.int .u8 17), (.int .u8 4), (.int .u8 62), (.int .u8 47), (.int .u8 59), (.int .u8 36), (.int .u8 45), (.int .u8 43), (.int .u8 51), (.int .u8 22), (.int .u8 53), (.int .u8 39), (.int .u8 33), (.int .u8 30), (.int .u8 24), (.int .u8 18), (.int .u8 12), (.int .u8 5), (.int .u8 63), (.int .u8 55), (.int .u8 48), (.int .u8 27), (.int .u8 60), (.int .u8 41), (.int .u8 37), (.int .u8 16), (.int .u8 46), (.int .u8 35), (.int .u8 44), (.int .u8 21), (.int .u8 52), (.int .u8 32), (.int .u8 23), (.int .u8 11), (.int .u8 54), (.int .u8 26), (.int .u8 40), (.int .u8 15), (.int .u8 34), (.int .u8 20), (.int .u8 31), (.int .u8 10), (.int .u8 25), (.int .u8 14), (.int .u8 19), (.int .u8 9), (.int .u8 13), (.int .u8 8), (.int .u8 7), (.int .u8 6)] e0 false)]⟩⟩
noncomputable def S14 (w : Int) (m : Nat) (k : Int) (L : List Int) (e0 : TypeId) : KSt := ⟨(frameL 18 [(0, (.int .u64 w)), (3, (.slice (some ⟨1, 0, none⟩) m m)), (5, (.int .i64 k)), (6, (.bool (decide (k < 8))))]), ⟨2, 1, [(1, 0, .ints .i64 L 3 true), (0, 0, .cells [(.int .u8 0), (.int .u8 1), (.int .u8 56), (.int .u8 2), (.int .u8 57), (.int .u8 49), (.int .u8 28), (.int .u8 3), (.int .u8 61), (.int .u8 58), (.int .u8 42), (.int .u8 50), (.int .u8 38), (.int .u8 29), (.int .u8 17), (.int .u8 4), (.int .u8 62), (.int .u8 47), (.int .u8 59), (.int .u8 36), (.int .u8 45), (.int .u8 43), (.int .u8 51), (.int .u8 22), (.int .u8 53), (.int .u8 39), (.int .u8 33), (.int .u8 30), (.int .u8 24), (.int .u8 18), (.int .u8 12), (.int .u8 5), (.int .u8 63), (.int .u8 55), (.int .u8 48), (.int .u8 27), (.int .u8 60), (.int .u8 41), (.int .u8 37), (.int .u8 16), (.int .u8 46), (.int .u8 35), (.int .u8 44), (.int .u8 21), (.int .u8 52), (.int .u8 32), (.int .u8 23), (.int .u8 11), (.int .u8 54), (.int .u8 26), (.int .u8 40), (.int .u8 15), (.int .u8 34), (.int .u8 20), (.int .u8 31), (.int .u8 10), (.int .u8 25), (.int .u8 14), (.int .u8 19), (.int .u8 9), (.int .u8 13), (.int .u8 8), (.int .u8 7), (.int .u8 6)] e0 false)]⟩⟩
theorem R13 (w : Int) (m : Nat) (k : Int) (L : List Int) (e0 : TypeId) : evCK Tryd.prog cfgT (runK Tryd.prog cfgT fsT (conT laneDom laneE) 12 40) 12 (codeAt [1, 0, 1, 1, 0, 1, 0, 0, 0] B) (S13 w m k L e0) (normC 1 [0, 3, 5, 6]) =
  some (.normal, (S14 w m k L e0)) := by kernel_rfl
theorem R14 (w : Int) (m : Nat) (k : Int) (L : List Int) (e0 : TypeId) : evCK Tryd.prog cfgT (runK Tryd.prog cfgT fsT (conT laneDom laneE) 12 40) 12 (codeAt [1, 0, 1, 1, 0, 1, 0, 0, 1, 0, 0] B) (S14 w m k L e0) (normC 1 [0, 3, 5]) =
  some (.normal, (S13 w m k L e0)) := by kernel_rfl
noncomputable def S15 (w : Int) (m : Nat) (k : Int) (L : List Int) (e0 : TypeId) : KSt := ⟨(frameL 18 [(0, (.int .u64 w)), (3, (.slice (some ⟨1, 0, none⟩) m m)), (4, (.int .i64 k)), (5, (.int .i64 k))]), ⟨2, 1, [(1, 0, .ints .i64 L 3 true), (0, 0, .cells [(.int .u8 0), (.int .u8 1), (.int .u8 56), (.int .u8 2), (.int .u8 57), (.int .u8 49), (.int .u8 28), (.int .u8 3), (.int .u8 61), (.int .u8 58), (.int .u8 42), (.int .u8 50), (.int .u8 38), (.int .u8 29), (.int .u8 17), (.int .u8 4), (.int .u8 62), (.int .u8 47), (.int .u8 59), (.int .u8 36), (.int .u8 45), (.int .u8 43), (.int .u8 51), (.int .u8 22), (.int .u8 53), (.int .u8 39), (.int .u8 33), (.int .u8 30), (.int .u8 24), (.int .u8 18), (.int .u8 12), (.int .u8 5), (.int .u8 63), (.int .u8 55), (.int .u8 48), (.int .u8 27), (.int .u8 60), (.int .u8 41), (.int .u8 37), (.int .u8 16), (.int .u8 46), (.int .u8 35), (.int .u8 44), (.int .u8 21), (.int .u8 52), (.int .u8 32), (.int .u8 23), (.int .u8 11), (.int .u8 54), (.int .u8 26), (.int .u8 40), (.int .u8 15), (.int .u8 34), (.int .u8 20), (.int .u8 31), (.int .u8 10), (.int .u8 25), (.int .u8 14), (.int .u8 19), (.int .u8 9), (.int .u8 13), (.int .u8 8), (.int .u8 7), (.int .u8 6)] e0 false)]⟩⟩
theorem R15 (w : Int) (m : Nat) (k : Int) (L : List Int) (e0 : TypeId) : evCK Tryd.prog cfgT (runK Tryd.prog cfgT fsT (conT laneDom laneE) 12 40) 12 (codeAt [1, 0, 1, 1, 0, 1, 0, 0, 1, 1, 0, 0, 0] B) (S13 w m k L e0) (normC 1 [0, 3, 4, 5]) =
  some (.normal, (S15 w m k L e0)) := by kernel_rfl
noncomputable def S16 (w : Int) (m : Nat) (k : Int) (L : List Int) (e0 : TypeId) : KSt := ⟨(frameL 18 [(0, (.int .u64 w)), (3, (.slice (some ⟨1, 0, none⟩) m m)), (4, (.int .i64 k)), (5, (.int .i64 k)), (11, (.bool (decide ((byteV w k) < 128))))]), ⟨2, 1, [(1, 0, .ints .i64 L 3 true), (0, 0, .cells [(.int .u8 0), (.int .u8 1), (.int .u8 56), (.int .u8 2), (.int .u8 57), (.int .u8 49), (.int .u8 28), (.int .u8 3), (.int .u8 61), (.int .u8 58), (.int .u8 42), (.int .u8 50), (.int .u8 38), (.int .u8 29), (.int .u8 17), (.int .u8 4), (.int .u8 62), (.int .u8 47), (.int .u8 59), (.int .u8 36), (.int .u8 45), (.int .u8 43), (.int .u8 51), (.int .u8 22), (.int .u8 53), (.int .u8 39), (.int .u8 33), (.int .u8 30), (.int .u8 24), (.int .u8 18), (.int .u8 12), (.int .u8 5), (.int .u8 63), (.int .u8 55), (.int .u8 48), (.int .u8 27), (.int .u8 60), (.int .u8 41), (.int .u8 37), (.int .u8 16), (.int .u8 46), (.int .u8 35), (.int .u8 44), (.int .u8 21), (.int .u8 52), (.int .u8 32), (.int .u8 23), (.int .u8 11), (.int .u8 54), (.int .u8 26), (.int .u8 40), (.int .u8 15), (.int .u8 34), (.int .u8 20), (.int .u8 31), (.int .u8 10), (.int .u8 25), (.int .u8 14), (.int .u8 19), (.int .u8 9), (.int .u8 13), (.int .u8 8), (.int .u8 7), (.int .u8 6)] e0 false)]⟩⟩
theorem R16 (w : Int) (m : Nat) (k : Int) (L : List Int) (e0 : TypeId) : evCK Tryd.prog cfgT (runK Tryd.prog cfgT fsT (conT laneDom laneE) 12 40) 12 (codeAt [1, 0, 1, 1, 0, 1, 0, 0, 1, 1, 0, 0, 1, 0, 0] B) (S15 w m k L e0) (normC 1 [0, 3, 4, 5, 11]) =
  some (.normal, (S16 w m k L e0)) := by kernel_rfl
noncomputable def S17 (w : Int) (m : Nat) (k : Int) (L : List Int) (e0 : TypeId) : KSt := ⟨(frameL 18 [(0, (.int .u64 w)), (3, (.slice (some ⟨1, 0, none⟩) m m)), (5, (.int .i64 (IntKind.wrap .i64 (k + 1))))]), ⟨2, 1, [(1, 0, .ints .i64 L 3 true), (0, 0, .cells [(.int .u8 0), (.int .u8 1), (.int .u8 56), (.int .u8 2), (.int .u8 57), (.int .u8 49), (.int .u8 28), (.int .u8 3), (.int .u8 61), (.int .u8 58), (.int .u8 42), (.int .u8 50), (.int .u8 38), (.int .u8 29), (.int .u8 17), (.int .u8 4), (.int .u8 62), (.int .u8 47), (.int .u8 59), (.int .u8 36), (.int .u8 45), (.int .u8 43), (.int .u8 51), (.int .u8 22), (.int .u8 53), (.int .u8 39), (.int .u8 33), (.int .u8 30), (.int .u8 24), (.int .u8 18), (.int .u8 12), (.int .u8 5), (.int .u8 63), (.int .u8 55), (.int .u8 48), (.int .u8 27), (.int .u8 60), (.int .u8 41), (.int .u8 37), (.int .u8 16), (.int .u8 46), (.int .u8 35), (.int .u8 44), (.int .u8 21), (.int .u8 52), (.int .u8 32), (.int .u8 23), (.int .u8 11), (.int .u8 54), (.int .u8 26), (.int .u8 40), (.int .u8 15), (.int .u8 34), (.int .u8 20), (.int .u8 31), (.int .u8 10), (.int .u8 25), (.int .u8 14), (.int .u8 19), (.int .u8 9), (.int .u8 13), (.int .u8 8), (.int .u8 7), (.int .u8 6)] e0 false)]⟩⟩
theorem R17 (w : Int) (m : Nat) (k : Int) (L : List Int) (e0 : TypeId) : evCK Tryd.prog cfgT (runK Tryd.prog cfgT fsT (conT laneDom laneE) 12 40) 12 (codeAt [1, 0, 1, 1, 0, 1, 0, 0, 1, 1, 1] B) (S16 w m k L e0) (normC 1 [0, 3, 5]) =
  some (.normal, (S17 w m k L e0)) := by kernel_rfl
noncomputable def S18 (w : Int) (m : Nat) (k : Int) (L : List Int) (e0 : TypeId) : KSt := ⟨(frameL 18 [(0, (.int .u64 w)), (3, (.slice (some ⟨1, 0, none⟩) m m)), (5, (.int .i64 (k + 1)))]), ⟨2, 1, [(1, 0, .ints .i64 L 3 true), (0, 0, .cells [(.int .u8 0), (.int .u8 1), (.int .u8 56), (.int .u8 2), (.int .u8 57), (.int .u8 49), (.int .u8 28), (.int .u8 3), (.int .u8 61), (.int .u8 58), (.int .u8 42), (.int .u8 50), (.int .u8 38), (.int .u8 29), (.int .u8 17), (.int .u8 4), (.int .u8 62), (.int .u8 47), (.int .u8 59), (.int .u8 36), (.int .u8 45), (.int .u8 43), (.int .u8 51), (.int .u8 22), (.int .u8 53), (.int .u8 39), (.int .u8 33), (.int .u8 30), (.int .u8 24), (.int .u8 18), (.int .u8 12), (.int .u8 5), (.int .u8 63), (.int .u8 55), (.int .u8 48), (.int .u8 27), (.int .u8 60), (.int .u8 41), (.int .u8 37), (.int .u8 16), (.int .u8 46), (.int .u8 35), (.int .u8 44), (.int .u8 21), (.int .u8 52), (.int .u8 32), (.int .u8 23), (.int .u8 11), (.int .u8 54), (.int .u8 26), (.int .u8 40), (.int .u8 15), (.int .u8 34), (.int .u8 20), (.int .u8 31), (.int .u8 10), (.int .u8 25), (.int .u8 14), (.int .u8 19), (.int .u8 9), (.int .u8 13), (.int .u8 8), (.int .u8 7), (.int .u8 6)] e0 false)]⟩⟩
theorem n0 (w k : Int) (m : Nat) (L : List Int) (e0 : TypeId) (hk : 0 ≤ k) (hk8 : k < 8) (hm : L.length = m) (hm1 : 1 ≤ m) (hm8 : m ≤ 8) (hb : (decide ((byteV w k) < 128)) = true)   {Q : Ex → St → Prop} (hq : Q .normal (KSt.low (S18 w m k L e0))) : Gets Tryd.prog (varH .u8 tz e0).low (codeAt [1, 0, 1, 1, 0, 1, 0, 0] B) (KSt.low (S13 w m k L e0)) Q := by
  rw [C1_0_1_1_0_1_0_0]; refine Gets.seq ?_
  refine Gets.ofN fitT lane_sound (conT_agree _ _) 12 40 (by kernel_rfl) (x := .normal) (s' := (S14 w m k L e0)) (R13 w m k L e0) ?_
  show Gets _ _ (codeAt [1, 0, 1, 1, 0, 1, 0, 0, 1] B) _ _
  rw [C1_0_1_1_0_1_0_0_1]; refine Gets.seq ?_
  rw [C1_0_1_1_0_1_0_0_1_0]; refine Gets.cond true (by kernel_rfl) ((show evalX (KSt.ts (S14 w m k L e0)) (.tmp 6) = .bool (decide (k < 8)) by kernel_rfl).trans (by rw [(show (decide (k < 8)) = true from decide_eq_true (by omega))])) ?_; show Gets _ _ (codeAt [1, 0, 1, 1, 0, 1, 0, 0, 1, 0, 0] B) _ _
  refine Gets.ofN fitT lane_sound (conT_agree _ _) 12 40 (by kernel_rfl) (x := .normal) (s' := (S13 w m k L e0)) (R14 w m k L e0) ?_
  show Gets _ _ (codeAt [1, 0, 1, 1, 0, 1, 0, 0, 1, 1] B) _ _
  rw [C1_0_1_1_0_1_0_0_1_1]; refine Gets.seq ?_
  rw [C1_0_1_1_0_1_0_0_1_1_0]; refine Gets.block ?_
  rw [C1_0_1_1_0_1_0_0_1_1_0_0]; refine Gets.seq ?_
  refine Gets.ofN fitT lane_sound (conT_agree _ _) 12 40 (by kernel_rfl) (x := .normal) (s' := (S15 w m k L e0)) (R15 w m k L e0) ?_
  show Gets _ _ (codeAt [1, 0, 1, 1, 0, 1, 0, 0, 1, 1, 0, 0, 1] B) _ _
  rw [C1_0_1_1_0_1_0_0_1_1_0_0_1]; refine Gets.seq ?_
  rw [C1_0_1_1_0_1_0_0_1_1_0_0_1_0]; refine Gets.seq ?_
  refine Gets.ofN fitT lane_sound (conT_agree _ _) 12 40 (by kernel_rfl) (x := .normal) (s' := (S16 w m k L e0)) (R16 w m k L e0) ?_
  show Gets _ _ (codeAt [1, 0, 1, 1, 0, 1, 0, 0, 1, 1, 0, 0, 1, 0, 1] B) _ _
  rw [C1_0_1_1_0_1_0_0_1_1_0_0_1_0_1]; refine Gets.cond true (by kernel_rfl) ((show evalX (KSt.ts (S16 w m k L e0)) (.tmp 11) = .bool (decide ((byteV w k) < 128)) by kernel_rfl).trans (by rw [(show (decide ((byteV w k) < 128)) = true from hb)])) ?_; show Gets _ _ (codeAt [1, 0, 1, 1, 0, 1, 0, 0, 1, 1, 0, 0, 1, 0, 1, 0] B) _ _
  rw [C1_0_1_1_0_1_0_0_1_1_0_0_1_0_1_0]; refine Gets.ev fitT.mix fitT.cfg (fitT.sound lane_sound 12 0) 12 rfl (s' := KSt.low (S16 w m k L e0)) (x := (.exit 1)) rfl ?_
  refine ⟨fun _ => ?_, fun h => by cases h⟩
  show Gets _ _ (codeAt [1, 0, 1, 1, 0, 1, 0, 0, 1, 1, 1] B) _ _
  refine Gets.ofN fitT lane_sound (conT_agree _ _) 12 40 (by kernel_rfl) (x := .normal) (s' := (S18 w m k L e0)) ((R17 w m k L e0).trans (by (show some (Ex.normal, (S17 w m k L e0)) = some (Ex.normal, (S18 w m k L e0)); unfold S17 S18; rw [(show (IntKind.wrap .i64 (k + 1)) = (k + 1) from wrap_i64_id (by omega) (by omega))]))) ?_
  exact hq
theorem R18 (w : Int) (m : Nat) (k : Int) (L : List Int) (e0 : TypeId) : evCK Tryd.prog cfgT (runK Tryd.prog cfgT fsT (conT laneDom laneE) 12 40) 12 (codeAt [1, 0, 1, 1, 0, 1, 0, 0, 1, 1, 0, 0, 1, 0, 1, 1] B) (S16 w m k L e0) (normC 1 [0, 3, 4, 5]) =
  some (.normal, (S15 w m k L e0)) := by kernel_rfl
noncomputable def S19 (w : Int) (m : Nat) (k : Int) (L : List Int) (e0 : TypeId) : KSt := ⟨(frameL 18 [(0, (.int .u64 w)), (3, (.slice (some ⟨1, 0, none⟩) (m + 1) m)), (5, (.int .i64 k))]), ⟨2, 1, [(1, 0, .ints .i64 ((List.take (0 + m) L ++ [k] ++ List.drop ((0 + m) + (List.length [k])) L)) 3 true), (0, 0, .cells [(.int .u8 0), (.int .u8 1), (.int .u8 56), (.int .u8 2), (.int .u8 57), (.int .u8 49), (.int .u8 28), (.int .u8 3), (.int .u8 61), (.int .u8 58), (.int .u8 42), (.int .u8 50), (.int .u8 38), (.int .u8 29), (.int .u8 17), (.int .u8 4), (.int .u8 62), (.int .u8 47), (.int .u8 59), (.int .u8 36), (.int .u8 45), (.int .u8 43), (.int .u8 51), (.int .u8 22), (.int .u8 53), (.int .u8 39), (.int .u8 33), (.int .u8 30), (.int .u8 24), (.int .u8 18), (.int .u8 12), (.int .u8 5), (.int .u8 63), (.int .u8 55), (.int .u8 48), (.int .u8 27), (.int .u8 60), (.int .u8 41), (.int .u8 37), (.int .u8 16), (.int .u8 46), (.int .u8 35), (.int .u8 44), (.int .u8 21), (.int .u8 52), (.int .u8 32), (.int .u8 23), (.int .u8 11), (.int .u8 54), (.int .u8 26), (.int .u8 40), (.int .u8 15), (.int .u8 34), (.int .u8 20), (.int .u8 31), (.int .u8 10), (.int .u8 25), (.int .u8 14), (.int .u8 19), (.int .u8 9), (.int .u8 13), (.int .u8 8), (.int .u8 7), (.int .u8 6)] e0 false)]⟩⟩
noncomputable def S20 (w : Int) (m : Nat) (k : Int) (L : List Int) (e0 : TypeId) : KSt := ⟨(frameL 18 [(0, (.int .u64 w)), (3, (.slice (some ⟨1, 0, none⟩) (m + 1) (m + 1))), (5, (.int .i64 k))]), ⟨2, 1, [(1, 0, .ints .i64 ((List.take m L ++ [k])) 3 true), (0, 0, .cells [(.int .u8 0), (.int .u8 1), (.int .u8 56), (.int .u8 2), (.int .u8 57), (.int .u8 49), (.int .u8 28), (.int .u8 3), (.int .u8 61), (.int .u8 58), (.int .u8 42), (.int .u8 50), (.int .u8 38), (.int .u8 29), (.int .u8 17), (.int .u8 4), (.int .u8 62), (.int .u8 47), (.int .u8 59), (.int .u8 36), (.int .u8 45), (.int .u8 43), (.int .u8 51), (.int .u8 22), (.int .u8 53), (.int .u8 39), (.int .u8 33), (.int .u8 30), (.int .u8 24), (.int .u8 18), (.int .u8 12), (.int .u8 5), (.int .u8 63), (.int .u8 55), (.int .u8 48), (.int .u8 27), (.int .u8 60), (.int .u8 41), (.int .u8 37), (.int .u8 16), (.int .u8 46), (.int .u8 35), (.int .u8 44), (.int .u8 21), (.int .u8 52), (.int .u8 32), (.int .u8 23), (.int .u8 11), (.int .u8 54), (.int .u8 26), (.int .u8 40), (.int .u8 15), (.int .u8 34), (.int .u8 20), (.int .u8 31), (.int .u8 10), (.int .u8 25), (.int .u8 14), (.int .u8 19), (.int .u8 9), (.int .u8 13), (.int .u8 8), (.int .u8 7), (.int .u8 6)] e0 false)]⟩⟩
theorem R19 (w : Int) (m : Nat) (k : Int) (L : List Int) (e0 : TypeId) : evCK Tryd.prog cfgT (runK Tryd.prog cfgT fsT (conT laneDom laneE) 12 40) 12 (codeAt [1, 0, 1, 1, 0, 1, 0, 0, 1, 1, 0, 0, 1, 1] B) (S15 w m k L e0) (normC 1 [0, 3, 5]) =
  bif (Nat.ble ((m + 1) * 9) 1099511627776) then
    bif (Nat.ble (m + 1) m) then
      bif (Nat.ble (0 + (m + 1)) (List.length L)) then
        some (.normal, (S19 w m k L e0))
      else
        none
    else
      bif ((Nat.beq m 0) && (Nat.beq m 0)) then
        some (.normal, (S10 w k e0))
      else
        bif ((Nat.ble m (List.length L)) && (Nat.ble 1 m)) then
          some (.normal, (S20 w m k L e0))
        else
          none
  else
    none := by kernel_rfl
noncomputable def S21 (w : Int) (m : Nat) (k : Int) (L : List Int) (e0 : TypeId) : KSt := ⟨(frameL 18 [(0, (.int .u64 w)), (3, (.slice (some ⟨1, 0, none⟩) (m + 1) (m + 1))), (5, (.int .i64 (IntKind.wrap .i64 (k + 1))))]), ⟨2, 1, [(1, 0, .ints .i64 ((List.take m L ++ [k])) 3 true), (0, 0, .cells [(.int .u8 0), (.int .u8 1), (.int .u8 56), (.int .u8 2), (.int .u8 57), (.int .u8 49), (.int .u8 28), (.int .u8 3), (.int .u8 61), (.int .u8 58), (.int .u8 42), (.int .u8 50), (.int .u8 38), (.int .u8 29), (.int .u8 17), (.int .u8 4), (.int .u8 62), (.int .u8 47), (.int .u8 59), (.int .u8 36), (.int .u8 45), (.int .u8 43), (.int .u8 51), (.int .u8 22), (.int .u8 53), (.int .u8 39), (.int .u8 33), (.int .u8 30), (.int .u8 24), (.int .u8 18), (.int .u8 12), (.int .u8 5), (.int .u8 63), (.int .u8 55), (.int .u8 48), (.int .u8 27), (.int .u8 60), (.int .u8 41), (.int .u8 37), (.int .u8 16), (.int .u8 46), (.int .u8 35), (.int .u8 44), (.int .u8 21), (.int .u8 52), (.int .u8 32), (.int .u8 23), (.int .u8 11), (.int .u8 54), (.int .u8 26), (.int .u8 40), (.int .u8 15), (.int .u8 34), (.int .u8 20), (.int .u8 31), (.int .u8 10), (.int .u8 25), (.int .u8 14), (.int .u8 19), (.int .u8 9), (.int .u8 13), (.int .u8 8), (.int .u8 7), (.int .u8 6)] e0 false)]⟩⟩
theorem R20 (w : Int) (m : Nat) (k : Int) (L : List Int) (e0 : TypeId) : evCK Tryd.prog cfgT (runK Tryd.prog cfgT fsT (conT laneDom laneE) 12 40) 12 (codeAt [1, 0, 1, 1, 0, 1, 0, 0, 1, 1, 1] B) (S20 w m k L e0) (normC 1 [0, 3, 5]) =
  some (.normal, (S21 w m k L e0)) := by kernel_rfl
noncomputable def S22 (w : Int) (m : Nat) (k : Int) (L : List Int) (e0 : TypeId) : KSt := ⟨(frameL 18 [(0, (.int .u64 w)), (3, (.slice (some ⟨1, 0, none⟩) (m + 1) (m + 1))), (5, (.int .i64 (k + 1)))]), ⟨2, 1, [(1, 0, .ints .i64 ((List.take m L ++ [k])) 3 true), (0, 0, .cells [(.int .u8 0), (.int .u8 1), (.int .u8 56), (.int .u8 2), (.int .u8 57), (.int .u8 49), (.int .u8 28), (.int .u8 3), (.int .u8 61), (.int .u8 58), (.int .u8 42), (.int .u8 50), (.int .u8 38), (.int .u8 29), (.int .u8 17), (.int .u8 4), (.int .u8 62), (.int .u8 47), (.int .u8 59), (.int .u8 36), (.int .u8 45), (.int .u8 43), (.int .u8 51), (.int .u8 22), (.int .u8 53), (.int .u8 39), (.int .u8 33), (.int .u8 30), (.int .u8 24), (.int .u8 18), (.int .u8 12), (.int .u8 5), (.int .u8 63), (.int .u8 55), (.int .u8 48), (.int .u8 27), (.int .u8 60), (.int .u8 41), (.int .u8 37), (.int .u8 16), (.int .u8 46), (.int .u8 35), (.int .u8 44), (.int .u8 21), (.int .u8 52), (.int .u8 32), (.int .u8 23), (.int .u8 11), (.int .u8 54), (.int .u8 26), (.int .u8 40), (.int .u8 15), (.int .u8 34), (.int .u8 20), (.int .u8 31), (.int .u8 10), (.int .u8 25), (.int .u8 14), (.int .u8 19), (.int .u8 9), (.int .u8 13), (.int .u8 8), (.int .u8 7), (.int .u8 6)] e0 false)]⟩⟩
theorem n1 (w k : Int) (m : Nat) (L : List Int) (e0 : TypeId) (hk : 0 ≤ k) (hk8 : k < 8) (hm : L.length = m) (hm1 : 1 ≤ m) (hm8 : m ≤ 8) (hb : (decide ((byteV w k) < 128)) = false)   {Q : Ex → St → Prop} (hq : Q .normal (KSt.low (S22 w m k L e0))) : Gets Tryd.prog (varH .u8 tz e0).low (codeAt [1, 0, 1, 1, 0, 1, 0, 0] B) (KSt.low (S13 w m k L e0)) Q := by
  rw [C1_0_1_1_0_1_0_0]; refine Gets.seq ?_
  refine Gets.ofN fitT lane_sound (conT_agree _ _) 12 40 (by kernel_rfl) (x := .normal) (s' := (S14 w m k L e0)) (R13 w m k L e0) ?_
  show Gets _ _ (codeAt [1, 0, 1, 1, 0, 1, 0, 0, 1] B) _ _
  rw [C1_0_1_1_0_1_0_0_1]; refine Gets.seq ?_
  rw [C1_0_1_1_0_1_0_0_1_0]; refine Gets.cond true (by kernel_rfl) ((show evalX (KSt.ts (S14 w m k L e0)) (.tmp 6) = .bool (decide (k < 8)) by kernel_rfl).trans (by rw [(show (decide (k < 8)) = true from decide_eq_true (by omega))])) ?_; show Gets _ _ (codeAt [1, 0, 1, 1, 0, 1, 0, 0, 1, 0, 0] B) _ _
  refine Gets.ofN fitT lane_sound (conT_agree _ _) 12 40 (by kernel_rfl) (x := .normal) (s' := (S13 w m k L e0)) (R14 w m k L e0) ?_
  show Gets _ _ (codeAt [1, 0, 1, 1, 0, 1, 0, 0, 1, 1] B) _ _
  rw [C1_0_1_1_0_1_0_0_1_1]; refine Gets.seq ?_
  rw [C1_0_1_1_0_1_0_0_1_1_0]; refine Gets.block ?_
  rw [C1_0_1_1_0_1_0_0_1_1_0_0]; refine Gets.seq ?_
  refine Gets.ofN fitT lane_sound (conT_agree _ _) 12 40 (by kernel_rfl) (x := .normal) (s' := (S15 w m k L e0)) (R15 w m k L e0) ?_
  show Gets _ _ (codeAt [1, 0, 1, 1, 0, 1, 0, 0, 1, 1, 0, 0, 1] B) _ _
  rw [C1_0_1_1_0_1_0_0_1_1_0_0_1]; refine Gets.seq ?_
  rw [C1_0_1_1_0_1_0_0_1_1_0_0_1_0]; refine Gets.seq ?_
  refine Gets.ofN fitT lane_sound (conT_agree _ _) 12 40 (by kernel_rfl) (x := .normal) (s' := (S16 w m k L e0)) (R16 w m k L e0) ?_
  show Gets _ _ (codeAt [1, 0, 1, 1, 0, 1, 0, 0, 1, 1, 0, 0, 1, 0, 1] B) _ _
  rw [C1_0_1_1_0_1_0_0_1_1_0_0_1_0_1]; refine Gets.cond false (by kernel_rfl) ((show evalX (KSt.ts (S16 w m k L e0)) (.tmp 11) = .bool (decide ((byteV w k) < 128)) by kernel_rfl).trans (by rw [(show (decide ((byteV w k) < 128)) = false from hb)])) ?_; show Gets _ _ (codeAt [1, 0, 1, 1, 0, 1, 0, 0, 1, 1, 0, 0, 1, 0, 1, 1] B) _ _
  refine Gets.ofN fitT lane_sound (conT_agree _ _) 12 40 (by kernel_rfl) (x := .normal) (s' := (S15 w m k L e0)) (R18 w m k L e0) ?_
  show Gets _ _ (codeAt [1, 0, 1, 1, 0, 1, 0, 0, 1, 1, 0, 0, 1, 1] B) _ _
  refine Gets.ofN fitT lane_sound (conT_agree _ _) 12 40 (by kernel_rfl) (x := .normal) (s' := (S20 w m k L e0)) ((R19 w m k L e0).trans (by rw [condT (ble_t (by omega)), condF (ble_f (by omega)), condF (and_f1 (nbeq_f (by omega))), condT (and_t (ble_t (by omega)) (ble_t (by omega)))])) ?_
  show Gets _ _ (codeAt [1, 0, 1, 1, 0, 1, 0, 0, 1, 1, 1] B) _ _
  refine Gets.ofN fitT lane_sound (conT_agree _ _) 12 40 (by kernel_rfl) (x := .normal) (s' := (S22 w m k L e0)) ((R20 w m k L e0).trans (by (show some (Ex.normal, (S21 w m k L e0)) = some (Ex.normal, (S22 w m k L e0)); unfold S21 S22; rw [(show (IntKind.wrap .i64 (k + 1)) = (k + 1) from wrap_i64_id (by omega) (by omega))]))) ?_
  exact hq
theorem C1_0_1_1_0_1_0_0_1_0_1 : (codeAt [1, 0, 1, 1, 0, 1, 0, 0, 1, 0, 1] B) = .exit 0 := by kernel_rfl
theorem xe (w k : Int) (m : Nat) (L : List Int) (e0 : TypeId) (hk : k = 8)   {Q : Ex → St → Prop} (hq : Q (.exit 0) (KSt.low (S5 w k e0))) : Gets Tryd.prog (varH .u8 tz e0).low (codeAt [1, 0, 1, 1, 0, 1, 0, 0] B) (KSt.low (S4 w k e0)) Q := by
  rw [C1_0_1_1_0_1_0_0]; refine Gets.seq ?_
  refine Gets.ofN fitT lane_sound (conT_agree _ _) 12 40 (by kernel_rfl) (x := .normal) (s' := (S5 w k e0)) (R5 w k e0) ?_
  show Gets _ _ (codeAt [1, 0, 1, 1, 0, 1, 0, 0, 1] B) _ _
  rw [C1_0_1_1_0_1_0_0_1]; refine Gets.seq ?_
  rw [C1_0_1_1_0_1_0_0_1_0]; refine Gets.cond false (by kernel_rfl) ((show evalX (KSt.ts (S5 w k e0)) (.tmp 6) = .bool (decide (k < 8)) by kernel_rfl).trans (by rw [(show (decide (k < 8)) = false from decide_eq_false (by omega))])) ?_; show Gets _ _ (codeAt [1, 0, 1, 1, 0, 1, 0, 0, 1, 0, 1] B) _ _
  rw [C1_0_1_1_0_1_0_0_1_0_1]; refine Gets.ev fitT.mix fitT.cfg (fitT.sound lane_sound 12 0) 12 rfl (s' := KSt.low (S5 w k e0)) (x := (.exit 0)) rfl ?_
  exact hq
theorem xn (w k : Int) (m : Nat) (L : List Int) (e0 : TypeId) (hk : k = 8)   {Q : Ex → St → Prop} (hq : Q (.exit 0) (KSt.low (S14 w m k L e0))) : Gets Tryd.prog (varH .u8 tz e0).low (codeAt [1, 0, 1, 1, 0, 1, 0, 0] B) (KSt.low (S13 w m k L e0)) Q := by
  rw [C1_0_1_1_0_1_0_0]; refine Gets.seq ?_
  refine Gets.ofN fitT lane_sound (conT_agree _ _) 12 40 (by kernel_rfl) (x := .normal) (s' := (S14 w m k L e0)) (R13 w m k L e0) ?_
  show Gets _ _ (codeAt [1, 0, 1, 1, 0, 1, 0, 0, 1] B) _ _
  rw [C1_0_1_1_0_1_0_0_1]; refine Gets.seq ?_
  rw [C1_0_1_1_0_1_0_0_1_0]; refine Gets.cond false (by kernel_rfl) ((show evalX (KSt.ts (S14 w m k L e0)) (.tmp 6) = .bool (decide (k < 8)) by kernel_rfl).trans (by rw [(show (decide (k < 8)) = false from decide_eq_false (by omega))])) ?_; show Gets _ _ (codeAt [1, 0, 1, 1, 0, 1, 0, 0, 1, 0, 1] B) _ _
  rw [C1_0_1_1_0_1_0_0_1_0_1]; refine Gets.ev fitT.mix fitT.cfg (fitT.sound lane_sound 12 0) 12 rfl (s' := KSt.low (S14 w m k L e0)) (x := (.exit 0)) rfl ?_
  exact hq
theorem C1_0_1_1_1 : (codeAt [1, 0, 1, 1, 1] B) = .seq (codeAt [1, 0, 1, 1, 1, 0] B) (codeAt [1, 0, 1, 1, 1, 1] B) := by kernel_rfl
noncomputable def S23 (e0 : TypeId) : KSt := ⟨(frameL 18 [(2, (.slice none 0 0))]), ⟨1, 1, [(0, 0, .cells [(.int .u8 0), (.int .u8 1), (.int .u8 56), (.int .u8 2), (.int .u8 57), (.int .u8 49), (.int .u8 28), (.int .u8 3), (.int .u8 61), (.int .u8 58), (.int .u8 42), (.int .u8 50), (.int .u8 38), (.int .u8 29), (.int .u8 17), (.int .u8 4), (.int .u8 62), (.int .u8 47), (.int .u8 59), (.int .u8 36), (.int .u8 45), (.int .u8 43), (.int .u8 51), (.int .u8 22), (.int .u8 53), (.int .u8 39), (.int .u8 33), (.int .u8 30), (.int .u8 24), (.int .u8 18), (.int .u8 12), (.int .u8 5), (.int .u8 63), (.int .u8 55), (.int .u8 48), (.int .u8 27), (.int .u8 60), (.int .u8 41), (.int .u8 37), (.int .u8 16), (.int .u8 46), (.int .u8 35), (.int .u8 44), (.int .u8 21), (.int .u8 52), (.int .u8 32), (.int .u8 23), (.int .u8 11), (.int .u8 54), (.int .u8 26), (.int .u8 40), (.int .u8 15), (.int .u8 34), (.int .u8 20), (.int .u8 31), (.int .u8 10), (.int .u8 25), (.int .u8 14), (.int .u8 19), (.int .u8 9), (.int .u8 13), (.int .u8 8), (.int .u8 7), (.int .u8 6)] e0 false)]⟩⟩
theorem R21 (w : Int) (k : Int) (e0 : TypeId) : evCK Tryd.prog cfgT (runK Tryd.prog cfgT fsT (conT laneDom laneE) 12 40) 12 (codeAt [1, 0, 1, 1, 1, 0] B) (S5 w k e0) (normC 1 [2]) =
  some (.normal, (S23 e0)) := by kernel_rfl
theorem C1_0_1_1_1_1 : (codeAt [1, 0, 1, 1, 1, 1] B) = .ret := by kernel_rfl
theorem fe (w k : Int) (m : Nat) (L : List Int) (e0 : TypeId)   {Q : Ex → St → Prop} (hq : Q .ret (KSt.low (S23 e0))) : Gets Tryd.prog (varH .u8 tz e0).low (codeAt [1, 0, 1, 1, 1] B) (KSt.low (S5 w k e0)) Q := by
  rw [C1_0_1_1_1]; refine Gets.seq ?_
  refine Gets.ofN fitT lane_sound (conT_agree _ _) 12 40 (by kernel_rfl) (x := .normal) (s' := (S23 e0)) (R21 w k e0) ?_
  show Gets _ _ (codeAt [1, 0, 1, 1, 1, 1] B) _ _
  rw [C1_0_1_1_1_1]; refine Gets.ev fitT.mix fitT.cfg (fitT.sound lane_sound 12 0) 12 rfl (s' := KSt.low (S23 e0)) (x := .ret) rfl ?_
  exact hq
noncomputable def S24 (m : Nat) (L : List Int) (e0 : TypeId) : KSt := ⟨(frameL 18 [(2, (.slice (some ⟨1, 0, none⟩) m m))]), ⟨2, 1, [(1, 0, .ints .i64 L 3 true), (0, 0, .cells [(.int .u8 0), (.int .u8 1), (.int .u8 56), (.int .u8 2), (.int .u8 57), (.int .u8 49), (.int .u8 28), (.int .u8 3), (.int .u8 61), (.int .u8 58), (.int .u8 42), (.int .u8 50), (.int .u8 38), (.int .u8 29), (.int .u8 17), (.int .u8 4), (.int .u8 62), (.int .u8 47), (.int .u8 59), (.int .u8 36), (.int .u8 45), (.int .u8 43), (.int .u8 51), (.int .u8 22), (.int .u8 53), (.int .u8 39), (.int .u8 33), (.int .u8 30), (.int .u8 24), (.int .u8 18), (.int .u8 12), (.int .u8 5), (.int .u8 63), (.int .u8 55), (.int .u8 48), (.int .u8 27), (.int .u8 60), (.int .u8 41), (.int .u8 37), (.int .u8 16), (.int .u8 46), (.int .u8 35), (.int .u8 44), (.int .u8 21), (.int .u8 52), (.int .u8 32), (.int .u8 23), (.int .u8 11), (.int .u8 54), (.int .u8 26), (.int .u8 40), (.int .u8 15), (.int .u8 34), (.int .u8 20), (.int .u8 31), (.int .u8 10), (.int .u8 25), (.int .u8 14), (.int .u8 19), (.int .u8 9), (.int .u8 13), (.int .u8 8), (.int .u8 7), (.int .u8 6)] e0 false)]⟩⟩
theorem R22 (w : Int) (m : Nat) (k : Int) (L : List Int) (e0 : TypeId) : evCK Tryd.prog cfgT (runK Tryd.prog cfgT fsT (conT laneDom laneE) 12 40) 12 (codeAt [1, 0, 1, 1, 1, 0] B) (S14 w m k L e0) (normC 1 [2]) =
  some (.normal, (S24 m L e0)) := by kernel_rfl
theorem fn_ (w k : Int) (m : Nat) (L : List Int) (e0 : TypeId)   {Q : Ex → St → Prop} (hq : Q .ret (KSt.low (S24 m L e0))) : Gets Tryd.prog (varH .u8 tz e0).low (codeAt [1, 0, 1, 1, 1] B) (KSt.low (S14 w m k L e0)) Q := by
  rw [C1_0_1_1_1]; refine Gets.seq ?_
  refine Gets.ofN fitT lane_sound (conT_agree _ _) 12 40 (by kernel_rfl) (x := .normal) (s' := (S24 m L e0)) (R22 w m k L e0) ?_
  show Gets _ _ (codeAt [1, 0, 1, 1, 1, 1] B) _ _
  rw [C1_0_1_1_1_1]; refine Gets.ev fitT.mix fitT.cfg (fitT.sound lane_sound 12 0) 12 rfl (s' := KSt.low (S24 m L e0)) (x := .ret) rfl ?_
  exact hq
theorem C1_0_1_1_0_1 : (codeAt [1, 0, 1, 1, 0, 1] B) = .block 0 (codeAt [1, 0, 1, 1, 0, 1, 0] B) := by kernel_rfl
theorem C1_0_1_1_0_1_0 : (codeAt [1, 0, 1, 1, 0, 1, 0] B) = .loop (codeAt [1, 0, 1, 1, 0, 1, 0, 0] B) := by kernel_rfl
noncomputable def QC (w : Int) (e0 : TypeId) : Ex → St → Prop := Eng.Ends Tryd.prog Tryd.f32.results.toList fun r sh => r = clV w ∧ Fits (MH e0).low sh (effK (MH e0) [] (clNews w)).low
theorem mh_wf (e0 : TypeId) : ∀ a, (MH e0).low.get a ≠ none → a < (MH e0).low.next := fun a ha => by
  obtain ⟨o, ho⟩ := Option.ne_none_iff_exists'.1 ha
  obtain ⟨rfl, _⟩ := mkH1_get ho
  exact (show (0 : Nat) < 1 by decide)
theorem mh_ro (e0 : TypeId) : ∀ a o, (MH e0).low.get a = some o → o.rw = false := fun a o ho => by
  obtain ⟨_, rfl⟩ := mkH1_get ho
  rfl
theorem qc_nil {w : Int} {e0 : TypeId} {s : KSt} (h : clNone w = true) (hr : resL Tryd.prog s.low Tryd.f32.results.toList = some [.slice none 0 0]) (hx : s.low.h.next ≤ 1) : QC w e0 .ret s.low := by
  refine Ends.of hr ⟨?_, ?_⟩
  · unfold clV; rw [h]; rfl
  · rw [effK_low]
    unfold clNews; rw [h]
    exact Fits.eff (mh_wf e0) (by simp) (fun p hp => by cases hp) (fun i o ho => by cases i <;> cases ho) (fun a o ho _ => .inl (mh_ro e0 a o ho)) hx
theorem qc_some {w : Int} {e0 : TypeId} {s : KSt} {m : Nat} (h : clNone w = false) (hm : List.length (clL w 8) = m) (hr : resL Tryd.prog s.low Tryd.f32.results.toList = some [.slice (some ⟨1, 0, none⟩) m m])
    (h1 : s.low.h.get 1 = some (KObj.ints .i64 (clL w 8) 3 true).low) (hx : s.low.h.next ≤ 2) : QC w e0 .ret s.low := by
  subst hm
  refine Ends.of hr ⟨?_, ?_⟩
  · unfold clV; rw [h]; rfl
  · rw [effK_low]
    unfold clNews; rw [h]
    refine Fits.eff (mh_wf e0) (by simp) (fun p hp => by cases hp) (fun i o ho => ?_) (fun a o ho _ => .inl (mh_ro e0 a o ho)) hx
    match i, ho with
    | 0, ho => cases ho; exact h1
inductive CInv (w : Int) (e0 : TypeId) : Nat → KSt → Prop
  | e (k : Int) (m : Nat) (L : List Int) (hk : 0 ≤ k) (hk8 : k ≤ 8) (hE : clL w (Int.toNat k) = []) : CInv w e0 (8 - k).toNat (S4 w k e0)
  | n (k : Int) (m : Nat) (L : List Int) (hk : 0 ≤ k) (hk8 : k ≤ 8) (hE : clL w (Int.toNat k) = L) (hm : L.length = m) (hm1 : 1 ≤ m) : CInv w e0 (8 - k).toNat (S13 w m k L e0)
theorem clLoop (w : Int) (e0 : TypeId) (m : Nat) (s : KSt) (hI : CInv w e0 m s) :
    Gets Tryd.prog (varH .u8 tz e0).low (codeAt [1, 0, 1, 1, 0, 1] B) s.low (onN (fun s => Gets Tryd.prog (varH .u8 tz e0).low (codeAt [1, 0, 1, 1, 1] B) s (onS ((QC w e0)))) (onS ((QC w e0)))) := by
  rw [C1_0_1_1_0_1, C1_0_1_1_0_1_0]
  refine Gets.loopG (fun m s => CInv w e0 m s) ?_ _ _ hI
  clear hI m s
  intro m s hI
  cases hI with
  | e k m L hk hk8 hE =>
    by_cases h8 : k = 8
    · refine xe w k 0 [] e0 h8 ?_
      refine ⟨fun _ => ?_, fun h => by cases h⟩
      subst h8
      exact fe w 8 0 [] e0 (qc_nil (by unfold clNone; rw [show clL w 8 = [] from hE]; rfl) (by kernel_rfl) (show (1 : Nat) ≤ 1 by decide))
    · cases hb : decide ((byteV w k) < 128) with
      | true =>
        refine e0_ w k 0 [] e0 hk (by omega) hb ?_
        exact ⟨_, _, by omega, rfl, .e (k + 1) 0 [] (by omega) (by omega) (by rw [clL_lo hk hb]; exact hE)⟩
      | false =>
        refine e1 w k 0 [] e0 hk (by omega) hb ?_
        exact ⟨(8 - (k + 1)).toNat, (S13 w 1 (k + 1) [k] e0), by omega, rfl, .n (k + 1) 1 [k] (by omega) (by omega) (by rw [clL_hi hk hb, hE]; rfl) rfl (by omega)⟩
  | n k m L hk hk8 hE hm hm1 =>
    have hm8 : m ≤ 8 := by have := clL_len w (Int.toNat k); rw [hE, hm] at this; omega
    by_cases h8 : k = 8
    · refine xn w k m L e0 h8 ?_
      refine ⟨fun _ => ?_, fun h => by cases h⟩
      subst h8
      have hE8 : clL w 8 = L := hE
      refine fn_ w 8 m L e0 (qc_some (m := m) ?_ (by rw [hE8]; exact hm) (by kernel_rfl) (by rw [hE8]; kernel_rfl) (show (2 : Nat) ≤ 2 by decide))
      unfold clNone; rw [hE8]
      cases L with
      | nil => simp at hm; omega
      | cons a r => rfl
    · cases hb : decide ((byteV w k) < 128) with
      | true =>
        refine n0 w k m L e0 hk (by omega) hm hm1 hm8 hb ?_
        exact ⟨_, _, by omega, rfl, .n (k + 1) m L (by omega) (by omega) (by rw [clL_lo hk hb]; exact hE) hm hm1⟩
      | false =>
        refine n1 w k m L e0 hk (by omega) hm hm1 hm8 hb ?_
        exact ⟨_, _, by omega, rfl, .n (k + 1) (m + 1) _ (by omega) (by omega) (by rw [clL_hi hk hb, hE, ← hm, List.take_length]) (by rw [List.length_append, List.length_take, hm, Nat.min_self]; rfl) (by omega)⟩
theorem cl_does (w : Int) (e0 : TypeId) : DoesC Tryd.prog 32 [.int .u64 w] (MH e0).low (clV w) (effK (MH e0) [] (clNews w)).low := by
  refine Gets.does Tryd.func32 B_is (by rw [oneVar]; exact (show (1 : Nat) ≤ 1 by decide)) ?_
  show Gets Tryd.prog (varH .u8 tz e0).low B (KSt.low (S0 w e0)) (QC w e0)
  refine pre w 0 0 [] e0 ?_
  exact clLoop w e0 _ _ (.e 0 0 [] (by omega) (by omega) rfl)
def claimedE : ConE := fun acc f args => match f, args with
  | 32, [.int .u64 w] => (match acc.cells 0 with
    | some (cs, e, false) => (match isTz tz cs with
      | true => (match clNone w with
        | true => some ⟨[0], [.int .u64 w], [.cells cs e false], .slice none 0 0, [], []⟩
        | false => some ⟨[0], [.int .u64 w], [.cells cs e false], .slice (some ⟨1, 0, none⟩) (List.length (clL w 8)) (List.length (clL w 8)), [], [.ints .i64 (clL w 8) 3 true]⟩)
      | false => none)
    | _ => none)
  | _, _ => none
def claimedK {β : Type} : ConEK β := fun h f args k => match f, args with
  | 32, [.int .u64 w] => (match (accK h).cells 0 with
    | some (cs, e, false) => (match isTz tz cs with
      | true => bif clNone w then k ⟨[0], [.int .u64 w], [.cells cs e false], .slice none 0 0, [], []⟩ else k ⟨[0], [.int .u64 w], [.cells cs e false], .slice (some ⟨1, 0, none⟩) (List.length (clL w 8)) (List.length (clL w 8)), [], [.ints .i64 (clL w 8) 3 true]⟩
      | false => none)
    | _ => none)
  | _, _ => none
theorem claimed_tells {β : Type} : TellsK claimedE (claimedK (β := β)) := by
  intro h f args k r hk
  unfold claimedK at hk
  unfold claimedE
  rw [accK_low]
  split at hk
  · split at hk
    · rename_i cs e hc
      (try rw [hc])
      split at hk
      · rename_i hz
        (try rw [hz])
        cases hm : clNone _ with
        | true => rw [hm] at hk; exact ⟨_, rfl, hk⟩
        | false => rw [hm] at hk; exact ⟨_, rfl, hk⟩
      · cases hk
    · cases hk
  · cases hk
theorem view_var {args : List Value} {e : TypeId} {τ : Nat → Nat} (hτ : τ 0 = 0) (hp : args.all Eng.plain = true) (h : AH) (hc : h.get 0 = some (.cells (intCells .u8 tz) e false)) :
    View Tryd.prog τ args (mkH [.cells (intCells .u8 tz) e false]).low args h :=
  { args := VL.plain hp
    full := fun a => by
      constructor
      · intro ha
        have : a = 0 := Nat.lt_one_iff.1 ha
        subst this
        simp [low_get, mkH_get (bs := [KObj.cells (intCells .u8 tz) e false]) (a := 0) rfl]
      · intro ha
        obtain ⟨o, ho⟩ := Option.ne_none_iff_exists'.1 ha
        obtain ⟨rfl, _⟩ := mkH1_get ho
        exact (show (0 : Nat) < 1 by decide)
    blk := fun a o ho => by
      obtain ⟨rfl, rfl⟩ := mkH1_get ho
      exact ⟨_, by rw [hτ]; exact hc, VO.cells (VP.plain (intCells_plain .u8 tz)) id⟩
    glob := fun g h' => by
      have hg := oneVar
      have : g = 0 := by omega
      subst this
      exact ⟨(show (0 : Nat) < 1 by decide), hτ⟩
    inj := fun a a' hw => by
      obtain ⟨o, ho, hr⟩ := hw
      obtain ⟨_, rfl⟩ := mkH1_get ho
      cases hr }
theorem claimed_ok : ∀ (h : AH) (f : FuncId) (args : List Value) (c : Con), claimedE (accA h) f args = some c → ConOk Tryd.prog f args h c := by
  intro h f args c hE
  unfold claimedE at hE
  split at hE
  · rename_i w
    split at hE
    · rename_i cs e hc
      split at hE
      · rename_i hz
        have hcs := isTz_eq hz
        subst hcs
        have hc0 : h.get 0 = some (.cells (intCells .u8 tz) e false) := by
          have hc : cellsA h 0 = _ := hc
          unfold cellsA at hc
          split at hc
          · rename_i hq; cases hc; exact hq
          · cases hc
        have hd := cl_does w e
        unfold clV clNews at hd
        split at hE
        · rename_i hm
          rw [hm] at hd
          cases hE
          exact ⟨view_var rfl rfl h hc0, hd, fun a o ho hr => (by obtain ⟨_, rfl⟩ := mkH1_get ho; cases hr), fun p hp => (by cases hp), fun o ho => (by cases ho), .nil⟩
        · rename_i hm
          rw [hm] at hd
          cases hE
          exact ⟨view_var rfl rfl h hc0, hd, fun a o ho hr => (by obtain ⟨_, rfl⟩ := mkH1_get ho; cases hr), fun p hp => (by cases hp), fun o ho => (by
            rcases List.mem_singleton.1 ho with rfl; rfl), .nil⟩
      · cases hE
    · cases hE
  · cases hE
theorem claimed_fn : FnOk Tryd.prog 32 := fitT.fnOk _ (by
  have h0 : fsT.contains 32 = true := by kernel_rfl
  simpa using h0)

end Go.Proofs.YteafenadjidkdaaDoor.claimed
