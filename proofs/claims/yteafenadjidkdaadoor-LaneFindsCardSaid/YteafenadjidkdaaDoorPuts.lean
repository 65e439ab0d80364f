/- The reference's fill; two rows held against one another. -/
import Derived.Test.YteafenadjidkdaaDoorNews
import Derived.WalkKit
import Derived.ProofKit
import Derived.OpenShut
import Derived.ChangeOld
import Derived.Below
import Derived.SizedLaws
namespace Go.Proofs.YteafenadjidkdaaDoor.puts
open Go.Eng
open Go.ChangeShapes Go.WideShapes Go.ChangeAt Go.RowKit
set_option linter.unusedVariables false
set_option linter.unusedSimpArgs false
set_option maxRecDepth 100000
open Go.Proofs.YteafenadjidkdaaDoor.news (plL plE pl_ok pl_fnok pl_len rcL rcE rc_ok rc_fnok)
noncomputable def cfgT : Cfg := ⟨[]⟩
noncomputable def fsT : List FuncId := [16, 22]
theorem fitT : Fit Tryd.prog cfgT fsT := ⟨by kernel_rfl, Cfg.ok_of (by kernel_rfl), by kernel_rfl⟩
def fillE : ConE := orE laneDom laneE plE
def fillDom : List FuncId := 15 :: laneDom
theorem fill_sound : SoundC Tryd.prog (conC fillDom fillE) := by
  refine SoundC.con ?_ ?_
  · intro f hf
    rcases List.mem_cons.1 hf with rfl | hf
    · exact pl_fnok
    · exact lane_fn f hf
  · intro h f args c hm hE
    unfold fillE orE at hE
    cases hd : laneDom.contains f with
    | true => rw [hd] at hE; exact lane_ok h f args c hE
    | false => rw [hd] at hE; exact pl_ok h f args c hE
noncomputable def BF : Code := bodyOf Tryd.prog 22
theorem BF_is : Tryd.f22.body = some BF := by kernel_rfl
theorem BF_ok : okCode Tryd.prog.globals.size BF = true := by kernel_rfl
noncomputable def fS0 (w : Int) (b : Int) (c : Int) (e0 : TypeId) : KSt := (firstK [(.int .u64 w), (.int .i64 b), (.int .i64 c)] 26 ⟨1, 1, [(0, 0, .cells [(.int .u8 0), (.int .u8 1), (.int .u8 56), (.int .u8 2), (.int .u8 57), (.int .u8 49), (.int .u8 28), (.int .u8 3), (.int .u8 61), (.int .u8 58), (.int .u8 42), (.int .u8 50), (.int .u8 38), (.int .u8 29), (.int .u8 17), (.int .u8 4), (.int .u8 62), (.int .u8 47), (.int .u8 59), (.int .u8 36), (.int .u8 45), (.int .u8 43), (.int .u8 51), (.int .u8 22), (.int .u8 53), (.int .u8 39), (.int .u8 33), (.int .u8 30), (.int .u8 24), (.int .u8 18), (.int .u8 12), (.int .u8 5), (.int .u8 63), (.int .u8 55), (.int .u8 48), (.int .u8 27), (.int .u8 60), (.int .u8 41), (.int .u8 37), (.int .u8 16), (.int .u8 46), (.int .u8 35), (.int .u8 44), (.int .u8 21), (.int .u8 52), (.int .u8 32), (.int .u8 23), (.int .u8 11), (.int .u8 54), (.int .u8 26), (.int .u8 40), (.int .u8 15), (.int .u8 34), (.int .u8 20), (.int .u8 31), (.int .u8 10), (.int .u8 25), (.int .u8 14), (.int .u8 19), (.int .u8 9), (.int .u8 13), (.int .u8 8), (.int .u8 7), (.int .u8 6)] e0 false)]⟩)
theorem fC : BF = .seq (codeAt [0] BF) (codeAt [1] BF) := by kernel_rfl
noncomputable def fS1 (w : Int) (b : Int) (c : Int) (e0 : TypeId) : KSt := ⟨(frameL 26 [(0, (.int .u64 w)), (1, (.int .i64 b)), (2, (.int .i64 c))]), ⟨1, 1, [(0, 0, .cells [(.int .u8 0), (.int .u8 1), (.int .u8 56), (.int .u8 2), (.int .u8 57), (.int .u8 49), (.int .u8 28), (.int .u8 3), (.int .u8 61), (.int .u8 58), (.int .u8 42), (.int .u8 50), (.int .u8 38), (.int .u8 29), (.int .u8 17), (.int .u8 4), (.int .u8 62), (.int .u8 47), (.int .u8 59), (.int .u8 36), (.int .u8 45), (.int .u8 43), (.int .u8 51), (.int .u8 22), (.int .u8 53), (.int .u8 39), (.int .u8 33), (.int .u8 30), (.int .u8 24), (.int .u8 18), (.int .u8 12), (.int .u8 5), (.int .u8 63), (.int .u8 55), (.int .u8 48), (.int .u8 27), (.int .u8 60), (.int .u8 41), (.int .u8 37), (.int .u8 16), (.int .u8 46), (.int .u8 35), (.int .u8 44), (.int .u8 21), (.int .u8 52), (.int .u8 32), (.int .u8 23), (.int .u8 11), (.int .u8 54), (.int .u8 26), (.int .u8 40), (.int .u8 15), (.int .u8 34), (.int .u8 20), (.int .u8 31), (.int .u8 10), (.int .u8 25), (.int .u8 14), (.int .u8 19), (.int .u8 9), (.int .u8 13), (.int .u8 8), (.int .u8 7), (.int .u8 6)] e0 false)]⟩⟩
theorem fR1 (w : Int) (b : Int) (c : Int) (e0 : TypeId) : evCK Tryd.prog cfgT (runK Tryd.prog cfgT fsT (conT fillDom fillE) 12 40) 12 (codeAt [0] BF) (fS0 w b c e0) (normC 1 [0, 1, 2]) =
  some (.normal, (fS1 w b c e0)) := by kernel_rfl
theorem fC1 : (codeAt [1] BF) = .seq (codeAt [1, 0] BF) (codeAt [1, 1] BF) := by kernel_rfl
noncomputable def fS2 (w : Int) (c : Int) (b : Int) (e0 : TypeId) : KSt := ⟨(frameL 26 [(0, (.int .u64 w)), (2, (.int .i64 c)), (7, (.slice (some ⟨1, 0, none⟩) (List.length (plL w b 8)) (List.length (plL w b 8))))]), ⟨2, 1, [(1, 0, .ints .i64 ((plL w b 8)) 3 true), (0, 0, .cells [(.int .u8 0), (.int .u8 1), (.int .u8 56), (.int .u8 2), (.int .u8 57), (.int .u8 49), (.int .u8 28), (.int .u8 3), (.int .u8 61), (.int .u8 58), (.int .u8 42), (.int .u8 50), (.int .u8 38), (.int .u8 29), (.int .u8 17), (.int .u8 4), (.int .u8 62), (.int .u8 47), (.int .u8 59), (.int .u8 36), (.int .u8 45), (.int .u8 43), (.int .u8 51), (.int .u8 22), (.int .u8 53), (.int .u8 39), (.int .u8 33), (.int .u8 30), (.int .u8 24), (.int .u8 18), (.int .u8 12), (.int .u8 5), (.int .u8 63), (.int .u8 55), (.int .u8 48), (.int .u8 27), (.int .u8 60), (.int .u8 41), (.int .u8 37), (.int .u8 16), (.int .u8 46), (.int .u8 35), (.int .u8 44), (.int .u8 21), (.int .u8 52), (.int .u8 32), (.int .u8 23), (.int .u8 11), (.int .u8 54), (.int .u8 26), (.int .u8 40), (.int .u8 15), (.int .u8 34), (.int .u8 20), (.int .u8 31), (.int .u8 10), (.int .u8 25), (.int .u8 14), (.int .u8 19), (.int .u8 9), (.int .u8 13), (.int .u8 8), (.int .u8 7), (.int .u8 6)] e0 false)]⟩⟩
theorem fR2 (w : Int) (b : Int) (c : Int) (e0 : TypeId) : evCK Tryd.prog cfgT (runK Tryd.prog cfgT fsT (conT fillDom fillE) 12 40) 12 (codeAt [1, 0] BF) (fS1 w b c e0) (normC 1 [0, 2, 7]) =
  some (.normal, (fS2 w c b e0)) := by kernel_rfl
noncomputable def fS3 (w : Int) (c : Int) (m : Nat) (L : List Int) (e0 : TypeId) : KSt := ⟨(frameL 26 [(0, (.int .u64 w)), (2, (.int .i64 c)), (7, (.slice (some ⟨1, 0, none⟩) m m))]), ⟨2, 1, [(1, 0, .ints .i64 L 3 true), (0, 0, .cells [(.int .u8 0), (.int .u8 1), (.int .u8 56), (.int .u8 2), (.int .u8 57), (.int .u8 49), (.int .u8 28), (.int .u8 3), (.int .u8 61), (.int .u8 58), (.int .u8 42), (.int .u8 50), (.int .u8 38), (.int .u8 29), (.int .u8 17), (.int .u8 4), (.int .u8 62), (.int .u8 47), (.int .u8 59), (.int .u8 36), (.int .u8 45), (.int .u8 43), (.int .u8 51), (.int .u8 22), (.int .u8 53), (.int .u8 39), (.int .u8 33), (.int .u8 30), (.int .u8 24), (.int .u8 18), (.int .u8 12), (.int .u8 5), (.int .u8 63), (.int .u8 55), (.int .u8 48), (.int .u8 27), (.int .u8 60), (.int .u8 41), (.int .u8 37), (.int .u8 16), (.int .u8 46), (.int .u8 35), (.int .u8 44), (.int .u8 21), (.int .u8 52), (.int .u8 32), (.int .u8 23), (.int .u8 11), (.int .u8 54), (.int .u8 26), (.int .u8 40), (.int .u8 15), (.int .u8 34), (.int .u8 20), (.int .u8 31), (.int .u8 10), (.int .u8 25), (.int .u8 14), (.int .u8 19), (.int .u8 9), (.int .u8 13), (.int .u8 8), (.int .u8 7), (.int .u8 6)] e0 false)]⟩⟩
theorem fC1_1 : (codeAt [1, 1] BF) = .seq (codeAt [1, 1, 0] BF) (codeAt [1, 1, 1] BF) := by kernel_rfl
theorem fC1_1_0 : (codeAt [1, 1, 0] BF) = .seq (codeAt [1, 1, 0, 0] BF) (codeAt [1, 1, 0, 1] BF) := by kernel_rfl
noncomputable def fS4 (w : Int) (c : Int) (m : Nat) (L : List Int) (e0 : TypeId) : KSt := ⟨(frameL 26 [(0, (.int .u64 w)), (2, (.int .i64 c)), (7, (.slice (some ⟨1, 0, none⟩) m m)), (8, (.int .i64 0))]), ⟨2, 1, [(1, 0, .ints .i64 L 3 true), (0, 0, .cells [(.int .u8 0), (.int .u8 1), (.int .u8 56), (.int .u8 2), (.int .u8 57), (.int .u8 49), (.int .u8 28), (.int .u8 3), (.int .u8 61), (.int .u8 58), (.int .u8 42), (.int .u8 50), (.int .u8 38), (.int .u8 29), (.int .u8 17), (.int .u8 4), (.int .u8 62), (.int .u8 47), (.int .u8 59), (.int .u8 36), (.int .u8 45), (.int .u8 43), (.int .u8 51), (.int .u8 22), (.int .u8 53), (.int .u8 39), (.int .u8 33), (.int .u8 30), (.int .u8 24), (.int .u8 18), (.int .u8 12), (.int .u8 5), (.int .u8 63), (.int .u8 55), (.int .u8 48), (.int .u8 27), (.int .u8 60), (.int .u8 41), (.int .u8 37), (.int .u8 16), (.int .u8 46), (.int .u8 35), (.int .u8 44), (.int .u8 21), (.int .u8 52), (.int .u8 32), (.int .u8 23), (.int .u8 11), (.int .u8 54), (.int .u8 26), (.int .u8 40), (.int .u8 15), (.int .u8 34), (.int .u8 20), (.int .u8 31), (.int .u8 10), (.int .u8 25), (.int .u8 14), (.int .u8 19), (.int .u8 9), (.int .u8 13), (.int .u8 8), (.int .u8 7), (.int .u8 6)] e0 false)]⟩⟩
theorem fR3 (w : Int) (c : Int) (m : Nat) (L : List Int) (e0 : TypeId) : evCK Tryd.prog cfgT (runK Tryd.prog cfgT fsT (conT fillDom fillE) 12 40) 12 (codeAt [1, 1, 0, 0] BF) (fS3 w c m L e0) (normC 1 [0, 2, 7, 8]) =
  some (.normal, (fS4 w c m L e0)) := by kernel_rfl
theorem fpre (w b c x j : Int) (m : Nat) (L : List Int) (e0 : TypeId) (hp : plL w b 8 = L) (hm : List.length L = m)   {Q : Ex → St → Prop} (hq : Gets Tryd.prog (varH .u8 tz e0).low (codeAt [1, 1, 0, 1] BF) (KSt.low (fS4 w c m L e0)) (onN (fun s => Gets Tryd.prog (varH .u8 tz e0).low (codeAt [1, 1, 1] BF) s (Q)) (Q))) : Gets Tryd.prog (varH .u8 tz e0).low BF (KSt.low (fS0 w b c e0)) Q := by
  rw [fC]; refine Gets.seq ?_
  refine Gets.ofN fitT fill_sound (conT_agree _ _) 12 40 (by kernel_rfl) (x := .normal) (s' := (fS1 w b c e0)) (fR1 w b c e0) ?_
  show Gets _ _ (codeAt [1] BF) _ _
  rw [fC1]; refine Gets.seq ?_
  refine Gets.ofN fitT fill_sound (conT_agree _ _) 12 40 (by kernel_rfl) (x := .normal) (s' := (fS3 w c m L e0)) ((fR2 w b c e0).trans (by (show some (Ex.normal, (fS2 w c b e0)) = some (Ex.normal, (fS3 w c m L e0)); unfold fS2 fS3; rw [(show (plL w b 8) = L from hp), (show (List.length L) = m from hm)]))) ?_
  show Gets _ _ (codeAt [1, 1] BF) _ _
  rw [fC1_1]; refine Gets.seq ?_
  rw [fC1_1_0]; refine Gets.seq ?_
  refine Gets.ofN fitT fill_sound (conT_agree _ _) 12 40 (by kernel_rfl) (x := .normal) (s' := (fS4 w c m L e0)) (fR3 w c m L e0) ?_
  show Gets _ _ (codeAt [1, 1, 0, 1] BF) _ _
  exact hq
noncomputable def fS5 (x : Int) (c : Int) (m : Nat) (j : Int) (L : List Int) (e0 : TypeId) : KSt := ⟨(frameL 26 [(0, (.int .u64 x)), (2, (.int .i64 c)), (7, (.slice (some ⟨1, 0, none⟩) m m)), (8, (.int .i64 j))]), ⟨2, 1, [(1, 0, .ints .i64 L 3 true), (0, 0, .cells [(.int .u8 0), (.int .u8 1), (.int .u8 56), (.int .u8 2), (.int .u8 57), (.int .u8 49), (.int .u8 28), (.int .u8 3), (.int .u8 61), (.int .u8 58), (.int .u8 42), (.int .u8 50), (.int .u8 38), (.int .u8 29), (.int .u8 17), (.int .u8 4), (.int .u8 62), (.int .u8 47), (.int .u8 59), (.int .u8 36), (.int .u8 45), (.int .u8 43), (.int .u8 51), (.int .u8 22), (.int .u8 53), (.int .u8 39), (.int .u8 33), (.int .u8 30), (.int .u8 24), (.int .u8 18), (.int .u8 12), (.int .u8 5), (.int .u8 63), (.int .u8 55), (.int .u8 48), (.int .u8 27), (.int .u8 60), (.int .u8 41), (.int .u8 37), (.int .u8 16), (.int .u8 46), (.int .u8 35), (.int .u8 44), (.int .u8 21), (.int .u8 52), (.int .u8 32), (.int .u8 23), (.int .u8 11), (.int .u8 54), (.int .u8 26), (.int .u8 40), (.int .u8 15), (.int .u8 34), (.int .u8 20), (.int .u8 31), (.int .u8 10), (.int .u8 25), (.int .u8 14), (.int .u8 19), (.int .u8 9), (.int .u8 13), (.int .u8 8), (.int .u8 7), (.int .u8 6)] e0 false)]⟩⟩
theorem fC1_1_0_1_0_0 : (codeAt [1, 1, 0, 1, 0, 0] BF) = .seq (codeAt [1, 1, 0, 1, 0, 0, 0] BF) (codeAt [1, 1, 0, 1, 0, 0, 1] BF) := by kernel_rfl
theorem fC1_1_0_1_0_0_0 : (codeAt [1, 1, 0, 1, 0, 0, 0] BF) = .seq (codeAt [1, 1, 0, 1, 0, 0, 0, 0] BF) (codeAt [1, 1, 0, 1, 0, 0, 0, 1] BF) := by kernel_rfl
noncomputable def fS6 (x : Int) (c : Int) (m : Nat) (j : Int) (L : List Int) (e0 : TypeId) : KSt := ⟨(frameL 26 [(0, (.int .u64 x)), (2, (.int .i64 c)), (7, (.slice (some ⟨1, 0, none⟩) m m)), (8, (.int .i64 j)), (15, (.bool (decide (j < ((m : Nat) : Int)))))]), ⟨2, 1, [(1, 0, .ints .i64 L 3 true), (0, 0, .cells [(.int .u8 0), (.int .u8 1), (.int .u8 56), (.int .u8 2), (.int .u8 57), (.int .u8 49), (.int .u8 28), (.int .u8 3), (.int .u8 61), (.int .u8 58), (.int .u8 42), (.int .u8 50), (.int .u8 38), (.int .u8 29), (.int .u8 17), (.int .u8 4), (.int .u8 62), (.int .u8 47), (.int .u8 59), (.int .u8 36), (.int .u8 45), (.int .u8 43), (.int .u8 51), (.int .u8 22), (.int .u8 53), (.int .u8 39), (.int .u8 33), (.int .u8 30), (.int .u8 24), (.int .u8 18), (.int .u8 12), (.int .u8 5), (.int .u8 63), (.int .u8 55), (.int .u8 48), (.int .u8 27), (.int .u8 60), (.int .u8 41), (.int .u8 37), (.int .u8 16), (.int .u8 46), (.int .u8 35), (.int .u8 44), (.int .u8 21), (.int .u8 52), (.int .u8 32), (.int .u8 23), (.int .u8 11), (.int .u8 54), (.int .u8 26), (.int .u8 40), (.int .u8 15), (.int .u8 34), (.int .u8 20), (.int .u8 31), (.int .u8 10), (.int .u8 25), (.int .u8 14), (.int .u8 19), (.int .u8 9), (.int .u8 13), (.int .u8 8), (.int .u8 7), (.int .u8 6)] e0 false)]⟩⟩
theorem fR4 (x : Int) (c : Int) (m : Nat) (j : Int) (L : List Int) (e0 : TypeId) : evCK Tryd.prog cfgT (runK Tryd.prog cfgT fsT (conT fillDom fillE) 12 40) 12 (codeAt [1, 1, 0, 1, 0, 0, 0, 0] BF) (fS5 x c m j L e0) (normC 1 [0, 2, 7, 8, 15]) =
  some (.normal, (fS6 x c m j L e0)) := by kernel_rfl
theorem fC1_1_0_1_0_0_0_1 : (codeAt [1, 1, 0, 1, 0, 0, 0, 1] BF) = .cond (.tmp 15) (codeAt [1, 1, 0, 1, 0, 0, 0, 1, 0] BF) (codeAt [1, 1, 0, 1, 0, 0, 0, 1, 1] BF) := by kernel_rfl
theorem fR5 (x : Int) (c : Int) (m : Nat) (j : Int) (L : List Int) (e0 : TypeId) : evCK Tryd.prog cfgT (runK Tryd.prog cfgT fsT (conT fillDom fillE) 12 40) 12 (codeAt [1, 1, 0, 1, 0, 0, 0, 1, 0] BF) (fS6 x c m j L e0) (normC 1 [0, 2, 7, 8]) =
  some (.normal, (fS5 x c m j L e0)) := by kernel_rfl
theorem fC1_1_0_1_0_0_1 : (codeAt [1, 1, 0, 1, 0, 0, 1] BF) = .seq (codeAt [1, 1, 0, 1, 0, 0, 1, 0] BF) (codeAt [1, 1, 0, 1, 0, 0, 1, 1] BF) := by kernel_rfl
theorem fC1_1_0_1_0_0_1_0 : (codeAt [1, 1, 0, 1, 0, 0, 1, 0] BF) = .block 1 (codeAt [1, 1, 0, 1, 0, 0, 1, 0, 0] BF) := by kernel_rfl
noncomputable def fS7 (x : Int) (n1 : Int) (c : Int) (m : Nat) (j : Int) (L : List Int) (e0 : TypeId) : KSt := ⟨(frameL 26 [(0, (.int .u64 (withRV x n1 c))), (2, (.int .i64 c)), (7, (.slice (some ⟨1, 0, none⟩) m m)), (8, (.int .i64 j))]), ⟨2, 1, [(1, 0, .ints .i64 L 3 true), (0, 0, .cells [(.int .u8 0), (.int .u8 1), (.int .u8 56), (.int .u8 2), (.int .u8 57), (.int .u8 49), (.int .u8 28), (.int .u8 3), (.int .u8 61), (.int .u8 58), (.int .u8 42), (.int .u8 50), (.int .u8 38), (.int .u8 29), (.int .u8 17), (.int .u8 4), (.int .u8 62), (.int .u8 47), (.int .u8 59), (.int .u8 36), (.int .u8 45), (.int .u8 43), (.int .u8 51), (.int .u8 22), (.int .u8 53), (.int .u8 39), (.int .u8 33), (.int .u8 30), (.int .u8 24), (.int .u8 18), (.int .u8 12), (.int .u8 5), (.int .u8 63), (.int .u8 55), (.int .u8 48), (.int .u8 27), (.int .u8 60), (.int .u8 41), (.int .u8 37), (.int .u8 16), (.int .u8 46), (.int .u8 35), (.int .u8 44), (.int .u8 21), (.int .u8 52), (.int .u8 32), (.int .u8 23), (.int .u8 11), (.int .u8 54), (.int .u8 26), (.int .u8 40), (.int .u8 15), (.int .u8 34), (.int .u8 20), (.int .u8 31), (.int .u8 10), (.int .u8 25), (.int .u8 14), (.int .u8 19), (.int .u8 9), (.int .u8 13), (.int .u8 8), (.int .u8 7), (.int .u8 6)] e0 false)]⟩⟩
theorem fR6 (x : Int) (c : Int) (m : Nat) (j : Int) (L : List Int) (e0 : TypeId) : evCK Tryd.prog cfgT (runK Tryd.prog cfgT fsT (conT fillDom fillE) 12 40) 12 (codeAt [1, 1, 0, 1, 0, 0, 1, 0, 0] BF) (fS5 x c m j L e0) (normC 1 [0, 2, 7, 8]) =
  if 0 ≤ j ∧ j < ((m : Nat) : Int) then
    obind (L[(0 + ((Int.toNat j) * 1))]?) fun n1 =>
      some (.normal, (fS7 x n1 c m j L e0))
  else
    none := by kernel_rfl
noncomputable def fS8 (x : Int) (L : List Int) (j : Int) (c : Int) (m : Nat) (e0 : TypeId) : KSt := ⟨(frameL 26 [(0, (.int .u64 (withRV x (L.getD (0 + ((Int.toNat j) * 1)) 0) c))), (2, (.int .i64 c)), (7, (.slice (some ⟨1, 0, none⟩) m m)), (8, (.int .i64 j))]), ⟨2, 1, [(1, 0, .ints .i64 L 3 true), (0, 0, .cells [(.int .u8 0), (.int .u8 1), (.int .u8 56), (.int .u8 2), (.int .u8 57), (.int .u8 49), (.int .u8 28), (.int .u8 3), (.int .u8 61), (.int .u8 58), (.int .u8 42), (.int .u8 50), (.int .u8 38), (.int .u8 29), (.int .u8 17), (.int .u8 4), (.int .u8 62), (.int .u8 47), (.int .u8 59), (.int .u8 36), (.int .u8 45), (.int .u8 43), (.int .u8 51), (.int .u8 22), (.int .u8 53), (.int .u8 39), (.int .u8 33), (.int .u8 30), (.int .u8 24), (.int .u8 18), (.int .u8 12), (.int .u8 5), (.int .u8 63), (.int .u8 55), (.int .u8 48), (.int .u8 27), (.int .u8 60), (.int .u8 41), (.int .u8 37), (.int .u8 16), (.int .u8 46), (.int .u8 35), (.int .u8 44), (.int .u8 21), (.int .u8 52), (.int .u8 32), (.int .u8 23), (.int .u8 11), (.int .u8 54), (.int .u8 26), (.int .u8 40), (.int .u8 15), (.int .u8 34), (.int .u8 20), (.int .u8 31), (.int .u8 10), (.int .u8 25), (.int .u8 14), (.int .u8 19), (.int .u8 9), (.int .u8 13), (.int .u8 8), (.int .u8 7), (.int .u8 6)] e0 false)]⟩⟩
noncomputable def fS9 (x : Int) (L : List Int) (j : Int) (c : Int) (m : Nat) (e0 : TypeId) : KSt := ⟨(frameL 26 [(0, (.int .u64 (withRV x (L.getD (0 + ((Int.toNat j) * 1)) 0) c))), (2, (.int .i64 c)), (7, (.slice (some ⟨1, 0, none⟩) m m)), (8, (.int .i64 (IntKind.wrap .i64 (j + 1))))]), ⟨2, 1, [(1, 0, .ints .i64 L 3 true), (0, 0, .cells [(.int .u8 0), (.int .u8 1), (.int .u8 56), (.int .u8 2), (.int .u8 57), (.int .u8 49), (.int .u8 28), (.int .u8 3), (.int .u8 61), (.int .u8 58), (.int .u8 42), (.int .u8 50), (.int .u8 38), (.int .u8 29), (.int .u8 17), (.int .u8 4), (.int .u8 62), (.int .u8 47), (.int .u8 59), (.int .u8 36), (.int .u8 45), (.int .u8 43), (.int .u8 51), (.int .u8 22), (.int .u8 53), (.int .u8 39), (.int .u8 33), (.int .u8 30), (.int .u8 24), (.int .u8 18), (.int .u8 12), (.int .u8 5), (.int .u8 63), (.int .u8 55), (.int .u8 48), (.int .u8 27), (.int .u8 60), (.int .u8 41), (.int .u8 37), (.int .u8 16), (.int .u8 46), (.int .u8 35), (.int .u8 44), (.int .u8 21), (.int .u8 52), (.int .u8 32), (.int .u8 23), (.int .u8 11), (.int .u8 54), (.int .u8 26), (.int .u8 40), (.int .u8 15), (.int .u8 34), (.int .u8 20), (.int .u8 31), (.int .u8 10), (.int .u8 25), (.int .u8 14), (.int .u8 19), (.int .u8 9), (.int .u8 13), (.int .u8 8), (.int .u8 7), (.int .u8 6)] e0 false)]⟩⟩
theorem fR7 (x : Int) (L : List Int) (j : Int) (c : Int) (m : Nat) (e0 : TypeId) : evCK Tryd.prog cfgT (runK Tryd.prog cfgT fsT (conT fillDom fillE) 12 40) 12 (codeAt [1, 1, 0, 1, 0, 0, 1, 1] BF) (fS8 x L j c m e0) (normC 1 [0, 2, 7, 8]) =
  some (.normal, (fS9 x L j c m e0)) := by kernel_rfl
noncomputable def fS10 (x : Int) (L : List Int) (j : Int) (c : Int) (m : Nat) (e0 : TypeId) : KSt := ⟨(frameL 26 [(0, (.int .u64 (withRV x (L.getD (0 + ((Int.toNat j) * 1)) 0) c))), (2, (.int .i64 c)), (7, (.slice (some ⟨1, 0, none⟩) m m)), (8, (.int .i64 (j + 1)))]), ⟨2, 1, [(1, 0, .ints .i64 L 3 true), (0, 0, .cells [(.int .u8 0), (.int .u8 1), (.int .u8 56), (.int .u8 2), (.int .u8 57), (.int .u8 49), (.int .u8 28), (.int .u8 3), (.int .u8 61), (.int .u8 58), (.int .u8 42), (.int .u8 50), (.int .u8 38), (.int .u8 29), (.int .u8 17), (.int .u8 4), (.int .u8 62), (.int .u8 47), (.int .u8 59), (.int .u8 36), (.int .u8 45), (.int .u8 43), (.int .u8 51), (.int .u8 22), (.int .u8 53), (.int .u8 39), (.int .u8 33), (.int .u8 30), (.int .u8 24), (.int .u8 18), (.int .u8 12), (.int .u8 5), (.int .u8 63), (.int .u8 55), (.int .u8 48), (.int .u8 27), (.int .u8 60), (.int .u8 41), (.int .u8 37), (.int .u8 16), (.int .u8 46), (.int .u8 35), (.int .u8 44), (.int .u8 21), (.int .u8 52), (.int .u8 32), (.int .u8 23), (.int .u8 11), (.int .u8 54), (.int .u8 26), (.int .u8 40), (.int .u8 15), (.int .u8 34), (.int .u8 20), (.int .u8 31), (.int .u8 10), (.int .u8 25), (.int .u8 14), (.int .u8 19), (.int .u8 9), (.int .u8 13), (.int .u8 8), (.int .u8 7), (.int .u8 6)] e0 false)]⟩⟩
theorem frd (w b c x j : Int) (m : Nat) (L : List Int) (e0 : TypeId) (hj : 0 ≤ j) (hjm : j < (m : Int)) (hm : List.length L = m) (hm8 : m ≤ 8)   {Q : Ex → St → Prop} (hq : Q .normal (KSt.low (fS10 x L j c m e0))) : Gets Tryd.prog (varH .u8 tz e0).low (codeAt [1, 1, 0, 1, 0, 0] BF) (KSt.low (fS5 x c m j L e0)) Q := by
  rw [fC1_1_0_1_0_0]; refine Gets.seq ?_
  rw [fC1_1_0_1_0_0_0]; refine Gets.seq ?_
  refine Gets.ofN fitT fill_sound (conT_agree _ _) 12 40 (by kernel_rfl) (x := .normal) (s' := (fS6 x c m j L e0)) (fR4 x c m j L e0) ?_
  show Gets _ _ (codeAt [1, 1, 0, 1, 0, 0, 0, 1] BF) _ _
  rw [fC1_1_0_1_0_0_0_1]; refine Gets.cond true (by kernel_rfl) ((show evalX (KSt.ts (fS6 x c m j L e0)) (.tmp 15) = .bool (decide (j < ((m : Nat) : Int))) by kernel_rfl).trans (by rw [(show (decide (j < ((m : Nat) : Int))) = true from decide_eq_true (by omega))])) ?_; show Gets _ _ (codeAt [1, 1, 0, 1, 0, 0, 0, 1, 0] BF) _ _
  refine Gets.ofN fitT fill_sound (conT_agree _ _) 12 40 (by kernel_rfl) (x := .normal) (s' := (fS5 x c m j L e0)) (fR5 x c m j L e0) ?_
  show Gets _ _ (codeAt [1, 1, 0, 1, 0, 0, 1] BF) _ _
  rw [fC1_1_0_1_0_0_1]; refine Gets.seq ?_
  rw [fC1_1_0_1_0_0_1_0]; refine Gets.block ?_
  refine Gets.ofN fitT fill_sound (conT_agree _ _) 12 40 (by kernel_rfl) (x := .normal) (s' := (fS8 x L j c m e0)) ((fR6 x c m j L e0).trans (by rw [if_pos (⟨by omega, by omega⟩), obind_at (k := 0 + ((Int.toNat j) * 1)) (by omega) (by omega)] <;> rfl)) ?_
  show Gets _ _ (codeAt [1, 1, 0, 1, 0, 0, 1, 1] BF) _ _
  refine Gets.ofN fitT fill_sound (conT_agree _ _) 12 40 (by kernel_rfl) (x := .normal) (s' := (fS10 x L j c m e0)) ((fR7 x L j c m e0).trans (by (show some (Ex.normal, (fS9 x L j c m e0)) = some (Ex.normal, (fS10 x L j c m e0)); unfold fS9 fS10; rw [(show (IntKind.wrap .i64 (j + 1)) = (j + 1) from wrap_i64_id (by omega) (by omega))]))) ?_
  exact hq
theorem fC1_1_0_1_0_0_0_1_1 : (codeAt [1, 1, 0, 1, 0, 0, 0, 1, 1] BF) = .exit 0 := by kernel_rfl
theorem fex (w b c x j : Int) (m : Nat) (L : List Int) (e0 : TypeId) (hj : j = (m : Int))   {Q : Ex → St → Prop} (hq : Q (.exit 0) (KSt.low (fS6 x c m j L e0))) : Gets Tryd.prog (varH .u8 tz e0).low (codeAt [1, 1, 0, 1, 0, 0] BF) (KSt.low (fS5 x c m j L e0)) Q := by
  rw [fC1_1_0_1_0_0]; refine Gets.seq ?_
  rw [fC1_1_0_1_0_0_0]; refine Gets.seq ?_
  refine Gets.ofN fitT fill_sound (conT_agree _ _) 12 40 (by kernel_rfl) (x := .normal) (s' := (fS6 x c m j L e0)) (fR4 x c m j L e0) ?_
  show Gets _ _ (codeAt [1, 1, 0, 1, 0, 0, 0, 1] BF) _ _
  rw [fC1_1_0_1_0_0_0_1]; refine Gets.cond false (by kernel_rfl) ((show evalX (KSt.ts (fS6 x c m j L e0)) (.tmp 15) = .bool (decide (j < ((m : Nat) : Int))) by kernel_rfl).trans (by rw [(show (decide (j < ((m : Nat) : Int))) = false from decide_eq_false (by omega))])) ?_; show Gets _ _ (codeAt [1, 1, 0, 1, 0, 0, 0, 1, 1] BF) _ _
  rw [fC1_1_0_1_0_0_0_1_1]; refine Gets.ev fitT.mix fitT.cfg (fitT.sound fill_sound 12 0) 12 rfl (s' := KSt.low (fS6 x c m j L e0)) (x := (.exit 0)) rfl ?_
  exact hq
theorem fC1_1_1 : (codeAt [1, 1, 1] BF) = .seq (codeAt [1, 1, 1, 0] BF) (codeAt [1, 1, 1, 1] BF) := by kernel_rfl
noncomputable def fS11 (x : Int) (e0 : TypeId) : KSt := ⟨(frameL 26 [(6, (.int .u64 x))]), ⟨1, 1, [(0, 0, .cells [(.int .u8 0), (.int .u8 1), (.int .u8 56), (.int .u8 2), (.int .u8 57), (.int .u8 49), (.int .u8 28), (.int .u8 3), (.int .u8 61), (.int .u8 58), (.int .u8 42), (.int .u8 50), (.int .u8 38), (.int .u8 29), (.int .u8 17), (.int .u8 4), (.int .u8 62), (.int .u8 47), (.int .u8 59), (.int .u8 36), (.int .u8 45), (.int .u8 43), (.int .u8 51), (.int .u8 22), (.int .u8 53), (.int .u8 39), (.int .u8 33), (.int .u8 30), (.int .u8 24), (.int .u8 18), (.int .u8 12), (.int .u8 5), (.int .u8 63), (.int .u8 55), (.int .u8 48), (.int .u8 27), (.int .u8 60), (.int .u8 41), (.int .u8 37), (.int .u8 16), (.int .u8 46), (.int .u8 35), (.int .u8 44), (.int .u8 21), (.int .u8 52), (.int .u8 32), (.int .u8 23), (.int .u8 11), (.int .u8 54), (.int .u8 26), (.int .u8 40), (.int .u8 15), (.int .u8 34), (.int .u8 20), (.int .u8 31), (.int .u8 10), (.int .u8 25), (.int .u8 14), (.int .u8 19), (.int .u8 9), (.int .u8 13), (.int .u8 8), (.int .u8 7), (.int .u8 6)] e0 false)]⟩⟩
theorem fR8 (x : Int) (c : Int) (m : Nat) (j : Int) (L : List Int) (e0 : TypeId) : evCK Tryd.prog cfgT (runK Tryd.prog cfgT fsT (conT fillDom fillE) 12 40) 12 (codeAt [1, 1, 1, 0] BF) (fS6 x c m j L e0) (normC 1 [6]) =
  some (.normal, (fS11 x e0)) := by kernel_rfl
theorem fC1_1_1_1 : (codeAt [1, 1, 1, 1] BF) = .ret := by kernel_rfl
theorem ffi (w b c x j : Int) (m : Nat) (L : List Int) (e0 : TypeId)   {Q : Ex → St → Prop} (hq : Q .ret (KSt.low (fS11 x e0))) : Gets Tryd.prog (varH .u8 tz e0).low (codeAt [1, 1, 1] BF) (KSt.low (fS6 x c m j L e0)) Q := by
  rw [fC1_1_1]; refine Gets.seq ?_
  refine Gets.ofN fitT fill_sound (conT_agree _ _) 12 40 (by kernel_rfl) (x := .normal) (s' := (fS11 x e0)) (fR8 x c m j L e0) ?_
  show Gets _ _ (codeAt [1, 1, 1, 1] BF) _ _
  rw [fC1_1_1_1]; refine Gets.ev fitT.mix fitT.cfg (fitT.sound fill_sound 12 0) 12 rfl (s' := KSt.low (fS11 x e0)) (x := .ret) rfl ?_
  exact hq
theorem fC1_1_0_1 : (codeAt [1, 1, 0, 1] BF) = .block 0 (codeAt [1, 1, 0, 1, 0] BF) := by kernel_rfl
theorem fC1_1_0_1_0 : (codeAt [1, 1, 0, 1, 0] BF) = .loop (codeAt [1, 1, 0, 1, 0, 0] BF) := by kernel_rfl
/-- One byte after the other. -/
def fillRL (c x : Int) : List Int → Int
  | [] => x
  | k :: r => fillRL c (withRV x k c) r
def fillRV (w b c : Int) : Int := fillRL c w (plL w b 8)
noncomputable def QF (w b c : Int) : Ex → St → Prop := Eng.Ends Tryd.prog Tryd.f22.results.toList fun r _ => r = .int .u64 (fillRV w b c)
theorem qf {w b c x : Int} {s : KSt} (hx : fillRV w b c = x) (h : resL Tryd.prog s.low Tryd.f22.results.toList = some [.int .u64 x]) : QF w b c .ret s.low := Ends.of h (by rw [hx]; rfl)
inductive FI (w b c : Int) (m : Nat) (L : List Int) (e0 : TypeId) : Nat → KSt → Prop
  | at_ (x j : Int) (hj : 0 ≤ j) (hjm : j ≤ (m : Int)) (hx : fillRV w b c = fillRL c x (L.drop (Int.toNat j))) : FI w b c m L e0 ((m : Int) - j).toNat (fS5 x c m j L e0)
theorem loopFI (w b c : Int) (m : Nat) (L : List Int) (e0 : TypeId) (hm : List.length L = m) (hm8 : m ≤ 8) (q : Nat) (s : KSt) (hI : FI w b c m L e0 q s) :
    Gets Tryd.prog (varH .u8 tz e0).low (codeAt [1, 1, 0, 1] BF) s.low (onN (fun s => Gets Tryd.prog (varH .u8 tz e0).low (codeAt [1, 1, 1] BF) s ((QF w b c))) ((QF w b c))) := by
  rw [fC1_1_0_1, fC1_1_0_1_0]
  refine Gets.loopG (fun q s => FI w b c m L e0 q s) ?_ _ _ hI
  clear hI q s
  intro q s hI
  cases hI with
  | at_ x j hj hjm hx =>
    by_cases h : j = (m : Int)
    · refine fex w b c x j m L e0 h ?_
      refine ⟨fun _ => ?_, fun h => by cases h⟩
      refine ffi w b c x j m L e0 (qf (x := x) (hx.trans ?_) (by kernel_rfl))
      rw [List.drop_of_length_le (by omega)]; rfl
    · refine frd w b c x j m L e0 hj (by omega) hm hm8 ?_
      refine ⟨_, _, by omega, rfl, .at_ (withRV x (L.getD (0 + ((Int.toNat j) * 1)) 0) c) (j + 1) (by omega) (by omega) (hx.trans ?_)⟩
      rw [List.drop_eq_getElem_cons (by omega), show Int.toNat (j + 1) = Int.toNat j + 1 by omega]
      show fillRL c (withRV x L[Int.toNat j] c) _ = _
      rw [Nat.zero_add, Nat.mul_one, List.getD_eq_getElem?_getD, List.getElem?_eq_getElem (by omega)]
      rfl
theorem fillR_told (w b c : Int) (e0 : TypeId) : Tells Tryd.prog 22 [.int .u64 w, .int .i64 b, .int .i64 c] (varH .u8 tz e0).low (.int .u64 (fillRV w b c)) := by
  refine Gets.tells Tryd.func22 BF_is (by rw [oneVar]; exact Nat.le_refl _) rfl ?_ Ro.varH
  show Gets Tryd.prog (varH .u8 tz e0).low BF (KSt.low (fS0 w b c e0)) (QF w b c)
  refine fpre w b c 0 0 (List.length (plL w b 8)) (plL w b 8) e0 rfl rfl ?_
  exact loopFI w b c _ _ e0 rfl (pl_len w b 8) _ _ (.at_ w 0 (by omega) (by omega) rfl)
noncomputable def BI : Code := bodyOf Tryd.prog 16
theorem BI_is : Tryd.f16.body = some BI := by kernel_rfl
theorem BI_ok : okCode Tryd.prog.globals.size BI = true := by kernel_rfl
noncomputable def iS0 (n : Nat) (cc : Nat) (dd : Nat) (e0 : TypeId) (l : List Int) (e1 : TypeId) (e2 : TypeId) : KSt := (firstK [(.slice (some ⟨1, 0, none⟩) n cc), (.slice (some ⟨2, 0, none⟩) n dd)] 26 ⟨3, 1, [(0, 0, .cells [(.int .u8 0), (.int .u8 1), (.int .u8 56), (.int .u8 2), (.int .u8 57), (.int .u8 49), (.int .u8 28), (.int .u8 3), (.int .u8 61), (.int .u8 58), (.int .u8 42), (.int .u8 50), (.int .u8 38), (.int .u8 29), (.int .u8 17), (.int .u8 4), (.int .u8 62), (.int .u8 47), (.int .u8 59), (.int .u8 36), (.int .u8 45), (.int .u8 43), (.int .u8 51), (.int .u8 22), (.int .u8 53), (.int .u8 39), (.int .u8 33), (.int .u8 30), (.int .u8 24), (.int .u8 18), (.int .u8 12), (.int .u8 5), (.int .u8 63), (.int .u8 55), (.int .u8 48), (.int .u8 27), (.int .u8 60), (.int .u8 41), (.int .u8 37), (.int .u8 16), (.int .u8 46), (.int .u8 35), (.int .u8 44), (.int .u8 21), (.int .u8 52), (.int .u8 32), (.int .u8 23), (.int .u8 11), (.int .u8 54), (.int .u8 26), (.int .u8 40), (.int .u8 15), (.int .u8 34), (.int .u8 20), (.int .u8 31), (.int .u8 10), (.int .u8 25), (.int .u8 14), (.int .u8 19), (.int .u8 9), (.int .u8 13), (.int .u8 8), (.int .u8 7), (.int .u8 6)] e0 false), (1, 0, .tail 0 .i64 l e1), (2, 0, .tail 0 .i64 l e2)]⟩)
theorem iC : BI = .seq (codeAt [0] BI) (codeAt [1] BI) := by kernel_rfl
noncomputable def iS1 (n : Nat) (cc : Nat) (dd : Nat) (e0 : TypeId) (l : List Int) (e1 : TypeId) (e2 : TypeId) : KSt := ⟨(frameL 26 [(0, (.slice (some ⟨1, 0, none⟩) n cc)), (1, (.slice (some ⟨2, 0, none⟩) n dd))]), ⟨3, 1, [(0, 0, .cells [(.int .u8 0), (.int .u8 1), (.int .u8 56), (.int .u8 2), (.int .u8 57), (.int .u8 49), (.int .u8 28), (.int .u8 3), (.int .u8 61), (.int .u8 58), (.int .u8 42), (.int .u8 50), (.int .u8 38), (.int .u8 29), (.int .u8 17), (.int .u8 4), (.int .u8 62), (.int .u8 47), (.int .u8 59), (.int .u8 36), (.int .u8 45), (.int .u8 43), (.int .u8 51), (.int .u8 22), (.int .u8 53), (.int .u8 39), (.int .u8 33), (.int .u8 30), (.int .u8 24), (.int .u8 18), (.int .u8 12), (.int .u8 5), (.int .u8 63), (.int .u8 55), (.int .u8 48), (.int .u8 27), (.int .u8 60), (.int .u8 41), (.int .u8 37), (.int .u8 16), (.int .u8 46), (.int .u8 35), (.int .u8 44), (.int .u8 21), (.int .u8 52), (.int .u8 32), (.int .u8 23), (.int .u8 11), (.int .u8 54), (.int .u8 26), (.int .u8 40), (.int .u8 15), (.int .u8 34), (.int .u8 20), (.int .u8 31), (.int .u8 10), (.int .u8 25), (.int .u8 14), (.int .u8 19), (.int .u8 9), (.int .u8 13), (.int .u8 8), (.int .u8 7), (.int .u8 6)] e0 false), (1, 0, .tail 0 .i64 l e1), (2, 0, .tail 0 .i64 l e2)]⟩⟩
theorem iR1 (n : Nat) (cc : Nat) (dd : Nat) (e0 : TypeId) (l : List Int) (e1 : TypeId) (e2 : TypeId) : evCK Tryd.prog cfgT (runK Tryd.prog cfgT fsT noT 12 40) 12 (codeAt [0] BI) (iS0 n cc dd e0 l e1 e2) (normC 3 [0, 1]) =
  some (.normal, (iS1 n cc dd e0 l e1 e2)) := by kernel_rfl
theorem iC1 : (codeAt [1] BI) = .seq (codeAt [1, 0] BI) (codeAt [1, 1] BI) := by kernel_rfl
theorem iC1_0 : (codeAt [1, 0] BI) = .seq (codeAt [1, 0, 0] BI) (codeAt [1, 0, 1] BI) := by kernel_rfl
noncomputable def iS2 (n : Nat) (cc : Nat) (dd : Nat) (e0 : TypeId) (l : List Int) (e1 : TypeId) (e2 : TypeId) : KSt := ⟨(frameL 26 [(0, (.slice (some ⟨1, 0, none⟩) n cc)), (1, (.slice (some ⟨2, 0, none⟩) n dd)), (10, (.bool (((n : Nat) : Int) != ((n : Nat) : Int))))]), ⟨3, 1, [(0, 0, .cells [(.int .u8 0), (.int .u8 1), (.int .u8 56), (.int .u8 2), (.int .u8 57), (.int .u8 49), (.int .u8 28), (.int .u8 3), (.int .u8 61), (.int .u8 58), (.int .u8 42), (.int .u8 50), (.int .u8 38), (.int .u8 29), (.int .u8 17), (.int .u8 4), (.int .u8 62), (.int .u8 47), (.int .u8 59), (.int .u8 36), (.int .u8 45), (.int .u8 43), (.int .u8 51), (.int .u8 22), (.int .u8 53), (.int .u8 39), (.int .u8 33), (.int .u8 30), (.int .u8 24), (.int .u8 18), (.int .u8 12), (.int .u8 5), (.int .u8 63), (.int .u8 55), (.int .u8 48), (.int .u8 27), (.int .u8 60), (.int .u8 41), (.int .u8 37), (.int .u8 16), (.int .u8 46), (.int .u8 35), (.int .u8 44), (.int .u8 21), (.int .u8 52), (.int .u8 32), (.int .u8 23), (.int .u8 11), (.int .u8 54), (.int .u8 26), (.int .u8 40), (.int .u8 15), (.int .u8 34), (.int .u8 20), (.int .u8 31), (.int .u8 10), (.int .u8 25), (.int .u8 14), (.int .u8 19), (.int .u8 9), (.int .u8 13), (.int .u8 8), (.int .u8 7), (.int .u8 6)] e0 false), (1, 0, .tail 0 .i64 l e1), (2, 0, .tail 0 .i64 l e2)]⟩⟩
theorem iR2 (n : Nat) (cc : Nat) (dd : Nat) (e0 : TypeId) (l : List Int) (e1 : TypeId) (e2 : TypeId) : evCK Tryd.prog cfgT (runK Tryd.prog cfgT fsT noT 12 40) 12 (codeAt [1, 0, 0] BI) (iS1 n cc dd e0 l e1 e2) (normC 3 [0, 1, 10]) =
  some (.normal, (iS2 n cc dd e0 l e1 e2)) := by kernel_rfl
theorem iC1_0_1 : (codeAt [1, 0, 1] BI) = .cond (.tmp 10) (codeAt [1, 0, 1, 0] BI) (codeAt [1, 0, 1, 1] BI) := by kernel_rfl
theorem iR3 (n : Nat) (cc : Nat) (dd : Nat) (e0 : TypeId) (l : List Int) (e1 : TypeId) (e2 : TypeId) : evCK Tryd.prog cfgT (runK Tryd.prog cfgT fsT noT 12 40) 12 (codeAt [1, 0, 1, 1] BI) (iS2 n cc dd e0 l e1 e2) (normC 3 [0, 1]) =
  some (.normal, (iS1 n cc dd e0 l e1 e2)) := by kernel_rfl
theorem iC1_1 : (codeAt [1, 1] BI) = .seq (codeAt [1, 1, 0] BI) (codeAt [1, 1, 1] BI) := by kernel_rfl
theorem iC1_1_0 : (codeAt [1, 1, 0] BI) = .seq (codeAt [1, 1, 0, 0] BI) (codeAt [1, 1, 0, 1] BI) := by kernel_rfl
noncomputable def iS3 (n : Nat) (cc : Nat) (dd : Nat) (e0 : TypeId) (l : List Int) (e1 : TypeId) (e2 : TypeId) : KSt := ⟨(frameL 26 [(0, (.slice (some ⟨1, 0, none⟩) n cc)), (1, (.slice (some ⟨2, 0, none⟩) n dd)), (5, (.int .i64 0))]), ⟨3, 1, [(0, 0, .cells [(.int .u8 0), (.int .u8 1), (.int .u8 56), (.int .u8 2), (.int .u8 57), (.int .u8 49), (.int .u8 28), (.int .u8 3), (.int .u8 61), (.int .u8 58), (.int .u8 42), (.int .u8 50), (.int .u8 38), (.int .u8 29), (.int .u8 17), (.int .u8 4), (.int .u8 62), (.int .u8 47), (.int .u8 59), (.int .u8 36), (.int .u8 45), (.int .u8 43), (.int .u8 51), (.int .u8 22), (.int .u8 53), (.int .u8 39), (.int .u8 33), (.int .u8 30), (.int .u8 24), (.int .u8 18), (.int .u8 12), (.int .u8 5), (.int .u8 63), (.int .u8 55), (.int .u8 48), (.int .u8 27), (.int .u8 60), (.int .u8 41), (.int .u8 37), (.int .u8 16), (.int .u8 46), (.int .u8 35), (.int .u8 44), (.int .u8 21), (.int .u8 52), (.int .u8 32), (.int .u8 23), (.int .u8 11), (.int .u8 54), (.int .u8 26), (.int .u8 40), (.int .u8 15), (.int .u8 34), (.int .u8 20), (.int .u8 31), (.int .u8 10), (.int .u8 25), (.int .u8 14), (.int .u8 19), (.int .u8 9), (.int .u8 13), (.int .u8 8), (.int .u8 7), (.int .u8 6)] e0 false), (1, 0, .tail 0 .i64 l e1), (2, 0, .tail 0 .i64 l e2)]⟩⟩
theorem iR4 (n : Nat) (cc : Nat) (dd : Nat) (e0 : TypeId) (l : List Int) (e1 : TypeId) (e2 : TypeId) : evCK Tryd.prog cfgT (runK Tryd.prog cfgT fsT noT 12 40) 12 (codeAt [1, 1, 0, 0] BI) (iS1 n cc dd e0 l e1 e2) (normC 3 [0, 1, 5]) =
  some (.normal, (iS3 n cc dd e0 l e1 e2)) := by kernel_rfl
theorem ipre (i : Int) (n cc dd : Nat) (l : List Int) (e0 e1 e2 : TypeId)   {Q : Ex → St → Prop} (hq : Gets Tryd.prog (KH.low ⟨3, 1, [(0, 0, .cells [(.int .u8 0), (.int .u8 1), (.int .u8 56), (.int .u8 2), (.int .u8 57), (.int .u8 49), (.int .u8 28), (.int .u8 3), (.int .u8 61), (.int .u8 58), (.int .u8 42), (.int .u8 50), (.int .u8 38), (.int .u8 29), (.int .u8 17), (.int .u8 4), (.int .u8 62), (.int .u8 47), (.int .u8 59), (.int .u8 36), (.int .u8 45), (.int .u8 43), (.int .u8 51), (.int .u8 22), (.int .u8 53), (.int .u8 39), (.int .u8 33), (.int .u8 30), (.int .u8 24), (.int .u8 18), (.int .u8 12), (.int .u8 5), (.int .u8 63), (.int .u8 55), (.int .u8 48), (.int .u8 27), (.int .u8 60), (.int .u8 41), (.int .u8 37), (.int .u8 16), (.int .u8 46), (.int .u8 35), (.int .u8 44), (.int .u8 21), (.int .u8 52), (.int .u8 32), (.int .u8 23), (.int .u8 11), (.int .u8 54), (.int .u8 26), (.int .u8 40), (.int .u8 15), (.int .u8 34), (.int .u8 20), (.int .u8 31), (.int .u8 10), (.int .u8 25), (.int .u8 14), (.int .u8 19), (.int .u8 9), (.int .u8 13), (.int .u8 8), (.int .u8 7), (.int .u8 6)] e0 false), (1, 0, .tail 0 .i64 l e1), (2, 0, .tail 0 .i64 l e2)]⟩) (codeAt [1, 1, 0, 1] BI) (KSt.low (iS3 n cc dd e0 l e1 e2)) (onN (fun s => Gets Tryd.prog (KH.low ⟨3, 1, [(0, 0, .cells [(.int .u8 0), (.int .u8 1), (.int .u8 56), (.int .u8 2), (.int .u8 57), (.int .u8 49), (.int .u8 28), (.int .u8 3), (.int .u8 61), (.int .u8 58), (.int .u8 42), (.int .u8 50), (.int .u8 38), (.int .u8 29), (.int .u8 17), (.int .u8 4), (.int .u8 62), (.int .u8 47), (.int .u8 59), (.int .u8 36), (.int .u8 45), (.int .u8 43), (.int .u8 51), (.int .u8 22), (.int .u8 53), (.int .u8 39), (.int .u8 33), (.int .u8 30), (.int .u8 24), (.int .u8 18), (.int .u8 12), (.int .u8 5), (.int .u8 63), (.int .u8 55), (.int .u8 48), (.int .u8 27), (.int .u8 60), (.int .u8 41), (.int .u8 37), (.int .u8 16), (.int .u8 46), (.int .u8 35), (.int .u8 44), (.int .u8 21), (.int .u8 52), (.int .u8 32), (.int .u8 23), (.int .u8 11), (.int .u8 54), (.int .u8 26), (.int .u8 40), (.int .u8 15), (.int .u8 34), (.int .u8 20), (.int .u8 31), (.int .u8 10), (.int .u8 25), (.int .u8 14), (.int .u8 19), (.int .u8 9), (.int .u8 13), (.int .u8 8), (.int .u8 7), (.int .u8 6)] e0 false), (1, 0, .tail 0 .i64 l e1), (2, 0, .tail 0 .i64 l e2)]⟩) (codeAt [1, 1, 1] BI) s (Q)) (Q))) : Gets Tryd.prog (KH.low ⟨3, 1, [(0, 0, .cells [(.int .u8 0), (.int .u8 1), (.int .u8 56), (.int .u8 2), (.int .u8 57), (.int .u8 49), (.int .u8 28), (.int .u8 3), (.int .u8 61), (.int .u8 58), (.int .u8 42), (.int .u8 50), (.int .u8 38), (.int .u8 29), (.int .u8 17), (.int .u8 4), (.int .u8 62), (.int .u8 47), (.int .u8 59), (.int .u8 36), (.int .u8 45), (.int .u8 43), (.int .u8 51), (.int .u8 22), (.int .u8 53), (.int .u8 39), (.int .u8 33), (.int .u8 30), (.int .u8 24), (.int .u8 18), (.int .u8 12), (.int .u8 5), (.int .u8 63), (.int .u8 55), (.int .u8 48), (.int .u8 27), (.int .u8 60), (.int .u8 41), (.int .u8 37), (.int .u8 16), (.int .u8 46), (.int .u8 35), (.int .u8 44), (.int .u8 21), (.int .u8 52), (.int .u8 32), (.int .u8 23), (.int .u8 11), (.int .u8 54), (.int .u8 26), (.int .u8 40), (.int .u8 15), (.int .u8 34), (.int .u8 20), (.int .u8 31), (.int .u8 10), (.int .u8 25), (.int .u8 14), (.int .u8 19), (.int .u8 9), (.int .u8 13), (.int .u8 8), (.int .u8 7), (.int .u8 6)] e0 false), (1, 0, .tail 0 .i64 l e1), (2, 0, .tail 0 .i64 l e2)]⟩) BI (KSt.low (iS0 n cc dd e0 l e1 e2)) Q := by
  rw [iC]; refine Gets.seq ?_
  refine Gets.ofN fitT SoundC.no AgreeT.no 12 40 (by kernel_rfl) (x := .normal) (s' := (iS1 n cc dd e0 l e1 e2)) (iR1 n cc dd e0 l e1 e2) ?_
  show Gets _ _ (codeAt [1] BI) _ _
  rw [iC1]; refine Gets.seq ?_
  rw [iC1_0]; refine Gets.seq ?_
  refine Gets.ofN fitT SoundC.no AgreeT.no 12 40 (by kernel_rfl) (x := .normal) (s' := (iS2 n cc dd e0 l e1 e2)) (iR2 n cc dd e0 l e1 e2) ?_
  show Gets _ _ (codeAt [1, 0, 1] BI) _ _
  rw [iC1_0_1]; refine Gets.cond false (by kernel_rfl) ((show evalX (KSt.ts (iS2 n cc dd e0 l e1 e2)) (.tmp 10) = .bool (((n : Nat) : Int) != ((n : Nat) : Int)) by kernel_rfl).trans (by rw [(show (((n : Nat) : Int) != ((n : Nat) : Int)) = false from ibne_f (by omega))])) ?_; show Gets _ _ (codeAt [1, 0, 1, 1] BI) _ _
  refine Gets.ofN fitT SoundC.no AgreeT.no 12 40 (by kernel_rfl) (x := .normal) (s' := (iS1 n cc dd e0 l e1 e2)) (iR3 n cc dd e0 l e1 e2) ?_
  show Gets _ _ (codeAt [1, 1] BI) _ _
  rw [iC1_1]; refine Gets.seq ?_
  rw [iC1_1_0]; refine Gets.seq ?_
  refine Gets.ofN fitT SoundC.no AgreeT.no 12 40 (by kernel_rfl) (x := .normal) (s' := (iS3 n cc dd e0 l e1 e2)) (iR4 n cc dd e0 l e1 e2) ?_
  show Gets _ _ (codeAt [1, 1, 0, 1] BI) _ _
  exact hq
noncomputable def iS4 (n : Nat) (cc : Nat) (dd : Nat) (i : Int) (e0 : TypeId) (l : List Int) (e1 : TypeId) (e2 : TypeId) : KSt := ⟨(frameL 26 [(0, (.slice (some ⟨1, 0, none⟩) n cc)), (1, (.slice (some ⟨2, 0, none⟩) n dd)), (5, (.int .i64 i))]), ⟨3, 1, [(0, 0, .cells [(.int .u8 0), (.int .u8 1), (.int .u8 56), (.int .u8 2), (.int .u8 57), (.int .u8 49), (.int .u8 28), (.int .u8 3), (.int .u8 61), (.int .u8 58), (.int .u8 42), (.int .u8 50), (.int .u8 38), (.int .u8 29), (.int .u8 17), (.int .u8 4), (.int .u8 62), (.int .u8 47), (.int .u8 59), (.int .u8 36), (.int .u8 45), (.int .u8 43), (.int .u8 51), (.int .u8 22), (.int .u8 53), (.int .u8 39), (.int .u8 33), (.int .u8 30), (.int .u8 24), (.int .u8 18), (.int .u8 12), (.int .u8 5), (.int .u8 63), (.int .u8 55), (.int .u8 48), (.int .u8 27), (.int .u8 60), (.int .u8 41), (.int .u8 37), (.int .u8 16), (.int .u8 46), (.int .u8 35), (.int .u8 44), (.int .u8 21), (.int .u8 52), (.int .u8 32), (.int .u8 23), (.int .u8 11), (.int .u8 54), (.int .u8 26), (.int .u8 40), (.int .u8 15), (.int .u8 34), (.int .u8 20), (.int .u8 31), (.int .u8 10), (.int .u8 25), (.int .u8 14), (.int .u8 19), (.int .u8 9), (.int .u8 13), (.int .u8 8), (.int .u8 7), (.int .u8 6)] e0 false), (1, 0, .tail 0 .i64 l e1), (2, 0, .tail 0 .i64 l e2)]⟩⟩
theorem iC1_1_0_1_0_0 : (codeAt [1, 1, 0, 1, 0, 0] BI) = .seq (codeAt [1, 1, 0, 1, 0, 0, 0] BI) (codeAt [1, 1, 0, 1, 0, 0, 1] BI) := by kernel_rfl
theorem iC1_1_0_1_0_0_0 : (codeAt [1, 1, 0, 1, 0, 0, 0] BI) = .seq (codeAt [1, 1, 0, 1, 0, 0, 0, 0] BI) (codeAt [1, 1, 0, 1, 0, 0, 0, 1] BI) := by kernel_rfl
noncomputable def iS5 (n : Nat) (cc : Nat) (dd : Nat) (i : Int) (e0 : TypeId) (l : List Int) (e1 : TypeId) (e2 : TypeId) : KSt := ⟨(frameL 26 [(0, (.slice (some ⟨1, 0, none⟩) n cc)), (1, (.slice (some ⟨2, 0, none⟩) n dd)), (5, (.int .i64 i)), (14, (.bool (decide (i < ((n : Nat) : Int)))))]), ⟨3, 1, [(0, 0, .cells [(.int .u8 0), (.int .u8 1), (.int .u8 56), (.int .u8 2), (.int .u8 57), (.int .u8 49), (.int .u8 28), (.int .u8 3), (.int .u8 61), (.int .u8 58), (.int .u8 42), (.int .u8 50), (.int .u8 38), (.int .u8 29), (.int .u8 17), (.int .u8 4), (.int .u8 62), (.int .u8 47), (.int .u8 59), (.int .u8 36), (.int .u8 45), (.int .u8 43), (.int .u8 51), (.int .u8 22), (.int .u8 53), (.int .u8 39), (.int .u8 33), (.int .u8 30), (.int .u8 24), (.int .u8 18), (.int .u8 12), (.int .u8 5), (.int .u8 63), (.int .u8 55), (.int .u8 48), (.int .u8 27), (.int .u8 60), (.int .u8 41), (.int .u8 37), (.int .u8 16), (.int .u8 46), (.int .u8 35), (.int .u8 44), (.int .u8 21), (.int .u8 52), (.int .u8 32), (.int .u8 23), (.int .u8 11), (.int .u8 54), (.int .u8 26), (.int .u8 40), (.int .u8 15), (.int .u8 34), (.int .u8 20), (.int .u8 31), (.int .u8 10), (.int .u8 25), (.int .u8 14), (.int .u8 19), (.int .u8 9), (.int .u8 13), (.int .u8 8), (.int .u8 7), (.int .u8 6)] e0 false), (1, 0, .tail 0 .i64 l e1), (2, 0, .tail 0 .i64 l e2)]⟩⟩
theorem iR5 (n : Nat) (cc : Nat) (dd : Nat) (i : Int) (e0 : TypeId) (l : List Int) (e1 : TypeId) (e2 : TypeId) : evCK Tryd.prog cfgT (runK Tryd.prog cfgT fsT noT 12 40) 12 (codeAt [1, 1, 0, 1, 0, 0, 0, 0] BI) (iS4 n cc dd i e0 l e1 e2) (normC 3 [0, 1, 5, 14]) =
  some (.normal, (iS5 n cc dd i e0 l e1 e2)) := by kernel_rfl
theorem iC1_1_0_1_0_0_0_1 : (codeAt [1, 1, 0, 1, 0, 0, 0, 1] BI) = .cond (.tmp 14) (codeAt [1, 1, 0, 1, 0, 0, 0, 1, 0] BI) (codeAt [1, 1, 0, 1, 0, 0, 0, 1, 1] BI) := by kernel_rfl
theorem iR6 (n : Nat) (cc : Nat) (dd : Nat) (i : Int) (e0 : TypeId) (l : List Int) (e1 : TypeId) (e2 : TypeId) : evCK Tryd.prog cfgT (runK Tryd.prog cfgT fsT noT 12 40) 12 (codeAt [1, 1, 0, 1, 0, 0, 0, 1, 0] BI) (iS5 n cc dd i e0 l e1 e2) (normC 3 [0, 1, 5]) =
  some (.normal, (iS4 n cc dd i e0 l e1 e2)) := by kernel_rfl
theorem iC1_1_0_1_0_0_1 : (codeAt [1, 1, 0, 1, 0, 0, 1] BI) = .seq (codeAt [1, 1, 0, 1, 0, 0, 1, 0] BI) (codeAt [1, 1, 0, 1, 0, 0, 1, 1] BI) := by kernel_rfl
theorem iC1_1_0_1_0_0_1_0 : (codeAt [1, 1, 0, 1, 0, 0, 1, 0] BI) = .block 1 (codeAt [1, 1, 0, 1, 0, 0, 1, 0, 0] BI) := by kernel_rfl
theorem iC1_1_0_1_0_0_1_0_0 : (codeAt [1, 1, 0, 1, 0, 0, 1, 0, 0] BI) = .seq (codeAt [1, 1, 0, 1, 0, 0, 1, 0, 0, 0] BI) (codeAt [1, 1, 0, 1, 0, 0, 1, 0, 0, 1] BI) := by kernel_rfl
noncomputable def iS6 (n : Nat) (cc : Nat) (dd : Nat) (i : Int) (n1 : Int) (n2 : Int) (e0 : TypeId) (l : List Int) (e1 : TypeId) (e2 : TypeId) : KSt := ⟨(frameL 26 [(0, (.slice (some ⟨1, 0, none⟩) n cc)), (1, (.slice (some ⟨2, 0, none⟩) n dd)), (5, (.int .i64 i)), (25, (.bool (n1 != n2)))]), ⟨3, 1, [(0, 0, .cells [(.int .u8 0), (.int .u8 1), (.int .u8 56), (.int .u8 2), (.int .u8 57), (.int .u8 49), (.int .u8 28), (.int .u8 3), (.int .u8 61), (.int .u8 58), (.int .u8 42), (.int .u8 50), (.int .u8 38), (.int .u8 29), (.int .u8 17), (.int .u8 4), (.int .u8 62), (.int .u8 47), (.int .u8 59), (.int .u8 36), (.int .u8 45), (.int .u8 43), (.int .u8 51), (.int .u8 22), (.int .u8 53), (.int .u8 39), (.int .u8 33), (.int .u8 30), (.int .u8 24), (.int .u8 18), (.int .u8 12), (.int .u8 5), (.int .u8 63), (.int .u8 55), (.int .u8 48), (.int .u8 27), (.int .u8 60), (.int .u8 41), (.int .u8 37), (.int .u8 16), (.int .u8 46), (.int .u8 35), (.int .u8 44), (.int .u8 21), (.int .u8 52), (.int .u8 32), (.int .u8 23), (.int .u8 11), (.int .u8 54), (.int .u8 26), (.int .u8 40), (.int .u8 15), (.int .u8 34), (.int .u8 20), (.int .u8 31), (.int .u8 10), (.int .u8 25), (.int .u8 14), (.int .u8 19), (.int .u8 9), (.int .u8 13), (.int .u8 8), (.int .u8 7), (.int .u8 6)] e0 false), (1, 0, .tail 0 .i64 l e1), (2, 0, .tail 0 .i64 l e2)]⟩⟩
theorem iR7 (n : Nat) (cc : Nat) (dd : Nat) (i : Int) (e0 : TypeId) (l : List Int) (e1 : TypeId) (e2 : TypeId) : evCK Tryd.prog cfgT (runK Tryd.prog cfgT fsT noT 12 40) 12 (codeAt [1, 1, 0, 1, 0, 0, 1, 0, 0, 0] BI) (iS4 n cc dd i e0 l e1 e2) (normC 3 [0, 1, 5, 25]) =
  if 0 ≤ i ∧ i < ((n : Nat) : Int) then
    bif (Nat.ble 0 (0 + ((Int.toNat i) * 1))) then
      obind (l[((0 + ((Int.toNat i) * 1)) - 0)]?) fun n1 =>
        if 0 ≤ i ∧ i < ((n : Nat) : Int) then
          bif (Nat.ble 0 (0 + ((Int.toNat i) * 1))) then
            obind (l[((0 + ((Int.toNat i) * 1)) - 0)]?) fun n2 =>
              some (.normal, (iS6 n cc dd i n1 n2 e0 l e1 e2))
          else
            none
        else
          none
    else
      none
  else
    none := by kernel_rfl
noncomputable def iS7 (n : Nat) (cc : Nat) (dd : Nat) (i : Int) (l : List Int) (e0 : TypeId) (e1 : TypeId) (e2 : TypeId) : KSt := ⟨(frameL 26 [(0, (.slice (some ⟨1, 0, none⟩) n cc)), (1, (.slice (some ⟨2, 0, none⟩) n dd)), (5, (.int .i64 i)), (25, (.bool ((l.getD ((Int.toNat i) * 1) 0) != (l.getD ((Int.toNat i) * 1) 0))))]), ⟨3, 1, [(0, 0, .cells [(.int .u8 0), (.int .u8 1), (.int .u8 56), (.int .u8 2), (.int .u8 57), (.int .u8 49), (.int .u8 28), (.int .u8 3), (.int .u8 61), (.int .u8 58), (.int .u8 42), (.int .u8 50), (.int .u8 38), (.int .u8 29), (.int .u8 17), (.int .u8 4), (.int .u8 62), (.int .u8 47), (.int .u8 59), (.int .u8 36), (.int .u8 45), (.int .u8 43), (.int .u8 51), (.int .u8 22), (.int .u8 53), (.int .u8 39), (.int .u8 33), (.int .u8 30), (.int .u8 24), (.int .u8 18), (.int .u8 12), (.int .u8 5), (.int .u8 63), (.int .u8 55), (.int .u8 48), (.int .u8 27), (.int .u8 60), (.int .u8 41), (.int .u8 37), (.int .u8 16), (.int .u8 46), (.int .u8 35), (.int .u8 44), (.int .u8 21), (.int .u8 52), (.int .u8 32), (.int .u8 23), (.int .u8 11), (.int .u8 54), (.int .u8 26), (.int .u8 40), (.int .u8 15), (.int .u8 34), (.int .u8 20), (.int .u8 31), (.int .u8 10), (.int .u8 25), (.int .u8 14), (.int .u8 19), (.int .u8 9), (.int .u8 13), (.int .u8 8), (.int .u8 7), (.int .u8 6)] e0 false), (1, 0, .tail 0 .i64 l e1), (2, 0, .tail 0 .i64 l e2)]⟩⟩
theorem iC1_1_0_1_0_0_1_0_0_1 : (codeAt [1, 1, 0, 1, 0, 0, 1, 0, 0, 1] BI) = .cond (.tmp 25) (codeAt [1, 1, 0, 1, 0, 0, 1, 0, 0, 1, 0] BI) (codeAt [1, 1, 0, 1, 0, 0, 1, 0, 0, 1, 1] BI) := by kernel_rfl
theorem iR8 (n : Nat) (cc : Nat) (dd : Nat) (i : Int) (l : List Int) (e0 : TypeId) (e1 : TypeId) (e2 : TypeId) : evCK Tryd.prog cfgT (runK Tryd.prog cfgT fsT noT 12 40) 12 (codeAt [1, 1, 0, 1, 0, 0, 1, 0, 0, 1, 1] BI) (iS7 n cc dd i l e0 e1 e2) (normC 3 [0, 1, 5]) =
  some (.normal, (iS4 n cc dd i e0 l e1 e2)) := by kernel_rfl
noncomputable def iS8 (n : Nat) (cc : Nat) (dd : Nat) (i : Int) (e0 : TypeId) (l : List Int) (e1 : TypeId) (e2 : TypeId) : KSt := ⟨(frameL 26 [(0, (.slice (some ⟨1, 0, none⟩) n cc)), (1, (.slice (some ⟨2, 0, none⟩) n dd)), (5, (.int .i64 (IntKind.wrap .i64 (i + 1))))]), ⟨3, 1, [(0, 0, .cells [(.int .u8 0), (.int .u8 1), (.int .u8 56), (.int .u8 2), (.int .u8 57), (.int .u8 49), (.int .u8 28), (.int .u8 3), (.int .u8 61), (.int .u8 58), (.int .u8 42), (.int .u8 50), (.int .u8 38), (.int .u8 29), (.int .u8 17), (.int .u8 4), (.int .u8 62), (.int .u8 47), (.int .u8 59), (.int .u8 36), (.int .u8 45), (.int .u8 43), (.int .u8 51), (.int .u8 22), (.int .u8 53), (.int .u8 39), (.int .u8 33), (.int .u8 30), (.int .u8 24), (.int .u8 18), (.int .u8 12), (.int .u8 5), (.int .u8 63), (.int .u8 55), (.int .u8 48), (.int .u8 27), (.int .u8 60), (.int .u8 41), (.int .u8 37), (.int .u8 16), (.int .u8 46), (.int .u8 35), (.int .u8 44), (.int .u8 21), (.int .u8 52), (.int .u8 32), (.int .u8 23), (.int .u8 11), (.int .u8 54), (.int .u8 26), (.int .u8 40), (.int .u8 15), (.int .u8 34), (.int .u8 20), (.int .u8 31), (.int .u8 10), (.int .u8 25), (.int .u8 14), (.int .u8 19), (.int .u8 9), (.int .u8 13), (.int .u8 8), (.int .u8 7), (.int .u8 6)] e0 false), (1, 0, .tail 0 .i64 l e1), (2, 0, .tail 0 .i64 l e2)]⟩⟩
theorem iR9 (n : Nat) (cc : Nat) (dd : Nat) (i : Int) (e0 : TypeId) (l : List Int) (e1 : TypeId) (e2 : TypeId) : evCK Tryd.prog cfgT (runK Tryd.prog cfgT fsT noT 12 40) 12 (codeAt [1, 1, 0, 1, 0, 0, 1, 1] BI) (iS4 n cc dd i e0 l e1 e2) (normC 3 [0, 1, 5]) =
  some (.normal, (iS8 n cc dd i e0 l e1 e2)) := by kernel_rfl
noncomputable def iS9 (n : Nat) (cc : Nat) (dd : Nat) (i : Int) (e0 : TypeId) (l : List Int) (e1 : TypeId) (e2 : TypeId) : KSt := ⟨(frameL 26 [(0, (.slice (some ⟨1, 0, none⟩) n cc)), (1, (.slice (some ⟨2, 0, none⟩) n dd)), (5, (.int .i64 (i + 1)))]), ⟨3, 1, [(0, 0, .cells [(.int .u8 0), (.int .u8 1), (.int .u8 56), (.int .u8 2), (.int .u8 57), (.int .u8 49), (.int .u8 28), (.int .u8 3), (.int .u8 61), (.int .u8 58), (.int .u8 42), (.int .u8 50), (.int .u8 38), (.int .u8 29), (.int .u8 17), (.int .u8 4), (.int .u8 62), (.int .u8 47), (.int .u8 59), (.int .u8 36), (.int .u8 45), (.int .u8 43), (.int .u8 51), (.int .u8 22), (.int .u8 53), (.int .u8 39), (.int .u8 33), (.int .u8 30), (.int .u8 24), (.int .u8 18), (.int .u8 12), (.int .u8 5), (.int .u8 63), (.int .u8 55), (.int .u8 48), (.int .u8 27), (.int .u8 60), (.int .u8 41), (.int .u8 37), (.int .u8 16), (.int .u8 46), (.int .u8 35), (.int .u8 44), (.int .u8 21), (.int .u8 52), (.int .u8 32), (.int .u8 23), (.int .u8 11), (.int .u8 54), (.int .u8 26), (.int .u8 40), (.int .u8 15), (.int .u8 34), (.int .u8 20), (.int .u8 31), (.int .u8 10), (.int .u8 25), (.int .u8 14), (.int .u8 19), (.int .u8 9), (.int .u8 13), (.int .u8 8), (.int .u8 7), (.int .u8 6)] e0 false), (1, 0, .tail 0 .i64 l e1), (2, 0, .tail 0 .i64 l e2)]⟩⟩
theorem ird (i : Int) (n cc dd : Nat) (l : List Int) (e0 e1 e2 : TypeId) (hl : l.length = n) (hn : n ≤ 1000) (hi : 0 ≤ i) (hin : i < (n : Int))   {Q : Ex → St → Prop} (hq : Q .normal (KSt.low (iS9 n cc dd i e0 l e1 e2))) : Gets Tryd.prog (KH.low ⟨3, 1, [(0, 0, .cells [(.int .u8 0), (.int .u8 1), (.int .u8 56), (.int .u8 2), (.int .u8 57), (.int .u8 49), (.int .u8 28), (.int .u8 3), (.int .u8 61), (.int .u8 58), (.int .u8 42), (.int .u8 50), (.int .u8 38), (.int .u8 29), (.int .u8 17), (.int .u8 4), (.int .u8 62), (.int .u8 47), (.int .u8 59), (.int .u8 36), (.int .u8 45), (.int .u8 43), (.int .u8 51), (.int .u8 22), (.int .u8 53), (.int .u8 39), (.int .u8 33), (.int .u8 30), (.int .u8 24), (.int .u8 18), (.int .u8 12), (.int .u8 5), (.int .u8 63), (.int .u8 55), (.int .u8 48), (.int .u8 27), (.int .u8 60), (.int .u8 41), (.int .u8 37), (.int .u8 16), (.int .u8 46), (.int .u8 35), (.int .u8 44), (.int .u8 21), (.int .u8 52), (.int .u8 32), (.int .u8 23), (.int .u8 11), (.int .u8 54), (.int .u8 26), (.int .u8 40), (.int .u8 15), (.int .u8 34), (.int .u8 20), (.int .u8 31), (.int .u8 10), (.int .u8 25), (.int .u8 14), (.int .u8 19), (.int .u8 9), (.int .u8 13), (.int .u8 8), (.int .u8 7), (.int .u8 6)] e0 false), (1, 0, .tail 0 .i64 l e1), (2, 0, .tail 0 .i64 l e2)]⟩) (codeAt [1, 1, 0, 1, 0, 0] BI) (KSt.low (iS4 n cc dd i e0 l e1 e2)) Q := by
  rw [iC1_1_0_1_0_0]; refine Gets.seq ?_
  rw [iC1_1_0_1_0_0_0]; refine Gets.seq ?_
  refine Gets.ofN fitT SoundC.no AgreeT.no 12 40 (by kernel_rfl) (x := .normal) (s' := (iS5 n cc dd i e0 l e1 e2)) (iR5 n cc dd i e0 l e1 e2) ?_
  show Gets _ _ (codeAt [1, 1, 0, 1, 0, 0, 0, 1] BI) _ _
  rw [iC1_1_0_1_0_0_0_1]; refine Gets.cond true (by kernel_rfl) ((show evalX (KSt.ts (iS5 n cc dd i e0 l e1 e2)) (.tmp 14) = .bool (decide (i < ((n : Nat) : Int))) by kernel_rfl).trans (by rw [(show (decide (i < ((n : Nat) : Int))) = true from decide_eq_true (by omega))])) ?_; show Gets _ _ (codeAt [1, 1, 0, 1, 0, 0, 0, 1, 0] BI) _ _
  refine Gets.ofN fitT SoundC.no AgreeT.no 12 40 (by kernel_rfl) (x := .normal) (s' := (iS4 n cc dd i e0 l e1 e2)) (iR6 n cc dd i e0 l e1 e2) ?_
  show Gets _ _ (codeAt [1, 1, 0, 1, 0, 0, 1] BI) _ _
  rw [iC1_1_0_1_0_0_1]; refine Gets.seq ?_
  rw [iC1_1_0_1_0_0_1_0]; refine Gets.block ?_
  rw [iC1_1_0_1_0_0_1_0_0]; refine Gets.seq ?_
  refine Gets.ofN fitT SoundC.no AgreeT.no 12 40 (by kernel_rfl) (x := .normal) (s' := (iS7 n cc dd i l e0 e1 e2)) ((iR7 n cc dd i e0 l e1 e2).trans (by rw [if_pos (⟨by omega, by omega⟩), condT (ble_t (by omega)), obind_at (k := ((Int.toNat i) * 1)) (by omega) (by omega), if_pos (⟨by omega, by omega⟩), condT (ble_t (by omega)), obind_at (k := ((Int.toNat i) * 1)) (by omega) (by omega)] <;> rfl)) ?_
  show Gets _ _ (codeAt [1, 1, 0, 1, 0, 0, 1, 0, 0, 1] BI) _ _
  rw [iC1_1_0_1_0_0_1_0_0_1]; refine Gets.cond false (by kernel_rfl) ((show evalX (KSt.ts (iS7 n cc dd i l e0 e1 e2)) (.tmp 25) = .bool ((l.getD ((Int.toNat i) * 1) 0) != (l.getD ((Int.toNat i) * 1) 0)) by kernel_rfl).trans (by rw [(show ((l.getD ((Int.toNat i) * 1) 0) != (l.getD ((Int.toNat i) * 1) 0)) = false from ibne_f (by omega))])) ?_; show Gets _ _ (codeAt [1, 1, 0, 1, 0, 0, 1, 0, 0, 1, 1] BI) _ _
  refine Gets.ofN fitT SoundC.no AgreeT.no 12 40 (by kernel_rfl) (x := .normal) (s' := (iS4 n cc dd i e0 l e1 e2)) (iR8 n cc dd i l e0 e1 e2) ?_
  show Gets _ _ (codeAt [1, 1, 0, 1, 0, 0, 1, 1] BI) _ _
  refine Gets.ofN fitT SoundC.no AgreeT.no 12 40 (by kernel_rfl) (x := .normal) (s' := (iS9 n cc dd i e0 l e1 e2)) ((iR9 n cc dd i e0 l e1 e2).trans (by (show some (Ex.normal, (iS8 n cc dd i e0 l e1 e2)) = some (Ex.normal, (iS9 n cc dd i e0 l e1 e2)); unfold iS8 iS9; rw [(show (IntKind.wrap .i64 (i + 1)) = (i + 1) from wrap_i64_id (by omega) (by omega))]))) ?_
  exact hq
theorem iC1_1_0_1_0_0_0_1_1 : (codeAt [1, 1, 0, 1, 0, 0, 0, 1, 1] BI) = .exit 0 := by kernel_rfl
theorem iex (i : Int) (n cc dd : Nat) (l : List Int) (e0 e1 e2 : TypeId) (hi : i = (n : Int))   {Q : Ex → St → Prop} (hq : Q (.exit 0) (KSt.low (iS5 n cc dd i e0 l e1 e2))) : Gets Tryd.prog (KH.low ⟨3, 1, [(0, 0, .cells [(.int .u8 0), (.int .u8 1), (.int .u8 56), (.int .u8 2), (.int .u8 57), (.int .u8 49), (.int .u8 28), (.int .u8 3), (.int .u8 61), (.int .u8 58), (.int .u8 42), (.int .u8 50), (.int .u8 38), (.int .u8 29), (.int .u8 17), (.int .u8 4), (.int .u8 62), (.int .u8 47), (.int .u8 59), (.int .u8 36), (.int .u8 45), (.int .u8 43), (.int .u8 51), (.int .u8 22), (.int .u8 53), (.int .u8 39), (.int .u8 33), (.int .u8 30), (.int .u8 24), (.int .u8 18), (.int .u8 12), (.int .u8 5), (.int .u8 63), (.int .u8 55), (.int .u8 48), (.int .u8 27), (.int .u8 60), (.int .u8 41), (.int .u8 37), (.int .u8 16), (.int .u8 46), (.int .u8 35), (.int .u8 44), (.int .u8 21), (.int .u8 52), (.int .u8 32), (.int .u8 23), (.int .u8 11), (.int .u8 54), (.int .u8 26), (.int .u8 40), (.int .u8 15), (.int .u8 34), (.int .u8 20), (.int .u8 31), (.int .u8 10), (.int .u8 25), (.int .u8 14), (.int .u8 19), (.int .u8 9), (.int .u8 13), (.int .u8 8), (.int .u8 7), (.int .u8 6)] e0 false), (1, 0, .tail 0 .i64 l e1), (2, 0, .tail 0 .i64 l e2)]⟩) (codeAt [1, 1, 0, 1, 0, 0] BI) (KSt.low (iS4 n cc dd i e0 l e1 e2)) Q := by
  rw [iC1_1_0_1_0_0]; refine Gets.seq ?_
  rw [iC1_1_0_1_0_0_0]; refine Gets.seq ?_
  refine Gets.ofN fitT SoundC.no AgreeT.no 12 40 (by kernel_rfl) (x := .normal) (s' := (iS5 n cc dd i e0 l e1 e2)) (iR5 n cc dd i e0 l e1 e2) ?_
  show Gets _ _ (codeAt [1, 1, 0, 1, 0, 0, 0, 1] BI) _ _
  rw [iC1_1_0_1_0_0_0_1]; refine Gets.cond false (by kernel_rfl) ((show evalX (KSt.ts (iS5 n cc dd i e0 l e1 e2)) (.tmp 14) = .bool (decide (i < ((n : Nat) : Int))) by kernel_rfl).trans (by rw [(show (decide (i < ((n : Nat) : Int))) = false from decide_eq_false (by omega))])) ?_; show Gets _ _ (codeAt [1, 1, 0, 1, 0, 0, 0, 1, 1] BI) _ _
  rw [iC1_1_0_1_0_0_0_1_1]; refine Gets.ev fitT.mix fitT.cfg (fitT.sound SoundC.no 12 0) 12 rfl (s' := KSt.low (iS5 n cc dd i e0 l e1 e2)) (x := (.exit 0)) rfl ?_
  exact hq
theorem iC1_1_1 : (codeAt [1, 1, 1] BI) = .seq (codeAt [1, 1, 1, 0] BI) (codeAt [1, 1, 1, 1] BI) := by kernel_rfl
noncomputable def iS10 (e0 : TypeId) (l : List Int) (e1 : TypeId) (e2 : TypeId) : KSt := ⟨(frameL 26 [(4, (.bool true))]), ⟨3, 1, [(0, 0, .cells [(.int .u8 0), (.int .u8 1), (.int .u8 56), (.int .u8 2), (.int .u8 57), (.int .u8 49), (.int .u8 28), (.int .u8 3), (.int .u8 61), (.int .u8 58), (.int .u8 42), (.int .u8 50), (.int .u8 38), (.int .u8 29), (.int .u8 17), (.int .u8 4), (.int .u8 62), (.int .u8 47), (.int .u8 59), (.int .u8 36), (.int .u8 45), (.int .u8 43), (.int .u8 51), (.int .u8 22), (.int .u8 53), (.int .u8 39), (.int .u8 33), (.int .u8 30), (.int .u8 24), (.int .u8 18), (.int .u8 12), (.int .u8 5), (.int .u8 63), (.int .u8 55), (.int .u8 48), (.int .u8 27), (.int .u8 60), (.int .u8 41), (.int .u8 37), (.int .u8 16), (.int .u8 46), (.int .u8 35), (.int .u8 44), (.int .u8 21), (.int .u8 52), (.int .u8 32), (.int .u8 23), (.int .u8 11), (.int .u8 54), (.int .u8 26), (.int .u8 40), (.int .u8 15), (.int .u8 34), (.int .u8 20), (.int .u8 31), (.int .u8 10), (.int .u8 25), (.int .u8 14), (.int .u8 19), (.int .u8 9), (.int .u8 13), (.int .u8 8), (.int .u8 7), (.int .u8 6)] e0 false), (1, 0, .tail 0 .i64 l e1), (2, 0, .tail 0 .i64 l e2)]⟩⟩
theorem iR10 (n : Nat) (cc : Nat) (dd : Nat) (i : Int) (e0 : TypeId) (l : List Int) (e1 : TypeId) (e2 : TypeId) : evCK Tryd.prog cfgT (runK Tryd.prog cfgT fsT noT 12 40) 12 (codeAt [1, 1, 1, 0] BI) (iS5 n cc dd i e0 l e1 e2) (normC 3 [4]) =
  some (.normal, (iS10 e0 l e1 e2)) := by kernel_rfl
theorem iC1_1_1_1 : (codeAt [1, 1, 1, 1] BI) = .ret := by kernel_rfl
theorem ifi (i : Int) (n cc dd : Nat) (l : List Int) (e0 e1 e2 : TypeId)   {Q : Ex → St → Prop} (hq : Q .ret (KSt.low (iS10 e0 l e1 e2))) : Gets Tryd.prog (KH.low ⟨3, 1, [(0, 0, .cells [(.int .u8 0), (.int .u8 1), (.int .u8 56), (.int .u8 2), (.int .u8 57), (.int .u8 49), (.int .u8 28), (.int .u8 3), (.int .u8 61), (.int .u8 58), (.int .u8 42), (.int .u8 50), (.int .u8 38), (.int .u8 29), (.int .u8 17), (.int .u8 4), (.int .u8 62), (.int .u8 47), (.int .u8 59), (.int .u8 36), (.int .u8 45), (.int .u8 43), (.int .u8 51), (.int .u8 22), (.int .u8 53), (.int .u8 39), (.int .u8 33), (.int .u8 30), (.int .u8 24), (.int .u8 18), (.int .u8 12), (.int .u8 5), (.int .u8 63), (.int .u8 55), (.int .u8 48), (.int .u8 27), (.int .u8 60), (.int .u8 41), (.int .u8 37), (.int .u8 16), (.int .u8 46), (.int .u8 35), (.int .u8 44), (.int .u8 21), (.int .u8 52), (.int .u8 32), (.int .u8 23), (.int .u8 11), (.int .u8 54), (.int .u8 26), (.int .u8 40), (.int .u8 15), (.int .u8 34), (.int .u8 20), (.int .u8 31), (.int .u8 10), (.int .u8 25), (.int .u8 14), (.int .u8 19), (.int .u8 9), (.int .u8 13), (.int .u8 8), (.int .u8 7), (.int .u8 6)] e0 false), (1, 0, .tail 0 .i64 l e1), (2, 0, .tail 0 .i64 l e2)]⟩) (codeAt [1, 1, 1] BI) (KSt.low (iS5 n cc dd i e0 l e1 e2)) Q := by
  rw [iC1_1_1]; refine Gets.seq ?_
  refine Gets.ofN fitT SoundC.no AgreeT.no 12 40 (by kernel_rfl) (x := .normal) (s' := (iS10 e0 l e1 e2)) (iR10 n cc dd i e0 l e1 e2) ?_
  show Gets _ _ (codeAt [1, 1, 1, 1] BI) _ _
  rw [iC1_1_1_1]; refine Gets.ev fitT.mix fitT.cfg (fitT.sound SoundC.no 12 0) 12 rfl (s' := KSt.low (iS10 e0 l e1 e2)) (x := .ret) rfl ?_
  exact hq
theorem iC1_1_0_1 : (codeAt [1, 1, 0, 1] BI) = .block 0 (codeAt [1, 1, 0, 1, 0] BI) := by kernel_rfl
theorem iC1_1_0_1_0 : (codeAt [1, 1, 0, 1, 0] BI) = .loop (codeAt [1, 1, 0, 1, 0, 0] BI) := by kernel_rfl
noncomputable def QI : Ex → St → Prop := Eng.Ends Tryd.prog Tryd.f16.results.toList fun r _ => r = .bool true
theorem qi {s : KSt} (h : resL Tryd.prog s.low Tryd.f16.results.toList = some [.bool true]) : QI .ret s.low := Ends.of h rfl
inductive II (n cc dd : Nat) (l : List Int) (e0 e1 e2 : TypeId) : Nat → KSt → Prop
  | at_ (i : Int) (hi : 0 ≤ i) (hin : i ≤ (n : Int)) : II n cc dd l e0 e1 e2 ((n : Int) - i).toNat (iS4 n cc dd i e0 l e1 e2)
theorem loopII (n cc dd : Nat) (l : List Int) (e0 e1 e2 : TypeId) (hl : l.length = n) (hn : n ≤ 1000) (q : Nat) (s : KSt) (hI : II n cc dd l e0 e1 e2 q s) :
    Gets Tryd.prog (KH.low ⟨3, 1, [(0, 0, .cells [(.int .u8 0), (.int .u8 1), (.int .u8 56), (.int .u8 2), (.int .u8 57), (.int .u8 49), (.int .u8 28), (.int .u8 3), (.int .u8 61), (.int .u8 58), (.int .u8 42), (.int .u8 50), (.int .u8 38), (.int .u8 29), (.int .u8 17), (.int .u8 4), (.int .u8 62), (.int .u8 47), (.int .u8 59), (.int .u8 36), (.int .u8 45), (.int .u8 43), (.int .u8 51), (.int .u8 22), (.int .u8 53), (.int .u8 39), (.int .u8 33), (.int .u8 30), (.int .u8 24), (.int .u8 18), (.int .u8 12), (.int .u8 5), (.int .u8 63), (.int .u8 55), (.int .u8 48), (.int .u8 27), (.int .u8 60), (.int .u8 41), (.int .u8 37), (.int .u8 16), (.int .u8 46), (.int .u8 35), (.int .u8 44), (.int .u8 21), (.int .u8 52), (.int .u8 32), (.int .u8 23), (.int .u8 11), (.int .u8 54), (.int .u8 26), (.int .u8 40), (.int .u8 15), (.int .u8 34), (.int .u8 20), (.int .u8 31), (.int .u8 10), (.int .u8 25), (.int .u8 14), (.int .u8 19), (.int .u8 9), (.int .u8 13), (.int .u8 8), (.int .u8 7), (.int .u8 6)] e0 false), (1, 0, .tail 0 .i64 l e1), (2, 0, .tail 0 .i64 l e2)]⟩) (codeAt [1, 1, 0, 1] BI) s.low (onN (fun s => Gets Tryd.prog (KH.low ⟨3, 1, [(0, 0, .cells [(.int .u8 0), (.int .u8 1), (.int .u8 56), (.int .u8 2), (.int .u8 57), (.int .u8 49), (.int .u8 28), (.int .u8 3), (.int .u8 61), (.int .u8 58), (.int .u8 42), (.int .u8 50), (.int .u8 38), (.int .u8 29), (.int .u8 17), (.int .u8 4), (.int .u8 62), (.int .u8 47), (.int .u8 59), (.int .u8 36), (.int .u8 45), (.int .u8 43), (.int .u8 51), (.int .u8 22), (.int .u8 53), (.int .u8 39), (.int .u8 33), (.int .u8 30), (.int .u8 24), (.int .u8 18), (.int .u8 12), (.int .u8 5), (.int .u8 63), (.int .u8 55), (.int .u8 48), (.int .u8 27), (.int .u8 60), (.int .u8 41), (.int .u8 37), (.int .u8 16), (.int .u8 46), (.int .u8 35), (.int .u8 44), (.int .u8 21), (.int .u8 52), (.int .u8 32), (.int .u8 23), (.int .u8 11), (.int .u8 54), (.int .u8 26), (.int .u8 40), (.int .u8 15), (.int .u8 34), (.int .u8 20), (.int .u8 31), (.int .u8 10), (.int .u8 25), (.int .u8 14), (.int .u8 19), (.int .u8 9), (.int .u8 13), (.int .u8 8), (.int .u8 7), (.int .u8 6)] e0 false), (1, 0, .tail 0 .i64 l e1), (2, 0, .tail 0 .i64 l e2)]⟩) (codeAt [1, 1, 1] BI) s (QI)) (QI)) := by
  rw [iC1_1_0_1, iC1_1_0_1_0]
  refine Gets.loopG (fun q s => II n cc dd l e0 e1 e2 q s) ?_ _ _ hI
  clear hI q s
  intro q s hI
  cases hI with
  | at_ i hi hin =>
    by_cases h : i = (n : Int)
    · refine iex i n cc dd l e0 e1 e2 h ?_
      refine ⟨fun _ => ?_, fun h => by cases h⟩
      exact ifi i n cc dd l e0 e1 e2 (qi (by kernel_rfl))
    · refine ird i n cc dd l e0 e1 e2 hl hn hi (by omega) ?_
      exact ⟨_, _, by omega, rfl, .at_ (i + 1) (by omega) (by omega)⟩
theorem mh3_ro {x y z : KObj} (h1 : x.low.rw = false) (h2 : y.low.rw = false) (h3 : z.low.rw = false) : Ro (mkH [x, y, z]).low := fun a o ho => by
  rcases mkH3_get ho with ⟨_, rfl⟩ | ⟨_, rfl⟩ | ⟨_, rfl⟩
  · exact h1
  · exact h2
  · exact h3
theorem ints_told (n cc dd : Nat) (l : List Int) (e0 e1 e2 : TypeId) (hl : l.length = n) (hn : n ≤ 1000) : Tells Tryd.prog 16 [.slice (some ⟨1, 0, none⟩) n cc, .slice (some ⟨2, 0, none⟩) n dd] (mkH [.cells (intCells .u8 tz) e0 false, .tail 0 .i64 l e1, .tail 0 .i64 l e2]).low (.bool true) := by
  refine Gets.tells Tryd.func16 BI_is (by rw [oneVar]; exact (show (1 : Nat) ≤ 3 by decide)) rfl ?_ (mh3_ro rfl rfl rfl)
  show Gets Tryd.prog (KH.low ⟨3, 1, [(0, 0, .cells [(.int .u8 0), (.int .u8 1), (.int .u8 56), (.int .u8 2), (.int .u8 57), (.int .u8 49), (.int .u8 28), (.int .u8 3), (.int .u8 61), (.int .u8 58), (.int .u8 42), (.int .u8 50), (.int .u8 38), (.int .u8 29), (.int .u8 17), (.int .u8 4), (.int .u8 62), (.int .u8 47), (.int .u8 59), (.int .u8 36), (.int .u8 45), (.int .u8 43), (.int .u8 51), (.int .u8 22), (.int .u8 53), (.int .u8 39), (.int .u8 33), (.int .u8 30), (.int .u8 24), (.int .u8 18), (.int .u8 12), (.int .u8 5), (.int .u8 63), (.int .u8 55), (.int .u8 48), (.int .u8 27), (.int .u8 60), (.int .u8 41), (.int .u8 37), (.int .u8 16), (.int .u8 46), (.int .u8 35), (.int .u8 44), (.int .u8 21), (.int .u8 52), (.int .u8 32), (.int .u8 23), (.int .u8 11), (.int .u8 54), (.int .u8 26), (.int .u8 40), (.int .u8 15), (.int .u8 34), (.int .u8 20), (.int .u8 31), (.int .u8 10), (.int .u8 25), (.int .u8 14), (.int .u8 19), (.int .u8 9), (.int .u8 13), (.int .u8 8), (.int .u8 7), (.int .u8 6)] e0 false), (1, 0, .tail 0 .i64 l e1), (2, 0, .tail 0 .i64 l e2)]⟩) BI (KSt.low (iS0 n cc dd e0 l e1 e2)) QI
  refine ipre 0 n cc dd l e0 e1 e2 ?_
  exact loopII n cc dd l e0 e1 e2 hl hn _ _ (.at_ 0 (by omega) (by omega))
theorem mkH2_get {a : Nat} {o : AObj} {x y : KObj} (h : (mkH [x, y]).low.get a = some o) : (a = 0 ∧ o = x.low) ∨ (a = 1 ∧ o = y.low) := by
  obtain ⟨q, h1, h2⟩ := mkH_inv h
  match a, h1 with
  | 0, h1 => cases h1; exact .inl ⟨rfl, h2⟩
  | 1, h1 => cases h1; exact .inr ⟨rfl, h2⟩
theorem ints_nil (dd : Nat) (l : List Int) (e0 e2 : TypeId) : Tells Tryd.prog 16 [.slice none 0 0, .slice (some ⟨1, 0, none⟩) 0 dd] (mkH [.cells (intCells .u8 tz) e0 false, .tail 0 .i64 l e2]).low (.bool true) := by
  refine Tells.of_tree (h := mkH [.cells (intCells .u8 tz) e0 false, .tail 0 .i64 l e2]) fitT SoundC.no AgreeT.no (by kernel_rfl) rfl (fun a o ho => by
    rcases mkH2_get ho with ⟨_, rfl⟩ | ⟨_, rfl⟩ <;> rfl) (n := 12) (d := 40) ?_
  kernel_rfl
def intsE : ConE := fun acc f args => match f, args with
  | 16, [.slice (some ⟨a, 0, none⟩) n cc, .slice (some ⟨b, 0, none⟩) m dd] => (match acc.row .i64 a 0 n, acc.cells a, acc.row .i64 b 0 m, acc.cells b, acc.cells 0 with
    | some l1, some (_, e1, _), some l2, some (_, e2, _), some (cs, e0, false) => (match isTz tz cs with
      | true => (match Nat.beq n m && (decide (l1 = l2) && Nat.ble n 1000) with
        | true => some ⟨[0, a, b], [.slice (some ⟨1, 0, none⟩) n cc, .slice (some ⟨2, 0, none⟩) m dd], [.cells cs e0 false, .tail 0 .i64 l1 e1, .tail 0 .i64 l2 e2], .bool true, [], []⟩
        | false => none)
      | false => none)
    | _, _, _, _, _ => none)
  | 16, [.slice none 0 0, .slice (some ⟨b, 0, none⟩) m dd] => (match acc.row .i64 b 0 m, acc.cells b, acc.cells 0 with
    | some l2, some (_, e2, _), some (cs, e0, false) => (match isTz tz cs with
      | true => (match Nat.beq m 0 with
        | true => some ⟨[0, b], [.slice none 0 0, .slice (some ⟨1, 0, none⟩) m dd], [.cells cs e0 false, .tail 0 .i64 l2 e2], .bool true, [], []⟩
        | false => none)
      | false => none)
    | _, _, _ => none)
  | _, _ => none
def intsK {β : Type} : ConEK β := fun h f args k => match f, args with
  | 16, [.slice (some ⟨a, 0, none⟩) n cc, .slice (some ⟨b, 0, none⟩) m dd] => (match cellsK h 0 with
    | some (cs, e0, false) => (match isTz tz cs with
      | true => rowC h .i64 a 0 n fun l1 e1 => rowC h .i64 b 0 m fun l2 e2 => bif Nat.beq n m && (decide (l1 = l2) && Nat.ble n 1000) then k ⟨[0, a, b], [.slice (some ⟨1, 0, none⟩) n cc, .slice (some ⟨2, 0, none⟩) m dd], [.cells cs e0 false, .tail 0 .i64 l1 e1, .tail 0 .i64 l2 e2], .bool true, [], []⟩ else none
      | false => none)
    | _ => none)
  | 16, [.slice none 0 0, .slice (some ⟨b, 0, none⟩) m dd] => (match cellsK h 0 with
    | some (cs, e0, false) => (match isTz tz cs with
      | true => rowC h .i64 b 0 m fun l2 e2 => bif Nat.beq m 0 then k ⟨[0, b], [.slice none 0 0, .slice (some ⟨1, 0, none⟩) m dd], [.cells cs e0 false, .tail 0 .i64 l2 e2], .bool true, [], []⟩ else none
      | false => none)
    | _ => none)
  | _, _ => none
theorem ints_tells {β : Type} : TellsK intsE (intsK (β := β)) := by
  intro h f args k r hk
  unfold intsK at hk
  unfold intsE
  rw [accK_low]
  split at hk
  · split at hk
    · rename_i cs e0 hc
      split at hk
      · rename_i hz
        obtain ⟨l1, c1, e1, w1, a1, a2, hk⟩ := rowC_ok hk
        obtain ⟨l2, c2, e2, w2, b1, b2, hk⟩ := rowC_ok hk
        obtain ⟨hb, hk⟩ := cond_some hk
        have hc' : (accK h).cells 0 = some (cs, e0, false) := hc
        refine ⟨_, ?_, hk⟩
        rw [show (accK h).row .i64 _ 0 _ = some l1 from a1, show (accK h).cells _ = some (c1, e1, w1) from a2, show (accK h).row .i64 _ 0 _ = some l2 from b1, show (accK h).cells _ = some (c2, e2, w2) from b2, hc']
        simp only [hz, hb]
      · cases hk
    · cases hk
  · split at hk
    · rename_i cs e0 hc
      split at hk
      · rename_i hz
        obtain ⟨l2, c2, e2, w2, b1, b2, hk⟩ := rowC_ok hk
        obtain ⟨hb, hk⟩ := cond_some hk
        have hc' : (accK h).cells 0 = some (cs, e0, false) := hc
        refine ⟨_, ?_, hk⟩
        rw [show (accK h).row .i64 _ 0 _ = some l2 from b1, show (accK h).cells _ = some (c2, e2, w2) from b2, hc']
        simp only [hz, hb]
      · cases hk
    · cases hk
  · cases hk
theorem row_view {h : AH} {g n : Nat} {l : List Int} {cg : List Value} {eg : TypeId} {rwg : Bool} (hrow : rowA h .i64 g 0 n = some l) (hcg : cellsA h g = some (cg, eg, rwg)) :
    h.get g = some (.cells cg eg rwg) ∧ 0 + l.length ≤ cg.length ∧ numsOfK .i64 ((cg.drop 0).take l.length) = some l ∧ l.length = n := by
  have hgb : h.get g = some (.cells cg eg rwg) := by
    unfold cellsA at hcg
    split at hcg
    · rename_i hq; cases hcg; exact hq
    · cases hcg
  have hr : 0 + n ≤ cg.length ∧ numsOfK .i64 ((cg.drop 0).take n) = some l := by
    unfold rowA at hrow
    rw [hgb] at hrow
    simp only at hrow
    cases hb : Nat.ble (0 + n) cg.length with
    | false => rw [hb] at hrow; cases hrow
    | true => rw [hb] at hrow; exact ⟨Nat.le_of_ble_eq_true hb, hrow⟩
  have hll : l.length = n := by
    have := congrArg List.length (numsOfK_eq hr.2)
    simp at this
    omega
  exact ⟨hgb, by rw [hll]; exact hr.1, by rw [hll]; exact hr.2, hll⟩
theorem ints_ok : ∀ (h : AH) (f : FuncId) (args : List Value) (c : Con), intsE (accA h) f args = some c → ConOk Tryd.prog f args h c := by
  intro h f args c hE
  unfold intsE at hE
  split at hE
  · rename_i a n cc b m dd
    split at hE
    case h_2 => cases hE
    rename_i l1 c1 e1 w1 l2 c2 e2 w2 cs e0 r1 q1 r2 q2 q0
    split at hE
    case h_2 => cases hE
    rename_i hz
    split at hE
    case h_2 => cases hE
    rename_i hb
    cases hE
    rw [Bool.and_eq_true, Bool.and_eq_true] at hb
    obtain ⟨hb1, hb2, hb3⟩ := hb
    have hnm := beq_true hb1
    have hll := of_decide_eq_true hb2
    have hn := Nat.le_of_ble_eq_true hb3
    have hcs := isTz_eq hz
    subst hnm hll hcs
    obtain ⟨g1, v1, v2, v3⟩ := row_view (h := h) r1 q1
    obtain ⟨g2, u1, u2, u3⟩ := row_view (h := h) r2 q2
    have hc0 : h.get 0 = some (.cells (intCells .u8 tz) e0 false) := by
      have hc : cellsA h 0 = _ := q0
      unfold cellsA at hc
      split at hc
      · rename_i hq; cases hc; exact hq
      · cases hc
    have hτ1 : nthN [0, a, b] 1 = a := rfl
    have hτ2 : nthN [0, a, b] 2 = b := rfl
    refine ⟨⟨?_, ?_, ?_, ?_, ?_⟩, DoesC.of_tells (ints_told n cc dd l1 e0 e1 e2 v3 hn) rfl, ?_, fun p hp => (by cases hp), fun o ho => (by cases ho), .nil⟩
    · exact ⟨VV.slice (show (1:Nat) < 3 by decide) hτ1, VV.slice (show (2:Nat) < 3 by decide) hτ2, trivial⟩
    · intro x
      constructor
      · intro hx
        match x, hx with
        | 0, _ => simp [low_get, mkH_get (bs := [KObj.cells (intCells .u8 tz) e0 false, .tail 0 .i64 l1 e1, .tail 0 .i64 l1 e2]) (a := 0) rfl]
        | 1, _ => simp [low_get, mkH_get (bs := [KObj.cells (intCells .u8 tz) e0 false, .tail 0 .i64 l1 e1, .tail 0 .i64 l1 e2]) (a := 1) rfl]
        | 2, _ => simp [low_get, mkH_get (bs := [KObj.cells (intCells .u8 tz) e0 false, .tail 0 .i64 l1 e1, .tail 0 .i64 l1 e2]) (a := 2) rfl]
      · intro hx
        obtain ⟨o, ho⟩ := Option.ne_none_iff_exists'.1 hx
        rcases mkH3_get ho with ⟨rfl, _⟩ | ⟨rfl, _⟩ | ⟨rfl, _⟩
        · exact (show (0:Nat) < 3 by decide)
        · exact (show (1:Nat) < 3 by decide)
        · exact (show (2:Nat) < 3 by decide)
    · intro x o ho
      rcases mkH3_get ho with ⟨rfl, rfl⟩ | ⟨rfl, rfl⟩ | ⟨rfl, rfl⟩
      · exact ⟨_, hc0, VO.cells (VP.plain (intCells_plain .u8 tz)) id⟩
      · exact ⟨_, g1, VO.tail v1 v2⟩
      · exact ⟨_, g2, VO.tail u1 u2⟩
    · intro g' h'
      have hg := oneVar
      have : g' = 0 := by omega
      subst this
      exact ⟨(show (0:Nat) < 3 by decide), rfl⟩
    · intro x x' hw
      obtain ⟨o, ho, hrw⟩ := hw
      rcases mkH3_get ho with ⟨rfl, rfl⟩ | ⟨rfl, rfl⟩ | ⟨rfl, rfl⟩ <;> cases hrw
    · intro x o ho hrw
      rcases mkH3_get ho with ⟨rfl, rfl⟩ | ⟨rfl, rfl⟩ | ⟨rfl, rfl⟩ <;> cases hrw
  · rename_i b m dd
    split at hE
    case h_2 => cases hE
    rename_i l2 c2 e2 w2 cs e0 r2 q2 q0
    split at hE
    case h_2 => cases hE
    rename_i hz
    split at hE
    case h_2 => cases hE
    rename_i hb
    cases hE
    have hm := beq_true hb
    have hcs := isTz_eq hz
    subst hm hcs
    obtain ⟨g2, u1, u2, u3⟩ := row_view (h := h) r2 q2
    have hc0 : h.get 0 = some (.cells (intCells .u8 tz) e0 false) := by
      have hc : cellsA h 0 = _ := q0
      unfold cellsA at hc
      split at hc
      · rename_i hq; cases hc; exact hq
      · cases hc
    have hτ1 : nthN [0, b] 1 = b := rfl
    refine ⟨⟨?_, ?_, ?_, ?_, ?_⟩, DoesC.of_tells (ints_nil dd l2 e0 e2) rfl, ?_, fun p hp => (by cases hp), fun o ho => (by cases ho), .nil⟩
    · exact ⟨fun ρ w r => (by cases r; exact .nilSlice _ _), VV.slice (show (1:Nat) < 2 by decide) hτ1, trivial⟩
    · intro x
      constructor
      · intro hx
        match x, hx with
        | 0, _ => simp [low_get, mkH_get (bs := [KObj.cells (intCells .u8 tz) e0 false, .tail 0 .i64 l2 e2]) (a := 0) rfl]
        | 1, _ => simp [low_get, mkH_get (bs := [KObj.cells (intCells .u8 tz) e0 false, .tail 0 .i64 l2 e2]) (a := 1) rfl]
      · intro hx
        obtain ⟨o, ho⟩ := Option.ne_none_iff_exists'.1 hx
        rcases mkH2_get ho with ⟨rfl, _⟩ | ⟨rfl, _⟩
        · exact (show (0:Nat) < 2 by decide)
        · exact (show (1:Nat) < 2 by decide)
    · intro x o ho
      rcases mkH2_get ho with ⟨rfl, rfl⟩ | ⟨rfl, rfl⟩
      · exact ⟨_, hc0, VO.cells (VP.plain (intCells_plain .u8 tz)) id⟩
      · exact ⟨_, g2, VO.tail u1 u2⟩
    · intro g' h'
      have hg := oneVar
      have : g' = 0 := by omega
      subst this
      exact ⟨(show (0:Nat) < 2 by decide), rfl⟩
    · intro x x' hw
      obtain ⟨o, ho, hrw⟩ := hw
      rcases mkH2_get ho with ⟨rfl, rfl⟩ | ⟨rfl, rfl⟩ <;> cases hrw
    · intro x o ho hrw
      rcases mkH2_get ho with ⟨rfl, rfl⟩ | ⟨rfl, rfl⟩ <;> cases hrw
  · cases hE
theorem ints_fnok : FnOk Tryd.prog 16 := fitT.fnOk _ (by
  have h0 : fsT.contains 16 = true := by kernel_rfl
  simpa using h0)

end Go.Proofs.YteafenadjidkdaaDoor.puts
