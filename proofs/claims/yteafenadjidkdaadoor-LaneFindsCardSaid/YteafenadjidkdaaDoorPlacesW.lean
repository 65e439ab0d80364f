/- The places of a number: roads. -/
import Derived.Test.YteafenadjidkdaaDoorFinds
import Derived.WalkKit
import Derived.ProofKit
import Derived.OpenShut
import Derived.ChangeOld
import Derived.Below
import Derived.SizedLaws
namespace Go.Proofs.YteafenadjidkdaaDoor.places
open Go.Eng
open Go.ChangeShapes Go.WideShapes Go.ChangeAt Go.RowKit
set_option linter.unusedVariables false
set_option linter.unusedSimpArgs false
set_option maxRecDepth 100000
open Go.Proofs.YteafenadjidkdaaDoor.ctrls
open Go.Proofs.YteafenadjidkdaaDoor.claimed (MH mh_wf mh_ro)
open Go.Proofs.YteafenadjidkdaaDoor.news (plL)
open Go.Proofs.YteafenadjidkdaaDoor.keeps (len8)
def nxt (m : Int) : Int := bits .and .u64 m (IntKind.wrap .u64 (m - 1))
noncomputable def cfgT : Cfg := ⟨[]⟩
noncomputable def fsT : List FuncId := [17, 18, 38, 39, 42]
theorem fitT : Fit Tryd.prog cfgT fsT := ⟨by kernel_rfl, Cfg.ok_of (by kernel_rfl), by kernel_rfl⟩
noncomputable def BP : Code := bodyOf Tryd.prog 17
theorem BP_is : Tryd.f17.body = some BP := by kernel_rfl
theorem BP_ok : okCode Tryd.prog.globals.size BP = true := by kernel_rfl
noncomputable def pS0 (w : Int) (b : Int) (e0 : TypeId) : KSt := (firstK [(.int .u64 w), (.int .i64 b)] 25 ⟨1, 1, [(0, 0, .cells [(.int .u8 0), (.int .u8 1), (.int .u8 56), (.int .u8 2), (.int .u8 57), (.int .u8 49), (.int .u8 28), (.int .u8 3), (.int .u8 61), (.int .u8 58), (.int .u8 42), (.int .u8 50), (.int .u8 38), (.int .u8 29), (.int .u8 17), (.int .u8 4), (.int .u8 62), (.int .u8 47), (.int .u8 59), (.int .u8 36), (.int .u8 45), (.int .u8 43), (.int .u8 51), (.int .u8 22), (.int .u8 53), (.int .u8 39), (.int .u8 33), (.int .u8 30), (.int .u8 24), (.int .u8 18), (.int .u8 12), (.int .u8 5), (.int .u8 63), (.int .u8 55), (.int .u8 48), (.int .u8 27), (.int .u8 60), (.int .u8 41), (.int .u8 37), (.int .u8 16), (.int .u8 46), (.int .u8 35), (.int .u8 44), (.int .u8 21), (.int .u8 52), (.int .u8 32), (.int .u8 23), (.int .u8 11), (.int .u8 54), (.int .u8 26), (.int .u8 40), (.int .u8 15), (.int .u8 34), (.int .u8 20), (.int .u8 31), (.int .u8 10), (.int .u8 25), (.int .u8 14), (.int .u8 19), (.int .u8 9), (.int .u8 13), (.int .u8 8), (.int .u8 7), (.int .u8 6)] e0 false)]⟩)
theorem pC : BP = .seq (codeAt [0] BP) (codeAt [1] BP) := by kernel_rfl
noncomputable def pS1 (w : Int) (b : Int) (e0 : TypeId) : KSt := ⟨(frameL 25 [(0, (.int .u64 w)), (1, (.int .i64 b)), (7, undef), (16, undef)]), ⟨1, 1, [(0, 0, .cells [(.int .u8 0), (.int .u8 1), (.int .u8 56), (.int .u8 2), (.int .u8 57), (.int .u8 49), (.int .u8 28), (.int .u8 3), (.int .u8 61), (.int .u8 58), (.int .u8 42), (.int .u8 50), (.int .u8 38), (.int .u8 29), (.int .u8 17), (.int .u8 4), (.int .u8 62), (.int .u8 47), (.int .u8 59), (.int .u8 36), (.int .u8 45), (.int .u8 43), (.int .u8 51), (.int .u8 22), (.int .u8 53), (.int .u8 39), (.int .u8 33), (.int .u8 30), (.int .u8 24), (.int .u8 18), (.int .u8 12), (.int .u8 5), (.int .u8 63), (.int .u8 55), (.int .u8 48), (.int .u8 27), (.int .u8 60), (.int .u8 41), (.int .u8 37), (.int .u8 16), (.int .u8 46), (.int .u8 35), (.int .u8 44), (.int .u8 21), (.int .u8 52), (.int .u8 32), (.int .u8 23), (.int .u8 11), (.int .u8 54), (.int .u8 26), (.int .u8 40), (.int .u8 15), (.int .u8 34), (.int .u8 20), (.int .u8 31), (.int .u8 10), (.int .u8 25), (.int .u8 14), (.int .u8 19), (.int .u8 9), (.int .u8 13), (.int .u8 8), (.int .u8 7), (.int .u8 6)] e0 false)]⟩⟩
theorem pR1 (w : Int) (b : Int) (e0 : TypeId) : evCK Tryd.prog cfgT (runK Tryd.prog cfgT fsT (conTk looksDom looksK) 14 40) 14 (codeAt [0] BP) (pS0 w b e0) (normC 1 [0, 1, 7, 16]) =
  some (.normal, (pS1 w b e0)) := by kernel_rfl
theorem pC1 : (codeAt [1] BP) = .seq (codeAt [1, 0] BP) (codeAt [1, 1] BP) := by kernel_rfl
noncomputable def pS2 (w : Int) (b : Int) (e0 : TypeId) : KSt := ⟨(frameL 25 [(0, (.int .u64 w)), (1, (.int .i64 b)), (5, (.pointer (some ⟨1, 0, none⟩))), (7, undef), (16, undef)]), ⟨3, 1, [(2, 0, .cells [] 3 true), (1, 0, .cells [(.slice (some ⟨2, 0, none⟩) 0 0)] 27 true), (0, 0, .cells [(.int .u8 0), (.int .u8 1), (.int .u8 56), (.int .u8 2), (.int .u8 57), (.int .u8 49), (.int .u8 28), (.int .u8 3), (.int .u8 61), (.int .u8 58), (.int .u8 42), (.int .u8 50), (.int .u8 38), (.int .u8 29), (.int .u8 17), (.int .u8 4), (.int .u8 62), (.int .u8 47), (.int .u8 59), (.int .u8 36), (.int .u8 45), (.int .u8 43), (.int .u8 51), (.int .u8 22), (.int .u8 53), (.int .u8 39), (.int .u8 33), (.int .u8 30), (.int .u8 24), (.int .u8 18), (.int .u8 12), (.int .u8 5), (.int .u8 63), (.int .u8 55), (.int .u8 48), (.int .u8 27), (.int .u8 60), (.int .u8 41), (.int .u8 37), (.int .u8 16), (.int .u8 46), (.int .u8 35), (.int .u8 44), (.int .u8 21), (.int .u8 52), (.int .u8 32), (.int .u8 23), (.int .u8 11), (.int .u8 54), (.int .u8 26), (.int .u8 40), (.int .u8 15), (.int .u8 34), (.int .u8 20), (.int .u8 31), (.int .u8 10), (.int .u8 25), (.int .u8 14), (.int .u8 19), (.int .u8 9), (.int .u8 13), (.int .u8 8), (.int .u8 7), (.int .u8 6)] e0 false)]⟩⟩
theorem pR2 (w : Int) (b : Int) (e0 : TypeId) : evCK Tryd.prog cfgT (runK Tryd.prog cfgT fsT (conTk looksDom looksK) 14 40) 14 (codeAt [1, 0] BP) (pS1 w b e0) (normC 1 [0, 1, 5, 7, 16]) =
  some (.normal, (pS2 w b e0)) := by kernel_rfl
theorem pC1_1 : (codeAt [1, 1] BP) = .seq (codeAt [1, 1, 0] BP) (codeAt [1, 1, 1] BP) := by kernel_rfl
noncomputable def pS3 (w : Int) (b : Int) (e0 : TypeId) : KSt := ⟨(frameL 25 [(5, (.pointer (some ⟨1, 0, none⟩))), (6, (.func (.func 42) #[] #[(.pointer (some ⟨2, 0, none⟩))])), (7, undef), (16, undef)]), ⟨4, 1, [(3, 0, .cells [] 3 true), (2, 0, .cells [(.int .u64 (matchW w b))] 22 true), (1, 0, .cells [(.slice (some ⟨3, 0, none⟩) 0 0)] 27 true), (0, 0, .cells [(.int .u8 0), (.int .u8 1), (.int .u8 56), (.int .u8 2), (.int .u8 57), (.int .u8 49), (.int .u8 28), (.int .u8 3), (.int .u8 61), (.int .u8 58), (.int .u8 42), (.int .u8 50), (.int .u8 38), (.int .u8 29), (.int .u8 17), (.int .u8 4), (.int .u8 62), (.int .u8 47), (.int .u8 59), (.int .u8 36), (.int .u8 45), (.int .u8 43), (.int .u8 51), (.int .u8 22), (.int .u8 53), (.int .u8 39), (.int .u8 33), (.int .u8 30), (.int .u8 24), (.int .u8 18), (.int .u8 12), (.int .u8 5), (.int .u8 63), (.int .u8 55), (.int .u8 48), (.int .u8 27), (.int .u8 60), (.int .u8 41), (.int .u8 37), (.int .u8 16), (.int .u8 46), (.int .u8 35), (.int .u8 44), (.int .u8 21), (.int .u8 52), (.int .u8 32), (.int .u8 23), (.int .u8 11), (.int .u8 54), (.int .u8 26), (.int .u8 40), (.int .u8 15), (.int .u8 34), (.int .u8 20), (.int .u8 31), (.int .u8 10), (.int .u8 25), (.int .u8 14), (.int .u8 19), (.int .u8 9), (.int .u8 13), (.int .u8 8), (.int .u8 7), (.int .u8 6)] e0 false)]⟩⟩
theorem pR3 (w : Int) (b : Int) (e0 : TypeId) : evCK Tryd.prog cfgT (runK Tryd.prog cfgT fsT (conTk looksDom looksK) 14 40) 14 (codeAt [1, 1, 0] BP) (pS2 w b e0) (normC 1 [5, 6, 7, 16]) =
  some (.normal, (pS3 w b e0)) := by kernel_rfl
theorem pC1_1_1 : (codeAt [1, 1, 1] BP) = .seq (codeAt [1, 1, 1, 0] BP) (codeAt [1, 1, 1, 1] BP) := by kernel_rfl
theorem pC1_1_1_0 : (codeAt [1, 1, 1, 0] BP) = .seq (codeAt [1, 1, 1, 0, 0] BP) (codeAt [1, 1, 1, 0, 1] BP) := by kernel_rfl
noncomputable def pS4 (w : Int) (b : Int) (e0 : TypeId) : KSt := ⟨(frameL 25 [(5, (.pointer (some ⟨1, 0, none⟩))), (6, (.func (.func 42) #[] #[(.pointer (some ⟨2, 0, none⟩))])), (7, undef), (13, (.bool false)), (16, undef)]), ⟨4, 1, [(3, 0, .cells [] 3 true), (2, 0, .cells [(.int .u64 (matchW w b))] 22 true), (1, 0, .cells [(.slice (some ⟨3, 0, none⟩) 0 0)] 27 true), (0, 0, .cells [(.int .u8 0), (.int .u8 1), (.int .u8 56), (.int .u8 2), (.int .u8 57), (.int .u8 49), (.int .u8 28), (.int .u8 3), (.int .u8 61), (.int .u8 58), (.int .u8 42), (.int .u8 50), (.int .u8 38), (.int .u8 29), (.int .u8 17), (.int .u8 4), (.int .u8 62), (.int .u8 47), (.int .u8 59), (.int .u8 36), (.int .u8 45), (.int .u8 43), (.int .u8 51), (.int .u8 22), (.int .u8 53), (.int .u8 39), (.int .u8 33), (.int .u8 30), (.int .u8 24), (.int .u8 18), (.int .u8 12), (.int .u8 5), (.int .u8 63), (.int .u8 55), (.int .u8 48), (.int .u8 27), (.int .u8 60), (.int .u8 41), (.int .u8 37), (.int .u8 16), (.int .u8 46), (.int .u8 35), (.int .u8 44), (.int .u8 21), (.int .u8 52), (.int .u8 32), (.int .u8 23), (.int .u8 11), (.int .u8 54), (.int .u8 26), (.int .u8 40), (.int .u8 15), (.int .u8 34), (.int .u8 20), (.int .u8 31), (.int .u8 10), (.int .u8 25), (.int .u8 14), (.int .u8 19), (.int .u8 9), (.int .u8 13), (.int .u8 8), (.int .u8 7), (.int .u8 6)] e0 false)]⟩⟩
theorem pR4 (w : Int) (b : Int) (e0 : TypeId) : evCK Tryd.prog cfgT (runK Tryd.prog cfgT fsT (conTk looksDom looksK) 14 40) 14 (codeAt [1, 1, 1, 0, 0] BP) (pS3 w b e0) (normC 1 [5, 6, 7, 13, 16]) =
  some (.normal, (pS4 w b e0)) := by kernel_rfl
theorem pC1_1_1_0_1 : (codeAt [1, 1, 1, 0, 1] BP) = .cond (.tmp 13) (codeAt [1, 1, 1, 0, 1, 0] BP) (codeAt [1, 1, 1, 0, 1, 1] BP) := by kernel_rfl
theorem pR5 (w : Int) (b : Int) (e0 : TypeId) : evCK Tryd.prog cfgT (runK Tryd.prog cfgT fsT (conTk looksDom looksK) 14 40) 14 (codeAt [1, 1, 1, 0, 1, 1] BP) (pS4 w b e0) (normC 1 [5, 6, 7, 16]) =
  some (.normal, (pS3 w b e0)) := by kernel_rfl
theorem pC1_1_1_1 : (codeAt [1, 1, 1, 1] BP) = .seq (codeAt [1, 1, 1, 1, 0] BP) (codeAt [1, 1, 1, 1, 1] BP) := by kernel_rfl
theorem pC1_1_1_1_0 : (codeAt [1, 1, 1, 1, 0] BP) = .seq (codeAt [1, 1, 1, 1, 0, 0] BP) (codeAt [1, 1, 1, 1, 0, 1] BP) := by kernel_rfl
noncomputable def pS5 (w : Int) (b : Int) (e0 : TypeId) : KSt := ⟨(frameL 25 [(5, (.pointer (some ⟨1, 0, none⟩))), (7, undef), (15, (.func (.func 42) #[] #[(.pointer (some ⟨2, 0, none⟩))])), (16, undef)]), ⟨4, 1, [(3, 0, .cells [] 3 true), (2, 0, .cells [(.int .u64 (matchW w b))] 22 true), (1, 0, .cells [(.slice (some ⟨3, 0, none⟩) 0 0)] 27 true), (0, 0, .cells [(.int .u8 0), (.int .u8 1), (.int .u8 56), (.int .u8 2), (.int .u8 57), (.int .u8 49), (.int .u8 28), (.int .u8 3), (.int .u8 61), (.int .u8 58), (.int .u8 42), (.int .u8 50), (.int .u8 38), (.int .u8 29), (.int .u8 17), (.int .u8 4), (.int .u8 62), (.int .u8 47), (.int .u8 59), (.int .u8 36), (.int .u8 45), (.int .u8 43), (.int .u8 51), (.int .u8 22), (.int .u8 53), (.int .u8 39), (.int .u8 33), (.int .u8 30), (.int .u8 24), (.int .u8 18), (.int .u8 12), (.int .u8 5), (.int .u8 63), (.int .u8 55), (.int .u8 48), (.int .u8 27), (.int .u8 60), (.int .u8 41), (.int .u8 37), (.int .u8 16), (.int .u8 46), (.int .u8 35), (.int .u8 44), (.int .u8 21), (.int .u8 52), (.int .u8 32), (.int .u8 23), (.int .u8 11), (.int .u8 54), (.int .u8 26), (.int .u8 40), (.int .u8 15), (.int .u8 34), (.int .u8 20), (.int .u8 31), (.int .u8 10), (.int .u8 25), (.int .u8 14), (.int .u8 19), (.int .u8 9), (.int .u8 13), (.int .u8 8), (.int .u8 7), (.int .u8 6)] e0 false)]⟩⟩
theorem pR6 (w : Int) (b : Int) (e0 : TypeId) : evCK Tryd.prog cfgT (runK Tryd.prog cfgT fsT (conTk looksDom looksK) 14 40) 14 (codeAt [1, 1, 1, 1, 0, 0] BP) (pS3 w b e0) (normC 1 [5, 7, 15, 16]) =
  some (.normal, (pS5 w b e0)) := by kernel_rfl
theorem pC1_1_1_1_0_1 : (codeAt [1, 1, 1, 1, 0, 1] BP) = .block 0 (codeAt [1, 1, 1, 1, 0, 1, 0] BP) := by kernel_rfl
noncomputable def pS6 (w : Int) (b : Int) (e0 : TypeId) : KSt := ⟨(frameL 25 [(5, (.pointer (some ⟨1, 0, none⟩)))]), ⟨3, 1, [(2, 0, .cells [(.int .i64 (IntKind.wrap .i64 (Int.tdiv (tzV ((matchW w b))) 8))), (.int .i64 (IntKind.wrap .i64 (Int.tdiv (tzV ((nxt (matchW w b)))) 8))), (.int .i64 (IntKind.wrap .i64 (Int.tdiv (tzV ((nxt (nxt (matchW w b))))) 8))), (.int .i64 (IntKind.wrap .i64 (Int.tdiv (tzV ((nxt (nxt (nxt (matchW w b)))))) 8))), (.int .i64 (IntKind.wrap .i64 (Int.tdiv (tzV ((nxt (nxt (nxt (nxt (matchW w b))))))) 8))), (.int .i64 (IntKind.wrap .i64 (Int.tdiv (tzV ((nxt (nxt (nxt (nxt (nxt (matchW w b)))))))) 8))), (.int .i64 (IntKind.wrap .i64 (Int.tdiv (tzV ((nxt (nxt (nxt (nxt (nxt (nxt (matchW w b))))))))) 8))), (.int .i64 (IntKind.wrap .i64 (Int.tdiv (tzV ((nxt (nxt (nxt (nxt (nxt (nxt (nxt (matchW w b)))))))))) 8))), (.int .i64 (IntKind.wrap .i64 (Int.tdiv (tzV ((nxt (nxt (nxt (nxt (nxt (nxt (nxt (nxt (matchW w b))))))))))) 8)))] 3 true), (1, 0, .cells [(.slice (some ⟨2, 0, none⟩) 9 9)] 27 true), (0, 0, .cells [(.int .u8 0), (.int .u8 1), (.int .u8 56), (.int .u8 2), (.int .u8 57), (.int .u8 49), (.int .u8 28), (.int .u8 3), (.int .u8 61), (.int .u8 58), (.int .u8 42), (.int .u8 50), (.int .u8 38), (.int .u8 29), (.int .u8 17), (.int .u8 4), (.int .u8 62), (.int .u8 47), (.int .u8 59), (.int .u8 36), (.int .u8 45), (.int .u8 43), (.int .u8 51), (.int .u8 22), (.int .u8 53), (.int .u8 39), (.int .u8 33), (.int .u8 30), (.int .u8 24), (.int .u8 18), (.int .u8 12), (.int .u8 5), (.int .u8 63), (.int .u8 55), (.int .u8 48), (.int .u8 27), (.int .u8 60), (.int .u8 41), (.int .u8 37), (.int .u8 16), (.int .u8 46), (.int .u8 35), (.int .u8 44), (.int .u8 21), (.int .u8 52), (.int .u8 32), (.int .u8 23), (.int .u8 11), (.int .u8 54), (.int .u8 26), (.int .u8 40), (.int .u8 15), (.int .u8 34), (.int .u8 20), (.int .u8 31), (.int .u8 10), (.int .u8 25), (.int .u8 14), (.int .u8 19), (.int .u8 9), (.int .u8 13), (.int .u8 8), (.int .u8 7), (.int .u8 6)] e0 false)]⟩⟩
noncomputable def pS7 (w : Int) (b : Int) (e0 : TypeId) : KSt := ⟨(frameL 25 [(5, (.pointer (some ⟨1, 0, none⟩)))]), ⟨3, 1, [(2, 0, .cells [(.int .i64 (IntKind.wrap .i64 (Int.tdiv (tzV ((matchW w b))) 8))), (.int .i64 (IntKind.wrap .i64 (Int.tdiv (tzV ((nxt (matchW w b)))) 8))), (.int .i64 (IntKind.wrap .i64 (Int.tdiv (tzV ((nxt (nxt (matchW w b))))) 8))), (.int .i64 (IntKind.wrap .i64 (Int.tdiv (tzV ((nxt (nxt (nxt (matchW w b)))))) 8))), (.int .i64 (IntKind.wrap .i64 (Int.tdiv (tzV ((nxt (nxt (nxt (nxt (matchW w b))))))) 8))), (.int .i64 (IntKind.wrap .i64 (Int.tdiv (tzV ((nxt (nxt (nxt (nxt (nxt (matchW w b)))))))) 8))), (.int .i64 (IntKind.wrap .i64 (Int.tdiv (tzV ((nxt (nxt (nxt (nxt (nxt (nxt (matchW w b))))))))) 8))), (.int .i64 (IntKind.wrap .i64 (Int.tdiv (tzV ((nxt (nxt (nxt (nxt (nxt (nxt (nxt (matchW w b)))))))))) 8)))] 3 true), (1, 0, .cells [(.slice (some ⟨2, 0, none⟩) 8 8)] 27 true), (0, 0, .cells [(.int .u8 0), (.int .u8 1), (.int .u8 56), (.int .u8 2), (.int .u8 57), (.int .u8 49), (.int .u8 28), (.int .u8 3), (.int .u8 61), (.int .u8 58), (.int .u8 42), (.int .u8 50), (.int .u8 38), (.int .u8 29), (.int .u8 17), (.int .u8 4), (.int .u8 62), (.int .u8 47), (.int .u8 59), (.int .u8 36), (.int .u8 45), (.int .u8 43), (.int .u8 51), (.int .u8 22), (.int .u8 53), (.int .u8 39), (.int .u8 33), (.int .u8 30), (.int .u8 24), (.int .u8 18), (.int .u8 12), (.int .u8 5), (.int .u8 63), (.int .u8 55), (.int .u8 48), (.int .u8 27), (.int .u8 60), (.int .u8 41), (.int .u8 37), (.int .u8 16), (.int .u8 46), (.int .u8 35), (.int .u8 44), (.int .u8 21), (.int .u8 52), (.int .u8 32), (.int .u8 23), (.int .u8 11), (.int .u8 54), (.int .u8 26), (.int .u8 40), (.int .u8 15), (.int .u8 34), (.int .u8 20), (.int .u8 31), (.int .u8 10), (.int .u8 25), (.int .u8 14), (.int .u8 19), (.int .u8 9), (.int .u8 13), (.int .u8 8), (.int .u8 7), (.int .u8 6)] e0 false)]⟩⟩
noncomputable def pS8 (w : Int) (b : Int) (e0 : TypeId) : KSt := ⟨(frameL 25 [(5, (.pointer (some ⟨1, 0, none⟩)))]), ⟨3, 1, [(2, 0, .cells [(.int .i64 (IntKind.wrap .i64 (Int.tdiv (tzV ((matchW w b))) 8))), (.int .i64 (IntKind.wrap .i64 (Int.tdiv (tzV ((nxt (matchW w b)))) 8))), (.int .i64 (IntKind.wrap .i64 (Int.tdiv (tzV ((nxt (nxt (matchW w b))))) 8))), (.int .i64 (IntKind.wrap .i64 (Int.tdiv (tzV ((nxt (nxt (nxt (matchW w b)))))) 8))), (.int .i64 (IntKind.wrap .i64 (Int.tdiv (tzV ((nxt (nxt (nxt (nxt (matchW w b))))))) 8))), (.int .i64 (IntKind.wrap .i64 (Int.tdiv (tzV ((nxt (nxt (nxt (nxt (nxt (matchW w b)))))))) 8))), (.int .i64 (IntKind.wrap .i64 (Int.tdiv (tzV ((nxt (nxt (nxt (nxt (nxt (nxt (matchW w b))))))))) 8)))] 3 true), (1, 0, .cells [(.slice (some ⟨2, 0, none⟩) 7 7)] 27 true), (0, 0, .cells [(.int .u8 0), (.int .u8 1), (.int .u8 56), (.int .u8 2), (.int .u8 57), (.int .u8 49), (.int .u8 28), (.int .u8 3), (.int .u8 61), (.int .u8 58), (.int .u8 42), (.int .u8 50), (.int .u8 38), (.int .u8 29), (.int .u8 17), (.int .u8 4), (.int .u8 62), (.int .u8 47), (.int .u8 59), (.int .u8 36), (.int .u8 45), (.int .u8 43), (.int .u8 51), (.int .u8 22), (.int .u8 53), (.int .u8 39), (.int .u8 33), (.int .u8 30), (.int .u8 24), (.int .u8 18), (.int .u8 12), (.int .u8 5), (.int .u8 63), (.int .u8 55), (.int .u8 48), (.int .u8 27), (.int .u8 60), (.int .u8 41), (.int .u8 37), (.int .u8 16), (.int .u8 46), (.int .u8 35), (.int .u8 44), (.int .u8 21), (.int .u8 52), (.int .u8 32), (.int .u8 23), (.int .u8 11), (.int .u8 54), (.int .u8 26), (.int .u8 40), (.int .u8 15), (.int .u8 34), (.int .u8 20), (.int .u8 31), (.int .u8 10), (.int .u8 25), (.int .u8 14), (.int .u8 19), (.int .u8 9), (.int .u8 13), (.int .u8 8), (.int .u8 7), (.int .u8 6)] e0 false)]⟩⟩
noncomputable def pS9 (w : Int) (b : Int) (e0 : TypeId) : KSt := ⟨(frameL 25 [(5, (.pointer (some ⟨1, 0, none⟩)))]), ⟨3, 1, [(2, 0, .cells [(.int .i64 (IntKind.wrap .i64 (Int.tdiv (tzV ((matchW w b))) 8))), (.int .i64 (IntKind.wrap .i64 (Int.tdiv (tzV ((nxt (matchW w b)))) 8))), (.int .i64 (IntKind.wrap .i64 (Int.tdiv (tzV ((nxt (nxt (matchW w b))))) 8))), (.int .i64 (IntKind.wrap .i64 (Int.tdiv (tzV ((nxt (nxt (nxt (matchW w b)))))) 8))), (.int .i64 (IntKind.wrap .i64 (Int.tdiv (tzV ((nxt (nxt (nxt (nxt (matchW w b))))))) 8))), (.int .i64 (IntKind.wrap .i64 (Int.tdiv (tzV ((nxt (nxt (nxt (nxt (nxt (matchW w b)))))))) 8)))] 3 true), (1, 0, .cells [(.slice (some ⟨2, 0, none⟩) 6 6)] 27 true), (0, 0, .cells [(.int .u8 0), (.int .u8 1), (.int .u8 56), (.int .u8 2), (.int .u8 57), (.int .u8 49), (.int .u8 28), (.int .u8 3), (.int .u8 61), (.int .u8 58), (.int .u8 42), (.int .u8 50), (.int .u8 38), (.int .u8 29), (.int .u8 17), (.int .u8 4), (.int .u8 62), (.int .u8 47), (.int .u8 59), (.int .u8 36), (.int .u8 45), (.int .u8 43), (.int .u8 51), (.int .u8 22), (.int .u8 53), (.int .u8 39), (.int .u8 33), (.int .u8 30), (.int .u8 24), (.int .u8 18), (.int .u8 12), (.int .u8 5), (.int .u8 63), (.int .u8 55), (.int .u8 48), (.int .u8 27), (.int .u8 60), (.int .u8 41), (.int .u8 37), (.int .u8 16), (.int .u8 46), (.int .u8 35), (.int .u8 44), (.int .u8 21), (.int .u8 52), (.int .u8 32), (.int .u8 23), (.int .u8 11), (.int .u8 54), (.int .u8 26), (.int .u8 40), (.int .u8 15), (.int .u8 34), (.int .u8 20), (.int .u8 31), (.int .u8 10), (.int .u8 25), (.int .u8 14), (.int .u8 19), (.int .u8 9), (.int .u8 13), (.int .u8 8), (.int .u8 7), (.int .u8 6)] e0 false)]⟩⟩
noncomputable def pS10 (w : Int) (b : Int) (e0 : TypeId) : KSt := ⟨(frameL 25 [(5, (.pointer (some ⟨1, 0, none⟩)))]), ⟨3, 1, [(2, 0, .cells [(.int .i64 (IntKind.wrap .i64 (Int.tdiv (tzV ((matchW w b))) 8))), (.int .i64 (IntKind.wrap .i64 (Int.tdiv (tzV ((nxt (matchW w b)))) 8))), (.int .i64 (IntKind.wrap .i64 (Int.tdiv (tzV ((nxt (nxt (matchW w b))))) 8))), (.int .i64 (IntKind.wrap .i64 (Int.tdiv (tzV ((nxt (nxt (nxt (matchW w b)))))) 8))), (.int .i64 (IntKind.wrap .i64 (Int.tdiv (tzV ((nxt (nxt (nxt (nxt (matchW w b))))))) 8)))] 3 true), (1, 0, .cells [(.slice (some ⟨2, 0, none⟩) 5 5)] 27 true), (0, 0, .cells [(.int .u8 0), (.int .u8 1), (.int .u8 56), (.int .u8 2), (.int .u8 57), (.int .u8 49), (.int .u8 28), (.int .u8 3), (.int .u8 61), (.int .u8 58), (.int .u8 42), (.int .u8 50), (.int .u8 38), (.int .u8 29), (.int .u8 17), (.int .u8 4), (.int .u8 62), (.int .u8 47), (.int .u8 59), (.int .u8 36), (.int .u8 45), (.int .u8 43), (.int .u8 51), (.int .u8 22), (.int .u8 53), (.int .u8 39), (.int .u8 33), (.int .u8 30), (.int .u8 24), (.int .u8 18), (.int .u8 12), (.int .u8 5), (.int .u8 63), (.int .u8 55), (.int .u8 48), (.int .u8 27), (.int .u8 60), (.int .u8 41), (.int .u8 37), (.int .u8 16), (.int .u8 46), (.int .u8 35), (.int .u8 44), (.int .u8 21), (.int .u8 52), (.int .u8 32), (.int .u8 23), (.int .u8 11), (.int .u8 54), (.int .u8 26), (.int .u8 40), (.int .u8 15), (.int .u8 34), (.int .u8 20), (.int .u8 31), (.int .u8 10), (.int .u8 25), (.int .u8 14), (.int .u8 19), (.int .u8 9), (.int .u8 13), (.int .u8 8), (.int .u8 7), (.int .u8 6)] e0 false)]⟩⟩
noncomputable def pS11 (w : Int) (b : Int) (e0 : TypeId) : KSt := ⟨(frameL 25 [(5, (.pointer (some ⟨1, 0, none⟩)))]), ⟨3, 1, [(2, 0, .cells [(.int .i64 (IntKind.wrap .i64 (Int.tdiv (tzV ((matchW w b))) 8))), (.int .i64 (IntKind.wrap .i64 (Int.tdiv (tzV ((nxt (matchW w b)))) 8))), (.int .i64 (IntKind.wrap .i64 (Int.tdiv (tzV ((nxt (nxt (matchW w b))))) 8))), (.int .i64 (IntKind.wrap .i64 (Int.tdiv (tzV ((nxt (nxt (nxt (matchW w b)))))) 8)))] 3 true), (1, 0, .cells [(.slice (some ⟨2, 0, none⟩) 4 4)] 27 true), (0, 0, .cells [(.int .u8 0), (.int .u8 1), (.int .u8 56), (.int .u8 2), (.int .u8 57), (.int .u8 49), (.int .u8 28), (.int .u8 3), (.int .u8 61), (.int .u8 58), (.int .u8 42), (.int .u8 50), (.int .u8 38), (.int .u8 29), (.int .u8 17), (.int .u8 4), (.int .u8 62), (.int .u8 47), (.int .u8 59), (.int .u8 36), (.int .u8 45), (.int .u8 43), (.int .u8 51), (.int .u8 22), (.int .u8 53), (.int .u8 39), (.int .u8 33), (.int .u8 30), (.int .u8 24), (.int .u8 18), (.int .u8 12), (.int .u8 5), (.int .u8 63), (.int .u8 55), (.int .u8 48), (.int .u8 27), (.int .u8 60), (.int .u8 41), (.int .u8 37), (.int .u8 16), (.int .u8 46), (.int .u8 35), (.int .u8 44), (.int .u8 21), (.int .u8 52), (.int .u8 32), (.int .u8 23), (.int .u8 11), (.int .u8 54), (.int .u8 26), (.int .u8 40), (.int .u8 15), (.int .u8 34), (.int .u8 20), (.int .u8 31), (.int .u8 10), (.int .u8 25), (.int .u8 14), (.int .u8 19), (.int .u8 9), (.int .u8 13), (.int .u8 8), (.int .u8 7), (.int .u8 6)] e0 false)]⟩⟩
noncomputable def pS12 (w : Int) (b : Int) (e0 : TypeId) : KSt := ⟨(frameL 25 [(5, (.pointer (some ⟨1, 0, none⟩)))]), ⟨3, 1, [(2, 0, .cells [(.int .i64 (IntKind.wrap .i64 (Int.tdiv (tzV ((matchW w b))) 8))), (.int .i64 (IntKind.wrap .i64 (Int.tdiv (tzV ((nxt (matchW w b)))) 8))), (.int .i64 (IntKind.wrap .i64 (Int.tdiv (tzV ((nxt (nxt (matchW w b))))) 8)))] 3 true), (1, 0, .cells [(.slice (some ⟨2, 0, none⟩) 3 3)] 27 true), (0, 0, .cells [(.int .u8 0), (.int .u8 1), (.int .u8 56), (.int .u8 2), (.int .u8 57), (.int .u8 49), (.int .u8 28), (.int .u8 3), (.int .u8 61), (.int .u8 58), (.int .u8 42), (.int .u8 50), (.int .u8 38), (.int .u8 29), (.int .u8 17), (.int .u8 4), (.int .u8 62), (.int .u8 47), (.int .u8 59), (.int .u8 36), (.int .u8 45), (.int .u8 43), (.int .u8 51), (.int .u8 22), (.int .u8 53), (.int .u8 39), (.int .u8 33), (.int .u8 30), (.int .u8 24), (.int .u8 18), (.int .u8 12), (.int .u8 5), (.int .u8 63), (.int .u8 55), (.int .u8 48), (.int .u8 27), (.int .u8 60), (.int .u8 41), (.int .u8 37), (.int .u8 16), (.int .u8 46), (.int .u8 35), (.int .u8 44), (.int .u8 21), (.int .u8 52), (.int .u8 32), (.int .u8 23), (.int .u8 11), (.int .u8 54), (.int .u8 26), (.int .u8 40), (.int .u8 15), (.int .u8 34), (.int .u8 20), (.int .u8 31), (.int .u8 10), (.int .u8 25), (.int .u8 14), (.int .u8 19), (.int .u8 9), (.int .u8 13), (.int .u8 8), (.int .u8 7), (.int .u8 6)] e0 false)]⟩⟩
noncomputable def pS13 (w : Int) (b : Int) (e0 : TypeId) : KSt := ⟨(frameL 25 [(5, (.pointer (some ⟨1, 0, none⟩)))]), ⟨3, 1, [(2, 0, .cells [(.int .i64 (IntKind.wrap .i64 (Int.tdiv (tzV ((matchW w b))) 8))), (.int .i64 (IntKind.wrap .i64 (Int.tdiv (tzV ((nxt (matchW w b)))) 8)))] 3 true), (1, 0, .cells [(.slice (some ⟨2, 0, none⟩) 2 2)] 27 true), (0, 0, .cells [(.int .u8 0), (.int .u8 1), (.int .u8 56), (.int .u8 2), (.int .u8 57), (.int .u8 49), (.int .u8 28), (.int .u8 3), (.int .u8 61), (.int .u8 58), (.int .u8 42), (.int .u8 50), (.int .u8 38), (.int .u8 29), (.int .u8 17), (.int .u8 4), (.int .u8 62), (.int .u8 47), (.int .u8 59), (.int .u8 36), (.int .u8 45), (.int .u8 43), (.int .u8 51), (.int .u8 22), (.int .u8 53), (.int .u8 39), (.int .u8 33), (.int .u8 30), (.int .u8 24), (.int .u8 18), (.int .u8 12), (.int .u8 5), (.int .u8 63), (.int .u8 55), (.int .u8 48), (.int .u8 27), (.int .u8 60), (.int .u8 41), (.int .u8 37), (.int .u8 16), (.int .u8 46), (.int .u8 35), (.int .u8 44), (.int .u8 21), (.int .u8 52), (.int .u8 32), (.int .u8 23), (.int .u8 11), (.int .u8 54), (.int .u8 26), (.int .u8 40), (.int .u8 15), (.int .u8 34), (.int .u8 20), (.int .u8 31), (.int .u8 10), (.int .u8 25), (.int .u8 14), (.int .u8 19), (.int .u8 9), (.int .u8 13), (.int .u8 8), (.int .u8 7), (.int .u8 6)] e0 false)]⟩⟩
noncomputable def pS14 (w : Int) (b : Int) (e0 : TypeId) : KSt := ⟨(frameL 25 [(5, (.pointer (some ⟨1, 0, none⟩)))]), ⟨3, 1, [(2, 0, .cells [(.int .i64 (IntKind.wrap .i64 (Int.tdiv (tzV ((matchW w b))) 8)))] 3 true), (1, 0, .cells [(.slice (some ⟨2, 0, none⟩) 1 1)] 27 true), (0, 0, .cells [(.int .u8 0), (.int .u8 1), (.int .u8 56), (.int .u8 2), (.int .u8 57), (.int .u8 49), (.int .u8 28), (.int .u8 3), (.int .u8 61), (.int .u8 58), (.int .u8 42), (.int .u8 50), (.int .u8 38), (.int .u8 29), (.int .u8 17), (.int .u8 4), (.int .u8 62), (.int .u8 47), (.int .u8 59), (.int .u8 36), (.int .u8 45), (.int .u8 43), (.int .u8 51), (.int .u8 22), (.int .u8 53), (.int .u8 39), (.int .u8 33), (.int .u8 30), (.int .u8 24), (.int .u8 18), (.int .u8 12), (.int .u8 5), (.int .u8 63), (.int .u8 55), (.int .u8 48), (.int .u8 27), (.int .u8 60), (.int .u8 41), (.int .u8 37), (.int .u8 16), (.int .u8 46), (.int .u8 35), (.int .u8 44), (.int .u8 21), (.int .u8 52), (.int .u8 32), (.int .u8 23), (.int .u8 11), (.int .u8 54), (.int .u8 26), (.int .u8 40), (.int .u8 15), (.int .u8 34), (.int .u8 20), (.int .u8 31), (.int .u8 10), (.int .u8 25), (.int .u8 14), (.int .u8 19), (.int .u8 9), (.int .u8 13), (.int .u8 8), (.int .u8 7), (.int .u8 6)] e0 false)]⟩⟩
noncomputable def pS15 (e0 : TypeId) : KSt := ⟨(frameL 25 [(5, (.pointer (some ⟨1, 0, none⟩)))]), ⟨3, 1, [(2, 0, .cells [] 3 true), (1, 0, .cells [(.slice (some ⟨2, 0, none⟩) 0 0)] 27 true), (0, 0, .cells [(.int .u8 0), (.int .u8 1), (.int .u8 56), (.int .u8 2), (.int .u8 57), (.int .u8 49), (.int .u8 28), (.int .u8 3), (.int .u8 61), (.int .u8 58), (.int .u8 42), (.int .u8 50), (.int .u8 38), (.int .u8 29), (.int .u8 17), (.int .u8 4), (.int .u8 62), (.int .u8 47), (.int .u8 59), (.int .u8 36), (.int .u8 45), (.int .u8 43), (.int .u8 51), (.int .u8 22), (.int .u8 53), (.int .u8 39), (.int .u8 33), (.int .u8 30), (.int .u8 24), (.int .u8 18), (.int .u8 12), (.int .u8 5), (.int .u8 63), (.int .u8 55), (.int .u8 48), (.int .u8 27), (.int .u8 60), (.int .u8 41), (.int .u8 37), (.int .u8 16), (.int .u8 46), (.int .u8 35), (.int .u8 44), (.int .u8 21), (.int .u8 52), (.int .u8 32), (.int .u8 23), (.int .u8 11), (.int .u8 54), (.int .u8 26), (.int .u8 40), (.int .u8 15), (.int .u8 34), (.int .u8 20), (.int .u8 31), (.int .u8 10), (.int .u8 25), (.int .u8 14), (.int .u8 19), (.int .u8 9), (.int .u8 13), (.int .u8 8), (.int .u8 7), (.int .u8 6)] e0 false)]⟩⟩
theorem pR7 (w : Int) (b : Int) (e0 : TypeId) : evCK Tryd.prog cfgT (runK Tryd.prog cfgT fsT (conTk looksDom looksK) 14 40) 14 (codeAt [1, 1, 1, 1, 0, 1, 0] BP) (pS5 w b e0) (normC 1 [5]) =
  bif ((matchW w b) != 0) then
    bif (isMark ((matchW w b))) then
      bif ((nxt (matchW w b)) != 0) then
        bif (isMark ((nxt (matchW w b)))) then
          bif ((nxt (nxt (matchW w b))) != 0) then
            bif (isMark ((nxt (nxt (matchW w b))))) then
              bif ((nxt (nxt (nxt (matchW w b)))) != 0) then
                bif (isMark ((nxt (nxt (nxt (matchW w b)))))) then
                  bif ((nxt (nxt (nxt (nxt (matchW w b))))) != 0) then
                    bif (isMark ((nxt (nxt (nxt (nxt (matchW w b))))))) then
                      bif ((nxt (nxt (nxt (nxt (nxt (matchW w b)))))) != 0) then
                        bif (isMark ((nxt (nxt (nxt (nxt (nxt (matchW w b)))))))) then
                          bif ((nxt (nxt (nxt (nxt (nxt (nxt (matchW w b))))))) != 0) then
                            bif (isMark ((nxt (nxt (nxt (nxt (nxt (nxt (matchW w b))))))))) then
                              bif ((nxt (nxt (nxt (nxt (nxt (nxt (nxt (matchW w b)))))))) != 0) then
                                bif (isMark ((nxt (nxt (nxt (nxt (nxt (nxt (nxt (matchW w b)))))))))) then
                                  bif ((nxt (nxt (nxt (nxt (nxt (nxt (nxt (nxt (matchW w b))))))))) != 0) then
                                    bif (isMark ((nxt (nxt (nxt (nxt (nxt (nxt (nxt (nxt (matchW w b))))))))))) then
                                      some ((.exit 0), (pS6 w b e0))
                                    else
                                      none
                                  else
                                    some (.normal, (pS7 w b e0))
                                else
                                  none
                              else
                                some (.normal, (pS8 w b e0))
                            else
                              none
                          else
                            some (.normal, (pS9 w b e0))
                        else
                          none
                      else
                        some (.normal, (pS10 w b e0))
                    else
                      none
                  else
                    some (.normal, (pS11 w b e0))
                else
                  none
              else
                some (.normal, (pS12 w b e0))
            else
              none
          else
            some (.normal, (pS13 w b e0))
        else
          none
      else
        some (.normal, (pS14 w b e0))
    else
      none
  else
    some (.normal, (pS15 e0)) := by kernel_rfl
theorem pC1_1_1_1_1 : (codeAt [1, 1, 1, 1, 1] BP) = .seq (codeAt [1, 1, 1, 1, 1, 0] BP) (codeAt [1, 1, 1, 1, 1, 1] BP) := by kernel_rfl
noncomputable def pS16 (e0 : TypeId) : KSt := ⟨(frameL 25 [(4, (.slice (some ⟨1, 0, none⟩) 0 0))]), ⟨2, 1, [(1, 0, .cells [] 3 true), (0, 0, .cells [(.int .u8 0), (.int .u8 1), (.int .u8 56), (.int .u8 2), (.int .u8 57), (.int .u8 49), (.int .u8 28), (.int .u8 3), (.int .u8 61), (.int .u8 58), (.int .u8 42), (.int .u8 50), (.int .u8 38), (.int .u8 29), (.int .u8 17), (.int .u8 4), (.int .u8 62), (.int .u8 47), (.int .u8 59), (.int .u8 36), (.int .u8 45), (.int .u8 43), (.int .u8 51), (.int .u8 22), (.int .u8 53), (.int .u8 39), (.int .u8 33), (.int .u8 30), (.int .u8 24), (.int .u8 18), (.int .u8 12), (.int .u8 5), (.int .u8 63), (.int .u8 55), (.int .u8 48), (.int .u8 27), (.int .u8 60), (.int .u8 41), (.int .u8 37), (.int .u8 16), (.int .u8 46), (.int .u8 35), (.int .u8 44), (.int .u8 21), (.int .u8 52), (.int .u8 32), (.int .u8 23), (.int .u8 11), (.int .u8 54), (.int .u8 26), (.int .u8 40), (.int .u8 15), (.int .u8 34), (.int .u8 20), (.int .u8 31), (.int .u8 10), (.int .u8 25), (.int .u8 14), (.int .u8 19), (.int .u8 9), (.int .u8 13), (.int .u8 8), (.int .u8 7), (.int .u8 6)] e0 false)]⟩⟩
theorem pR8 (e0 : TypeId) : evCK Tryd.prog cfgT (runK Tryd.prog cfgT fsT (conTk looksDom looksK) 14 40) 14 (codeAt [1, 1, 1, 1, 1, 0] BP) (pS15 e0) (normC 1 [4]) =
  some (.normal, (pS16 e0)) := by kernel_rfl
theorem pC1_1_1_1_1_1 : (codeAt [1, 1, 1, 1, 1, 1] BP) = .ret := by kernel_rfl
theorem r0 (w b : Int) (e0 : TypeId) (h0 : ((matchW w b) != 0) = false)   {Q : Ex → St → Prop} (hq : Q .ret (KSt.low (pS16 e0))) : Gets Tryd.prog (varH .u8 tz e0).low BP (KSt.low (pS0 w b e0)) Q := by
  rw [pC]; refine Gets.seq ?_
  refine Gets.ofN fitT looks_sound looks_agree 14 40 (by kernel_rfl) (x := .normal) (s' := (pS1 w b e0)) (pR1 w b e0) ?_
  show Gets _ _ (codeAt [1] BP) _ _
  rw [pC1]; refine Gets.seq ?_
  refine Gets.ofN fitT looks_sound looks_agree 14 40 (by kernel_rfl) (x := .normal) (s' := (pS2 w b e0)) (pR2 w b e0) ?_
  show Gets _ _ (codeAt [1, 1] BP) _ _
  rw [pC1_1]; refine Gets.seq ?_
  refine Gets.ofN fitT looks_sound looks_agree 14 40 (by kernel_rfl) (x := .normal) (s' := (pS3 w b e0)) (pR3 w b e0) ?_
  show Gets _ _ (codeAt [1, 1, 1] BP) _ _
  rw [pC1_1_1]; refine Gets.seq ?_
  rw [pC1_1_1_0]; refine Gets.seq ?_
  refine Gets.ofN fitT looks_sound looks_agree 14 40 (by kernel_rfl) (x := .normal) (s' := (pS4 w b e0)) (pR4 w b e0) ?_
  show Gets _ _ (codeAt [1, 1, 1, 0, 1] BP) _ _
  rw [pC1_1_1_0_1]; refine Gets.cond false (by kernel_rfl) (show evalX (KSt.ts (pS4 w b e0)) (.tmp 13) = .bool false by kernel_rfl) ?_; show Gets _ _ (codeAt [1, 1, 1, 0, 1, 1] BP) _ _
  refine Gets.ofN fitT looks_sound looks_agree 14 40 (by kernel_rfl) (x := .normal) (s' := (pS3 w b e0)) (pR5 w b e0) ?_
  show Gets _ _ (codeAt [1, 1, 1, 1] BP) _ _
  rw [pC1_1_1_1]; refine Gets.seq ?_
  rw [pC1_1_1_1_0]; refine Gets.seq ?_
  refine Gets.ofN fitT looks_sound looks_agree 14 40 (by kernel_rfl) (x := .normal) (s' := (pS5 w b e0)) (pR6 w b e0) ?_
  show Gets _ _ (codeAt [1, 1, 1, 1, 0, 1] BP) _ _
  rw [pC1_1_1_1_0_1]; refine Gets.block ?_
  refine Gets.ofN fitT looks_sound looks_agree 14 40 (by kernel_rfl) (x := .normal) (s' := (pS15 e0)) ((pR7 w b e0).trans (by rw [condF (h0)])) ?_
  show Gets _ _ (codeAt [1, 1, 1, 1, 1] BP) _ _
  rw [pC1_1_1_1_1]; refine Gets.seq ?_
  refine Gets.ofN fitT looks_sound looks_agree 14 40 (by kernel_rfl) (x := .normal) (s' := (pS16 e0)) (pR8 e0) ?_
  show Gets _ _ (codeAt [1, 1, 1, 1, 1, 1] BP) _ _
  rw [pC1_1_1_1_1_1]; refine Gets.ev fitT.mix fitT.cfg (fitT.sound looks_sound 14 0) 14 rfl (s' := KSt.low (pS16 e0)) (x := .ret) rfl ?_
  exact hq
noncomputable def pS17 (w : Int) (b : Int) (e0 : TypeId) : KSt := ⟨(frameL 25 [(4, (.slice (some ⟨1, 0, none⟩) 1 1))]), ⟨2, 1, [(1, 0, .cells [(.int .i64 (IntKind.wrap .i64 (Int.tdiv (tzV ((matchW w b))) 8)))] 3 true), (0, 0, .cells [(.int .u8 0), (.int .u8 1), (.int .u8 56), (.int .u8 2), (.int .u8 57), (.int .u8 49), (.int .u8 28), (.int .u8 3), (.int .u8 61), (.int .u8 58), (.int .u8 42), (.int .u8 50), (.int .u8 38), (.int .u8 29), (.int .u8 17), (.int .u8 4), (.int .u8 62), (.int .u8 47), (.int .u8 59), (.int .u8 36), (.int .u8 45), (.int .u8 43), (.int .u8 51), (.int .u8 22), (.int .u8 53), (.int .u8 39), (.int .u8 33), (.int .u8 30), (.int .u8 24), (.int .u8 18), (.int .u8 12), (.int .u8 5), (.int .u8 63), (.int .u8 55), (.int .u8 48), (.int .u8 27), (.int .u8 60), (.int .u8 41), (.int .u8 37), (.int .u8 16), (.int .u8 46), (.int .u8 35), (.int .u8 44), (.int .u8 21), (.int .u8 52), (.int .u8 32), (.int .u8 23), (.int .u8 11), (.int .u8 54), (.int .u8 26), (.int .u8 40), (.int .u8 15), (.int .u8 34), (.int .u8 20), (.int .u8 31), (.int .u8 10), (.int .u8 25), (.int .u8 14), (.int .u8 19), (.int .u8 9), (.int .u8 13), (.int .u8 8), (.int .u8 7), (.int .u8 6)] e0 false)]⟩⟩
theorem pR9 (w : Int) (b : Int) (e0 : TypeId) : evCK Tryd.prog cfgT (runK Tryd.prog cfgT fsT (conTk looksDom looksK) 14 40) 14 (codeAt [1, 1, 1, 1, 1, 0] BP) (pS14 w b e0) (normC 1 [4]) =
  some (.normal, (pS17 w b e0)) := by kernel_rfl
theorem r1 (w b : Int) (e0 : TypeId) (h0 : ((matchW w b) != 0) = true) (k0 : isMark (matchW w b) = true) (h1 : ((nxt (matchW w b)) != 0) = false)   {Q : Ex → St → Prop} (hq : Q .ret (KSt.low (pS17 w b e0))) : Gets Tryd.prog (varH .u8 tz e0).low BP (KSt.low (pS0 w b e0)) Q := by
  rw [pC]; refine Gets.seq ?_
  refine Gets.ofN fitT looks_sound looks_agree 14 40 (by kernel_rfl) (x := .normal) (s' := (pS1 w b e0)) (pR1 w b e0) ?_
  show Gets _ _ (codeAt [1] BP) _ _
  rw [pC1]; refine Gets.seq ?_
  refine Gets.ofN fitT looks_sound looks_agree 14 40 (by kernel_rfl) (x := .normal) (s' := (pS2 w b e0)) (pR2 w b e0) ?_
  show Gets _ _ (codeAt [1, 1] BP) _ _
  rw [pC1_1]; refine Gets.seq ?_
  refine Gets.ofN fitT looks_sound looks_agree 14 40 (by kernel_rfl) (x := .normal) (s' := (pS3 w b e0)) (pR3 w b e0) ?_
  show Gets _ _ (codeAt [1, 1, 1] BP) _ _
  rw [pC1_1_1]; refine Gets.seq ?_
  rw [pC1_1_1_0]; refine Gets.seq ?_
  refine Gets.ofN fitT looks_sound looks_agree 14 40 (by kernel_rfl) (x := .normal) (s' := (pS4 w b e0)) (pR4 w b e0) ?_
  show Gets _ _ (codeAt [1, 1, 1, 0, 1] BP) _ _
  rw [pC1_1_1_0_1]; refine Gets.cond false (by kernel_rfl) (show evalX (KSt.ts (pS4 w b e0)) (.tmp 13) = .bool false by kernel_rfl) ?_; show Gets _ _ (codeAt [1, 1, 1, 0, 1, 1] BP) _ _
  refine Gets.ofN fitT looks_sound looks_agree 14 40 (by kernel_rfl) (x := .normal) (s' := (pS3 w b e0)) (pR5 w b e0) ?_
  show Gets _ _ (codeAt [1, 1, 1, 1] BP) _ _
  rw [pC1_1_1_1]; refine Gets.seq ?_
  rw [pC1_1_1_1_0]; refine Gets.seq ?_
  refine Gets.ofN fitT looks_sound looks_agree 14 40 (by kernel_rfl) (x := .normal) (s' := (pS5 w b e0)) (pR6 w b e0) ?_
  show Gets _ _ (codeAt [1, 1, 1, 1, 0, 1] BP) _ _
  rw [pC1_1_1_1_0_1]; refine Gets.block ?_
  refine Gets.ofN fitT looks_sound looks_agree 14 40 (by kernel_rfl) (x := .normal) (s' := (pS14 w b e0)) ((pR7 w b e0).trans (by rw [condT (h0), condT (k0), condF (h1)])) ?_
  show Gets _ _ (codeAt [1, 1, 1, 1, 1] BP) _ _
  rw [pC1_1_1_1_1]; refine Gets.seq ?_
  refine Gets.ofN fitT looks_sound looks_agree 14 40 (by kernel_rfl) (x := .normal) (s' := (pS17 w b e0)) (pR9 w b e0) ?_
  show Gets _ _ (codeAt [1, 1, 1, 1, 1, 1] BP) _ _
  rw [pC1_1_1_1_1_1]; refine Gets.ev fitT.mix fitT.cfg (fitT.sound looks_sound 14 0) 14 rfl (s' := KSt.low (pS17 w b e0)) (x := .ret) rfl ?_
  exact hq
noncomputable def pS18 (w : Int) (b : Int) (e0 : TypeId) : KSt := ⟨(frameL 25 [(4, (.slice (some ⟨1, 0, none⟩) 2 2))]), ⟨2, 1, [(1, 0, .cells [(.int .i64 (IntKind.wrap .i64 (Int.tdiv (tzV ((matchW w b))) 8))), (.int .i64 (IntKind.wrap .i64 (Int.tdiv (tzV ((nxt (matchW w b)))) 8)))] 3 true), (0, 0, .cells [(.int .u8 0), (.int .u8 1), (.int .u8 56), (.int .u8 2), (.int .u8 57), (.int .u8 49), (.int .u8 28), (.int .u8 3), (.int .u8 61), (.int .u8 58), (.int .u8 42), (.int .u8 50), (.int .u8 38), (.int .u8 29), (.int .u8 17), (.int .u8 4), (.int .u8 62), (.int .u8 47), (.int .u8 59), (.int .u8 36), (.int .u8 45), (.int .u8 43), (.int .u8 51), (.int .u8 22), (.int .u8 53), (.int .u8 39), (.int .u8 33), (.int .u8 30), (.int .u8 24), (.int .u8 18), (.int .u8 12), (.int .u8 5), (.int .u8 63), (.int .u8 55), (.int .u8 48), (.int .u8 27), (.int .u8 60), (.int .u8 41), (.int .u8 37), (.int .u8 16), (.int .u8 46), (.int .u8 35), (.int .u8 44), (.int .u8 21), (.int .u8 52), (.int .u8 32), (.int .u8 23), (.int .u8 11), (.int .u8 54), (.int .u8 26), (.int .u8 40), (.int .u8 15), (.int .u8 34), (.int .u8 20), (.int .u8 31), (.int .u8 10), (.int .u8 25), (.int .u8 14), (.int .u8 19), (.int .u8 9), (.int .u8 13), (.int .u8 8), (.int .u8 7), (.int .u8 6)] e0 false)]⟩⟩
theorem pR10 (w : Int) (b : Int) (e0 : TypeId) : evCK Tryd.prog cfgT (runK Tryd.prog cfgT fsT (conTk looksDom looksK) 14 40) 14 (codeAt [1, 1, 1, 1, 1, 0] BP) (pS13 w b e0) (normC 1 [4]) =
  some (.normal, (pS18 w b e0)) := by kernel_rfl
theorem r2 (w b : Int) (e0 : TypeId) (h0 : ((matchW w b) != 0) = true) (k0 : isMark (matchW w b) = true) (h1 : ((nxt (matchW w b)) != 0) = true) (k1 : isMark (nxt (matchW w b)) = true) (h2 : ((nxt (nxt (matchW w b))) != 0) = false)   {Q : Ex → St → Prop} (hq : Q .ret (KSt.low (pS18 w b e0))) : Gets Tryd.prog (varH .u8 tz e0).low BP (KSt.low (pS0 w b e0)) Q := by
  rw [pC]; refine Gets.seq ?_
  refine Gets.ofN fitT looks_sound looks_agree 14 40 (by kernel_rfl) (x := .normal) (s' := (pS1 w b e0)) (pR1 w b e0) ?_
  show Gets _ _ (codeAt [1] BP) _ _
  rw [pC1]; refine Gets.seq ?_
  refine Gets.ofN fitT looks_sound looks_agree 14 40 (by kernel_rfl) (x := .normal) (s' := (pS2 w b e0)) (pR2 w b e0) ?_
  show Gets _ _ (codeAt [1, 1] BP) _ _
  rw [pC1_1]; refine Gets.seq ?_
  refine Gets.ofN fitT looks_sound looks_agree 14 40 (by kernel_rfl) (x := .normal) (s' := (pS3 w b e0)) (pR3 w b e0) ?_
  show Gets _ _ (codeAt [1, 1, 1] BP) _ _
  rw [pC1_1_1]; refine Gets.seq ?_
  rw [pC1_1_1_0]; refine Gets.seq ?_
  refine Gets.ofN fitT looks_sound looks_agree 14 40 (by kernel_rfl) (x := .normal) (s' := (pS4 w b e0)) (pR4 w b e0) ?_
  show Gets _ _ (codeAt [1, 1, 1, 0, 1] BP) _ _
  rw [pC1_1_1_0_1]; refine Gets.cond false (by kernel_rfl) (show evalX (KSt.ts (pS4 w b e0)) (.tmp 13) = .bool false by kernel_rfl) ?_; show Gets _ _ (codeAt [1, 1, 1, 0, 1, 1] BP) _ _
  refine Gets.ofN fitT looks_sound looks_agree 14 40 (by kernel_rfl) (x := .normal) (s' := (pS3 w b e0)) (pR5 w b e0) ?_
  show Gets _ _ (codeAt [1, 1, 1, 1] BP) _ _
  rw [pC1_1_1_1]; refine Gets.seq ?_
  rw [pC1_1_1_1_0]; refine Gets.seq ?_
  refine Gets.ofN fitT looks_sound looks_agree 14 40 (by kernel_rfl) (x := .normal) (s' := (pS5 w b e0)) (pR6 w b e0) ?_
  show Gets _ _ (codeAt [1, 1, 1, 1, 0, 1] BP) _ _
  rw [pC1_1_1_1_0_1]; refine Gets.block ?_
  refine Gets.ofN fitT looks_sound looks_agree 14 40 (by kernel_rfl) (x := .normal) (s' := (pS13 w b e0)) ((pR7 w b e0).trans (by rw [condT (h0), condT (k0), condT (h1), condT (k1), condF (h2)])) ?_
  show Gets _ _ (codeAt [1, 1, 1, 1, 1] BP) _ _
  rw [pC1_1_1_1_1]; refine Gets.seq ?_
  refine Gets.ofN fitT looks_sound looks_agree 14 40 (by kernel_rfl) (x := .normal) (s' := (pS18 w b e0)) (pR10 w b e0) ?_
  show Gets _ _ (codeAt [1, 1, 1, 1, 1, 1] BP) _ _
  rw [pC1_1_1_1_1_1]; refine Gets.ev fitT.mix fitT.cfg (fitT.sound looks_sound 14 0) 14 rfl (s' := KSt.low (pS18 w b e0)) (x := .ret) rfl ?_
  exact hq
noncomputable def pS19 (w : Int) (b : Int) (e0 : TypeId) : KSt := ⟨(frameL 25 [(4, (.slice (some ⟨1, 0, none⟩) 3 3))]), ⟨2, 1, [(1, 0, .cells [(.int .i64 (IntKind.wrap .i64 (Int.tdiv (tzV ((matchW w b))) 8))), (.int .i64 (IntKind.wrap .i64 (Int.tdiv (tzV ((nxt (matchW w b)))) 8))), (.int .i64 (IntKind.wrap .i64 (Int.tdiv (tzV ((nxt (nxt (matchW w b))))) 8)))] 3 true), (0, 0, .cells [(.int .u8 0), (.int .u8 1), (.int .u8 56), (.int .u8 2), (.int .u8 57), (.int .u8 49), (.int .u8 28), (.int .u8 3), (.int .u8 61), (.int .u8 58), (.int .u8 42), (.int .u8 50), (.int .u8 38), (.int .u8 29), (.int .u8 17), (.int .u8 4), (.int .u8 62), (.int .u8 47), (.int .u8 59), (.int .u8 36), (.int .u8 45), (.int .u8 43), (.int .u8 51), (.int .u8 22), (.int .u8 53), (.int .u8 39), (.int .u8 33), (.int .u8 30), (.int .u8 24), (.int .u8 18), (.int .u8 12), (.int .u8 5), (.int .u8 63), (.int .u8 55), (.int .u8 48), (.int .u8 27), (.int .u8 60), (.int .u8 41), (.int .u8 37), (.int .u8 16), (.int .u8 46), (.int .u8 35), (.int .u8 44), (.int .u8 21), (.int .u8 52), (.int .u8 32), (.int .u8 23), (.int .u8 11), (.int .u8 54), (.int .u8 26), (.int .u8 40), (.int .u8 15), (.int .u8 34), (.int .u8 20), (.int .u8 31), (.int .u8 10), (.int .u8 25), (.int .u8 14), (.int .u8 19), (.int .u8 9), (.int .u8 13), (.int .u8 8), (.int .u8 7), (.int .u8 6)] e0 false)]⟩⟩
theorem pR11 (w : Int) (b : Int) (e0 : TypeId) : evCK Tryd.prog cfgT (runK Tryd.prog cfgT fsT (conTk looksDom looksK) 14 40) 14 (codeAt [1, 1, 1, 1, 1, 0] BP) (pS12 w b e0) (normC 1 [4]) =
  some (.normal, (pS19 w b e0)) := by kernel_rfl
theorem r3 (w b : Int) (e0 : TypeId) (h0 : ((matchW w b) != 0) = true) (k0 : isMark (matchW w b) = true) (h1 : ((nxt (matchW w b)) != 0) = true) (k1 : isMark (nxt (matchW w b)) = true) (h2 : ((nxt (nxt (matchW w b))) != 0) = true) (k2 : isMark (nxt (nxt (matchW w b))) = true) (h3 : ((nxt (nxt (nxt (matchW w b)))) != 0) = false)   {Q : Ex → St → Prop} (hq : Q .ret (KSt.low (pS19 w b e0))) : Gets Tryd.prog (varH .u8 tz e0).low BP (KSt.low (pS0 w b e0)) Q := by
  rw [pC]; refine Gets.seq ?_
  refine Gets.ofN fitT looks_sound looks_agree 14 40 (by kernel_rfl) (x := .normal) (s' := (pS1 w b e0)) (pR1 w b e0) ?_
  show Gets _ _ (codeAt [1] BP) _ _
  rw [pC1]; refine Gets.seq ?_
  refine Gets.ofN fitT looks_sound looks_agree 14 40 (by kernel_rfl) (x := .normal) (s' := (pS2 w b e0)) (pR2 w b e0) ?_
  show Gets _ _ (codeAt [1, 1] BP) _ _
  rw [pC1_1]; refine Gets.seq ?_
  refine Gets.ofN fitT looks_sound looks_agree 14 40 (by kernel_rfl) (x := .normal) (s' := (pS3 w b e0)) (pR3 w b e0) ?_
  show Gets _ _ (codeAt [1, 1, 1] BP) _ _
  rw [pC1_1_1]; refine Gets.seq ?_
  rw [pC1_1_1_0]; refine Gets.seq ?_
  refine Gets.ofN fitT looks_sound looks_agree 14 40 (by kernel_rfl) (x := .normal) (s' := (pS4 w b e0)) (pR4 w b e0) ?_
  show Gets _ _ (codeAt [1, 1, 1, 0, 1] BP) _ _
  rw [pC1_1_1_0_1]; refine Gets.cond false (by kernel_rfl) (show evalX (KSt.ts (pS4 w b e0)) (.tmp 13) = .bool false by kernel_rfl) ?_; show Gets _ _ (codeAt [1, 1, 1, 0, 1, 1] BP) _ _
  refine Gets.ofN fitT looks_sound looks_agree 14 40 (by kernel_rfl) (x := .normal) (s' := (pS3 w b e0)) (pR5 w b e0) ?_
  show Gets _ _ (codeAt [1, 1, 1, 1] BP) _ _
  rw [pC1_1_1_1]; refine Gets.seq ?_
  rw [pC1_1_1_1_0]; refine Gets.seq ?_
  refine Gets.ofN fitT looks_sound looks_agree 14 40 (by kernel_rfl) (x := .normal) (s' := (pS5 w b e0)) (pR6 w b e0) ?_
  show Gets _ _ (codeAt [1, 1, 1, 1, 0, 1] BP) _ _
  rw [pC1_1_1_1_0_1]; refine Gets.block ?_
  refine Gets.ofN fitT looks_sound looks_agree 14 40 (by kernel_rfl) (x := .normal) (s' := (pS12 w b e0)) ((pR7 w b e0).trans (by rw [condT (h0), condT (k0), condT (h1), condT (k1), condT (h2), condT (k2), condF (h3)])) ?_
  show Gets _ _ (codeAt [1, 1, 1, 1, 1] BP) _ _
  rw [pC1_1_1_1_1]; refine Gets.seq ?_
  refine Gets.ofN fitT looks_sound looks_agree 14 40 (by kernel_rfl) (x := .normal) (s' := (pS19 w b e0)) (pR11 w b e0) ?_
  show Gets _ _ (codeAt [1, 1, 1, 1, 1, 1] BP) _ _
  rw [pC1_1_1_1_1_1]; refine Gets.ev fitT.mix fitT.cfg (fitT.sound looks_sound 14 0) 14 rfl (s' := KSt.low (pS19 w b e0)) (x := .ret) rfl ?_
  exact hq
noncomputable def pS20 (w : Int) (b : Int) (e0 : TypeId) : KSt := ⟨(frameL 25 [(4, (.slice (some ⟨1, 0, none⟩) 4 4))]), ⟨2, 1, [(1, 0, .cells [(.int .i64 (IntKind.wrap .i64 (Int.tdiv (tzV ((matchW w b))) 8))), (.int .i64 (IntKind.wrap .i64 (Int.tdiv (tzV ((nxt (matchW w b)))) 8))), (.int .i64 (IntKind.wrap .i64 (Int.tdiv (tzV ((nxt (nxt (matchW w b))))) 8))), (.int .i64 (IntKind.wrap .i64 (Int.tdiv (tzV ((nxt (nxt (nxt (matchW w b)))))) 8)))] 3 true), (0, 0, .cells [(.int .u8 0), (.int .u8 1), (.int .u8 56), (.int .u8 2), (.int .u8 57), (.int .u8 49), (.int .u8 28), (.int .u8 3), (.int .u8 61), (.int .u8 58), (.int .u8 42), (.int .u8 50), (.int .u8 38), (.int .u8 29), (.int .u8 17), (.int .u8 4), (.int .u8 62), (.int .u8 47), (.int .u8 59), (.int .u8 36), (.int .u8 45), (.int .u8 43), (.int .u8 51), (.int .u8 22), (.int .u8 53), (.int .u8 39), (.int .u8 33), (.int .u8 30), (.int .u8 24), (.int .u8 18), (.int .u8 12), (.int .u8 5), (.int .u8 63), (.int .u8 55), (.int .u8 48), (.int .u8 27), (.int .u8 60), (.int .u8 41), (.int .u8 37), (.int .u8 16), (.int .u8 46), (.int .u8 35), (.int .u8 44), (.int .u8 21), (.int .u8 52), (.int .u8 32), (.int .u8 23), (.int .u8 11), (.int .u8 54), (.int .u8 26), (.int .u8 40), (.int .u8 15), (.int .u8 34), (.int .u8 20), (.int .u8 31), (.int .u8 10), (.int .u8 25), (.int .u8 14), (.int .u8 19), (.int .u8 9), (.int .u8 13), (.int .u8 8), (.int .u8 7), (.int .u8 6)] e0 false)]⟩⟩
theorem pR12 (w : Int) (b : Int) (e0 : TypeId) : evCK Tryd.prog cfgT (runK Tryd.prog cfgT fsT (conTk looksDom looksK) 14 40) 14 (codeAt [1, 1, 1, 1, 1, 0] BP) (pS11 w b e0) (normC 1 [4]) =
  some (.normal, (pS20 w b e0)) := by kernel_rfl
theorem r4 (w b : Int) (e0 : TypeId) (h0 : ((matchW w b) != 0) = true) (k0 : isMark (matchW w b) = true) (h1 : ((nxt (matchW w b)) != 0) = true) (k1 : isMark (nxt (matchW w b)) = true) (h2 : ((nxt (nxt (matchW w b))) != 0) = true) (k2 : isMark (nxt (nxt (matchW w b))) = true) (h3 : ((nxt (nxt (nxt (matchW w b)))) != 0) = true) (k3 : isMark (nxt (nxt (nxt (matchW w b)))) = true) (h4 : ((nxt (nxt (nxt (nxt (matchW w b))))) != 0) = false)   {Q : Ex → St → Prop} (hq : Q .ret (KSt.low (pS20 w b e0))) : Gets Tryd.prog (varH .u8 tz e0).low BP (KSt.low (pS0 w b e0)) Q := by
  rw [pC]; refine Gets.seq ?_
  refine Gets.ofN fitT looks_sound looks_agree 14 40 (by kernel_rfl) (x := .normal) (s' := (pS1 w b e0)) (pR1 w b e0) ?_
  show Gets _ _ (codeAt [1] BP) _ _
  rw [pC1]; refine Gets.seq ?_
  refine Gets.ofN fitT looks_sound looks_agree 14 40 (by kernel_rfl) (x := .normal) (s' := (pS2 w b e0)) (pR2 w b e0) ?_
  show Gets _ _ (codeAt [1, 1] BP) _ _
  rw [pC1_1]; refine Gets.seq ?_
  refine Gets.ofN fitT looks_sound looks_agree 14 40 (by kernel_rfl) (x := .normal) (s' := (pS3 w b e0)) (pR3 w b e0) ?_
  show Gets _ _ (codeAt [1, 1, 1] BP) _ _
  rw [pC1_1_1]; refine Gets.seq ?_
  rw [pC1_1_1_0]; refine Gets.seq ?_
  refine Gets.ofN fitT looks_sound looks_agree 14 40 (by kernel_rfl) (x := .normal) (s' := (pS4 w b e0)) (pR4 w b e0) ?_
  show Gets _ _ (codeAt [1, 1, 1, 0, 1] BP) _ _
  rw [pC1_1_1_0_1]; refine Gets.cond false (by kernel_rfl) (show evalX (KSt.ts (pS4 w b e0)) (.tmp 13) = .bool false by kernel_rfl) ?_; show Gets _ _ (codeAt [1, 1, 1, 0, 1, 1] BP) _ _
  refine Gets.ofN fitT looks_sound looks_agree 14 40 (by kernel_rfl) (x := .normal) (s' := (pS3 w b e0)) (pR5 w b e0) ?_
  show Gets _ _ (codeAt [1, 1, 1, 1] BP) _ _
  rw [pC1_1_1_1]; refine Gets.seq ?_
  rw [pC1_1_1_1_0]; refine Gets.seq ?_
  refine Gets.ofN fitT looks_sound looks_agree 14 40 (by kernel_rfl) (x := .normal) (s' := (pS5 w b e0)) (pR6 w b e0) ?_
  show Gets _ _ (codeAt [1, 1, 1, 1, 0, 1] BP) _ _
  rw [pC1_1_1_1_0_1]; refine Gets.block ?_
  refine Gets.ofN fitT looks_sound looks_agree 14 40 (by kernel_rfl) (x := .normal) (s' := (pS11 w b e0)) ((pR7 w b e0).trans (by rw [condT (h0), condT (k0), condT (h1), condT (k1), condT (h2), condT (k2), condT (h3), condT (k3), condF (h4)])) ?_
  show Gets _ _ (codeAt [1, 1, 1, 1, 1] BP) _ _
  rw [pC1_1_1_1_1]; refine Gets.seq ?_
  refine Gets.ofN fitT looks_sound looks_agree 14 40 (by kernel_rfl) (x := .normal) (s' := (pS20 w b e0)) (pR12 w b e0) ?_
  show Gets _ _ (codeAt [1, 1, 1, 1, 1, 1] BP) _ _
  rw [pC1_1_1_1_1_1]; refine Gets.ev fitT.mix fitT.cfg (fitT.sound looks_sound 14 0) 14 rfl (s' := KSt.low (pS20 w b e0)) (x := .ret) rfl ?_
  exact hq
noncomputable def pS21 (w : Int) (b : Int) (e0 : TypeId) : KSt := ⟨(frameL 25 [(4, (.slice (some ⟨1, 0, none⟩) 5 5))]), ⟨2, 1, [(1, 0, .cells [(.int .i64 (IntKind.wrap .i64 (Int.tdiv (tzV ((matchW w b))) 8))), (.int .i64 (IntKind.wrap .i64 (Int.tdiv (tzV ((nxt (matchW w b)))) 8))), (.int .i64 (IntKind.wrap .i64 (Int.tdiv (tzV ((nxt (nxt (matchW w b))))) 8))), (.int .i64 (IntKind.wrap .i64 (Int.tdiv (tzV ((nxt (nxt (nxt (matchW w b)))))) 8))), (.int .i64 (IntKind.wrap .i64 (Int.tdiv (tzV ((nxt (nxt (nxt (nxt (matchW w b))))))) 8)))] 3 true), (0, 0, .cells [(.int .u8 0), (.int .u8 1), (.int .u8 56), (.int .u8 2), (.int .u8 57), (.int .u8 49), (.int .u8 28), (.int .u8 3), (.int .u8 61), (.int .u8 58), (.int .u8 42), (.int .u8 50), (.int .u8 38), (.int .u8 29), (.int .u8 17), (.int .u8 4), (.int .u8 62), (.int .u8 47), (.int .u8 59), (.int .u8 36), (.int .u8 45), (.int .u8 43), (.int .u8 51), (.int .u8 22), (.int .u8 53), (.int .u8 39), (.int .u8 33), (.int .u8 30), (.int .u8 24), (.int .u8 18), (.int .u8 12), (.int .u8 5), (.int .u8 63), (.int .u8 55), (.int .u8 48), (.int .u8 27), (.int .u8 60), (.int .u8 41), (.int .u8 37), (.int .u8 16), (.int .u8 46), (.int .u8 35), (.int .u8 44), (.int .u8 21), (.int .u8 52), (.int .u8 32), (.int .u8 23), (.int .u8 11), (.int .u8 54), (.int .u8 26), (.int .u8 40), (.int .u8 15), (.int .u8 34), (.int .u8 20), (.int .u8 31), (.int .u8 10), (.int .u8 25), (.int .u8 14), (.int .u8 19), (.int .u8 9), (.int .u8 13), (.int .u8 8), (.int .u8 7), (.int .u8 6)] e0 false)]⟩⟩
theorem pR13 (w : Int) (b : Int) (e0 : TypeId) : evCK Tryd.prog cfgT (runK Tryd.prog cfgT fsT (conTk looksDom looksK) 14 40) 14 (codeAt [1, 1, 1, 1, 1, 0] BP) (pS10 w b e0) (normC 1 [4]) =
  some (.normal, (pS21 w b e0)) := by kernel_rfl
theorem r5 (w b : Int) (e0 : TypeId) (h0 : ((matchW w b) != 0) = true) (k0 : isMark (matchW w b) = true) (h1 : ((nxt (matchW w b)) != 0) = true) (k1 : isMark (nxt (matchW w b)) = true) (h2 : ((nxt (nxt (matchW w b))) != 0) = true) (k2 : isMark (nxt (nxt (matchW w b))) = true) (h3 : ((nxt (nxt (nxt (matchW w b)))) != 0) = true) (k3 : isMark (nxt (nxt (nxt (matchW w b)))) = true) (h4 : ((nxt (nxt (nxt (nxt (matchW w b))))) != 0) = true) (k4 : isMark (nxt (nxt (nxt (nxt (matchW w b))))) = true) (h5 : ((nxt (nxt (nxt (nxt (nxt (matchW w b)))))) != 0) = false)   {Q : Ex → St → Prop} (hq : Q .ret (KSt.low (pS21 w b e0))) : Gets Tryd.prog (varH .u8 tz e0).low BP (KSt.low (pS0 w b e0)) Q := by
  rw [pC]; refine Gets.seq ?_
  refine Gets.ofN fitT looks_sound looks_agree 14 40 (by kernel_rfl) (x := .normal) (s' := (pS1 w b e0)) (pR1 w b e0) ?_
  show Gets _ _ (codeAt [1] BP) _ _
  rw [pC1]; refine Gets.seq ?_
  refine Gets.ofN fitT looks_sound looks_agree 14 40 (by kernel_rfl) (x := .normal) (s' := (pS2 w b e0)) (pR2 w b e0) ?_
  show Gets _ _ (codeAt [1, 1] BP) _ _
  rw [pC1_1]; refine Gets.seq ?_
  refine Gets.ofN fitT looks_sound looks_agree 14 40 (by kernel_rfl) (x := .normal) (s' := (pS3 w b e0)) (pR3 w b e0) ?_
  show Gets _ _ (codeAt [1, 1, 1] BP) _ _
  rw [pC1_1_1]; refine Gets.seq ?_
  rw [pC1_1_1_0]; refine Gets.seq ?_
  refine Gets.ofN fitT looks_sound looks_agree 14 40 (by kernel_rfl) (x := .normal) (s' := (pS4 w b e0)) (pR4 w b e0) ?_
  show Gets _ _ (codeAt [1, 1, 1, 0, 1] BP) _ _
  rw [pC1_1_1_0_1]; refine Gets.cond false (by kernel_rfl) (show evalX (KSt.ts (pS4 w b e0)) (.tmp 13) = .bool false by kernel_rfl) ?_; show Gets _ _ (codeAt [1, 1, 1, 0, 1, 1] BP) _ _
  refine Gets.ofN fitT looks_sound looks_agree 14 40 (by kernel_rfl) (x := .normal) (s' := (pS3 w b e0)) (pR5 w b e0) ?_
  show Gets _ _ (codeAt [1, 1, 1, 1] BP) _ _
  rw [pC1_1_1_1]; refine Gets.seq ?_
  rw [pC1_1_1_1_0]; refine Gets.seq ?_
  refine Gets.ofN fitT looks_sound looks_agree 14 40 (by kernel_rfl) (x := .normal) (s' := (pS5 w b e0)) (pR6 w b e0) ?_
  show Gets _ _ (codeAt [1, 1, 1, 1, 0, 1] BP) _ _
  rw [pC1_1_1_1_0_1]; refine Gets.block ?_
  refine Gets.ofN fitT looks_sound looks_agree 14 40 (by kernel_rfl) (x := .normal) (s' := (pS10 w b e0)) ((pR7 w b e0).trans (by rw [condT (h0), condT (k0), condT (h1), condT (k1), condT (h2), condT (k2), condT (h3), condT (k3), condT (h4), condT (k4), condF (h5)])) ?_
  show Gets _ _ (codeAt [1, 1, 1, 1, 1] BP) _ _
  rw [pC1_1_1_1_1]; refine Gets.seq ?_
  refine Gets.ofN fitT looks_sound looks_agree 14 40 (by kernel_rfl) (x := .normal) (s' := (pS21 w b e0)) (pR13 w b e0) ?_
  show Gets _ _ (codeAt [1, 1, 1, 1, 1, 1] BP) _ _
  rw [pC1_1_1_1_1_1]; refine Gets.ev fitT.mix fitT.cfg (fitT.sound looks_sound 14 0) 14 rfl (s' := KSt.low (pS21 w b e0)) (x := .ret) rfl ?_
  exact hq
noncomputable def pS22 (w : Int) (b : Int) (e0 : TypeId) : KSt := ⟨(frameL 25 [(4, (.slice (some ⟨1, 0, none⟩) 6 6))]), ⟨2, 1, [(1, 0, .cells [(.int .i64 (IntKind.wrap .i64 (Int.tdiv (tzV ((matchW w b))) 8))), (.int .i64 (IntKind.wrap .i64 (Int.tdiv (tzV ((nxt (matchW w b)))) 8))), (.int .i64 (IntKind.wrap .i64 (Int.tdiv (tzV ((nxt (nxt (matchW w b))))) 8))), (.int .i64 (IntKind.wrap .i64 (Int.tdiv (tzV ((nxt (nxt (nxt (matchW w b)))))) 8))), (.int .i64 (IntKind.wrap .i64 (Int.tdiv (tzV ((nxt (nxt (nxt (nxt (matchW w b))))))) 8))), (.int .i64 (IntKind.wrap .i64 (Int.tdiv (tzV ((nxt (nxt (nxt (nxt (nxt (matchW w b)))))))) 8)))] 3 true), (0, 0, .cells [(.int .u8 0), (.int .u8 1), (.int .u8 56), (.int .u8 2), (.int .u8 57), (.int .u8 49), (.int .u8 28), (.int .u8 3), (.int .u8 61), (.int .u8 58), (.int .u8 42), (.int .u8 50), (.int .u8 38), (.int .u8 29), (.int .u8 17), (.int .u8 4), (.int .u8 62), (.int .u8 47), (.int .u8 59), (.int .u8 36), (.int .u8 45), (.int .u8 43), (.int .u8 51), (.int .u8 22), (.int .u8 53), (.int .u8 39), (.int .u8 33), (.int .u8 30), (.int .u8 24), (.int .u8 18), (.int .u8 12), (.int .u8 5), (.int .u8 63), (.int .u8 55), (.int .u8 48), (.int .u8 27), (.int .u8 60), (.int .u8 41), (.int .u8 37), (.int .u8 16), (.int .u8 46), (.int .u8 35), (.int .u8 44), (.int .u8 21), (.int .u8 52), (.int .u8 32), (.int .u8 23), (.int .u8 11), (.int .u8 54), (.int .u8 26), (.int .u8 40), (.int .u8 15), (.int .u8 34), (.int .u8 20), (.int .u8 31), (.int .u8 10), (.int .u8 25), (.int .u8 14), (.int .u8 19), (.int .u8 9), (.int .u8 13), (.int .u8 8), (.int .u8 7), (.int .u8 6)] e0 false)]⟩⟩
theorem pR14 (w : Int) (b : Int) (e0 : TypeId) : evCK Tryd.prog cfgT (runK Tryd.prog cfgT fsT (conTk looksDom looksK) 14 40) 14 (codeAt [1, 1, 1, 1, 1, 0] BP) (pS9 w b e0) (normC 1 [4]) =
  some (.normal, (pS22 w b e0)) := by kernel_rfl
theorem r6 (w b : Int) (e0 : TypeId) (h0 : ((matchW w b) != 0) = true) (k0 : isMark (matchW w b) = true) (h1 : ((nxt (matchW w b)) != 0) = true) (k1 : isMark (nxt (matchW w b)) = true) (h2 : ((nxt (nxt (matchW w b))) != 0) = true) (k2 : isMark (nxt (nxt (matchW w b))) = true) (h3 : ((nxt (nxt (nxt (matchW w b)))) != 0) = true) (k3 : isMark (nxt (nxt (nxt (matchW w b)))) = true) (h4 : ((nxt (nxt (nxt (nxt (matchW w b))))) != 0) = true) (k4 : isMark (nxt (nxt (nxt (nxt (matchW w b))))) = true) (h5 : ((nxt (nxt (nxt (nxt (nxt (matchW w b)))))) != 0) = true) (k5 : isMark (nxt (nxt (nxt (nxt (nxt (matchW w b)))))) = true) (h6 : ((nxt (nxt (nxt (nxt (nxt (nxt (matchW w b))))))) != 0) = false)   {Q : Ex → St → Prop} (hq : Q .ret (KSt.low (pS22 w b e0))) : Gets Tryd.prog (varH .u8 tz e0).low BP (KSt.low (pS0 w b e0)) Q := by
  rw [pC]; refine Gets.seq ?_
  refine Gets.ofN fitT looks_sound looks_agree 14 40 (by kernel_rfl) (x := .normal) (s' := (pS1 w b e0)) (pR1 w b e0) ?_
  show Gets _ _ (codeAt [1] BP) _ _
  rw [pC1]; refine Gets.seq ?_
  refine Gets.ofN fitT looks_sound looks_agree 14 40 (by kernel_rfl) (x := .normal) (s' := (pS2 w b e0)) (pR2 w b e0) ?_
  show Gets _ _ (codeAt [1, 1] BP) _ _
  rw [pC1_1]; refine Gets.seq ?_
  refine Gets.ofN fitT looks_sound looks_agree 14 40 (by kernel_rfl) (x := .normal) (s' := (pS3 w b e0)) (pR3 w b e0) ?_
  show Gets _ _ (codeAt [1, 1, 1] BP) _ _
  rw [pC1_1_1]; refine Gets.seq ?_
  rw [pC1_1_1_0]; refine Gets.seq ?_
  refine Gets.ofN fitT looks_sound looks_agree 14 40 (by kernel_rfl) (x := .normal) (s' := (pS4 w b e0)) (pR4 w b e0) ?_
  show Gets _ _ (codeAt [1, 1, 1, 0, 1] BP) _ _
  rw [pC1_1_1_0_1]; refine Gets.cond false (by kernel_rfl) (show evalX (KSt.ts (pS4 w b e0)) (.tmp 13) = .bool false by kernel_rfl) ?_; show Gets _ _ (codeAt [1, 1, 1, 0, 1, 1] BP) _ _
  refine Gets.ofN fitT looks_sound looks_agree 14 40 (by kernel_rfl) (x := .normal) (s' := (pS3 w b e0)) (pR5 w b e0) ?_
  show Gets _ _ (codeAt [1, 1, 1, 1] BP) _ _
  rw [pC1_1_1_1]; refine Gets.seq ?_
  rw [pC1_1_1_1_0]; refine Gets.seq ?_
  refine Gets.ofN fitT looks_sound looks_agree 14 40 (by kernel_rfl) (x := .normal) (s' := (pS5 w b e0)) (pR6 w b e0) ?_
  show Gets _ _ (codeAt [1, 1, 1, 1, 0, 1] BP) _ _
  rw [pC1_1_1_1_0_1]; refine Gets.block ?_
  refine Gets.ofN fitT looks_sound looks_agree 14 40 (by kernel_rfl) (x := .normal) (s' := (pS9 w b e0)) ((pR7 w b e0).trans (by rw [condT (h0), condT (k0), condT (h1), condT (k1), condT (h2), condT (k2), condT (h3), condT (k3), condT (h4), condT (k4), condT (h5), condT (k5), condF (h6)])) ?_
  show Gets _ _ (codeAt [1, 1, 1, 1, 1] BP) _ _
  rw [pC1_1_1_1_1]; refine Gets.seq ?_
  refine Gets.ofN fitT looks_sound looks_agree 14 40 (by kernel_rfl) (x := .normal) (s' := (pS22 w b e0)) (pR14 w b e0) ?_
  show Gets _ _ (codeAt [1, 1, 1, 1, 1, 1] BP) _ _
  rw [pC1_1_1_1_1_1]; refine Gets.ev fitT.mix fitT.cfg (fitT.sound looks_sound 14 0) 14 rfl (s' := KSt.low (pS22 w b e0)) (x := .ret) rfl ?_
  exact hq
noncomputable def pS23 (w : Int) (b : Int) (e0 : TypeId) : KSt := ⟨(frameL 25 [(4, (.slice (some ⟨1, 0, none⟩) 7 7))]), ⟨2, 1, [(1, 0, .cells [(.int .i64 (IntKind.wrap .i64 (Int.tdiv (tzV ((matchW w b))) 8))), (.int .i64 (IntKind.wrap .i64 (Int.tdiv (tzV ((nxt (matchW w b)))) 8))), (.int .i64 (IntKind.wrap .i64 (Int.tdiv (tzV ((nxt (nxt (matchW w b))))) 8))), (.int .i64 (IntKind.wrap .i64 (Int.tdiv (tzV ((nxt (nxt (nxt (matchW w b)))))) 8))), (.int .i64 (IntKind.wrap .i64 (Int.tdiv (tzV ((nxt (nxt (nxt (nxt (matchW w b))))))) 8))), (.int .i64 (IntKind.wrap .i64 (Int.tdiv (tzV ((nxt (nxt (nxt (nxt (nxt (matchW w b)))))))) 8))), (.int .i64 (IntKind.wrap .i64 (Int.tdiv (tzV ((nxt (nxt (nxt (nxt (nxt (nxt (matchW w b))))))))) 8)))] 3 true), (0, 0, .cells [(.int .u8 0), (.int .u8 1), (.int .u8 56), (.int .u8 2), (.int .u8 57), (.int .u8 49), (.int .u8 28), (.int .u8 3), (.int .u8 61), (.int .u8 58), (.int .u8 42), (.int .u8 50), (.int .u8 38), (.int .u8 29), (.int .u8 17), (.int .u8 4), (.int .u8 62), (.int .u8 47), (.int .u8 59), (.int .u8 36), (.int .u8 45), (.int .u8 43), (.int .u8 51), (.int .u8 22), (.int .u8 53), (.int .u8 39), (.int .u8 33), (.int .u8 30), (.int .u8 24), (.int .u8 18), (.int .u8 12), (.int .u8 5), (.int .u8 63), (.int .u8 55), (.int .u8 48), (.int .u8 27), (.int .u8 60), (.int .u8 41), (.int .u8 37), (.int .u8 16), (.int .u8 46), (.int .u8 35), (.int .u8 44), (.int .u8 21), (.int .u8 52), (.int .u8 32), (.int .u8 23), (.int .u8 11), (.int .u8 54), (.int .u8 26), (.int .u8 40), (.int .u8 15), (.int .u8 34), (.int .u8 20), (.int .u8 31), (.int .u8 10), (.int .u8 25), (.int .u8 14), (.int .u8 19), (.int .u8 9), (.int .u8 13), (.int .u8 8), (.int .u8 7), (.int .u8 6)] e0 false)]⟩⟩
theorem pR15 (w : Int) (b : Int) (e0 : TypeId) : evCK Tryd.prog cfgT (runK Tryd.prog cfgT fsT (conTk looksDom looksK) 14 40) 14 (codeAt [1, 1, 1, 1, 1, 0] BP) (pS8 w b e0) (normC 1 [4]) =
  some (.normal, (pS23 w b e0)) := by kernel_rfl
theorem r7 (w b : Int) (e0 : TypeId) (h0 : ((matchW w b) != 0) = true) (k0 : isMark (matchW w b) = true) (h1 : ((nxt (matchW w b)) != 0) = true) (k1 : isMark (nxt (matchW w b)) = true) (h2 : ((nxt (nxt (matchW w b))) != 0) = true) (k2 : isMark (nxt (nxt (matchW w b))) = true) (h3 : ((nxt (nxt (nxt (matchW w b)))) != 0) = true) (k3 : isMark (nxt (nxt (nxt (matchW w b)))) = true) (h4 : ((nxt (nxt (nxt (nxt (matchW w b))))) != 0) = true) (k4 : isMark (nxt (nxt (nxt (nxt (matchW w b))))) = true) (h5 : ((nxt (nxt (nxt (nxt (nxt (matchW w b)))))) != 0) = true) (k5 : isMark (nxt (nxt (nxt (nxt (nxt (matchW w b)))))) = true) (h6 : ((nxt (nxt (nxt (nxt (nxt (nxt (matchW w b))))))) != 0) = true) (k6 : isMark (nxt (nxt (nxt (nxt (nxt (nxt (matchW w b))))))) = true) (h7 : ((nxt (nxt (nxt (nxt (nxt (nxt (nxt (matchW w b)))))))) != 0) = false)   {Q : Ex → St → Prop} (hq : Q .ret (KSt.low (pS23 w b e0))) : Gets Tryd.prog (varH .u8 tz e0).low BP (KSt.low (pS0 w b e0)) Q := by
  rw [pC]; refine Gets.seq ?_
  refine Gets.ofN fitT looks_sound looks_agree 14 40 (by kernel_rfl) (x := .normal) (s' := (pS1 w b e0)) (pR1 w b e0) ?_
  show Gets _ _ (codeAt [1] BP) _ _
  rw [pC1]; refine Gets.seq ?_
  refine Gets.ofN fitT looks_sound looks_agree 14 40 (by kernel_rfl) (x := .normal) (s' := (pS2 w b e0)) (pR2 w b e0) ?_
  show Gets _ _ (codeAt [1, 1] BP) _ _
  rw [pC1_1]; refine Gets.seq ?_
  refine Gets.ofN fitT looks_sound looks_agree 14 40 (by kernel_rfl) (x := .normal) (s' := (pS3 w b e0)) (pR3 w b e0) ?_
  show Gets _ _ (codeAt [1, 1, 1] BP) _ _
  rw [pC1_1_1]; refine Gets.seq ?_
  rw [pC1_1_1_0]; refine Gets.seq ?_
  refine Gets.ofN fitT looks_sound looks_agree 14 40 (by kernel_rfl) (x := .normal) (s' := (pS4 w b e0)) (pR4 w b e0) ?_
  show Gets _ _ (codeAt [1, 1, 1, 0, 1] BP) _ _
  rw [pC1_1_1_0_1]; refine Gets.cond false (by kernel_rfl) (show evalX (KSt.ts (pS4 w b e0)) (.tmp 13) = .bool false by kernel_rfl) ?_; show Gets _ _ (codeAt [1, 1, 1, 0, 1, 1] BP) _ _
  refine Gets.ofN fitT looks_sound looks_agree 14 40 (by kernel_rfl) (x := .normal) (s' := (pS3 w b e0)) (pR5 w b e0) ?_
  show Gets _ _ (codeAt [1, 1, 1, 1] BP) _ _
  rw [pC1_1_1_1]; refine Gets.seq ?_
  rw [pC1_1_1_1_0]; refine Gets.seq ?_
  refine Gets.ofN fitT looks_sound looks_agree 14 40 (by kernel_rfl) (x := .normal) (s' := (pS5 w b e0)) (pR6 w b e0) ?_
  show Gets _ _ (codeAt [1, 1, 1, 1, 0, 1] BP) _ _
  rw [pC1_1_1_1_0_1]; refine Gets.block ?_
  refine Gets.ofN fitT looks_sound looks_agree 14 40 (by kernel_rfl) (x := .normal) (s' := (pS8 w b e0)) ((pR7 w b e0).trans (by rw [condT (h0), condT (k0), condT (h1), condT (k1), condT (h2), condT (k2), condT (h3), condT (k3), condT (h4), condT (k4), condT (h5), condT (k5), condT (h6), condT (k6), condF (h7)])) ?_
  show Gets _ _ (codeAt [1, 1, 1, 1, 1] BP) _ _
  rw [pC1_1_1_1_1]; refine Gets.seq ?_
  refine Gets.ofN fitT looks_sound looks_agree 14 40 (by kernel_rfl) (x := .normal) (s' := (pS23 w b e0)) (pR15 w b e0) ?_
  show Gets _ _ (codeAt [1, 1, 1, 1, 1, 1] BP) _ _
  rw [pC1_1_1_1_1_1]; refine Gets.ev fitT.mix fitT.cfg (fitT.sound looks_sound 14 0) 14 rfl (s' := KSt.low (pS23 w b e0)) (x := .ret) rfl ?_
  exact hq
noncomputable def pS24 (w : Int) (b : Int) (e0 : TypeId) : KSt := ⟨(frameL 25 [(4, (.slice (some ⟨1, 0, none⟩) 8 8))]), ⟨2, 1, [(1, 0, .cells [(.int .i64 (IntKind.wrap .i64 (Int.tdiv (tzV ((matchW w b))) 8))), (.int .i64 (IntKind.wrap .i64 (Int.tdiv (tzV ((nxt (matchW w b)))) 8))), (.int .i64 (IntKind.wrap .i64 (Int.tdiv (tzV ((nxt (nxt (matchW w b))))) 8))), (.int .i64 (IntKind.wrap .i64 (Int.tdiv (tzV ((nxt (nxt (nxt (matchW w b)))))) 8))), (.int .i64 (IntKind.wrap .i64 (Int.tdiv (tzV ((nxt (nxt (nxt (nxt (matchW w b))))))) 8))), (.int .i64 (IntKind.wrap .i64 (Int.tdiv (tzV ((nxt (nxt (nxt (nxt (nxt (matchW w b)))))))) 8))), (.int .i64 (IntKind.wrap .i64 (Int.tdiv (tzV ((nxt (nxt (nxt (nxt (nxt (nxt (matchW w b))))))))) 8))), (.int .i64 (IntKind.wrap .i64 (Int.tdiv (tzV ((nxt (nxt (nxt (nxt (nxt (nxt (nxt (matchW w b)))))))))) 8)))] 3 true), (0, 0, .cells [(.int .u8 0), (.int .u8 1), (.int .u8 56), (.int .u8 2), (.int .u8 57), (.int .u8 49), (.int .u8 28), (.int .u8 3), (.int .u8 61), (.int .u8 58), (.int .u8 42), (.int .u8 50), (.int .u8 38), (.int .u8 29), (.int .u8 17), (.int .u8 4), (.int .u8 62), (.int .u8 47), (.int .u8 59), (.int .u8 36), (.int .u8 45), (.int .u8 43), (.int .u8 51), (.int .u8 22), (.int .u8 53), (.int .u8 39), (.int .u8 33), (.int .u8 30), (.int .u8 24), (.int .u8 18), (.int .u8 12), (.int .u8 5), (.int .u8 63), (.int .u8 55), (.int .u8 48), (.int .u8 27), (.int .u8 60), (.int .u8 41), (.int .u8 37), (.int .u8 16), (.int .u8 46), (.int .u8 35), (.int .u8 44), (.int .u8 21), (.int .u8 52), (.int .u8 32), (.int .u8 23), (.int .u8 11), (.int .u8 54), (.int .u8 26), (.int .u8 40), (.int .u8 15), (.int .u8 34), (.int .u8 20), (.int .u8 31), (.int .u8 10), (.int .u8 25), (.int .u8 14), (.int .u8 19), (.int .u8 9), (.int .u8 13), (.int .u8 8), (.int .u8 7), (.int .u8 6)] e0 false)]⟩⟩
theorem pR16 (w : Int) (b : Int) (e0 : TypeId) : evCK Tryd.prog cfgT (runK Tryd.prog cfgT fsT (conTk looksDom looksK) 14 40) 14 (codeAt [1, 1, 1, 1, 1, 0] BP) (pS7 w b e0) (normC 1 [4]) =
  some (.normal, (pS24 w b e0)) := by kernel_rfl
theorem r8 (w b : Int) (e0 : TypeId) (h0 : ((matchW w b) != 0) = true) (k0 : isMark (matchW w b) = true) (h1 : ((nxt (matchW w b)) != 0) = true) (k1 : isMark (nxt (matchW w b)) = true) (h2 : ((nxt (nxt (matchW w b))) != 0) = true) (k2 : isMark (nxt (nxt (matchW w b))) = true) (h3 : ((nxt (nxt (nxt (matchW w b)))) != 0) = true) (k3 : isMark (nxt (nxt (nxt (matchW w b)))) = true) (h4 : ((nxt (nxt (nxt (nxt (matchW w b))))) != 0) = true) (k4 : isMark (nxt (nxt (nxt (nxt (matchW w b))))) = true) (h5 : ((nxt (nxt (nxt (nxt (nxt (matchW w b)))))) != 0) = true) (k5 : isMark (nxt (nxt (nxt (nxt (nxt (matchW w b)))))) = true) (h6 : ((nxt (nxt (nxt (nxt (nxt (nxt (matchW w b))))))) != 0) = true) (k6 : isMark (nxt (nxt (nxt (nxt (nxt (nxt (matchW w b))))))) = true) (h7 : ((nxt (nxt (nxt (nxt (nxt (nxt (nxt (matchW w b)))))))) != 0) = true) (k7 : isMark (nxt (nxt (nxt (nxt (nxt (nxt (nxt (matchW w b)))))))) = true) (h8 : ((nxt (nxt (nxt (nxt (nxt (nxt (nxt (nxt (matchW w b))))))))) != 0) = false)   {Q : Ex → St → Prop} (hq : Q .ret (KSt.low (pS24 w b e0))) : Gets Tryd.prog (varH .u8 tz e0).low BP (KSt.low (pS0 w b e0)) Q := by
  rw [pC]; refine Gets.seq ?_
  refine Gets.ofN fitT looks_sound looks_agree 14 40 (by kernel_rfl) (x := .normal) (s' := (pS1 w b e0)) (pR1 w b e0) ?_
  show Gets _ _ (codeAt [1] BP) _ _
  rw [pC1]; refine Gets.seq ?_
  refine Gets.ofN fitT looks_sound looks_agree 14 40 (by kernel_rfl) (x := .normal) (s' := (pS2 w b e0)) (pR2 w b e0) ?_
  show Gets _ _ (codeAt [1, 1] BP) _ _
  rw [pC1_1]; refine Gets.seq ?_
  refine Gets.ofN fitT looks_sound looks_agree 14 40 (by kernel_rfl) (x := .normal) (s' := (pS3 w b e0)) (pR3 w b e0) ?_
  show Gets _ _ (codeAt [1, 1, 1] BP) _ _
  rw [pC1_1_1]; refine Gets.seq ?_
  rw [pC1_1_1_0]; refine Gets.seq ?_
  refine Gets.ofN fitT looks_sound looks_agree 14 40 (by kernel_rfl) (x := .normal) (s' := (pS4 w b e0)) (pR4 w b e0) ?_
  show Gets _ _ (codeAt [1, 1, 1, 0, 1] BP) _ _
  rw [pC1_1_1_0_1]; refine Gets.cond false (by kernel_rfl) (show evalX (KSt.ts (pS4 w b e0)) (.tmp 13) = .bool false by kernel_rfl) ?_; show Gets _ _ (codeAt [1, 1, 1, 0, 1, 1] BP) _ _
  refine Gets.ofN fitT looks_sound looks_agree 14 40 (by kernel_rfl) (x := .normal) (s' := (pS3 w b e0)) (pR5 w b e0) ?_
  show Gets _ _ (codeAt [1, 1, 1, 1] BP) _ _
  rw [pC1_1_1_1]; refine Gets.seq ?_
  rw [pC1_1_1_1_0]; refine Gets.seq ?_
  refine Gets.ofN fitT looks_sound looks_agree 14 40 (by kernel_rfl) (x := .normal) (s' := (pS5 w b e0)) (pR6 w b e0) ?_
  show Gets _ _ (codeAt [1, 1, 1, 1, 0, 1] BP) _ _
  rw [pC1_1_1_1_0_1]; refine Gets.block ?_
  refine Gets.ofN fitT looks_sound looks_agree 14 40 (by kernel_rfl) (x := .normal) (s' := (pS7 w b e0)) ((pR7 w b e0).trans (by rw [condT (h0), condT (k0), condT (h1), condT (k1), condT (h2), condT (k2), condT (h3), condT (k3), condT (h4), condT (k4), condT (h5), condT (k5), condT (h6), condT (k6), condT (h7), condT (k7), condF (h8)])) ?_
  show Gets _ _ (codeAt [1, 1, 1, 1, 1] BP) _ _
  rw [pC1_1_1_1_1]; refine Gets.seq ?_
  refine Gets.ofN fitT looks_sound looks_agree 14 40 (by kernel_rfl) (x := .normal) (s' := (pS24 w b e0)) (pR16 w b e0) ?_
  show Gets _ _ (codeAt [1, 1, 1, 1, 1, 1] BP) _ _
  rw [pC1_1_1_1_1_1]; refine Gets.ev fitT.mix fitT.cfg (fitT.sound looks_sound 14 0) 14 rfl (s' := KSt.low (pS24 w b e0)) (x := .ret) rfl ?_
  exact hq
end Go.Proofs.YteafenadjidkdaaDoor.places
