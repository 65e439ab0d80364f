/- Whatever the number of threads: DeskApart answers true. -/
import Derived.Test.YtmphcolclkpnnaaDoorCards
import Derived.Test.YtmphcolclkpnnaaDoorTie
import Derived.Test.YtmphcolclkpnnaaDoorDesk
import Derived.WalkKit
import Derived.ProofKit
import Derived.OpenShut
import Derived.ChangeOld
import Derived.Below
import Derived.SizedLaws
namespace Go.Proofs.YtmphcolclkpnnaaDoor.deskApart
open Go.Eng
open Go.ChangeShapes Go.WideShapes Go.ChangeAt Go.RowKit
set_option linter.unusedVariables false
set_option linter.unusedSimpArgs false
set_option maxRecDepth 100000
noncomputable def cfgT : Cfg := ⟨[]⟩
noncomputable def fsT : List FuncId := [4, 6, 16, 23, 24]
theorem fitT : Fit Tryd.prog cfgT fsT := ⟨by kernel_rfl, Cfg.ok_of (by kernel_rfl), by kernel_rfl⟩
/-- How often each cell was somebody's, behind some threads. -/
structure Had (n t : Int) (L : List Int) : Prop where
  len : L.length = Int.toNat (2 + (2 * n))
  val : ∀ i : Nat, L.getD i 0 = if 2 ≤ i ∧ (i : Int) < 2 + 2 * t then 1 else 0
theorem had0 {n : Int} : Had n 0 (List.replicate (Int.toNat (2 + (2 * n))) 0) where
  len := List.length_replicate
  val := fun i => by
    rw [if_neg (by omega), List.getD_eq_getElem?_getD, List.getElem?_replicate]
    split <;> rfl
theorem getD_set {l : List Int} {k i : Nat} {v : Int} : (l.set k v).getD i 0 = if k = i ∧ i < l.length then v else l.getD i 0 := by
  rw [List.getD_eq_getElem?_getD, List.getD_eq_getElem?_getD, List.getElem?_set]
  by_cases h : k = i
  · subst h
    by_cases h2 : k < l.length
    · rw [if_pos rfl, if_pos h2, if_pos ⟨rfl, h2⟩]; rfl
    · rw [if_pos rfl, if_neg h2, if_neg (fun q => h2 q.2), List.getElem?_eq_none (by omega)]
  · rw [if_neg h, if_neg (fun q => h q.1)]
theorem had1 {n t : Int} {L : List Int} (h : Had n t L) (ht : 0 ≤ t) (htn : t < n) : Had n (t + 1) (List.set (List.set L (0 + ((Int.toNat (2 + 2 * t)) * 1)) (0 + 1)) (0 + ((Int.toNat (3 + 2 * t)) * 1)) (0 + 1)) where
  len := by rw [List.length_set, List.length_set]; exact h.len
  val := fun i => by
    have hl := h.len
    rw [getD_set, getD_set, List.length_set, h.val]
    by_cases a : 0 + Int.toNat (3 + 2 * t) * 1 = i ∧ i < L.length
    · rw [if_pos a, if_pos (by omega)]; rfl
    · rw [if_neg a]
      by_cases b : 0 + Int.toNat (2 + 2 * t) * 1 = i ∧ i < L.length
      · rw [if_pos b, if_pos (by omega)]; rfl
      · rw [if_neg b]
        by_cases c : 2 ≤ i ∧ (i : Int) < 2 + 2 * t
        · rw [if_pos c, if_pos (by omega)]
        · rw [if_neg c, if_neg (by omega)]
theorem hadz0 {n t : Int} {L : List Int} (h : Had n t L) (ht : 0 ≤ t) : L.getD (0 + ((Int.toNat (2 + 2 * t)) * 1)) 0 = 0 := by rw [h.val, if_neg (by omega)]
theorem hadz1 {n t : Int} {L : List Int} (h : Had n t L) (ht : 0 ≤ t) : (List.set L (0 + ((Int.toNat (2 + 2 * t)) * 1)) (0 + 1)).getD (0 + ((Int.toNat (3 + 2 * t)) * 1)) 0 = 0 := by
  rw [getD_set, if_neg (by omega), h.val, if_neg (by omega)]
theorem hadv {n j : Int} {L : List Int} (h : Had n n L) (hj : 2 ≤ j) (hj2 : j < 2 + 2 * n) : L.getD (0 + ((Int.toNat j) * 1)) 0 = 1 := by rw [h.val, if_pos (by omega)]
noncomputable def B : Code := bodyOf Tryd.prog 4
theorem B_is : Tryd.f4.body = some B := by kernel_rfl
theorem B_ok : okCode Tryd.prog.globals.size B = true := by kernel_rfl
noncomputable def S0 (th : Int) (e0 : TypeId) : KSt := (firstK [(.int .u8 th)] 124 ⟨1, 1, [(0, 0, .cells [(.int .i64 1), (.int .i64 64), (.int .i64 1), (.int .i64 64)] e0 false)]⟩)
theorem C : B = .seq (codeAt [0] B) (codeAt [1] B) := by kernel_rfl
noncomputable def S1 (th : Int) (e0 : TypeId) : KSt := ⟨(frameL 124 [(0, (.int .u8 th))]), ⟨1, 1, [(0, 0, .cells [(.int .i64 1), (.int .i64 64), (.int .i64 1), (.int .i64 64)] e0 false)]⟩⟩
theorem R1 (th : Int) (e0 : TypeId) : evCK Tryd.prog cfgT (runK Tryd.prog cfgT fsT (conT deskDom deskE) 12 40) 12 (codeAt [0] B) (S0 th e0) (normC 1 [0]) =
  some (.normal, (S1 th e0)) := by kernel_rfl
theorem C1 : (codeAt [1] B) = .seq (codeAt [1, 0] B) (codeAt [1, 1] B) := by kernel_rfl
noncomputable def S2 (th : Int) (e0 : TypeId) : KSt := ⟨(frameL 124 [(3, (.int .i64 (IntKind.wrap .i64 ((Int.tmod (IntKind.wrap .i64 th) 64) + 1))))]), ⟨1, 1, [(0, 0, .cells [(.int .i64 1), (.int .i64 64), (.int .i64 1), (.int .i64 64)] e0 false)]⟩⟩
theorem R2 (th : Int) (e0 : TypeId) : evCK Tryd.prog cfgT (runK Tryd.prog cfgT fsT (conT deskDom deskE) 12 40) 12 (codeAt [1, 0] B) (S1 th e0) (normC 1 [3]) =
  some (.normal, (S2 th e0)) := by kernel_rfl
noncomputable def S3 (n : Int) (e0 : TypeId) : KSt := ⟨(frameL 124 [(3, (.int .i64 n))]), ⟨1, 1, [(0, 0, .cells [(.int .i64 1), (.int .i64 64), (.int .i64 1), (.int .i64 64)] e0 false)]⟩⟩
theorem C1_1 : (codeAt [1, 1] B) = .seq (codeAt [1, 1, 0] B) (codeAt [1, 1, 1] B) := by kernel_rfl
noncomputable def S4 (n : Int) (e0 : TypeId) : KSt := ⟨(frameL 124 [(3, (.int .i64 n)), (4, (.slice (some ⟨1, 0, none⟩) (Int.toNat ((IntKind.wrap .i64 (2 + (IntKind.wrap .i64 (2 * n)))))) (Int.toNat ((IntKind.wrap .i64 (2 + (IntKind.wrap .i64 (2 * n))))))))]), ⟨2, 1, [(1, 0, .ints .i64 ((List.replicate (Int.toNat ((IntKind.wrap .i64 (2 + (IntKind.wrap .i64 (2 * n)))))) 0)) 3 true), (0, 0, .cells [(.int .i64 1), (.int .i64 64), (.int .i64 1), (.int .i64 64)] e0 false)]⟩⟩
theorem R3 (n : Int) (e0 : TypeId) : evCK Tryd.prog cfgT (runK Tryd.prog cfgT fsT (conT deskDom deskE) 12 40) 12 (codeAt [1, 1, 0] B) (S3 n e0) (normC 1 [3, 4]) =
  if 0 ≤ (IntKind.wrap .i64 (2 + (IntKind.wrap .i64 (2 * n)))) ∧ (IntKind.wrap .i64 (2 + (IntKind.wrap .i64 (2 * n)))) ≤ (IntKind.wrap .i64 (2 + (IntKind.wrap .i64 (2 * n)))) ∧ ((8 : Int) * (IntKind.wrap .i64 (2 + (IntKind.wrap .i64 (2 * n))))) ≤ 1099511627776 ∧ (IntKind.wrap .i64 (2 + (IntKind.wrap .i64 (2 * n)))) ≤ 1099511627776 then
    some (.normal, (S4 n e0))
  else
    none := by kernel_rfl
noncomputable def S5 (n : Int) (e0 : TypeId) : KSt := ⟨(frameL 124 [(3, (.int .i64 n)), (4, (.slice (some ⟨1, 0, none⟩) (Int.toNat (2 + (2 * n))) (Int.toNat (2 + (2 * n)))))]), ⟨2, 1, [(1, 0, .ints .i64 ((List.replicate (Int.toNat (2 + (2 * n))) 0)) 3 true), (0, 0, .cells [(.int .i64 1), (.int .i64 64), (.int .i64 1), (.int .i64 64)] e0 false)]⟩⟩
theorem C1_1_1 : (codeAt [1, 1, 1] B) = .seq (codeAt [1, 1, 1, 0] B) (codeAt [1, 1, 1, 1] B) := by kernel_rfl
theorem C1_1_1_0 : (codeAt [1, 1, 1, 0] B) = .seq (codeAt [1, 1, 1, 0, 0] B) (codeAt [1, 1, 1, 0, 1] B) := by kernel_rfl
noncomputable def S6 (n : Int) (e0 : TypeId) : KSt := ⟨(frameL 124 [(3, (.int .i64 n)), (4, (.slice (some ⟨1, 0, none⟩) (Int.toNat (2 + (2 * n))) (Int.toNat (2 + (2 * n))))), (29, (.bool ((deskSizeV n) != (((Int.toNat (2 + (2 * n))) : Nat) : Int))))]), ⟨2, 1, [(1, 0, .ints .i64 ((List.replicate (Int.toNat (2 + (2 * n))) 0)) 3 true), (0, 0, .cells [(.int .i64 1), (.int .i64 64), (.int .i64 1), (.int .i64 64)] e0 false)]⟩⟩
theorem R4 (n : Int) (e0 : TypeId) : evCK Tryd.prog cfgT (runK Tryd.prog cfgT fsT (conT deskDom deskE) 12 40) 12 (codeAt [1, 1, 1, 0, 0] B) (S5 n e0) (normC 1 [3, 4, 29]) =
  some (.normal, (S6 n e0)) := by kernel_rfl
theorem C1_1_1_0_1 : (codeAt [1, 1, 1, 0, 1] B) = .cond (.tmp 29) (codeAt [1, 1, 1, 0, 1, 0] B) (codeAt [1, 1, 1, 0, 1, 1] B) := by kernel_rfl
theorem R5 (n : Int) (e0 : TypeId) : evCK Tryd.prog cfgT (runK Tryd.prog cfgT fsT (conT deskDom deskE) 12 40) 12 (codeAt [1, 1, 1, 0, 1, 1] B) (S6 n e0) (normC 1 [3, 4]) =
  some (.normal, (S5 n e0)) := by kernel_rfl
theorem C1_1_1_1 : (codeAt [1, 1, 1, 1] B) = .seq (codeAt [1, 1, 1, 1, 0] B) (codeAt [1, 1, 1, 1, 1] B) := by kernel_rfl
theorem C1_1_1_1_0 : (codeAt [1, 1, 1, 1, 0] B) = .seq (codeAt [1, 1, 1, 1, 0, 0] B) (codeAt [1, 1, 1, 1, 0, 1] B) := by kernel_rfl
noncomputable def S7 (n : Int) (e0 : TypeId) : KSt := ⟨(frameL 124 [(3, (.int .i64 n)), (4, (.slice (some ⟨1, 0, none⟩) (Int.toNat (2 + (2 * n))) (Int.toNat (2 + (2 * n))))), (5, (.int .i64 0))]), ⟨2, 1, [(1, 0, .ints .i64 ((List.replicate (Int.toNat (2 + (2 * n))) 0)) 3 true), (0, 0, .cells [(.int .i64 1), (.int .i64 64), (.int .i64 1), (.int .i64 64)] e0 false)]⟩⟩
theorem R6 (n : Int) (e0 : TypeId) : evCK Tryd.prog cfgT (runK Tryd.prog cfgT fsT (conT deskDom deskE) 12 40) 12 (codeAt [1, 1, 1, 1, 0, 0] B) (S5 n e0) (normC 1 [3, 4, 5]) =
  some (.normal, (S7 n e0)) := by kernel_rfl
theorem pre (th n t j : Int) (L : List Int) (e0 : TypeId) (h0 : 0 ≤ th) (h1 : th < 256) (hn : (IntKind.wrap .i64 ((Int.tmod (IntKind.wrap .i64 th) 64) + 1)) = n) (hn1 : 1 ≤ n) (hn64 : n ≤ 64) (hs : deskSizeV n = 2 + 2 * n)   {Q : Ex → St → Prop} (hq : Gets Tryd.prog (KH.low ⟨1, 1, [(0, 0, .cells [(.int .i64 1), (.int .i64 64), (.int .i64 1), (.int .i64 64)] e0 false)]⟩) (codeAt [1, 1, 1, 1, 0, 1] B) (KSt.low (S7 n e0)) (onN (fun s => Gets Tryd.prog (KH.low ⟨1, 1, [(0, 0, .cells [(.int .i64 1), (.int .i64 64), (.int .i64 1), (.int .i64 64)] e0 false)]⟩) (codeAt [1, 1, 1, 1, 1] B) s (Q)) (Q))) : Gets Tryd.prog (KH.low ⟨1, 1, [(0, 0, .cells [(.int .i64 1), (.int .i64 64), (.int .i64 1), (.int .i64 64)] e0 false)]⟩) B (KSt.low (S0 th e0)) Q := by
  rw [C]; refine Gets.seq ?_
  refine Gets.ofN fitT desk_sound (conT_agree _ _) 12 40 (by kernel_rfl) (x := .normal) (s' := (S1 th e0)) (R1 th e0) ?_
  show Gets _ _ (codeAt [1] B) _ _
  rw [C1]; refine Gets.seq ?_
  refine Gets.ofN fitT desk_sound (conT_agree _ _) 12 40 (by kernel_rfl) (x := .normal) (s' := (S3 n e0)) ((R2 th e0).trans (by (show some (Ex.normal, (S2 th e0)) = some (Ex.normal, (S3 n e0)); unfold S2 S3; rw [(show (IntKind.wrap .i64 ((Int.tmod (IntKind.wrap .i64 th) 64) + 1)) = n from hn)]))) ?_
  show Gets _ _ (codeAt [1, 1] B) _ _
  rw [C1_1]; refine Gets.seq ?_
  refine Gets.ofN fitT desk_sound (conT_agree _ _) 12 40 (by kernel_rfl) (x := .normal) (s' := (S5 n e0)) ((R3 n e0).trans (by rw [if_pos (by refine ⟨?_, ?_, ?_, ?_⟩ <;> ((try simp (disch := omega) only [hs, wrap_i64_id, List.length_set, List.length_replicate, Int.tdiv_eq_ediv_of_nonneg, Int.tmod_eq_emod_of_nonneg]) <;> omega))] <;> (show some (Ex.normal, (S4 n e0)) = some (Ex.normal, (S5 n e0)); unfold S4 S5; rw [(show (IntKind.wrap .i64 (2 * n)) = (2 * n) from wrap_i64_id (by omega) (by omega)), (show (IntKind.wrap .i64 (2 + (2 * n))) = (2 + (2 * n)) from wrap_i64_id (by omega) (by omega))]))) ?_
  show Gets _ _ (codeAt [1, 1, 1] B) _ _
  rw [C1_1_1]; refine Gets.seq ?_
  rw [C1_1_1_0]; refine Gets.seq ?_
  refine Gets.ofN fitT desk_sound (conT_agree _ _) 12 40 (by kernel_rfl) (x := .normal) (s' := (S6 n e0)) (R4 n e0) ?_
  show Gets _ _ (codeAt [1, 1, 1, 0, 1] B) _ _
  rw [C1_1_1_0_1]; refine Gets.cond false (by kernel_rfl) ((show evalX (KSt.ts (S6 n e0)) (.tmp 29) = .bool ((deskSizeV n) != (((Int.toNat (2 + (2 * n))) : Nat) : Int)) by kernel_rfl).trans (by rw [(show ((deskSizeV n) != (((Int.toNat (2 + (2 * n))) : Nat) : Int)) = false from ibne_f (by ((try simp (disch := omega) only [hs, wrap_i64_id, List.length_set, List.length_replicate, Int.tdiv_eq_ediv_of_nonneg, Int.tmod_eq_emod_of_nonneg]) <;> omega)))])) ?_; show Gets _ _ (codeAt [1, 1, 1, 0, 1, 1] B) _ _
  refine Gets.ofN fitT desk_sound (conT_agree _ _) 12 40 (by kernel_rfl) (x := .normal) (s' := (S5 n e0)) (R5 n e0) ?_
  show Gets _ _ (codeAt [1, 1, 1, 1] B) _ _
  rw [C1_1_1_1]; refine Gets.seq ?_
  rw [C1_1_1_1_0]; refine Gets.seq ?_
  refine Gets.ofN fitT desk_sound (conT_agree _ _) 12 40 (by kernel_rfl) (x := .normal) (s' := (S7 n e0)) (R6 n e0) ?_
  show Gets _ _ (codeAt [1, 1, 1, 1, 0, 1] B) _ _
  exact hq
noncomputable def S8 (n : Int) (t : Int) (L : List Int) (e0 : TypeId) : KSt := ⟨(frameL 124 [(3, (.int .i64 n)), (4, (.slice (some ⟨1, 0, none⟩) (Int.toNat (2 + (2 * n))) (Int.toNat (2 + (2 * n))))), (5, (.int .i64 t))]), ⟨2, 1, [(1, 0, .ints .i64 L 3 true), (0, 0, .cells [(.int .i64 1), (.int .i64 64), (.int .i64 1), (.int .i64 64)] e0 false)]⟩⟩
theorem C1_1_1_1_0_1_0_0 : (codeAt [1, 1, 1, 1, 0, 1, 0, 0] B) = .seq (codeAt [1, 1, 1, 1, 0, 1, 0, 0, 0] B) (codeAt [1, 1, 1, 1, 0, 1, 0, 0, 1] B) := by kernel_rfl
theorem C1_1_1_1_0_1_0_0_0 : (codeAt [1, 1, 1, 1, 0, 1, 0, 0, 0] B) = .seq (codeAt [1, 1, 1, 1, 0, 1, 0, 0, 0, 0] B) (codeAt [1, 1, 1, 1, 0, 1, 0, 0, 0, 1] B) := by kernel_rfl
noncomputable def S9 (n : Int) (t : Int) (L : List Int) (e0 : TypeId) : KSt := ⟨(frameL 124 [(3, (.int .i64 n)), (4, (.slice (some ⟨1, 0, none⟩) (Int.toNat (2 + (2 * n))) (Int.toNat (2 + (2 * n))))), (5, (.int .i64 t)), (32, (.bool (decide (t < n))))]), ⟨2, 1, [(1, 0, .ints .i64 L 3 true), (0, 0, .cells [(.int .i64 1), (.int .i64 64), (.int .i64 1), (.int .i64 64)] e0 false)]⟩⟩
theorem R7 (n : Int) (t : Int) (L : List Int) (e0 : TypeId) : evCK Tryd.prog cfgT (runK Tryd.prog cfgT fsT (conT deskDom deskE) 12 40) 12 (codeAt [1, 1, 1, 1, 0, 1, 0, 0, 0, 0] B) (S8 n t L e0) (normC 1 [3, 4, 5, 32]) =
  some (.normal, (S9 n t L e0)) := by kernel_rfl
theorem C1_1_1_1_0_1_0_0_0_1 : (codeAt [1, 1, 1, 1, 0, 1, 0, 0, 0, 1] B) = .cond (.tmp 32) (codeAt [1, 1, 1, 1, 0, 1, 0, 0, 0, 1, 0] B) (codeAt [1, 1, 1, 1, 0, 1, 0, 0, 0, 1, 1] B) := by kernel_rfl
theorem R8 (n : Int) (t : Int) (L : List Int) (e0 : TypeId) : evCK Tryd.prog cfgT (runK Tryd.prog cfgT fsT (conT deskDom deskE) 12 40) 12 (codeAt [1, 1, 1, 1, 0, 1, 0, 0, 0, 1, 0] B) (S9 n t L e0) (normC 1 [3, 4, 5]) =
  some (.normal, (S8 n t L e0)) := by kernel_rfl
theorem C1_1_1_1_0_1_0_0_1 : (codeAt [1, 1, 1, 1, 0, 1, 0, 0, 1] B) = .seq (codeAt [1, 1, 1, 1, 0, 1, 0, 0, 1, 0] B) (codeAt [1, 1, 1, 1, 0, 1, 0, 0, 1, 1] B) := by kernel_rfl
theorem C1_1_1_1_0_1_0_0_1_0 : (codeAt [1, 1, 1, 1, 0, 1, 0, 0, 1, 0] B) = .block 1 (codeAt [1, 1, 1, 1, 0, 1, 0, 0, 1, 0, 0] B) := by kernel_rfl
theorem C1_1_1_1_0_1_0_0_1_0_0 : (codeAt [1, 1, 1, 1, 0, 1, 0, 0, 1, 0, 0] B) = .seq (codeAt [1, 1, 1, 1, 0, 1, 0, 0, 1, 0, 0, 0] B) (codeAt [1, 1, 1, 1, 0, 1, 0, 0, 1, 0, 0, 1] B) := by kernel_rfl
noncomputable def S10 (n : Int) (t : Int) (L : List Int) (e0 : TypeId) : KSt := ⟨(frameL 124 [(3, (.int .i64 n)), (4, (.slice (some ⟨1, 0, none⟩) (Int.toNat (2 + (2 * n))) (Int.toNat (2 + (2 * n))))), (5, (.int .i64 t)), (6, (.int .i64 (tabCellV t))), (7, (.int .i64 (boxCellV t)))]), ⟨2, 1, [(1, 0, .ints .i64 L 3 true), (0, 0, .cells [(.int .i64 1), (.int .i64 64), (.int .i64 1), (.int .i64 64)] e0 false)]⟩⟩
theorem R9 (n : Int) (t : Int) (L : List Int) (e0 : TypeId) : evCK Tryd.prog cfgT (runK Tryd.prog cfgT fsT (conT deskDom deskE) 12 40) 12 (codeAt [1, 1, 1, 1, 0, 1, 0, 0, 1, 0, 0, 0] B) (S8 n t L e0) (normC 1 [3, 4, 5, 6, 7]) =
  some (.normal, (S10 n t L e0)) := by kernel_rfl
noncomputable def S11 (n : Int) (t : Int) (L : List Int) (e0 : TypeId) : KSt := ⟨(frameL 124 [(3, (.int .i64 n)), (4, (.slice (some ⟨1, 0, none⟩) (Int.toNat (2 + (2 * n))) (Int.toNat (2 + (2 * n))))), (5, (.int .i64 t)), (6, (.int .i64 (2 + 2 * t))), (7, (.int .i64 (3 + 2 * t)))]), ⟨2, 1, [(1, 0, .ints .i64 L 3 true), (0, 0, .cells [(.int .i64 1), (.int .i64 64), (.int .i64 1), (.int .i64 64)] e0 false)]⟩⟩
theorem C1_1_1_1_0_1_0_0_1_0_0_1 : (codeAt [1, 1, 1, 1, 0, 1, 0, 0, 1, 0, 0, 1] B) = .seq (codeAt [1, 1, 1, 1, 0, 1, 0, 0, 1, 0, 0, 1, 0] B) (codeAt [1, 1, 1, 1, 0, 1, 0, 0, 1, 0, 0, 1, 1] B) := by kernel_rfl
theorem C1_1_1_1_0_1_0_0_1_0_0_1_0 : (codeAt [1, 1, 1, 1, 0, 1, 0, 0, 1, 0, 0, 1, 0] B) = .seq (codeAt [1, 1, 1, 1, 0, 1, 0, 0, 1, 0, 0, 1, 0, 0] B) (codeAt [1, 1, 1, 1, 0, 1, 0, 0, 1, 0, 0, 1, 0, 1] B) := by kernel_rfl
noncomputable def S12 (n : Int) (t : Int) (L : List Int) (e0 : TypeId) : KSt := ⟨(frameL 124 [(3, (.int .i64 n)), (4, (.slice (some ⟨1, 0, none⟩) (Int.toNat (2 + (2 * n))) (Int.toNat (2 + (2 * n))))), (5, (.int .i64 t)), (6, (.int .i64 (2 + 2 * t))), (7, (.int .i64 (3 + 2 * t))), (56, (.bool true))]), ⟨2, 1, [(1, 0, .ints .i64 L 3 true), (0, 0, .cells [(.int .i64 1), (.int .i64 64), (.int .i64 1), (.int .i64 64)] e0 false)]⟩⟩
noncomputable def S13 (n : Int) (t : Int) (L : List Int) (e0 : TypeId) : KSt := ⟨(frameL 124 [(3, (.int .i64 n)), (4, (.slice (some ⟨1, 0, none⟩) (Int.toNat (2 + (2 * n))) (Int.toNat (2 + (2 * n))))), (5, (.int .i64 t)), (6, (.int .i64 (2 + 2 * t))), (7, (.int .i64 (3 + 2 * t))), (56, (.bool (decide ((3 + 2 * t) ≥ (((Int.toNat (2 + (2 * n))) : Nat) : Int)))))]), ⟨2, 1, [(1, 0, .ints .i64 L 3 true), (0, 0, .cells [(.int .i64 1), (.int .i64 64), (.int .i64 1), (.int .i64 64)] e0 false)]⟩⟩
theorem R10 (n : Int) (t : Int) (L : List Int) (e0 : TypeId) : evCK Tryd.prog cfgT (runK Tryd.prog cfgT fsT (conT deskDom deskE) 12 40) 12 (codeAt [1, 1, 1, 1, 0, 1, 0, 0, 1, 0, 0, 1, 0, 0] B) (S11 n t L e0) (normC 1 [3, 4, 5, 6, 7, 56]) =
  bif (decide ((2 + 2 * t) < 2)) then
    some (.normal, (S12 n t L e0))
  else
    bif (decide ((3 + 2 * t) < 2)) then
      some (.normal, (S12 n t L e0))
    else
      bif (decide ((2 + 2 * t) ≥ (((Int.toNat (2 + (2 * n))) : Nat) : Int))) then
        some (.normal, (S12 n t L e0))
      else
        some (.normal, (S13 n t L e0)) := by kernel_rfl
theorem C1_1_1_1_0_1_0_0_1_0_0_1_0_1 : (codeAt [1, 1, 1, 1, 0, 1, 0, 0, 1, 0, 0, 1, 0, 1] B) = .cond (.tmp 56) (codeAt [1, 1, 1, 1, 0, 1, 0, 0, 1, 0, 0, 1, 0, 1, 0] B) (codeAt [1, 1, 1, 1, 0, 1, 0, 0, 1, 0, 0, 1, 0, 1, 1] B) := by kernel_rfl
theorem R11 (n : Int) (t : Int) (L : List Int) (e0 : TypeId) : evCK Tryd.prog cfgT (runK Tryd.prog cfgT fsT (conT deskDom deskE) 12 40) 12 (codeAt [1, 1, 1, 1, 0, 1, 0, 0, 1, 0, 0, 1, 0, 1, 1] B) (S13 n t L e0) (normC 1 [3, 4, 5, 6, 7]) =
  some (.normal, (S11 n t L e0)) := by kernel_rfl
theorem C1_1_1_1_0_1_0_0_1_0_0_1_1 : (codeAt [1, 1, 1, 1, 0, 1, 0, 0, 1, 0, 0, 1, 1] B) = .seq (codeAt [1, 1, 1, 1, 0, 1, 0, 0, 1, 0, 0, 1, 1, 0] B) (codeAt [1, 1, 1, 1, 0, 1, 0, 0, 1, 0, 0, 1, 1, 1] B) := by kernel_rfl
noncomputable def S14 (n : Int) (t : Int) (L : List Int) (n1 : Int) (e0 : TypeId) : KSt := ⟨(frameL 124 [(3, (.int .i64 n)), (4, (.slice (some ⟨1, 0, none⟩) (Int.toNat (2 + (2 * n))) (Int.toNat (2 + (2 * n))))), (5, (.int .i64 t)), (6, (.int .i64 (2 + 2 * t))), (7, (.int .i64 (3 + 2 * t)))]), ⟨2, 1, [(1, 0, .ints .i64 ((List.set L (0 + ((Int.toNat ((2 + 2 * t))) * 1)) (IntKind.wrap .i64 (n1 + 1)))) 3 true), (0, 0, .cells [(.int .i64 1), (.int .i64 64), (.int .i64 1), (.int .i64 64)] e0 false)]⟩⟩
theorem R12 (n : Int) (t : Int) (L : List Int) (e0 : TypeId) : evCK Tryd.prog cfgT (runK Tryd.prog cfgT fsT (conT deskDom deskE) 12 40) 12 (codeAt [1, 1, 1, 1, 0, 1, 0, 0, 1, 0, 0, 1, 1, 0] B) (S11 n t L e0) (normC 1 [3, 4, 5, 6, 7]) =
  if 0 ≤ (2 + 2 * t) ∧ (2 + 2 * t) < (((Int.toNat (2 + (2 * n))) : Nat) : Int) then
    obind (L[(0 + ((Int.toNat ((2 + 2 * t))) * 1))]?) fun n1 =>
      if 0 ≤ (2 + 2 * t) ∧ (2 + 2 * t) < (((Int.toNat (2 + (2 * n))) : Nat) : Int) then
        bif (Nat.ble ((0 + ((Int.toNat ((2 + 2 * t))) * 1)) + 1) (List.length L)) then
          some (.normal, (S14 n t L n1 e0))
        else
          none
      else
        none
  else
    none := by kernel_rfl
noncomputable def S15 (n : Int) (t : Int) (L : List Int) (e0 : TypeId) : KSt := ⟨(frameL 124 [(3, (.int .i64 n)), (4, (.slice (some ⟨1, 0, none⟩) (Int.toNat (2 + (2 * n))) (Int.toNat (2 + (2 * n))))), (5, (.int .i64 t)), (6, (.int .i64 (2 + 2 * t))), (7, (.int .i64 (3 + 2 * t)))]), ⟨2, 1, [(1, 0, .ints .i64 ((List.set L (0 + ((Int.toNat (2 + 2 * t)) * 1)) (0 + 1))) 3 true), (0, 0, .cells [(.int .i64 1), (.int .i64 64), (.int .i64 1), (.int .i64 64)] e0 false)]⟩⟩
noncomputable def S16 (n : Int) (t : Int) (L : List Int) (e0 : TypeId) : KSt := ⟨(frameL 124 [(3, (.int .i64 n)), (4, (.slice (some ⟨1, 0, none⟩) (Int.toNat (2 + (2 * n))) (Int.toNat (2 + (2 * n))))), (5, (.int .i64 t)), (6, (.int .i64 (2 + 2 * t))), (7, (.int .i64 (3 + 2 * t)))]), ⟨2, 1, [(1, 0, .ints .i64 ((List.set L (0 + ((Int.toNat (2 + 2 * t)) * 1)) (IntKind.wrap .i64 ((L.getD (0 + ((Int.toNat (2 + 2 * t)) * 1)) 0) + 1)))) 3 true), (0, 0, .cells [(.int .i64 1), (.int .i64 64), (.int .i64 1), (.int .i64 64)] e0 false)]⟩⟩
theorem C1_1_1_1_0_1_0_0_1_0_0_1_1_1 : (codeAt [1, 1, 1, 1, 0, 1, 0, 0, 1, 0, 0, 1, 1, 1] B) = .seq (codeAt [1, 1, 1, 1, 0, 1, 0, 0, 1, 0, 0, 1, 1, 1, 0] B) (codeAt [1, 1, 1, 1, 0, 1, 0, 0, 1, 0, 0, 1, 1, 1, 1] B) := by kernel_rfl
noncomputable def S17 (n : Int) (t : Int) (L : List Int) (n1 : Int) (e0 : TypeId) : KSt := ⟨(frameL 124 [(3, (.int .i64 n)), (4, (.slice (some ⟨1, 0, none⟩) (Int.toNat (2 + (2 * n))) (Int.toNat (2 + (2 * n))))), (5, (.int .i64 t)), (6, (.int .i64 (2 + 2 * t))), (7, (.int .i64 (3 + 2 * t)))]), ⟨2, 1, [(1, 0, .ints .i64 ((List.set ((List.set L (0 + ((Int.toNat (2 + 2 * t)) * 1)) (0 + 1))) (0 + ((Int.toNat ((3 + 2 * t))) * 1)) (IntKind.wrap .i64 (n1 + 1)))) 3 true), (0, 0, .cells [(.int .i64 1), (.int .i64 64), (.int .i64 1), (.int .i64 64)] e0 false)]⟩⟩
theorem R13 (n : Int) (t : Int) (L : List Int) (e0 : TypeId) : evCK Tryd.prog cfgT (runK Tryd.prog cfgT fsT (conT deskDom deskE) 12 40) 12 (codeAt [1, 1, 1, 1, 0, 1, 0, 0, 1, 0, 0, 1, 1, 1, 0] B) (S15 n t L e0) (normC 1 [3, 4, 5, 6, 7]) =
  if 0 ≤ (3 + 2 * t) ∧ (3 + 2 * t) < (((Int.toNat (2 + (2 * n))) : Nat) : Int) then
    obind (((List.set L (0 + ((Int.toNat (2 + 2 * t)) * 1)) (0 + 1)))[(0 + ((Int.toNat ((3 + 2 * t))) * 1))]?) fun n1 =>
      if 0 ≤ (3 + 2 * t) ∧ (3 + 2 * t) < (((Int.toNat (2 + (2 * n))) : Nat) : Int) then
        bif (Nat.ble ((0 + ((Int.toNat ((3 + 2 * t))) * 1)) + 1) (List.length ((List.set L (0 + ((Int.toNat (2 + 2 * t)) * 1)) (0 + 1))))) then
          some (.normal, (S17 n t L n1 e0))
        else
          none
      else
        none
  else
    none := by kernel_rfl
noncomputable def S18 (n : Int) (t : Int) (L : List Int) (e0 : TypeId) : KSt := ⟨(frameL 124 [(3, (.int .i64 n)), (4, (.slice (some ⟨1, 0, none⟩) (Int.toNat (2 + (2 * n))) (Int.toNat (2 + (2 * n))))), (5, (.int .i64 t)), (6, (.int .i64 (2 + 2 * t))), (7, (.int .i64 (3 + 2 * t)))]), ⟨2, 1, [(1, 0, .ints .i64 ((List.set (List.set L (0 + ((Int.toNat (2 + 2 * t)) * 1)) (0 + 1)) (0 + ((Int.toNat (3 + 2 * t)) * 1)) (0 + 1))) 3 true), (0, 0, .cells [(.int .i64 1), (.int .i64 64), (.int .i64 1), (.int .i64 64)] e0 false)]⟩⟩
noncomputable def S19 (n : Int) (t : Int) (L : List Int) (e0 : TypeId) : KSt := ⟨(frameL 124 [(3, (.int .i64 n)), (4, (.slice (some ⟨1, 0, none⟩) (Int.toNat (2 + (2 * n))) (Int.toNat (2 + (2 * n))))), (5, (.int .i64 t)), (6, (.int .i64 (2 + 2 * t))), (7, (.int .i64 (3 + 2 * t)))]), ⟨2, 1, [(1, 0, .ints .i64 ((List.set (List.set L (0 + ((Int.toNat (2 + 2 * t)) * 1)) (0 + 1)) (0 + ((Int.toNat (3 + 2 * t)) * 1)) (IntKind.wrap .i64 (((List.set L (0 + ((Int.toNat (2 + 2 * t)) * 1)) (0 + 1)).getD (0 + ((Int.toNat (3 + 2 * t)) * 1)) 0) + 1)))) 3 true), (0, 0, .cells [(.int .i64 1), (.int .i64 64), (.int .i64 1), (.int .i64 64)] e0 false)]⟩⟩
theorem C1_1_1_1_0_1_0_0_1_0_0_1_1_1_1 : (codeAt [1, 1, 1, 1, 0, 1, 0, 0, 1, 0, 0, 1, 1, 1, 1] B) = .seq (codeAt [1, 1, 1, 1, 0, 1, 0, 0, 1, 0, 0, 1, 1, 1, 1, 0] B) (codeAt [1, 1, 1, 1, 0, 1, 0, 0, 1, 0, 0, 1, 1, 1, 1, 1] B) := by kernel_rfl
noncomputable def S20 (n : Int) (t : Int) (L : List Int) (e0 : TypeId) : KSt := ⟨(frameL 124 [(3, (.int .i64 n)), (4, (.slice (some ⟨1, 0, none⟩) (Int.toNat (2 + (2 * n))) (Int.toNat (2 + (2 * n))))), (5, (.int .i64 t)), (7, (.int .i64 (3 + 2 * t))), (8, (.int .i64 (-1))), (9, (.bool false))]), ⟨2, 1, [(1, 0, .ints .i64 ((List.set (List.set L (0 + ((Int.toNat (2 + 2 * t)) * 1)) (0 + 1)) (0 + ((Int.toNat (3 + 2 * t)) * 1)) (0 + 1))) 3 true), (0, 0, .cells [(.int .i64 1), (.int .i64 64), (.int .i64 1), (.int .i64 64)] e0 false)]⟩⟩
noncomputable def S21 (n : Int) (t : Int) (L : List Int) (e0 : TypeId) : KSt := ⟨(frameL 124 [(3, (.int .i64 n)), (4, (.slice (some ⟨1, 0, none⟩) (Int.toNat (2 + (2 * n))) (Int.toNat (2 + (2 * n))))), (5, (.int .i64 t)), (7, (.int .i64 (3 + 2 * t))), (8, (.int .i64 (IntKind.wrap .i64 (Int.tdiv (IntKind.wrap .i64 ((2 + 2 * t) - 2)) 2)))), (9, (.bool ((Int.tmod (IntKind.wrap .i64 ((2 + 2 * t) - 2)) 2) == 1)))]), ⟨2, 1, [(1, 0, .ints .i64 ((List.set (List.set L (0 + ((Int.toNat (2 + 2 * t)) * 1)) (0 + 1)) (0 + ((Int.toNat (3 + 2 * t)) * 1)) (0 + 1))) 3 true), (0, 0, .cells [(.int .i64 1), (.int .i64 64), (.int .i64 1), (.int .i64 64)] e0 false)]⟩⟩
theorem R14 (n : Int) (t : Int) (L : List Int) (e0 : TypeId) : evCK Tryd.prog cfgT (runK Tryd.prog cfgT fsT (conT deskDom deskE) 12 40) 12 (codeAt [1, 1, 1, 1, 0, 1, 0, 0, 1, 0, 0, 1, 1, 1, 1, 0] B) (S18 n t L e0) (normC 1 [3, 4, 5, 7, 8, 9]) =
  bif (decide ((2 + 2 * t) < 2)) then
    some (.normal, (S20 n t L e0))
  else
    bif (decide ((IntKind.wrap .i64 ((2 + 2 * t) - 2)) ≥ 128)) then
      some (.normal, (S20 n t L e0))
    else
      some (.normal, (S21 n t L e0)) := by kernel_rfl
noncomputable def S22 (n : Int) (t : Int) (L : List Int) (e0 : TypeId) : KSt := ⟨(frameL 124 [(3, (.int .i64 n)), (4, (.slice (some ⟨1, 0, none⟩) (Int.toNat (2 + (2 * n))) (Int.toNat (2 + (2 * n))))), (5, (.int .i64 t)), (7, (.int .i64 (3 + 2 * t))), (8, (.int .i64 (IntKind.wrap .i64 (Int.tdiv ((2 + 2 * t) - 2) 2)))), (9, (.bool ((Int.tmod ((2 + 2 * t) - 2) 2) == 1)))]), ⟨2, 1, [(1, 0, .ints .i64 ((List.set (List.set L (0 + ((Int.toNat (2 + 2 * t)) * 1)) (0 + 1)) (0 + ((Int.toNat (3 + 2 * t)) * 1)) (0 + 1))) 3 true), (0, 0, .cells [(.int .i64 1), (.int .i64 64), (.int .i64 1), (.int .i64 64)] e0 false)]⟩⟩
theorem C1_1_1_1_0_1_0_0_1_0_0_1_1_1_1_1 : (codeAt [1, 1, 1, 1, 0, 1, 0, 0, 1, 0, 0, 1, 1, 1, 1, 1] B) = .seq (codeAt [1, 1, 1, 1, 0, 1, 0, 0, 1, 0, 0, 1, 1, 1, 1, 1, 0] B) (codeAt [1, 1, 1, 1, 0, 1, 0, 0, 1, 0, 0, 1, 1, 1, 1, 1, 1] B) := by kernel_rfl
noncomputable def S23 (n : Int) (t : Int) (L : List Int) (e0 : TypeId) : KSt := ⟨(frameL 124 [(3, (.int .i64 n)), (4, (.slice (some ⟨1, 0, none⟩) (Int.toNat (2 + (2 * n))) (Int.toNat (2 + (2 * n))))), (5, (.int .i64 t)), (8, (.int .i64 (IntKind.wrap .i64 (Int.tdiv ((2 + 2 * t) - 2) 2)))), (9, (.bool ((Int.tmod ((2 + 2 * t) - 2) 2) == 1))), (10, (.int .i64 (-1))), (11, (.bool false))]), ⟨2, 1, [(1, 0, .ints .i64 ((List.set (List.set L (0 + ((Int.toNat (2 + 2 * t)) * 1)) (0 + 1)) (0 + ((Int.toNat (3 + 2 * t)) * 1)) (0 + 1))) 3 true), (0, 0, .cells [(.int .i64 1), (.int .i64 64), (.int .i64 1), (.int .i64 64)] e0 false)]⟩⟩
noncomputable def S24 (n : Int) (t : Int) (L : List Int) (e0 : TypeId) : KSt := ⟨(frameL 124 [(3, (.int .i64 n)), (4, (.slice (some ⟨1, 0, none⟩) (Int.toNat (2 + (2 * n))) (Int.toNat (2 + (2 * n))))), (5, (.int .i64 t)), (8, (.int .i64 (IntKind.wrap .i64 (Int.tdiv ((2 + 2 * t) - 2) 2)))), (9, (.bool ((Int.tmod ((2 + 2 * t) - 2) 2) == 1))), (10, (.int .i64 (IntKind.wrap .i64 (Int.tdiv (IntKind.wrap .i64 ((3 + 2 * t) - 2)) 2)))), (11, (.bool ((Int.tmod (IntKind.wrap .i64 ((3 + 2 * t) - 2)) 2) == 1)))]), ⟨2, 1, [(1, 0, .ints .i64 ((List.set (List.set L (0 + ((Int.toNat (2 + 2 * t)) * 1)) (0 + 1)) (0 + ((Int.toNat (3 + 2 * t)) * 1)) (0 + 1))) 3 true), (0, 0, .cells [(.int .i64 1), (.int .i64 64), (.int .i64 1), (.int .i64 64)] e0 false)]⟩⟩
theorem R15 (n : Int) (t : Int) (L : List Int) (e0 : TypeId) : evCK Tryd.prog cfgT (runK Tryd.prog cfgT fsT (conT deskDom deskE) 12 40) 12 (codeAt [1, 1, 1, 1, 0, 1, 0, 0, 1, 0, 0, 1, 1, 1, 1, 1, 0] B) (S22 n t L e0) (normC 1 [3, 4, 5, 8, 9, 10, 11]) =
  bif (decide ((3 + 2 * t) < 2)) then
    some (.normal, (S23 n t L e0))
  else
    bif (decide ((IntKind.wrap .i64 ((3 + 2 * t) - 2)) ≥ 128)) then
      some (.normal, (S23 n t L e0))
    else
      some (.normal, (S24 n t L e0)) := by kernel_rfl
noncomputable def S25 (n : Int) (t : Int) (L : List Int) (e0 : TypeId) : KSt := ⟨(frameL 124 [(3, (.int .i64 n)), (4, (.slice (some ⟨1, 0, none⟩) (Int.toNat (2 + (2 * n))) (Int.toNat (2 + (2 * n))))), (5, (.int .i64 t)), (8, (.int .i64 (IntKind.wrap .i64 (Int.tdiv ((2 + 2 * t) - 2) 2)))), (9, (.bool ((Int.tmod ((2 + 2 * t) - 2) 2) == 1))), (10, (.int .i64 (IntKind.wrap .i64 (Int.tdiv ((3 + 2 * t) - 2) 2)))), (11, (.bool ((Int.tmod ((3 + 2 * t) - 2) 2) == 1)))]), ⟨2, 1, [(1, 0, .ints .i64 ((List.set (List.set L (0 + ((Int.toNat (2 + 2 * t)) * 1)) (0 + 1)) (0 + ((Int.toNat (3 + 2 * t)) * 1)) (0 + 1))) 3 true), (0, 0, .cells [(.int .i64 1), (.int .i64 64), (.int .i64 1), (.int .i64 64)] e0 false)]⟩⟩
theorem C1_1_1_1_0_1_0_0_1_0_0_1_1_1_1_1_1 : (codeAt [1, 1, 1, 1, 0, 1, 0, 0, 1, 0, 0, 1, 1, 1, 1, 1, 1] B) = .seq (codeAt [1, 1, 1, 1, 0, 1, 0, 0, 1, 0, 0, 1, 1, 1, 1, 1, 1, 0] B) (codeAt [1, 1, 1, 1, 0, 1, 0, 0, 1, 0, 0, 1, 1, 1, 1, 1, 1, 1] B) := by kernel_rfl
noncomputable def S26 (n : Int) (t : Int) (L : List Int) (e0 : TypeId) : KSt := ⟨(frameL 124 [(3, (.int .i64 n)), (4, (.slice (some ⟨1, 0, none⟩) (Int.toNat (2 + (2 * n))) (Int.toNat (2 + (2 * n))))), (5, (.int .i64 t)), (93, (.bool true))]), ⟨2, 1, [(1, 0, .ints .i64 ((List.set (List.set L (0 + ((Int.toNat (2 + 2 * t)) * 1)) (0 + 1)) (0 + ((Int.toNat (3 + 2 * t)) * 1)) (0 + 1))) 3 true), (0, 0, .cells [(.int .i64 1), (.int .i64 64), (.int .i64 1), (.int .i64 64)] e0 false)]⟩⟩
noncomputable def S27 (n : Int) (t : Int) (L : List Int) (e0 : TypeId) : KSt := ⟨(frameL 124 [(3, (.int .i64 n)), (4, (.slice (some ⟨1, 0, none⟩) (Int.toNat (2 + (2 * n))) (Int.toNat (2 + (2 * n))))), (5, (.int .i64 t)), (93, (.bool (!((Int.tmod ((3 + 2 * t) - 2) 2) == 1))))]), ⟨2, 1, [(1, 0, .ints .i64 ((List.set (List.set L (0 + ((Int.toNat (2 + 2 * t)) * 1)) (0 + 1)) (0 + ((Int.toNat (3 + 2 * t)) * 1)) (0 + 1))) 3 true), (0, 0, .cells [(.int .i64 1), (.int .i64 64), (.int .i64 1), (.int .i64 64)] e0 false)]⟩⟩
theorem R16 (n : Int) (t : Int) (L : List Int) (e0 : TypeId) : evCK Tryd.prog cfgT (runK Tryd.prog cfgT fsT (conT deskDom deskE) 12 40) 12 (codeAt [1, 1, 1, 1, 0, 1, 0, 0, 1, 0, 0, 1, 1, 1, 1, 1, 1, 0] B) (S25 n t L e0) (normC 1 [3, 4, 5, 93]) =
  bif ((IntKind.wrap .i64 (Int.tdiv ((2 + 2 * t) - 2) 2)) != t) then
    some (.normal, (S26 n t L e0))
  else
    bif ((IntKind.wrap .i64 (Int.tdiv ((3 + 2 * t) - 2) 2)) != t) then
      some (.normal, (S26 n t L e0))
    else
      bif ((Int.tmod ((2 + 2 * t) - 2) 2) == 1) then
        some (.normal, (S26 n t L e0))
      else
        some (.normal, (S27 n t L e0)) := by kernel_rfl
theorem C1_1_1_1_0_1_0_0_1_0_0_1_1_1_1_1_1_1 : (codeAt [1, 1, 1, 1, 0, 1, 0, 0, 1, 0, 0, 1, 1, 1, 1, 1, 1, 1] B) = .cond (.tmp 93) (codeAt [1, 1, 1, 1, 0, 1, 0, 0, 1, 0, 0, 1, 1, 1, 1, 1, 1, 1, 0] B) (codeAt [1, 1, 1, 1, 0, 1, 0, 0, 1, 0, 0, 1, 1, 1, 1, 1, 1, 1, 1] B) := by kernel_rfl
noncomputable def S28 (n : Int) (t : Int) (L : List Int) (e0 : TypeId) : KSt := ⟨(frameL 124 [(3, (.int .i64 n)), (4, (.slice (some ⟨1, 0, none⟩) (Int.toNat (2 + (2 * n))) (Int.toNat (2 + (2 * n))))), (5, (.int .i64 t))]), ⟨2, 1, [(1, 0, .ints .i64 ((List.set (List.set L (0 + ((Int.toNat (2 + 2 * t)) * 1)) (0 + 1)) (0 + ((Int.toNat (3 + 2 * t)) * 1)) (0 + 1))) 3 true), (0, 0, .cells [(.int .i64 1), (.int .i64 64), (.int .i64 1), (.int .i64 64)] e0 false)]⟩⟩
theorem R17 (n : Int) (t : Int) (L : List Int) (e0 : TypeId) : evCK Tryd.prog cfgT (runK Tryd.prog cfgT fsT (conT deskDom deskE) 12 40) 12 (codeAt [1, 1, 1, 1, 0, 1, 0, 0, 1, 0, 0, 1, 1, 1, 1, 1, 1, 1, 1] B) (S27 n t L e0) (normC 1 [3, 4, 5]) =
  some (.normal, (S28 n t L e0)) := by kernel_rfl
noncomputable def S29 (n : Int) (t : Int) (L : List Int) (e0 : TypeId) : KSt := ⟨(frameL 124 [(3, (.int .i64 n)), (4, (.slice (some ⟨1, 0, none⟩) (Int.toNat (2 + (2 * n))) (Int.toNat (2 + (2 * n))))), (5, (.int .i64 (IntKind.wrap .i64 (t + 1))))]), ⟨2, 1, [(1, 0, .ints .i64 ((List.set (List.set L (0 + ((Int.toNat (2 + 2 * t)) * 1)) (0 + 1)) (0 + ((Int.toNat (3 + 2 * t)) * 1)) (0 + 1))) 3 true), (0, 0, .cells [(.int .i64 1), (.int .i64 64), (.int .i64 1), (.int .i64 64)] e0 false)]⟩⟩
theorem R18 (n : Int) (t : Int) (L : List Int) (e0 : TypeId) : evCK Tryd.prog cfgT (runK Tryd.prog cfgT fsT (conT deskDom deskE) 12 40) 12 (codeAt [1, 1, 1, 1, 0, 1, 0, 0, 1, 1] B) (S28 n t L e0) (normC 1 [3, 4, 5]) =
  some (.normal, (S29 n t L e0)) := by kernel_rfl
noncomputable def S30 (n : Int) (t : Int) (L : List Int) (e0 : TypeId) : KSt := ⟨(frameL 124 [(3, (.int .i64 n)), (4, (.slice (some ⟨1, 0, none⟩) (Int.toNat (2 + (2 * n))) (Int.toNat (2 + (2 * n))))), (5, (.int .i64 (t + 1)))]), ⟨2, 1, [(1, 0, .ints .i64 ((List.set (List.set L (0 + ((Int.toNat (2 + 2 * t)) * 1)) (0 + 1)) (0 + ((Int.toNat (3 + 2 * t)) * 1)) (0 + 1))) 3 true), (0, 0, .cells [(.int .i64 1), (.int .i64 64), (.int .i64 1), (.int .i64 64)] e0 false)]⟩⟩
theorem rd (th n t j : Int) (L : List Int) (e0 : TypeId) (hn1 : 1 ≤ n) (hn64 : n ≤ 64) (hL : L.length = Int.toNat (2 + (2 * n))) (ht : 0 ≤ t) (htn : t < n) (ha : (tabCellV t) = 2 + 2 * t) (hb : (boxCellV t) = 3 + 2 * t) (hz0 : (L.getD (0 + ((Int.toNat (2 + 2 * t)) * 1)) 0) = 0) (hz1 : ((List.set L (0 + ((Int.toNat (2 + 2 * t)) * 1)) (0 + 1)).getD (0 + ((Int.toNat (3 + 2 * t)) * 1)) 0) = 0)   {Q : Ex → St → Prop} (hq : Q .normal (KSt.low (S30 n t L e0))) : Gets Tryd.prog (KH.low ⟨1, 1, [(0, 0, .cells [(.int .i64 1), (.int .i64 64), (.int .i64 1), (.int .i64 64)] e0 false)]⟩) (codeAt [1, 1, 1, 1, 0, 1, 0, 0] B) (KSt.low (S8 n t L e0)) Q := by
  rw [C1_1_1_1_0_1_0_0]; refine Gets.seq ?_
  rw [C1_1_1_1_0_1_0_0_0]; refine Gets.seq ?_
  refine Gets.ofN fitT desk_sound (conT_agree _ _) 12 40 (by kernel_rfl) (x := .normal) (s' := (S9 n t L e0)) (R7 n t L e0) ?_
  show Gets _ _ (codeAt [1, 1, 1, 1, 0, 1, 0, 0, 0, 1] B) _ _
  rw [C1_1_1_1_0_1_0_0_0_1]; refine Gets.cond true (by kernel_rfl) ((show evalX (KSt.ts (S9 n t L e0)) (.tmp 32) = .bool (decide (t < n)) by kernel_rfl).trans (by rw [(show (decide (t < n)) = true from decide_eq_true (by ((try simp (disch := omega) only [wrap_i64_id, List.length_set, List.length_replicate, Int.tdiv_eq_ediv_of_nonneg, Int.tmod_eq_emod_of_nonneg]) <;> omega)))])) ?_; show Gets _ _ (codeAt [1, 1, 1, 1, 0, 1, 0, 0, 0, 1, 0] B) _ _
  refine Gets.ofN fitT desk_sound (conT_agree _ _) 12 40 (by kernel_rfl) (x := .normal) (s' := (S8 n t L e0)) (R8 n t L e0) ?_
  show Gets _ _ (codeAt [1, 1, 1, 1, 0, 1, 0, 0, 1] B) _ _
  rw [C1_1_1_1_0_1_0_0_1]; refine Gets.seq ?_
  rw [C1_1_1_1_0_1_0_0_1_0]; refine Gets.block ?_
  rw [C1_1_1_1_0_1_0_0_1_0_0]; refine Gets.seq ?_
  refine Gets.ofN fitT desk_sound (conT_agree _ _) 12 40 (by kernel_rfl) (x := .normal) (s' := (S11 n t L e0)) ((R9 n t L e0).trans (by (show some (Ex.normal, (S10 n t L e0)) = some (Ex.normal, (S11 n t L e0)); unfold S10 S11; rw [(show (tabCellV t) = (2 + 2 * t) from ha), (show (boxCellV t) = (3 + 2 * t) from hb)]))) ?_
  show Gets _ _ (codeAt [1, 1, 1, 1, 0, 1, 0, 0, 1, 0, 0, 1] B) _ _
  rw [C1_1_1_1_0_1_0_0_1_0_0_1]; refine Gets.seq ?_
  rw [C1_1_1_1_0_1_0_0_1_0_0_1_0]; refine Gets.seq ?_
  refine Gets.ofN fitT desk_sound (conT_agree _ _) 12 40 (by kernel_rfl) (x := .normal) (s' := (S13 n t L e0)) ((R10 n t L e0).trans (by rw [condF (decide_eq_false (by ((try simp (disch := omega) only [wrap_i64_id, List.length_set, List.length_replicate, Int.tdiv_eq_ediv_of_nonneg, Int.tmod_eq_emod_of_nonneg]) <;> omega))), condF (decide_eq_false (by ((try simp (disch := omega) only [wrap_i64_id, List.length_set, List.length_replicate, Int.tdiv_eq_ediv_of_nonneg, Int.tmod_eq_emod_of_nonneg]) <;> omega))), condF (decide_eq_false (by ((try simp (disch := omega) only [wrap_i64_id, List.length_set, List.length_replicate, Int.tdiv_eq_ediv_of_nonneg, Int.tmod_eq_emod_of_nonneg]) <;> omega)))])) ?_
  show Gets _ _ (codeAt [1, 1, 1, 1, 0, 1, 0, 0, 1, 0, 0, 1, 0, 1] B) _ _
  rw [C1_1_1_1_0_1_0_0_1_0_0_1_0_1]; refine Gets.cond false (by kernel_rfl) ((show evalX (KSt.ts (S13 n t L e0)) (.tmp 56) = .bool (decide ((3 + 2 * t) ≥ (((Int.toNat (2 + (2 * n))) : Nat) : Int))) by kernel_rfl).trans (by rw [(show (decide ((3 + 2 * t) ≥ (((Int.toNat (2 + (2 * n))) : Nat) : Int))) = false from decide_eq_false (by ((try simp (disch := omega) only [wrap_i64_id, List.length_set, List.length_replicate, Int.tdiv_eq_ediv_of_nonneg, Int.tmod_eq_emod_of_nonneg]) <;> omega)))])) ?_; show Gets _ _ (codeAt [1, 1, 1, 1, 0, 1, 0, 0, 1, 0, 0, 1, 0, 1, 1] B) _ _
  refine Gets.ofN fitT desk_sound (conT_agree _ _) 12 40 (by kernel_rfl) (x := .normal) (s' := (S11 n t L e0)) (R11 n t L e0) ?_
  show Gets _ _ (codeAt [1, 1, 1, 1, 0, 1, 0, 0, 1, 0, 0, 1, 1] B) _ _
  rw [C1_1_1_1_0_1_0_0_1_0_0_1_1]; refine Gets.seq ?_
  refine Gets.ofN fitT desk_sound (conT_agree _ _) 12 40 (by kernel_rfl) (x := .normal) (s' := (S15 n t L e0)) ((R12 n t L e0).trans (by rw [if_pos (⟨by ((try simp (disch := omega) only [wrap_i64_id, List.length_set, List.length_replicate, Int.tdiv_eq_ediv_of_nonneg, Int.tmod_eq_emod_of_nonneg]) <;> omega), by ((try simp (disch := omega) only [wrap_i64_id, List.length_set, List.length_replicate, Int.tdiv_eq_ediv_of_nonneg, Int.tmod_eq_emod_of_nonneg]) <;> omega)⟩), obind_at (k := 0 + ((Int.toNat (2 + 2 * t)) * 1)) (by ((try simp (disch := omega) only [wrap_i64_id, List.length_set, List.length_replicate, Int.tdiv_eq_ediv_of_nonneg, Int.tmod_eq_emod_of_nonneg]) <;> omega)) (by ((try simp (disch := omega) only [wrap_i64_id, List.length_set, List.length_replicate, Int.tdiv_eq_ediv_of_nonneg, Int.tmod_eq_emod_of_nonneg]) <;> omega)), if_pos (⟨by ((try simp (disch := omega) only [wrap_i64_id, List.length_set, List.length_replicate, Int.tdiv_eq_ediv_of_nonneg, Int.tmod_eq_emod_of_nonneg]) <;> omega), by ((try simp (disch := omega) only [wrap_i64_id, List.length_set, List.length_replicate, Int.tdiv_eq_ediv_of_nonneg, Int.tmod_eq_emod_of_nonneg]) <;> omega)⟩), condT (ble_t (by ((try simp (disch := omega) only [wrap_i64_id, List.length_set, List.length_replicate, Int.tdiv_eq_ediv_of_nonneg, Int.tmod_eq_emod_of_nonneg]) <;> omega)))] <;> (show some (Ex.normal, (S16 n t L e0)) = some (Ex.normal, (S15 n t L e0)); unfold S16 S15; rw [(show (L.getD (0 + ((Int.toNat (2 + 2 * t)) * 1)) 0) = 0 from hz0), (show (IntKind.wrap .i64 (0 + 1)) = (0 + 1) from wrap_i64_id (by omega) (by omega))]))) ?_
  show Gets _ _ (codeAt [1, 1, 1, 1, 0, 1, 0, 0, 1, 0, 0, 1, 1, 1] B) _ _
  rw [C1_1_1_1_0_1_0_0_1_0_0_1_1_1]; refine Gets.seq ?_
  refine Gets.ofN fitT desk_sound (conT_agree _ _) 12 40 (by kernel_rfl) (x := .normal) (s' := (S18 n t L e0)) ((R13 n t L e0).trans (by rw [if_pos (⟨by ((try simp (disch := omega) only [wrap_i64_id, List.length_set, List.length_replicate, Int.tdiv_eq_ediv_of_nonneg, Int.tmod_eq_emod_of_nonneg]) <;> omega), by ((try simp (disch := omega) only [wrap_i64_id, List.length_set, List.length_replicate, Int.tdiv_eq_ediv_of_nonneg, Int.tmod_eq_emod_of_nonneg]) <;> omega)⟩), obind_at (k := 0 + ((Int.toNat (3 + 2 * t)) * 1)) (by ((try simp (disch := omega) only [wrap_i64_id, List.length_set, List.length_replicate, Int.tdiv_eq_ediv_of_nonneg, Int.tmod_eq_emod_of_nonneg]) <;> omega)) (by ((try simp (disch := omega) only [wrap_i64_id, List.length_set, List.length_replicate, Int.tdiv_eq_ediv_of_nonneg, Int.tmod_eq_emod_of_nonneg]) <;> omega)), if_pos (⟨by ((try simp (disch := omega) only [wrap_i64_id, List.length_set, List.length_replicate, Int.tdiv_eq_ediv_of_nonneg, Int.tmod_eq_emod_of_nonneg]) <;> omega), by ((try simp (disch := omega) only [wrap_i64_id, List.length_set, List.length_replicate, Int.tdiv_eq_ediv_of_nonneg, Int.tmod_eq_emod_of_nonneg]) <;> omega)⟩), condT (ble_t (by ((try simp (disch := omega) only [wrap_i64_id, List.length_set, List.length_replicate, Int.tdiv_eq_ediv_of_nonneg, Int.tmod_eq_emod_of_nonneg]) <;> omega)))] <;> (show some (Ex.normal, (S19 n t L e0)) = some (Ex.normal, (S18 n t L e0)); unfold S19 S18; rw [(show ((List.set L (0 + ((Int.toNat (2 + 2 * t)) * 1)) (0 + 1)).getD (0 + ((Int.toNat (3 + 2 * t)) * 1)) 0) = 0 from hz1), (show (IntKind.wrap .i64 (0 + 1)) = (0 + 1) from wrap_i64_id (by omega) (by omega))]))) ?_
  show Gets _ _ (codeAt [1, 1, 1, 1, 0, 1, 0, 0, 1, 0, 0, 1, 1, 1, 1] B) _ _
  rw [C1_1_1_1_0_1_0_0_1_0_0_1_1_1_1]; refine Gets.seq ?_
  refine Gets.ofN fitT desk_sound (conT_agree _ _) 12 40 (by kernel_rfl) (x := .normal) (s' := (S22 n t L e0)) ((R14 n t L e0).trans (by rw [condF (decide_eq_false (by ((try simp (disch := omega) only [wrap_i64_id, List.length_set, List.length_replicate, Int.tdiv_eq_ediv_of_nonneg, Int.tmod_eq_emod_of_nonneg]) <;> omega))), condF (decide_eq_false (by ((try simp (disch := omega) only [wrap_i64_id, List.length_set, List.length_replicate, Int.tdiv_eq_ediv_of_nonneg, Int.tmod_eq_emod_of_nonneg]) <;> omega)))] <;> (show some (Ex.normal, (S21 n t L e0)) = some (Ex.normal, (S22 n t L e0)); unfold S21 S22; rw [(show (IntKind.wrap .i64 ((2 + 2 * t) - 2)) = ((2 + 2 * t) - 2) from wrap_i64_id (by omega) (by omega))]))) ?_
  show Gets _ _ (codeAt [1, 1, 1, 1, 0, 1, 0, 0, 1, 0, 0, 1, 1, 1, 1, 1] B) _ _
  rw [C1_1_1_1_0_1_0_0_1_0_0_1_1_1_1_1]; refine Gets.seq ?_
  refine Gets.ofN fitT desk_sound (conT_agree _ _) 12 40 (by kernel_rfl) (x := .normal) (s' := (S25 n t L e0)) ((R15 n t L e0).trans (by rw [condF (decide_eq_false (by ((try simp (disch := omega) only [wrap_i64_id, List.length_set, List.length_replicate, Int.tdiv_eq_ediv_of_nonneg, Int.tmod_eq_emod_of_nonneg]) <;> omega))), condF (decide_eq_false (by ((try simp (disch := omega) only [wrap_i64_id, List.length_set, List.length_replicate, Int.tdiv_eq_ediv_of_nonneg, Int.tmod_eq_emod_of_nonneg]) <;> omega)))] <;> (show some (Ex.normal, (S24 n t L e0)) = some (Ex.normal, (S25 n t L e0)); unfold S24 S25; rw [(show (IntKind.wrap .i64 ((3 + 2 * t) - 2)) = ((3 + 2 * t) - 2) from wrap_i64_id (by omega) (by omega))]))) ?_
  show Gets _ _ (codeAt [1, 1, 1, 1, 0, 1, 0, 0, 1, 0, 0, 1, 1, 1, 1, 1, 1] B) _ _
  rw [C1_1_1_1_0_1_0_0_1_0_0_1_1_1_1_1_1]; refine Gets.seq ?_
  refine Gets.ofN fitT desk_sound (conT_agree _ _) 12 40 (by kernel_rfl) (x := .normal) (s' := (S27 n t L e0)) ((R16 n t L e0).trans (by rw [condF (ibne_f (by ((try simp (disch := omega) only [wrap_i64_id, List.length_set, List.length_replicate, Int.tdiv_eq_ediv_of_nonneg, Int.tmod_eq_emod_of_nonneg]) <;> omega))), condF (ibne_f (by ((try simp (disch := omega) only [wrap_i64_id, List.length_set, List.length_replicate, Int.tdiv_eq_ediv_of_nonneg, Int.tmod_eq_emod_of_nonneg]) <;> omega))), condF (ibeq_f (by ((try simp (disch := omega) only [wrap_i64_id, List.length_set, List.length_replicate, Int.tdiv_eq_ediv_of_nonneg, Int.tmod_eq_emod_of_nonneg]) <;> omega)))])) ?_
  show Gets _ _ (codeAt [1, 1, 1, 1, 0, 1, 0, 0, 1, 0, 0, 1, 1, 1, 1, 1, 1, 1] B) _ _
  rw [C1_1_1_1_0_1_0_0_1_0_0_1_1_1_1_1_1_1]; refine Gets.cond false (by kernel_rfl) ((show evalX (KSt.ts (S27 n t L e0)) (.tmp 93) = .bool (!((Int.tmod ((3 + 2 * t) - 2) 2) == 1)) by kernel_rfl).trans (by rw [(show (!((Int.tmod ((3 + 2 * t) - 2) 2) == 1)) = false from not_f (ibeq_t (by ((try simp (disch := omega) only [wrap_i64_id, List.length_set, List.length_replicate, Int.tdiv_eq_ediv_of_nonneg, Int.tmod_eq_emod_of_nonneg]) <;> omega))))])) ?_; show Gets _ _ (codeAt [1, 1, 1, 1, 0, 1, 0, 0, 1, 0, 0, 1, 1, 1, 1, 1, 1, 1, 1] B) _ _
  refine Gets.ofN fitT desk_sound (conT_agree _ _) 12 40 (by kernel_rfl) (x := .normal) (s' := (S28 n t L e0)) (R17 n t L e0) ?_
  show Gets _ _ (codeAt [1, 1, 1, 1, 0, 1, 0, 0, 1, 1] B) _ _
  refine Gets.ofN fitT desk_sound (conT_agree _ _) 12 40 (by kernel_rfl) (x := .normal) (s' := (S30 n t L e0)) ((R18 n t L e0).trans (by (show some (Ex.normal, (S29 n t L e0)) = some (Ex.normal, (S30 n t L e0)); unfold S29 S30; rw [(show (IntKind.wrap .i64 (t + 1)) = (t + 1) from wrap_i64_id (by omega) (by omega))]))) ?_
  exact hq
theorem C1_1_1_1_0_1_0_0_0_1_1 : (codeAt [1, 1, 1, 1, 0, 1, 0, 0, 0, 1, 1] B) = .exit 0 := by kernel_rfl
theorem ex (th n t j : Int) (L : List Int) (e0 : TypeId) (ht : t = n)   {Q : Ex → St → Prop} (hq : Q (.exit 0) (KSt.low (S9 n t L e0))) : Gets Tryd.prog (KH.low ⟨1, 1, [(0, 0, .cells [(.int .i64 1), (.int .i64 64), (.int .i64 1), (.int .i64 64)] e0 false)]⟩) (codeAt [1, 1, 1, 1, 0, 1, 0, 0] B) (KSt.low (S8 n t L e0)) Q := by
  rw [C1_1_1_1_0_1_0_0]; refine Gets.seq ?_
  rw [C1_1_1_1_0_1_0_0_0]; refine Gets.seq ?_
  refine Gets.ofN fitT desk_sound (conT_agree _ _) 12 40 (by kernel_rfl) (x := .normal) (s' := (S9 n t L e0)) (R7 n t L e0) ?_
  show Gets _ _ (codeAt [1, 1, 1, 1, 0, 1, 0, 0, 0, 1] B) _ _
  rw [C1_1_1_1_0_1_0_0_0_1]; refine Gets.cond false (by kernel_rfl) ((show evalX (KSt.ts (S9 n t L e0)) (.tmp 32) = .bool (decide (t < n)) by kernel_rfl).trans (by rw [(show (decide (t < n)) = false from decide_eq_false (by ((try simp (disch := omega) only [wrap_i64_id, List.length_set, List.length_replicate, Int.tdiv_eq_ediv_of_nonneg, Int.tmod_eq_emod_of_nonneg]) <;> omega)))])) ?_; show Gets _ _ (codeAt [1, 1, 1, 1, 0, 1, 0, 0, 0, 1, 1] B) _ _
  rw [C1_1_1_1_0_1_0_0_0_1_1]; refine Gets.ev fitT.mix fitT.cfg (fitT.sound desk_sound 12 0) 12 rfl (s' := KSt.low (S9 n t L e0)) (x := (.exit 0)) rfl ?_
  exact hq
theorem C1_1_1_1_1 : (codeAt [1, 1, 1, 1, 1] B) = .seq (codeAt [1, 1, 1, 1, 1, 0] B) (codeAt [1, 1, 1, 1, 1, 1] B) := by kernel_rfl
theorem C1_1_1_1_1_0 : (codeAt [1, 1, 1, 1, 1, 0] B) = .seq (codeAt [1, 1, 1, 1, 1, 0, 0] B) (codeAt [1, 1, 1, 1, 1, 0, 1] B) := by kernel_rfl
noncomputable def S31 (n : Int) (L : List Int) (e0 : TypeId) : KSt := ⟨(frameL 124 [(4, (.slice (some ⟨1, 0, none⟩) (Int.toNat (2 + (2 * n))) (Int.toNat (2 + (2 * n))))), (12, (.int .i64 2))]), ⟨2, 1, [(1, 0, .ints .i64 L 3 true), (0, 0, .cells [(.int .i64 1), (.int .i64 64), (.int .i64 1), (.int .i64 64)] e0 false)]⟩⟩
theorem R19 (n : Int) (t : Int) (L : List Int) (e0 : TypeId) : evCK Tryd.prog cfgT (runK Tryd.prog cfgT fsT (conT deskDom deskE) 12 40) 12 (codeAt [1, 1, 1, 1, 1, 0, 0] B) (S9 n t L e0) (normC 1 [4, 12]) =
  some (.normal, (S31 n L e0)) := by kernel_rfl
theorem mid (th n t j : Int) (L : List Int) (e0 : TypeId)   {Q : Ex → St → Prop} (hq : Gets Tryd.prog (KH.low ⟨1, 1, [(0, 0, .cells [(.int .i64 1), (.int .i64 64), (.int .i64 1), (.int .i64 64)] e0 false)]⟩) (codeAt [1, 1, 1, 1, 1, 0, 1] B) (KSt.low (S31 n L e0)) (onN (fun s => Gets Tryd.prog (KH.low ⟨1, 1, [(0, 0, .cells [(.int .i64 1), (.int .i64 64), (.int .i64 1), (.int .i64 64)] e0 false)]⟩) (codeAt [1, 1, 1, 1, 1, 1] B) s (Q)) (Q))) : Gets Tryd.prog (KH.low ⟨1, 1, [(0, 0, .cells [(.int .i64 1), (.int .i64 64), (.int .i64 1), (.int .i64 64)] e0 false)]⟩) (codeAt [1, 1, 1, 1, 1] B) (KSt.low (S9 n t L e0)) Q := by
  rw [C1_1_1_1_1]; refine Gets.seq ?_
  rw [C1_1_1_1_1_0]; refine Gets.seq ?_
  refine Gets.ofN fitT desk_sound (conT_agree _ _) 12 40 (by kernel_rfl) (x := .normal) (s' := (S31 n L e0)) (R19 n t L e0) ?_
  show Gets _ _ (codeAt [1, 1, 1, 1, 1, 0, 1] B) _ _
  exact hq
noncomputable def S32 (n : Int) (j : Int) (L : List Int) (e0 : TypeId) : KSt := ⟨(frameL 124 [(4, (.slice (some ⟨1, 0, none⟩) (Int.toNat (2 + (2 * n))) (Int.toNat (2 + (2 * n))))), (12, (.int .i64 j))]), ⟨2, 1, [(1, 0, .ints .i64 L 3 true), (0, 0, .cells [(.int .i64 1), (.int .i64 64), (.int .i64 1), (.int .i64 64)] e0 false)]⟩⟩
theorem C1_1_1_1_1_0_1_0_0 : (codeAt [1, 1, 1, 1, 1, 0, 1, 0, 0] B) = .seq (codeAt [1, 1, 1, 1, 1, 0, 1, 0, 0, 0] B) (codeAt [1, 1, 1, 1, 1, 0, 1, 0, 0, 1] B) := by kernel_rfl
theorem C1_1_1_1_1_0_1_0_0_0 : (codeAt [1, 1, 1, 1, 1, 0, 1, 0, 0, 0] B) = .seq (codeAt [1, 1, 1, 1, 1, 0, 1, 0, 0, 0, 0] B) (codeAt [1, 1, 1, 1, 1, 0, 1, 0, 0, 0, 1] B) := by kernel_rfl
noncomputable def S33 (n : Int) (j : Int) (L : List Int) (e0 : TypeId) : KSt := ⟨(frameL 124 [(4, (.slice (some ⟨1, 0, none⟩) (Int.toNat (2 + (2 * n))) (Int.toNat (2 + (2 * n))))), (12, (.int .i64 j)), (97, (.bool (decide (j < (((Int.toNat (2 + (2 * n))) : Nat) : Int)))))]), ⟨2, 1, [(1, 0, .ints .i64 L 3 true), (0, 0, .cells [(.int .i64 1), (.int .i64 64), (.int .i64 1), (.int .i64 64)] e0 false)]⟩⟩
theorem R20 (n : Int) (j : Int) (L : List Int) (e0 : TypeId) : evCK Tryd.prog cfgT (runK Tryd.prog cfgT fsT (conT deskDom deskE) 12 40) 12 (codeAt [1, 1, 1, 1, 1, 0, 1, 0, 0, 0, 0] B) (S32 n j L e0) (normC 1 [4, 12, 97]) =
  some (.normal, (S33 n j L e0)) := by kernel_rfl
theorem C1_1_1_1_1_0_1_0_0_0_1 : (codeAt [1, 1, 1, 1, 1, 0, 1, 0, 0, 0, 1] B) = .cond (.tmp 97) (codeAt [1, 1, 1, 1, 1, 0, 1, 0, 0, 0, 1, 0] B) (codeAt [1, 1, 1, 1, 1, 0, 1, 0, 0, 0, 1, 1] B) := by kernel_rfl
theorem R21 (n : Int) (j : Int) (L : List Int) (e0 : TypeId) : evCK Tryd.prog cfgT (runK Tryd.prog cfgT fsT (conT deskDom deskE) 12 40) 12 (codeAt [1, 1, 1, 1, 1, 0, 1, 0, 0, 0, 1, 0] B) (S33 n j L e0) (normC 1 [4, 12]) =
  some (.normal, (S32 n j L e0)) := by kernel_rfl
theorem C1_1_1_1_1_0_1_0_0_1 : (codeAt [1, 1, 1, 1, 1, 0, 1, 0, 0, 1] B) = .seq (codeAt [1, 1, 1, 1, 1, 0, 1, 0, 0, 1, 0] B) (codeAt [1, 1, 1, 1, 1, 0, 1, 0, 0, 1, 1] B) := by kernel_rfl
theorem C1_1_1_1_1_0_1_0_0_1_0 : (codeAt [1, 1, 1, 1, 1, 0, 1, 0, 0, 1, 0] B) = .block 3 (codeAt [1, 1, 1, 1, 1, 0, 1, 0, 0, 1, 0, 0] B) := by kernel_rfl
theorem C1_1_1_1_1_0_1_0_0_1_0_0 : (codeAt [1, 1, 1, 1, 1, 0, 1, 0, 0, 1, 0, 0] B) = .seq (codeAt [1, 1, 1, 1, 1, 0, 1, 0, 0, 1, 0, 0, 0] B) (codeAt [1, 1, 1, 1, 1, 0, 1, 0, 0, 1, 0, 0, 1] B) := by kernel_rfl
noncomputable def S34 (n : Int) (j : Int) (n1 : Int) (L : List Int) (e0 : TypeId) : KSt := ⟨(frameL 124 [(4, (.slice (some ⟨1, 0, none⟩) (Int.toNat (2 + (2 * n))) (Int.toNat (2 + (2 * n))))), (12, (.int .i64 j)), (104, (.bool (n1 != 1)))]), ⟨2, 1, [(1, 0, .ints .i64 L 3 true), (0, 0, .cells [(.int .i64 1), (.int .i64 64), (.int .i64 1), (.int .i64 64)] e0 false)]⟩⟩
theorem R22 (n : Int) (j : Int) (L : List Int) (e0 : TypeId) : evCK Tryd.prog cfgT (runK Tryd.prog cfgT fsT (conT deskDom deskE) 12 40) 12 (codeAt [1, 1, 1, 1, 1, 0, 1, 0, 0, 1, 0, 0, 0] B) (S32 n j L e0) (normC 1 [4, 12, 104]) =
  if 0 ≤ j ∧ j < (((Int.toNat (2 + (2 * n))) : Nat) : Int) then
    obind (L[(0 + ((Int.toNat j) * 1))]?) fun n1 =>
      some (.normal, (S34 n j n1 L e0))
  else
    none := by kernel_rfl
noncomputable def S35 (n : Int) (j : Int) (L : List Int) (e0 : TypeId) : KSt := ⟨(frameL 124 [(4, (.slice (some ⟨1, 0, none⟩) (Int.toNat (2 + (2 * n))) (Int.toNat (2 + (2 * n))))), (12, (.int .i64 j)), (104, (.bool ((L.getD (0 + ((Int.toNat j) * 1)) 0) != 1)))]), ⟨2, 1, [(1, 0, .ints .i64 L 3 true), (0, 0, .cells [(.int .i64 1), (.int .i64 64), (.int .i64 1), (.int .i64 64)] e0 false)]⟩⟩
theorem C1_1_1_1_1_0_1_0_0_1_0_0_1 : (codeAt [1, 1, 1, 1, 1, 0, 1, 0, 0, 1, 0, 0, 1] B) = .cond (.tmp 104) (codeAt [1, 1, 1, 1, 1, 0, 1, 0, 0, 1, 0, 0, 1, 0] B) (codeAt [1, 1, 1, 1, 1, 0, 1, 0, 0, 1, 0, 0, 1, 1] B) := by kernel_rfl
theorem R23 (n : Int) (j : Int) (L : List Int) (e0 : TypeId) : evCK Tryd.prog cfgT (runK Tryd.prog cfgT fsT (conT deskDom deskE) 12 40) 12 (codeAt [1, 1, 1, 1, 1, 0, 1, 0, 0, 1, 0, 0, 1, 1] B) (S35 n j L e0) (normC 1 [4, 12]) =
  some (.normal, (S32 n j L e0)) := by kernel_rfl
noncomputable def S36 (n : Int) (j : Int) (L : List Int) (e0 : TypeId) : KSt := ⟨(frameL 124 [(4, (.slice (some ⟨1, 0, none⟩) (Int.toNat (2 + (2 * n))) (Int.toNat (2 + (2 * n))))), (12, (.int .i64 (IntKind.wrap .i64 (j + 1))))]), ⟨2, 1, [(1, 0, .ints .i64 L 3 true), (0, 0, .cells [(.int .i64 1), (.int .i64 64), (.int .i64 1), (.int .i64 64)] e0 false)]⟩⟩
theorem R24 (n : Int) (j : Int) (L : List Int) (e0 : TypeId) : evCK Tryd.prog cfgT (runK Tryd.prog cfgT fsT (conT deskDom deskE) 12 40) 12 (codeAt [1, 1, 1, 1, 1, 0, 1, 0, 0, 1, 1] B) (S32 n j L e0) (normC 1 [4, 12]) =
  some (.normal, (S36 n j L e0)) := by kernel_rfl
noncomputable def S37 (n : Int) (j : Int) (L : List Int) (e0 : TypeId) : KSt := ⟨(frameL 124 [(4, (.slice (some ⟨1, 0, none⟩) (Int.toNat (2 + (2 * n))) (Int.toNat (2 + (2 * n))))), (12, (.int .i64 (j + 1)))]), ⟨2, 1, [(1, 0, .ints .i64 L 3 true), (0, 0, .cells [(.int .i64 1), (.int .i64 64), (.int .i64 1), (.int .i64 64)] e0 false)]⟩⟩
theorem rj (th n t j : Int) (L : List Int) (e0 : TypeId) (hn1 : 1 ≤ n) (hn64 : n ≤ 64) (hL : L.length = Int.toNat (2 + (2 * n))) (hj : 2 ≤ j) (hj2 : j < 2 + 2 * n) (hv : (L.getD (0 + ((Int.toNat j) * 1)) 0) = 1)   {Q : Ex → St → Prop} (hq : Q .normal (KSt.low (S37 n j L e0))) : Gets Tryd.prog (KH.low ⟨1, 1, [(0, 0, .cells [(.int .i64 1), (.int .i64 64), (.int .i64 1), (.int .i64 64)] e0 false)]⟩) (codeAt [1, 1, 1, 1, 1, 0, 1, 0, 0] B) (KSt.low (S32 n j L e0)) Q := by
  rw [C1_1_1_1_1_0_1_0_0]; refine Gets.seq ?_
  rw [C1_1_1_1_1_0_1_0_0_0]; refine Gets.seq ?_
  refine Gets.ofN fitT desk_sound (conT_agree _ _) 12 40 (by kernel_rfl) (x := .normal) (s' := (S33 n j L e0)) (R20 n j L e0) ?_
  show Gets _ _ (codeAt [1, 1, 1, 1, 1, 0, 1, 0, 0, 0, 1] B) _ _
  rw [C1_1_1_1_1_0_1_0_0_0_1]; refine Gets.cond true (by kernel_rfl) ((show evalX (KSt.ts (S33 n j L e0)) (.tmp 97) = .bool (decide (j < (((Int.toNat (2 + (2 * n))) : Nat) : Int))) by kernel_rfl).trans (by rw [(show (decide (j < (((Int.toNat (2 + (2 * n))) : Nat) : Int))) = true from decide_eq_true (by ((try simp (disch := omega) only [wrap_i64_id, List.length_set, List.length_replicate, Int.tdiv_eq_ediv_of_nonneg, Int.tmod_eq_emod_of_nonneg]) <;> omega)))])) ?_; show Gets _ _ (codeAt [1, 1, 1, 1, 1, 0, 1, 0, 0, 0, 1, 0] B) _ _
  refine Gets.ofN fitT desk_sound (conT_agree _ _) 12 40 (by kernel_rfl) (x := .normal) (s' := (S32 n j L e0)) (R21 n j L e0) ?_
  show Gets _ _ (codeAt [1, 1, 1, 1, 1, 0, 1, 0, 0, 1] B) _ _
  rw [C1_1_1_1_1_0_1_0_0_1]; refine Gets.seq ?_
  rw [C1_1_1_1_1_0_1_0_0_1_0]; refine Gets.block ?_
  rw [C1_1_1_1_1_0_1_0_0_1_0_0]; refine Gets.seq ?_
  refine Gets.ofN fitT desk_sound (conT_agree _ _) 12 40 (by kernel_rfl) (x := .normal) (s' := (S35 n j L e0)) ((R22 n j L e0).trans (by rw [if_pos (⟨by ((try simp (disch := omega) only [wrap_i64_id, List.length_set, List.length_replicate, Int.tdiv_eq_ediv_of_nonneg, Int.tmod_eq_emod_of_nonneg]) <;> omega), by ((try simp (disch := omega) only [wrap_i64_id, List.length_set, List.length_replicate, Int.tdiv_eq_ediv_of_nonneg, Int.tmod_eq_emod_of_nonneg]) <;> omega)⟩), obind_at (k := 0 + ((Int.toNat j) * 1)) (by ((try simp (disch := omega) only [wrap_i64_id, List.length_set, List.length_replicate, Int.tdiv_eq_ediv_of_nonneg, Int.tmod_eq_emod_of_nonneg]) <;> omega)) (by ((try simp (disch := omega) only [wrap_i64_id, List.length_set, List.length_replicate, Int.tdiv_eq_ediv_of_nonneg, Int.tmod_eq_emod_of_nonneg]) <;> omega))] <;> rfl)) ?_
  show Gets _ _ (codeAt [1, 1, 1, 1, 1, 0, 1, 0, 0, 1, 0, 0, 1] B) _ _
  rw [C1_1_1_1_1_0_1_0_0_1_0_0_1]; refine Gets.cond false (by kernel_rfl) ((show evalX (KSt.ts (S35 n j L e0)) (.tmp 104) = .bool ((L.getD (0 + ((Int.toNat j) * 1)) 0) != 1) by kernel_rfl).trans (by rw [(show ((L.getD (0 + ((Int.toNat j) * 1)) 0) != 1) = false from ibne_f (by ((try simp (disch := omega) only [wrap_i64_id, List.length_set, List.length_replicate, Int.tdiv_eq_ediv_of_nonneg, Int.tmod_eq_emod_of_nonneg]) <;> omega)))])) ?_; show Gets _ _ (codeAt [1, 1, 1, 1, 1, 0, 1, 0, 0, 1, 0, 0, 1, 1] B) _ _
  refine Gets.ofN fitT desk_sound (conT_agree _ _) 12 40 (by kernel_rfl) (x := .normal) (s' := (S32 n j L e0)) (R23 n j L e0) ?_
  show Gets _ _ (codeAt [1, 1, 1, 1, 1, 0, 1, 0, 0, 1, 1] B) _ _
  refine Gets.ofN fitT desk_sound (conT_agree _ _) 12 40 (by kernel_rfl) (x := .normal) (s' := (S37 n j L e0)) ((R24 n j L e0).trans (by (show some (Ex.normal, (S36 n j L e0)) = some (Ex.normal, (S37 n j L e0)); unfold S36 S37; rw [(show (IntKind.wrap .i64 (j + 1)) = (j + 1) from wrap_i64_id (by omega) (by omega))]))) ?_
  exact hq
theorem C1_1_1_1_1_0_1_0_0_0_1_1 : (codeAt [1, 1, 1, 1, 1, 0, 1, 0, 0, 0, 1, 1] B) = .exit 2 := by kernel_rfl
theorem ej (th n t j : Int) (L : List Int) (e0 : TypeId) (hn1 : 1 ≤ n) (hn64 : n ≤ 64) (hL : L.length = Int.toNat (2 + (2 * n))) (hj : j = 2 + 2 * n)   {Q : Ex → St → Prop} (hq : Q (.exit 2) (KSt.low (S33 n j L e0))) : Gets Tryd.prog (KH.low ⟨1, 1, [(0, 0, .cells [(.int .i64 1), (.int .i64 64), (.int .i64 1), (.int .i64 64)] e0 false)]⟩) (codeAt [1, 1, 1, 1, 1, 0, 1, 0, 0] B) (KSt.low (S32 n j L e0)) Q := by
  rw [C1_1_1_1_1_0_1_0_0]; refine Gets.seq ?_
  rw [C1_1_1_1_1_0_1_0_0_0]; refine Gets.seq ?_
  refine Gets.ofN fitT desk_sound (conT_agree _ _) 12 40 (by kernel_rfl) (x := .normal) (s' := (S33 n j L e0)) (R20 n j L e0) ?_
  show Gets _ _ (codeAt [1, 1, 1, 1, 1, 0, 1, 0, 0, 0, 1] B) _ _
  rw [C1_1_1_1_1_0_1_0_0_0_1]; refine Gets.cond false (by kernel_rfl) ((show evalX (KSt.ts (S33 n j L e0)) (.tmp 97) = .bool (decide (j < (((Int.toNat (2 + (2 * n))) : Nat) : Int))) by kernel_rfl).trans (by rw [(show (decide (j < (((Int.toNat (2 + (2 * n))) : Nat) : Int))) = false from decide_eq_false (by ((try simp (disch := omega) only [wrap_i64_id, List.length_set, List.length_replicate, Int.tdiv_eq_ediv_of_nonneg, Int.tmod_eq_emod_of_nonneg]) <;> omega)))])) ?_; show Gets _ _ (codeAt [1, 1, 1, 1, 1, 0, 1, 0, 0, 0, 1, 1] B) _ _
  rw [C1_1_1_1_1_0_1_0_0_0_1_1]; refine Gets.ev fitT.mix fitT.cfg (fitT.sound desk_sound 12 0) 12 rfl (s' := KSt.low (S33 n j L e0)) (x := (.exit 2)) rfl ?_
  exact hq
theorem C1_1_1_1_1_1 : (codeAt [1, 1, 1, 1, 1, 1] B) = .seq (codeAt [1, 1, 1, 1, 1, 1, 0] B) (codeAt [1, 1, 1, 1, 1, 1, 1] B) := by kernel_rfl
noncomputable def S38 (e0 : TypeId) : KSt := ⟨(frameL 124 [(13, (.int .i64 (-1)))]), ⟨1, 1, [(0, 0, .cells [(.int .i64 1), (.int .i64 64), (.int .i64 1), (.int .i64 64)] e0 false)]⟩⟩
theorem R25 (n : Int) (j : Int) (L : List Int) (e0 : TypeId) : evCK Tryd.prog cfgT (runK Tryd.prog cfgT fsT (conT deskDom deskE) 12 40) 12 (codeAt [1, 1, 1, 1, 1, 1, 0] B) (S33 n j L e0) (normC 1 [13]) =
  some (.normal, (S38 e0)) := by kernel_rfl
theorem C1_1_1_1_1_1_1 : (codeAt [1, 1, 1, 1, 1, 1, 1] B) = .seq (codeAt [1, 1, 1, 1, 1, 1, 1, 0] B) (codeAt [1, 1, 1, 1, 1, 1, 1, 1] B) := by kernel_rfl
noncomputable def S39 (e0 : TypeId) : KSt := ⟨(frameL 124 [(13, (.int .i64 (-1))), (15, (.int .i64 (-1)))]), ⟨1, 1, [(0, 0, .cells [(.int .i64 1), (.int .i64 64), (.int .i64 1), (.int .i64 64)] e0 false)]⟩⟩
theorem R26 (e0 : TypeId) : evCK Tryd.prog cfgT (runK Tryd.prog cfgT fsT (conT deskDom deskE) 12 40) 12 (codeAt [1, 1, 1, 1, 1, 1, 1, 0] B) (S38 e0) (normC 1 [13, 15]) =
  some (.normal, (S39 e0)) := by kernel_rfl
theorem C1_1_1_1_1_1_1_1 : (codeAt [1, 1, 1, 1, 1, 1, 1, 1] B) = .seq (codeAt [1, 1, 1, 1, 1, 1, 1, 1, 0] B) (codeAt [1, 1, 1, 1, 1, 1, 1, 1, 1] B) := by kernel_rfl
noncomputable def S40 (e0 : TypeId) : KSt := ⟨(frameL 124 [(2, (.bool true))]), ⟨1, 1, [(0, 0, .cells [(.int .i64 1), (.int .i64 64), (.int .i64 1), (.int .i64 64)] e0 false)]⟩⟩
theorem R27 (e0 : TypeId) : evCK Tryd.prog cfgT (runK Tryd.prog cfgT fsT (conT deskDom deskE) 12 40) 12 (codeAt [1, 1, 1, 1, 1, 1, 1, 1, 0] B) (S39 e0) (normC 1 [2]) =
  some (.normal, (S40 e0)) := by kernel_rfl
theorem C1_1_1_1_1_1_1_1_1 : (codeAt [1, 1, 1, 1, 1, 1, 1, 1, 1] B) = .ret := by kernel_rfl
theorem fi (th n t j : Int) (L : List Int) (e0 : TypeId)   {Q : Ex → St → Prop} (hq : Q .ret (KSt.low (S40 e0))) : Gets Tryd.prog (KH.low ⟨1, 1, [(0, 0, .cells [(.int .i64 1), (.int .i64 64), (.int .i64 1), (.int .i64 64)] e0 false)]⟩) (codeAt [1, 1, 1, 1, 1, 1] B) (KSt.low (S33 n j L e0)) Q := by
  rw [C1_1_1_1_1_1]; refine Gets.seq ?_
  refine Gets.ofN fitT desk_sound (conT_agree _ _) 12 40 (by kernel_rfl) (x := .normal) (s' := (S38 e0)) (R25 n j L e0) ?_
  show Gets _ _ (codeAt [1, 1, 1, 1, 1, 1, 1] B) _ _
  rw [C1_1_1_1_1_1_1]; refine Gets.seq ?_
  refine Gets.ofN fitT desk_sound (conT_agree _ _) 12 40 (by kernel_rfl) (x := .normal) (s' := (S39 e0)) (R26 e0) ?_
  show Gets _ _ (codeAt [1, 1, 1, 1, 1, 1, 1, 1] B) _ _
  rw [C1_1_1_1_1_1_1_1]; refine Gets.seq ?_
  refine Gets.ofN fitT desk_sound (conT_agree _ _) 12 40 (by kernel_rfl) (x := .normal) (s' := (S40 e0)) (R27 e0) ?_
  show Gets _ _ (codeAt [1, 1, 1, 1, 1, 1, 1, 1, 1] B) _ _
  rw [C1_1_1_1_1_1_1_1_1]; refine Gets.ev fitT.mix fitT.cfg (fitT.sound desk_sound 12 0) 12 rfl (s' := KSt.low (S40 e0)) (x := .ret) rfl ?_
  exact hq
theorem C1_1_1_1_0_1 : (codeAt [1, 1, 1, 1, 0, 1] B) = .block 0 (codeAt [1, 1, 1, 1, 0, 1, 0] B) := by kernel_rfl
theorem C1_1_1_1_0_1_0 : (codeAt [1, 1, 1, 1, 0, 1, 0] B) = .loop (codeAt [1, 1, 1, 1, 0, 1, 0, 0] B) := by kernel_rfl
theorem C1_1_1_1_1_0_1 : (codeAt [1, 1, 1, 1, 1, 0, 1] B) = .block 2 (codeAt [1, 1, 1, 1, 1, 0, 1, 0] B) := by kernel_rfl
theorem C1_1_1_1_1_0_1_0 : (codeAt [1, 1, 1, 1, 1, 0, 1, 0] B) = .loop (codeAt [1, 1, 1, 1, 1, 0, 1, 0, 0] B) := by kernel_rfl
noncomputable def QE : Ex → St → Prop := Eng.Ends Tryd.prog Tryd.f4.results.toList fun r _ => r = .bool true
theorem qe_true {s : KSt} (h : resL Tryd.prog s.low Tryd.f4.results.toList = some [.bool true]) : QE .ret s.low := Ends.of h rfl
inductive JInv (n : Int) (L : List Int) (e0 : TypeId) : Nat → KSt → Prop
  | at_ (j : Int) (hj : 2 ≤ j) (hj2 : j ≤ 2 + 2 * n) : JInv n L e0 (2 + 2 * n - j).toNat (S32 n j L e0)
theorem loopJ (n : Int) (L : List Int) (e0 : TypeId) (hn1 : 1 ≤ n) (hn64 : n ≤ 64) (hH : Had n n L) (m : Nat) (s : KSt) (hI : JInv n L e0 m s) :
    Gets Tryd.prog (KH.low ⟨1, 1, [(0, 0, .cells [(.int .i64 1), (.int .i64 64), (.int .i64 1), (.int .i64 64)] e0 false)]⟩) (codeAt [1, 1, 1, 1, 1, 0, 1] B) s.low (onN (fun s => Gets Tryd.prog (KH.low ⟨1, 1, [(0, 0, .cells [(.int .i64 1), (.int .i64 64), (.int .i64 1), (.int .i64 64)] e0 false)]⟩) (codeAt [1, 1, 1, 1, 1, 1] B) s (QE)) (QE)) := by
  rw [C1_1_1_1_1_0_1, C1_1_1_1_1_0_1_0]
  refine Gets.loopG (fun m s => JInv n L e0 m s) ?_ _ _ hI
  clear hI m s
  intro m s hI
  cases hI with
  | at_ j hj hj2 =>
    by_cases hx : j = 2 + 2 * n
    · refine ej 0 n 0 j L e0 hn1 hn64 hH.len hx ?_
      refine ⟨fun _ => ?_, fun h => by cases h⟩
      exact fi 0 n 0 j L e0 (qe_true (by kernel_rfl))
    · refine rj 0 n 0 j L e0 hn1 hn64 hH.len hj (by omega) (hadv hH hj (by omega)) ?_
      exact ⟨_, _, by omega, rfl, .at_ (j + 1) (by omega) (by omega)⟩
inductive TInv (n : Int) (e0 : TypeId) : Nat → KSt → Prop
  | at_ (t : Int) (L : List Int) (ht : 0 ≤ t) (htn : t ≤ n) (hH : Had n t L) : TInv n e0 (n - t).toNat (S8 n t L e0)
theorem loopT (n : Int) (e0 : TypeId) (hn1 : 1 ≤ n) (hn64 : n ≤ 64) (m : Nat) (s : KSt) (hI : TInv n e0 m s) :
    Gets Tryd.prog (KH.low ⟨1, 1, [(0, 0, .cells [(.int .i64 1), (.int .i64 64), (.int .i64 1), (.int .i64 64)] e0 false)]⟩) (codeAt [1, 1, 1, 1, 0, 1] B) s.low (onN (fun s => Gets Tryd.prog (KH.low ⟨1, 1, [(0, 0, .cells [(.int .i64 1), (.int .i64 64), (.int .i64 1), (.int .i64 64)] e0 false)]⟩) (codeAt [1, 1, 1, 1, 1] B) s (QE)) (QE)) := by
  rw [C1_1_1_1_0_1, C1_1_1_1_0_1_0]
  refine Gets.loopG (fun m s => TInv n e0 m s) ?_ _ _ hI
  clear hI m s
  intro m s hI
  cases hI with
  | at_ t L ht htn hH =>
    by_cases hx : t = n
    · refine ex 0 n t 0 L e0 hx ?_
      refine ⟨fun _ => ?_, fun h => by cases h⟩
      subst hx
      refine mid 0 t t 0 L e0 ?_
      exact loopJ t L e0 hn1 hn64 hH _ _ (.at_ 2 (by omega) (by omega))
    · have ha : tabCellV t = 2 + 2 * t := by unfold tabCellV; rw [if_pos (by omega)]
      have hb : boxCellV t = 3 + 2 * t := by unfold boxCellV; rw [if_pos (by omega)]
      refine rd 0 n t 0 L e0 hn1 hn64 hH.len ht (by omega) ha hb (hadz0 hH ht) (hadz1 hH ht) ?_
      exact ⟨_, _, by omega, rfl, .at_ (t + 1) _ (by omega) (by omega) (had1 hH ht (by omega))⟩
theorem told (th : Int) (e0 : TypeId) (h0 : 0 ≤ th) (h1 : th < 256) : Tells Tryd.prog 4 [.int .u8 th] (varH .i64 [1, 64, 1, 64] e0).low (.bool true) := by
  refine Gets.tells Tryd.func4 B_is (by rw [oneVar]; exact Nat.le_refl _) rfl ?_ Ro.varH
  show Gets Tryd.prog (KH.low ⟨1, 1, [(0, 0, .cells [(.int .i64 1), (.int .i64 64), (.int .i64 1), (.int .i64 64)] e0 false)]⟩) B (KSt.low (S0 th e0)) QE
  obtain ⟨n, hn⟩ : ∃ n, (IntKind.wrap .i64 ((Int.tmod (IntKind.wrap .i64 th) 64) + 1)) = n := ⟨_, rfl⟩
  have hb : 1 ≤ n ∧ n ≤ 64 := by
    rw [← hn, wrap_i64_id (n := th) (by omega) (by omega), Int.tmod_eq_emod_of_nonneg h0, wrap_i64_id (by omega) (by omega)]
    omega
  have hs : deskSizeV n = 2 + 2 * n := by unfold deskSizeV; rw [if_pos (by omega)]
  refine pre th n 0 0 [] e0 h0 h1 hn hb.1 hb.2 hs ?_
  exact loopT n e0 hb.1 hb.2 _ _ (.at_ 0 _ (by omega) (by omega) had0)
theorem own : ownKnob Tryd.prog.godebug = none := by kernel_rfl
def laidV0 : List (String × DataW Unit) := laidV
/-- The door's own heap meets the condition. -/
theorem door_met (os : Os) (args : Array Value) : laidMetH Tryd.prog laidV ((World.doorLaid Tryd.prog 400 os).forCall (fun _ _ => 0) ⟨#[], args, []⟩).memory :=
  laidMetH_of_parts3 (fuel := 8) (laidMet_of_run' 8 (by kernel_rfl) (by kernel_rfl)) (by kernel_rfl) (by kernel_rfl)
theorem lifted (os : Os) (started : os.Started) (H : Type) (enc : TypeId × Value → H) :
    ReturnsInHanded {} Tryd.checked os 4 .any (fun w args => (Rows.deskApartSpec.pre enc Tryd.prog Tryd.f4 [] false w args ∧ laidMetH Tryd.prog laidV w) ∧ sizedMet enc Tryd.prog Tryd.f4 (OpenSpec.ofChange Rows.deskApartSpec) false w args)
      (Rows.deskApartSpec.post enc Tryd.prog Tryd.f4 false true false false) := by
  refine returnsInHanded_of_change_and (C := Tryd.checked) (X := fun w _ => laidMetH Tryd.prog laidV w) (fun _ _ _ hh h => h.of_heap hh) own started (by kernel_rfl) Tryd.func4
    (ChangeSpec.witness_shaped (enc := enc) (C := Tryd.checked) (os := os) (X := fun w _ => laidMetH Tryd.prog laidV w) false (World.doorLaid Tryd.prog 400 os) #[.int .u8 0] 8 rfl (World.shaped_of_RefB (by kernel_rfl) (by kernel_rfl)) (by kernel_rfl) (by kernel_rfl) (by kernel_rfl) (door_met os _)) ?_
  intro W base args ds gs before hval0 hW hcnd hsz0 hL _
  have hvar := bounds_cells hL
  have hval : ∀ (j : Nat) t v, Tryd.f4.params[j]? = some t → args[j]? = some v → Value.okWide Tryd.prog W .any base t v := hval0
  have hW' := hW
  obtain ⟨p, q, hA0, hV, rfl, hfz, hnd⟩ := hW
  have hA : DataW.TrodAll enc Tryd.prog W 0 (fun _ => true) true Tryd.f4.params.toList args.toList ds p := hA0
  rw [Tryd.params4] at hA hval
  have hS := hA
  obtain ⟨v0, vs0, d0, ds0, p0, q0, hargs, rfl, rfl, h0, r0⟩ := trodAll_cons hA
  obtain ⟨rfl, rfl, rfl⟩ := trodAll_nil r0
  obtain rfl : args = #[v0] := by cases args; simp_all
  obtain ⟨rfl, rfl⟩ := trodVars_none hV
  suffices hc : Calls Tryd.prog 4 #[v0] W fun e W' => e = .returned (.bool true) ∧ Below W.heap.size W W' by
    refine hc.mono fun e W' ⟨he, bel⟩ => ?_
    subst he
    exact ⟨_, rfl, _, _, _, [], _, [], hW', trodAll_mk1 (shut_bool Tryd.underlying4 _), trodAll_stays fineA bel (by decide +kernel) hS, rfl, bel.frame _, fun h => by cases h⟩
  clear hS hW' hfz hnd
  obtain ⟨a0, rfl, rfl, rfl, w0⟩ := open_int Tryd.underlying5 (hval 0 5 v0 rfl rfl) h0
  obtain ⟨e, hS⟩ := Sim.var (k := .i64) (zs := [1, 64, 1, 64]) oneVar (by decide) hvar
  exact told a0 e (wf_u8 w0).1 (wf_u8 w0).2 _ W _ (.cons (.int _ _) (.nil _)) hS
theorem over : Rows.deskApartRow.holds Tryd.pinned (OpenSpec.ofChange Rows.deskApartSpec) :=
  OpenClaim.holds_of_wide 4 Tryd.f4 rfl rfl rfl rfl rfl rfl rfl ⟨rfl, rfl, rfl, rfl, rfl⟩ rfl rfl rfl rfl rfl (by kernel_rfl) Tryd.func4 (by kernel_rfl)
    (of_decide_eq_true (by kernel_rfl)) (by unfold Func.isWrapper; first | (rw [if_pos (by decide +kernel)]; kernel_rfl) | (rw [if_neg (by decide +kernel)]; exact ⟨rfl, rfl⟩))
    (fun os started H enc _ => lifted os started H enc)
end Go.Proofs.YtmphcolclkpnnaaDoor.deskApart
namespace Go.Proofs.YtmphcolclkpnnaaDoor
/-- The tied card, for the claim. -/
theorem deskApart_holds : Rows.DeskApartCardSaid :=
  Claim7.holds_tied_plain_at .later [] [.data] true (true, "c01a75414c08449b6aa99d3e7638e21ceb0c3904ac2418fc892d36c3da479bbb") false
    deskApart.over (fun _ h => by cases h) (by kernel_rfl) (fun _ h => by cases h) deskApart_row_tie rfl ⟨rfl, rfl⟩ (by kernel_rfl) rfl
    (fun f fn hf hfn => by
      obtain rfl : f = 4 := Option.some.inj ((show Tryd.prog.funcNamed "sprocket/sprocketlaw14.DeskApart" = some 4 by kernel_rfl).symm.trans hf) |>.symm
      obtain rfl : fn = Tryd.f4 := (Option.some.inj (Tryd.func4.symm.trans hfn)).symm
      exact ⟨by kernel_rfl, fun j t ht => by
        rw [Tryd.params4] at ht
        have hm : t ∈ [5] := by simpa using Array.mem_of_getElem? ht
        have hall : ([5].all fun u => !Tryd.prog.wantsStandIn u) = true := by kernel_rfl
        exact (show Tryd.prog.wantsStandIn t = false by simpa using List.all_eq_true.1 hall t hm)⟩)
    (by kernel_rfl)
#print axioms deskApart_holds
end Go.Proofs.YtmphcolclkpnnaaDoor
