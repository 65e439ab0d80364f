/- ExtendActs: roads. -/
import Derived.Test.YtmphcolclkpnnabExtW0
import Derived.WalkKit
import Derived.ProofKit
import Derived.OpenShut
import Derived.ChangeOld
import Derived.Below
import Derived.SizedLaws
namespace Go.Proofs.Ytmphcolclkpnnab.extendActs
open Go.Eng
open Go.ChangeShapes Go.WideShapes Go.ChangeAt Go.RowKit
set_option linter.unusedVariables false
set_option linter.unusedSimpArgs false
set_option maxRecDepth 100000
noncomputable def S112 (pre : Nat) (n : Nat) (c : Nat) (bb : Int) (lg : Int) (m0 : Int) (m1 : Int) (l : List Int) (e : TypeId) : KSt := ⟨(frameL 135 [(2, (.slice (some ⟨0, pre, none⟩) n c)), (3, (.pointer (some ⟨1, 0, none⟩))), (4, (.pointer (some ⟨2, 0, none⟩))), (7, (.pointer (some ⟨3, 0, none⟩))), (12, (.int .i64 4))]), ⟨4, 1, [(3, 0, .cells [(.int .u64 bb), (.int .i64 lg), (.int .i64 m0), (.int .i64 m1), (.int .u64 (l.getD 0 0)), (.int .i64 0), (.int .i64 1), (.int .u64 0), (.int .u64 0)] 82 true), (2, 0, .cells [(.int .i64 m0), (.int .i64 m1)] 55 true), (1, 0, .cells [(.int .u64 bb), (.int .i64 lg)] 54 true), (0, 0, .tail pre .u64 l e)]⟩⟩
theorem R97 (pre : Nat) (n : Nat) (c : Nat) (bb : Int) (lg : Int) (m0 : Int) (m1 : Int) (l : List Int) (e : TypeId) : evCK Try.prog cfgE (runK Try.prog cfgE fsE (conT grpDom grpE) 12 40) 12 (codeAt [1, 1, 1, 1, 0, 1, 0, 0, 1, 1] B) (S76 pre n c bb lg m0 m1 l e) (normC 1 [2, 3, 4, 7, 12]) =
  some (.normal, (S112 pre n c bb lg m0 m1 l e)) := by kernel_rfl
theorem lp8m_25 (bb lg m0 m1 g gl : Int) (i : Int) (pre n c : Nat) (l : List Int) (e : TypeId) (hb : 0 ≤ bb) (hm : -9223372036854775808 ≤ m1 ∧ m1 < 9223372036854775808) (hg : groupsV m0 = g) (hg1 : 0 ≤ g) (hg2 : g ≤ 512) (hgl : groupsV lg = gl) (hgl1 : 0 ≤ gl) (hn20 : n ≤ 20) (hc : n ≤ c) (hc2 : c ≤ 9223372036854775807) (hl : l.length = c) (hc0 : 0 < c) (h1 : bb ≠ 0) (h2 : 0 < gl) (h3 : 0 < g) (hn : 3 < (n : Int))  (q1 : ((l.getD 0 0) == 0) = true) {Q : Ex → St → Prop} (hq : Q .normal (KSt.low (S112 pre n c bb lg m0 m1 l e))) : Gets Try.prog (KH.low ⟨1, 1, [(0, 0, .tail pre .u64 l e)]⟩) (codeAt [1, 1, 1, 1, 0, 1, 0, 0] B) (KSt.low (S76 pre n c bb lg m0 m1 l e)) Q := by
  rw [C1_1_1_1_0_1_0_0]; refine Gets.seq ?_
  rw [C1_1_1_1_0_1_0_0_0]; refine Gets.seq ?_
  refine Gets.ofN fitE grp_sound (conT_agree _ _) 12 40 (by kernel_rfl) (x := .normal) (s' := (S100 pre n c bb lg m0 m1 l e)) (R87 pre n c bb lg m0 m1 l e) ?_
  show Gets _ _ (codeAt [1, 1, 1, 1, 0, 1, 0, 0, 0, 1] B) _ _
  rw [C1_1_1_1_0_1_0_0_0_1]; refine Gets.cond true (by kernel_rfl) ((show evalX (KSt.ts (S100 pre n c bb lg m0 m1 l e)) (.tmp 60) = .bool (decide (3 ≤ ((n : Nat) : Int))) by kernel_rfl).trans (by rw [(show (decide (3 ≤ ((n : Nat) : Int))) = true from decide_eq_true (by omega))])) ?_; show Gets _ _ (codeAt [1, 1, 1, 1, 0, 1, 0, 0, 0, 1, 0] B) _ _
  refine Gets.ofN fitE grp_sound (conT_agree _ _) 12 40 (by kernel_rfl) (x := .normal) (s' := (S76 pre n c bb lg m0 m1 l e)) (R88 pre n c bb lg m0 m1 l e) ?_
  show Gets _ _ (codeAt [1, 1, 1, 1, 0, 1, 0, 0, 1] B) _ _
  rw [C1_1_1_1_0_1_0_0_1]; refine Gets.seq ?_
  rw [C1_1_1_1_0_1_0_0_1_0]; refine Gets.block ?_
  rw [C1_1_1_1_0_1_0_0_1_0_0]; refine Gets.seq ?_
  refine Gets.ofN fitE grp_sound (conT_agree _ _) 12 40 (by kernel_rfl) (x := .normal) (s' := (S102 pre n c bb lg m0 m1 l e)) ((R89 pre n c bb lg m0 m1 l e).trans (by rw [if_pos (⟨by omega, by omega⟩), condT (and_t (rfl) (ble_t (by omega))), condF (nbeq_f (by omega))])) ?_
  show Gets _ _ (codeAt [1, 1, 1, 1, 0, 1, 0, 0, 1, 0, 0, 1] B) _ _
  rw [C1_1_1_1_0_1_0_0_1_0_0_1]; refine Gets.seq ?_
  refine Gets.ofN fitE grp_sound (conT_agree _ _) 12 40 (by kernel_rfl) (x := .normal) (s' := (S103 pre n c bb lg m0 m1 l e)) ((R90 pre n c bb lg m0 m1 l e).trans (by rw [condF (ibeq_f (by ((try simp (disch := omega) only [hg, hgl, wrap_i64_id]) <;> omega))), condT (ble_t (by omega)), obind_at (k := 0) (by omega) (by omega), condT (q1)] <;> rfl)) ?_
  show Gets _ _ (codeAt [1, 1, 1, 1, 0, 1, 0, 0, 1, 0, 0, 1, 1] B) _ _
  rw [C1_1_1_1_0_1_0_0_1_0_0_1_1]; refine Gets.seq ?_
  refine Gets.ofN fitE grp_sound (conT_agree _ _) 12 40 (by kernel_rfl) (x := .normal) (s' := (S108 pre n c bb lg m0 m1 l e)) (R91 pre n c bb lg m0 m1 l e) ?_
  show Gets _ _ (codeAt [1, 1, 1, 1, 0, 1, 0, 0, 1, 0, 0, 1, 1, 1] B) _ _
  rw [C1_1_1_1_0_1_0_0_1_0_0_1_1_1]; refine Gets.seq ?_
  refine Gets.ofN fitE grp_sound (conT_agree _ _) 12 40 (by kernel_rfl) (x := .normal) (s' := (S109 pre n c bb lg m0 m1 l e)) (R92 pre n c bb lg m0 m1 l e) ?_
  show Gets _ _ (codeAt [1, 1, 1, 1, 0, 1, 0, 0, 1, 0, 0, 1, 1, 1, 1] B) _ _
  rw [C1_1_1_1_0_1_0_0_1_0_0_1_1_1_1]; refine Gets.seq ?_
  rw [C1_1_1_1_0_1_0_0_1_0_0_1_1_1_1_0]; refine Gets.seq ?_
  refine Gets.ofN fitE grp_sound (conT_agree _ _) 12 40 (by kernel_rfl) (x := .normal) (s' := (S110 pre n c bb lg m0 m1 l e)) (R93 pre n c bb lg m0 m1 l e) ?_
  show Gets _ _ (codeAt [1, 1, 1, 1, 0, 1, 0, 0, 1, 0, 0, 1, 1, 1, 1, 0, 1] B) _ _
  rw [C1_1_1_1_0_1_0_0_1_0_0_1_1_1_1_0_1]; refine Gets.cond false (by kernel_rfl) (show evalX (KSt.ts (S110 pre n c bb lg m0 m1 l e)) (.tmp 123) = .bool false by kernel_rfl) ?_; show Gets _ _ (codeAt [1, 1, 1, 1, 0, 1, 0, 0, 1, 0, 0, 1, 1, 1, 1, 0, 1, 1] B) _ _
  refine Gets.ofN fitE grp_sound (conT_agree _ _) 12 40 (by kernel_rfl) (x := .normal) (s' := (S76 pre n c bb lg m0 m1 l e)) (R94 pre n c bb lg m0 m1 l e) ?_
  show Gets _ _ (codeAt [1, 1, 1, 1, 0, 1, 0, 0, 1, 0, 0, 1, 1, 1, 1, 1] B) _ _
  rw [C1_1_1_1_0_1_0_0_1_0_0_1_1_1_1_1]; refine Gets.seq ?_
  refine Gets.ofN fitE grp_sound (conT_agree _ _) 12 40 (by kernel_rfl) (x := .normal) (s' := (S111 pre n c bb lg m0 m1 l e)) (R95 pre n c bb lg m0 m1 l e) ?_
  show Gets _ _ (codeAt [1, 1, 1, 1, 0, 1, 0, 0, 1, 0, 0, 1, 1, 1, 1, 1, 1] B) _ _
  rw [C1_1_1_1_0_1_0_0_1_0_0_1_1_1_1_1_1]; refine Gets.cond true (by kernel_rfl) ((show evalX (KSt.ts (S111 pre n c bb lg m0 m1 l e)) (.tmp 127) = .bool (decide (3 < ((n : Nat) : Int))) by kernel_rfl).trans (by rw [(show (decide (3 < ((n : Nat) : Int))) = true from decide_eq_true (by omega))])) ?_; show Gets _ _ (codeAt [1, 1, 1, 1, 0, 1, 0, 0, 1, 0, 0, 1, 1, 1, 1, 1, 1, 0] B) _ _
  refine Gets.ofN fitE grp_sound (conT_agree _ _) 12 40 (by kernel_rfl) (x := .normal) (s' := (S76 pre n c bb lg m0 m1 l e)) ((R96 pre n c bb lg m0 m1 l e).trans (by rw [if_pos (⟨by omega, by omega⟩), condT (ble_t (by omega)), obind_at (k := 3) (by omega) (by omega)] <;> rfl)) ?_
  show Gets _ _ (codeAt [1, 1, 1, 1, 0, 1, 0, 0, 1, 1] B) _ _
  refine Gets.ofN fitE grp_sound (conT_agree _ _) 12 40 (by kernel_rfl) (x := .normal) (s' := (S112 pre n c bb lg m0 m1 l e)) (R97 pre n c bb lg m0 m1 l e) ?_
  exact hq
theorem R98 (pre : Nat) (n : Nat) (c : Nat) (bb : Int) (lg : Int) (m0 : Int) (m1 : Int) (l : List Int) (e : TypeId) : evCK Try.prog cfgE (runK Try.prog cfgE fsE (conT grpDom grpE) 12 40) 12 (codeAt [1, 1, 1, 1, 0, 1, 0, 0, 1, 0, 0, 1, 1, 1, 1, 1, 1, 1] B) (S111 pre n c bb lg m0 m1 l e) (normC 1 [2, 3, 4, 7, 12]) =
  some (.normal, (S76 pre n c bb lg m0 m1 l e)) := by kernel_rfl
theorem lp8e_26 (bb lg m0 m1 g gl : Int) (i : Int) (pre n c : Nat) (l : List Int) (e : TypeId) (hb : 0 ≤ bb) (hm : -9223372036854775808 ≤ m1 ∧ m1 < 9223372036854775808) (hg : groupsV m0 = g) (hg1 : 0 ≤ g) (hg2 : g ≤ 512) (hgl : groupsV lg = gl) (hgl1 : 0 ≤ gl) (hn20 : n ≤ 20) (hc : n ≤ c) (hc2 : c ≤ 9223372036854775807) (hl : l.length = c) (hc0 : 0 < c) (h1 : bb ≠ 0) (h2 : 0 < gl) (h3 : 0 < g) (hn : 3 = (n : Int))  (q1 : ((l.getD 0 0) == 0) = true) {Q : Ex → St → Prop} (hq : Q .normal (KSt.low (S112 pre n c bb lg m0 m1 l e))) : Gets Try.prog (KH.low ⟨1, 1, [(0, 0, .tail pre .u64 l e)]⟩) (codeAt [1, 1, 1, 1, 0, 1, 0, 0] B) (KSt.low (S76 pre n c bb lg m0 m1 l e)) Q := by
  rw [C1_1_1_1_0_1_0_0]; refine Gets.seq ?_
  rw [C1_1_1_1_0_1_0_0_0]; refine Gets.seq ?_
  refine Gets.ofN fitE grp_sound (conT_agree _ _) 12 40 (by kernel_rfl) (x := .normal) (s' := (S100 pre n c bb lg m0 m1 l e)) (R87 pre n c bb lg m0 m1 l e) ?_
  show Gets _ _ (codeAt [1, 1, 1, 1, 0, 1, 0, 0, 0, 1] B) _ _
  rw [C1_1_1_1_0_1_0_0_0_1]; refine Gets.cond true (by kernel_rfl) ((show evalX (KSt.ts (S100 pre n c bb lg m0 m1 l e)) (.tmp 60) = .bool (decide (3 ≤ ((n : Nat) : Int))) by kernel_rfl).trans (by rw [(show (decide (3 ≤ ((n : Nat) : Int))) = true from decide_eq_true (by omega))])) ?_; show Gets _ _ (codeAt [1, 1, 1, 1, 0, 1, 0, 0, 0, 1, 0] B) _ _
  refine Gets.ofN fitE grp_sound (conT_agree _ _) 12 40 (by kernel_rfl) (x := .normal) (s' := (S76 pre n c bb lg m0 m1 l e)) (R88 pre n c bb lg m0 m1 l e) ?_
  show Gets _ _ (codeAt [1, 1, 1, 1, 0, 1, 0, 0, 1] B) _ _
  rw [C1_1_1_1_0_1_0_0_1]; refine Gets.seq ?_
  rw [C1_1_1_1_0_1_0_0_1_0]; refine Gets.block ?_
  rw [C1_1_1_1_0_1_0_0_1_0_0]; refine Gets.seq ?_
  refine Gets.ofN fitE grp_sound (conT_agree _ _) 12 40 (by kernel_rfl) (x := .normal) (s' := (S102 pre n c bb lg m0 m1 l e)) ((R89 pre n c bb lg m0 m1 l e).trans (by rw [if_pos (⟨by omega, by omega⟩), condT (and_t (rfl) (ble_t (by omega))), condF (nbeq_f (by omega))])) ?_
  show Gets _ _ (codeAt [1, 1, 1, 1, 0, 1, 0, 0, 1, 0, 0, 1] B) _ _
  rw [C1_1_1_1_0_1_0_0_1_0_0_1]; refine Gets.seq ?_
  refine Gets.ofN fitE grp_sound (conT_agree _ _) 12 40 (by kernel_rfl) (x := .normal) (s' := (S103 pre n c bb lg m0 m1 l e)) ((R90 pre n c bb lg m0 m1 l e).trans (by rw [condF (ibeq_f (by ((try simp (disch := omega) only [hg, hgl, wrap_i64_id]) <;> omega))), condT (ble_t (by omega)), obind_at (k := 0) (by omega) (by omega), condT (q1)] <;> rfl)) ?_
  show Gets _ _ (codeAt [1, 1, 1, 1, 0, 1, 0, 0, 1, 0, 0, 1, 1] B) _ _
  rw [C1_1_1_1_0_1_0_0_1_0_0_1_1]; refine Gets.seq ?_
  refine Gets.ofN fitE grp_sound (conT_agree _ _) 12 40 (by kernel_rfl) (x := .normal) (s' := (S108 pre n c bb lg m0 m1 l e)) (R91 pre n c bb lg m0 m1 l e) ?_
  show Gets _ _ (codeAt [1, 1, 1, 1, 0, 1, 0, 0, 1, 0, 0, 1, 1, 1] B) _ _
  rw [C1_1_1_1_0_1_0_0_1_0_0_1_1_1]; refine Gets.seq ?_
  refine Gets.ofN fitE grp_sound (conT_agree _ _) 12 40 (by kernel_rfl) (x := .normal) (s' := (S109 pre n c bb lg m0 m1 l e)) (R92 pre n c bb lg m0 m1 l e) ?_
  show Gets _ _ (codeAt [1, 1, 1, 1, 0, 1, 0, 0, 1, 0, 0, 1, 1, 1, 1] B) _ _
  rw [C1_1_1_1_0_1_0_0_1_0_0_1_1_1_1]; refine Gets.seq ?_
  rw [C1_1_1_1_0_1_0_0_1_0_0_1_1_1_1_0]; refine Gets.seq ?_
  refine Gets.ofN fitE grp_sound (conT_agree _ _) 12 40 (by kernel_rfl) (x := .normal) (s' := (S110 pre n c bb lg m0 m1 l e)) (R93 pre n c bb lg m0 m1 l e) ?_
  show Gets _ _ (codeAt [1, 1, 1, 1, 0, 1, 0, 0, 1, 0, 0, 1, 1, 1, 1, 0, 1] B) _ _
  rw [C1_1_1_1_0_1_0_0_1_0_0_1_1_1_1_0_1]; refine Gets.cond false (by kernel_rfl) (show evalX (KSt.ts (S110 pre n c bb lg m0 m1 l e)) (.tmp 123) = .bool false by kernel_rfl) ?_; show Gets _ _ (codeAt [1, 1, 1, 1, 0, 1, 0, 0, 1, 0, 0, 1, 1, 1, 1, 0, 1, 1] B) _ _
  refine Gets.ofN fitE grp_sound (conT_agree _ _) 12 40 (by kernel_rfl) (x := .normal) (s' := (S76 pre n c bb lg m0 m1 l e)) (R94 pre n c bb lg m0 m1 l e) ?_
  show Gets _ _ (codeAt [1, 1, 1, 1, 0, 1, 0, 0, 1, 0, 0, 1, 1, 1, 1, 1] B) _ _
  rw [C1_1_1_1_0_1_0_0_1_0_0_1_1_1_1_1]; refine Gets.seq ?_
  refine Gets.ofN fitE grp_sound (conT_agree _ _) 12 40 (by kernel_rfl) (x := .normal) (s' := (S111 pre n c bb lg m0 m1 l e)) (R95 pre n c bb lg m0 m1 l e) ?_
  show Gets _ _ (codeAt [1, 1, 1, 1, 0, 1, 0, 0, 1, 0, 0, 1, 1, 1, 1, 1, 1] B) _ _
  rw [C1_1_1_1_0_1_0_0_1_0_0_1_1_1_1_1_1]; refine Gets.cond false (by kernel_rfl) ((show evalX (KSt.ts (S111 pre n c bb lg m0 m1 l e)) (.tmp 127) = .bool (decide (3 < ((n : Nat) : Int))) by kernel_rfl).trans (by rw [(show (decide (3 < ((n : Nat) : Int))) = false from decide_eq_false (by omega))])) ?_; show Gets _ _ (codeAt [1, 1, 1, 1, 0, 1, 0, 0, 1, 0, 0, 1, 1, 1, 1, 1, 1, 1] B) _ _
  refine Gets.ofN fitE grp_sound (conT_agree _ _) 12 40 (by kernel_rfl) (x := .normal) (s' := (S76 pre n c bb lg m0 m1 l e)) (R98 pre n c bb lg m0 m1 l e) ?_
  show Gets _ _ (codeAt [1, 1, 1, 1, 0, 1, 0, 0, 1, 1] B) _ _
  refine Gets.ofN fitE grp_sound (conT_agree _ _) 12 40 (by kernel_rfl) (x := .normal) (s' := (S112 pre n c bb lg m0 m1 l e)) (R97 pre n c bb lg m0 m1 l e) ?_
  exact hq
noncomputable def S113 (pre : Nat) (n : Nat) (c : Nat) (bb : Int) (lg : Int) (m0 : Int) (m1 : Int) (l : List Int) (e : TypeId) : KSt := ⟨(frameL 135 [(2, (.slice (some ⟨0, pre, none⟩) n c)), (3, (.pointer (some ⟨1, 0, none⟩))), (4, (.pointer (some ⟨2, 0, none⟩))), (7, (.pointer (some ⟨3, 0, none⟩))), (12, (.int .i64 3)), (60, (.bool (decide (3 ≤ ((n : Nat) : Int)))))]), ⟨4, 1, [(3, 0, .cells [(.int .u64 bb), (.int .i64 lg), (.int .i64 m0), (.int .i64 m1), (.int .u64 (l.getD 0 0)), (.int .i64 0), (.int .i64 2), (.int .u64 (l.getD 0 0)), (.int .u64 (makeV (l.getD 0 0) m1))] 82 true), (2, 0, .cells [(.int .i64 m0), (.int .i64 m1)] 55 true), (1, 0, .cells [(.int .u64 bb), (.int .i64 lg)] 54 true), (0, 0, .tail pre .u64 l e)]⟩⟩
theorem R99 (pre : Nat) (n : Nat) (c : Nat) (bb : Int) (lg : Int) (m0 : Int) (m1 : Int) (l : List Int) (e : TypeId) : evCK Try.prog cfgE (runK Try.prog cfgE fsE (conT grpDom grpE) 12 40) 12 (codeAt [1, 1, 1, 1, 0, 1, 0, 0, 0, 0] B) (S94 pre n c bb lg m0 m1 l e) (normC 1 [2, 3, 4, 7, 12, 60]) =
  some (.normal, (S113 pre n c bb lg m0 m1 l e)) := by kernel_rfl
theorem R100 (pre : Nat) (n : Nat) (c : Nat) (bb : Int) (lg : Int) (m0 : Int) (m1 : Int) (l : List Int) (e : TypeId) : evCK Try.prog cfgE (runK Try.prog cfgE fsE (conT grpDom grpE) 12 40) 12 (codeAt [1, 1, 1, 1, 0, 1, 0, 0, 0, 1, 0] B) (S113 pre n c bb lg m0 m1 l e) (normC 1 [2, 3, 4, 7, 12]) =
  some (.normal, (S94 pre n c bb lg m0 m1 l e)) := by kernel_rfl
noncomputable def S114 (pre : Nat) (n : Nat) (c : Nat) (bb : Int) (lg : Int) (m0 : Int) (m1 : Int) (l : List Int) (e : TypeId) : KSt := ⟨(frameL 135 [(2, (.slice (some ⟨0, pre, none⟩) n c)), (3, (.pointer (some ⟨1, 0, none⟩))), (4, (.pointer (some ⟨2, 0, none⟩))), (7, (.pointer (some ⟨3, 0, none⟩))), (12, (.int .i64 3)), (13, (.pointer (some ⟨4, 0, none⟩)))]), ⟨5, 1, [(4, 0, .cells [(.slice (some ⟨0, pre, none⟩) 3 (c - 0)), (.int .i64 0), (.bool false), (.int .i64 0), (.int .u64 0), (.int .i64 0), (.int .u64 0), (.int .u64 0)] 31 true), (3, 0, .cells [(.int .u64 bb), (.int .i64 lg), (.int .i64 m0), (.int .i64 m1), (.int .u64 (l.getD 0 0)), (.int .i64 0), (.int .i64 2), (.int .u64 (l.getD 0 0)), (.int .u64 (makeV (l.getD 0 0) m1))] 82 true), (2, 0, .cells [(.int .i64 m0), (.int .i64 m1)] 55 true), (1, 0, .cells [(.int .u64 bb), (.int .i64 lg)] 54 true), (0, 0, .tail pre .u64 l e)]⟩⟩
noncomputable def S115 (pre : Nat) (n : Nat) (c : Nat) (bb : Int) (lg : Int) (m0 : Int) (m1 : Int) (l : List Int) (e : TypeId) : KSt := ⟨(frameL 135 [(2, (.slice (some ⟨0, pre, none⟩) n c)), (3, (.pointer (some ⟨1, 0, none⟩))), (4, (.pointer (some ⟨2, 0, none⟩))), (7, (.pointer (some ⟨3, 0, none⟩))), (12, (.int .i64 3)), (13, (.pointer (some ⟨4, 0, none⟩)))]), ⟨5, 1, [(4, 0, .cells [(.slice (some ⟨0, (pre + 0), none⟩) 3 (c - 0)), (.int .i64 0), (.bool false), (.int .i64 0), (.int .u64 0), (.int .i64 0), (.int .u64 0), (.int .u64 0)] 31 true), (3, 0, .cells [(.int .u64 bb), (.int .i64 lg), (.int .i64 m0), (.int .i64 m1), (.int .u64 (l.getD 0 0)), (.int .i64 0), (.int .i64 2), (.int .u64 (l.getD 0 0)), (.int .u64 (makeV (l.getD 0 0) m1))] 82 true), (2, 0, .cells [(.int .i64 m0), (.int .i64 m1)] 55 true), (1, 0, .cells [(.int .u64 bb), (.int .i64 lg)] 54 true), (0, 0, .tail pre .u64 l e)]⟩⟩
theorem R101 (pre : Nat) (n : Nat) (c : Nat) (bb : Int) (lg : Int) (m0 : Int) (m1 : Int) (l : List Int) (e : TypeId) : evCK Try.prog cfgE (runK Try.prog cfgE fsE (conT grpDom grpE) 12 40) 12 (codeAt [1, 1, 1, 1, 0, 1, 0, 0, 1, 0, 0, 0] B) (S94 pre n c bb lg m0 m1 l e) (normC 1 [2, 3, 4, 7, 12, 13]) =
  if (0 : Int) ≤ 3 ∧ 3 ≤ ((c : Nat) : Int) then
    bif (true && (Nat.ble 3 c)) then
      bif (Nat.beq c 0) then
        some (.normal, (S114 pre n c bb lg m0 m1 l e))
      else
        some (.normal, (S115 pre n c bb lg m0 m1 l e))
    else
      none
  else
    none := by kernel_rfl
noncomputable def S116 (pre : Nat) (n : Nat) (c : Nat) (bb : Int) (lg : Int) (m0 : Int) (m1 : Int) (l : List Int) (e : TypeId) : KSt := ⟨(frameL 135 [(2, (.slice (some ⟨0, pre, none⟩) n c)), (3, (.pointer (some ⟨1, 0, none⟩))), (4, (.pointer (some ⟨2, 0, none⟩))), (7, (.pointer (some ⟨3, 0, none⟩))), (12, (.int .i64 3)), (13, (.pointer (some ⟨4, 0, none⟩))), (14, (.pointer (some ⟨5, 0, none⟩)))]), ⟨6, 1, [(5, 0, .cells [(.int .i64 1), (.int .u64 0), (.int .u64 0)] 63 true), (4, 0, .cells [(.slice (some ⟨0, (pre + 0), none⟩) 3 (c - 0)), (.int .i64 1), (.bool false), (.int .i64 0), (.int .u64 0), (.int .i64 0), (.int .u64 0), (.int .u64 0)] 31 true), (3, 0, .cells [(.int .u64 bb), (.int .i64 lg), (.int .i64 m0), (.int .i64 m1), (.int .u64 (l.getD 0 0)), (.int .i64 0), (.int .i64 2), (.int .u64 (l.getD 0 0)), (.int .u64 (makeV (l.getD 0 0) m1))] 82 true), (2, 0, .cells [(.int .i64 m0), (.int .i64 m1)] 55 true), (1, 0, .cells [(.int .u64 bb), (.int .i64 lg)] 54 true), (0, 0, .tail pre .u64 l e)]⟩⟩
noncomputable def S117 (pre : Nat) (n : Nat) (c : Nat) (n1 : Int) (m1 : Int) (bb : Int) (lg : Int) (m0 : Int) (l : List Int) (e : TypeId) : KSt := ⟨(frameL 135 [(2, (.slice (some ⟨0, pre, none⟩) n c)), (3, (.pointer (some ⟨1, 0, none⟩))), (4, (.pointer (some ⟨2, 0, none⟩))), (7, (.pointer (some ⟨3, 0, none⟩))), (12, (.int .i64 3)), (13, (.pointer (some ⟨4, 0, none⟩))), (14, (.pointer (some ⟨5, 0, none⟩)))]), ⟨6, 1, [(5, 0, .cells [(.int .i64 2), (.int .u64 n1), (.int .u64 (makeRV n1 m1))] 63 true), (4, 0, .cells [(.slice (some ⟨0, (pre + 0), none⟩) 3 (c - 0)), (.int .i64 3), (.bool false), (.int .i64 0), (.int .u64 0), (.int .i64 0), (.int .u64 0), (.int .u64 0)] 31 true), (3, 0, .cells [(.int .u64 bb), (.int .i64 lg), (.int .i64 m0), (.int .i64 m1), (.int .u64 (l.getD 0 0)), (.int .i64 0), (.int .i64 2), (.int .u64 (l.getD 0 0)), (.int .u64 (makeV (l.getD 0 0) m1))] 82 true), (2, 0, .cells [(.int .i64 m0), (.int .i64 m1)] 55 true), (1, 0, .cells [(.int .u64 bb), (.int .i64 lg)] 54 true), (0, 0, .tail pre .u64 l e)]⟩⟩
noncomputable def S118 (pre : Nat) (n : Nat) (c : Nat) (n3 : Int) (n1 : Int) (bb : Int) (lg : Int) (m0 : Int) (m1 : Int) (l : List Int) (e : TypeId) : KSt := ⟨(frameL 135 [(2, (.slice (some ⟨0, pre, none⟩) n c)), (3, (.pointer (some ⟨1, 0, none⟩))), (4, (.pointer (some ⟨2, 0, none⟩))), (7, (.pointer (some ⟨3, 0, none⟩))), (12, (.int .i64 3)), (13, (.pointer (some ⟨4, 0, none⟩))), (14, (.pointer (some ⟨5, 0, none⟩)))]), ⟨6, 1, [(5, 0, .cells [(.int .i64 3), (.int .u64 0), (.int .u64 n3)] 63 true), (4, 0, .cells [(.slice (some ⟨0, (pre + 0), none⟩) 3 (c - 0)), (.int .i64 3), (.bool true), (.int .i64 6), (.int .u64 n1), (.int .i64 0), (.int .u64 0), (.int .u64 0)] 31 true), (3, 0, .cells [(.int .u64 bb), (.int .i64 lg), (.int .i64 m0), (.int .i64 m1), (.int .u64 (l.getD 0 0)), (.int .i64 0), (.int .i64 2), (.int .u64 (l.getD 0 0)), (.int .u64 (makeV (l.getD 0 0) m1))] 82 true), (2, 0, .cells [(.int .i64 m0), (.int .i64 m1)] 55 true), (1, 0, .cells [(.int .u64 bb), (.int .i64 lg)] 54 true), (0, 0, .tail pre .u64 l e)]⟩⟩
noncomputable def S119 (pre : Nat) (n : Nat) (c : Nat) (n4 : Int) (m1 : Int) (bb : Int) (lg : Int) (m0 : Int) (l : List Int) (e : TypeId) : KSt := ⟨(frameL 135 [(2, (.slice (some ⟨0, pre, none⟩) n c)), (3, (.pointer (some ⟨1, 0, none⟩))), (4, (.pointer (some ⟨2, 0, none⟩))), (7, (.pointer (some ⟨3, 0, none⟩))), (12, (.int .i64 3)), (13, (.pointer (some ⟨4, 0, none⟩))), (14, (.pointer (some ⟨5, 0, none⟩)))]), ⟨6, 1, [(5, 0, .cells [(.int .i64 2), (.int .u64 n4), (.int .u64 (makeRV n4 m1))] 63 true), (4, 0, .cells [(.slice (some ⟨0, (pre + 0), none⟩) 3 (c - 0)), (.int .i64 3), (.bool false), (.int .i64 0), (.int .u64 0), (.int .i64 0), (.int .u64 0), (.int .u64 0)] 31 true), (3, 0, .cells [(.int .u64 bb), (.int .i64 lg), (.int .i64 m0), (.int .i64 m1), (.int .u64 (l.getD 0 0)), (.int .i64 0), (.int .i64 2), (.int .u64 (l.getD 0 0)), (.int .u64 (makeV (l.getD 0 0) m1))] 82 true), (2, 0, .cells [(.int .i64 m0), (.int .i64 m1)] 55 true), (1, 0, .cells [(.int .u64 bb), (.int .i64 lg)] 54 true), (0, 0, .tail pre .u64 l e)]⟩⟩
noncomputable def S120 (pre : Nat) (n : Nat) (c : Nat) (n6 : Int) (n4 : Int) (bb : Int) (lg : Int) (m0 : Int) (m1 : Int) (l : List Int) (e : TypeId) : KSt := ⟨(frameL 135 [(2, (.slice (some ⟨0, pre, none⟩) n c)), (3, (.pointer (some ⟨1, 0, none⟩))), (4, (.pointer (some ⟨2, 0, none⟩))), (7, (.pointer (some ⟨3, 0, none⟩))), (12, (.int .i64 3)), (13, (.pointer (some ⟨4, 0, none⟩))), (14, (.pointer (some ⟨5, 0, none⟩)))]), ⟨6, 1, [(5, 0, .cells [(.int .i64 3), (.int .u64 0), (.int .u64 n6)] 63 true), (4, 0, .cells [(.slice (some ⟨0, (pre + 0), none⟩) 3 (c - 0)), (.int .i64 3), (.bool true), (.int .i64 6), (.int .u64 n4), (.int .i64 0), (.int .u64 0), (.int .u64 0)] 31 true), (3, 0, .cells [(.int .u64 bb), (.int .i64 lg), (.int .i64 m0), (.int .i64 m1), (.int .u64 (l.getD 0 0)), (.int .i64 0), (.int .i64 2), (.int .u64 (l.getD 0 0)), (.int .u64 (makeV (l.getD 0 0) m1))] 82 true), (2, 0, .cells [(.int .i64 m0), (.int .i64 m1)] 55 true), (1, 0, .cells [(.int .u64 bb), (.int .i64 lg)] 54 true), (0, 0, .tail pre .u64 l e)]⟩⟩
theorem R102 (pre : Nat) (n : Nat) (c : Nat) (bb : Int) (lg : Int) (m0 : Int) (m1 : Int) (l : List Int) (e : TypeId) : evCK Try.prog cfgE (runK Try.prog cfgE fsE (conT grpDom grpE) 12 40) 12 (codeAt [1, 1, 1, 1, 0, 1, 0, 0, 1, 0, 0, 1, 0] B) (S115 pre n c bb lg m0 m1 l e) (normC 1 [2, 3, 4, 7, 12, 13, 14]) =
  bif ((groupsV m0) == 0) then
    bif (Nat.ble pre ((pre + 0) + 0)) then
      obind (l[(((pre + 0) + 0) - pre)]?) fun n1 =>
        bif (n1 == 0) then
          some (.normal, (S116 pre n c bb lg m0 m1 l e))
        else
          bif (Nat.ble pre ((pre + 0) + 1)) then
            obind (l[(((pre + 0) + 1) - pre)]?) fun n2 =>
              bif (Nat.ble pre ((pre + 0) + 2)) then
                obind (l[(((pre + 0) + 2) - pre)]?) fun n3 =>
                  bif (n3 == 0) then
                    some (.normal, (S117 pre n c n1 m1 bb lg m0 l e))
                  else
                    some (.normal, (S118 pre n c n3 n1 bb lg m0 m1 l e))
              else
                none
          else
            none
    else
      none
  else
    bif (Nat.ble pre ((pre + 0) + 0)) then
      obind (l[(((pre + 0) + 0) - pre)]?) fun n4 =>
        bif (n4 == 0) then
          some (.normal, (S116 pre n c bb lg m0 m1 l e))
        else
          bif (Nat.ble pre ((pre + 0) + 1)) then
            obind (l[(((pre + 0) + 1) - pre)]?) fun n5 =>
              bif (Nat.ble pre ((pre + 0) + 2)) then
                obind (l[(((pre + 0) + 2) - pre)]?) fun n6 =>
                  bif (n6 == 0) then
                    some (.normal, (S119 pre n c n4 m1 bb lg m0 l e))
                  else
                    some (.normal, (S120 pre n c n6 n4 bb lg m0 m1 l e))
              else
                none
          else
            none
    else
      none := by kernel_rfl
noncomputable def S121 (pre : Nat) (n : Nat) (c : Nat) (l : List Int) (m1 : Int) (bb : Int) (lg : Int) (m0 : Int) (e : TypeId) : KSt := ⟨(frameL 135 [(2, (.slice (some ⟨0, pre, none⟩) n c)), (3, (.pointer (some ⟨1, 0, none⟩))), (4, (.pointer (some ⟨2, 0, none⟩))), (7, (.pointer (some ⟨3, 0, none⟩))), (12, (.int .i64 3)), (13, (.pointer (some ⟨4, 0, none⟩))), (14, (.pointer (some ⟨5, 0, none⟩)))]), ⟨6, 1, [(5, 0, .cells [(.int .i64 2), (.int .u64 (l.getD 0 0)), (.int .u64 (makeV (l.getD 0 0) m1))] 63 true), (4, 0, .cells [(.slice (some ⟨0, (pre + 0), none⟩) 3 (c - 0)), (.int .i64 3), (.bool false), (.int .i64 0), (.int .u64 0), (.int .i64 0), (.int .u64 0), (.int .u64 0)] 31 true), (3, 0, .cells [(.int .u64 bb), (.int .i64 lg), (.int .i64 m0), (.int .i64 m1), (.int .u64 (l.getD 0 0)), (.int .i64 0), (.int .i64 2), (.int .u64 (l.getD 0 0)), (.int .u64 (makeV (l.getD 0 0) m1))] 82 true), (2, 0, .cells [(.int .i64 m0), (.int .i64 m1)] 55 true), (1, 0, .cells [(.int .u64 bb), (.int .i64 lg)] 54 true), (0, 0, .tail pre .u64 l e)]⟩⟩
noncomputable def S122 (pre : Nat) (n : Nat) (c : Nat) (l : List Int) (m1 : Int) (bb : Int) (lg : Int) (m0 : Int) (e : TypeId) : KSt := ⟨(frameL 135 [(2, (.slice (some ⟨0, pre, none⟩) n c)), (3, (.pointer (some ⟨1, 0, none⟩))), (4, (.pointer (some ⟨2, 0, none⟩))), (7, (.pointer (some ⟨3, 0, none⟩))), (12, (.int .i64 3)), (13, (.pointer (some ⟨4, 0, none⟩))), (14, (.pointer (some ⟨5, 0, none⟩)))]), ⟨6, 1, [(5, 0, .cells [(.int .i64 2), (.int .u64 (l.getD 0 0)), (.int .u64 (makeRV (l.getD 0 0) m1))] 63 true), (4, 0, .cells [(.slice (some ⟨0, (pre + 0), none⟩) 3 (c - 0)), (.int .i64 3), (.bool false), (.int .i64 0), (.int .u64 0), (.int .i64 0), (.int .u64 0), (.int .u64 0)] 31 true), (3, 0, .cells [(.int .u64 bb), (.int .i64 lg), (.int .i64 m0), (.int .i64 m1), (.int .u64 (l.getD 0 0)), (.int .i64 0), (.int .i64 2), (.int .u64 (l.getD 0 0)), (.int .u64 (makeV (l.getD 0 0) m1))] 82 true), (2, 0, .cells [(.int .i64 m0), (.int .i64 m1)] 55 true), (1, 0, .cells [(.int .u64 bb), (.int .i64 lg)] 54 true), (0, 0, .tail pre .u64 l e)]⟩⟩
noncomputable def S123 (pre : Nat) (n : Nat) (c : Nat) (l : List Int) (m1 : Int) (bb : Int) (lg : Int) (m0 : Int) (e : TypeId) : KSt := ⟨(frameL 135 [(2, (.slice (some ⟨0, pre, none⟩) n c)), (3, (.pointer (some ⟨1, 0, none⟩))), (4, (.pointer (some ⟨2, 0, none⟩))), (7, (.pointer (some ⟨3, 0, none⟩))), (12, (.int .i64 3)), (13, (.pointer (some ⟨4, 0, none⟩))), (14, (.pointer (some ⟨5, 0, none⟩))), (15, (.pointer (some ⟨6, 0, none⟩))), (16, (.bool false))]), ⟨7, 1, [(6, 0, .cells [(.int .i64 0), (.int .u64 0), (.int .u64 0)] 60 true), (5, 0, .cells [(.int .i64 2), (.int .u64 (l.getD 0 0)), (.int .u64 (makeV (l.getD 0 0) m1))] 63 true), (4, 0, .cells [(.slice (some ⟨0, (pre + 0), none⟩) 3 (c - 0)), (.int .i64 3), (.bool false), (.int .i64 0), (.int .u64 0), (.int .i64 0), (.int .u64 0), (.int .u64 0)] 31 true), (3, 0, .cells [(.int .u64 bb), (.int .i64 lg), (.int .i64 m0), (.int .i64 m1), (.int .u64 (l.getD 0 0)), (.int .i64 0), (.int .i64 2), (.int .u64 (l.getD 0 0)), (.int .u64 (makeV (l.getD 0 0) m1))] 82 true), (2, 0, .cells [(.int .i64 m0), (.int .i64 m1)] 55 true), (1, 0, .cells [(.int .u64 bb), (.int .i64 lg)] 54 true), (0, 0, .tail pre .u64 l e)]⟩⟩
noncomputable def S124 (pre : Nat) (n : Nat) (c : Nat) (l : List Int) (m1 : Int) (bb : Int) (lg : Int) (m0 : Int) (e : TypeId) : KSt := ⟨(frameL 135 [(2, (.slice (some ⟨0, pre, none⟩) n c)), (3, (.pointer (some ⟨1, 0, none⟩))), (4, (.pointer (some ⟨2, 0, none⟩))), (7, (.pointer (some ⟨3, 0, none⟩))), (12, (.int .i64 3)), (13, (.pointer (some ⟨4, 0, none⟩))), (14, (.pointer (some ⟨5, 0, none⟩))), (15, (.pointer (some ⟨6, 0, none⟩))), (16, (.bool true))]), ⟨7, 1, [(6, 0, .cells [(.int .i64 2), (.int .u64 (l.getD 0 0)), (.int .u64 (makeV (l.getD 0 0) m1))] 60 true), (5, 0, .cells [(.int .i64 2), (.int .u64 (l.getD 0 0)), (.int .u64 (makeV (l.getD 0 0) m1))] 63 true), (4, 0, .cells [(.slice (some ⟨0, (pre + 0), none⟩) 3 (c - 0)), (.int .i64 3), (.bool false), (.int .i64 0), (.int .u64 0), (.int .i64 0), (.int .u64 0), (.int .u64 0)] 31 true), (3, 0, .cells [(.int .u64 bb), (.int .i64 lg), (.int .i64 m0), (.int .i64 m1), (.int .u64 (l.getD 0 0)), (.int .i64 0), (.int .i64 2), (.int .u64 (l.getD 0 0)), (.int .u64 (makeV (l.getD 0 0) m1))] 82 true), (2, 0, .cells [(.int .i64 m0), (.int .i64 m1)] 55 true), (1, 0, .cells [(.int .u64 bb), (.int .i64 lg)] 54 true), (0, 0, .tail pre .u64 l e)]⟩⟩
theorem R103 (pre : Nat) (n : Nat) (c : Nat) (l : List Int) (m1 : Int) (bb : Int) (lg : Int) (m0 : Int) (e : TypeId) : evCK Try.prog cfgE (runK Try.prog cfgE fsE (conT grpDom grpE) 12 40) 12 (codeAt [1, 1, 1, 1, 0, 1, 0, 0, 1, 0, 0, 1, 1, 0] B) (S121 pre n c l m1 bb lg m0 e) (normC 1 [2, 3, 4, 7, 12, 13, 14, 15, 16]) =
  bif (false && (((l.getD 0 0) == 0) && (((makeV (l.getD 0 0) m1) == 0) && true))) then
    some (.normal, (S123 pre n c l m1 bb lg m0 e))
  else
    some (.normal, (S124 pre n c l m1 bb lg m0 e)) := by kernel_rfl
noncomputable def S125 (pre : Nat) (n : Nat) (c : Nat) (l : List Int) (m1 : Int) (bb : Int) (lg : Int) (m0 : Int) (e : TypeId) : KSt := ⟨(frameL 135 [(2, (.slice (some ⟨0, pre, none⟩) n c)), (3, (.pointer (some ⟨1, 0, none⟩))), (4, (.pointer (some ⟨2, 0, none⟩))), (7, (.pointer (some ⟨3, 0, none⟩))), (12, (.int .i64 3)), (13, (.pointer (some ⟨4, 0, none⟩))), (14, (.pointer (some ⟨5, 0, none⟩))), (15, (.pointer (some ⟨6, 0, none⟩))), (16, (.bool true)), (17, (.pointer (some ⟨7, 0, none⟩))), (18, (.bool false))]), ⟨8, 1, [(7, 0, .cells [(.int .i64 0), (.int .u64 0), (.int .i64 0), (.int .u64 0), (.int .u64 0)] 29 true), (6, 0, .cells [(.int .i64 2), (.int .u64 (l.getD 0 0)), (.int .u64 (makeV (l.getD 0 0) m1))] 60 true), (5, 0, .cells [(.int .i64 2), (.int .u64 (l.getD 0 0)), (.int .u64 (makeV (l.getD 0 0) m1))] 63 true), (4, 0, .cells [(.slice (some ⟨0, (pre + 0), none⟩) 3 (c - 0)), (.int .i64 3), (.bool false), (.int .i64 0), (.int .u64 0), (.int .i64 0), (.int .u64 0), (.int .u64 0)] 31 true), (3, 0, .cells [(.int .u64 bb), (.int .i64 lg), (.int .i64 m0), (.int .i64 m1), (.int .u64 (l.getD 0 0)), (.int .i64 0), (.int .i64 2), (.int .u64 (l.getD 0 0)), (.int .u64 (makeV (l.getD 0 0) m1))] 82 true), (2, 0, .cells [(.int .i64 m0), (.int .i64 m1)] 55 true), (1, 0, .cells [(.int .u64 bb), (.int .i64 lg)] 54 true), (0, 0, .tail pre .u64 l e)]⟩⟩
theorem R104 (pre : Nat) (n : Nat) (c : Nat) (l : List Int) (m1 : Int) (bb : Int) (lg : Int) (m0 : Int) (e : TypeId) : evCK Try.prog cfgE (runK Try.prog cfgE fsE (conT grpDom grpE) 12 40) 12 (codeAt [1, 1, 1, 1, 0, 1, 0, 0, 1, 0, 0, 1, 1, 1, 0] B) (S124 pre n c l m1 bb lg m0 e) (normC 1 [2, 3, 4, 7, 12, 13, 14, 15, 16, 17, 18]) =
  some (.normal, (S125 pre n c l m1 bb lg m0 e)) := by kernel_rfl
noncomputable def S126 (pre : Nat) (n : Nat) (c : Nat) (bb : Int) (lg : Int) (m0 : Int) (m1 : Int) (l : List Int) (e : TypeId) : KSt := ⟨(frameL 135 [(2, (.slice (some ⟨0, pre, none⟩) n c)), (3, (.pointer (some ⟨1, 0, none⟩))), (4, (.pointer (some ⟨2, 0, none⟩))), (7, (.pointer (some ⟨3, 0, none⟩))), (12, (.int .i64 3)), (123, (.bool true))]), ⟨4, 1, [(3, 0, .cells [(.int .u64 bb), (.int .i64 lg), (.int .i64 m0), (.int .i64 m1), (.int .u64 (l.getD 0 0)), (.int .i64 0), (.int .i64 2), (.int .u64 (l.getD 0 0)), (.int .u64 (makeV (l.getD 0 0) m1))] 82 true), (2, 0, .cells [(.int .i64 m0), (.int .i64 m1)] 55 true), (1, 0, .cells [(.int .u64 bb), (.int .i64 lg)] 54 true), (0, 0, .tail pre .u64 l e)]⟩⟩
noncomputable def S127 (pre : Nat) (n : Nat) (c : Nat) (bb : Int) (lg : Int) (m0 : Int) (m1 : Int) (l : List Int) (e : TypeId) : KSt := ⟨(frameL 135 [(2, (.slice (some ⟨0, pre, none⟩) n c)), (3, (.pointer (some ⟨1, 0, none⟩))), (4, (.pointer (some ⟨2, 0, none⟩))), (7, (.pointer (some ⟨3, 0, none⟩))), (12, (.int .i64 3)), (123, (.bool false))]), ⟨4, 1, [(3, 0, .cells [(.int .u64 bb), (.int .i64 lg), (.int .i64 m0), (.int .i64 m1), (.int .u64 (l.getD 0 0)), (.int .i64 0), (.int .i64 2), (.int .u64 (l.getD 0 0)), (.int .u64 (makeV (l.getD 0 0) m1))] 82 true), (2, 0, .cells [(.int .i64 m0), (.int .i64 m1)] 55 true), (1, 0, .cells [(.int .u64 bb), (.int .i64 lg)] 54 true), (0, 0, .tail pre .u64 l e)]⟩⟩
theorem R105 (pre : Nat) (n : Nat) (c : Nat) (l : List Int) (m1 : Int) (bb : Int) (lg : Int) (m0 : Int) (e : TypeId) : evCK Try.prog cfgE (runK Try.prog cfgE fsE (conT grpDom grpE) 12 40) 12 (codeAt [1, 1, 1, 1, 0, 1, 0, 0, 1, 0, 0, 1, 1, 1, 1, 0, 0] B) (S125 pre n c l m1 bb lg m0 e) (normC 1 [2, 3, 4, 7, 12, 123]) =
  bif (!(true && (((l.getD 0 0) == (l.getD 0 0)) && (((makeV (l.getD 0 0) m1) == (makeV (l.getD 0 0) m1)) && true)))) then
    some (.normal, (S126 pre n c bb lg m0 m1 l e))
  else
    some (.normal, (S127 pre n c bb lg m0 m1 l e)) := by kernel_rfl
theorem R106 (pre : Nat) (n : Nat) (c : Nat) (bb : Int) (lg : Int) (m0 : Int) (m1 : Int) (l : List Int) (e : TypeId) : evCK Try.prog cfgE (runK Try.prog cfgE fsE (conT grpDom grpE) 12 40) 12 (codeAt [1, 1, 1, 1, 0, 1, 0, 0, 1, 0, 0, 1, 1, 1, 1, 0, 1, 1] B) (S127 pre n c bb lg m0 m1 l e) (normC 1 [2, 3, 4, 7, 12]) =
  some (.normal, (S94 pre n c bb lg m0 m1 l e)) := by kernel_rfl
noncomputable def S128 (pre : Nat) (n : Nat) (c : Nat) (bb : Int) (lg : Int) (m0 : Int) (m1 : Int) (l : List Int) (e : TypeId) : KSt := ⟨(frameL 135 [(2, (.slice (some ⟨0, pre, none⟩) n c)), (3, (.pointer (some ⟨1, 0, none⟩))), (4, (.pointer (some ⟨2, 0, none⟩))), (7, (.pointer (some ⟨3, 0, none⟩))), (12, (.int .i64 3)), (127, (.bool (decide (3 < ((n : Nat) : Int)))))]), ⟨4, 1, [(3, 0, .cells [(.int .u64 bb), (.int .i64 lg), (.int .i64 m0), (.int .i64 m1), (.int .u64 (l.getD 0 0)), (.int .i64 0), (.int .i64 2), (.int .u64 (l.getD 0 0)), (.int .u64 (makeV (l.getD 0 0) m1))] 82 true), (2, 0, .cells [(.int .i64 m0), (.int .i64 m1)] 55 true), (1, 0, .cells [(.int .u64 bb), (.int .i64 lg)] 54 true), (0, 0, .tail pre .u64 l e)]⟩⟩
theorem R107 (pre : Nat) (n : Nat) (c : Nat) (bb : Int) (lg : Int) (m0 : Int) (m1 : Int) (l : List Int) (e : TypeId) : evCK Try.prog cfgE (runK Try.prog cfgE fsE (conT grpDom grpE) 12 40) 12 (codeAt [1, 1, 1, 1, 0, 1, 0, 0, 1, 0, 0, 1, 1, 1, 1, 1, 0] B) (S94 pre n c bb lg m0 m1 l e) (normC 1 [2, 3, 4, 7, 12, 127]) =
  some (.normal, (S128 pre n c bb lg m0 m1 l e)) := by kernel_rfl
theorem R108 (pre : Nat) (n : Nat) (c : Nat) (bb : Int) (lg : Int) (m0 : Int) (m1 : Int) (l : List Int) (e : TypeId) : evCK Try.prog cfgE (runK Try.prog cfgE fsE (conT grpDom grpE) 12 40) 12 (codeAt [1, 1, 1, 1, 0, 1, 0, 0, 1, 0, 0, 1, 1, 1, 1, 1, 1, 0] B) (S128 pre n c bb lg m0 m1 l e) (normC 1 [2, 3, 4, 7, 12]) =
  if (0 : Int) ≤ 3 ∧ 3 < ((n : Nat) : Int) then
    bif (Nat.ble pre (pre + 3)) then
      obind (l[((pre + 3) - pre)]?) fun n1 =>
        some (.normal, (S94 pre n c bb lg m0 m1 l e))
    else
      none
  else
    none := by kernel_rfl
noncomputable def S129 (pre : Nat) (n : Nat) (c : Nat) (bb : Int) (lg : Int) (m0 : Int) (m1 : Int) (l : List Int) (e : TypeId) : KSt := ⟨(frameL 135 [(2, (.slice (some ⟨0, pre, none⟩) n c)), (3, (.pointer (some ⟨1, 0, none⟩))), (4, (.pointer (some ⟨2, 0, none⟩))), (7, (.pointer (some ⟨3, 0, none⟩))), (12, (.int .i64 4))]), ⟨4, 1, [(3, 0, .cells [(.int .u64 bb), (.int .i64 lg), (.int .i64 m0), (.int .i64 m1), (.int .u64 (l.getD 0 0)), (.int .i64 0), (.int .i64 2), (.int .u64 (l.getD 0 0)), (.int .u64 (makeV (l.getD 0 0) m1))] 82 true), (2, 0, .cells [(.int .i64 m0), (.int .i64 m1)] 55 true), (1, 0, .cells [(.int .u64 bb), (.int .i64 lg)] 54 true), (0, 0, .tail pre .u64 l e)]⟩⟩
theorem R109 (pre : Nat) (n : Nat) (c : Nat) (bb : Int) (lg : Int) (m0 : Int) (m1 : Int) (l : List Int) (e : TypeId) : evCK Try.prog cfgE (runK Try.prog cfgE fsE (conT grpDom grpE) 12 40) 12 (codeAt [1, 1, 1, 1, 0, 1, 0, 0, 1, 1] B) (S94 pre n c bb lg m0 m1 l e) (normC 1 [2, 3, 4, 7, 12]) =
  some (.normal, (S129 pre n c bb lg m0 m1 l e)) := by kernel_rfl
theorem lp9m_27 (bb lg m0 m1 g gl : Int) (i : Int) (pre n c : Nat) (l : List Int) (e : TypeId) (hb : 0 ≤ bb) (hm : -9223372036854775808 ≤ m1 ∧ m1 < 9223372036854775808) (hg : groupsV m0 = g) (hg1 : 0 ≤ g) (hg2 : g ≤ 512) (hgl : groupsV lg = gl) (hgl1 : 0 ≤ gl) (hn20 : n ≤ 20) (hc : n ≤ c) (hc2 : c ≤ 9223372036854775807) (hl : l.length = c) (hc0 : 0 < c) (h1 : bb ≠ 0) (h2 : 0 < gl) (h3 : 0 < g) (hn : 3 < (n : Int))  (q1 : ((l.getD 0 0) == 0) = false) (q2 : ((l.getD 2 0) == 0) = true) {Q : Ex → St → Prop} (hq : Q .normal (KSt.low (S129 pre n c bb lg m0 m1 l e))) : Gets Try.prog (KH.low ⟨1, 1, [(0, 0, .tail pre .u64 l e)]⟩) (codeAt [1, 1, 1, 1, 0, 1, 0, 0] B) (KSt.low (S94 pre n c bb lg m0 m1 l e)) Q := by
  rw [C1_1_1_1_0_1_0_0]; refine Gets.seq ?_
  rw [C1_1_1_1_0_1_0_0_0]; refine Gets.seq ?_
  refine Gets.ofN fitE grp_sound (conT_agree _ _) 12 40 (by kernel_rfl) (x := .normal) (s' := (S113 pre n c bb lg m0 m1 l e)) (R99 pre n c bb lg m0 m1 l e) ?_
  show Gets _ _ (codeAt [1, 1, 1, 1, 0, 1, 0, 0, 0, 1] B) _ _
  rw [C1_1_1_1_0_1_0_0_0_1]; refine Gets.cond true (by kernel_rfl) ((show evalX (KSt.ts (S113 pre n c bb lg m0 m1 l e)) (.tmp 60) = .bool (decide (3 ≤ ((n : Nat) : Int))) by kernel_rfl).trans (by rw [(show (decide (3 ≤ ((n : Nat) : Int))) = true from decide_eq_true (by omega))])) ?_; show Gets _ _ (codeAt [1, 1, 1, 1, 0, 1, 0, 0, 0, 1, 0] B) _ _
  refine Gets.ofN fitE grp_sound (conT_agree _ _) 12 40 (by kernel_rfl) (x := .normal) (s' := (S94 pre n c bb lg m0 m1 l e)) (R100 pre n c bb lg m0 m1 l e) ?_
  show Gets _ _ (codeAt [1, 1, 1, 1, 0, 1, 0, 0, 1] B) _ _
  rw [C1_1_1_1_0_1_0_0_1]; refine Gets.seq ?_
  rw [C1_1_1_1_0_1_0_0_1_0]; refine Gets.block ?_
  rw [C1_1_1_1_0_1_0_0_1_0_0]; refine Gets.seq ?_
  refine Gets.ofN fitE grp_sound (conT_agree _ _) 12 40 (by kernel_rfl) (x := .normal) (s' := (S115 pre n c bb lg m0 m1 l e)) ((R101 pre n c bb lg m0 m1 l e).trans (by rw [if_pos (⟨by omega, by omega⟩), condT (and_t (rfl) (ble_t (by omega))), condF (nbeq_f (by omega))])) ?_
  show Gets _ _ (codeAt [1, 1, 1, 1, 0, 1, 0, 0, 1, 0, 0, 1] B) _ _
  rw [C1_1_1_1_0_1_0_0_1_0_0_1]; refine Gets.seq ?_
  refine Gets.ofN fitE grp_sound (conT_agree _ _) 12 40 (by kernel_rfl) (x := .normal) (s' := (S121 pre n c l m1 bb lg m0 e)) ((R102 pre n c bb lg m0 m1 l e).trans (by rw [condF (ibeq_f (by ((try simp (disch := omega) only [hg, hgl, wrap_i64_id]) <;> omega))), condT (ble_t (by omega)), obind_at (k := 0) (by omega) (by omega), condF (q1), condT (ble_t (by omega)), obind_at (k := 1) (by omega) (by omega), condT (ble_t (by omega)), obind_at (k := 2) (by omega) (by omega), condT (q2)] <;> (show some (Ex.normal, (S122 pre n c l m1 bb lg m0 e)) = some (Ex.normal, (S121 pre n c l m1 bb lg m0 e)); unfold S122 S121; rw [(show (makeRV (l.getD 0 0) m1) = (makeV (l.getD 0 0) m1) from makeRV_eq hm)]))) ?_
  show Gets _ _ (codeAt [1, 1, 1, 1, 0, 1, 0, 0, 1, 0, 0, 1, 1] B) _ _
  rw [C1_1_1_1_0_1_0_0_1_0_0_1_1]; refine Gets.seq ?_
  refine Gets.ofN fitE grp_sound (conT_agree _ _) 12 40 (by kernel_rfl) (x := .normal) (s' := (S124 pre n c l m1 bb lg m0 e)) ((R103 pre n c l m1 bb lg m0 e).trans (by rw [condF (and_f1 (rfl))])) ?_
  show Gets _ _ (codeAt [1, 1, 1, 1, 0, 1, 0, 0, 1, 0, 0, 1, 1, 1] B) _ _
  rw [C1_1_1_1_0_1_0_0_1_0_0_1_1_1]; refine Gets.seq ?_
  refine Gets.ofN fitE grp_sound (conT_agree _ _) 12 40 (by kernel_rfl) (x := .normal) (s' := (S125 pre n c l m1 bb lg m0 e)) (R104 pre n c l m1 bb lg m0 e) ?_
  show Gets _ _ (codeAt [1, 1, 1, 1, 0, 1, 0, 0, 1, 0, 0, 1, 1, 1, 1] B) _ _
  rw [C1_1_1_1_0_1_0_0_1_0_0_1_1_1_1]; refine Gets.seq ?_
  rw [C1_1_1_1_0_1_0_0_1_0_0_1_1_1_1_0]; refine Gets.seq ?_
  refine Gets.ofN fitE grp_sound (conT_agree _ _) 12 40 (by kernel_rfl) (x := .normal) (s' := (S127 pre n c bb lg m0 m1 l e)) ((R105 pre n c l m1 bb lg m0 e).trans (by rw [condF (not_f (and_t (rfl) (and_t (beq_self_eq_true _) (and_t (beq_self_eq_true _) (rfl)))))])) ?_
  show Gets _ _ (codeAt [1, 1, 1, 1, 0, 1, 0, 0, 1, 0, 0, 1, 1, 1, 1, 0, 1] B) _ _
  rw [C1_1_1_1_0_1_0_0_1_0_0_1_1_1_1_0_1]; refine Gets.cond false (by kernel_rfl) (show evalX (KSt.ts (S127 pre n c bb lg m0 m1 l e)) (.tmp 123) = .bool false by kernel_rfl) ?_; show Gets _ _ (codeAt [1, 1, 1, 1, 0, 1, 0, 0, 1, 0, 0, 1, 1, 1, 1, 0, 1, 1] B) _ _
  refine Gets.ofN fitE grp_sound (conT_agree _ _) 12 40 (by kernel_rfl) (x := .normal) (s' := (S94 pre n c bb lg m0 m1 l e)) (R106 pre n c bb lg m0 m1 l e) ?_
  show Gets _ _ (codeAt [1, 1, 1, 1, 0, 1, 0, 0, 1, 0, 0, 1, 1, 1, 1, 1] B) _ _
  rw [C1_1_1_1_0_1_0_0_1_0_0_1_1_1_1_1]; refine Gets.seq ?_
  refine Gets.ofN fitE grp_sound (conT_agree _ _) 12 40 (by kernel_rfl) (x := .normal) (s' := (S128 pre n c bb lg m0 m1 l e)) (R107 pre n c bb lg m0 m1 l e) ?_
  show Gets _ _ (codeAt [1, 1, 1, 1, 0, 1, 0, 0, 1, 0, 0, 1, 1, 1, 1, 1, 1] B) _ _
  rw [C1_1_1_1_0_1_0_0_1_0_0_1_1_1_1_1_1]; refine Gets.cond true (by kernel_rfl) ((show evalX (KSt.ts (S128 pre n c bb lg m0 m1 l e)) (.tmp 127) = .bool (decide (3 < ((n : Nat) : Int))) by kernel_rfl).trans (by rw [(show (decide (3 < ((n : Nat) : Int))) = true from decide_eq_true (by omega))])) ?_; show Gets _ _ (codeAt [1, 1, 1, 1, 0, 1, 0, 0, 1, 0, 0, 1, 1, 1, 1, 1, 1, 0] B) _ _
  refine Gets.ofN fitE grp_sound (conT_agree _ _) 12 40 (by kernel_rfl) (x := .normal) (s' := (S94 pre n c bb lg m0 m1 l e)) ((R108 pre n c bb lg m0 m1 l e).trans (by rw [if_pos (⟨by omega, by omega⟩), condT (ble_t (by omega)), obind_at (k := 3) (by omega) (by omega)] <;> rfl)) ?_
  show Gets _ _ (codeAt [1, 1, 1, 1, 0, 1, 0, 0, 1, 1] B) _ _
  refine Gets.ofN fitE grp_sound (conT_agree _ _) 12 40 (by kernel_rfl) (x := .normal) (s' := (S129 pre n c bb lg m0 m1 l e)) (R109 pre n c bb lg m0 m1 l e) ?_
  exact hq
theorem R110 (pre : Nat) (n : Nat) (c : Nat) (bb : Int) (lg : Int) (m0 : Int) (m1 : Int) (l : List Int) (e : TypeId) : evCK Try.prog cfgE (runK Try.prog cfgE fsE (conT grpDom grpE) 12 40) 12 (codeAt [1, 1, 1, 1, 0, 1, 0, 0, 1, 0, 0, 1, 1, 1, 1, 1, 1, 1] B) (S128 pre n c bb lg m0 m1 l e) (normC 1 [2, 3, 4, 7, 12]) =
  some (.normal, (S94 pre n c bb lg m0 m1 l e)) := by kernel_rfl
theorem lp9e_28 (bb lg m0 m1 g gl : Int) (i : Int) (pre n c : Nat) (l : List Int) (e : TypeId) (hb : 0 ≤ bb) (hm : -9223372036854775808 ≤ m1 ∧ m1 < 9223372036854775808) (hg : groupsV m0 = g) (hg1 : 0 ≤ g) (hg2 : g ≤ 512) (hgl : groupsV lg = gl) (hgl1 : 0 ≤ gl) (hn20 : n ≤ 20) (hc : n ≤ c) (hc2 : c ≤ 9223372036854775807) (hl : l.length = c) (hc0 : 0 < c) (h1 : bb ≠ 0) (h2 : 0 < gl) (h3 : 0 < g) (hn : 3 = (n : Int))  (q1 : ((l.getD 0 0) == 0) = false) (q2 : ((l.getD 2 0) == 0) = true) {Q : Ex → St → Prop} (hq : Q .normal (KSt.low (S129 pre n c bb lg m0 m1 l e))) : Gets Try.prog (KH.low ⟨1, 1, [(0, 0, .tail pre .u64 l e)]⟩) (codeAt [1, 1, 1, 1, 0, 1, 0, 0] B) (KSt.low (S94 pre n c bb lg m0 m1 l e)) Q := by
  rw [C1_1_1_1_0_1_0_0]; refine Gets.seq ?_
  rw [C1_1_1_1_0_1_0_0_0]; refine Gets.seq ?_
  refine Gets.ofN fitE grp_sound (conT_agree _ _) 12 40 (by kernel_rfl) (x := .normal) (s' := (S113 pre n c bb lg m0 m1 l e)) (R99 pre n c bb lg m0 m1 l e) ?_
  show Gets _ _ (codeAt [1, 1, 1, 1, 0, 1, 0, 0, 0, 1] B) _ _
  rw [C1_1_1_1_0_1_0_0_0_1]; refine Gets.cond true (by kernel_rfl) ((show evalX (KSt.ts (S113 pre n c bb lg m0 m1 l e)) (.tmp 60) = .bool (decide (3 ≤ ((n : Nat) : Int))) by kernel_rfl).trans (by rw [(show (decide (3 ≤ ((n : Nat) : Int))) = true from decide_eq_true (by omega))])) ?_; show Gets _ _ (codeAt [1, 1, 1, 1, 0, 1, 0, 0, 0, 1, 0] B) _ _
  refine Gets.ofN fitE grp_sound (conT_agree _ _) 12 40 (by kernel_rfl) (x := .normal) (s' := (S94 pre n c bb lg m0 m1 l e)) (R100 pre n c bb lg m0 m1 l e) ?_
  show Gets _ _ (codeAt [1, 1, 1, 1, 0, 1, 0, 0, 1] B) _ _
  rw [C1_1_1_1_0_1_0_0_1]; refine Gets.seq ?_
  rw [C1_1_1_1_0_1_0_0_1_0]; refine Gets.block ?_
  rw [C1_1_1_1_0_1_0_0_1_0_0]; refine Gets.seq ?_
  refine Gets.ofN fitE grp_sound (conT_agree _ _) 12 40 (by kernel_rfl) (x := .normal) (s' := (S115 pre n c bb lg m0 m1 l e)) ((R101 pre n c bb lg m0 m1 l e).trans (by rw [if_pos (⟨by omega, by omega⟩), condT (and_t (rfl) (ble_t (by omega))), condF (nbeq_f (by omega))])) ?_
  show Gets _ _ (codeAt [1, 1, 1, 1, 0, 1, 0, 0, 1, 0, 0, 1] B) _ _
  rw [C1_1_1_1_0_1_0_0_1_0_0_1]; refine Gets.seq ?_
  refine Gets.ofN fitE grp_sound (conT_agree _ _) 12 40 (by kernel_rfl) (x := .normal) (s' := (S121 pre n c l m1 bb lg m0 e)) ((R102 pre n c bb lg m0 m1 l e).trans (by rw [condF (ibeq_f (by ((try simp (disch := omega) only [hg, hgl, wrap_i64_id]) <;> omega))), condT (ble_t (by omega)), obind_at (k := 0) (by omega) (by omega), condF (q1), condT (ble_t (by omega)), obind_at (k := 1) (by omega) (by omega), condT (ble_t (by omega)), obind_at (k := 2) (by omega) (by omega), condT (q2)] <;> (show some (Ex.normal, (S122 pre n c l m1 bb lg m0 e)) = some (Ex.normal, (S121 pre n c l m1 bb lg m0 e)); unfold S122 S121; rw [(show (makeRV (l.getD 0 0) m1) = (makeV (l.getD 0 0) m1) from makeRV_eq hm)]))) ?_
  show Gets _ _ (codeAt [1, 1, 1, 1, 0, 1, 0, 0, 1, 0, 0, 1, 1] B) _ _
  rw [C1_1_1_1_0_1_0_0_1_0_0_1_1]; refine Gets.seq ?_
  refine Gets.ofN fitE grp_sound (conT_agree _ _) 12 40 (by kernel_rfl) (x := .normal) (s' := (S124 pre n c l m1 bb lg m0 e)) ((R103 pre n c l m1 bb lg m0 e).trans (by rw [condF (and_f1 (rfl))])) ?_
  show Gets _ _ (codeAt [1, 1, 1, 1, 0, 1, 0, 0, 1, 0, 0, 1, 1, 1] B) _ _
  rw [C1_1_1_1_0_1_0_0_1_0_0_1_1_1]; refine Gets.seq ?_
  refine Gets.ofN fitE grp_sound (conT_agree _ _) 12 40 (by kernel_rfl) (x := .normal) (s' := (S125 pre n c l m1 bb lg m0 e)) (R104 pre n c l m1 bb lg m0 e) ?_
  show Gets _ _ (codeAt [1, 1, 1, 1, 0, 1, 0, 0, 1, 0, 0, 1, 1, 1, 1] B) _ _
  rw [C1_1_1_1_0_1_0_0_1_0_0_1_1_1_1]; refine Gets.seq ?_
  rw [C1_1_1_1_0_1_0_0_1_0_0_1_1_1_1_0]; refine Gets.seq ?_
  refine Gets.ofN fitE grp_sound (conT_agree _ _) 12 40 (by kernel_rfl) (x := .normal) (s' := (S127 pre n c bb lg m0 m1 l e)) ((R105 pre n c l m1 bb lg m0 e).trans (by rw [condF (not_f (and_t (rfl) (and_t (beq_self_eq_true _) (and_t (beq_self_eq_true _) (rfl)))))])) ?_
  show Gets _ _ (codeAt [1, 1, 1, 1, 0, 1, 0, 0, 1, 0, 0, 1, 1, 1, 1, 0, 1] B) _ _
  rw [C1_1_1_1_0_1_0_0_1_0_0_1_1_1_1_0_1]; refine Gets.cond false (by kernel_rfl) (show evalX (KSt.ts (S127 pre n c bb lg m0 m1 l e)) (.tmp 123) = .bool false by kernel_rfl) ?_; show Gets _ _ (codeAt [1, 1, 1, 1, 0, 1, 0, 0, 1, 0, 0, 1, 1, 1, 1, 0, 1, 1] B) _ _
  refine Gets.ofN fitE grp_sound (conT_agree _ _) 12 40 (by kernel_rfl) (x := .normal) (s' := (S94 pre n c bb lg m0 m1 l e)) (R106 pre n c bb lg m0 m1 l e) ?_
  show Gets _ _ (codeAt [1, 1, 1, 1, 0, 1, 0, 0, 1, 0, 0, 1, 1, 1, 1, 1] B) _ _
  rw [C1_1_1_1_0_1_0_0_1_0_0_1_1_1_1_1]; refine Gets.seq ?_
  refine Gets.ofN fitE grp_sound (conT_agree _ _) 12 40 (by kernel_rfl) (x := .normal) (s' := (S128 pre n c bb lg m0 m1 l e)) (R107 pre n c bb lg m0 m1 l e) ?_
  show Gets _ _ (codeAt [1, 1, 1, 1, 0, 1, 0, 0, 1, 0, 0, 1, 1, 1, 1, 1, 1] B) _ _
  rw [C1_1_1_1_0_1_0_0_1_0_0_1_1_1_1_1_1]; refine Gets.cond false (by kernel_rfl) ((show evalX (KSt.ts (S128 pre n c bb lg m0 m1 l e)) (.tmp 127) = .bool (decide (3 < ((n : Nat) : Int))) by kernel_rfl).trans (by rw [(show (decide (3 < ((n : Nat) : Int))) = false from decide_eq_false (by omega))])) ?_; show Gets _ _ (codeAt [1, 1, 1, 1, 0, 1, 0, 0, 1, 0, 0, 1, 1, 1, 1, 1, 1, 1] B) _ _
  refine Gets.ofN fitE grp_sound (conT_agree _ _) 12 40 (by kernel_rfl) (x := .normal) (s' := (S94 pre n c bb lg m0 m1 l e)) (R110 pre n c bb lg m0 m1 l e) ?_
  show Gets _ _ (codeAt [1, 1, 1, 1, 0, 1, 0, 0, 1, 1] B) _ _
  refine Gets.ofN fitE grp_sound (conT_agree _ _) 12 40 (by kernel_rfl) (x := .normal) (s' := (S129 pre n c bb lg m0 m1 l e)) (R109 pre n c bb lg m0 m1 l e) ?_
  exact hq
noncomputable def S130 (pre : Nat) (n : Nat) (c : Nat) (i : Int) (bb : Int) (lg : Int) (m0 : Int) (m1 : Int) (l : List Int) (e : TypeId) : KSt := ⟨(frameL 135 [(2, (.slice (some ⟨0, pre, none⟩) n c)), (3, (.pointer (some ⟨1, 0, none⟩))), (4, (.pointer (some ⟨2, 0, none⟩))), (7, (.pointer (some ⟨3, 0, none⟩))), (12, (.int .i64 i))]), ⟨4, 1, [(3, 0, .cells [(.int .u64 bb), (.int .i64 lg), (.int .i64 m0), (.int .i64 m1), (.int .u64 (l.getD 0 0)), (.int .i64 0), (.int .i64 2), (.int .u64 (l.getD 0 0)), (.int .u64 (makeV (l.getD 0 0) m1))] 82 true), (2, 0, .cells [(.int .i64 m0), (.int .i64 m1)] 55 true), (1, 0, .cells [(.int .u64 bb), (.int .i64 lg)] 54 true), (0, 0, .tail pre .u64 l e)]⟩⟩
noncomputable def S131 (pre : Nat) (n : Nat) (c : Nat) (bb : Int) (lg : Int) (m0 : Int) (m1 : Int) (l : List Int) (e : TypeId) : KSt := ⟨(frameL 135 [(2, (.slice (some ⟨0, pre, none⟩) n c)), (3, (.pointer (some ⟨1, 0, none⟩))), (4, (.pointer (some ⟨2, 0, none⟩))), (7, (.pointer (some ⟨3, 0, none⟩))), (12, (.int .i64 3)), (60, (.bool (decide (3 ≤ ((n : Nat) : Int)))))]), ⟨4, 1, [(3, 0, .cells [(.int .u64 bb), (.int .i64 lg), (.int .i64 m0), (.int .i64 m1), (.int .u64 (l.getD 0 0)), (.int .i64 4), (.int .i64 3), (.int .u64 0), (.int .u64 (l.getD 2 0))] 82 true), (2, 0, .cells [(.int .i64 m0), (.int .i64 m1)] 55 true), (1, 0, .cells [(.int .u64 bb), (.int .i64 lg)] 54 true), (0, 0, .tail pre .u64 l e)]⟩⟩
theorem R111 (pre : Nat) (n : Nat) (c : Nat) (bb : Int) (lg : Int) (m0 : Int) (m1 : Int) (l : List Int) (e : TypeId) : evCK Try.prog cfgE (runK Try.prog cfgE fsE (conT grpDom grpE) 12 40) 12 (codeAt [1, 1, 1, 1, 0, 1, 0, 0, 0, 0] B) (S96 pre n c bb lg m0 m1 l e) (normC 1 [2, 3, 4, 7, 12, 60]) =
  some (.normal, (S131 pre n c bb lg m0 m1 l e)) := by kernel_rfl
theorem R112 (pre : Nat) (n : Nat) (c : Nat) (bb : Int) (lg : Int) (m0 : Int) (m1 : Int) (l : List Int) (e : TypeId) : evCK Try.prog cfgE (runK Try.prog cfgE fsE (conT grpDom grpE) 12 40) 12 (codeAt [1, 1, 1, 1, 0, 1, 0, 0, 0, 1, 0] B) (S131 pre n c bb lg m0 m1 l e) (normC 1 [2, 3, 4, 7, 12]) =
  some (.normal, (S96 pre n c bb lg m0 m1 l e)) := by kernel_rfl
noncomputable def S132 (pre : Nat) (n : Nat) (c : Nat) (bb : Int) (lg : Int) (m0 : Int) (m1 : Int) (l : List Int) (e : TypeId) : KSt := ⟨(frameL 135 [(2, (.slice (some ⟨0, pre, none⟩) n c)), (3, (.pointer (some ⟨1, 0, none⟩))), (4, (.pointer (some ⟨2, 0, none⟩))), (7, (.pointer (some ⟨3, 0, none⟩))), (12, (.int .i64 3)), (13, (.pointer (some ⟨4, 0, none⟩)))]), ⟨5, 1, [(4, 0, .cells [(.slice (some ⟨0, pre, none⟩) 3 (c - 0)), (.int .i64 0), (.bool false), (.int .i64 0), (.int .u64 0), (.int .i64 0), (.int .u64 0), (.int .u64 0)] 31 true), (3, 0, .cells [(.int .u64 bb), (.int .i64 lg), (.int .i64 m0), (.int .i64 m1), (.int .u64 (l.getD 0 0)), (.int .i64 4), (.int .i64 3), (.int .u64 0), (.int .u64 (l.getD 2 0))] 82 true), (2, 0, .cells [(.int .i64 m0), (.int .i64 m1)] 55 true), (1, 0, .cells [(.int .u64 bb), (.int .i64 lg)] 54 true), (0, 0, .tail pre .u64 l e)]⟩⟩
noncomputable def S133 (pre : Nat) (n : Nat) (c : Nat) (bb : Int) (lg : Int) (m0 : Int) (m1 : Int) (l : List Int) (e : TypeId) : KSt := ⟨(frameL 135 [(2, (.slice (some ⟨0, pre, none⟩) n c)), (3, (.pointer (some ⟨1, 0, none⟩))), (4, (.pointer (some ⟨2, 0, none⟩))), (7, (.pointer (some ⟨3, 0, none⟩))), (12, (.int .i64 3)), (13, (.pointer (some ⟨4, 0, none⟩)))]), ⟨5, 1, [(4, 0, .cells [(.slice (some ⟨0, (pre + 0), none⟩) 3 (c - 0)), (.int .i64 0), (.bool false), (.int .i64 0), (.int .u64 0), (.int .i64 0), (.int .u64 0), (.int .u64 0)] 31 true), (3, 0, .cells [(.int .u64 bb), (.int .i64 lg), (.int .i64 m0), (.int .i64 m1), (.int .u64 (l.getD 0 0)), (.int .i64 4), (.int .i64 3), (.int .u64 0), (.int .u64 (l.getD 2 0))] 82 true), (2, 0, .cells [(.int .i64 m0), (.int .i64 m1)] 55 true), (1, 0, .cells [(.int .u64 bb), (.int .i64 lg)] 54 true), (0, 0, .tail pre .u64 l e)]⟩⟩
theorem R113 (pre : Nat) (n : Nat) (c : Nat) (bb : Int) (lg : Int) (m0 : Int) (m1 : Int) (l : List Int) (e : TypeId) : evCK Try.prog cfgE (runK Try.prog cfgE fsE (conT grpDom grpE) 12 40) 12 (codeAt [1, 1, 1, 1, 0, 1, 0, 0, 1, 0, 0, 0] B) (S96 pre n c bb lg m0 m1 l e) (normC 1 [2, 3, 4, 7, 12, 13]) =
  if (0 : Int) ≤ 3 ∧ 3 ≤ ((c : Nat) : Int) then
    bif (true && (Nat.ble 3 c)) then
      bif (Nat.beq c 0) then
        some (.normal, (S132 pre n c bb lg m0 m1 l e))
      else
        some (.normal, (S133 pre n c bb lg m0 m1 l e))
    else
      none
  else
    none := by kernel_rfl
noncomputable def S134 (pre : Nat) (n : Nat) (c : Nat) (bb : Int) (lg : Int) (m0 : Int) (m1 : Int) (l : List Int) (e : TypeId) : KSt := ⟨(frameL 135 [(2, (.slice (some ⟨0, pre, none⟩) n c)), (3, (.pointer (some ⟨1, 0, none⟩))), (4, (.pointer (some ⟨2, 0, none⟩))), (7, (.pointer (some ⟨3, 0, none⟩))), (12, (.int .i64 3)), (13, (.pointer (some ⟨4, 0, none⟩))), (14, (.pointer (some ⟨5, 0, none⟩)))]), ⟨6, 1, [(5, 0, .cells [(.int .i64 1), (.int .u64 0), (.int .u64 0)] 63 true), (4, 0, .cells [(.slice (some ⟨0, (pre + 0), none⟩) 3 (c - 0)), (.int .i64 1), (.bool false), (.int .i64 0), (.int .u64 0), (.int .i64 0), (.int .u64 0), (.int .u64 0)] 31 true), (3, 0, .cells [(.int .u64 bb), (.int .i64 lg), (.int .i64 m0), (.int .i64 m1), (.int .u64 (l.getD 0 0)), (.int .i64 4), (.int .i64 3), (.int .u64 0), (.int .u64 (l.getD 2 0))] 82 true), (2, 0, .cells [(.int .i64 m0), (.int .i64 m1)] 55 true), (1, 0, .cells [(.int .u64 bb), (.int .i64 lg)] 54 true), (0, 0, .tail pre .u64 l e)]⟩⟩
noncomputable def S135 (pre : Nat) (n : Nat) (c : Nat) (n1 : Int) (m1 : Int) (bb : Int) (lg : Int) (m0 : Int) (l : List Int) (e : TypeId) : KSt := ⟨(frameL 135 [(2, (.slice (some ⟨0, pre, none⟩) n c)), (3, (.pointer (some ⟨1, 0, none⟩))), (4, (.pointer (some ⟨2, 0, none⟩))), (7, (.pointer (some ⟨3, 0, none⟩))), (12, (.int .i64 3)), (13, (.pointer (some ⟨4, 0, none⟩))), (14, (.pointer (some ⟨5, 0, none⟩)))]), ⟨6, 1, [(5, 0, .cells [(.int .i64 2), (.int .u64 n1), (.int .u64 (makeRV n1 m1))] 63 true), (4, 0, .cells [(.slice (some ⟨0, (pre + 0), none⟩) 3 (c - 0)), (.int .i64 3), (.bool false), (.int .i64 0), (.int .u64 0), (.int .i64 0), (.int .u64 0), (.int .u64 0)] 31 true), (3, 0, .cells [(.int .u64 bb), (.int .i64 lg), (.int .i64 m0), (.int .i64 m1), (.int .u64 (l.getD 0 0)), (.int .i64 4), (.int .i64 3), (.int .u64 0), (.int .u64 (l.getD 2 0))] 82 true), (2, 0, .cells [(.int .i64 m0), (.int .i64 m1)] 55 true), (1, 0, .cells [(.int .u64 bb), (.int .i64 lg)] 54 true), (0, 0, .tail pre .u64 l e)]⟩⟩
noncomputable def S136 (pre : Nat) (n : Nat) (c : Nat) (n3 : Int) (n1 : Int) (bb : Int) (lg : Int) (m0 : Int) (m1 : Int) (l : List Int) (e : TypeId) : KSt := ⟨(frameL 135 [(2, (.slice (some ⟨0, pre, none⟩) n c)), (3, (.pointer (some ⟨1, 0, none⟩))), (4, (.pointer (some ⟨2, 0, none⟩))), (7, (.pointer (some ⟨3, 0, none⟩))), (12, (.int .i64 3)), (13, (.pointer (some ⟨4, 0, none⟩))), (14, (.pointer (some ⟨5, 0, none⟩)))]), ⟨6, 1, [(5, 0, .cells [(.int .i64 3), (.int .u64 0), (.int .u64 n3)] 63 true), (4, 0, .cells [(.slice (some ⟨0, (pre + 0), none⟩) 3 (c - 0)), (.int .i64 3), (.bool true), (.int .i64 6), (.int .u64 n1), (.int .i64 0), (.int .u64 0), (.int .u64 0)] 31 true), (3, 0, .cells [(.int .u64 bb), (.int .i64 lg), (.int .i64 m0), (.int .i64 m1), (.int .u64 (l.getD 0 0)), (.int .i64 4), (.int .i64 3), (.int .u64 0), (.int .u64 (l.getD 2 0))] 82 true), (2, 0, .cells [(.int .i64 m0), (.int .i64 m1)] 55 true), (1, 0, .cells [(.int .u64 bb), (.int .i64 lg)] 54 true), (0, 0, .tail pre .u64 l e)]⟩⟩
noncomputable def S137 (pre : Nat) (n : Nat) (c : Nat) (n4 : Int) (m1 : Int) (bb : Int) (lg : Int) (m0 : Int) (l : List Int) (e : TypeId) : KSt := ⟨(frameL 135 [(2, (.slice (some ⟨0, pre, none⟩) n c)), (3, (.pointer (some ⟨1, 0, none⟩))), (4, (.pointer (some ⟨2, 0, none⟩))), (7, (.pointer (some ⟨3, 0, none⟩))), (12, (.int .i64 3)), (13, (.pointer (some ⟨4, 0, none⟩))), (14, (.pointer (some ⟨5, 0, none⟩)))]), ⟨6, 1, [(5, 0, .cells [(.int .i64 2), (.int .u64 n4), (.int .u64 (makeRV n4 m1))] 63 true), (4, 0, .cells [(.slice (some ⟨0, (pre + 0), none⟩) 3 (c - 0)), (.int .i64 3), (.bool false), (.int .i64 0), (.int .u64 0), (.int .i64 0), (.int .u64 0), (.int .u64 0)] 31 true), (3, 0, .cells [(.int .u64 bb), (.int .i64 lg), (.int .i64 m0), (.int .i64 m1), (.int .u64 (l.getD 0 0)), (.int .i64 4), (.int .i64 3), (.int .u64 0), (.int .u64 (l.getD 2 0))] 82 true), (2, 0, .cells [(.int .i64 m0), (.int .i64 m1)] 55 true), (1, 0, .cells [(.int .u64 bb), (.int .i64 lg)] 54 true), (0, 0, .tail pre .u64 l e)]⟩⟩
noncomputable def S138 (pre : Nat) (n : Nat) (c : Nat) (n6 : Int) (n4 : Int) (bb : Int) (lg : Int) (m0 : Int) (m1 : Int) (l : List Int) (e : TypeId) : KSt := ⟨(frameL 135 [(2, (.slice (some ⟨0, pre, none⟩) n c)), (3, (.pointer (some ⟨1, 0, none⟩))), (4, (.pointer (some ⟨2, 0, none⟩))), (7, (.pointer (some ⟨3, 0, none⟩))), (12, (.int .i64 3)), (13, (.pointer (some ⟨4, 0, none⟩))), (14, (.pointer (some ⟨5, 0, none⟩)))]), ⟨6, 1, [(5, 0, .cells [(.int .i64 3), (.int .u64 0), (.int .u64 n6)] 63 true), (4, 0, .cells [(.slice (some ⟨0, (pre + 0), none⟩) 3 (c - 0)), (.int .i64 3), (.bool true), (.int .i64 6), (.int .u64 n4), (.int .i64 0), (.int .u64 0), (.int .u64 0)] 31 true), (3, 0, .cells [(.int .u64 bb), (.int .i64 lg), (.int .i64 m0), (.int .i64 m1), (.int .u64 (l.getD 0 0)), (.int .i64 4), (.int .i64 3), (.int .u64 0), (.int .u64 (l.getD 2 0))] 82 true), (2, 0, .cells [(.int .i64 m0), (.int .i64 m1)] 55 true), (1, 0, .cells [(.int .u64 bb), (.int .i64 lg)] 54 true), (0, 0, .tail pre .u64 l e)]⟩⟩
theorem R114 (pre : Nat) (n : Nat) (c : Nat) (bb : Int) (lg : Int) (m0 : Int) (m1 : Int) (l : List Int) (e : TypeId) : evCK Try.prog cfgE (runK Try.prog cfgE fsE (conT grpDom grpE) 12 40) 12 (codeAt [1, 1, 1, 1, 0, 1, 0, 0, 1, 0, 0, 1, 0] B) (S133 pre n c bb lg m0 m1 l e) (normC 1 [2, 3, 4, 7, 12, 13, 14]) =
  bif ((groupsV m0) == 0) then
    bif (Nat.ble pre ((pre + 0) + 0)) then
      obind (l[(((pre + 0) + 0) - pre)]?) fun n1 =>
        bif (n1 == 0) then
          some (.normal, (S134 pre n c bb lg m0 m1 l e))
        else
          bif (Nat.ble pre ((pre + 0) + 1)) then
            obind (l[(((pre + 0) + 1) - pre)]?) fun n2 =>
              bif (Nat.ble pre ((pre + 0) + 2)) then
                obind (l[(((pre + 0) + 2) - pre)]?) fun n3 =>
                  bif (n3 == 0) then
                    some (.normal, (S135 pre n c n1 m1 bb lg m0 l e))
                  else
                    some (.normal, (S136 pre n c n3 n1 bb lg m0 m1 l e))
              else
                none
          else
            none
    else
      none
  else
    bif (Nat.ble pre ((pre + 0) + 0)) then
      obind (l[(((pre + 0) + 0) - pre)]?) fun n4 =>
        bif (n4 == 0) then
          some (.normal, (S134 pre n c bb lg m0 m1 l e))
        else
          bif (Nat.ble pre ((pre + 0) + 1)) then
            obind (l[(((pre + 0) + 1) - pre)]?) fun n5 =>
              bif (Nat.ble pre ((pre + 0) + 2)) then
                obind (l[(((pre + 0) + 2) - pre)]?) fun n6 =>
                  bif (n6 == 0) then
                    some (.normal, (S137 pre n c n4 m1 bb lg m0 l e))
                  else
                    some (.normal, (S138 pre n c n6 n4 bb lg m0 m1 l e))
              else
                none
          else
            none
    else
      none := by kernel_rfl
noncomputable def S139 (pre : Nat) (n : Nat) (c : Nat) (l : List Int) (bb : Int) (lg : Int) (m0 : Int) (m1 : Int) (e : TypeId) : KSt := ⟨(frameL 135 [(2, (.slice (some ⟨0, pre, none⟩) n c)), (3, (.pointer (some ⟨1, 0, none⟩))), (4, (.pointer (some ⟨2, 0, none⟩))), (7, (.pointer (some ⟨3, 0, none⟩))), (12, (.int .i64 3)), (13, (.pointer (some ⟨4, 0, none⟩))), (14, (.pointer (some ⟨5, 0, none⟩)))]), ⟨6, 1, [(5, 0, .cells [(.int .i64 3), (.int .u64 0), (.int .u64 (l.getD 2 0))] 63 true), (4, 0, .cells [(.slice (some ⟨0, (pre + 0), none⟩) 3 (c - 0)), (.int .i64 3), (.bool true), (.int .i64 6), (.int .u64 (l.getD 0 0)), (.int .i64 0), (.int .u64 0), (.int .u64 0)] 31 true), (3, 0, .cells [(.int .u64 bb), (.int .i64 lg), (.int .i64 m0), (.int .i64 m1), (.int .u64 (l.getD 0 0)), (.int .i64 4), (.int .i64 3), (.int .u64 0), (.int .u64 (l.getD 2 0))] 82 true), (2, 0, .cells [(.int .i64 m0), (.int .i64 m1)] 55 true), (1, 0, .cells [(.int .u64 bb), (.int .i64 lg)] 54 true), (0, 0, .tail pre .u64 l e)]⟩⟩
noncomputable def S140 (pre : Nat) (n : Nat) (c : Nat) (l : List Int) (bb : Int) (lg : Int) (m0 : Int) (m1 : Int) (e : TypeId) : KSt := ⟨(frameL 135 [(2, (.slice (some ⟨0, pre, none⟩) n c)), (3, (.pointer (some ⟨1, 0, none⟩))), (4, (.pointer (some ⟨2, 0, none⟩))), (7, (.pointer (some ⟨3, 0, none⟩))), (12, (.int .i64 3)), (13, (.pointer (some ⟨4, 0, none⟩))), (14, (.pointer (some ⟨5, 0, none⟩))), (15, (.pointer (some ⟨6, 0, none⟩))), (16, (.bool false))]), ⟨7, 1, [(6, 0, .cells [(.int .i64 0), (.int .u64 0), (.int .u64 0)] 60 true), (5, 0, .cells [(.int .i64 3), (.int .u64 0), (.int .u64 (l.getD 2 0))] 63 true), (4, 0, .cells [(.slice (some ⟨0, (pre + 0), none⟩) 3 (c - 0)), (.int .i64 3), (.bool true), (.int .i64 6), (.int .u64 (l.getD 0 0)), (.int .i64 0), (.int .u64 0), (.int .u64 0)] 31 true), (3, 0, .cells [(.int .u64 bb), (.int .i64 lg), (.int .i64 m0), (.int .i64 m1), (.int .u64 (l.getD 0 0)), (.int .i64 4), (.int .i64 3), (.int .u64 0), (.int .u64 (l.getD 2 0))] 82 true), (2, 0, .cells [(.int .i64 m0), (.int .i64 m1)] 55 true), (1, 0, .cells [(.int .u64 bb), (.int .i64 lg)] 54 true), (0, 0, .tail pre .u64 l e)]⟩⟩
theorem R115 (pre : Nat) (n : Nat) (c : Nat) (l : List Int) (bb : Int) (lg : Int) (m0 : Int) (m1 : Int) (e : TypeId) : evCK Try.prog cfgE (runK Try.prog cfgE fsE (conT grpDom grpE) 12 40) 12 (codeAt [1, 1, 1, 1, 0, 1, 0, 0, 1, 0, 0, 1, 1, 0] B) (S139 pre n c l bb lg m0 m1 e) (normC 1 [2, 3, 4, 7, 12, 13, 14, 15, 16]) =
  some (.normal, (S140 pre n c l bb lg m0 m1 e)) := by kernel_rfl
noncomputable def S141 (pre : Nat) (n : Nat) (c : Nat) (l : List Int) (bb : Int) (lg : Int) (m0 : Int) (m1 : Int) (e : TypeId) : KSt := ⟨(frameL 135 [(2, (.slice (some ⟨0, pre, none⟩) n c)), (3, (.pointer (some ⟨1, 0, none⟩))), (4, (.pointer (some ⟨2, 0, none⟩))), (7, (.pointer (some ⟨3, 0, none⟩))), (12, (.int .i64 3)), (13, (.pointer (some ⟨4, 0, none⟩))), (14, (.pointer (some ⟨5, 0, none⟩))), (15, (.pointer (some ⟨6, 0, none⟩))), (16, (.bool false)), (17, (.pointer (some ⟨7, 0, none⟩))), (18, (.bool true))]), ⟨8, 1, [(7, 0, .cells [(.int .i64 6), (.int .u64 (l.getD 0 0)), (.int .i64 0), (.int .u64 0), (.int .u64 0)] 29 true), (6, 0, .cells [(.int .i64 0), (.int .u64 0), (.int .u64 0)] 60 true), (5, 0, .cells [(.int .i64 3), (.int .u64 0), (.int .u64 (l.getD 2 0))] 63 true), (4, 0, .cells [(.slice (some ⟨0, (pre + 0), none⟩) 3 (c - 0)), (.int .i64 3), (.bool true), (.int .i64 6), (.int .u64 (l.getD 0 0)), (.int .i64 0), (.int .u64 0), (.int .u64 0)] 31 true), (3, 0, .cells [(.int .u64 bb), (.int .i64 lg), (.int .i64 m0), (.int .i64 m1), (.int .u64 (l.getD 0 0)), (.int .i64 4), (.int .i64 3), (.int .u64 0), (.int .u64 (l.getD 2 0))] 82 true), (2, 0, .cells [(.int .i64 m0), (.int .i64 m1)] 55 true), (1, 0, .cells [(.int .u64 bb), (.int .i64 lg)] 54 true), (0, 0, .tail pre .u64 l e)]⟩⟩
theorem R116 (pre : Nat) (n : Nat) (c : Nat) (l : List Int) (bb : Int) (lg : Int) (m0 : Int) (m1 : Int) (e : TypeId) : evCK Try.prog cfgE (runK Try.prog cfgE fsE (conT grpDom grpE) 12 40) 12 (codeAt [1, 1, 1, 1, 0, 1, 0, 0, 1, 0, 0, 1, 1, 1, 0] B) (S140 pre n c l bb lg m0 m1 e) (normC 1 [2, 3, 4, 7, 12, 13, 14, 15, 16, 17, 18]) =
  some (.normal, (S141 pre n c l bb lg m0 m1 e)) := by kernel_rfl
noncomputable def S142 (pre : Nat) (n : Nat) (c : Nat) (bb : Int) (lg : Int) (m0 : Int) (m1 : Int) (l : List Int) (e : TypeId) : KSt := ⟨(frameL 135 [(2, (.slice (some ⟨0, pre, none⟩) n c)), (3, (.pointer (some ⟨1, 0, none⟩))), (4, (.pointer (some ⟨2, 0, none⟩))), (7, (.pointer (some ⟨3, 0, none⟩))), (12, (.int .i64 3)), (123, (.bool true))]), ⟨4, 1, [(3, 0, .cells [(.int .u64 bb), (.int .i64 lg), (.int .i64 m0), (.int .i64 m1), (.int .u64 (l.getD 0 0)), (.int .i64 4), (.int .i64 3), (.int .u64 0), (.int .u64 (l.getD 2 0))] 82 true), (2, 0, .cells [(.int .i64 m0), (.int .i64 m1)] 55 true), (1, 0, .cells [(.int .u64 bb), (.int .i64 lg)] 54 true), (0, 0, .tail pre .u64 l e)]⟩⟩
noncomputable def S143 (pre : Nat) (n : Nat) (c : Nat) (bb : Int) (lg : Int) (m0 : Int) (m1 : Int) (l : List Int) (e : TypeId) : KSt := ⟨(frameL 135 [(2, (.slice (some ⟨0, pre, none⟩) n c)), (3, (.pointer (some ⟨1, 0, none⟩))), (4, (.pointer (some ⟨2, 0, none⟩))), (7, (.pointer (some ⟨3, 0, none⟩))), (12, (.int .i64 3)), (123, (.bool false))]), ⟨4, 1, [(3, 0, .cells [(.int .u64 bb), (.int .i64 lg), (.int .i64 m0), (.int .i64 m1), (.int .u64 (l.getD 0 0)), (.int .i64 4), (.int .i64 3), (.int .u64 0), (.int .u64 (l.getD 2 0))] 82 true), (2, 0, .cells [(.int .i64 m0), (.int .i64 m1)] 55 true), (1, 0, .cells [(.int .u64 bb), (.int .i64 lg)] 54 true), (0, 0, .tail pre .u64 l e)]⟩⟩
theorem R117 (pre : Nat) (n : Nat) (c : Nat) (l : List Int) (bb : Int) (lg : Int) (m0 : Int) (m1 : Int) (e : TypeId) : evCK Try.prog cfgE (runK Try.prog cfgE fsE (conT grpDom grpE) 12 40) 12 (codeAt [1, 1, 1, 1, 0, 1, 0, 0, 1, 0, 0, 1, 1, 1, 1, 0, 0] B) (S141 pre n c l bb lg m0 m1 e) (normC 1 [2, 3, 4, 7, 12, 123]) =
  bif (!(true && (((l.getD 0 0) == (l.getD 0 0)) && true))) then
    some (.normal, (S142 pre n c bb lg m0 m1 l e))
  else
    some (.normal, (S143 pre n c bb lg m0 m1 l e)) := by kernel_rfl
theorem R118 (pre : Nat) (n : Nat) (c : Nat) (bb : Int) (lg : Int) (m0 : Int) (m1 : Int) (l : List Int) (e : TypeId) : evCK Try.prog cfgE (runK Try.prog cfgE fsE (conT grpDom grpE) 12 40) 12 (codeAt [1, 1, 1, 1, 0, 1, 0, 0, 1, 0, 0, 1, 1, 1, 1, 0, 1, 1] B) (S143 pre n c bb lg m0 m1 l e) (normC 1 [2, 3, 4, 7, 12]) =
  some (.normal, (S96 pre n c bb lg m0 m1 l e)) := by kernel_rfl
noncomputable def S144 (pre : Nat) (n : Nat) (c : Nat) (bb : Int) (lg : Int) (m0 : Int) (m1 : Int) (l : List Int) (e : TypeId) : KSt := ⟨(frameL 135 [(2, (.slice (some ⟨0, pre, none⟩) n c)), (3, (.pointer (some ⟨1, 0, none⟩))), (4, (.pointer (some ⟨2, 0, none⟩))), (7, (.pointer (some ⟨3, 0, none⟩))), (12, (.int .i64 3)), (127, (.bool (decide (3 < ((n : Nat) : Int)))))]), ⟨4, 1, [(3, 0, .cells [(.int .u64 bb), (.int .i64 lg), (.int .i64 m0), (.int .i64 m1), (.int .u64 (l.getD 0 0)), (.int .i64 4), (.int .i64 3), (.int .u64 0), (.int .u64 (l.getD 2 0))] 82 true), (2, 0, .cells [(.int .i64 m0), (.int .i64 m1)] 55 true), (1, 0, .cells [(.int .u64 bb), (.int .i64 lg)] 54 true), (0, 0, .tail pre .u64 l e)]⟩⟩
theorem R119 (pre : Nat) (n : Nat) (c : Nat) (bb : Int) (lg : Int) (m0 : Int) (m1 : Int) (l : List Int) (e : TypeId) : evCK Try.prog cfgE (runK Try.prog cfgE fsE (conT grpDom grpE) 12 40) 12 (codeAt [1, 1, 1, 1, 0, 1, 0, 0, 1, 0, 0, 1, 1, 1, 1, 1, 0] B) (S96 pre n c bb lg m0 m1 l e) (normC 1 [2, 3, 4, 7, 12, 127]) =
  some (.normal, (S144 pre n c bb lg m0 m1 l e)) := by kernel_rfl
noncomputable def S145 (pre : Nat) (n : Nat) (c : Nat) (bb : Int) (lg : Int) (m0 : Int) (m1 : Int) (l : List Int) (e : TypeId) : KSt := ⟨(frameL 135 [(2, (.slice (some ⟨0, pre, none⟩) n c)), (3, (.pointer (some ⟨1, 0, none⟩))), (4, (.pointer (some ⟨2, 0, none⟩))), (7, (.pointer (some ⟨3, 0, none⟩))), (12, (.int .i64 3))]), ⟨4, 1, [(3, 0, .cells [(.int .u64 bb), (.int .i64 lg), (.int .i64 m0), (.int .i64 m1), (.int .u64 (l.getD 0 0)), (.int .i64 0), (.int .i64 3), (.int .u64 0), (.int .u64 (l.getD 2 0))] 82 true), (2, 0, .cells [(.int .i64 m0), (.int .i64 m1)] 55 true), (1, 0, .cells [(.int .u64 bb), (.int .i64 lg)] 54 true), (0, 0, .tail pre .u64 l e)]⟩⟩
theorem R120 (pre : Nat) (n : Nat) (c : Nat) (bb : Int) (lg : Int) (m0 : Int) (m1 : Int) (l : List Int) (e : TypeId) : evCK Try.prog cfgE (runK Try.prog cfgE fsE (conT grpDom grpE) 12 40) 12 (codeAt [1, 1, 1, 1, 0, 1, 0, 0, 1, 0, 0, 1, 1, 1, 1, 1, 1, 0] B) (S144 pre n c bb lg m0 m1 l e) (normC 1 [2, 3, 4, 7, 12]) =
  if (0 : Int) ≤ 3 ∧ 3 < ((n : Nat) : Int) then
    bif (Nat.ble pre (pre + 3)) then
      obind (l[((pre + 3) - pre)]?) fun n1 =>
        some (.normal, (S145 pre n c bb lg m0 m1 l e))
    else
      none
  else
    none := by kernel_rfl
noncomputable def S146 (pre : Nat) (n : Nat) (c : Nat) (bb : Int) (lg : Int) (m0 : Int) (m1 : Int) (l : List Int) (e : TypeId) : KSt := ⟨(frameL 135 [(2, (.slice (some ⟨0, pre, none⟩) n c)), (3, (.pointer (some ⟨1, 0, none⟩))), (4, (.pointer (some ⟨2, 0, none⟩))), (7, (.pointer (some ⟨3, 0, none⟩))), (12, (.int .i64 4))]), ⟨4, 1, [(3, 0, .cells [(.int .u64 bb), (.int .i64 lg), (.int .i64 m0), (.int .i64 m1), (.int .u64 (l.getD 0 0)), (.int .i64 0), (.int .i64 3), (.int .u64 0), (.int .u64 (l.getD 2 0))] 82 true), (2, 0, .cells [(.int .i64 m0), (.int .i64 m1)] 55 true), (1, 0, .cells [(.int .u64 bb), (.int .i64 lg)] 54 true), (0, 0, .tail pre .u64 l e)]⟩⟩
theorem R121 (pre : Nat) (n : Nat) (c : Nat) (bb : Int) (lg : Int) (m0 : Int) (m1 : Int) (l : List Int) (e : TypeId) : evCK Try.prog cfgE (runK Try.prog cfgE fsE (conT grpDom grpE) 12 40) 12 (codeAt [1, 1, 1, 1, 0, 1, 0, 0, 1, 1] B) (S145 pre n c bb lg m0 m1 l e) (normC 1 [2, 3, 4, 7, 12]) =
  some (.normal, (S146 pre n c bb lg m0 m1 l e)) := by kernel_rfl
theorem lp10m_29 (bb lg m0 m1 g gl : Int) (i : Int) (pre n c : Nat) (l : List Int) (e : TypeId) (hb : 0 ≤ bb) (hm : -9223372036854775808 ≤ m1 ∧ m1 < 9223372036854775808) (hg : groupsV m0 = g) (hg1 : 0 ≤ g) (hg2 : g ≤ 512) (hgl : groupsV lg = gl) (hgl1 : 0 ≤ gl) (hn20 : n ≤ 20) (hc : n ≤ c) (hc2 : c ≤ 9223372036854775807) (hl : l.length = c) (hc0 : 0 < c) (h1 : bb ≠ 0) (h2 : 0 < gl) (h3 : 0 < g) (hn : 3 < (n : Int))  (q1 : ((l.getD 0 0) == 0) = false) (q2 : ((l.getD 2 0) == 0) = false) {Q : Ex → St → Prop} (hq : Q .normal (KSt.low (S146 pre n c bb lg m0 m1 l e))) : Gets Try.prog (KH.low ⟨1, 1, [(0, 0, .tail pre .u64 l e)]⟩) (codeAt [1, 1, 1, 1, 0, 1, 0, 0] B) (KSt.low (S96 pre n c bb lg m0 m1 l e)) Q := by
  rw [C1_1_1_1_0_1_0_0]; refine Gets.seq ?_
  rw [C1_1_1_1_0_1_0_0_0]; refine Gets.seq ?_
  refine Gets.ofN fitE grp_sound (conT_agree _ _) 12 40 (by kernel_rfl) (x := .normal) (s' := (S131 pre n c bb lg m0 m1 l e)) (R111 pre n c bb lg m0 m1 l e) ?_
  show Gets _ _ (codeAt [1, 1, 1, 1, 0, 1, 0, 0, 0, 1] B) _ _
  rw [C1_1_1_1_0_1_0_0_0_1]; refine Gets.cond true (by kernel_rfl) ((show evalX (KSt.ts (S131 pre n c bb lg m0 m1 l e)) (.tmp 60) = .bool (decide (3 ≤ ((n : Nat) : Int))) by kernel_rfl).trans (by rw [(show (decide (3 ≤ ((n : Nat) : Int))) = true from decide_eq_true (by omega))])) ?_; show Gets _ _ (codeAt [1, 1, 1, 1, 0, 1, 0, 0, 0, 1, 0] B) _ _
  refine Gets.ofN fitE grp_sound (conT_agree _ _) 12 40 (by kernel_rfl) (x := .normal) (s' := (S96 pre n c bb lg m0 m1 l e)) (R112 pre n c bb lg m0 m1 l e) ?_
  show Gets _ _ (codeAt [1, 1, 1, 1, 0, 1, 0, 0, 1] B) _ _
  rw [C1_1_1_1_0_1_0_0_1]; refine Gets.seq ?_
  rw [C1_1_1_1_0_1_0_0_1_0]; refine Gets.block ?_
  rw [C1_1_1_1_0_1_0_0_1_0_0]; refine Gets.seq ?_
  refine Gets.ofN fitE grp_sound (conT_agree _ _) 12 40 (by kernel_rfl) (x := .normal) (s' := (S133 pre n c bb lg m0 m1 l e)) ((R113 pre n c bb lg m0 m1 l e).trans (by rw [if_pos (⟨by omega, by omega⟩), condT (and_t (rfl) (ble_t (by omega))), condF (nbeq_f (by omega))])) ?_
  show Gets _ _ (codeAt [1, 1, 1, 1, 0, 1, 0, 0, 1, 0, 0, 1] B) _ _
  rw [C1_1_1_1_0_1_0_0_1_0_0_1]; refine Gets.seq ?_
  refine Gets.ofN fitE grp_sound (conT_agree _ _) 12 40 (by kernel_rfl) (x := .normal) (s' := (S139 pre n c l bb lg m0 m1 e)) ((R114 pre n c bb lg m0 m1 l e).trans (by rw [condF (ibeq_f (by ((try simp (disch := omega) only [hg, hgl, wrap_i64_id]) <;> omega))), condT (ble_t (by omega)), obind_at (k := 0) (by omega) (by omega), condF (q1), condT (ble_t (by omega)), obind_at (k := 1) (by omega) (by omega), condT (ble_t (by omega)), obind_at (k := 2) (by omega) (by omega), condF (q2)] <;> rfl)) ?_
  show Gets _ _ (codeAt [1, 1, 1, 1, 0, 1, 0, 0, 1, 0, 0, 1, 1] B) _ _
  rw [C1_1_1_1_0_1_0_0_1_0_0_1_1]; refine Gets.seq ?_
  refine Gets.ofN fitE grp_sound (conT_agree _ _) 12 40 (by kernel_rfl) (x := .normal) (s' := (S140 pre n c l bb lg m0 m1 e)) (R115 pre n c l bb lg m0 m1 e) ?_
  show Gets _ _ (codeAt [1, 1, 1, 1, 0, 1, 0, 0, 1, 0, 0, 1, 1, 1] B) _ _
  rw [C1_1_1_1_0_1_0_0_1_0_0_1_1_1]; refine Gets.seq ?_
  refine Gets.ofN fitE grp_sound (conT_agree _ _) 12 40 (by kernel_rfl) (x := .normal) (s' := (S141 pre n c l bb lg m0 m1 e)) (R116 pre n c l bb lg m0 m1 e) ?_
  show Gets _ _ (codeAt [1, 1, 1, 1, 0, 1, 0, 0, 1, 0, 0, 1, 1, 1, 1] B) _ _
  rw [C1_1_1_1_0_1_0_0_1_0_0_1_1_1_1]; refine Gets.seq ?_
  rw [C1_1_1_1_0_1_0_0_1_0_0_1_1_1_1_0]; refine Gets.seq ?_
  refine Gets.ofN fitE grp_sound (conT_agree _ _) 12 40 (by kernel_rfl) (x := .normal) (s' := (S143 pre n c bb lg m0 m1 l e)) ((R117 pre n c l bb lg m0 m1 e).trans (by rw [condF (not_f (and_t (rfl) (and_t (beq_self_eq_true _) (rfl))))])) ?_
  show Gets _ _ (codeAt [1, 1, 1, 1, 0, 1, 0, 0, 1, 0, 0, 1, 1, 1, 1, 0, 1] B) _ _
  rw [C1_1_1_1_0_1_0_0_1_0_0_1_1_1_1_0_1]; refine Gets.cond false (by kernel_rfl) (show evalX (KSt.ts (S143 pre n c bb lg m0 m1 l e)) (.tmp 123) = .bool false by kernel_rfl) ?_; show Gets _ _ (codeAt [1, 1, 1, 1, 0, 1, 0, 0, 1, 0, 0, 1, 1, 1, 1, 0, 1, 1] B) _ _
  refine Gets.ofN fitE grp_sound (conT_agree _ _) 12 40 (by kernel_rfl) (x := .normal) (s' := (S96 pre n c bb lg m0 m1 l e)) (R118 pre n c bb lg m0 m1 l e) ?_
  show Gets _ _ (codeAt [1, 1, 1, 1, 0, 1, 0, 0, 1, 0, 0, 1, 1, 1, 1, 1] B) _ _
  rw [C1_1_1_1_0_1_0_0_1_0_0_1_1_1_1_1]; refine Gets.seq ?_
  refine Gets.ofN fitE grp_sound (conT_agree _ _) 12 40 (by kernel_rfl) (x := .normal) (s' := (S144 pre n c bb lg m0 m1 l e)) (R119 pre n c bb lg m0 m1 l e) ?_
  show Gets _ _ (codeAt [1, 1, 1, 1, 0, 1, 0, 0, 1, 0, 0, 1, 1, 1, 1, 1, 1] B) _ _
  rw [C1_1_1_1_0_1_0_0_1_0_0_1_1_1_1_1_1]; refine Gets.cond true (by kernel_rfl) ((show evalX (KSt.ts (S144 pre n c bb lg m0 m1 l e)) (.tmp 127) = .bool (decide (3 < ((n : Nat) : Int))) by kernel_rfl).trans (by rw [(show (decide (3 < ((n : Nat) : Int))) = true from decide_eq_true (by omega))])) ?_; show Gets _ _ (codeAt [1, 1, 1, 1, 0, 1, 0, 0, 1, 0, 0, 1, 1, 1, 1, 1, 1, 0] B) _ _
  refine Gets.ofN fitE grp_sound (conT_agree _ _) 12 40 (by kernel_rfl) (x := .normal) (s' := (S145 pre n c bb lg m0 m1 l e)) ((R120 pre n c bb lg m0 m1 l e).trans (by rw [if_pos (⟨by omega, by omega⟩), condT (ble_t (by omega)), obind_at (k := 3) (by omega) (by omega)] <;> rfl)) ?_
  show Gets _ _ (codeAt [1, 1, 1, 1, 0, 1, 0, 0, 1, 1] B) _ _
  refine Gets.ofN fitE grp_sound (conT_agree _ _) 12 40 (by kernel_rfl) (x := .normal) (s' := (S146 pre n c bb lg m0 m1 l e)) (R121 pre n c bb lg m0 m1 l e) ?_
  exact hq
theorem R122 (pre : Nat) (n : Nat) (c : Nat) (bb : Int) (lg : Int) (m0 : Int) (m1 : Int) (l : List Int) (e : TypeId) : evCK Try.prog cfgE (runK Try.prog cfgE fsE (conT grpDom grpE) 12 40) 12 (codeAt [1, 1, 1, 1, 0, 1, 0, 0, 1, 0, 0, 1, 1, 1, 1, 1, 1, 1] B) (S144 pre n c bb lg m0 m1 l e) (normC 1 [2, 3, 4, 7, 12]) =
  some (.normal, (S96 pre n c bb lg m0 m1 l e)) := by kernel_rfl
noncomputable def S147 (pre : Nat) (n : Nat) (c : Nat) (bb : Int) (lg : Int) (m0 : Int) (m1 : Int) (l : List Int) (e : TypeId) : KSt := ⟨(frameL 135 [(2, (.slice (some ⟨0, pre, none⟩) n c)), (3, (.pointer (some ⟨1, 0, none⟩))), (4, (.pointer (some ⟨2, 0, none⟩))), (7, (.pointer (some ⟨3, 0, none⟩))), (12, (.int .i64 4))]), ⟨4, 1, [(3, 0, .cells [(.int .u64 bb), (.int .i64 lg), (.int .i64 m0), (.int .i64 m1), (.int .u64 (l.getD 0 0)), (.int .i64 4), (.int .i64 3), (.int .u64 0), (.int .u64 (l.getD 2 0))] 82 true), (2, 0, .cells [(.int .i64 m0), (.int .i64 m1)] 55 true), (1, 0, .cells [(.int .u64 bb), (.int .i64 lg)] 54 true), (0, 0, .tail pre .u64 l e)]⟩⟩
theorem R123 (pre : Nat) (n : Nat) (c : Nat) (bb : Int) (lg : Int) (m0 : Int) (m1 : Int) (l : List Int) (e : TypeId) : evCK Try.prog cfgE (runK Try.prog cfgE fsE (conT grpDom grpE) 12 40) 12 (codeAt [1, 1, 1, 1, 0, 1, 0, 0, 1, 1] B) (S96 pre n c bb lg m0 m1 l e) (normC 1 [2, 3, 4, 7, 12]) =
  some (.normal, (S147 pre n c bb lg m0 m1 l e)) := by kernel_rfl
theorem lp10e_30 (bb lg m0 m1 g gl : Int) (i : Int) (pre n c : Nat) (l : List Int) (e : TypeId) (hb : 0 ≤ bb) (hm : -9223372036854775808 ≤ m1 ∧ m1 < 9223372036854775808) (hg : groupsV m0 = g) (hg1 : 0 ≤ g) (hg2 : g ≤ 512) (hgl : groupsV lg = gl) (hgl1 : 0 ≤ gl) (hn20 : n ≤ 20) (hc : n ≤ c) (hc2 : c ≤ 9223372036854775807) (hl : l.length = c) (hc0 : 0 < c) (h1 : bb ≠ 0) (h2 : 0 < gl) (h3 : 0 < g) (hn : 3 = (n : Int))  (q1 : ((l.getD 0 0) == 0) = false) (q2 : ((l.getD 2 0) == 0) = false) {Q : Ex → St → Prop} (hq : Q .normal (KSt.low (S147 pre n c bb lg m0 m1 l e))) : Gets Try.prog (KH.low ⟨1, 1, [(0, 0, .tail pre .u64 l e)]⟩) (codeAt [1, 1, 1, 1, 0, 1, 0, 0] B) (KSt.low (S96 pre n c bb lg m0 m1 l e)) Q := by
  rw [C1_1_1_1_0_1_0_0]; refine Gets.seq ?_
  rw [C1_1_1_1_0_1_0_0_0]; refine Gets.seq ?_
  refine Gets.ofN fitE grp_sound (conT_agree _ _) 12 40 (by kernel_rfl) (x := .normal) (s' := (S131 pre n c bb lg m0 m1 l e)) (R111 pre n c bb lg m0 m1 l e) ?_
  show Gets _ _ (codeAt [1, 1, 1, 1, 0, 1, 0, 0, 0, 1] B) _ _
  rw [C1_1_1_1_0_1_0_0_0_1]; refine Gets.cond true (by kernel_rfl) ((show evalX (KSt.ts (S131 pre n c bb lg m0 m1 l e)) (.tmp 60) = .bool (decide (3 ≤ ((n : Nat) : Int))) by kernel_rfl).trans (by rw [(show (decide (3 ≤ ((n : Nat) : Int))) = true from decide_eq_true (by omega))])) ?_; show Gets _ _ (codeAt [1, 1, 1, 1, 0, 1, 0, 0, 0, 1, 0] B) _ _
  refine Gets.ofN fitE grp_sound (conT_agree _ _) 12 40 (by kernel_rfl) (x := .normal) (s' := (S96 pre n c bb lg m0 m1 l e)) (R112 pre n c bb lg m0 m1 l e) ?_
  show Gets _ _ (codeAt [1, 1, 1, 1, 0, 1, 0, 0, 1] B) _ _
  rw [C1_1_1_1_0_1_0_0_1]; refine Gets.seq ?_
  rw [C1_1_1_1_0_1_0_0_1_0]; refine Gets.block ?_
  rw [C1_1_1_1_0_1_0_0_1_0_0]; refine Gets.seq ?_
  refine Gets.ofN fitE grp_sound (conT_agree _ _) 12 40 (by kernel_rfl) (x := .normal) (s' := (S133 pre n c bb lg m0 m1 l e)) ((R113 pre n c bb lg m0 m1 l e).trans (by rw [if_pos (⟨by omega, by omega⟩), condT (and_t (rfl) (ble_t (by omega))), condF (nbeq_f (by omega))])) ?_
  show Gets _ _ (codeAt [1, 1, 1, 1, 0, 1, 0, 0, 1, 0, 0, 1] B) _ _
  rw [C1_1_1_1_0_1_0_0_1_0_0_1]; refine Gets.seq ?_
  refine Gets.ofN fitE grp_sound (conT_agree _ _) 12 40 (by kernel_rfl) (x := .normal) (s' := (S139 pre n c l bb lg m0 m1 e)) ((R114 pre n c bb lg m0 m1 l e).trans (by rw [condF (ibeq_f (by ((try simp (disch := omega) only [hg, hgl, wrap_i64_id]) <;> omega))), condT (ble_t (by omega)), obind_at (k := 0) (by omega) (by omega), condF (q1), condT (ble_t (by omega)), obind_at (k := 1) (by omega) (by omega), condT (ble_t (by omega)), obind_at (k := 2) (by omega) (by omega), condF (q2)] <;> rfl)) ?_
  show Gets _ _ (codeAt [1, 1, 1, 1, 0, 1, 0, 0, 1, 0, 0, 1, 1] B) _ _
  rw [C1_1_1_1_0_1_0_0_1_0_0_1_1]; refine Gets.seq ?_
  refine Gets.ofN fitE grp_sound (conT_agree _ _) 12 40 (by kernel_rfl) (x := .normal) (s' := (S140 pre n c l bb lg m0 m1 e)) (R115 pre n c l bb lg m0 m1 e) ?_
  show Gets _ _ (codeAt [1, 1, 1, 1, 0, 1, 0, 0, 1, 0, 0, 1, 1, 1] B) _ _
  rw [C1_1_1_1_0_1_0_0_1_0_0_1_1_1]; refine Gets.seq ?_
  refine Gets.ofN fitE grp_sound (conT_agree _ _) 12 40 (by kernel_rfl) (x := .normal) (s' := (S141 pre n c l bb lg m0 m1 e)) (R116 pre n c l bb lg m0 m1 e) ?_
  show Gets _ _ (codeAt [1, 1, 1, 1, 0, 1, 0, 0, 1, 0, 0, 1, 1, 1, 1] B) _ _
  rw [C1_1_1_1_0_1_0_0_1_0_0_1_1_1_1]; refine Gets.seq ?_
  rw [C1_1_1_1_0_1_0_0_1_0_0_1_1_1_1_0]; refine Gets.seq ?_
  refine Gets.ofN fitE grp_sound (conT_agree _ _) 12 40 (by kernel_rfl) (x := .normal) (s' := (S143 pre n c bb lg m0 m1 l e)) ((R117 pre n c l bb lg m0 m1 e).trans (by rw [condF (not_f (and_t (rfl) (and_t (beq_self_eq_true _) (rfl))))])) ?_
  show Gets _ _ (codeAt [1, 1, 1, 1, 0, 1, 0, 0, 1, 0, 0, 1, 1, 1, 1, 0, 1] B) _ _
  rw [C1_1_1_1_0_1_0_0_1_0_0_1_1_1_1_0_1]; refine Gets.cond false (by kernel_rfl) (show evalX (KSt.ts (S143 pre n c bb lg m0 m1 l e)) (.tmp 123) = .bool false by kernel_rfl) ?_; show Gets _ _ (codeAt [1, 1, 1, 1, 0, 1, 0, 0, 1, 0, 0, 1, 1, 1, 1, 0, 1, 1] B) _ _
  refine Gets.ofN fitE grp_sound (conT_agree _ _) 12 40 (by kernel_rfl) (x := .normal) (s' := (S96 pre n c bb lg m0 m1 l e)) (R118 pre n c bb lg m0 m1 l e) ?_
  show Gets _ _ (codeAt [1, 1, 1, 1, 0, 1, 0, 0, 1, 0, 0, 1, 1, 1, 1, 1] B) _ _
  rw [C1_1_1_1_0_1_0_0_1_0_0_1_1_1_1_1]; refine Gets.seq ?_
  refine Gets.ofN fitE grp_sound (conT_agree _ _) 12 40 (by kernel_rfl) (x := .normal) (s' := (S144 pre n c bb lg m0 m1 l e)) (R119 pre n c bb lg m0 m1 l e) ?_
  show Gets _ _ (codeAt [1, 1, 1, 1, 0, 1, 0, 0, 1, 0, 0, 1, 1, 1, 1, 1, 1] B) _ _
  rw [C1_1_1_1_0_1_0_0_1_0_0_1_1_1_1_1_1]; refine Gets.cond false (by kernel_rfl) ((show evalX (KSt.ts (S144 pre n c bb lg m0 m1 l e)) (.tmp 127) = .bool (decide (3 < ((n : Nat) : Int))) by kernel_rfl).trans (by rw [(show (decide (3 < ((n : Nat) : Int))) = false from decide_eq_false (by omega))])) ?_; show Gets _ _ (codeAt [1, 1, 1, 1, 0, 1, 0, 0, 1, 0, 0, 1, 1, 1, 1, 1, 1, 1] B) _ _
  refine Gets.ofN fitE grp_sound (conT_agree _ _) 12 40 (by kernel_rfl) (x := .normal) (s' := (S96 pre n c bb lg m0 m1 l e)) (R122 pre n c bb lg m0 m1 l e) ?_
  show Gets _ _ (codeAt [1, 1, 1, 1, 0, 1, 0, 0, 1, 1] B) _ _
  refine Gets.ofN fitE grp_sound (conT_agree _ _) 12 40 (by kernel_rfl) (x := .normal) (s' := (S147 pre n c bb lg m0 m1 l e)) (R123 pre n c bb lg m0 m1 l e) ?_
  exact hq
noncomputable def S148 (pre : Nat) (n : Nat) (c : Nat) (i : Int) (bb : Int) (lg : Int) (m0 : Int) (m1 : Int) (l : List Int) (e : TypeId) : KSt := ⟨(frameL 135 [(2, (.slice (some ⟨0, pre, none⟩) n c)), (3, (.pointer (some ⟨1, 0, none⟩))), (4, (.pointer (some ⟨2, 0, none⟩))), (7, (.pointer (some ⟨3, 0, none⟩))), (12, (.int .i64 i))]), ⟨4, 1, [(3, 0, .cells [(.int .u64 bb), (.int .i64 lg), (.int .i64 m0), (.int .i64 m1), (.int .u64 (l.getD 0 0)), (.int .i64 4), (.int .i64 3), (.int .u64 0), (.int .u64 (l.getD 2 0))] 82 true), (2, 0, .cells [(.int .i64 m0), (.int .i64 m1)] 55 true), (1, 0, .cells [(.int .u64 bb), (.int .i64 lg)] 54 true), (0, 0, .tail pre .u64 l e)]⟩⟩
noncomputable def S149 (pre : Nat) (n : Nat) (c : Nat) (i : Int) (bb : Int) (lg : Int) (m0 : Int) (m1 : Int) (l : List Int) (e : TypeId) : KSt := ⟨(frameL 135 [(2, (.slice (some ⟨0, pre, none⟩) n c)), (3, (.pointer (some ⟨1, 0, none⟩))), (4, (.pointer (some ⟨2, 0, none⟩))), (7, (.pointer (some ⟨3, 0, none⟩))), (12, (.int .i64 i)), (60, (.bool (decide (i ≤ ((n : Nat) : Int)))))]), ⟨4, 1, [(3, 0, .cells [(.int .u64 bb), (.int .i64 lg), (.int .i64 m0), (.int .i64 m1), (.int .u64 (l.getD 0 0)), (.int .i64 3), (.int .i64 0), (.int .u64 0), (.int .u64 0)] 82 true), (2, 0, .cells [(.int .i64 m0), (.int .i64 m1)] 55 true), (1, 0, .cells [(.int .u64 bb), (.int .i64 lg)] 54 true), (0, 0, .tail pre .u64 l e)]⟩⟩
theorem R124 (pre : Nat) (n : Nat) (c : Nat) (i : Int) (bb : Int) (lg : Int) (m0 : Int) (m1 : Int) (l : List Int) (e : TypeId) : evCK Try.prog cfgE (runK Try.prog cfgE fsE (conT grpDom grpE) 12 40) 12 (codeAt [1, 1, 1, 1, 0, 1, 0, 0, 0, 0] B) (S98 pre n c i bb lg m0 m1 l e) (normC 1 [2, 3, 4, 7, 12, 60]) =
  some (.normal, (S149 pre n c i bb lg m0 m1 l e)) := by kernel_rfl
theorem lp11x_31 (bb lg m0 m1 g gl : Int) (i : Int) (pre n c : Nat) (l : List Int) (e : TypeId) (hx : (n : Int) < i)   {Q : Ex → St → Prop} (hq : Q (.exit 0) (KSt.low (S149 pre n c i bb lg m0 m1 l e))) : Gets Try.prog (KH.low ⟨1, 1, [(0, 0, .tail pre .u64 l e)]⟩) (codeAt [1, 1, 1, 1, 0, 1, 0, 0] B) (KSt.low (S98 pre n c i bb lg m0 m1 l e)) Q := by
  rw [C1_1_1_1_0_1_0_0]; refine Gets.seq ?_
  rw [C1_1_1_1_0_1_0_0_0]; refine Gets.seq ?_
  refine Gets.ofN fitE grp_sound (conT_agree _ _) 12 40 (by kernel_rfl) (x := .normal) (s' := (S149 pre n c i bb lg m0 m1 l e)) (R124 pre n c i bb lg m0 m1 l e) ?_
  show Gets _ _ (codeAt [1, 1, 1, 1, 0, 1, 0, 0, 0, 1] B) _ _
  rw [C1_1_1_1_0_1_0_0_0_1]; refine Gets.cond false (by kernel_rfl) ((show evalX (KSt.ts (S149 pre n c i bb lg m0 m1 l e)) (.tmp 60) = .bool (decide (i ≤ ((n : Nat) : Int))) by kernel_rfl).trans (by rw [(show (decide (i ≤ ((n : Nat) : Int))) = false from decide_eq_false (by omega))])) ?_; show Gets _ _ (codeAt [1, 1, 1, 1, 0, 1, 0, 0, 0, 1, 1] B) _ _
  rw [C1_1_1_1_0_1_0_0_0_1_1]; refine Gets.ev fitE.mix fitE.cfg (fitE.sound grp_sound 12 0) 12 rfl (s' := KSt.low (S149 pre n c i bb lg m0 m1 l e)) (x := (.exit 0)) rfl ?_
  exact hq
theorem R125 (pre : Nat) (n : Nat) (c : Nat) (i : Int) (bb : Int) (lg : Int) (m0 : Int) (m1 : Int) (l : List Int) (e : TypeId) : evCK Try.prog cfgE (runK Try.prog cfgE fsE (conT grpDom grpE) 12 40) 12 (codeAt [1, 1, 1, 1, 1, 0] B) (S149 pre n c i bb lg m0 m1 l e) (normC 1 [6]) =
  some (.normal, (S3 pre l e)) := by kernel_rfl
theorem lp11f_32 (bb lg m0 m1 g gl : Int) (i : Int) (pre n c : Nat) (l : List Int) (e : TypeId)   {Q : Ex → St → Prop} (hq : Q .ret (KSt.low (S3 pre l e))) : Gets Try.prog (KH.low ⟨1, 1, [(0, 0, .tail pre .u64 l e)]⟩) (codeAt [1, 1, 1, 1, 1] B) (KSt.low (S149 pre n c i bb lg m0 m1 l e)) Q := by
  rw [C1_1_1_1_1]; refine Gets.seq ?_
  refine Gets.ofN fitE grp_sound (conT_agree _ _) 12 40 (by kernel_rfl) (x := .normal) (s' := (S3 pre l e)) (R125 pre n c i bb lg m0 m1 l e) ?_
  show Gets _ _ (codeAt [1, 1, 1, 1, 1, 1] B) _ _
  rw [C1_1_1_1_1_1]; refine Gets.ev fitE.mix fitE.cfg (fitE.sound grp_sound 12 0) 12 rfl (s' := KSt.low (S3 pre l e)) (x := .ret) rfl ?_
  exact hq
noncomputable def S150 (pre : Nat) (n : Nat) (c : Nat) (bb : Int) (lg : Int) (m0 : Int) (m1 : Int) (l : List Int) (e : TypeId) : KSt := ⟨(frameL 135 [(2, (.slice (some ⟨0, pre, none⟩) n c)), (3, (.pointer (some ⟨1, 0, none⟩))), (4, (.pointer (some ⟨2, 0, none⟩))), (7, (.pointer (some ⟨3, 0, none⟩))), (12, (.int .i64 4)), (60, (.bool (decide (4 ≤ ((n : Nat) : Int)))))]), ⟨4, 1, [(3, 0, .cells [(.int .u64 bb), (.int .i64 lg), (.int .i64 m0), (.int .i64 m1), (.int .u64 (l.getD 0 0)), (.int .i64 0), (.int .i64 1), (.int .u64 0), (.int .u64 0)] 82 true), (2, 0, .cells [(.int .i64 m0), (.int .i64 m1)] 55 true), (1, 0, .cells [(.int .u64 bb), (.int .i64 lg)] 54 true), (0, 0, .tail pre .u64 l e)]⟩⟩
theorem R126 (pre : Nat) (n : Nat) (c : Nat) (bb : Int) (lg : Int) (m0 : Int) (m1 : Int) (l : List Int) (e : TypeId) : evCK Try.prog cfgE (runK Try.prog cfgE fsE (conT grpDom grpE) 12 40) 12 (codeAt [1, 1, 1, 1, 0, 1, 0, 0, 0, 0] B) (S112 pre n c bb lg m0 m1 l e) (normC 1 [2, 3, 4, 7, 12, 60]) =
  some (.normal, (S150 pre n c bb lg m0 m1 l e)) := by kernel_rfl
theorem R127 (pre : Nat) (n : Nat) (c : Nat) (bb : Int) (lg : Int) (m0 : Int) (m1 : Int) (l : List Int) (e : TypeId) : evCK Try.prog cfgE (runK Try.prog cfgE fsE (conT grpDom grpE) 12 40) 12 (codeAt [1, 1, 1, 1, 0, 1, 0, 0, 0, 1, 0] B) (S150 pre n c bb lg m0 m1 l e) (normC 1 [2, 3, 4, 7, 12]) =
  some (.normal, (S112 pre n c bb lg m0 m1 l e)) := by kernel_rfl
noncomputable def S151 (pre : Nat) (n : Nat) (c : Nat) (bb : Int) (lg : Int) (m0 : Int) (m1 : Int) (l : List Int) (e : TypeId) : KSt := ⟨(frameL 135 [(2, (.slice (some ⟨0, pre, none⟩) n c)), (3, (.pointer (some ⟨1, 0, none⟩))), (4, (.pointer (some ⟨2, 0, none⟩))), (7, (.pointer (some ⟨3, 0, none⟩))), (12, (.int .i64 4)), (13, (.pointer (some ⟨4, 0, none⟩)))]), ⟨5, 1, [(4, 0, .cells [(.slice (some ⟨0, pre, none⟩) 4 (c - 0)), (.int .i64 0), (.bool false), (.int .i64 0), (.int .u64 0), (.int .i64 0), (.int .u64 0), (.int .u64 0)] 31 true), (3, 0, .cells [(.int .u64 bb), (.int .i64 lg), (.int .i64 m0), (.int .i64 m1), (.int .u64 (l.getD 0 0)), (.int .i64 0), (.int .i64 1), (.int .u64 0), (.int .u64 0)] 82 true), (2, 0, .cells [(.int .i64 m0), (.int .i64 m1)] 55 true), (1, 0, .cells [(.int .u64 bb), (.int .i64 lg)] 54 true), (0, 0, .tail pre .u64 l e)]⟩⟩
noncomputable def S152 (pre : Nat) (n : Nat) (c : Nat) (bb : Int) (lg : Int) (m0 : Int) (m1 : Int) (l : List Int) (e : TypeId) : KSt := ⟨(frameL 135 [(2, (.slice (some ⟨0, pre, none⟩) n c)), (3, (.pointer (some ⟨1, 0, none⟩))), (4, (.pointer (some ⟨2, 0, none⟩))), (7, (.pointer (some ⟨3, 0, none⟩))), (12, (.int .i64 4)), (13, (.pointer (some ⟨4, 0, none⟩)))]), ⟨5, 1, [(4, 0, .cells [(.slice (some ⟨0, (pre + 0), none⟩) 4 (c - 0)), (.int .i64 0), (.bool false), (.int .i64 0), (.int .u64 0), (.int .i64 0), (.int .u64 0), (.int .u64 0)] 31 true), (3, 0, .cells [(.int .u64 bb), (.int .i64 lg), (.int .i64 m0), (.int .i64 m1), (.int .u64 (l.getD 0 0)), (.int .i64 0), (.int .i64 1), (.int .u64 0), (.int .u64 0)] 82 true), (2, 0, .cells [(.int .i64 m0), (.int .i64 m1)] 55 true), (1, 0, .cells [(.int .u64 bb), (.int .i64 lg)] 54 true), (0, 0, .tail pre .u64 l e)]⟩⟩
theorem R128 (pre : Nat) (n : Nat) (c : Nat) (bb : Int) (lg : Int) (m0 : Int) (m1 : Int) (l : List Int) (e : TypeId) : evCK Try.prog cfgE (runK Try.prog cfgE fsE (conT grpDom grpE) 12 40) 12 (codeAt [1, 1, 1, 1, 0, 1, 0, 0, 1, 0, 0, 0] B) (S112 pre n c bb lg m0 m1 l e) (normC 1 [2, 3, 4, 7, 12, 13]) =
  if (0 : Int) ≤ 4 ∧ 4 ≤ ((c : Nat) : Int) then
    bif (true && (Nat.ble 4 c)) then
      bif (Nat.beq c 0) then
        some (.normal, (S151 pre n c bb lg m0 m1 l e))
      else
        some (.normal, (S152 pre n c bb lg m0 m1 l e))
    else
      none
  else
    none := by kernel_rfl
noncomputable def S153 (pre : Nat) (n : Nat) (c : Nat) (bb : Int) (lg : Int) (m0 : Int) (m1 : Int) (l : List Int) (e : TypeId) : KSt := ⟨(frameL 135 [(2, (.slice (some ⟨0, pre, none⟩) n c)), (3, (.pointer (some ⟨1, 0, none⟩))), (4, (.pointer (some ⟨2, 0, none⟩))), (7, (.pointer (some ⟨3, 0, none⟩))), (12, (.int .i64 4)), (13, (.pointer (some ⟨4, 0, none⟩))), (14, (.pointer (some ⟨5, 0, none⟩)))]), ⟨6, 1, [(5, 0, .cells [(.int .i64 1), (.int .u64 0), (.int .u64 0)] 63 true), (4, 0, .cells [(.slice (some ⟨0, (pre + 0), none⟩) 4 (c - 0)), (.int .i64 1), (.bool false), (.int .i64 0), (.int .u64 0), (.int .i64 0), (.int .u64 0), (.int .u64 0)] 31 true), (3, 0, .cells [(.int .u64 bb), (.int .i64 lg), (.int .i64 m0), (.int .i64 m1), (.int .u64 (l.getD 0 0)), (.int .i64 0), (.int .i64 1), (.int .u64 0), (.int .u64 0)] 82 true), (2, 0, .cells [(.int .i64 m0), (.int .i64 m1)] 55 true), (1, 0, .cells [(.int .u64 bb), (.int .i64 lg)] 54 true), (0, 0, .tail pre .u64 l e)]⟩⟩
noncomputable def S154 (pre : Nat) (n : Nat) (c : Nat) (n1 : Int) (m1 : Int) (bb : Int) (lg : Int) (m0 : Int) (l : List Int) (e : TypeId) : KSt := ⟨(frameL 135 [(2, (.slice (some ⟨0, pre, none⟩) n c)), (3, (.pointer (some ⟨1, 0, none⟩))), (4, (.pointer (some ⟨2, 0, none⟩))), (7, (.pointer (some ⟨3, 0, none⟩))), (12, (.int .i64 4)), (13, (.pointer (some ⟨4, 0, none⟩))), (14, (.pointer (some ⟨5, 0, none⟩)))]), ⟨6, 1, [(5, 0, .cells [(.int .i64 2), (.int .u64 n1), (.int .u64 (makeRV n1 m1))] 63 true), (4, 0, .cells [(.slice (some ⟨0, (pre + 0), none⟩) 4 (c - 0)), (.int .i64 3), (.bool false), (.int .i64 0), (.int .u64 0), (.int .i64 0), (.int .u64 0), (.int .u64 0)] 31 true), (3, 0, .cells [(.int .u64 bb), (.int .i64 lg), (.int .i64 m0), (.int .i64 m1), (.int .u64 (l.getD 0 0)), (.int .i64 0), (.int .i64 1), (.int .u64 0), (.int .u64 0)] 82 true), (2, 0, .cells [(.int .i64 m0), (.int .i64 m1)] 55 true), (1, 0, .cells [(.int .u64 bb), (.int .i64 lg)] 54 true), (0, 0, .tail pre .u64 l e)]⟩⟩
noncomputable def S155 (pre : Nat) (n : Nat) (c : Nat) (n3 : Int) (bb : Int) (lg : Int) (m0 : Int) (m1 : Int) (l : List Int) (e : TypeId) : KSt := ⟨(frameL 135 [(2, (.slice (some ⟨0, pre, none⟩) n c)), (3, (.pointer (some ⟨1, 0, none⟩))), (4, (.pointer (some ⟨2, 0, none⟩))), (7, (.pointer (some ⟨3, 0, none⟩))), (12, (.int .i64 4)), (13, (.pointer (some ⟨4, 0, none⟩))), (14, (.pointer (some ⟨5, 0, none⟩)))]), ⟨6, 1, [(5, 0, .cells [(.int .i64 3), (.int .u64 0), (.int .u64 n3)] 63 true), (4, 0, .cells [(.slice (some ⟨0, (pre + 0), none⟩) 4 (c - 0)), (.int .i64 4), (.bool false), (.int .i64 0), (.int .u64 0), (.int .i64 0), (.int .u64 0), (.int .u64 0)] 31 true), (3, 0, .cells [(.int .u64 bb), (.int .i64 lg), (.int .i64 m0), (.int .i64 m1), (.int .u64 (l.getD 0 0)), (.int .i64 0), (.int .i64 1), (.int .u64 0), (.int .u64 0)] 82 true), (2, 0, .cells [(.int .i64 m0), (.int .i64 m1)] 55 true), (1, 0, .cells [(.int .u64 bb), (.int .i64 lg)] 54 true), (0, 0, .tail pre .u64 l e)]⟩⟩
noncomputable def S156 (pre : Nat) (n : Nat) (c : Nat) (n5 : Int) (m1 : Int) (bb : Int) (lg : Int) (m0 : Int) (l : List Int) (e : TypeId) : KSt := ⟨(frameL 135 [(2, (.slice (some ⟨0, pre, none⟩) n c)), (3, (.pointer (some ⟨1, 0, none⟩))), (4, (.pointer (some ⟨2, 0, none⟩))), (7, (.pointer (some ⟨3, 0, none⟩))), (12, (.int .i64 4)), (13, (.pointer (some ⟨4, 0, none⟩))), (14, (.pointer (some ⟨5, 0, none⟩)))]), ⟨6, 1, [(5, 0, .cells [(.int .i64 2), (.int .u64 n5), (.int .u64 (makeRV n5 m1))] 63 true), (4, 0, .cells [(.slice (some ⟨0, (pre + 0), none⟩) 4 (c - 0)), (.int .i64 3), (.bool false), (.int .i64 0), (.int .u64 0), (.int .i64 0), (.int .u64 0), (.int .u64 0)] 31 true), (3, 0, .cells [(.int .u64 bb), (.int .i64 lg), (.int .i64 m0), (.int .i64 m1), (.int .u64 (l.getD 0 0)), (.int .i64 0), (.int .i64 1), (.int .u64 0), (.int .u64 0)] 82 true), (2, 0, .cells [(.int .i64 m0), (.int .i64 m1)] 55 true), (1, 0, .cells [(.int .u64 bb), (.int .i64 lg)] 54 true), (0, 0, .tail pre .u64 l e)]⟩⟩
noncomputable def S157 (pre : Nat) (n : Nat) (c : Nat) (n7 : Int) (bb : Int) (lg : Int) (m0 : Int) (m1 : Int) (l : List Int) (e : TypeId) : KSt := ⟨(frameL 135 [(2, (.slice (some ⟨0, pre, none⟩) n c)), (3, (.pointer (some ⟨1, 0, none⟩))), (4, (.pointer (some ⟨2, 0, none⟩))), (7, (.pointer (some ⟨3, 0, none⟩))), (12, (.int .i64 4)), (13, (.pointer (some ⟨4, 0, none⟩))), (14, (.pointer (some ⟨5, 0, none⟩)))]), ⟨6, 1, [(5, 0, .cells [(.int .i64 3), (.int .u64 0), (.int .u64 n7)] 63 true), (4, 0, .cells [(.slice (some ⟨0, (pre + 0), none⟩) 4 (c - 0)), (.int .i64 4), (.bool false), (.int .i64 0), (.int .u64 0), (.int .i64 0), (.int .u64 0), (.int .u64 0)] 31 true), (3, 0, .cells [(.int .u64 bb), (.int .i64 lg), (.int .i64 m0), (.int .i64 m1), (.int .u64 (l.getD 0 0)), (.int .i64 0), (.int .i64 1), (.int .u64 0), (.int .u64 0)] 82 true), (2, 0, .cells [(.int .i64 m0), (.int .i64 m1)] 55 true), (1, 0, .cells [(.int .u64 bb), (.int .i64 lg)] 54 true), (0, 0, .tail pre .u64 l e)]⟩⟩
theorem R129 (pre : Nat) (n : Nat) (c : Nat) (bb : Int) (lg : Int) (m0 : Int) (m1 : Int) (l : List Int) (e : TypeId) : evCK Try.prog cfgE (runK Try.prog cfgE fsE (conT grpDom grpE) 12 40) 12 (codeAt [1, 1, 1, 1, 0, 1, 0, 0, 1, 0, 0, 1, 0] B) (S152 pre n c bb lg m0 m1 l e) (normC 1 [2, 3, 4, 7, 12, 13, 14]) =
  bif ((groupsV m0) == 0) then
    bif (Nat.ble pre ((pre + 0) + 0)) then
      obind (l[(((pre + 0) + 0) - pre)]?) fun n1 =>
        bif (n1 == 0) then
          some (.normal, (S153 pre n c bb lg m0 m1 l e))
        else
          bif (Nat.ble pre ((pre + 0) + 1)) then
            obind (l[(((pre + 0) + 1) - pre)]?) fun n2 =>
              bif (Nat.ble pre ((pre + 0) + 2)) then
                obind (l[(((pre + 0) + 2) - pre)]?) fun n3 =>
                  bif (n3 == 0) then
                    some (.normal, (S154 pre n c n1 m1 bb lg m0 l e))
                  else
                    bif (Nat.ble pre ((pre + 0) + 3)) then
                      obind (l[(((pre + 0) + 3) - pre)]?) fun n4 =>
                        some (.normal, (S155 pre n c n3 bb lg m0 m1 l e))
                    else
                      none
              else
                none
          else
            none
    else
      none
  else
    bif (Nat.ble pre ((pre + 0) + 0)) then
      obind (l[(((pre + 0) + 0) - pre)]?) fun n5 =>
        bif (n5 == 0) then
          some (.normal, (S153 pre n c bb lg m0 m1 l e))
        else
          bif (Nat.ble pre ((pre + 0) + 1)) then
            obind (l[(((pre + 0) + 1) - pre)]?) fun n6 =>
              bif (Nat.ble pre ((pre + 0) + 2)) then
                obind (l[(((pre + 0) + 2) - pre)]?) fun n7 =>
                  bif (n7 == 0) then
                    some (.normal, (S156 pre n c n5 m1 bb lg m0 l e))
                  else
                    bif (Nat.ble pre ((pre + 0) + 3)) then
                      obind (l[(((pre + 0) + 3) - pre)]?) fun n8 =>
                        some (.normal, (S157 pre n c n7 bb lg m0 m1 l e))
                    else
                      none
              else
                none
          else
            none
    else
      none := by kernel_rfl
noncomputable def S158 (pre : Nat) (n : Nat) (c : Nat) (bb : Int) (lg : Int) (m0 : Int) (m1 : Int) (l : List Int) (e : TypeId) : KSt := ⟨(frameL 135 [(2, (.slice (some ⟨0, pre, none⟩) n c)), (3, (.pointer (some ⟨1, 0, none⟩))), (4, (.pointer (some ⟨2, 0, none⟩))), (7, (.pointer (some ⟨3, 0, none⟩))), (12, (.int .i64 4)), (13, (.pointer (some ⟨4, 0, none⟩))), (14, (.pointer (some ⟨5, 0, none⟩))), (15, (.pointer (some ⟨6, 0, none⟩))), (16, (.bool true))]), ⟨7, 1, [(6, 0, .cells [(.int .i64 1), (.int .u64 0), (.int .u64 0)] 60 true), (5, 0, .cells [(.int .i64 1), (.int .u64 0), (.int .u64 0)] 63 true), (4, 0, .cells [(.slice (some ⟨0, (pre + 0), none⟩) 4 (c - 0)), (.int .i64 1), (.bool false), (.int .i64 0), (.int .u64 0), (.int .i64 0), (.int .u64 0), (.int .u64 0)] 31 true), (3, 0, .cells [(.int .u64 bb), (.int .i64 lg), (.int .i64 m0), (.int .i64 m1), (.int .u64 (l.getD 0 0)), (.int .i64 0), (.int .i64 1), (.int .u64 0), (.int .u64 0)] 82 true), (2, 0, .cells [(.int .i64 m0), (.int .i64 m1)] 55 true), (1, 0, .cells [(.int .u64 bb), (.int .i64 lg)] 54 true), (0, 0, .tail pre .u64 l e)]⟩⟩
theorem R130 (pre : Nat) (n : Nat) (c : Nat) (bb : Int) (lg : Int) (m0 : Int) (m1 : Int) (l : List Int) (e : TypeId) : evCK Try.prog cfgE (runK Try.prog cfgE fsE (conT grpDom grpE) 12 40) 12 (codeAt [1, 1, 1, 1, 0, 1, 0, 0, 1, 0, 0, 1, 1, 0] B) (S153 pre n c bb lg m0 m1 l e) (normC 1 [2, 3, 4, 7, 12, 13, 14, 15, 16]) =
  some (.normal, (S158 pre n c bb lg m0 m1 l e)) := by kernel_rfl
noncomputable def S159 (pre : Nat) (n : Nat) (c : Nat) (bb : Int) (lg : Int) (m0 : Int) (m1 : Int) (l : List Int) (e : TypeId) : KSt := ⟨(frameL 135 [(2, (.slice (some ⟨0, pre, none⟩) n c)), (3, (.pointer (some ⟨1, 0, none⟩))), (4, (.pointer (some ⟨2, 0, none⟩))), (7, (.pointer (some ⟨3, 0, none⟩))), (12, (.int .i64 4)), (13, (.pointer (some ⟨4, 0, none⟩))), (14, (.pointer (some ⟨5, 0, none⟩))), (15, (.pointer (some ⟨6, 0, none⟩))), (16, (.bool true)), (17, (.pointer (some ⟨7, 0, none⟩))), (18, (.bool false))]), ⟨8, 1, [(7, 0, .cells [(.int .i64 0), (.int .u64 0), (.int .i64 0), (.int .u64 0), (.int .u64 0)] 29 true), (6, 0, .cells [(.int .i64 1), (.int .u64 0), (.int .u64 0)] 60 true), (5, 0, .cells [(.int .i64 1), (.int .u64 0), (.int .u64 0)] 63 true), (4, 0, .cells [(.slice (some ⟨0, (pre + 0), none⟩) 4 (c - 0)), (.int .i64 1), (.bool false), (.int .i64 0), (.int .u64 0), (.int .i64 0), (.int .u64 0), (.int .u64 0)] 31 true), (3, 0, .cells [(.int .u64 bb), (.int .i64 lg), (.int .i64 m0), (.int .i64 m1), (.int .u64 (l.getD 0 0)), (.int .i64 0), (.int .i64 1), (.int .u64 0), (.int .u64 0)] 82 true), (2, 0, .cells [(.int .i64 m0), (.int .i64 m1)] 55 true), (1, 0, .cells [(.int .u64 bb), (.int .i64 lg)] 54 true), (0, 0, .tail pre .u64 l e)]⟩⟩
theorem R131 (pre : Nat) (n : Nat) (c : Nat) (bb : Int) (lg : Int) (m0 : Int) (m1 : Int) (l : List Int) (e : TypeId) : evCK Try.prog cfgE (runK Try.prog cfgE fsE (conT grpDom grpE) 12 40) 12 (codeAt [1, 1, 1, 1, 0, 1, 0, 0, 1, 0, 0, 1, 1, 1, 0] B) (S158 pre n c bb lg m0 m1 l e) (normC 1 [2, 3, 4, 7, 12, 13, 14, 15, 16, 17, 18]) =
  some (.normal, (S159 pre n c bb lg m0 m1 l e)) := by kernel_rfl
noncomputable def S160 (pre : Nat) (n : Nat) (c : Nat) (bb : Int) (lg : Int) (m0 : Int) (m1 : Int) (l : List Int) (e : TypeId) : KSt := ⟨(frameL 135 [(2, (.slice (some ⟨0, pre, none⟩) n c)), (3, (.pointer (some ⟨1, 0, none⟩))), (4, (.pointer (some ⟨2, 0, none⟩))), (7, (.pointer (some ⟨3, 0, none⟩))), (12, (.int .i64 4)), (123, (.bool false))]), ⟨4, 1, [(3, 0, .cells [(.int .u64 bb), (.int .i64 lg), (.int .i64 m0), (.int .i64 m1), (.int .u64 (l.getD 0 0)), (.int .i64 0), (.int .i64 1), (.int .u64 0), (.int .u64 0)] 82 true), (2, 0, .cells [(.int .i64 m0), (.int .i64 m1)] 55 true), (1, 0, .cells [(.int .u64 bb), (.int .i64 lg)] 54 true), (0, 0, .tail pre .u64 l e)]⟩⟩
theorem R132 (pre : Nat) (n : Nat) (c : Nat) (bb : Int) (lg : Int) (m0 : Int) (m1 : Int) (l : List Int) (e : TypeId) : evCK Try.prog cfgE (runK Try.prog cfgE fsE (conT grpDom grpE) 12 40) 12 (codeAt [1, 1, 1, 1, 0, 1, 0, 0, 1, 0, 0, 1, 1, 1, 1, 0, 0] B) (S159 pre n c bb lg m0 m1 l e) (normC 1 [2, 3, 4, 7, 12, 123]) =
  some (.normal, (S160 pre n c bb lg m0 m1 l e)) := by kernel_rfl
theorem R133 (pre : Nat) (n : Nat) (c : Nat) (bb : Int) (lg : Int) (m0 : Int) (m1 : Int) (l : List Int) (e : TypeId) : evCK Try.prog cfgE (runK Try.prog cfgE fsE (conT grpDom grpE) 12 40) 12 (codeAt [1, 1, 1, 1, 0, 1, 0, 0, 1, 0, 0, 1, 1, 1, 1, 0, 1, 1] B) (S160 pre n c bb lg m0 m1 l e) (normC 1 [2, 3, 4, 7, 12]) =
  some (.normal, (S112 pre n c bb lg m0 m1 l e)) := by kernel_rfl
noncomputable def S161 (pre : Nat) (n : Nat) (c : Nat) (bb : Int) (lg : Int) (m0 : Int) (m1 : Int) (l : List Int) (e : TypeId) : KSt := ⟨(frameL 135 [(2, (.slice (some ⟨0, pre, none⟩) n c)), (3, (.pointer (some ⟨1, 0, none⟩))), (4, (.pointer (some ⟨2, 0, none⟩))), (7, (.pointer (some ⟨3, 0, none⟩))), (12, (.int .i64 4)), (127, (.bool (decide (4 < ((n : Nat) : Int)))))]), ⟨4, 1, [(3, 0, .cells [(.int .u64 bb), (.int .i64 lg), (.int .i64 m0), (.int .i64 m1), (.int .u64 (l.getD 0 0)), (.int .i64 0), (.int .i64 1), (.int .u64 0), (.int .u64 0)] 82 true), (2, 0, .cells [(.int .i64 m0), (.int .i64 m1)] 55 true), (1, 0, .cells [(.int .u64 bb), (.int .i64 lg)] 54 true), (0, 0, .tail pre .u64 l e)]⟩⟩
theorem R134 (pre : Nat) (n : Nat) (c : Nat) (bb : Int) (lg : Int) (m0 : Int) (m1 : Int) (l : List Int) (e : TypeId) : evCK Try.prog cfgE (runK Try.prog cfgE fsE (conT grpDom grpE) 12 40) 12 (codeAt [1, 1, 1, 1, 0, 1, 0, 0, 1, 0, 0, 1, 1, 1, 1, 1, 0] B) (S112 pre n c bb lg m0 m1 l e) (normC 1 [2, 3, 4, 7, 12, 127]) =
  some (.normal, (S161 pre n c bb lg m0 m1 l e)) := by kernel_rfl
theorem R135 (pre : Nat) (n : Nat) (c : Nat) (bb : Int) (lg : Int) (m0 : Int) (m1 : Int) (l : List Int) (e : TypeId) : evCK Try.prog cfgE (runK Try.prog cfgE fsE (conT grpDom grpE) 12 40) 12 (codeAt [1, 1, 1, 1, 0, 1, 0, 0, 1, 0, 0, 1, 1, 1, 1, 1, 1, 0] B) (S161 pre n c bb lg m0 m1 l e) (normC 1 [2, 3, 4, 7, 12]) =
  if (0 : Int) ≤ 4 ∧ 4 < ((n : Nat) : Int) then
    bif (Nat.ble pre (pre + 4)) then
      obind (l[((pre + 4) - pre)]?) fun n1 =>
        some (.normal, (S112 pre n c bb lg m0 m1 l e))
    else
      none
  else
    none := by kernel_rfl
noncomputable def S162 (pre : Nat) (n : Nat) (c : Nat) (bb : Int) (lg : Int) (m0 : Int) (m1 : Int) (l : List Int) (e : TypeId) : KSt := ⟨(frameL 135 [(2, (.slice (some ⟨0, pre, none⟩) n c)), (3, (.pointer (some ⟨1, 0, none⟩))), (4, (.pointer (some ⟨2, 0, none⟩))), (7, (.pointer (some ⟨3, 0, none⟩))), (12, (.int .i64 5))]), ⟨4, 1, [(3, 0, .cells [(.int .u64 bb), (.int .i64 lg), (.int .i64 m0), (.int .i64 m1), (.int .u64 (l.getD 0 0)), (.int .i64 0), (.int .i64 1), (.int .u64 0), (.int .u64 0)] 82 true), (2, 0, .cells [(.int .i64 m0), (.int .i64 m1)] 55 true), (1, 0, .cells [(.int .u64 bb), (.int .i64 lg)] 54 true), (0, 0, .tail pre .u64 l e)]⟩⟩
theorem R136 (pre : Nat) (n : Nat) (c : Nat) (bb : Int) (lg : Int) (m0 : Int) (m1 : Int) (l : List Int) (e : TypeId) : evCK Try.prog cfgE (runK Try.prog cfgE fsE (conT grpDom grpE) 12 40) 12 (codeAt [1, 1, 1, 1, 0, 1, 0, 0, 1, 1] B) (S112 pre n c bb lg m0 m1 l e) (normC 1 [2, 3, 4, 7, 12]) =
  some (.normal, (S162 pre n c bb lg m0 m1 l e)) := by kernel_rfl
theorem lp12m_33 (bb lg m0 m1 g gl : Int) (i : Int) (pre n c : Nat) (l : List Int) (e : TypeId) (hb : 0 ≤ bb) (hm : -9223372036854775808 ≤ m1 ∧ m1 < 9223372036854775808) (hg : groupsV m0 = g) (hg1 : 0 ≤ g) (hg2 : g ≤ 512) (hgl : groupsV lg = gl) (hgl1 : 0 ≤ gl) (hn20 : n ≤ 20) (hc : n ≤ c) (hc2 : c ≤ 9223372036854775807) (hl : l.length = c) (hc0 : 0 < c) (h1 : bb ≠ 0) (h2 : 0 < gl) (h3 : 0 < g) (hn : 4 < (n : Int))  (q1 : ((l.getD 0 0) == 0) = true) {Q : Ex → St → Prop} (hq : Q .normal (KSt.low (S162 pre n c bb lg m0 m1 l e))) : Gets Try.prog (KH.low ⟨1, 1, [(0, 0, .tail pre .u64 l e)]⟩) (codeAt [1, 1, 1, 1, 0, 1, 0, 0] B) (KSt.low (S112 pre n c bb lg m0 m1 l e)) Q := by
  rw [C1_1_1_1_0_1_0_0]; refine Gets.seq ?_
  rw [C1_1_1_1_0_1_0_0_0]; refine Gets.seq ?_
  refine Gets.ofN fitE grp_sound (conT_agree _ _) 12 40 (by kernel_rfl) (x := .normal) (s' := (S150 pre n c bb lg m0 m1 l e)) (R126 pre n c bb lg m0 m1 l e) ?_
  show Gets _ _ (codeAt [1, 1, 1, 1, 0, 1, 0, 0, 0, 1] B) _ _
  rw [C1_1_1_1_0_1_0_0_0_1]; refine Gets.cond true (by kernel_rfl) ((show evalX (KSt.ts (S150 pre n c bb lg m0 m1 l e)) (.tmp 60) = .bool (decide (4 ≤ ((n : Nat) : Int))) by kernel_rfl).trans (by rw [(show (decide (4 ≤ ((n : Nat) : Int))) = true from decide_eq_true (by omega))])) ?_; show Gets _ _ (codeAt [1, 1, 1, 1, 0, 1, 0, 0, 0, 1, 0] B) _ _
  refine Gets.ofN fitE grp_sound (conT_agree _ _) 12 40 (by kernel_rfl) (x := .normal) (s' := (S112 pre n c bb lg m0 m1 l e)) (R127 pre n c bb lg m0 m1 l e) ?_
  show Gets _ _ (codeAt [1, 1, 1, 1, 0, 1, 0, 0, 1] B) _ _
  rw [C1_1_1_1_0_1_0_0_1]; refine Gets.seq ?_
  rw [C1_1_1_1_0_1_0_0_1_0]; refine Gets.block ?_
  rw [C1_1_1_1_0_1_0_0_1_0_0]; refine Gets.seq ?_
  refine Gets.ofN fitE grp_sound (conT_agree _ _) 12 40 (by kernel_rfl) (x := .normal) (s' := (S152 pre n c bb lg m0 m1 l e)) ((R128 pre n c bb lg m0 m1 l e).trans (by rw [if_pos (⟨by omega, by omega⟩), condT (and_t (rfl) (ble_t (by omega))), condF (nbeq_f (by omega))])) ?_
  show Gets _ _ (codeAt [1, 1, 1, 1, 0, 1, 0, 0, 1, 0, 0, 1] B) _ _
  rw [C1_1_1_1_0_1_0_0_1_0_0_1]; refine Gets.seq ?_
  refine Gets.ofN fitE grp_sound (conT_agree _ _) 12 40 (by kernel_rfl) (x := .normal) (s' := (S153 pre n c bb lg m0 m1 l e)) ((R129 pre n c bb lg m0 m1 l e).trans (by rw [condF (ibeq_f (by ((try simp (disch := omega) only [hg, hgl, wrap_i64_id]) <;> omega))), condT (ble_t (by omega)), obind_at (k := 0) (by omega) (by omega), condT (q1)] <;> rfl)) ?_
  show Gets _ _ (codeAt [1, 1, 1, 1, 0, 1, 0, 0, 1, 0, 0, 1, 1] B) _ _
  rw [C1_1_1_1_0_1_0_0_1_0_0_1_1]; refine Gets.seq ?_
  refine Gets.ofN fitE grp_sound (conT_agree _ _) 12 40 (by kernel_rfl) (x := .normal) (s' := (S158 pre n c bb lg m0 m1 l e)) (R130 pre n c bb lg m0 m1 l e) ?_
  show Gets _ _ (codeAt [1, 1, 1, 1, 0, 1, 0, 0, 1, 0, 0, 1, 1, 1] B) _ _
  rw [C1_1_1_1_0_1_0_0_1_0_0_1_1_1]; refine Gets.seq ?_
  refine Gets.ofN fitE grp_sound (conT_agree _ _) 12 40 (by kernel_rfl) (x := .normal) (s' := (S159 pre n c bb lg m0 m1 l e)) (R131 pre n c bb lg m0 m1 l e) ?_
  show Gets _ _ (codeAt [1, 1, 1, 1, 0, 1, 0, 0, 1, 0, 0, 1, 1, 1, 1] B) _ _
  rw [C1_1_1_1_0_1_0_0_1_0_0_1_1_1_1]; refine Gets.seq ?_
  rw [C1_1_1_1_0_1_0_0_1_0_0_1_1_1_1_0]; refine Gets.seq ?_
  refine Gets.ofN fitE grp_sound (conT_agree _ _) 12 40 (by kernel_rfl) (x := .normal) (s' := (S160 pre n c bb lg m0 m1 l e)) (R132 pre n c bb lg m0 m1 l e) ?_
  show Gets _ _ (codeAt [1, 1, 1, 1, 0, 1, 0, 0, 1, 0, 0, 1, 1, 1, 1, 0, 1] B) _ _
  rw [C1_1_1_1_0_1_0_0_1_0_0_1_1_1_1_0_1]; refine Gets.cond false (by kernel_rfl) (show evalX (KSt.ts (S160 pre n c bb lg m0 m1 l e)) (.tmp 123) = .bool false by kernel_rfl) ?_; show Gets _ _ (codeAt [1, 1, 1, 1, 0, 1, 0, 0, 1, 0, 0, 1, 1, 1, 1, 0, 1, 1] B) _ _
  refine Gets.ofN fitE grp_sound (conT_agree _ _) 12 40 (by kernel_rfl) (x := .normal) (s' := (S112 pre n c bb lg m0 m1 l e)) (R133 pre n c bb lg m0 m1 l e) ?_
  show Gets _ _ (codeAt [1, 1, 1, 1, 0, 1, 0, 0, 1, 0, 0, 1, 1, 1, 1, 1] B) _ _
  rw [C1_1_1_1_0_1_0_0_1_0_0_1_1_1_1_1]; refine Gets.seq ?_
  refine Gets.ofN fitE grp_sound (conT_agree _ _) 12 40 (by kernel_rfl) (x := .normal) (s' := (S161 pre n c bb lg m0 m1 l e)) (R134 pre n c bb lg m0 m1 l e) ?_
  show Gets _ _ (codeAt [1, 1, 1, 1, 0, 1, 0, 0, 1, 0, 0, 1, 1, 1, 1, 1, 1] B) _ _
  rw [C1_1_1_1_0_1_0_0_1_0_0_1_1_1_1_1_1]; refine Gets.cond true (by kernel_rfl) ((show evalX (KSt.ts (S161 pre n c bb lg m0 m1 l e)) (.tmp 127) = .bool (decide (4 < ((n : Nat) : Int))) by kernel_rfl).trans (by rw [(show (decide (4 < ((n : Nat) : Int))) = true from decide_eq_true (by omega))])) ?_; show Gets _ _ (codeAt [1, 1, 1, 1, 0, 1, 0, 0, 1, 0, 0, 1, 1, 1, 1, 1, 1, 0] B) _ _
  refine Gets.ofN fitE grp_sound (conT_agree _ _) 12 40 (by kernel_rfl) (x := .normal) (s' := (S112 pre n c bb lg m0 m1 l e)) ((R135 pre n c bb lg m0 m1 l e).trans (by rw [if_pos (⟨by omega, by omega⟩), condT (ble_t (by omega)), obind_at (k := 4) (by omega) (by omega)] <;> rfl)) ?_
  show Gets _ _ (codeAt [1, 1, 1, 1, 0, 1, 0, 0, 1, 1] B) _ _
  refine Gets.ofN fitE grp_sound (conT_agree _ _) 12 40 (by kernel_rfl) (x := .normal) (s' := (S162 pre n c bb lg m0 m1 l e)) (R136 pre n c bb lg m0 m1 l e) ?_
  exact hq
theorem R137 (pre : Nat) (n : Nat) (c : Nat) (bb : Int) (lg : Int) (m0 : Int) (m1 : Int) (l : List Int) (e : TypeId) : evCK Try.prog cfgE (runK Try.prog cfgE fsE (conT grpDom grpE) 12 40) 12 (codeAt [1, 1, 1, 1, 0, 1, 0, 0, 1, 0, 0, 1, 1, 1, 1, 1, 1, 1] B) (S161 pre n c bb lg m0 m1 l e) (normC 1 [2, 3, 4, 7, 12]) =
  some (.normal, (S112 pre n c bb lg m0 m1 l e)) := by kernel_rfl
theorem lp12e_34 (bb lg m0 m1 g gl : Int) (i : Int) (pre n c : Nat) (l : List Int) (e : TypeId) (hb : 0 ≤ bb) (hm : -9223372036854775808 ≤ m1 ∧ m1 < 9223372036854775808) (hg : groupsV m0 = g) (hg1 : 0 ≤ g) (hg2 : g ≤ 512) (hgl : groupsV lg = gl) (hgl1 : 0 ≤ gl) (hn20 : n ≤ 20) (hc : n ≤ c) (hc2 : c ≤ 9223372036854775807) (hl : l.length = c) (hc0 : 0 < c) (h1 : bb ≠ 0) (h2 : 0 < gl) (h3 : 0 < g) (hn : 4 = (n : Int))  (q1 : ((l.getD 0 0) == 0) = true) {Q : Ex → St → Prop} (hq : Q .normal (KSt.low (S162 pre n c bb lg m0 m1 l e))) : Gets Try.prog (KH.low ⟨1, 1, [(0, 0, .tail pre .u64 l e)]⟩) (codeAt [1, 1, 1, 1, 0, 1, 0, 0] B) (KSt.low (S112 pre n c bb lg m0 m1 l e)) Q := by
  rw [C1_1_1_1_0_1_0_0]; refine Gets.seq ?_
  rw [C1_1_1_1_0_1_0_0_0]; refine Gets.seq ?_
  refine Gets.ofN fitE grp_sound (conT_agree _ _) 12 40 (by kernel_rfl) (x := .normal) (s' := (S150 pre n c bb lg m0 m1 l e)) (R126 pre n c bb lg m0 m1 l e) ?_
  show Gets _ _ (codeAt [1, 1, 1, 1, 0, 1, 0, 0, 0, 1] B) _ _
  rw [C1_1_1_1_0_1_0_0_0_1]; refine Gets.cond true (by kernel_rfl) ((show evalX (KSt.ts (S150 pre n c bb lg m0 m1 l e)) (.tmp 60) = .bool (decide (4 ≤ ((n : Nat) : Int))) by kernel_rfl).trans (by rw [(show (decide (4 ≤ ((n : Nat) : Int))) = true from decide_eq_true (by omega))])) ?_; show Gets _ _ (codeAt [1, 1, 1, 1, 0, 1, 0, 0, 0, 1, 0] B) _ _
  refine Gets.ofN fitE grp_sound (conT_agree _ _) 12 40 (by kernel_rfl) (x := .normal) (s' := (S112 pre n c bb lg m0 m1 l e)) (R127 pre n c bb lg m0 m1 l e) ?_
  show Gets _ _ (codeAt [1, 1, 1, 1, 0, 1, 0, 0, 1] B) _ _
  rw [C1_1_1_1_0_1_0_0_1]; refine Gets.seq ?_
  rw [C1_1_1_1_0_1_0_0_1_0]; refine Gets.block ?_
  rw [C1_1_1_1_0_1_0_0_1_0_0]; refine Gets.seq ?_
  refine Gets.ofN fitE grp_sound (conT_agree _ _) 12 40 (by kernel_rfl) (x := .normal) (s' := (S152 pre n c bb lg m0 m1 l e)) ((R128 pre n c bb lg m0 m1 l e).trans (by rw [if_pos (⟨by omega, by omega⟩), condT (and_t (rfl) (ble_t (by omega))), condF (nbeq_f (by omega))])) ?_
  show Gets _ _ (codeAt [1, 1, 1, 1, 0, 1, 0, 0, 1, 0, 0, 1] B) _ _
  rw [C1_1_1_1_0_1_0_0_1_0_0_1]; refine Gets.seq ?_
  refine Gets.ofN fitE grp_sound (conT_agree _ _) 12 40 (by kernel_rfl) (x := .normal) (s' := (S153 pre n c bb lg m0 m1 l e)) ((R129 pre n c bb lg m0 m1 l e).trans (by rw [condF (ibeq_f (by ((try simp (disch := omega) only [hg, hgl, wrap_i64_id]) <;> omega))), condT (ble_t (by omega)), obind_at (k := 0) (by omega) (by omega), condT (q1)] <;> rfl)) ?_
  show Gets _ _ (codeAt [1, 1, 1, 1, 0, 1, 0, 0, 1, 0, 0, 1, 1] B) _ _
  rw [C1_1_1_1_0_1_0_0_1_0_0_1_1]; refine Gets.seq ?_
  refine Gets.ofN fitE grp_sound (conT_agree _ _) 12 40 (by kernel_rfl) (x := .normal) (s' := (S158 pre n c bb lg m0 m1 l e)) (R130 pre n c bb lg m0 m1 l e) ?_
  show Gets _ _ (codeAt [1, 1, 1, 1, 0, 1, 0, 0, 1, 0, 0, 1, 1, 1] B) _ _
  rw [C1_1_1_1_0_1_0_0_1_0_0_1_1_1]; refine Gets.seq ?_
  refine Gets.ofN fitE grp_sound (conT_agree _ _) 12 40 (by kernel_rfl) (x := .normal) (s' := (S159 pre n c bb lg m0 m1 l e)) (R131 pre n c bb lg m0 m1 l e) ?_
  show Gets _ _ (codeAt [1, 1, 1, 1, 0, 1, 0, 0, 1, 0, 0, 1, 1, 1, 1] B) _ _
  rw [C1_1_1_1_0_1_0_0_1_0_0_1_1_1_1]; refine Gets.seq ?_
  rw [C1_1_1_1_0_1_0_0_1_0_0_1_1_1_1_0]; refine Gets.seq ?_
  refine Gets.ofN fitE grp_sound (conT_agree _ _) 12 40 (by kernel_rfl) (x := .normal) (s' := (S160 pre n c bb lg m0 m1 l e)) (R132 pre n c bb lg m0 m1 l e) ?_
  show Gets _ _ (codeAt [1, 1, 1, 1, 0, 1, 0, 0, 1, 0, 0, 1, 1, 1, 1, 0, 1] B) _ _
  rw [C1_1_1_1_0_1_0_0_1_0_0_1_1_1_1_0_1]; refine Gets.cond false (by kernel_rfl) (show evalX (KSt.ts (S160 pre n c bb lg m0 m1 l e)) (.tmp 123) = .bool false by kernel_rfl) ?_; show Gets _ _ (codeAt [1, 1, 1, 1, 0, 1, 0, 0, 1, 0, 0, 1, 1, 1, 1, 0, 1, 1] B) _ _
  refine Gets.ofN fitE grp_sound (conT_agree _ _) 12 40 (by kernel_rfl) (x := .normal) (s' := (S112 pre n c bb lg m0 m1 l e)) (R133 pre n c bb lg m0 m1 l e) ?_
  show Gets _ _ (codeAt [1, 1, 1, 1, 0, 1, 0, 0, 1, 0, 0, 1, 1, 1, 1, 1] B) _ _
  rw [C1_1_1_1_0_1_0_0_1_0_0_1_1_1_1_1]; refine Gets.seq ?_
  refine Gets.ofN fitE grp_sound (conT_agree _ _) 12 40 (by kernel_rfl) (x := .normal) (s' := (S161 pre n c bb lg m0 m1 l e)) (R134 pre n c bb lg m0 m1 l e) ?_
  show Gets _ _ (codeAt [1, 1, 1, 1, 0, 1, 0, 0, 1, 0, 0, 1, 1, 1, 1, 1, 1] B) _ _
  rw [C1_1_1_1_0_1_0_0_1_0_0_1_1_1_1_1_1]; refine Gets.cond false (by kernel_rfl) ((show evalX (KSt.ts (S161 pre n c bb lg m0 m1 l e)) (.tmp 127) = .bool (decide (4 < ((n : Nat) : Int))) by kernel_rfl).trans (by rw [(show (decide (4 < ((n : Nat) : Int))) = false from decide_eq_false (by omega))])) ?_; show Gets _ _ (codeAt [1, 1, 1, 1, 0, 1, 0, 0, 1, 0, 0, 1, 1, 1, 1, 1, 1, 1] B) _ _
  refine Gets.ofN fitE grp_sound (conT_agree _ _) 12 40 (by kernel_rfl) (x := .normal) (s' := (S112 pre n c bb lg m0 m1 l e)) (R137 pre n c bb lg m0 m1 l e) ?_
  show Gets _ _ (codeAt [1, 1, 1, 1, 0, 1, 0, 0, 1, 1] B) _ _
  refine Gets.ofN fitE grp_sound (conT_agree _ _) 12 40 (by kernel_rfl) (x := .normal) (s' := (S162 pre n c bb lg m0 m1 l e)) (R136 pre n c bb lg m0 m1 l e) ?_
  exact hq
noncomputable def S163 (pre : Nat) (n : Nat) (c : Nat) (bb : Int) (lg : Int) (m0 : Int) (m1 : Int) (l : List Int) (e : TypeId) : KSt := ⟨(frameL 135 [(2, (.slice (some ⟨0, pre, none⟩) n c)), (3, (.pointer (some ⟨1, 0, none⟩))), (4, (.pointer (some ⟨2, 0, none⟩))), (7, (.pointer (some ⟨3, 0, none⟩))), (12, (.int .i64 4)), (60, (.bool (decide (4 ≤ ((n : Nat) : Int)))))]), ⟨4, 1, [(3, 0, .cells [(.int .u64 bb), (.int .i64 lg), (.int .i64 m0), (.int .i64 m1), (.int .u64 (l.getD 0 0)), (.int .i64 0), (.int .i64 2), (.int .u64 (l.getD 0 0)), (.int .u64 (makeV (l.getD 0 0) m1))] 82 true), (2, 0, .cells [(.int .i64 m0), (.int .i64 m1)] 55 true), (1, 0, .cells [(.int .u64 bb), (.int .i64 lg)] 54 true), (0, 0, .tail pre .u64 l e)]⟩⟩
theorem R138 (pre : Nat) (n : Nat) (c : Nat) (bb : Int) (lg : Int) (m0 : Int) (m1 : Int) (l : List Int) (e : TypeId) : evCK Try.prog cfgE (runK Try.prog cfgE fsE (conT grpDom grpE) 12 40) 12 (codeAt [1, 1, 1, 1, 0, 1, 0, 0, 0, 0] B) (S129 pre n c bb lg m0 m1 l e) (normC 1 [2, 3, 4, 7, 12, 60]) =
  some (.normal, (S163 pre n c bb lg m0 m1 l e)) := by kernel_rfl
theorem R139 (pre : Nat) (n : Nat) (c : Nat) (bb : Int) (lg : Int) (m0 : Int) (m1 : Int) (l : List Int) (e : TypeId) : evCK Try.prog cfgE (runK Try.prog cfgE fsE (conT grpDom grpE) 12 40) 12 (codeAt [1, 1, 1, 1, 0, 1, 0, 0, 0, 1, 0] B) (S163 pre n c bb lg m0 m1 l e) (normC 1 [2, 3, 4, 7, 12]) =
  some (.normal, (S129 pre n c bb lg m0 m1 l e)) := by kernel_rfl
noncomputable def S164 (pre : Nat) (n : Nat) (c : Nat) (bb : Int) (lg : Int) (m0 : Int) (m1 : Int) (l : List Int) (e : TypeId) : KSt := ⟨(frameL 135 [(2, (.slice (some ⟨0, pre, none⟩) n c)), (3, (.pointer (some ⟨1, 0, none⟩))), (4, (.pointer (some ⟨2, 0, none⟩))), (7, (.pointer (some ⟨3, 0, none⟩))), (12, (.int .i64 4)), (13, (.pointer (some ⟨4, 0, none⟩)))]), ⟨5, 1, [(4, 0, .cells [(.slice (some ⟨0, pre, none⟩) 4 (c - 0)), (.int .i64 0), (.bool false), (.int .i64 0), (.int .u64 0), (.int .i64 0), (.int .u64 0), (.int .u64 0)] 31 true), (3, 0, .cells [(.int .u64 bb), (.int .i64 lg), (.int .i64 m0), (.int .i64 m1), (.int .u64 (l.getD 0 0)), (.int .i64 0), (.int .i64 2), (.int .u64 (l.getD 0 0)), (.int .u64 (makeV (l.getD 0 0) m1))] 82 true), (2, 0, .cells [(.int .i64 m0), (.int .i64 m1)] 55 true), (1, 0, .cells [(.int .u64 bb), (.int .i64 lg)] 54 true), (0, 0, .tail pre .u64 l e)]⟩⟩
noncomputable def S165 (pre : Nat) (n : Nat) (c : Nat) (bb : Int) (lg : Int) (m0 : Int) (m1 : Int) (l : List Int) (e : TypeId) : KSt := ⟨(frameL 135 [(2, (.slice (some ⟨0, pre, none⟩) n c)), (3, (.pointer (some ⟨1, 0, none⟩))), (4, (.pointer (some ⟨2, 0, none⟩))), (7, (.pointer (some ⟨3, 0, none⟩))), (12, (.int .i64 4)), (13, (.pointer (some ⟨4, 0, none⟩)))]), ⟨5, 1, [(4, 0, .cells [(.slice (some ⟨0, (pre + 0), none⟩) 4 (c - 0)), (.int .i64 0), (.bool false), (.int .i64 0), (.int .u64 0), (.int .i64 0), (.int .u64 0), (.int .u64 0)] 31 true), (3, 0, .cells [(.int .u64 bb), (.int .i64 lg), (.int .i64 m0), (.int .i64 m1), (.int .u64 (l.getD 0 0)), (.int .i64 0), (.int .i64 2), (.int .u64 (l.getD 0 0)), (.int .u64 (makeV (l.getD 0 0) m1))] 82 true), (2, 0, .cells [(.int .i64 m0), (.int .i64 m1)] 55 true), (1, 0, .cells [(.int .u64 bb), (.int .i64 lg)] 54 true), (0, 0, .tail pre .u64 l e)]⟩⟩
theorem R140 (pre : Nat) (n : Nat) (c : Nat) (bb : Int) (lg : Int) (m0 : Int) (m1 : Int) (l : List Int) (e : TypeId) : evCK Try.prog cfgE (runK Try.prog cfgE fsE (conT grpDom grpE) 12 40) 12 (codeAt [1, 1, 1, 1, 0, 1, 0, 0, 1, 0, 0, 0] B) (S129 pre n c bb lg m0 m1 l e) (normC 1 [2, 3, 4, 7, 12, 13]) =
  if (0 : Int) ≤ 4 ∧ 4 ≤ ((c : Nat) : Int) then
    bif (true && (Nat.ble 4 c)) then
      bif (Nat.beq c 0) then
        some (.normal, (S164 pre n c bb lg m0 m1 l e))
      else
        some (.normal, (S165 pre n c bb lg m0 m1 l e))
    else
      none
  else
    none := by kernel_rfl
noncomputable def S166 (pre : Nat) (n : Nat) (c : Nat) (bb : Int) (lg : Int) (m0 : Int) (m1 : Int) (l : List Int) (e : TypeId) : KSt := ⟨(frameL 135 [(2, (.slice (some ⟨0, pre, none⟩) n c)), (3, (.pointer (some ⟨1, 0, none⟩))), (4, (.pointer (some ⟨2, 0, none⟩))), (7, (.pointer (some ⟨3, 0, none⟩))), (12, (.int .i64 4)), (13, (.pointer (some ⟨4, 0, none⟩))), (14, (.pointer (some ⟨5, 0, none⟩)))]), ⟨6, 1, [(5, 0, .cells [(.int .i64 1), (.int .u64 0), (.int .u64 0)] 63 true), (4, 0, .cells [(.slice (some ⟨0, (pre + 0), none⟩) 4 (c - 0)), (.int .i64 1), (.bool false), (.int .i64 0), (.int .u64 0), (.int .i64 0), (.int .u64 0), (.int .u64 0)] 31 true), (3, 0, .cells [(.int .u64 bb), (.int .i64 lg), (.int .i64 m0), (.int .i64 m1), (.int .u64 (l.getD 0 0)), (.int .i64 0), (.int .i64 2), (.int .u64 (l.getD 0 0)), (.int .u64 (makeV (l.getD 0 0) m1))] 82 true), (2, 0, .cells [(.int .i64 m0), (.int .i64 m1)] 55 true), (1, 0, .cells [(.int .u64 bb), (.int .i64 lg)] 54 true), (0, 0, .tail pre .u64 l e)]⟩⟩
noncomputable def S167 (pre : Nat) (n : Nat) (c : Nat) (n1 : Int) (m1 : Int) (bb : Int) (lg : Int) (m0 : Int) (l : List Int) (e : TypeId) : KSt := ⟨(frameL 135 [(2, (.slice (some ⟨0, pre, none⟩) n c)), (3, (.pointer (some ⟨1, 0, none⟩))), (4, (.pointer (some ⟨2, 0, none⟩))), (7, (.pointer (some ⟨3, 0, none⟩))), (12, (.int .i64 4)), (13, (.pointer (some ⟨4, 0, none⟩))), (14, (.pointer (some ⟨5, 0, none⟩)))]), ⟨6, 1, [(5, 0, .cells [(.int .i64 2), (.int .u64 n1), (.int .u64 (makeRV n1 m1))] 63 true), (4, 0, .cells [(.slice (some ⟨0, (pre + 0), none⟩) 4 (c - 0)), (.int .i64 3), (.bool false), (.int .i64 0), (.int .u64 0), (.int .i64 0), (.int .u64 0), (.int .u64 0)] 31 true), (3, 0, .cells [(.int .u64 bb), (.int .i64 lg), (.int .i64 m0), (.int .i64 m1), (.int .u64 (l.getD 0 0)), (.int .i64 0), (.int .i64 2), (.int .u64 (l.getD 0 0)), (.int .u64 (makeV (l.getD 0 0) m1))] 82 true), (2, 0, .cells [(.int .i64 m0), (.int .i64 m1)] 55 true), (1, 0, .cells [(.int .u64 bb), (.int .i64 lg)] 54 true), (0, 0, .tail pre .u64 l e)]⟩⟩
noncomputable def S168 (pre : Nat) (n : Nat) (c : Nat) (n3 : Int) (bb : Int) (lg : Int) (m0 : Int) (m1 : Int) (l : List Int) (e : TypeId) : KSt := ⟨(frameL 135 [(2, (.slice (some ⟨0, pre, none⟩) n c)), (3, (.pointer (some ⟨1, 0, none⟩))), (4, (.pointer (some ⟨2, 0, none⟩))), (7, (.pointer (some ⟨3, 0, none⟩))), (12, (.int .i64 4)), (13, (.pointer (some ⟨4, 0, none⟩))), (14, (.pointer (some ⟨5, 0, none⟩)))]), ⟨6, 1, [(5, 0, .cells [(.int .i64 3), (.int .u64 0), (.int .u64 n3)] 63 true), (4, 0, .cells [(.slice (some ⟨0, (pre + 0), none⟩) 4 (c - 0)), (.int .i64 4), (.bool false), (.int .i64 0), (.int .u64 0), (.int .i64 0), (.int .u64 0), (.int .u64 0)] 31 true), (3, 0, .cells [(.int .u64 bb), (.int .i64 lg), (.int .i64 m0), (.int .i64 m1), (.int .u64 (l.getD 0 0)), (.int .i64 0), (.int .i64 2), (.int .u64 (l.getD 0 0)), (.int .u64 (makeV (l.getD 0 0) m1))] 82 true), (2, 0, .cells [(.int .i64 m0), (.int .i64 m1)] 55 true), (1, 0, .cells [(.int .u64 bb), (.int .i64 lg)] 54 true), (0, 0, .tail pre .u64 l e)]⟩⟩
noncomputable def S169 (pre : Nat) (n : Nat) (c : Nat) (n5 : Int) (m1 : Int) (bb : Int) (lg : Int) (m0 : Int) (l : List Int) (e : TypeId) : KSt := ⟨(frameL 135 [(2, (.slice (some ⟨0, pre, none⟩) n c)), (3, (.pointer (some ⟨1, 0, none⟩))), (4, (.pointer (some ⟨2, 0, none⟩))), (7, (.pointer (some ⟨3, 0, none⟩))), (12, (.int .i64 4)), (13, (.pointer (some ⟨4, 0, none⟩))), (14, (.pointer (some ⟨5, 0, none⟩)))]), ⟨6, 1, [(5, 0, .cells [(.int .i64 2), (.int .u64 n5), (.int .u64 (makeRV n5 m1))] 63 true), (4, 0, .cells [(.slice (some ⟨0, (pre + 0), none⟩) 4 (c - 0)), (.int .i64 3), (.bool false), (.int .i64 0), (.int .u64 0), (.int .i64 0), (.int .u64 0), (.int .u64 0)] 31 true), (3, 0, .cells [(.int .u64 bb), (.int .i64 lg), (.int .i64 m0), (.int .i64 m1), (.int .u64 (l.getD 0 0)), (.int .i64 0), (.int .i64 2), (.int .u64 (l.getD 0 0)), (.int .u64 (makeV (l.getD 0 0) m1))] 82 true), (2, 0, .cells [(.int .i64 m0), (.int .i64 m1)] 55 true), (1, 0, .cells [(.int .u64 bb), (.int .i64 lg)] 54 true), (0, 0, .tail pre .u64 l e)]⟩⟩
noncomputable def S170 (pre : Nat) (n : Nat) (c : Nat) (n7 : Int) (bb : Int) (lg : Int) (m0 : Int) (m1 : Int) (l : List Int) (e : TypeId) : KSt := ⟨(frameL 135 [(2, (.slice (some ⟨0, pre, none⟩) n c)), (3, (.pointer (some ⟨1, 0, none⟩))), (4, (.pointer (some ⟨2, 0, none⟩))), (7, (.pointer (some ⟨3, 0, none⟩))), (12, (.int .i64 4)), (13, (.pointer (some ⟨4, 0, none⟩))), (14, (.pointer (some ⟨5, 0, none⟩)))]), ⟨6, 1, [(5, 0, .cells [(.int .i64 3), (.int .u64 0), (.int .u64 n7)] 63 true), (4, 0, .cells [(.slice (some ⟨0, (pre + 0), none⟩) 4 (c - 0)), (.int .i64 4), (.bool false), (.int .i64 0), (.int .u64 0), (.int .i64 0), (.int .u64 0), (.int .u64 0)] 31 true), (3, 0, .cells [(.int .u64 bb), (.int .i64 lg), (.int .i64 m0), (.int .i64 m1), (.int .u64 (l.getD 0 0)), (.int .i64 0), (.int .i64 2), (.int .u64 (l.getD 0 0)), (.int .u64 (makeV (l.getD 0 0) m1))] 82 true), (2, 0, .cells [(.int .i64 m0), (.int .i64 m1)] 55 true), (1, 0, .cells [(.int .u64 bb), (.int .i64 lg)] 54 true), (0, 0, .tail pre .u64 l e)]⟩⟩
theorem R141 (pre : Nat) (n : Nat) (c : Nat) (bb : Int) (lg : Int) (m0 : Int) (m1 : Int) (l : List Int) (e : TypeId) : evCK Try.prog cfgE (runK Try.prog cfgE fsE (conT grpDom grpE) 12 40) 12 (codeAt [1, 1, 1, 1, 0, 1, 0, 0, 1, 0, 0, 1, 0] B) (S165 pre n c bb lg m0 m1 l e) (normC 1 [2, 3, 4, 7, 12, 13, 14]) =
  bif ((groupsV m0) == 0) then
    bif (Nat.ble pre ((pre + 0) + 0)) then
      obind (l[(((pre + 0) + 0) - pre)]?) fun n1 =>
        bif (n1 == 0) then
          some (.normal, (S166 pre n c bb lg m0 m1 l e))
        else
          bif (Nat.ble pre ((pre + 0) + 1)) then
            obind (l[(((pre + 0) + 1) - pre)]?) fun n2 =>
              bif (Nat.ble pre ((pre + 0) + 2)) then
                obind (l[(((pre + 0) + 2) - pre)]?) fun n3 =>
                  bif (n3 == 0) then
                    some (.normal, (S167 pre n c n1 m1 bb lg m0 l e))
                  else
                    bif (Nat.ble pre ((pre + 0) + 3)) then
                      obind (l[(((pre + 0) + 3) - pre)]?) fun n4 =>
                        some (.normal, (S168 pre n c n3 bb lg m0 m1 l e))
                    else
                      none
              else
                none
          else
            none
    else
      none
  else
    bif (Nat.ble pre ((pre + 0) + 0)) then
      obind (l[(((pre + 0) + 0) - pre)]?) fun n5 =>
        bif (n5 == 0) then
          some (.normal, (S166 pre n c bb lg m0 m1 l e))
        else
          bif (Nat.ble pre ((pre + 0) + 1)) then
            obind (l[(((pre + 0) + 1) - pre)]?) fun n6 =>
              bif (Nat.ble pre ((pre + 0) + 2)) then
                obind (l[(((pre + 0) + 2) - pre)]?) fun n7 =>
                  bif (n7 == 0) then
                    some (.normal, (S169 pre n c n5 m1 bb lg m0 l e))
                  else
                    bif (Nat.ble pre ((pre + 0) + 3)) then
                      obind (l[(((pre + 0) + 3) - pre)]?) fun n8 =>
                        some (.normal, (S170 pre n c n7 bb lg m0 m1 l e))
                    else
                      none
              else
                none
          else
            none
    else
      none := by kernel_rfl
noncomputable def S171 (pre : Nat) (n : Nat) (c : Nat) (l : List Int) (m1 : Int) (bb : Int) (lg : Int) (m0 : Int) (e : TypeId) : KSt := ⟨(frameL 135 [(2, (.slice (some ⟨0, pre, none⟩) n c)), (3, (.pointer (some ⟨1, 0, none⟩))), (4, (.pointer (some ⟨2, 0, none⟩))), (7, (.pointer (some ⟨3, 0, none⟩))), (12, (.int .i64 4)), (13, (.pointer (some ⟨4, 0, none⟩))), (14, (.pointer (some ⟨5, 0, none⟩)))]), ⟨6, 1, [(5, 0, .cells [(.int .i64 2), (.int .u64 (l.getD 0 0)), (.int .u64 (makeV (l.getD 0 0) m1))] 63 true), (4, 0, .cells [(.slice (some ⟨0, (pre + 0), none⟩) 4 (c - 0)), (.int .i64 3), (.bool false), (.int .i64 0), (.int .u64 0), (.int .i64 0), (.int .u64 0), (.int .u64 0)] 31 true), (3, 0, .cells [(.int .u64 bb), (.int .i64 lg), (.int .i64 m0), (.int .i64 m1), (.int .u64 (l.getD 0 0)), (.int .i64 0), (.int .i64 2), (.int .u64 (l.getD 0 0)), (.int .u64 (makeV (l.getD 0 0) m1))] 82 true), (2, 0, .cells [(.int .i64 m0), (.int .i64 m1)] 55 true), (1, 0, .cells [(.int .u64 bb), (.int .i64 lg)] 54 true), (0, 0, .tail pre .u64 l e)]⟩⟩
noncomputable def S172 (pre : Nat) (n : Nat) (c : Nat) (l : List Int) (m1 : Int) (bb : Int) (lg : Int) (m0 : Int) (e : TypeId) : KSt := ⟨(frameL 135 [(2, (.slice (some ⟨0, pre, none⟩) n c)), (3, (.pointer (some ⟨1, 0, none⟩))), (4, (.pointer (some ⟨2, 0, none⟩))), (7, (.pointer (some ⟨3, 0, none⟩))), (12, (.int .i64 4)), (13, (.pointer (some ⟨4, 0, none⟩))), (14, (.pointer (some ⟨5, 0, none⟩)))]), ⟨6, 1, [(5, 0, .cells [(.int .i64 2), (.int .u64 (l.getD 0 0)), (.int .u64 (makeRV (l.getD 0 0) m1))] 63 true), (4, 0, .cells [(.slice (some ⟨0, (pre + 0), none⟩) 4 (c - 0)), (.int .i64 3), (.bool false), (.int .i64 0), (.int .u64 0), (.int .i64 0), (.int .u64 0), (.int .u64 0)] 31 true), (3, 0, .cells [(.int .u64 bb), (.int .i64 lg), (.int .i64 m0), (.int .i64 m1), (.int .u64 (l.getD 0 0)), (.int .i64 0), (.int .i64 2), (.int .u64 (l.getD 0 0)), (.int .u64 (makeV (l.getD 0 0) m1))] 82 true), (2, 0, .cells [(.int .i64 m0), (.int .i64 m1)] 55 true), (1, 0, .cells [(.int .u64 bb), (.int .i64 lg)] 54 true), (0, 0, .tail pre .u64 l e)]⟩⟩
noncomputable def S173 (pre : Nat) (n : Nat) (c : Nat) (l : List Int) (m1 : Int) (bb : Int) (lg : Int) (m0 : Int) (e : TypeId) : KSt := ⟨(frameL 135 [(2, (.slice (some ⟨0, pre, none⟩) n c)), (3, (.pointer (some ⟨1, 0, none⟩))), (4, (.pointer (some ⟨2, 0, none⟩))), (7, (.pointer (some ⟨3, 0, none⟩))), (12, (.int .i64 4)), (13, (.pointer (some ⟨4, 0, none⟩))), (14, (.pointer (some ⟨5, 0, none⟩))), (15, (.pointer (some ⟨6, 0, none⟩))), (16, (.bool false))]), ⟨7, 1, [(6, 0, .cells [(.int .i64 0), (.int .u64 0), (.int .u64 0)] 60 true), (5, 0, .cells [(.int .i64 2), (.int .u64 (l.getD 0 0)), (.int .u64 (makeV (l.getD 0 0) m1))] 63 true), (4, 0, .cells [(.slice (some ⟨0, (pre + 0), none⟩) 4 (c - 0)), (.int .i64 3), (.bool false), (.int .i64 0), (.int .u64 0), (.int .i64 0), (.int .u64 0), (.int .u64 0)] 31 true), (3, 0, .cells [(.int .u64 bb), (.int .i64 lg), (.int .i64 m0), (.int .i64 m1), (.int .u64 (l.getD 0 0)), (.int .i64 0), (.int .i64 2), (.int .u64 (l.getD 0 0)), (.int .u64 (makeV (l.getD 0 0) m1))] 82 true), (2, 0, .cells [(.int .i64 m0), (.int .i64 m1)] 55 true), (1, 0, .cells [(.int .u64 bb), (.int .i64 lg)] 54 true), (0, 0, .tail pre .u64 l e)]⟩⟩
noncomputable def S174 (pre : Nat) (n : Nat) (c : Nat) (l : List Int) (m1 : Int) (bb : Int) (lg : Int) (m0 : Int) (e : TypeId) : KSt := ⟨(frameL 135 [(2, (.slice (some ⟨0, pre, none⟩) n c)), (3, (.pointer (some ⟨1, 0, none⟩))), (4, (.pointer (some ⟨2, 0, none⟩))), (7, (.pointer (some ⟨3, 0, none⟩))), (12, (.int .i64 4)), (13, (.pointer (some ⟨4, 0, none⟩))), (14, (.pointer (some ⟨5, 0, none⟩))), (15, (.pointer (some ⟨6, 0, none⟩))), (16, (.bool true))]), ⟨7, 1, [(6, 0, .cells [(.int .i64 2), (.int .u64 (l.getD 0 0)), (.int .u64 (makeV (l.getD 0 0) m1))] 60 true), (5, 0, .cells [(.int .i64 2), (.int .u64 (l.getD 0 0)), (.int .u64 (makeV (l.getD 0 0) m1))] 63 true), (4, 0, .cells [(.slice (some ⟨0, (pre + 0), none⟩) 4 (c - 0)), (.int .i64 3), (.bool false), (.int .i64 0), (.int .u64 0), (.int .i64 0), (.int .u64 0), (.int .u64 0)] 31 true), (3, 0, .cells [(.int .u64 bb), (.int .i64 lg), (.int .i64 m0), (.int .i64 m1), (.int .u64 (l.getD 0 0)), (.int .i64 0), (.int .i64 2), (.int .u64 (l.getD 0 0)), (.int .u64 (makeV (l.getD 0 0) m1))] 82 true), (2, 0, .cells [(.int .i64 m0), (.int .i64 m1)] 55 true), (1, 0, .cells [(.int .u64 bb), (.int .i64 lg)] 54 true), (0, 0, .tail pre .u64 l e)]⟩⟩
theorem R142 (pre : Nat) (n : Nat) (c : Nat) (l : List Int) (m1 : Int) (bb : Int) (lg : Int) (m0 : Int) (e : TypeId) : evCK Try.prog cfgE (runK Try.prog cfgE fsE (conT grpDom grpE) 12 40) 12 (codeAt [1, 1, 1, 1, 0, 1, 0, 0, 1, 0, 0, 1, 1, 0] B) (S171 pre n c l m1 bb lg m0 e) (normC 1 [2, 3, 4, 7, 12, 13, 14, 15, 16]) =
  bif (false && (((l.getD 0 0) == 0) && (((makeV (l.getD 0 0) m1) == 0) && true))) then
    some (.normal, (S173 pre n c l m1 bb lg m0 e))
  else
    some (.normal, (S174 pre n c l m1 bb lg m0 e)) := by kernel_rfl
noncomputable def S175 (pre : Nat) (n : Nat) (c : Nat) (l : List Int) (m1 : Int) (bb : Int) (lg : Int) (m0 : Int) (e : TypeId) : KSt := ⟨(frameL 135 [(2, (.slice (some ⟨0, pre, none⟩) n c)), (3, (.pointer (some ⟨1, 0, none⟩))), (4, (.pointer (some ⟨2, 0, none⟩))), (7, (.pointer (some ⟨3, 0, none⟩))), (12, (.int .i64 4)), (13, (.pointer (some ⟨4, 0, none⟩))), (14, (.pointer (some ⟨5, 0, none⟩))), (15, (.pointer (some ⟨6, 0, none⟩))), (16, (.bool true)), (17, (.pointer (some ⟨7, 0, none⟩))), (18, (.bool false))]), ⟨8, 1, [(7, 0, .cells [(.int .i64 0), (.int .u64 0), (.int .i64 0), (.int .u64 0), (.int .u64 0)] 29 true), (6, 0, .cells [(.int .i64 2), (.int .u64 (l.getD 0 0)), (.int .u64 (makeV (l.getD 0 0) m1))] 60 true), (5, 0, .cells [(.int .i64 2), (.int .u64 (l.getD 0 0)), (.int .u64 (makeV (l.getD 0 0) m1))] 63 true), (4, 0, .cells [(.slice (some ⟨0, (pre + 0), none⟩) 4 (c - 0)), (.int .i64 3), (.bool false), (.int .i64 0), (.int .u64 0), (.int .i64 0), (.int .u64 0), (.int .u64 0)] 31 true), (3, 0, .cells [(.int .u64 bb), (.int .i64 lg), (.int .i64 m0), (.int .i64 m1), (.int .u64 (l.getD 0 0)), (.int .i64 0), (.int .i64 2), (.int .u64 (l.getD 0 0)), (.int .u64 (makeV (l.getD 0 0) m1))] 82 true), (2, 0, .cells [(.int .i64 m0), (.int .i64 m1)] 55 true), (1, 0, .cells [(.int .u64 bb), (.int .i64 lg)] 54 true), (0, 0, .tail pre .u64 l e)]⟩⟩
theorem R143 (pre : Nat) (n : Nat) (c : Nat) (l : List Int) (m1 : Int) (bb : Int) (lg : Int) (m0 : Int) (e : TypeId) : evCK Try.prog cfgE (runK Try.prog cfgE fsE (conT grpDom grpE) 12 40) 12 (codeAt [1, 1, 1, 1, 0, 1, 0, 0, 1, 0, 0, 1, 1, 1, 0] B) (S174 pre n c l m1 bb lg m0 e) (normC 1 [2, 3, 4, 7, 12, 13, 14, 15, 16, 17, 18]) =
  some (.normal, (S175 pre n c l m1 bb lg m0 e)) := by kernel_rfl
noncomputable def S176 (pre : Nat) (n : Nat) (c : Nat) (bb : Int) (lg : Int) (m0 : Int) (m1 : Int) (l : List Int) (e : TypeId) : KSt := ⟨(frameL 135 [(2, (.slice (some ⟨0, pre, none⟩) n c)), (3, (.pointer (some ⟨1, 0, none⟩))), (4, (.pointer (some ⟨2, 0, none⟩))), (7, (.pointer (some ⟨3, 0, none⟩))), (12, (.int .i64 4)), (123, (.bool true))]), ⟨4, 1, [(3, 0, .cells [(.int .u64 bb), (.int .i64 lg), (.int .i64 m0), (.int .i64 m1), (.int .u64 (l.getD 0 0)), (.int .i64 0), (.int .i64 2), (.int .u64 (l.getD 0 0)), (.int .u64 (makeV (l.getD 0 0) m1))] 82 true), (2, 0, .cells [(.int .i64 m0), (.int .i64 m1)] 55 true), (1, 0, .cells [(.int .u64 bb), (.int .i64 lg)] 54 true), (0, 0, .tail pre .u64 l e)]⟩⟩
noncomputable def S177 (pre : Nat) (n : Nat) (c : Nat) (bb : Int) (lg : Int) (m0 : Int) (m1 : Int) (l : List Int) (e : TypeId) : KSt := ⟨(frameL 135 [(2, (.slice (some ⟨0, pre, none⟩) n c)), (3, (.pointer (some ⟨1, 0, none⟩))), (4, (.pointer (some ⟨2, 0, none⟩))), (7, (.pointer (some ⟨3, 0, none⟩))), (12, (.int .i64 4)), (123, (.bool false))]), ⟨4, 1, [(3, 0, .cells [(.int .u64 bb), (.int .i64 lg), (.int .i64 m0), (.int .i64 m1), (.int .u64 (l.getD 0 0)), (.int .i64 0), (.int .i64 2), (.int .u64 (l.getD 0 0)), (.int .u64 (makeV (l.getD 0 0) m1))] 82 true), (2, 0, .cells [(.int .i64 m0), (.int .i64 m1)] 55 true), (1, 0, .cells [(.int .u64 bb), (.int .i64 lg)] 54 true), (0, 0, .tail pre .u64 l e)]⟩⟩
theorem R144 (pre : Nat) (n : Nat) (c : Nat) (l : List Int) (m1 : Int) (bb : Int) (lg : Int) (m0 : Int) (e : TypeId) : evCK Try.prog cfgE (runK Try.prog cfgE fsE (conT grpDom grpE) 12 40) 12 (codeAt [1, 1, 1, 1, 0, 1, 0, 0, 1, 0, 0, 1, 1, 1, 1, 0, 0] B) (S175 pre n c l m1 bb lg m0 e) (normC 1 [2, 3, 4, 7, 12, 123]) =
  bif (!(true && (((l.getD 0 0) == (l.getD 0 0)) && (((makeV (l.getD 0 0) m1) == (makeV (l.getD 0 0) m1)) && true)))) then
    some (.normal, (S176 pre n c bb lg m0 m1 l e))
  else
    some (.normal, (S177 pre n c bb lg m0 m1 l e)) := by kernel_rfl
theorem R145 (pre : Nat) (n : Nat) (c : Nat) (bb : Int) (lg : Int) (m0 : Int) (m1 : Int) (l : List Int) (e : TypeId) : evCK Try.prog cfgE (runK Try.prog cfgE fsE (conT grpDom grpE) 12 40) 12 (codeAt [1, 1, 1, 1, 0, 1, 0, 0, 1, 0, 0, 1, 1, 1, 1, 0, 1, 1] B) (S177 pre n c bb lg m0 m1 l e) (normC 1 [2, 3, 4, 7, 12]) =
  some (.normal, (S129 pre n c bb lg m0 m1 l e)) := by kernel_rfl
noncomputable def S178 (pre : Nat) (n : Nat) (c : Nat) (bb : Int) (lg : Int) (m0 : Int) (m1 : Int) (l : List Int) (e : TypeId) : KSt := ⟨(frameL 135 [(2, (.slice (some ⟨0, pre, none⟩) n c)), (3, (.pointer (some ⟨1, 0, none⟩))), (4, (.pointer (some ⟨2, 0, none⟩))), (7, (.pointer (some ⟨3, 0, none⟩))), (12, (.int .i64 4)), (127, (.bool (decide (4 < ((n : Nat) : Int)))))]), ⟨4, 1, [(3, 0, .cells [(.int .u64 bb), (.int .i64 lg), (.int .i64 m0), (.int .i64 m1), (.int .u64 (l.getD 0 0)), (.int .i64 0), (.int .i64 2), (.int .u64 (l.getD 0 0)), (.int .u64 (makeV (l.getD 0 0) m1))] 82 true), (2, 0, .cells [(.int .i64 m0), (.int .i64 m1)] 55 true), (1, 0, .cells [(.int .u64 bb), (.int .i64 lg)] 54 true), (0, 0, .tail pre .u64 l e)]⟩⟩
theorem R146 (pre : Nat) (n : Nat) (c : Nat) (bb : Int) (lg : Int) (m0 : Int) (m1 : Int) (l : List Int) (e : TypeId) : evCK Try.prog cfgE (runK Try.prog cfgE fsE (conT grpDom grpE) 12 40) 12 (codeAt [1, 1, 1, 1, 0, 1, 0, 0, 1, 0, 0, 1, 1, 1, 1, 1, 0] B) (S129 pre n c bb lg m0 m1 l e) (normC 1 [2, 3, 4, 7, 12, 127]) =
  some (.normal, (S178 pre n c bb lg m0 m1 l e)) := by kernel_rfl
theorem R147 (pre : Nat) (n : Nat) (c : Nat) (bb : Int) (lg : Int) (m0 : Int) (m1 : Int) (l : List Int) (e : TypeId) : evCK Try.prog cfgE (runK Try.prog cfgE fsE (conT grpDom grpE) 12 40) 12 (codeAt [1, 1, 1, 1, 0, 1, 0, 0, 1, 0, 0, 1, 1, 1, 1, 1, 1, 0] B) (S178 pre n c bb lg m0 m1 l e) (normC 1 [2, 3, 4, 7, 12]) =
  if (0 : Int) ≤ 4 ∧ 4 < ((n : Nat) : Int) then
    bif (Nat.ble pre (pre + 4)) then
      obind (l[((pre + 4) - pre)]?) fun n1 =>
        some (.normal, (S129 pre n c bb lg m0 m1 l e))
    else
      none
  else
    none := by kernel_rfl
noncomputable def S179 (pre : Nat) (n : Nat) (c : Nat) (bb : Int) (lg : Int) (m0 : Int) (m1 : Int) (l : List Int) (e : TypeId) : KSt := ⟨(frameL 135 [(2, (.slice (some ⟨0, pre, none⟩) n c)), (3, (.pointer (some ⟨1, 0, none⟩))), (4, (.pointer (some ⟨2, 0, none⟩))), (7, (.pointer (some ⟨3, 0, none⟩))), (12, (.int .i64 5))]), ⟨4, 1, [(3, 0, .cells [(.int .u64 bb), (.int .i64 lg), (.int .i64 m0), (.int .i64 m1), (.int .u64 (l.getD 0 0)), (.int .i64 0), (.int .i64 2), (.int .u64 (l.getD 0 0)), (.int .u64 (makeV (l.getD 0 0) m1))] 82 true), (2, 0, .cells [(.int .i64 m0), (.int .i64 m1)] 55 true), (1, 0, .cells [(.int .u64 bb), (.int .i64 lg)] 54 true), (0, 0, .tail pre .u64 l e)]⟩⟩
theorem R148 (pre : Nat) (n : Nat) (c : Nat) (bb : Int) (lg : Int) (m0 : Int) (m1 : Int) (l : List Int) (e : TypeId) : evCK Try.prog cfgE (runK Try.prog cfgE fsE (conT grpDom grpE) 12 40) 12 (codeAt [1, 1, 1, 1, 0, 1, 0, 0, 1, 1] B) (S129 pre n c bb lg m0 m1 l e) (normC 1 [2, 3, 4, 7, 12]) =
  some (.normal, (S179 pre n c bb lg m0 m1 l e)) := by kernel_rfl
theorem lp13m_35 (bb lg m0 m1 g gl : Int) (i : Int) (pre n c : Nat) (l : List Int) (e : TypeId) (hb : 0 ≤ bb) (hm : -9223372036854775808 ≤ m1 ∧ m1 < 9223372036854775808) (hg : groupsV m0 = g) (hg1 : 0 ≤ g) (hg2 : g ≤ 512) (hgl : groupsV lg = gl) (hgl1 : 0 ≤ gl) (hn20 : n ≤ 20) (hc : n ≤ c) (hc2 : c ≤ 9223372036854775807) (hl : l.length = c) (hc0 : 0 < c) (h1 : bb ≠ 0) (h2 : 0 < gl) (h3 : 0 < g) (hn : 4 < (n : Int))  (q1 : ((l.getD 0 0) == 0) = false) (q2 : ((l.getD 2 0) == 0) = true) {Q : Ex → St → Prop} (hq : Q .normal (KSt.low (S179 pre n c bb lg m0 m1 l e))) : Gets Try.prog (KH.low ⟨1, 1, [(0, 0, .tail pre .u64 l e)]⟩) (codeAt [1, 1, 1, 1, 0, 1, 0, 0] B) (KSt.low (S129 pre n c bb lg m0 m1 l e)) Q := by
  rw [C1_1_1_1_0_1_0_0]; refine Gets.seq ?_
  rw [C1_1_1_1_0_1_0_0_0]; refine Gets.seq ?_
  refine Gets.ofN fitE grp_sound (conT_agree _ _) 12 40 (by kernel_rfl) (x := .normal) (s' := (S163 pre n c bb lg m0 m1 l e)) (R138 pre n c bb lg m0 m1 l e) ?_
  show Gets _ _ (codeAt [1, 1, 1, 1, 0, 1, 0, 0, 0, 1] B) _ _
  rw [C1_1_1_1_0_1_0_0_0_1]; refine Gets.cond true (by kernel_rfl) ((show evalX (KSt.ts (S163 pre n c bb lg m0 m1 l e)) (.tmp 60) = .bool (decide (4 ≤ ((n : Nat) : Int))) by kernel_rfl).trans (by rw [(show (decide (4 ≤ ((n : Nat) : Int))) = true from decide_eq_true (by omega))])) ?_; show Gets _ _ (codeAt [1, 1, 1, 1, 0, 1, 0, 0, 0, 1, 0] B) _ _
  refine Gets.ofN fitE grp_sound (conT_agree _ _) 12 40 (by kernel_rfl) (x := .normal) (s' := (S129 pre n c bb lg m0 m1 l e)) (R139 pre n c bb lg m0 m1 l e) ?_
  show Gets _ _ (codeAt [1, 1, 1, 1, 0, 1, 0, 0, 1] B) _ _
  rw [C1_1_1_1_0_1_0_0_1]; refine Gets.seq ?_
  rw [C1_1_1_1_0_1_0_0_1_0]; refine Gets.block ?_
  rw [C1_1_1_1_0_1_0_0_1_0_0]; refine Gets.seq ?_
  refine Gets.ofN fitE grp_sound (conT_agree _ _) 12 40 (by kernel_rfl) (x := .normal) (s' := (S165 pre n c bb lg m0 m1 l e)) ((R140 pre n c bb lg m0 m1 l e).trans (by rw [if_pos (⟨by omega, by omega⟩), condT (and_t (rfl) (ble_t (by omega))), condF (nbeq_f (by omega))])) ?_
  show Gets _ _ (codeAt [1, 1, 1, 1, 0, 1, 0, 0, 1, 0, 0, 1] B) _ _
  rw [C1_1_1_1_0_1_0_0_1_0_0_1]; refine Gets.seq ?_
  refine Gets.ofN fitE grp_sound (conT_agree _ _) 12 40 (by kernel_rfl) (x := .normal) (s' := (S171 pre n c l m1 bb lg m0 e)) ((R141 pre n c bb lg m0 m1 l e).trans (by rw [condF (ibeq_f (by ((try simp (disch := omega) only [hg, hgl, wrap_i64_id]) <;> omega))), condT (ble_t (by omega)), obind_at (k := 0) (by omega) (by omega), condF (q1), condT (ble_t (by omega)), obind_at (k := 1) (by omega) (by omega), condT (ble_t (by omega)), obind_at (k := 2) (by omega) (by omega), condT (q2)] <;> (show some (Ex.normal, (S172 pre n c l m1 bb lg m0 e)) = some (Ex.normal, (S171 pre n c l m1 bb lg m0 e)); unfold S172 S171; rw [(show (makeRV (l.getD 0 0) m1) = (makeV (l.getD 0 0) m1) from makeRV_eq hm)]))) ?_
  show Gets _ _ (codeAt [1, 1, 1, 1, 0, 1, 0, 0, 1, 0, 0, 1, 1] B) _ _
  rw [C1_1_1_1_0_1_0_0_1_0_0_1_1]; refine Gets.seq ?_
  refine Gets.ofN fitE grp_sound (conT_agree _ _) 12 40 (by kernel_rfl) (x := .normal) (s' := (S174 pre n c l m1 bb lg m0 e)) ((R142 pre n c l m1 bb lg m0 e).trans (by rw [condF (and_f1 (rfl))])) ?_
  show Gets _ _ (codeAt [1, 1, 1, 1, 0, 1, 0, 0, 1, 0, 0, 1, 1, 1] B) _ _
  rw [C1_1_1_1_0_1_0_0_1_0_0_1_1_1]; refine Gets.seq ?_
  refine Gets.ofN fitE grp_sound (conT_agree _ _) 12 40 (by kernel_rfl) (x := .normal) (s' := (S175 pre n c l m1 bb lg m0 e)) (R143 pre n c l m1 bb lg m0 e) ?_
  show Gets _ _ (codeAt [1, 1, 1, 1, 0, 1, 0, 0, 1, 0, 0, 1, 1, 1, 1] B) _ _
  rw [C1_1_1_1_0_1_0_0_1_0_0_1_1_1_1]; refine Gets.seq ?_
  rw [C1_1_1_1_0_1_0_0_1_0_0_1_1_1_1_0]; refine Gets.seq ?_
  refine Gets.ofN fitE grp_sound (conT_agree _ _) 12 40 (by kernel_rfl) (x := .normal) (s' := (S177 pre n c bb lg m0 m1 l e)) ((R144 pre n c l m1 bb lg m0 e).trans (by rw [condF (not_f (and_t (rfl) (and_t (beq_self_eq_true _) (and_t (beq_self_eq_true _) (rfl)))))])) ?_
  show Gets _ _ (codeAt [1, 1, 1, 1, 0, 1, 0, 0, 1, 0, 0, 1, 1, 1, 1, 0, 1] B) _ _
  rw [C1_1_1_1_0_1_0_0_1_0_0_1_1_1_1_0_1]; refine Gets.cond false (by kernel_rfl) (show evalX (KSt.ts (S177 pre n c bb lg m0 m1 l e)) (.tmp 123) = .bool false by kernel_rfl) ?_; show Gets _ _ (codeAt [1, 1, 1, 1, 0, 1, 0, 0, 1, 0, 0, 1, 1, 1, 1, 0, 1, 1] B) _ _
  refine Gets.ofN fitE grp_sound (conT_agree _ _) 12 40 (by kernel_rfl) (x := .normal) (s' := (S129 pre n c bb lg m0 m1 l e)) (R145 pre n c bb lg m0 m1 l e) ?_
  show Gets _ _ (codeAt [1, 1, 1, 1, 0, 1, 0, 0, 1, 0, 0, 1, 1, 1, 1, 1] B) _ _
  rw [C1_1_1_1_0_1_0_0_1_0_0_1_1_1_1_1]; refine Gets.seq ?_
  refine Gets.ofN fitE grp_sound (conT_agree _ _) 12 40 (by kernel_rfl) (x := .normal) (s' := (S178 pre n c bb lg m0 m1 l e)) (R146 pre n c bb lg m0 m1 l e) ?_
  show Gets _ _ (codeAt [1, 1, 1, 1, 0, 1, 0, 0, 1, 0, 0, 1, 1, 1, 1, 1, 1] B) _ _
  rw [C1_1_1_1_0_1_0_0_1_0_0_1_1_1_1_1_1]; refine Gets.cond true (by kernel_rfl) ((show evalX (KSt.ts (S178 pre n c bb lg m0 m1 l e)) (.tmp 127) = .bool (decide (4 < ((n : Nat) : Int))) by kernel_rfl).trans (by rw [(show (decide (4 < ((n : Nat) : Int))) = true from decide_eq_true (by omega))])) ?_; show Gets _ _ (codeAt [1, 1, 1, 1, 0, 1, 0, 0, 1, 0, 0, 1, 1, 1, 1, 1, 1, 0] B) _ _
  refine Gets.ofN fitE grp_sound (conT_agree _ _) 12 40 (by kernel_rfl) (x := .normal) (s' := (S129 pre n c bb lg m0 m1 l e)) ((R147 pre n c bb lg m0 m1 l e).trans (by rw [if_pos (⟨by omega, by omega⟩), condT (ble_t (by omega)), obind_at (k := 4) (by omega) (by omega)] <;> rfl)) ?_
  show Gets _ _ (codeAt [1, 1, 1, 1, 0, 1, 0, 0, 1, 1] B) _ _
  refine Gets.ofN fitE grp_sound (conT_agree _ _) 12 40 (by kernel_rfl) (x := .normal) (s' := (S179 pre n c bb lg m0 m1 l e)) (R148 pre n c bb lg m0 m1 l e) ?_
  exact hq
theorem R149 (pre : Nat) (n : Nat) (c : Nat) (bb : Int) (lg : Int) (m0 : Int) (m1 : Int) (l : List Int) (e : TypeId) : evCK Try.prog cfgE (runK Try.prog cfgE fsE (conT grpDom grpE) 12 40) 12 (codeAt [1, 1, 1, 1, 0, 1, 0, 0, 1, 0, 0, 1, 1, 1, 1, 1, 1, 1] B) (S178 pre n c bb lg m0 m1 l e) (normC 1 [2, 3, 4, 7, 12]) =
  some (.normal, (S129 pre n c bb lg m0 m1 l e)) := by kernel_rfl
theorem lp13e_36 (bb lg m0 m1 g gl : Int) (i : Int) (pre n c : Nat) (l : List Int) (e : TypeId) (hb : 0 ≤ bb) (hm : -9223372036854775808 ≤ m1 ∧ m1 < 9223372036854775808) (hg : groupsV m0 = g) (hg1 : 0 ≤ g) (hg2 : g ≤ 512) (hgl : groupsV lg = gl) (hgl1 : 0 ≤ gl) (hn20 : n ≤ 20) (hc : n ≤ c) (hc2 : c ≤ 9223372036854775807) (hl : l.length = c) (hc0 : 0 < c) (h1 : bb ≠ 0) (h2 : 0 < gl) (h3 : 0 < g) (hn : 4 = (n : Int))  (q1 : ((l.getD 0 0) == 0) = false) (q2 : ((l.getD 2 0) == 0) = true) {Q : Ex → St → Prop} (hq : Q .normal (KSt.low (S179 pre n c bb lg m0 m1 l e))) : Gets Try.prog (KH.low ⟨1, 1, [(0, 0, .tail pre .u64 l e)]⟩) (codeAt [1, 1, 1, 1, 0, 1, 0, 0] B) (KSt.low (S129 pre n c bb lg m0 m1 l e)) Q := by
  rw [C1_1_1_1_0_1_0_0]; refine Gets.seq ?_
  rw [C1_1_1_1_0_1_0_0_0]; refine Gets.seq ?_
  refine Gets.ofN fitE grp_sound (conT_agree _ _) 12 40 (by kernel_rfl) (x := .normal) (s' := (S163 pre n c bb lg m0 m1 l e)) (R138 pre n c bb lg m0 m1 l e) ?_
  show Gets _ _ (codeAt [1, 1, 1, 1, 0, 1, 0, 0, 0, 1] B) _ _
  rw [C1_1_1_1_0_1_0_0_0_1]; refine Gets.cond true (by kernel_rfl) ((show evalX (KSt.ts (S163 pre n c bb lg m0 m1 l e)) (.tmp 60) = .bool (decide (4 ≤ ((n : Nat) : Int))) by kernel_rfl).trans (by rw [(show (decide (4 ≤ ((n : Nat) : Int))) = true from decide_eq_true (by omega))])) ?_; show Gets _ _ (codeAt [1, 1, 1, 1, 0, 1, 0, 0, 0, 1, 0] B) _ _
  refine Gets.ofN fitE grp_sound (conT_agree _ _) 12 40 (by kernel_rfl) (x := .normal) (s' := (S129 pre n c bb lg m0 m1 l e)) (R139 pre n c bb lg m0 m1 l e) ?_
  show Gets _ _ (codeAt [1, 1, 1, 1, 0, 1, 0, 0, 1] B) _ _
  rw [C1_1_1_1_0_1_0_0_1]; refine Gets.seq ?_
  rw [C1_1_1_1_0_1_0_0_1_0]; refine Gets.block ?_
  rw [C1_1_1_1_0_1_0_0_1_0_0]; refine Gets.seq ?_
  refine Gets.ofN fitE grp_sound (conT_agree _ _) 12 40 (by kernel_rfl) (x := .normal) (s' := (S165 pre n c bb lg m0 m1 l e)) ((R140 pre n c bb lg m0 m1 l e).trans (by rw [if_pos (⟨by omega, by omega⟩), condT (and_t (rfl) (ble_t (by omega))), condF (nbeq_f (by omega))])) ?_
  show Gets _ _ (codeAt [1, 1, 1, 1, 0, 1, 0, 0, 1, 0, 0, 1] B) _ _
  rw [C1_1_1_1_0_1_0_0_1_0_0_1]; refine Gets.seq ?_
  refine Gets.ofN fitE grp_sound (conT_agree _ _) 12 40 (by kernel_rfl) (x := .normal) (s' := (S171 pre n c l m1 bb lg m0 e)) ((R141 pre n c bb lg m0 m1 l e).trans (by rw [condF (ibeq_f (by ((try simp (disch := omega) only [hg, hgl, wrap_i64_id]) <;> omega))), condT (ble_t (by omega)), obind_at (k := 0) (by omega) (by omega), condF (q1), condT (ble_t (by omega)), obind_at (k := 1) (by omega) (by omega), condT (ble_t (by omega)), obind_at (k := 2) (by omega) (by omega), condT (q2)] <;> (show some (Ex.normal, (S172 pre n c l m1 bb lg m0 e)) = some (Ex.normal, (S171 pre n c l m1 bb lg m0 e)); unfold S172 S171; rw [(show (makeRV (l.getD 0 0) m1) = (makeV (l.getD 0 0) m1) from makeRV_eq hm)]))) ?_
  show Gets _ _ (codeAt [1, 1, 1, 1, 0, 1, 0, 0, 1, 0, 0, 1, 1] B) _ _
  rw [C1_1_1_1_0_1_0_0_1_0_0_1_1]; refine Gets.seq ?_
  refine Gets.ofN fitE grp_sound (conT_agree _ _) 12 40 (by kernel_rfl) (x := .normal) (s' := (S174 pre n c l m1 bb lg m0 e)) ((R142 pre n c l m1 bb lg m0 e).trans (by rw [condF (and_f1 (rfl))])) ?_
  show Gets _ _ (codeAt [1, 1, 1, 1, 0, 1, 0, 0, 1, 0, 0, 1, 1, 1] B) _ _
  rw [C1_1_1_1_0_1_0_0_1_0_0_1_1_1]; refine Gets.seq ?_
  refine Gets.ofN fitE grp_sound (conT_agree _ _) 12 40 (by kernel_rfl) (x := .normal) (s' := (S175 pre n c l m1 bb lg m0 e)) (R143 pre n c l m1 bb lg m0 e) ?_
  show Gets _ _ (codeAt [1, 1, 1, 1, 0, 1, 0, 0, 1, 0, 0, 1, 1, 1, 1] B) _ _
  rw [C1_1_1_1_0_1_0_0_1_0_0_1_1_1_1]; refine Gets.seq ?_
  rw [C1_1_1_1_0_1_0_0_1_0_0_1_1_1_1_0]; refine Gets.seq ?_
  refine Gets.ofN fitE grp_sound (conT_agree _ _) 12 40 (by kernel_rfl) (x := .normal) (s' := (S177 pre n c bb lg m0 m1 l e)) ((R144 pre n c l m1 bb lg m0 e).trans (by rw [condF (not_f (and_t (rfl) (and_t (beq_self_eq_true _) (and_t (beq_self_eq_true _) (rfl)))))])) ?_
  show Gets _ _ (codeAt [1, 1, 1, 1, 0, 1, 0, 0, 1, 0, 0, 1, 1, 1, 1, 0, 1] B) _ _
  rw [C1_1_1_1_0_1_0_0_1_0_0_1_1_1_1_0_1]; refine Gets.cond false (by kernel_rfl) (show evalX (KSt.ts (S177 pre n c bb lg m0 m1 l e)) (.tmp 123) = .bool false by kernel_rfl) ?_; show Gets _ _ (codeAt [1, 1, 1, 1, 0, 1, 0, 0, 1, 0, 0, 1, 1, 1, 1, 0, 1, 1] B) _ _
  refine Gets.ofN fitE grp_sound (conT_agree _ _) 12 40 (by kernel_rfl) (x := .normal) (s' := (S129 pre n c bb lg m0 m1 l e)) (R145 pre n c bb lg m0 m1 l e) ?_
  show Gets _ _ (codeAt [1, 1, 1, 1, 0, 1, 0, 0, 1, 0, 0, 1, 1, 1, 1, 1] B) _ _
  rw [C1_1_1_1_0_1_0_0_1_0_0_1_1_1_1_1]; refine Gets.seq ?_
  refine Gets.ofN fitE grp_sound (conT_agree _ _) 12 40 (by kernel_rfl) (x := .normal) (s' := (S178 pre n c bb lg m0 m1 l e)) (R146 pre n c bb lg m0 m1 l e) ?_
  show Gets _ _ (codeAt [1, 1, 1, 1, 0, 1, 0, 0, 1, 0, 0, 1, 1, 1, 1, 1, 1] B) _ _
  rw [C1_1_1_1_0_1_0_0_1_0_0_1_1_1_1_1_1]; refine Gets.cond false (by kernel_rfl) ((show evalX (KSt.ts (S178 pre n c bb lg m0 m1 l e)) (.tmp 127) = .bool (decide (4 < ((n : Nat) : Int))) by kernel_rfl).trans (by rw [(show (decide (4 < ((n : Nat) : Int))) = false from decide_eq_false (by omega))])) ?_; show Gets _ _ (codeAt [1, 1, 1, 1, 0, 1, 0, 0, 1, 0, 0, 1, 1, 1, 1, 1, 1, 1] B) _ _
  refine Gets.ofN fitE grp_sound (conT_agree _ _) 12 40 (by kernel_rfl) (x := .normal) (s' := (S129 pre n c bb lg m0 m1 l e)) (R149 pre n c bb lg m0 m1 l e) ?_
  show Gets _ _ (codeAt [1, 1, 1, 1, 0, 1, 0, 0, 1, 1] B) _ _
  refine Gets.ofN fitE grp_sound (conT_agree _ _) 12 40 (by kernel_rfl) (x := .normal) (s' := (S179 pre n c bb lg m0 m1 l e)) (R148 pre n c bb lg m0 m1 l e) ?_
  exact hq
noncomputable def S180 (pre : Nat) (n : Nat) (c : Nat) (i : Int) (bb : Int) (lg : Int) (m0 : Int) (m1 : Int) (l : List Int) (e : TypeId) : KSt := ⟨(frameL 135 [(2, (.slice (some ⟨0, pre, none⟩) n c)), (3, (.pointer (some ⟨1, 0, none⟩))), (4, (.pointer (some ⟨2, 0, none⟩))), (7, (.pointer (some ⟨3, 0, none⟩))), (12, (.int .i64 i)), (60, (.bool (decide (i ≤ ((n : Nat) : Int)))))]), ⟨4, 1, [(3, 0, .cells [(.int .u64 bb), (.int .i64 lg), (.int .i64 m0), (.int .i64 m1), (.int .u64 (l.getD 0 0)), (.int .i64 0), (.int .i64 2), (.int .u64 (l.getD 0 0)), (.int .u64 (makeV (l.getD 0 0) m1))] 82 true), (2, 0, .cells [(.int .i64 m0), (.int .i64 m1)] 55 true), (1, 0, .cells [(.int .u64 bb), (.int .i64 lg)] 54 true), (0, 0, .tail pre .u64 l e)]⟩⟩
theorem R150 (pre : Nat) (n : Nat) (c : Nat) (i : Int) (bb : Int) (lg : Int) (m0 : Int) (m1 : Int) (l : List Int) (e : TypeId) : evCK Try.prog cfgE (runK Try.prog cfgE fsE (conT grpDom grpE) 12 40) 12 (codeAt [1, 1, 1, 1, 0, 1, 0, 0, 0, 0] B) (S130 pre n c i bb lg m0 m1 l e) (normC 1 [2, 3, 4, 7, 12, 60]) =
  some (.normal, (S180 pre n c i bb lg m0 m1 l e)) := by kernel_rfl
theorem lp14x_37 (bb lg m0 m1 g gl : Int) (i : Int) (pre n c : Nat) (l : List Int) (e : TypeId) (hx : (n : Int) < i)   {Q : Ex → St → Prop} (hq : Q (.exit 0) (KSt.low (S180 pre n c i bb lg m0 m1 l e))) : Gets Try.prog (KH.low ⟨1, 1, [(0, 0, .tail pre .u64 l e)]⟩) (codeAt [1, 1, 1, 1, 0, 1, 0, 0] B) (KSt.low (S130 pre n c i bb lg m0 m1 l e)) Q := by
  rw [C1_1_1_1_0_1_0_0]; refine Gets.seq ?_
  rw [C1_1_1_1_0_1_0_0_0]; refine Gets.seq ?_
  refine Gets.ofN fitE grp_sound (conT_agree _ _) 12 40 (by kernel_rfl) (x := .normal) (s' := (S180 pre n c i bb lg m0 m1 l e)) (R150 pre n c i bb lg m0 m1 l e) ?_
  show Gets _ _ (codeAt [1, 1, 1, 1, 0, 1, 0, 0, 0, 1] B) _ _
  rw [C1_1_1_1_0_1_0_0_0_1]; refine Gets.cond false (by kernel_rfl) ((show evalX (KSt.ts (S180 pre n c i bb lg m0 m1 l e)) (.tmp 60) = .bool (decide (i ≤ ((n : Nat) : Int))) by kernel_rfl).trans (by rw [(show (decide (i ≤ ((n : Nat) : Int))) = false from decide_eq_false (by omega))])) ?_; show Gets _ _ (codeAt [1, 1, 1, 1, 0, 1, 0, 0, 0, 1, 1] B) _ _
  rw [C1_1_1_1_0_1_0_0_0_1_1]; refine Gets.ev fitE.mix fitE.cfg (fitE.sound grp_sound 12 0) 12 rfl (s' := KSt.low (S180 pre n c i bb lg m0 m1 l e)) (x := (.exit 0)) rfl ?_
  exact hq
theorem R151 (pre : Nat) (n : Nat) (c : Nat) (i : Int) (bb : Int) (lg : Int) (m0 : Int) (m1 : Int) (l : List Int) (e : TypeId) : evCK Try.prog cfgE (runK Try.prog cfgE fsE (conT grpDom grpE) 12 40) 12 (codeAt [1, 1, 1, 1, 1, 0] B) (S180 pre n c i bb lg m0 m1 l e) (normC 1 [6]) =
  some (.normal, (S3 pre l e)) := by kernel_rfl
theorem lp14f_38 (bb lg m0 m1 g gl : Int) (i : Int) (pre n c : Nat) (l : List Int) (e : TypeId)   {Q : Ex → St → Prop} (hq : Q .ret (KSt.low (S3 pre l e))) : Gets Try.prog (KH.low ⟨1, 1, [(0, 0, .tail pre .u64 l e)]⟩) (codeAt [1, 1, 1, 1, 1] B) (KSt.low (S180 pre n c i bb lg m0 m1 l e)) Q := by
  rw [C1_1_1_1_1]; refine Gets.seq ?_
  refine Gets.ofN fitE grp_sound (conT_agree _ _) 12 40 (by kernel_rfl) (x := .normal) (s' := (S3 pre l e)) (R151 pre n c i bb lg m0 m1 l e) ?_
  show Gets _ _ (codeAt [1, 1, 1, 1, 1, 1] B) _ _
  rw [C1_1_1_1_1_1]; refine Gets.ev fitE.mix fitE.cfg (fitE.sound grp_sound 12 0) 12 rfl (s' := KSt.low (S3 pre l e)) (x := .ret) rfl ?_
  exact hq
noncomputable def S181 (pre : Nat) (n : Nat) (c : Nat) (bb : Int) (lg : Int) (m0 : Int) (m1 : Int) (l : List Int) (e : TypeId) : KSt := ⟨(frameL 135 [(2, (.slice (some ⟨0, pre, none⟩) n c)), (3, (.pointer (some ⟨1, 0, none⟩))), (4, (.pointer (some ⟨2, 0, none⟩))), (7, (.pointer (some ⟨3, 0, none⟩))), (12, (.int .i64 4)), (60, (.bool (decide (4 ≤ ((n : Nat) : Int)))))]), ⟨4, 1, [(3, 0, .cells [(.int .u64 bb), (.int .i64 lg), (.int .i64 m0), (.int .i64 m1), (.int .u64 (l.getD 0 0)), (.int .i64 0), (.int .i64 3), (.int .u64 0), (.int .u64 (l.getD 2 0))] 82 true), (2, 0, .cells [(.int .i64 m0), (.int .i64 m1)] 55 true), (1, 0, .cells [(.int .u64 bb), (.int .i64 lg)] 54 true), (0, 0, .tail pre .u64 l e)]⟩⟩
theorem R152 (pre : Nat) (n : Nat) (c : Nat) (bb : Int) (lg : Int) (m0 : Int) (m1 : Int) (l : List Int) (e : TypeId) : evCK Try.prog cfgE (runK Try.prog cfgE fsE (conT grpDom grpE) 12 40) 12 (codeAt [1, 1, 1, 1, 0, 1, 0, 0, 0, 0] B) (S146 pre n c bb lg m0 m1 l e) (normC 1 [2, 3, 4, 7, 12, 60]) =
  some (.normal, (S181 pre n c bb lg m0 m1 l e)) := by kernel_rfl
theorem R153 (pre : Nat) (n : Nat) (c : Nat) (bb : Int) (lg : Int) (m0 : Int) (m1 : Int) (l : List Int) (e : TypeId) : evCK Try.prog cfgE (runK Try.prog cfgE fsE (conT grpDom grpE) 12 40) 12 (codeAt [1, 1, 1, 1, 0, 1, 0, 0, 0, 1, 0] B) (S181 pre n c bb lg m0 m1 l e) (normC 1 [2, 3, 4, 7, 12]) =
  some (.normal, (S146 pre n c bb lg m0 m1 l e)) := by kernel_rfl
noncomputable def S182 (pre : Nat) (n : Nat) (c : Nat) (bb : Int) (lg : Int) (m0 : Int) (m1 : Int) (l : List Int) (e : TypeId) : KSt := ⟨(frameL 135 [(2, (.slice (some ⟨0, pre, none⟩) n c)), (3, (.pointer (some ⟨1, 0, none⟩))), (4, (.pointer (some ⟨2, 0, none⟩))), (7, (.pointer (some ⟨3, 0, none⟩))), (12, (.int .i64 4)), (13, (.pointer (some ⟨4, 0, none⟩)))]), ⟨5, 1, [(4, 0, .cells [(.slice (some ⟨0, pre, none⟩) 4 (c - 0)), (.int .i64 0), (.bool false), (.int .i64 0), (.int .u64 0), (.int .i64 0), (.int .u64 0), (.int .u64 0)] 31 true), (3, 0, .cells [(.int .u64 bb), (.int .i64 lg), (.int .i64 m0), (.int .i64 m1), (.int .u64 (l.getD 0 0)), (.int .i64 0), (.int .i64 3), (.int .u64 0), (.int .u64 (l.getD 2 0))] 82 true), (2, 0, .cells [(.int .i64 m0), (.int .i64 m1)] 55 true), (1, 0, .cells [(.int .u64 bb), (.int .i64 lg)] 54 true), (0, 0, .tail pre .u64 l e)]⟩⟩
noncomputable def S183 (pre : Nat) (n : Nat) (c : Nat) (bb : Int) (lg : Int) (m0 : Int) (m1 : Int) (l : List Int) (e : TypeId) : KSt := ⟨(frameL 135 [(2, (.slice (some ⟨0, pre, none⟩) n c)), (3, (.pointer (some ⟨1, 0, none⟩))), (4, (.pointer (some ⟨2, 0, none⟩))), (7, (.pointer (some ⟨3, 0, none⟩))), (12, (.int .i64 4)), (13, (.pointer (some ⟨4, 0, none⟩)))]), ⟨5, 1, [(4, 0, .cells [(.slice (some ⟨0, (pre + 0), none⟩) 4 (c - 0)), (.int .i64 0), (.bool false), (.int .i64 0), (.int .u64 0), (.int .i64 0), (.int .u64 0), (.int .u64 0)] 31 true), (3, 0, .cells [(.int .u64 bb), (.int .i64 lg), (.int .i64 m0), (.int .i64 m1), (.int .u64 (l.getD 0 0)), (.int .i64 0), (.int .i64 3), (.int .u64 0), (.int .u64 (l.getD 2 0))] 82 true), (2, 0, .cells [(.int .i64 m0), (.int .i64 m1)] 55 true), (1, 0, .cells [(.int .u64 bb), (.int .i64 lg)] 54 true), (0, 0, .tail pre .u64 l e)]⟩⟩
theorem R154 (pre : Nat) (n : Nat) (c : Nat) (bb : Int) (lg : Int) (m0 : Int) (m1 : Int) (l : List Int) (e : TypeId) : evCK Try.prog cfgE (runK Try.prog cfgE fsE (conT grpDom grpE) 12 40) 12 (codeAt [1, 1, 1, 1, 0, 1, 0, 0, 1, 0, 0, 0] B) (S146 pre n c bb lg m0 m1 l e) (normC 1 [2, 3, 4, 7, 12, 13]) =
  if (0 : Int) ≤ 4 ∧ 4 ≤ ((c : Nat) : Int) then
    bif (true && (Nat.ble 4 c)) then
      bif (Nat.beq c 0) then
        some (.normal, (S182 pre n c bb lg m0 m1 l e))
      else
        some (.normal, (S183 pre n c bb lg m0 m1 l e))
    else
      none
  else
    none := by kernel_rfl
noncomputable def S184 (pre : Nat) (n : Nat) (c : Nat) (bb : Int) (lg : Int) (m0 : Int) (m1 : Int) (l : List Int) (e : TypeId) : KSt := ⟨(frameL 135 [(2, (.slice (some ⟨0, pre, none⟩) n c)), (3, (.pointer (some ⟨1, 0, none⟩))), (4, (.pointer (some ⟨2, 0, none⟩))), (7, (.pointer (some ⟨3, 0, none⟩))), (12, (.int .i64 4)), (13, (.pointer (some ⟨4, 0, none⟩))), (14, (.pointer (some ⟨5, 0, none⟩)))]), ⟨6, 1, [(5, 0, .cells [(.int .i64 1), (.int .u64 0), (.int .u64 0)] 63 true), (4, 0, .cells [(.slice (some ⟨0, (pre + 0), none⟩) 4 (c - 0)), (.int .i64 1), (.bool false), (.int .i64 0), (.int .u64 0), (.int .i64 0), (.int .u64 0), (.int .u64 0)] 31 true), (3, 0, .cells [(.int .u64 bb), (.int .i64 lg), (.int .i64 m0), (.int .i64 m1), (.int .u64 (l.getD 0 0)), (.int .i64 0), (.int .i64 3), (.int .u64 0), (.int .u64 (l.getD 2 0))] 82 true), (2, 0, .cells [(.int .i64 m0), (.int .i64 m1)] 55 true), (1, 0, .cells [(.int .u64 bb), (.int .i64 lg)] 54 true), (0, 0, .tail pre .u64 l e)]⟩⟩
noncomputable def S185 (pre : Nat) (n : Nat) (c : Nat) (n1 : Int) (m1 : Int) (bb : Int) (lg : Int) (m0 : Int) (l : List Int) (e : TypeId) : KSt := ⟨(frameL 135 [(2, (.slice (some ⟨0, pre, none⟩) n c)), (3, (.pointer (some ⟨1, 0, none⟩))), (4, (.pointer (some ⟨2, 0, none⟩))), (7, (.pointer (some ⟨3, 0, none⟩))), (12, (.int .i64 4)), (13, (.pointer (some ⟨4, 0, none⟩))), (14, (.pointer (some ⟨5, 0, none⟩)))]), ⟨6, 1, [(5, 0, .cells [(.int .i64 2), (.int .u64 n1), (.int .u64 (makeRV n1 m1))] 63 true), (4, 0, .cells [(.slice (some ⟨0, (pre + 0), none⟩) 4 (c - 0)), (.int .i64 3), (.bool false), (.int .i64 0), (.int .u64 0), (.int .i64 0), (.int .u64 0), (.int .u64 0)] 31 true), (3, 0, .cells [(.int .u64 bb), (.int .i64 lg), (.int .i64 m0), (.int .i64 m1), (.int .u64 (l.getD 0 0)), (.int .i64 0), (.int .i64 3), (.int .u64 0), (.int .u64 (l.getD 2 0))] 82 true), (2, 0, .cells [(.int .i64 m0), (.int .i64 m1)] 55 true), (1, 0, .cells [(.int .u64 bb), (.int .i64 lg)] 54 true), (0, 0, .tail pre .u64 l e)]⟩⟩
noncomputable def S186 (pre : Nat) (n : Nat) (c : Nat) (n3 : Int) (bb : Int) (lg : Int) (m0 : Int) (m1 : Int) (l : List Int) (e : TypeId) : KSt := ⟨(frameL 135 [(2, (.slice (some ⟨0, pre, none⟩) n c)), (3, (.pointer (some ⟨1, 0, none⟩))), (4, (.pointer (some ⟨2, 0, none⟩))), (7, (.pointer (some ⟨3, 0, none⟩))), (12, (.int .i64 4)), (13, (.pointer (some ⟨4, 0, none⟩))), (14, (.pointer (some ⟨5, 0, none⟩)))]), ⟨6, 1, [(5, 0, .cells [(.int .i64 3), (.int .u64 0), (.int .u64 n3)] 63 true), (4, 0, .cells [(.slice (some ⟨0, (pre + 0), none⟩) 4 (c - 0)), (.int .i64 4), (.bool false), (.int .i64 0), (.int .u64 0), (.int .i64 0), (.int .u64 0), (.int .u64 0)] 31 true), (3, 0, .cells [(.int .u64 bb), (.int .i64 lg), (.int .i64 m0), (.int .i64 m1), (.int .u64 (l.getD 0 0)), (.int .i64 0), (.int .i64 3), (.int .u64 0), (.int .u64 (l.getD 2 0))] 82 true), (2, 0, .cells [(.int .i64 m0), (.int .i64 m1)] 55 true), (1, 0, .cells [(.int .u64 bb), (.int .i64 lg)] 54 true), (0, 0, .tail pre .u64 l e)]⟩⟩
noncomputable def S187 (pre : Nat) (n : Nat) (c : Nat) (n5 : Int) (m1 : Int) (bb : Int) (lg : Int) (m0 : Int) (l : List Int) (e : TypeId) : KSt := ⟨(frameL 135 [(2, (.slice (some ⟨0, pre, none⟩) n c)), (3, (.pointer (some ⟨1, 0, none⟩))), (4, (.pointer (some ⟨2, 0, none⟩))), (7, (.pointer (some ⟨3, 0, none⟩))), (12, (.int .i64 4)), (13, (.pointer (some ⟨4, 0, none⟩))), (14, (.pointer (some ⟨5, 0, none⟩)))]), ⟨6, 1, [(5, 0, .cells [(.int .i64 2), (.int .u64 n5), (.int .u64 (makeRV n5 m1))] 63 true), (4, 0, .cells [(.slice (some ⟨0, (pre + 0), none⟩) 4 (c - 0)), (.int .i64 3), (.bool false), (.int .i64 0), (.int .u64 0), (.int .i64 0), (.int .u64 0), (.int .u64 0)] 31 true), (3, 0, .cells [(.int .u64 bb), (.int .i64 lg), (.int .i64 m0), (.int .i64 m1), (.int .u64 (l.getD 0 0)), (.int .i64 0), (.int .i64 3), (.int .u64 0), (.int .u64 (l.getD 2 0))] 82 true), (2, 0, .cells [(.int .i64 m0), (.int .i64 m1)] 55 true), (1, 0, .cells [(.int .u64 bb), (.int .i64 lg)] 54 true), (0, 0, .tail pre .u64 l e)]⟩⟩
noncomputable def S188 (pre : Nat) (n : Nat) (c : Nat) (n7 : Int) (bb : Int) (lg : Int) (m0 : Int) (m1 : Int) (l : List Int) (e : TypeId) : KSt := ⟨(frameL 135 [(2, (.slice (some ⟨0, pre, none⟩) n c)), (3, (.pointer (some ⟨1, 0, none⟩))), (4, (.pointer (some ⟨2, 0, none⟩))), (7, (.pointer (some ⟨3, 0, none⟩))), (12, (.int .i64 4)), (13, (.pointer (some ⟨4, 0, none⟩))), (14, (.pointer (some ⟨5, 0, none⟩)))]), ⟨6, 1, [(5, 0, .cells [(.int .i64 3), (.int .u64 0), (.int .u64 n7)] 63 true), (4, 0, .cells [(.slice (some ⟨0, (pre + 0), none⟩) 4 (c - 0)), (.int .i64 4), (.bool false), (.int .i64 0), (.int .u64 0), (.int .i64 0), (.int .u64 0), (.int .u64 0)] 31 true), (3, 0, .cells [(.int .u64 bb), (.int .i64 lg), (.int .i64 m0), (.int .i64 m1), (.int .u64 (l.getD 0 0)), (.int .i64 0), (.int .i64 3), (.int .u64 0), (.int .u64 (l.getD 2 0))] 82 true), (2, 0, .cells [(.int .i64 m0), (.int .i64 m1)] 55 true), (1, 0, .cells [(.int .u64 bb), (.int .i64 lg)] 54 true), (0, 0, .tail pre .u64 l e)]⟩⟩
theorem R155 (pre : Nat) (n : Nat) (c : Nat) (bb : Int) (lg : Int) (m0 : Int) (m1 : Int) (l : List Int) (e : TypeId) : evCK Try.prog cfgE (runK Try.prog cfgE fsE (conT grpDom grpE) 12 40) 12 (codeAt [1, 1, 1, 1, 0, 1, 0, 0, 1, 0, 0, 1, 0] B) (S183 pre n c bb lg m0 m1 l e) (normC 1 [2, 3, 4, 7, 12, 13, 14]) =
  bif ((groupsV m0) == 0) then
    bif (Nat.ble pre ((pre + 0) + 0)) then
      obind (l[(((pre + 0) + 0) - pre)]?) fun n1 =>
        bif (n1 == 0) then
          some (.normal, (S184 pre n c bb lg m0 m1 l e))
        else
          bif (Nat.ble pre ((pre + 0) + 1)) then
            obind (l[(((pre + 0) + 1) - pre)]?) fun n2 =>
              bif (Nat.ble pre ((pre + 0) + 2)) then
                obind (l[(((pre + 0) + 2) - pre)]?) fun n3 =>
                  bif (n3 == 0) then
                    some (.normal, (S185 pre n c n1 m1 bb lg m0 l e))
                  else
                    bif (Nat.ble pre ((pre + 0) + 3)) then
                      obind (l[(((pre + 0) + 3) - pre)]?) fun n4 =>
                        some (.normal, (S186 pre n c n3 bb lg m0 m1 l e))
                    else
                      none
              else
                none
          else
            none
    else
      none
  else
    bif (Nat.ble pre ((pre + 0) + 0)) then
      obind (l[(((pre + 0) + 0) - pre)]?) fun n5 =>
        bif (n5 == 0) then
          some (.normal, (S184 pre n c bb lg m0 m1 l e))
        else
          bif (Nat.ble pre ((pre + 0) + 1)) then
            obind (l[(((pre + 0) + 1) - pre)]?) fun n6 =>
              bif (Nat.ble pre ((pre + 0) + 2)) then
                obind (l[(((pre + 0) + 2) - pre)]?) fun n7 =>
                  bif (n7 == 0) then
                    some (.normal, (S187 pre n c n5 m1 bb lg m0 l e))
                  else
                    bif (Nat.ble pre ((pre + 0) + 3)) then
                      obind (l[(((pre + 0) + 3) - pre)]?) fun n8 =>
                        some (.normal, (S188 pre n c n7 bb lg m0 m1 l e))
                    else
                      none
              else
                none
          else
            none
    else
      none := by kernel_rfl
noncomputable def S189 (pre : Nat) (n : Nat) (c : Nat) (l : List Int) (bb : Int) (lg : Int) (m0 : Int) (m1 : Int) (e : TypeId) : KSt := ⟨(frameL 135 [(2, (.slice (some ⟨0, pre, none⟩) n c)), (3, (.pointer (some ⟨1, 0, none⟩))), (4, (.pointer (some ⟨2, 0, none⟩))), (7, (.pointer (some ⟨3, 0, none⟩))), (12, (.int .i64 4)), (13, (.pointer (some ⟨4, 0, none⟩))), (14, (.pointer (some ⟨5, 0, none⟩)))]), ⟨6, 1, [(5, 0, .cells [(.int .i64 3), (.int .u64 0), (.int .u64 (l.getD 2 0))] 63 true), (4, 0, .cells [(.slice (some ⟨0, (pre + 0), none⟩) 4 (c - 0)), (.int .i64 4), (.bool false), (.int .i64 0), (.int .u64 0), (.int .i64 0), (.int .u64 0), (.int .u64 0)] 31 true), (3, 0, .cells [(.int .u64 bb), (.int .i64 lg), (.int .i64 m0), (.int .i64 m1), (.int .u64 (l.getD 0 0)), (.int .i64 0), (.int .i64 3), (.int .u64 0), (.int .u64 (l.getD 2 0))] 82 true), (2, 0, .cells [(.int .i64 m0), (.int .i64 m1)] 55 true), (1, 0, .cells [(.int .u64 bb), (.int .i64 lg)] 54 true), (0, 0, .tail pre .u64 l e)]⟩⟩
noncomputable def S190 (pre : Nat) (n : Nat) (c : Nat) (l : List Int) (bb : Int) (lg : Int) (m0 : Int) (m1 : Int) (e : TypeId) : KSt := ⟨(frameL 135 [(2, (.slice (some ⟨0, pre, none⟩) n c)), (3, (.pointer (some ⟨1, 0, none⟩))), (4, (.pointer (some ⟨2, 0, none⟩))), (7, (.pointer (some ⟨3, 0, none⟩))), (12, (.int .i64 4)), (13, (.pointer (some ⟨4, 0, none⟩))), (14, (.pointer (some ⟨5, 0, none⟩))), (15, (.pointer (some ⟨6, 0, none⟩))), (16, (.bool false))]), ⟨7, 1, [(6, 0, .cells [(.int .i64 0), (.int .u64 0), (.int .u64 0)] 60 true), (5, 0, .cells [(.int .i64 3), (.int .u64 0), (.int .u64 (l.getD 2 0))] 63 true), (4, 0, .cells [(.slice (some ⟨0, (pre + 0), none⟩) 4 (c - 0)), (.int .i64 4), (.bool false), (.int .i64 0), (.int .u64 0), (.int .i64 0), (.int .u64 0), (.int .u64 0)] 31 true), (3, 0, .cells [(.int .u64 bb), (.int .i64 lg), (.int .i64 m0), (.int .i64 m1), (.int .u64 (l.getD 0 0)), (.int .i64 0), (.int .i64 3), (.int .u64 0), (.int .u64 (l.getD 2 0))] 82 true), (2, 0, .cells [(.int .i64 m0), (.int .i64 m1)] 55 true), (1, 0, .cells [(.int .u64 bb), (.int .i64 lg)] 54 true), (0, 0, .tail pre .u64 l e)]⟩⟩
noncomputable def S191 (pre : Nat) (n : Nat) (c : Nat) (l : List Int) (bb : Int) (lg : Int) (m0 : Int) (m1 : Int) (e : TypeId) : KSt := ⟨(frameL 135 [(2, (.slice (some ⟨0, pre, none⟩) n c)), (3, (.pointer (some ⟨1, 0, none⟩))), (4, (.pointer (some ⟨2, 0, none⟩))), (7, (.pointer (some ⟨3, 0, none⟩))), (12, (.int .i64 4)), (13, (.pointer (some ⟨4, 0, none⟩))), (14, (.pointer (some ⟨5, 0, none⟩))), (15, (.pointer (some ⟨6, 0, none⟩))), (16, (.bool true))]), ⟨7, 1, [(6, 0, .cells [(.int .i64 3), (.int .u64 0), (.int .u64 (l.getD 2 0))] 60 true), (5, 0, .cells [(.int .i64 3), (.int .u64 0), (.int .u64 (l.getD 2 0))] 63 true), (4, 0, .cells [(.slice (some ⟨0, (pre + 0), none⟩) 4 (c - 0)), (.int .i64 4), (.bool false), (.int .i64 0), (.int .u64 0), (.int .i64 0), (.int .u64 0), (.int .u64 0)] 31 true), (3, 0, .cells [(.int .u64 bb), (.int .i64 lg), (.int .i64 m0), (.int .i64 m1), (.int .u64 (l.getD 0 0)), (.int .i64 0), (.int .i64 3), (.int .u64 0), (.int .u64 (l.getD 2 0))] 82 true), (2, 0, .cells [(.int .i64 m0), (.int .i64 m1)] 55 true), (1, 0, .cells [(.int .u64 bb), (.int .i64 lg)] 54 true), (0, 0, .tail pre .u64 l e)]⟩⟩
theorem R156 (pre : Nat) (n : Nat) (c : Nat) (l : List Int) (bb : Int) (lg : Int) (m0 : Int) (m1 : Int) (e : TypeId) : evCK Try.prog cfgE (runK Try.prog cfgE fsE (conT grpDom grpE) 12 40) 12 (codeAt [1, 1, 1, 1, 0, 1, 0, 0, 1, 0, 0, 1, 1, 0] B) (S189 pre n c l bb lg m0 m1 e) (normC 1 [2, 3, 4, 7, 12, 13, 14, 15, 16]) =
  bif (false && (true && (((l.getD 2 0) == 0) && true))) then
    some (.normal, (S190 pre n c l bb lg m0 m1 e))
  else
    some (.normal, (S191 pre n c l bb lg m0 m1 e)) := by kernel_rfl
noncomputable def S192 (pre : Nat) (n : Nat) (c : Nat) (l : List Int) (bb : Int) (lg : Int) (m0 : Int) (m1 : Int) (e : TypeId) : KSt := ⟨(frameL 135 [(2, (.slice (some ⟨0, pre, none⟩) n c)), (3, (.pointer (some ⟨1, 0, none⟩))), (4, (.pointer (some ⟨2, 0, none⟩))), (7, (.pointer (some ⟨3, 0, none⟩))), (12, (.int .i64 4)), (13, (.pointer (some ⟨4, 0, none⟩))), (14, (.pointer (some ⟨5, 0, none⟩))), (15, (.pointer (some ⟨6, 0, none⟩))), (16, (.bool true)), (17, (.pointer (some ⟨7, 0, none⟩))), (18, (.bool false))]), ⟨8, 1, [(7, 0, .cells [(.int .i64 0), (.int .u64 0), (.int .i64 0), (.int .u64 0), (.int .u64 0)] 29 true), (6, 0, .cells [(.int .i64 3), (.int .u64 0), (.int .u64 (l.getD 2 0))] 60 true), (5, 0, .cells [(.int .i64 3), (.int .u64 0), (.int .u64 (l.getD 2 0))] 63 true), (4, 0, .cells [(.slice (some ⟨0, (pre + 0), none⟩) 4 (c - 0)), (.int .i64 4), (.bool false), (.int .i64 0), (.int .u64 0), (.int .i64 0), (.int .u64 0), (.int .u64 0)] 31 true), (3, 0, .cells [(.int .u64 bb), (.int .i64 lg), (.int .i64 m0), (.int .i64 m1), (.int .u64 (l.getD 0 0)), (.int .i64 0), (.int .i64 3), (.int .u64 0), (.int .u64 (l.getD 2 0))] 82 true), (2, 0, .cells [(.int .i64 m0), (.int .i64 m1)] 55 true), (1, 0, .cells [(.int .u64 bb), (.int .i64 lg)] 54 true), (0, 0, .tail pre .u64 l e)]⟩⟩
theorem R157 (pre : Nat) (n : Nat) (c : Nat) (l : List Int) (bb : Int) (lg : Int) (m0 : Int) (m1 : Int) (e : TypeId) : evCK Try.prog cfgE (runK Try.prog cfgE fsE (conT grpDom grpE) 12 40) 12 (codeAt [1, 1, 1, 1, 0, 1, 0, 0, 1, 0, 0, 1, 1, 1, 0] B) (S191 pre n c l bb lg m0 m1 e) (normC 1 [2, 3, 4, 7, 12, 13, 14, 15, 16, 17, 18]) =
  some (.normal, (S192 pre n c l bb lg m0 m1 e)) := by kernel_rfl
noncomputable def S193 (pre : Nat) (n : Nat) (c : Nat) (bb : Int) (lg : Int) (m0 : Int) (m1 : Int) (l : List Int) (e : TypeId) : KSt := ⟨(frameL 135 [(2, (.slice (some ⟨0, pre, none⟩) n c)), (3, (.pointer (some ⟨1, 0, none⟩))), (4, (.pointer (some ⟨2, 0, none⟩))), (7, (.pointer (some ⟨3, 0, none⟩))), (12, (.int .i64 4)), (123, (.bool true))]), ⟨4, 1, [(3, 0, .cells [(.int .u64 bb), (.int .i64 lg), (.int .i64 m0), (.int .i64 m1), (.int .u64 (l.getD 0 0)), (.int .i64 0), (.int .i64 3), (.int .u64 0), (.int .u64 (l.getD 2 0))] 82 true), (2, 0, .cells [(.int .i64 m0), (.int .i64 m1)] 55 true), (1, 0, .cells [(.int .u64 bb), (.int .i64 lg)] 54 true), (0, 0, .tail pre .u64 l e)]⟩⟩
noncomputable def S194 (pre : Nat) (n : Nat) (c : Nat) (bb : Int) (lg : Int) (m0 : Int) (m1 : Int) (l : List Int) (e : TypeId) : KSt := ⟨(frameL 135 [(2, (.slice (some ⟨0, pre, none⟩) n c)), (3, (.pointer (some ⟨1, 0, none⟩))), (4, (.pointer (some ⟨2, 0, none⟩))), (7, (.pointer (some ⟨3, 0, none⟩))), (12, (.int .i64 4)), (123, (.bool false))]), ⟨4, 1, [(3, 0, .cells [(.int .u64 bb), (.int .i64 lg), (.int .i64 m0), (.int .i64 m1), (.int .u64 (l.getD 0 0)), (.int .i64 0), (.int .i64 3), (.int .u64 0), (.int .u64 (l.getD 2 0))] 82 true), (2, 0, .cells [(.int .i64 m0), (.int .i64 m1)] 55 true), (1, 0, .cells [(.int .u64 bb), (.int .i64 lg)] 54 true), (0, 0, .tail pre .u64 l e)]⟩⟩
theorem R158 (pre : Nat) (n : Nat) (c : Nat) (l : List Int) (bb : Int) (lg : Int) (m0 : Int) (m1 : Int) (e : TypeId) : evCK Try.prog cfgE (runK Try.prog cfgE fsE (conT grpDom grpE) 12 40) 12 (codeAt [1, 1, 1, 1, 0, 1, 0, 0, 1, 0, 0, 1, 1, 1, 1, 0, 0] B) (S192 pre n c l bb lg m0 m1 e) (normC 1 [2, 3, 4, 7, 12, 123]) =
  bif (!(true && (true && (((l.getD 2 0) == (l.getD 2 0)) && true)))) then
    some (.normal, (S193 pre n c bb lg m0 m1 l e))
  else
    some (.normal, (S194 pre n c bb lg m0 m1 l e)) := by kernel_rfl
theorem R159 (pre : Nat) (n : Nat) (c : Nat) (bb : Int) (lg : Int) (m0 : Int) (m1 : Int) (l : List Int) (e : TypeId) : evCK Try.prog cfgE (runK Try.prog cfgE fsE (conT grpDom grpE) 12 40) 12 (codeAt [1, 1, 1, 1, 0, 1, 0, 0, 1, 0, 0, 1, 1, 1, 1, 0, 1, 1] B) (S194 pre n c bb lg m0 m1 l e) (normC 1 [2, 3, 4, 7, 12]) =
  some (.normal, (S146 pre n c bb lg m0 m1 l e)) := by kernel_rfl
noncomputable def S195 (pre : Nat) (n : Nat) (c : Nat) (bb : Int) (lg : Int) (m0 : Int) (m1 : Int) (l : List Int) (e : TypeId) : KSt := ⟨(frameL 135 [(2, (.slice (some ⟨0, pre, none⟩) n c)), (3, (.pointer (some ⟨1, 0, none⟩))), (4, (.pointer (some ⟨2, 0, none⟩))), (7, (.pointer (some ⟨3, 0, none⟩))), (12, (.int .i64 4)), (127, (.bool (decide (4 < ((n : Nat) : Int)))))]), ⟨4, 1, [(3, 0, .cells [(.int .u64 bb), (.int .i64 lg), (.int .i64 m0), (.int .i64 m1), (.int .u64 (l.getD 0 0)), (.int .i64 0), (.int .i64 3), (.int .u64 0), (.int .u64 (l.getD 2 0))] 82 true), (2, 0, .cells [(.int .i64 m0), (.int .i64 m1)] 55 true), (1, 0, .cells [(.int .u64 bb), (.int .i64 lg)] 54 true), (0, 0, .tail pre .u64 l e)]⟩⟩
theorem R160 (pre : Nat) (n : Nat) (c : Nat) (bb : Int) (lg : Int) (m0 : Int) (m1 : Int) (l : List Int) (e : TypeId) : evCK Try.prog cfgE (runK Try.prog cfgE fsE (conT grpDom grpE) 12 40) 12 (codeAt [1, 1, 1, 1, 0, 1, 0, 0, 1, 0, 0, 1, 1, 1, 1, 1, 0] B) (S146 pre n c bb lg m0 m1 l e) (normC 1 [2, 3, 4, 7, 12, 127]) =
  some (.normal, (S195 pre n c bb lg m0 m1 l e)) := by kernel_rfl
theorem R161 (pre : Nat) (n : Nat) (c : Nat) (bb : Int) (lg : Int) (m0 : Int) (m1 : Int) (l : List Int) (e : TypeId) : evCK Try.prog cfgE (runK Try.prog cfgE fsE (conT grpDom grpE) 12 40) 12 (codeAt [1, 1, 1, 1, 0, 1, 0, 0, 1, 0, 0, 1, 1, 1, 1, 1, 1, 0] B) (S195 pre n c bb lg m0 m1 l e) (normC 1 [2, 3, 4, 7, 12]) =
  if (0 : Int) ≤ 4 ∧ 4 < ((n : Nat) : Int) then
    bif (Nat.ble pre (pre + 4)) then
      obind (l[((pre + 4) - pre)]?) fun n1 =>
        some (.normal, (S146 pre n c bb lg m0 m1 l e))
    else
      none
  else
    none := by kernel_rfl
noncomputable def S196 (pre : Nat) (n : Nat) (c : Nat) (bb : Int) (lg : Int) (m0 : Int) (m1 : Int) (l : List Int) (e : TypeId) : KSt := ⟨(frameL 135 [(2, (.slice (some ⟨0, pre, none⟩) n c)), (3, (.pointer (some ⟨1, 0, none⟩))), (4, (.pointer (some ⟨2, 0, none⟩))), (7, (.pointer (some ⟨3, 0, none⟩))), (12, (.int .i64 5))]), ⟨4, 1, [(3, 0, .cells [(.int .u64 bb), (.int .i64 lg), (.int .i64 m0), (.int .i64 m1), (.int .u64 (l.getD 0 0)), (.int .i64 0), (.int .i64 3), (.int .u64 0), (.int .u64 (l.getD 2 0))] 82 true), (2, 0, .cells [(.int .i64 m0), (.int .i64 m1)] 55 true), (1, 0, .cells [(.int .u64 bb), (.int .i64 lg)] 54 true), (0, 0, .tail pre .u64 l e)]⟩⟩
theorem R162 (pre : Nat) (n : Nat) (c : Nat) (bb : Int) (lg : Int) (m0 : Int) (m1 : Int) (l : List Int) (e : TypeId) : evCK Try.prog cfgE (runK Try.prog cfgE fsE (conT grpDom grpE) 12 40) 12 (codeAt [1, 1, 1, 1, 0, 1, 0, 0, 1, 1] B) (S146 pre n c bb lg m0 m1 l e) (normC 1 [2, 3, 4, 7, 12]) =
  some (.normal, (S196 pre n c bb lg m0 m1 l e)) := by kernel_rfl
theorem lp15m_39 (bb lg m0 m1 g gl : Int) (i : Int) (pre n c : Nat) (l : List Int) (e : TypeId) (hb : 0 ≤ bb) (hm : -9223372036854775808 ≤ m1 ∧ m1 < 9223372036854775808) (hg : groupsV m0 = g) (hg1 : 0 ≤ g) (hg2 : g ≤ 512) (hgl : groupsV lg = gl) (hgl1 : 0 ≤ gl) (hn20 : n ≤ 20) (hc : n ≤ c) (hc2 : c ≤ 9223372036854775807) (hl : l.length = c) (hc0 : 0 < c) (h1 : bb ≠ 0) (h2 : 0 < gl) (h3 : 0 < g) (hn : 4 < (n : Int))  (q1 : ((l.getD 0 0) == 0) = false) (q2 : ((l.getD 2 0) == 0) = false) {Q : Ex → St → Prop} (hq : Q .normal (KSt.low (S196 pre n c bb lg m0 m1 l e))) : Gets Try.prog (KH.low ⟨1, 1, [(0, 0, .tail pre .u64 l e)]⟩) (codeAt [1, 1, 1, 1, 0, 1, 0, 0] B) (KSt.low (S146 pre n c bb lg m0 m1 l e)) Q := by
  rw [C1_1_1_1_0_1_0_0]; refine Gets.seq ?_
  rw [C1_1_1_1_0_1_0_0_0]; refine Gets.seq ?_
  refine Gets.ofN fitE grp_sound (conT_agree _ _) 12 40 (by kernel_rfl) (x := .normal) (s' := (S181 pre n c bb lg m0 m1 l e)) (R152 pre n c bb lg m0 m1 l e) ?_
  show Gets _ _ (codeAt [1, 1, 1, 1, 0, 1, 0, 0, 0, 1] B) _ _
  rw [C1_1_1_1_0_1_0_0_0_1]; refine Gets.cond true (by kernel_rfl) ((show evalX (KSt.ts (S181 pre n c bb lg m0 m1 l e)) (.tmp 60) = .bool (decide (4 ≤ ((n : Nat) : Int))) by kernel_rfl).trans (by rw [(show (decide (4 ≤ ((n : Nat) : Int))) = true from decide_eq_true (by omega))])) ?_; show Gets _ _ (codeAt [1, 1, 1, 1, 0, 1, 0, 0, 0, 1, 0] B) _ _
  refine Gets.ofN fitE grp_sound (conT_agree _ _) 12 40 (by kernel_rfl) (x := .normal) (s' := (S146 pre n c bb lg m0 m1 l e)) (R153 pre n c bb lg m0 m1 l e) ?_
  show Gets _ _ (codeAt [1, 1, 1, 1, 0, 1, 0, 0, 1] B) _ _
  rw [C1_1_1_1_0_1_0_0_1]; refine Gets.seq ?_
  rw [C1_1_1_1_0_1_0_0_1_0]; refine Gets.block ?_
  rw [C1_1_1_1_0_1_0_0_1_0_0]; refine Gets.seq ?_
  refine Gets.ofN fitE grp_sound (conT_agree _ _) 12 40 (by kernel_rfl) (x := .normal) (s' := (S183 pre n c bb lg m0 m1 l e)) ((R154 pre n c bb lg m0 m1 l e).trans (by rw [if_pos (⟨by omega, by omega⟩), condT (and_t (rfl) (ble_t (by omega))), condF (nbeq_f (by omega))])) ?_
  show Gets _ _ (codeAt [1, 1, 1, 1, 0, 1, 0, 0, 1, 0, 0, 1] B) _ _
  rw [C1_1_1_1_0_1_0_0_1_0_0_1]; refine Gets.seq ?_
  refine Gets.ofN fitE grp_sound (conT_agree _ _) 12 40 (by kernel_rfl) (x := .normal) (s' := (S189 pre n c l bb lg m0 m1 e)) ((R155 pre n c bb lg m0 m1 l e).trans (by rw [condF (ibeq_f (by ((try simp (disch := omega) only [hg, hgl, wrap_i64_id]) <;> omega))), condT (ble_t (by omega)), obind_at (k := 0) (by omega) (by omega), condF (q1), condT (ble_t (by omega)), obind_at (k := 1) (by omega) (by omega), condT (ble_t (by omega)), obind_at (k := 2) (by omega) (by omega), condF (q2), condT (ble_t (by omega)), obind_at (k := 3) (by omega) (by omega)] <;> rfl)) ?_
  show Gets _ _ (codeAt [1, 1, 1, 1, 0, 1, 0, 0, 1, 0, 0, 1, 1] B) _ _
  rw [C1_1_1_1_0_1_0_0_1_0_0_1_1]; refine Gets.seq ?_
  refine Gets.ofN fitE grp_sound (conT_agree _ _) 12 40 (by kernel_rfl) (x := .normal) (s' := (S191 pre n c l bb lg m0 m1 e)) ((R156 pre n c l bb lg m0 m1 e).trans (by rw [condF (and_f1 (rfl))])) ?_
  show Gets _ _ (codeAt [1, 1, 1, 1, 0, 1, 0, 0, 1, 0, 0, 1, 1, 1] B) _ _
  rw [C1_1_1_1_0_1_0_0_1_0_0_1_1_1]; refine Gets.seq ?_
  refine Gets.ofN fitE grp_sound (conT_agree _ _) 12 40 (by kernel_rfl) (x := .normal) (s' := (S192 pre n c l bb lg m0 m1 e)) (R157 pre n c l bb lg m0 m1 e) ?_
  show Gets _ _ (codeAt [1, 1, 1, 1, 0, 1, 0, 0, 1, 0, 0, 1, 1, 1, 1] B) _ _
  rw [C1_1_1_1_0_1_0_0_1_0_0_1_1_1_1]; refine Gets.seq ?_
  rw [C1_1_1_1_0_1_0_0_1_0_0_1_1_1_1_0]; refine Gets.seq ?_
  refine Gets.ofN fitE grp_sound (conT_agree _ _) 12 40 (by kernel_rfl) (x := .normal) (s' := (S194 pre n c bb lg m0 m1 l e)) ((R158 pre n c l bb lg m0 m1 e).trans (by rw [condF (not_f (and_t (rfl) (and_t (rfl) (and_t (beq_self_eq_true _) (rfl)))))])) ?_
  show Gets _ _ (codeAt [1, 1, 1, 1, 0, 1, 0, 0, 1, 0, 0, 1, 1, 1, 1, 0, 1] B) _ _
  rw [C1_1_1_1_0_1_0_0_1_0_0_1_1_1_1_0_1]; refine Gets.cond false (by kernel_rfl) (show evalX (KSt.ts (S194 pre n c bb lg m0 m1 l e)) (.tmp 123) = .bool false by kernel_rfl) ?_; show Gets _ _ (codeAt [1, 1, 1, 1, 0, 1, 0, 0, 1, 0, 0, 1, 1, 1, 1, 0, 1, 1] B) _ _
  refine Gets.ofN fitE grp_sound (conT_agree _ _) 12 40 (by kernel_rfl) (x := .normal) (s' := (S146 pre n c bb lg m0 m1 l e)) (R159 pre n c bb lg m0 m1 l e) ?_
  show Gets _ _ (codeAt [1, 1, 1, 1, 0, 1, 0, 0, 1, 0, 0, 1, 1, 1, 1, 1] B) _ _
  rw [C1_1_1_1_0_1_0_0_1_0_0_1_1_1_1_1]; refine Gets.seq ?_
  refine Gets.ofN fitE grp_sound (conT_agree _ _) 12 40 (by kernel_rfl) (x := .normal) (s' := (S195 pre n c bb lg m0 m1 l e)) (R160 pre n c bb lg m0 m1 l e) ?_
  show Gets _ _ (codeAt [1, 1, 1, 1, 0, 1, 0, 0, 1, 0, 0, 1, 1, 1, 1, 1, 1] B) _ _
  rw [C1_1_1_1_0_1_0_0_1_0_0_1_1_1_1_1_1]; refine Gets.cond true (by kernel_rfl) ((show evalX (KSt.ts (S195 pre n c bb lg m0 m1 l e)) (.tmp 127) = .bool (decide (4 < ((n : Nat) : Int))) by kernel_rfl).trans (by rw [(show (decide (4 < ((n : Nat) : Int))) = true from decide_eq_true (by omega))])) ?_; show Gets _ _ (codeAt [1, 1, 1, 1, 0, 1, 0, 0, 1, 0, 0, 1, 1, 1, 1, 1, 1, 0] B) _ _
  refine Gets.ofN fitE grp_sound (conT_agree _ _) 12 40 (by kernel_rfl) (x := .normal) (s' := (S146 pre n c bb lg m0 m1 l e)) ((R161 pre n c bb lg m0 m1 l e).trans (by rw [if_pos (⟨by omega, by omega⟩), condT (ble_t (by omega)), obind_at (k := 4) (by omega) (by omega)] <;> rfl)) ?_
  show Gets _ _ (codeAt [1, 1, 1, 1, 0, 1, 0, 0, 1, 1] B) _ _
  refine Gets.ofN fitE grp_sound (conT_agree _ _) 12 40 (by kernel_rfl) (x := .normal) (s' := (S196 pre n c bb lg m0 m1 l e)) (R162 pre n c bb lg m0 m1 l e) ?_
  exact hq
noncomputable def S197 (pre : Nat) (n : Nat) (c : Nat) (i : Int) (bb : Int) (lg : Int) (m0 : Int) (m1 : Int) (l : List Int) (e : TypeId) : KSt := ⟨(frameL 135 [(2, (.slice (some ⟨0, pre, none⟩) n c)), (3, (.pointer (some ⟨1, 0, none⟩))), (4, (.pointer (some ⟨2, 0, none⟩))), (7, (.pointer (some ⟨3, 0, none⟩))), (12, (.int .i64 i))]), ⟨4, 1, [(3, 0, .cells [(.int .u64 bb), (.int .i64 lg), (.int .i64 m0), (.int .i64 m1), (.int .u64 (l.getD 0 0)), (.int .i64 0), (.int .i64 3), (.int .u64 0), (.int .u64 (l.getD 2 0))] 82 true), (2, 0, .cells [(.int .i64 m0), (.int .i64 m1)] 55 true), (1, 0, .cells [(.int .u64 bb), (.int .i64 lg)] 54 true), (0, 0, .tail pre .u64 l e)]⟩⟩
theorem R163 (pre : Nat) (n : Nat) (c : Nat) (bb : Int) (lg : Int) (m0 : Int) (m1 : Int) (l : List Int) (e : TypeId) : evCK Try.prog cfgE (runK Try.prog cfgE fsE (conT grpDom grpE) 12 40) 12 (codeAt [1, 1, 1, 1, 0, 1, 0, 0, 1, 0, 0, 1, 1, 1, 1, 1, 1, 1] B) (S195 pre n c bb lg m0 m1 l e) (normC 1 [2, 3, 4, 7, 12]) =
  some (.normal, (S146 pre n c bb lg m0 m1 l e)) := by kernel_rfl
theorem lp15e_40 (bb lg m0 m1 g gl : Int) (i : Int) (pre n c : Nat) (l : List Int) (e : TypeId) (hb : 0 ≤ bb) (hm : -9223372036854775808 ≤ m1 ∧ m1 < 9223372036854775808) (hg : groupsV m0 = g) (hg1 : 0 ≤ g) (hg2 : g ≤ 512) (hgl : groupsV lg = gl) (hgl1 : 0 ≤ gl) (hn20 : n ≤ 20) (hc : n ≤ c) (hc2 : c ≤ 9223372036854775807) (hl : l.length = c) (hc0 : 0 < c) (h1 : bb ≠ 0) (h2 : 0 < gl) (h3 : 0 < g) (hn : 4 = (n : Int))  (q1 : ((l.getD 0 0) == 0) = false) (q2 : ((l.getD 2 0) == 0) = false) {Q : Ex → St → Prop} (hq : Q .normal (KSt.low (S196 pre n c bb lg m0 m1 l e))) : Gets Try.prog (KH.low ⟨1, 1, [(0, 0, .tail pre .u64 l e)]⟩) (codeAt [1, 1, 1, 1, 0, 1, 0, 0] B) (KSt.low (S146 pre n c bb lg m0 m1 l e)) Q := by
  rw [C1_1_1_1_0_1_0_0]; refine Gets.seq ?_
  rw [C1_1_1_1_0_1_0_0_0]; refine Gets.seq ?_
  refine Gets.ofN fitE grp_sound (conT_agree _ _) 12 40 (by kernel_rfl) (x := .normal) (s' := (S181 pre n c bb lg m0 m1 l e)) (R152 pre n c bb lg m0 m1 l e) ?_
  show Gets _ _ (codeAt [1, 1, 1, 1, 0, 1, 0, 0, 0, 1] B) _ _
  rw [C1_1_1_1_0_1_0_0_0_1]; refine Gets.cond true (by kernel_rfl) ((show evalX (KSt.ts (S181 pre n c bb lg m0 m1 l e)) (.tmp 60) = .bool (decide (4 ≤ ((n : Nat) : Int))) by kernel_rfl).trans (by rw [(show (decide (4 ≤ ((n : Nat) : Int))) = true from decide_eq_true (by omega))])) ?_; show Gets _ _ (codeAt [1, 1, 1, 1, 0, 1, 0, 0, 0, 1, 0] B) _ _
  refine Gets.ofN fitE grp_sound (conT_agree _ _) 12 40 (by kernel_rfl) (x := .normal) (s' := (S146 pre n c bb lg m0 m1 l e)) (R153 pre n c bb lg m0 m1 l e) ?_
  show Gets _ _ (codeAt [1, 1, 1, 1, 0, 1, 0, 0, 1] B) _ _
  rw [C1_1_1_1_0_1_0_0_1]; refine Gets.seq ?_
  rw [C1_1_1_1_0_1_0_0_1_0]; refine Gets.block ?_
  rw [C1_1_1_1_0_1_0_0_1_0_0]; refine Gets.seq ?_
  refine Gets.ofN fitE grp_sound (conT_agree _ _) 12 40 (by kernel_rfl) (x := .normal) (s' := (S183 pre n c bb lg m0 m1 l e)) ((R154 pre n c bb lg m0 m1 l e).trans (by rw [if_pos (⟨by omega, by omega⟩), condT (and_t (rfl) (ble_t (by omega))), condF (nbeq_f (by omega))])) ?_
  show Gets _ _ (codeAt [1, 1, 1, 1, 0, 1, 0, 0, 1, 0, 0, 1] B) _ _
  rw [C1_1_1_1_0_1_0_0_1_0_0_1]; refine Gets.seq ?_
  refine Gets.ofN fitE grp_sound (conT_agree _ _) 12 40 (by kernel_rfl) (x := .normal) (s' := (S189 pre n c l bb lg m0 m1 e)) ((R155 pre n c bb lg m0 m1 l e).trans (by rw [condF (ibeq_f (by ((try simp (disch := omega) only [hg, hgl, wrap_i64_id]) <;> omega))), condT (ble_t (by omega)), obind_at (k := 0) (by omega) (by omega), condF (q1), condT (ble_t (by omega)), obind_at (k := 1) (by omega) (by omega), condT (ble_t (by omega)), obind_at (k := 2) (by omega) (by omega), condF (q2), condT (ble_t (by omega)), obind_at (k := 3) (by omega) (by omega)] <;> rfl)) ?_
  show Gets _ _ (codeAt [1, 1, 1, 1, 0, 1, 0, 0, 1, 0, 0, 1, 1] B) _ _
  rw [C1_1_1_1_0_1_0_0_1_0_0_1_1]; refine Gets.seq ?_
  refine Gets.ofN fitE grp_sound (conT_agree _ _) 12 40 (by kernel_rfl) (x := .normal) (s' := (S191 pre n c l bb lg m0 m1 e)) ((R156 pre n c l bb lg m0 m1 e).trans (by rw [condF (and_f1 (rfl))])) ?_
  show Gets _ _ (codeAt [1, 1, 1, 1, 0, 1, 0, 0, 1, 0, 0, 1, 1, 1] B) _ _
  rw [C1_1_1_1_0_1_0_0_1_0_0_1_1_1]; refine Gets.seq ?_
  refine Gets.ofN fitE grp_sound (conT_agree _ _) 12 40 (by kernel_rfl) (x := .normal) (s' := (S192 pre n c l bb lg m0 m1 e)) (R157 pre n c l bb lg m0 m1 e) ?_
  show Gets _ _ (codeAt [1, 1, 1, 1, 0, 1, 0, 0, 1, 0, 0, 1, 1, 1, 1] B) _ _
  rw [C1_1_1_1_0_1_0_0_1_0_0_1_1_1_1]; refine Gets.seq ?_
  rw [C1_1_1_1_0_1_0_0_1_0_0_1_1_1_1_0]; refine Gets.seq ?_
  refine Gets.ofN fitE grp_sound (conT_agree _ _) 12 40 (by kernel_rfl) (x := .normal) (s' := (S194 pre n c bb lg m0 m1 l e)) ((R158 pre n c l bb lg m0 m1 e).trans (by rw [condF (not_f (and_t (rfl) (and_t (rfl) (and_t (beq_self_eq_true _) (rfl)))))])) ?_
  show Gets _ _ (codeAt [1, 1, 1, 1, 0, 1, 0, 0, 1, 0, 0, 1, 1, 1, 1, 0, 1] B) _ _
  rw [C1_1_1_1_0_1_0_0_1_0_0_1_1_1_1_0_1]; refine Gets.cond false (by kernel_rfl) (show evalX (KSt.ts (S194 pre n c bb lg m0 m1 l e)) (.tmp 123) = .bool false by kernel_rfl) ?_; show Gets _ _ (codeAt [1, 1, 1, 1, 0, 1, 0, 0, 1, 0, 0, 1, 1, 1, 1, 0, 1, 1] B) _ _
  refine Gets.ofN fitE grp_sound (conT_agree _ _) 12 40 (by kernel_rfl) (x := .normal) (s' := (S146 pre n c bb lg m0 m1 l e)) (R159 pre n c bb lg m0 m1 l e) ?_
  show Gets _ _ (codeAt [1, 1, 1, 1, 0, 1, 0, 0, 1, 0, 0, 1, 1, 1, 1, 1] B) _ _
  rw [C1_1_1_1_0_1_0_0_1_0_0_1_1_1_1_1]; refine Gets.seq ?_
  refine Gets.ofN fitE grp_sound (conT_agree _ _) 12 40 (by kernel_rfl) (x := .normal) (s' := (S195 pre n c bb lg m0 m1 l e)) (R160 pre n c bb lg m0 m1 l e) ?_
  show Gets _ _ (codeAt [1, 1, 1, 1, 0, 1, 0, 0, 1, 0, 0, 1, 1, 1, 1, 1, 1] B) _ _
  rw [C1_1_1_1_0_1_0_0_1_0_0_1_1_1_1_1_1]; refine Gets.cond false (by kernel_rfl) ((show evalX (KSt.ts (S195 pre n c bb lg m0 m1 l e)) (.tmp 127) = .bool (decide (4 < ((n : Nat) : Int))) by kernel_rfl).trans (by rw [(show (decide (4 < ((n : Nat) : Int))) = false from decide_eq_false (by omega))])) ?_; show Gets _ _ (codeAt [1, 1, 1, 1, 0, 1, 0, 0, 1, 0, 0, 1, 1, 1, 1, 1, 1, 1] B) _ _
  refine Gets.ofN fitE grp_sound (conT_agree _ _) 12 40 (by kernel_rfl) (x := .normal) (s' := (S146 pre n c bb lg m0 m1 l e)) (R163 pre n c bb lg m0 m1 l e) ?_
  show Gets _ _ (codeAt [1, 1, 1, 1, 0, 1, 0, 0, 1, 1] B) _ _
  refine Gets.ofN fitE grp_sound (conT_agree _ _) 12 40 (by kernel_rfl) (x := .normal) (s' := (S196 pre n c bb lg m0 m1 l e)) (R162 pre n c bb lg m0 m1 l e) ?_
  exact hq
noncomputable def S198 (pre : Nat) (n : Nat) (c : Nat) (i : Int) (bb : Int) (lg : Int) (m0 : Int) (m1 : Int) (l : List Int) (e : TypeId) : KSt := ⟨(frameL 135 [(2, (.slice (some ⟨0, pre, none⟩) n c)), (3, (.pointer (some ⟨1, 0, none⟩))), (4, (.pointer (some ⟨2, 0, none⟩))), (7, (.pointer (some ⟨3, 0, none⟩))), (12, (.int .i64 i)), (60, (.bool (decide (i ≤ ((n : Nat) : Int)))))]), ⟨4, 1, [(3, 0, .cells [(.int .u64 bb), (.int .i64 lg), (.int .i64 m0), (.int .i64 m1), (.int .u64 (l.getD 0 0)), (.int .i64 4), (.int .i64 3), (.int .u64 0), (.int .u64 (l.getD 2 0))] 82 true), (2, 0, .cells [(.int .i64 m0), (.int .i64 m1)] 55 true), (1, 0, .cells [(.int .u64 bb), (.int .i64 lg)] 54 true), (0, 0, .tail pre .u64 l e)]⟩⟩
theorem R164 (pre : Nat) (n : Nat) (c : Nat) (i : Int) (bb : Int) (lg : Int) (m0 : Int) (m1 : Int) (l : List Int) (e : TypeId) : evCK Try.prog cfgE (runK Try.prog cfgE fsE (conT grpDom grpE) 12 40) 12 (codeAt [1, 1, 1, 1, 0, 1, 0, 0, 0, 0] B) (S148 pre n c i bb lg m0 m1 l e) (normC 1 [2, 3, 4, 7, 12, 60]) =
  some (.normal, (S198 pre n c i bb lg m0 m1 l e)) := by kernel_rfl
theorem lp16x_41 (bb lg m0 m1 g gl : Int) (i : Int) (pre n c : Nat) (l : List Int) (e : TypeId) (hx : (n : Int) < i)   {Q : Ex → St → Prop} (hq : Q (.exit 0) (KSt.low (S198 pre n c i bb lg m0 m1 l e))) : Gets Try.prog (KH.low ⟨1, 1, [(0, 0, .tail pre .u64 l e)]⟩) (codeAt [1, 1, 1, 1, 0, 1, 0, 0] B) (KSt.low (S148 pre n c i bb lg m0 m1 l e)) Q := by
  rw [C1_1_1_1_0_1_0_0]; refine Gets.seq ?_
  rw [C1_1_1_1_0_1_0_0_0]; refine Gets.seq ?_
  refine Gets.ofN fitE grp_sound (conT_agree _ _) 12 40 (by kernel_rfl) (x := .normal) (s' := (S198 pre n c i bb lg m0 m1 l e)) (R164 pre n c i bb lg m0 m1 l e) ?_
  show Gets _ _ (codeAt [1, 1, 1, 1, 0, 1, 0, 0, 0, 1] B) _ _
  rw [C1_1_1_1_0_1_0_0_0_1]; refine Gets.cond false (by kernel_rfl) ((show evalX (KSt.ts (S198 pre n c i bb lg m0 m1 l e)) (.tmp 60) = .bool (decide (i ≤ ((n : Nat) : Int))) by kernel_rfl).trans (by rw [(show (decide (i ≤ ((n : Nat) : Int))) = false from decide_eq_false (by omega))])) ?_; show Gets _ _ (codeAt [1, 1, 1, 1, 0, 1, 0, 0, 0, 1, 1] B) _ _
  rw [C1_1_1_1_0_1_0_0_0_1_1]; refine Gets.ev fitE.mix fitE.cfg (fitE.sound grp_sound 12 0) 12 rfl (s' := KSt.low (S198 pre n c i bb lg m0 m1 l e)) (x := (.exit 0)) rfl ?_
  exact hq
theorem R165 (pre : Nat) (n : Nat) (c : Nat) (i : Int) (bb : Int) (lg : Int) (m0 : Int) (m1 : Int) (l : List Int) (e : TypeId) : evCK Try.prog cfgE (runK Try.prog cfgE fsE (conT grpDom grpE) 12 40) 12 (codeAt [1, 1, 1, 1, 1, 0] B) (S198 pre n c i bb lg m0 m1 l e) (normC 1 [6]) =
  some (.normal, (S3 pre l e)) := by kernel_rfl
theorem lp16f_42 (bb lg m0 m1 g gl : Int) (i : Int) (pre n c : Nat) (l : List Int) (e : TypeId)   {Q : Ex → St → Prop} (hq : Q .ret (KSt.low (S3 pre l e))) : Gets Try.prog (KH.low ⟨1, 1, [(0, 0, .tail pre .u64 l e)]⟩) (codeAt [1, 1, 1, 1, 1] B) (KSt.low (S198 pre n c i bb lg m0 m1 l e)) Q := by
  rw [C1_1_1_1_1]; refine Gets.seq ?_
  refine Gets.ofN fitE grp_sound (conT_agree _ _) 12 40 (by kernel_rfl) (x := .normal) (s' := (S3 pre l e)) (R165 pre n c i bb lg m0 m1 l e) ?_
  show Gets _ _ (codeAt [1, 1, 1, 1, 1, 1] B) _ _
  rw [C1_1_1_1_1_1]; refine Gets.ev fitE.mix fitE.cfg (fitE.sound grp_sound 12 0) 12 rfl (s' := KSt.low (S3 pre l e)) (x := .ret) rfl ?_
  exact hq
theorem R166 (pre : Nat) (n : Nat) (c : Nat) (i : Int) (bb : Int) (lg : Int) (m0 : Int) (m1 : Int) (l : List Int) (e : TypeId) : evCK Try.prog cfgE (runK Try.prog cfgE fsE (conT grpDom grpE) 12 40) 12 (codeAt [1, 1, 1, 1, 0, 1, 0, 0, 0, 1, 0] B) (S77 pre n c i bb lg m0 m1 l e) (normC 1 [2, 3, 4, 7, 12]) =
  some (.normal, (S47 pre n c i bb lg m0 m1 l e)) := by kernel_rfl
noncomputable def S199 (pre : Nat) (n : Nat) (c : Nat) (i : Int) (bb : Int) (lg : Int) (m0 : Int) (m1 : Int) (l : List Int) (e : TypeId) : KSt := ⟨(frameL 135 [(2, (.slice (some ⟨0, pre, none⟩) n c)), (3, (.pointer (some ⟨1, 0, none⟩))), (4, (.pointer (some ⟨2, 0, none⟩))), (7, (.pointer (some ⟨3, 0, none⟩))), (12, (.int .i64 i)), (13, (.pointer (some ⟨4, 0, none⟩)))]), ⟨5, 1, [(4, 0, .cells [(.slice (some ⟨0, pre, none⟩) ((Int.toNat i) - 0) (c - 0)), (.int .i64 0), (.bool false), (.int .i64 0), (.int .u64 0), (.int .i64 0), (.int .u64 0), (.int .u64 0)] 31 true), (3, 0, .cells [(.int .u64 bb), (.int .i64 lg), (.int .i64 m0), (.int .i64 m1), (.int .u64 (l.getD 0 0)), (.int .i64 0), (.int .i64 1), (.int .u64 0), (.int .u64 0)] 82 true), (2, 0, .cells [(.int .i64 m0), (.int .i64 m1)] 55 true), (1, 0, .cells [(.int .u64 bb), (.int .i64 lg)] 54 true), (0, 0, .tail pre .u64 l e)]⟩⟩
noncomputable def S200 (pre : Nat) (n : Nat) (c : Nat) (i : Int) (bb : Int) (lg : Int) (m0 : Int) (m1 : Int) (l : List Int) (e : TypeId) : KSt := ⟨(frameL 135 [(2, (.slice (some ⟨0, pre, none⟩) n c)), (3, (.pointer (some ⟨1, 0, none⟩))), (4, (.pointer (some ⟨2, 0, none⟩))), (7, (.pointer (some ⟨3, 0, none⟩))), (12, (.int .i64 i)), (13, (.pointer (some ⟨4, 0, none⟩)))]), ⟨5, 1, [(4, 0, .cells [(.slice (some ⟨0, (pre + 0), none⟩) ((Int.toNat i) - 0) (c - 0)), (.int .i64 0), (.bool false), (.int .i64 0), (.int .u64 0), (.int .i64 0), (.int .u64 0), (.int .u64 0)] 31 true), (3, 0, .cells [(.int .u64 bb), (.int .i64 lg), (.int .i64 m0), (.int .i64 m1), (.int .u64 (l.getD 0 0)), (.int .i64 0), (.int .i64 1), (.int .u64 0), (.int .u64 0)] 82 true), (2, 0, .cells [(.int .i64 m0), (.int .i64 m1)] 55 true), (1, 0, .cells [(.int .u64 bb), (.int .i64 lg)] 54 true), (0, 0, .tail pre .u64 l e)]⟩⟩
theorem R167 (pre : Nat) (n : Nat) (c : Nat) (i : Int) (bb : Int) (lg : Int) (m0 : Int) (m1 : Int) (l : List Int) (e : TypeId) : evCK Try.prog cfgE (runK Try.prog cfgE fsE (conT grpDom grpE) 12 40) 12 (codeAt [1, 1, 1, 1, 0, 1, 0, 0, 1, 0, 0, 0] B) (S47 pre n c i bb lg m0 m1 l e) (normC 1 [2, 3, 4, 7, 12, 13]) =
  if 0 ≤ i ∧ i ≤ ((c : Nat) : Int) then
    bif ((Nat.ble 0 (Int.toNat i)) && (Nat.ble (Int.toNat i) c)) then
      bif (Nat.beq c 0) then
        some (.normal, (S199 pre n c i bb lg m0 m1 l e))
      else
        some (.normal, (S200 pre n c i bb lg m0 m1 l e))
    else
      none
  else
    none := by kernel_rfl
noncomputable def S201 (pre : Nat) (n : Nat) (c : Nat) (i : Int) (bb : Int) (lg : Int) (m0 : Int) (m1 : Int) (l : List Int) (e : TypeId) : KSt := ⟨(frameL 135 [(2, (.slice (some ⟨0, pre, none⟩) n c)), (3, (.pointer (some ⟨1, 0, none⟩))), (4, (.pointer (some ⟨2, 0, none⟩))), (7, (.pointer (some ⟨3, 0, none⟩))), (12, (.int .i64 i)), (13, (.pointer (some ⟨4, 0, none⟩))), (14, (.pointer (some ⟨5, 0, none⟩)))]), ⟨6, 1, [(5, 0, .cells [(.int .i64 1), (.int .u64 0), (.int .u64 0)] 63 true), (4, 0, .cells [(.slice (some ⟨0, (pre + 0), none⟩) ((Int.toNat i) - 0) (c - 0)), (.int .i64 1), (.bool false), (.int .i64 0), (.int .u64 0), (.int .i64 0), (.int .u64 0), (.int .u64 0)] 31 true), (3, 0, .cells [(.int .u64 bb), (.int .i64 lg), (.int .i64 m0), (.int .i64 m1), (.int .u64 (l.getD 0 0)), (.int .i64 0), (.int .i64 1), (.int .u64 0), (.int .u64 0)] 82 true), (2, 0, .cells [(.int .i64 m0), (.int .i64 m1)] 55 true), (1, 0, .cells [(.int .u64 bb), (.int .i64 lg)] 54 true), (0, 0, .tail pre .u64 l e)]⟩⟩
noncomputable def S202 (pre : Nat) (n : Nat) (c : Nat) (i : Int) (n1 : Int) (m1 : Int) (bb : Int) (lg : Int) (m0 : Int) (l : List Int) (e : TypeId) : KSt := ⟨(frameL 135 [(2, (.slice (some ⟨0, pre, none⟩) n c)), (3, (.pointer (some ⟨1, 0, none⟩))), (4, (.pointer (some ⟨2, 0, none⟩))), (7, (.pointer (some ⟨3, 0, none⟩))), (12, (.int .i64 i)), (13, (.pointer (some ⟨4, 0, none⟩))), (14, (.pointer (some ⟨5, 0, none⟩)))]), ⟨6, 1, [(5, 0, .cells [(.int .i64 2), (.int .u64 n1), (.int .u64 (makeRV n1 m1))] 63 true), (4, 0, .cells [(.slice (some ⟨0, (pre + 0), none⟩) ((Int.toNat i) - 0) (c - 0)), (.int .i64 3), (.bool false), (.int .i64 0), (.int .u64 0), (.int .i64 0), (.int .u64 0), (.int .u64 0)] 31 true), (3, 0, .cells [(.int .u64 bb), (.int .i64 lg), (.int .i64 m0), (.int .i64 m1), (.int .u64 (l.getD 0 0)), (.int .i64 0), (.int .i64 1), (.int .u64 0), (.int .u64 0)] 82 true), (2, 0, .cells [(.int .i64 m0), (.int .i64 m1)] 55 true), (1, 0, .cells [(.int .u64 bb), (.int .i64 lg)] 54 true), (0, 0, .tail pre .u64 l e)]⟩⟩
noncomputable def S203 (pre : Nat) (n : Nat) (c : Nat) (i : Int) (n3 : Int) (bb : Int) (lg : Int) (m0 : Int) (m1 : Int) (l : List Int) (e : TypeId) : KSt := ⟨(frameL 135 [(2, (.slice (some ⟨0, pre, none⟩) n c)), (3, (.pointer (some ⟨1, 0, none⟩))), (4, (.pointer (some ⟨2, 0, none⟩))), (7, (.pointer (some ⟨3, 0, none⟩))), (12, (.int .i64 i)), (13, (.pointer (some ⟨4, 0, none⟩))), (14, (.pointer (some ⟨5, 0, none⟩)))]), ⟨6, 1, [(5, 0, .cells [(.int .i64 3), (.int .u64 0), (.int .u64 n3)] 63 true), (4, 0, .cells [(.slice (some ⟨0, (pre + 0), none⟩) ((Int.toNat i) - 0) (c - 0)), (.int .i64 4), (.bool false), (.int .i64 0), (.int .u64 0), (.int .i64 0), (.int .u64 0), (.int .u64 0)] 31 true), (3, 0, .cells [(.int .u64 bb), (.int .i64 lg), (.int .i64 m0), (.int .i64 m1), (.int .u64 (l.getD 0 0)), (.int .i64 0), (.int .i64 1), (.int .u64 0), (.int .u64 0)] 82 true), (2, 0, .cells [(.int .i64 m0), (.int .i64 m1)] 55 true), (1, 0, .cells [(.int .u64 bb), (.int .i64 lg)] 54 true), (0, 0, .tail pre .u64 l e)]⟩⟩
noncomputable def S204 (pre : Nat) (n : Nat) (c : Nat) (i : Int) (n3 : Int) (n1 : Int) (bb : Int) (lg : Int) (m0 : Int) (m1 : Int) (l : List Int) (e : TypeId) : KSt := ⟨(frameL 135 [(2, (.slice (some ⟨0, pre, none⟩) n c)), (3, (.pointer (some ⟨1, 0, none⟩))), (4, (.pointer (some ⟨2, 0, none⟩))), (7, (.pointer (some ⟨3, 0, none⟩))), (12, (.int .i64 i)), (13, (.pointer (some ⟨4, 0, none⟩))), (14, (.pointer (some ⟨5, 0, none⟩)))]), ⟨6, 1, [(5, 0, .cells [(.int .i64 3), (.int .u64 0), (.int .u64 n3)] 63 true), (4, 0, .cells [(.slice (some ⟨0, (pre + 0), none⟩) ((Int.toNat i) - 0) (c - 0)), (.int .i64 3), (.bool true), (.int .i64 6), (.int .u64 n1), (.int .i64 0), (.int .u64 0), (.int .u64 0)] 31 true), (3, 0, .cells [(.int .u64 bb), (.int .i64 lg), (.int .i64 m0), (.int .i64 m1), (.int .u64 (l.getD 0 0)), (.int .i64 0), (.int .i64 1), (.int .u64 0), (.int .u64 0)] 82 true), (2, 0, .cells [(.int .i64 m0), (.int .i64 m1)] 55 true), (1, 0, .cells [(.int .u64 bb), (.int .i64 lg)] 54 true), (0, 0, .tail pre .u64 l e)]⟩⟩
noncomputable def S205 (pre : Nat) (n : Nat) (c : Nat) (i : Int) (n1 : Int) (m1 : Int) (bb : Int) (lg : Int) (m0 : Int) (l : List Int) (e : TypeId) : KSt := ⟨(frameL 135 [(2, (.slice (some ⟨0, pre, none⟩) n c)), (3, (.pointer (some ⟨1, 0, none⟩))), (4, (.pointer (some ⟨2, 0, none⟩))), (7, (.pointer (some ⟨3, 0, none⟩))), (12, (.int .i64 i)), (13, (.pointer (some ⟨4, 0, none⟩))), (14, (.pointer (some ⟨5, 0, none⟩)))]), ⟨6, 1, [(5, 0, .cells [(.int .i64 2), (.int .u64 n1), (.int .u64 (makeRV n1 m1))] 63 true), (4, 0, .cells [(.slice (some ⟨0, (pre + 0), none⟩) ((Int.toNat i) - 0) (c - 0)), (.int .i64 2), (.bool true), (.int .i64 3), (.int .u64 bb), (.int .i64 1), (.int .u64 0), (.int .u64 (makeRV n1 m1))] 31 true), (3, 0, .cells [(.int .u64 bb), (.int .i64 lg), (.int .i64 m0), (.int .i64 m1), (.int .u64 (l.getD 0 0)), (.int .i64 0), (.int .i64 1), (.int .u64 0), (.int .u64 0)] 82 true), (2, 0, .cells [(.int .i64 m0), (.int .i64 m1)] 55 true), (1, 0, .cells [(.int .u64 bb), (.int .i64 lg)] 54 true), (0, 0, .tail pre .u64 l e)]⟩⟩
noncomputable def S206 (pre : Nat) (n : Nat) (c : Nat) (i : Int) (n1 : Int) (m1 : Int) (m0 : Int) (bb : Int) (lg : Int) (l : List Int) (e : TypeId) : KSt := ⟨(frameL 135 [(2, (.slice (some ⟨0, pre, none⟩) n c)), (3, (.pointer (some ⟨1, 0, none⟩))), (4, (.pointer (some ⟨2, 0, none⟩))), (7, (.pointer (some ⟨3, 0, none⟩))), (12, (.int .i64 i)), (13, (.pointer (some ⟨4, 0, none⟩))), (14, (.pointer (some ⟨5, 0, none⟩)))]), ⟨6, 1, [(5, 0, .cells [(.int .i64 2), (.int .u64 n1), (.int .u64 (makeRV n1 m1))] 63 true), (4, 0, .cells [(.slice (some ⟨0, (pre + 0), none⟩) ((Int.toNat i) - 0) (c - 0)), (.int .i64 1), (.bool true), (.int .i64 2), (.int .u64 n1), (.int .i64 0), (.int .u64 0), (.int .u64 (IntKind.wrap .u64 m0))] 31 true), (3, 0, .cells [(.int .u64 bb), (.int .i64 lg), (.int .i64 m0), (.int .i64 m1), (.int .u64 (l.getD 0 0)), (.int .i64 0), (.int .i64 1), (.int .u64 0), (.int .u64 0)] 82 true), (2, 0, .cells [(.int .i64 m0), (.int .i64 m1)] 55 true), (1, 0, .cells [(.int .u64 bb), (.int .i64 lg)] 54 true), (0, 0, .tail pre .u64 l e)]⟩⟩
noncomputable def S207 (pre : Nat) (n : Nat) (c : Nat) (i : Int) (bb : Int) (lg : Int) (m0 : Int) (m1 : Int) (l : List Int) (e : TypeId) : KSt := ⟨(frameL 135 [(2, (.slice (some ⟨0, pre, none⟩) n c)), (3, (.pointer (some ⟨1, 0, none⟩))), (4, (.pointer (some ⟨2, 0, none⟩))), (7, (.pointer (some ⟨3, 0, none⟩))), (12, (.int .i64 i)), (13, (.pointer (some ⟨4, 0, none⟩))), (14, (.pointer (some ⟨5, 0, none⟩)))]), ⟨6, 1, [(5, 0, .cells [(.int .i64 1), (.int .u64 0), (.int .u64 0)] 63 true), (4, 0, .cells [(.slice (some ⟨0, (pre + 0), none⟩) ((Int.toNat i) - 0) (c - 0)), (.int .i64 0), (.bool true), (.int .i64 5), (.int .u64 0), (.int .i64 0), (.int .u64 0), (.int .u64 0)] 31 true), (3, 0, .cells [(.int .u64 bb), (.int .i64 lg), (.int .i64 m0), (.int .i64 m1), (.int .u64 (l.getD 0 0)), (.int .i64 0), (.int .i64 1), (.int .u64 0), (.int .u64 0)] 82 true), (2, 0, .cells [(.int .i64 m0), (.int .i64 m1)] 55 true), (1, 0, .cells [(.int .u64 bb), (.int .i64 lg)] 54 true), (0, 0, .tail pre .u64 l e)]⟩⟩
noncomputable def S208 (pre : Nat) (n : Nat) (c : Nat) (i : Int) (n5 : Int) (m1 : Int) (bb : Int) (lg : Int) (m0 : Int) (l : List Int) (e : TypeId) : KSt := ⟨(frameL 135 [(2, (.slice (some ⟨0, pre, none⟩) n c)), (3, (.pointer (some ⟨1, 0, none⟩))), (4, (.pointer (some ⟨2, 0, none⟩))), (7, (.pointer (some ⟨3, 0, none⟩))), (12, (.int .i64 i)), (13, (.pointer (some ⟨4, 0, none⟩))), (14, (.pointer (some ⟨5, 0, none⟩)))]), ⟨6, 1, [(5, 0, .cells [(.int .i64 2), (.int .u64 n5), (.int .u64 (makeRV n5 m1))] 63 true), (4, 0, .cells [(.slice (some ⟨0, (pre + 0), none⟩) ((Int.toNat i) - 0) (c - 0)), (.int .i64 3), (.bool false), (.int .i64 0), (.int .u64 0), (.int .i64 0), (.int .u64 0), (.int .u64 0)] 31 true), (3, 0, .cells [(.int .u64 bb), (.int .i64 lg), (.int .i64 m0), (.int .i64 m1), (.int .u64 (l.getD 0 0)), (.int .i64 0), (.int .i64 1), (.int .u64 0), (.int .u64 0)] 82 true), (2, 0, .cells [(.int .i64 m0), (.int .i64 m1)] 55 true), (1, 0, .cells [(.int .u64 bb), (.int .i64 lg)] 54 true), (0, 0, .tail pre .u64 l e)]⟩⟩
noncomputable def S209 (pre : Nat) (n : Nat) (c : Nat) (i : Int) (n7 : Int) (bb : Int) (lg : Int) (m0 : Int) (m1 : Int) (l : List Int) (e : TypeId) : KSt := ⟨(frameL 135 [(2, (.slice (some ⟨0, pre, none⟩) n c)), (3, (.pointer (some ⟨1, 0, none⟩))), (4, (.pointer (some ⟨2, 0, none⟩))), (7, (.pointer (some ⟨3, 0, none⟩))), (12, (.int .i64 i)), (13, (.pointer (some ⟨4, 0, none⟩))), (14, (.pointer (some ⟨5, 0, none⟩)))]), ⟨6, 1, [(5, 0, .cells [(.int .i64 3), (.int .u64 0), (.int .u64 n7)] 63 true), (4, 0, .cells [(.slice (some ⟨0, (pre + 0), none⟩) ((Int.toNat i) - 0) (c - 0)), (.int .i64 4), (.bool false), (.int .i64 0), (.int .u64 0), (.int .i64 0), (.int .u64 0), (.int .u64 0)] 31 true), (3, 0, .cells [(.int .u64 bb), (.int .i64 lg), (.int .i64 m0), (.int .i64 m1), (.int .u64 (l.getD 0 0)), (.int .i64 0), (.int .i64 1), (.int .u64 0), (.int .u64 0)] 82 true), (2, 0, .cells [(.int .i64 m0), (.int .i64 m1)] 55 true), (1, 0, .cells [(.int .u64 bb), (.int .i64 lg)] 54 true), (0, 0, .tail pre .u64 l e)]⟩⟩
noncomputable def S210 (pre : Nat) (n : Nat) (c : Nat) (i : Int) (n7 : Int) (n5 : Int) (bb : Int) (lg : Int) (m0 : Int) (m1 : Int) (l : List Int) (e : TypeId) : KSt := ⟨(frameL 135 [(2, (.slice (some ⟨0, pre, none⟩) n c)), (3, (.pointer (some ⟨1, 0, none⟩))), (4, (.pointer (some ⟨2, 0, none⟩))), (7, (.pointer (some ⟨3, 0, none⟩))), (12, (.int .i64 i)), (13, (.pointer (some ⟨4, 0, none⟩))), (14, (.pointer (some ⟨5, 0, none⟩)))]), ⟨6, 1, [(5, 0, .cells [(.int .i64 3), (.int .u64 0), (.int .u64 n7)] 63 true), (4, 0, .cells [(.slice (some ⟨0, (pre + 0), none⟩) ((Int.toNat i) - 0) (c - 0)), (.int .i64 3), (.bool true), (.int .i64 6), (.int .u64 n5), (.int .i64 0), (.int .u64 0), (.int .u64 0)] 31 true), (3, 0, .cells [(.int .u64 bb), (.int .i64 lg), (.int .i64 m0), (.int .i64 m1), (.int .u64 (l.getD 0 0)), (.int .i64 0), (.int .i64 1), (.int .u64 0), (.int .u64 0)] 82 true), (2, 0, .cells [(.int .i64 m0), (.int .i64 m1)] 55 true), (1, 0, .cells [(.int .u64 bb), (.int .i64 lg)] 54 true), (0, 0, .tail pre .u64 l e)]⟩⟩
noncomputable def S211 (pre : Nat) (n : Nat) (c : Nat) (i : Int) (n5 : Int) (m1 : Int) (bb : Int) (lg : Int) (m0 : Int) (l : List Int) (e : TypeId) : KSt := ⟨(frameL 135 [(2, (.slice (some ⟨0, pre, none⟩) n c)), (3, (.pointer (some ⟨1, 0, none⟩))), (4, (.pointer (some ⟨2, 0, none⟩))), (7, (.pointer (some ⟨3, 0, none⟩))), (12, (.int .i64 i)), (13, (.pointer (some ⟨4, 0, none⟩))), (14, (.pointer (some ⟨5, 0, none⟩)))]), ⟨6, 1, [(5, 0, .cells [(.int .i64 2), (.int .u64 n5), (.int .u64 (makeRV n5 m1))] 63 true), (4, 0, .cells [(.slice (some ⟨0, (pre + 0), none⟩) ((Int.toNat i) - 0) (c - 0)), (.int .i64 2), (.bool true), (.int .i64 3), (.int .u64 bb), (.int .i64 1), (.int .u64 0), (.int .u64 (makeRV n5 m1))] 31 true), (3, 0, .cells [(.int .u64 bb), (.int .i64 lg), (.int .i64 m0), (.int .i64 m1), (.int .u64 (l.getD 0 0)), (.int .i64 0), (.int .i64 1), (.int .u64 0), (.int .u64 0)] 82 true), (2, 0, .cells [(.int .i64 m0), (.int .i64 m1)] 55 true), (1, 0, .cells [(.int .u64 bb), (.int .i64 lg)] 54 true), (0, 0, .tail pre .u64 l e)]⟩⟩
noncomputable def S212 (pre : Nat) (n : Nat) (c : Nat) (i : Int) (n5 : Int) (m1 : Int) (m0 : Int) (bb : Int) (lg : Int) (l : List Int) (e : TypeId) : KSt := ⟨(frameL 135 [(2, (.slice (some ⟨0, pre, none⟩) n c)), (3, (.pointer (some ⟨1, 0, none⟩))), (4, (.pointer (some ⟨2, 0, none⟩))), (7, (.pointer (some ⟨3, 0, none⟩))), (12, (.int .i64 i)), (13, (.pointer (some ⟨4, 0, none⟩))), (14, (.pointer (some ⟨5, 0, none⟩)))]), ⟨6, 1, [(5, 0, .cells [(.int .i64 2), (.int .u64 n5), (.int .u64 (makeRV n5 m1))] 63 true), (4, 0, .cells [(.slice (some ⟨0, (pre + 0), none⟩) ((Int.toNat i) - 0) (c - 0)), (.int .i64 1), (.bool true), (.int .i64 2), (.int .u64 n5), (.int .i64 0), (.int .u64 0), (.int .u64 (IntKind.wrap .u64 m0))] 31 true), (3, 0, .cells [(.int .u64 bb), (.int .i64 lg), (.int .i64 m0), (.int .i64 m1), (.int .u64 (l.getD 0 0)), (.int .i64 0), (.int .i64 1), (.int .u64 0), (.int .u64 0)] 82 true), (2, 0, .cells [(.int .i64 m0), (.int .i64 m1)] 55 true), (1, 0, .cells [(.int .u64 bb), (.int .i64 lg)] 54 true), (0, 0, .tail pre .u64 l e)]⟩⟩
noncomputable def S213 (pre : Nat) (n : Nat) (c : Nat) (i : Int) (m0 : Int) (bb : Int) (lg : Int) (m1 : Int) (l : List Int) (e : TypeId) : KSt := ⟨(frameL 135 [(2, (.slice (some ⟨0, pre, none⟩) n c)), (3, (.pointer (some ⟨1, 0, none⟩))), (4, (.pointer (some ⟨2, 0, none⟩))), (7, (.pointer (some ⟨3, 0, none⟩))), (12, (.int .i64 i)), (13, (.pointer (some ⟨4, 0, none⟩))), (14, (.pointer (some ⟨5, 0, none⟩)))]), ⟨6, 1, [(5, 0, .cells [(.int .i64 1), (.int .u64 0), (.int .u64 0)] 63 true), (4, 0, .cells [(.slice (some ⟨0, (pre + 0), none⟩) ((Int.toNat i) - 0) (c - 0)), (.int .i64 0), (.bool true), (.int .i64 5), (.int .u64 0), (.int .i64 (IntKind.wrap .i64 (7 + (IntKind.wrap .i64 (9 * (groupsV m0)))))), (.int .u64 0), (.int .u64 0)] 31 true), (3, 0, .cells [(.int .u64 bb), (.int .i64 lg), (.int .i64 m0), (.int .i64 m1), (.int .u64 (l.getD 0 0)), (.int .i64 0), (.int .i64 1), (.int .u64 0), (.int .u64 0)] 82 true), (2, 0, .cells [(.int .i64 m0), (.int .i64 m1)] 55 true), (1, 0, .cells [(.int .u64 bb), (.int .i64 lg)] 54 true), (0, 0, .tail pre .u64 l e)]⟩⟩
theorem R168 (pre : Nat) (n : Nat) (c : Nat) (i : Int) (bb : Int) (lg : Int) (m0 : Int) (m1 : Int) (l : List Int) (e : TypeId) : evCK Try.prog cfgE (runK Try.prog cfgE fsE (conT grpDom grpE) 12 40) 12 (codeAt [1, 1, 1, 1, 0, 1, 0, 0, 1, 0, 0, 1, 0] B) (S200 pre n c i bb lg m0 m1 l e) (normC 1 [2, 3, 4, 7, 12, 13, 14]) =
  bif ((groupsV m0) == 0) then
    bif (decide (0 < ((((Int.toNat i) - 0) : Nat) : Int))) then
      if (0 : Int) ≤ 0 ∧ 0 < ((((Int.toNat i) - 0) : Nat) : Int) then
        bif (Nat.ble pre ((pre + 0) + 0)) then
          obind (l[(((pre + 0) + 0) - pre)]?) fun n1 =>
            bif (n1 == 0) then
              some (.normal, (S201 pre n c i bb lg m0 m1 l e))
            else
              bif (decide (1 < ((((Int.toNat i) - 0) : Nat) : Int))) then
                if (0 : Int) ≤ 1 ∧ 1 < ((((Int.toNat i) - 0) : Nat) : Int) then
                  bif (Nat.ble pre ((pre + 0) + 1)) then
                    obind (l[(((pre + 0) + 1) - pre)]?) fun n2 =>
                      bif (decide (2 < ((((Int.toNat i) - 0) : Nat) : Int))) then
                        if (0 : Int) ≤ 2 ∧ 2 < ((((Int.toNat i) - 0) : Nat) : Int) then
                          bif (Nat.ble pre ((pre + 0) + 2)) then
                            obind (l[(((pre + 0) + 2) - pre)]?) fun n3 =>
                              bif (n3 == 0) then
                                some (.normal, (S202 pre n c i n1 m1 bb lg m0 l e))
                              else
                                bif (decide (3 < ((((Int.toNat i) - 0) : Nat) : Int))) then
                                  if (0 : Int) ≤ 3 ∧ 3 < ((((Int.toNat i) - 0) : Nat) : Int) then
                                    bif (Nat.ble pre ((pre + 0) + 3)) then
                                      obind (l[(((pre + 0) + 3) - pre)]?) fun n4 =>
                                        some (.normal, (S203 pre n c i n3 bb lg m0 m1 l e))
                                    else
                                      none
                                  else
                                    none
                                else
                                  some (.normal, (S204 pre n c i n3 n1 bb lg m0 m1 l e))
                          else
                            none
                        else
                          none
                      else
                        some (.normal, (S205 pre n c i n1 m1 bb lg m0 l e))
                  else
                    none
                else
                  none
              else
                some (.normal, (S206 pre n c i n1 m1 m0 bb lg l e))
        else
          none
      else
        none
    else
      some (.normal, (S207 pre n c i bb lg m0 m1 l e))
  else
    bif (decide (0 < ((((Int.toNat i) - 0) : Nat) : Int))) then
      if (0 : Int) ≤ 0 ∧ 0 < ((((Int.toNat i) - 0) : Nat) : Int) then
        bif (Nat.ble pre ((pre + 0) + 0)) then
          obind (l[(((pre + 0) + 0) - pre)]?) fun n5 =>
            bif (n5 == 0) then
              some (.normal, (S201 pre n c i bb lg m0 m1 l e))
            else
              bif (decide (1 < ((((Int.toNat i) - 0) : Nat) : Int))) then
                if (0 : Int) ≤ 1 ∧ 1 < ((((Int.toNat i) - 0) : Nat) : Int) then
                  bif (Nat.ble pre ((pre + 0) + 1)) then
                    obind (l[(((pre + 0) + 1) - pre)]?) fun n6 =>
                      bif (decide (2 < ((((Int.toNat i) - 0) : Nat) : Int))) then
                        if (0 : Int) ≤ 2 ∧ 2 < ((((Int.toNat i) - 0) : Nat) : Int) then
                          bif (Nat.ble pre ((pre + 0) + 2)) then
                            obind (l[(((pre + 0) + 2) - pre)]?) fun n7 =>
                              bif (n7 == 0) then
                                some (.normal, (S208 pre n c i n5 m1 bb lg m0 l e))
                              else
                                bif (decide (3 < ((((Int.toNat i) - 0) : Nat) : Int))) then
                                  if (0 : Int) ≤ 3 ∧ 3 < ((((Int.toNat i) - 0) : Nat) : Int) then
                                    bif (Nat.ble pre ((pre + 0) + 3)) then
                                      obind (l[(((pre + 0) + 3) - pre)]?) fun n8 =>
                                        some (.normal, (S209 pre n c i n7 bb lg m0 m1 l e))
                                    else
                                      none
                                  else
                                    none
                                else
                                  some (.normal, (S210 pre n c i n7 n5 bb lg m0 m1 l e))
                          else
                            none
                        else
                          none
                      else
                        some (.normal, (S211 pre n c i n5 m1 bb lg m0 l e))
                  else
                    none
                else
                  none
              else
                some (.normal, (S212 pre n c i n5 m1 m0 bb lg l e))
        else
          none
      else
        none
    else
      some (.normal, (S213 pre n c i m0 bb lg m1 l e)) := by kernel_rfl
noncomputable def S214 (pre : Nat) (n : Nat) (c : Nat) (i : Int) (bb : Int) (lg : Int) (m0 : Int) (m1 : Int) (l : List Int) (e : TypeId) : KSt := ⟨(frameL 135 [(2, (.slice (some ⟨0, pre, none⟩) n c)), (3, (.pointer (some ⟨1, 0, none⟩))), (4, (.pointer (some ⟨2, 0, none⟩))), (7, (.pointer (some ⟨3, 0, none⟩))), (12, (.int .i64 i)), (13, (.pointer (some ⟨4, 0, none⟩))), (14, (.pointer (some ⟨5, 0, none⟩))), (15, (.pointer (some ⟨6, 0, none⟩))), (16, (.bool true))]), ⟨7, 1, [(6, 0, .cells [(.int .i64 1), (.int .u64 0), (.int .u64 0)] 60 true), (5, 0, .cells [(.int .i64 1), (.int .u64 0), (.int .u64 0)] 63 true), (4, 0, .cells [(.slice (some ⟨0, (pre + 0), none⟩) ((Int.toNat i) - 0) (c - 0)), (.int .i64 1), (.bool false), (.int .i64 0), (.int .u64 0), (.int .i64 0), (.int .u64 0), (.int .u64 0)] 31 true), (3, 0, .cells [(.int .u64 bb), (.int .i64 lg), (.int .i64 m0), (.int .i64 m1), (.int .u64 (l.getD 0 0)), (.int .i64 0), (.int .i64 1), (.int .u64 0), (.int .u64 0)] 82 true), (2, 0, .cells [(.int .i64 m0), (.int .i64 m1)] 55 true), (1, 0, .cells [(.int .u64 bb), (.int .i64 lg)] 54 true), (0, 0, .tail pre .u64 l e)]⟩⟩
theorem R169 (pre : Nat) (n : Nat) (c : Nat) (i : Int) (bb : Int) (lg : Int) (m0 : Int) (m1 : Int) (l : List Int) (e : TypeId) : evCK Try.prog cfgE (runK Try.prog cfgE fsE (conT grpDom grpE) 12 40) 12 (codeAt [1, 1, 1, 1, 0, 1, 0, 0, 1, 0, 0, 1, 1, 0] B) (S201 pre n c i bb lg m0 m1 l e) (normC 1 [2, 3, 4, 7, 12, 13, 14, 15, 16]) =
  some (.normal, (S214 pre n c i bb lg m0 m1 l e)) := by kernel_rfl
noncomputable def S215 (pre : Nat) (n : Nat) (c : Nat) (i : Int) (bb : Int) (lg : Int) (m0 : Int) (m1 : Int) (l : List Int) (e : TypeId) : KSt := ⟨(frameL 135 [(2, (.slice (some ⟨0, pre, none⟩) n c)), (3, (.pointer (some ⟨1, 0, none⟩))), (4, (.pointer (some ⟨2, 0, none⟩))), (7, (.pointer (some ⟨3, 0, none⟩))), (12, (.int .i64 i)), (13, (.pointer (some ⟨4, 0, none⟩))), (14, (.pointer (some ⟨5, 0, none⟩))), (15, (.pointer (some ⟨6, 0, none⟩))), (16, (.bool true)), (17, (.pointer (some ⟨7, 0, none⟩))), (18, (.bool false))]), ⟨8, 1, [(7, 0, .cells [(.int .i64 0), (.int .u64 0), (.int .i64 0), (.int .u64 0), (.int .u64 0)] 29 true), (6, 0, .cells [(.int .i64 1), (.int .u64 0), (.int .u64 0)] 60 true), (5, 0, .cells [(.int .i64 1), (.int .u64 0), (.int .u64 0)] 63 true), (4, 0, .cells [(.slice (some ⟨0, (pre + 0), none⟩) ((Int.toNat i) - 0) (c - 0)), (.int .i64 1), (.bool false), (.int .i64 0), (.int .u64 0), (.int .i64 0), (.int .u64 0), (.int .u64 0)] 31 true), (3, 0, .cells [(.int .u64 bb), (.int .i64 lg), (.int .i64 m0), (.int .i64 m1), (.int .u64 (l.getD 0 0)), (.int .i64 0), (.int .i64 1), (.int .u64 0), (.int .u64 0)] 82 true), (2, 0, .cells [(.int .i64 m0), (.int .i64 m1)] 55 true), (1, 0, .cells [(.int .u64 bb), (.int .i64 lg)] 54 true), (0, 0, .tail pre .u64 l e)]⟩⟩
theorem R170 (pre : Nat) (n : Nat) (c : Nat) (i : Int) (bb : Int) (lg : Int) (m0 : Int) (m1 : Int) (l : List Int) (e : TypeId) : evCK Try.prog cfgE (runK Try.prog cfgE fsE (conT grpDom grpE) 12 40) 12 (codeAt [1, 1, 1, 1, 0, 1, 0, 0, 1, 0, 0, 1, 1, 1, 0] B) (S214 pre n c i bb lg m0 m1 l e) (normC 1 [2, 3, 4, 7, 12, 13, 14, 15, 16, 17, 18]) =
  some (.normal, (S215 pre n c i bb lg m0 m1 l e)) := by kernel_rfl
noncomputable def S216 (pre : Nat) (n : Nat) (c : Nat) (i : Int) (bb : Int) (lg : Int) (m0 : Int) (m1 : Int) (l : List Int) (e : TypeId) : KSt := ⟨(frameL 135 [(2, (.slice (some ⟨0, pre, none⟩) n c)), (3, (.pointer (some ⟨1, 0, none⟩))), (4, (.pointer (some ⟨2, 0, none⟩))), (7, (.pointer (some ⟨3, 0, none⟩))), (12, (.int .i64 i)), (123, (.bool false))]), ⟨4, 1, [(3, 0, .cells [(.int .u64 bb), (.int .i64 lg), (.int .i64 m0), (.int .i64 m1), (.int .u64 (l.getD 0 0)), (.int .i64 0), (.int .i64 1), (.int .u64 0), (.int .u64 0)] 82 true), (2, 0, .cells [(.int .i64 m0), (.int .i64 m1)] 55 true), (1, 0, .cells [(.int .u64 bb), (.int .i64 lg)] 54 true), (0, 0, .tail pre .u64 l e)]⟩⟩
theorem R171 (pre : Nat) (n : Nat) (c : Nat) (i : Int) (bb : Int) (lg : Int) (m0 : Int) (m1 : Int) (l : List Int) (e : TypeId) : evCK Try.prog cfgE (runK Try.prog cfgE fsE (conT grpDom grpE) 12 40) 12 (codeAt [1, 1, 1, 1, 0, 1, 0, 0, 1, 0, 0, 1, 1, 1, 1, 0, 0] B) (S215 pre n c i bb lg m0 m1 l e) (normC 1 [2, 3, 4, 7, 12, 123]) =
  some (.normal, (S216 pre n c i bb lg m0 m1 l e)) := by kernel_rfl
theorem R172 (pre : Nat) (n : Nat) (c : Nat) (i : Int) (bb : Int) (lg : Int) (m0 : Int) (m1 : Int) (l : List Int) (e : TypeId) : evCK Try.prog cfgE (runK Try.prog cfgE fsE (conT grpDom grpE) 12 40) 12 (codeAt [1, 1, 1, 1, 0, 1, 0, 0, 1, 0, 0, 1, 1, 1, 1, 0, 1, 1] B) (S216 pre n c i bb lg m0 m1 l e) (normC 1 [2, 3, 4, 7, 12]) =
  some (.normal, (S47 pre n c i bb lg m0 m1 l e)) := by kernel_rfl
noncomputable def S217 (pre : Nat) (n : Nat) (c : Nat) (i : Int) (bb : Int) (lg : Int) (m0 : Int) (m1 : Int) (l : List Int) (e : TypeId) : KSt := ⟨(frameL 135 [(2, (.slice (some ⟨0, pre, none⟩) n c)), (3, (.pointer (some ⟨1, 0, none⟩))), (4, (.pointer (some ⟨2, 0, none⟩))), (7, (.pointer (some ⟨3, 0, none⟩))), (12, (.int .i64 i)), (127, (.bool (decide (i < ((n : Nat) : Int)))))]), ⟨4, 1, [(3, 0, .cells [(.int .u64 bb), (.int .i64 lg), (.int .i64 m0), (.int .i64 m1), (.int .u64 (l.getD 0 0)), (.int .i64 0), (.int .i64 1), (.int .u64 0), (.int .u64 0)] 82 true), (2, 0, .cells [(.int .i64 m0), (.int .i64 m1)] 55 true), (1, 0, .cells [(.int .u64 bb), (.int .i64 lg)] 54 true), (0, 0, .tail pre .u64 l e)]⟩⟩
theorem R173 (pre : Nat) (n : Nat) (c : Nat) (i : Int) (bb : Int) (lg : Int) (m0 : Int) (m1 : Int) (l : List Int) (e : TypeId) : evCK Try.prog cfgE (runK Try.prog cfgE fsE (conT grpDom grpE) 12 40) 12 (codeAt [1, 1, 1, 1, 0, 1, 0, 0, 1, 0, 0, 1, 1, 1, 1, 1, 0] B) (S47 pre n c i bb lg m0 m1 l e) (normC 1 [2, 3, 4, 7, 12, 127]) =
  some (.normal, (S217 pre n c i bb lg m0 m1 l e)) := by kernel_rfl
theorem R174 (pre : Nat) (n : Nat) (c : Nat) (i : Int) (bb : Int) (lg : Int) (m0 : Int) (m1 : Int) (l : List Int) (e : TypeId) : evCK Try.prog cfgE (runK Try.prog cfgE fsE (conT grpDom grpE) 12 40) 12 (codeAt [1, 1, 1, 1, 0, 1, 0, 0, 1, 0, 0, 1, 1, 1, 1, 1, 1, 0] B) (S217 pre n c i bb lg m0 m1 l e) (normC 1 [2, 3, 4, 7, 12]) =
  if 0 ≤ i ∧ i < ((n : Nat) : Int) then
    bif (Nat.ble pre (pre + ((Int.toNat i) * 1))) then
      obind (l[((pre + ((Int.toNat i) * 1)) - pre)]?) fun n1 =>
        some (.normal, (S47 pre n c i bb lg m0 m1 l e))
    else
      none
  else
    none := by kernel_rfl
noncomputable def S218 (pre : Nat) (n : Nat) (c : Nat) (i : Int) (bb : Int) (lg : Int) (m0 : Int) (m1 : Int) (l : List Int) (e : TypeId) : KSt := ⟨(frameL 135 [(2, (.slice (some ⟨0, pre, none⟩) n c)), (3, (.pointer (some ⟨1, 0, none⟩))), (4, (.pointer (some ⟨2, 0, none⟩))), (7, (.pointer (some ⟨3, 0, none⟩))), (12, (.int .i64 (IntKind.wrap .i64 (i + 1))))]), ⟨4, 1, [(3, 0, .cells [(.int .u64 bb), (.int .i64 lg), (.int .i64 m0), (.int .i64 m1), (.int .u64 (l.getD 0 0)), (.int .i64 0), (.int .i64 1), (.int .u64 0), (.int .u64 0)] 82 true), (2, 0, .cells [(.int .i64 m0), (.int .i64 m1)] 55 true), (1, 0, .cells [(.int .u64 bb), (.int .i64 lg)] 54 true), (0, 0, .tail pre .u64 l e)]⟩⟩
theorem R175 (pre : Nat) (n : Nat) (c : Nat) (i : Int) (bb : Int) (lg : Int) (m0 : Int) (m1 : Int) (l : List Int) (e : TypeId) : evCK Try.prog cfgE (runK Try.prog cfgE fsE (conT grpDom grpE) 12 40) 12 (codeAt [1, 1, 1, 1, 0, 1, 0, 0, 1, 1] B) (S47 pre n c i bb lg m0 m1 l e) (normC 1 [2, 3, 4, 7, 12]) =
  some (.normal, (S218 pre n c i bb lg m0 m1 l e)) := by kernel_rfl
noncomputable def S219 (pre : Nat) (n : Nat) (c : Nat) (i : Int) (bb : Int) (lg : Int) (m0 : Int) (m1 : Int) (l : List Int) (e : TypeId) : KSt := ⟨(frameL 135 [(2, (.slice (some ⟨0, pre, none⟩) n c)), (3, (.pointer (some ⟨1, 0, none⟩))), (4, (.pointer (some ⟨2, 0, none⟩))), (7, (.pointer (some ⟨3, 0, none⟩))), (12, (.int .i64 (i + 1)))]), ⟨4, 1, [(3, 0, .cells [(.int .u64 bb), (.int .i64 lg), (.int .i64 m0), (.int .i64 m1), (.int .u64 (l.getD 0 0)), (.int .i64 0), (.int .i64 1), (.int .u64 0), (.int .u64 0)] 82 true), (2, 0, .cells [(.int .i64 m0), (.int .i64 m1)] 55 true), (1, 0, .cells [(.int .u64 bb), (.int .i64 lg)] 54 true), (0, 0, .tail pre .u64 l e)]⟩⟩
theorem lp17m_43 (bb lg m0 m1 g gl : Int) (i : Int) (pre n c : Nat) (l : List Int) (e : TypeId) (hb : 0 ≤ bb) (hm : -9223372036854775808 ≤ m1 ∧ m1 < 9223372036854775808) (hg : groupsV m0 = g) (hg1 : 0 ≤ g) (hg2 : g ≤ 512) (hgl : groupsV lg = gl) (hgl1 : 0 ≤ gl) (hn20 : n ≤ 20) (hc : n ≤ c) (hc2 : c ≤ 9223372036854775807) (hl : l.length = c) (hc0 : 0 < c) (h1 : bb ≠ 0) (h2 : 0 < gl) (h3 : 0 < g) (hi : 5 ≤ i) (hn : i < (n : Int))  (q1 : ((l.getD 0 0) == 0) = true) {Q : Ex → St → Prop} (hq : Q .normal (KSt.low (S219 pre n c i bb lg m0 m1 l e))) : Gets Try.prog (KH.low ⟨1, 1, [(0, 0, .tail pre .u64 l e)]⟩) (codeAt [1, 1, 1, 1, 0, 1, 0, 0] B) (KSt.low (S47 pre n c i bb lg m0 m1 l e)) Q := by
  rw [C1_1_1_1_0_1_0_0]; refine Gets.seq ?_
  rw [C1_1_1_1_0_1_0_0_0]; refine Gets.seq ?_
  refine Gets.ofN fitE grp_sound (conT_agree _ _) 12 40 (by kernel_rfl) (x := .normal) (s' := (S77 pre n c i bb lg m0 m1 l e)) (R69 pre n c i bb lg m0 m1 l e) ?_
  show Gets _ _ (codeAt [1, 1, 1, 1, 0, 1, 0, 0, 0, 1] B) _ _
  rw [C1_1_1_1_0_1_0_0_0_1]; refine Gets.cond true (by kernel_rfl) ((show evalX (KSt.ts (S77 pre n c i bb lg m0 m1 l e)) (.tmp 60) = .bool (decide (i ≤ ((n : Nat) : Int))) by kernel_rfl).trans (by rw [(show (decide (i ≤ ((n : Nat) : Int))) = true from decide_eq_true (by omega))])) ?_; show Gets _ _ (codeAt [1, 1, 1, 1, 0, 1, 0, 0, 0, 1, 0] B) _ _
  refine Gets.ofN fitE grp_sound (conT_agree _ _) 12 40 (by kernel_rfl) (x := .normal) (s' := (S47 pre n c i bb lg m0 m1 l e)) (R166 pre n c i bb lg m0 m1 l e) ?_
  show Gets _ _ (codeAt [1, 1, 1, 1, 0, 1, 0, 0, 1] B) _ _
  rw [C1_1_1_1_0_1_0_0_1]; refine Gets.seq ?_
  rw [C1_1_1_1_0_1_0_0_1_0]; refine Gets.block ?_
  rw [C1_1_1_1_0_1_0_0_1_0_0]; refine Gets.seq ?_
  refine Gets.ofN fitE grp_sound (conT_agree _ _) 12 40 (by kernel_rfl) (x := .normal) (s' := (S200 pre n c i bb lg m0 m1 l e)) ((R167 pre n c i bb lg m0 m1 l e).trans (by rw [if_pos (⟨by omega, by omega⟩), condT (and_t (ble_t (by omega)) (ble_t (by omega))), condF (nbeq_f (by omega))])) ?_
  show Gets _ _ (codeAt [1, 1, 1, 1, 0, 1, 0, 0, 1, 0, 0, 1] B) _ _
  rw [C1_1_1_1_0_1_0_0_1_0_0_1]; refine Gets.seq ?_
  refine Gets.ofN fitE grp_sound (conT_agree _ _) 12 40 (by kernel_rfl) (x := .normal) (s' := (S201 pre n c i bb lg m0 m1 l e)) ((R168 pre n c i bb lg m0 m1 l e).trans (by rw [condF (ibeq_f (by ((try simp (disch := omega) only [hg, hgl, wrap_i64_id]) <;> omega))), condT (decide_eq_true (by omega)), if_pos (⟨by omega, by omega⟩), condT (ble_t (by omega)), obind_at (k := 0) (by omega) (by omega), condT (q1)] <;> rfl)) ?_
  show Gets _ _ (codeAt [1, 1, 1, 1, 0, 1, 0, 0, 1, 0, 0, 1, 1] B) _ _
  rw [C1_1_1_1_0_1_0_0_1_0_0_1_1]; refine Gets.seq ?_
  refine Gets.ofN fitE grp_sound (conT_agree _ _) 12 40 (by kernel_rfl) (x := .normal) (s' := (S214 pre n c i bb lg m0 m1 l e)) (R169 pre n c i bb lg m0 m1 l e) ?_
  show Gets _ _ (codeAt [1, 1, 1, 1, 0, 1, 0, 0, 1, 0, 0, 1, 1, 1] B) _ _
  rw [C1_1_1_1_0_1_0_0_1_0_0_1_1_1]; refine Gets.seq ?_
  refine Gets.ofN fitE grp_sound (conT_agree _ _) 12 40 (by kernel_rfl) (x := .normal) (s' := (S215 pre n c i bb lg m0 m1 l e)) (R170 pre n c i bb lg m0 m1 l e) ?_
  show Gets _ _ (codeAt [1, 1, 1, 1, 0, 1, 0, 0, 1, 0, 0, 1, 1, 1, 1] B) _ _
  rw [C1_1_1_1_0_1_0_0_1_0_0_1_1_1_1]; refine Gets.seq ?_
  rw [C1_1_1_1_0_1_0_0_1_0_0_1_1_1_1_0]; refine Gets.seq ?_
  refine Gets.ofN fitE grp_sound (conT_agree _ _) 12 40 (by kernel_rfl) (x := .normal) (s' := (S216 pre n c i bb lg m0 m1 l e)) (R171 pre n c i bb lg m0 m1 l e) ?_
  show Gets _ _ (codeAt [1, 1, 1, 1, 0, 1, 0, 0, 1, 0, 0, 1, 1, 1, 1, 0, 1] B) _ _
  rw [C1_1_1_1_0_1_0_0_1_0_0_1_1_1_1_0_1]; refine Gets.cond false (by kernel_rfl) (show evalX (KSt.ts (S216 pre n c i bb lg m0 m1 l e)) (.tmp 123) = .bool false by kernel_rfl) ?_; show Gets _ _ (codeAt [1, 1, 1, 1, 0, 1, 0, 0, 1, 0, 0, 1, 1, 1, 1, 0, 1, 1] B) _ _
  refine Gets.ofN fitE grp_sound (conT_agree _ _) 12 40 (by kernel_rfl) (x := .normal) (s' := (S47 pre n c i bb lg m0 m1 l e)) (R172 pre n c i bb lg m0 m1 l e) ?_
  show Gets _ _ (codeAt [1, 1, 1, 1, 0, 1, 0, 0, 1, 0, 0, 1, 1, 1, 1, 1] B) _ _
  rw [C1_1_1_1_0_1_0_0_1_0_0_1_1_1_1_1]; refine Gets.seq ?_
  refine Gets.ofN fitE grp_sound (conT_agree _ _) 12 40 (by kernel_rfl) (x := .normal) (s' := (S217 pre n c i bb lg m0 m1 l e)) (R173 pre n c i bb lg m0 m1 l e) ?_
  show Gets _ _ (codeAt [1, 1, 1, 1, 0, 1, 0, 0, 1, 0, 0, 1, 1, 1, 1, 1, 1] B) _ _
  rw [C1_1_1_1_0_1_0_0_1_0_0_1_1_1_1_1_1]; refine Gets.cond true (by kernel_rfl) ((show evalX (KSt.ts (S217 pre n c i bb lg m0 m1 l e)) (.tmp 127) = .bool (decide (i < ((n : Nat) : Int))) by kernel_rfl).trans (by rw [(show (decide (i < ((n : Nat) : Int))) = true from decide_eq_true (by omega))])) ?_; show Gets _ _ (codeAt [1, 1, 1, 1, 0, 1, 0, 0, 1, 0, 0, 1, 1, 1, 1, 1, 1, 0] B) _ _
  refine Gets.ofN fitE grp_sound (conT_agree _ _) 12 40 (by kernel_rfl) (x := .normal) (s' := (S47 pre n c i bb lg m0 m1 l e)) ((R174 pre n c i bb lg m0 m1 l e).trans (by rw [if_pos (⟨by omega, by omega⟩), condT (ble_t (by omega)), obind_at (k := ((Int.toNat i) * 1)) (by omega) (by omega)] <;> rfl)) ?_
  show Gets _ _ (codeAt [1, 1, 1, 1, 0, 1, 0, 0, 1, 1] B) _ _
  refine Gets.ofN fitE grp_sound (conT_agree _ _) 12 40 (by kernel_rfl) (x := .normal) (s' := (S219 pre n c i bb lg m0 m1 l e)) ((R175 pre n c i bb lg m0 m1 l e).trans (by (show some (Ex.normal, (S218 pre n c i bb lg m0 m1 l e)) = some (Ex.normal, (S219 pre n c i bb lg m0 m1 l e)); unfold S218 S219; rw [(show (IntKind.wrap .i64 (i + 1)) = (i + 1) from wrap_i64_id (by omega) (by omega))]))) ?_
  exact hq
theorem R176 (pre : Nat) (n : Nat) (c : Nat) (i : Int) (bb : Int) (lg : Int) (m0 : Int) (m1 : Int) (l : List Int) (e : TypeId) : evCK Try.prog cfgE (runK Try.prog cfgE fsE (conT grpDom grpE) 12 40) 12 (codeAt [1, 1, 1, 1, 0, 1, 0, 0, 1, 0, 0, 1, 1, 1, 1, 1, 1, 1] B) (S217 pre n c i bb lg m0 m1 l e) (normC 1 [2, 3, 4, 7, 12]) =
  some (.normal, (S47 pre n c i bb lg m0 m1 l e)) := by kernel_rfl
theorem lp17e_44 (bb lg m0 m1 g gl : Int) (i : Int) (pre n c : Nat) (l : List Int) (e : TypeId) (hb : 0 ≤ bb) (hm : -9223372036854775808 ≤ m1 ∧ m1 < 9223372036854775808) (hg : groupsV m0 = g) (hg1 : 0 ≤ g) (hg2 : g ≤ 512) (hgl : groupsV lg = gl) (hgl1 : 0 ≤ gl) (hn20 : n ≤ 20) (hc : n ≤ c) (hc2 : c ≤ 9223372036854775807) (hl : l.length = c) (hc0 : 0 < c) (h1 : bb ≠ 0) (h2 : 0 < gl) (h3 : 0 < g) (hi : 5 ≤ i) (hn : i = (n : Int))  (q1 : ((l.getD 0 0) == 0) = true) {Q : Ex → St → Prop} (hq : Q .normal (KSt.low (S219 pre n c i bb lg m0 m1 l e))) : Gets Try.prog (KH.low ⟨1, 1, [(0, 0, .tail pre .u64 l e)]⟩) (codeAt [1, 1, 1, 1, 0, 1, 0, 0] B) (KSt.low (S47 pre n c i bb lg m0 m1 l e)) Q := by
  rw [C1_1_1_1_0_1_0_0]; refine Gets.seq ?_
  rw [C1_1_1_1_0_1_0_0_0]; refine Gets.seq ?_
  refine Gets.ofN fitE grp_sound (conT_agree _ _) 12 40 (by kernel_rfl) (x := .normal) (s' := (S77 pre n c i bb lg m0 m1 l e)) (R69 pre n c i bb lg m0 m1 l e) ?_
  show Gets _ _ (codeAt [1, 1, 1, 1, 0, 1, 0, 0, 0, 1] B) _ _
  rw [C1_1_1_1_0_1_0_0_0_1]; refine Gets.cond true (by kernel_rfl) ((show evalX (KSt.ts (S77 pre n c i bb lg m0 m1 l e)) (.tmp 60) = .bool (decide (i ≤ ((n : Nat) : Int))) by kernel_rfl).trans (by rw [(show (decide (i ≤ ((n : Nat) : Int))) = true from decide_eq_true (by omega))])) ?_; show Gets _ _ (codeAt [1, 1, 1, 1, 0, 1, 0, 0, 0, 1, 0] B) _ _
  refine Gets.ofN fitE grp_sound (conT_agree _ _) 12 40 (by kernel_rfl) (x := .normal) (s' := (S47 pre n c i bb lg m0 m1 l e)) (R166 pre n c i bb lg m0 m1 l e) ?_
  show Gets _ _ (codeAt [1, 1, 1, 1, 0, 1, 0, 0, 1] B) _ _
  rw [C1_1_1_1_0_1_0_0_1]; refine Gets.seq ?_
  rw [C1_1_1_1_0_1_0_0_1_0]; refine Gets.block ?_
  rw [C1_1_1_1_0_1_0_0_1_0_0]; refine Gets.seq ?_
  refine Gets.ofN fitE grp_sound (conT_agree _ _) 12 40 (by kernel_rfl) (x := .normal) (s' := (S200 pre n c i bb lg m0 m1 l e)) ((R167 pre n c i bb lg m0 m1 l e).trans (by rw [if_pos (⟨by omega, by omega⟩), condT (and_t (ble_t (by omega)) (ble_t (by omega))), condF (nbeq_f (by omega))])) ?_
  show Gets _ _ (codeAt [1, 1, 1, 1, 0, 1, 0, 0, 1, 0, 0, 1] B) _ _
  rw [C1_1_1_1_0_1_0_0_1_0_0_1]; refine Gets.seq ?_
  refine Gets.ofN fitE grp_sound (conT_agree _ _) 12 40 (by kernel_rfl) (x := .normal) (s' := (S201 pre n c i bb lg m0 m1 l e)) ((R168 pre n c i bb lg m0 m1 l e).trans (by rw [condF (ibeq_f (by ((try simp (disch := omega) only [hg, hgl, wrap_i64_id]) <;> omega))), condT (decide_eq_true (by omega)), if_pos (⟨by omega, by omega⟩), condT (ble_t (by omega)), obind_at (k := 0) (by omega) (by omega), condT (q1)] <;> rfl)) ?_
  show Gets _ _ (codeAt [1, 1, 1, 1, 0, 1, 0, 0, 1, 0, 0, 1, 1] B) _ _
  rw [C1_1_1_1_0_1_0_0_1_0_0_1_1]; refine Gets.seq ?_
  refine Gets.ofN fitE grp_sound (conT_agree _ _) 12 40 (by kernel_rfl) (x := .normal) (s' := (S214 pre n c i bb lg m0 m1 l e)) (R169 pre n c i bb lg m0 m1 l e) ?_
  show Gets _ _ (codeAt [1, 1, 1, 1, 0, 1, 0, 0, 1, 0, 0, 1, 1, 1] B) _ _
  rw [C1_1_1_1_0_1_0_0_1_0_0_1_1_1]; refine Gets.seq ?_
  refine Gets.ofN fitE grp_sound (conT_agree _ _) 12 40 (by kernel_rfl) (x := .normal) (s' := (S215 pre n c i bb lg m0 m1 l e)) (R170 pre n c i bb lg m0 m1 l e) ?_
  show Gets _ _ (codeAt [1, 1, 1, 1, 0, 1, 0, 0, 1, 0, 0, 1, 1, 1, 1] B) _ _
  rw [C1_1_1_1_0_1_0_0_1_0_0_1_1_1_1]; refine Gets.seq ?_
  rw [C1_1_1_1_0_1_0_0_1_0_0_1_1_1_1_0]; refine Gets.seq ?_
  refine Gets.ofN fitE grp_sound (conT_agree _ _) 12 40 (by kernel_rfl) (x := .normal) (s' := (S216 pre n c i bb lg m0 m1 l e)) (R171 pre n c i bb lg m0 m1 l e) ?_
  show Gets _ _ (codeAt [1, 1, 1, 1, 0, 1, 0, 0, 1, 0, 0, 1, 1, 1, 1, 0, 1] B) _ _
  rw [C1_1_1_1_0_1_0_0_1_0_0_1_1_1_1_0_1]; refine Gets.cond false (by kernel_rfl) (show evalX (KSt.ts (S216 pre n c i bb lg m0 m1 l e)) (.tmp 123) = .bool false by kernel_rfl) ?_; show Gets _ _ (codeAt [1, 1, 1, 1, 0, 1, 0, 0, 1, 0, 0, 1, 1, 1, 1, 0, 1, 1] B) _ _
  refine Gets.ofN fitE grp_sound (conT_agree _ _) 12 40 (by kernel_rfl) (x := .normal) (s' := (S47 pre n c i bb lg m0 m1 l e)) (R172 pre n c i bb lg m0 m1 l e) ?_
  show Gets _ _ (codeAt [1, 1, 1, 1, 0, 1, 0, 0, 1, 0, 0, 1, 1, 1, 1, 1] B) _ _
  rw [C1_1_1_1_0_1_0_0_1_0_0_1_1_1_1_1]; refine Gets.seq ?_
  refine Gets.ofN fitE grp_sound (conT_agree _ _) 12 40 (by kernel_rfl) (x := .normal) (s' := (S217 pre n c i bb lg m0 m1 l e)) (R173 pre n c i bb lg m0 m1 l e) ?_
  show Gets _ _ (codeAt [1, 1, 1, 1, 0, 1, 0, 0, 1, 0, 0, 1, 1, 1, 1, 1, 1] B) _ _
  rw [C1_1_1_1_0_1_0_0_1_0_0_1_1_1_1_1_1]; refine Gets.cond false (by kernel_rfl) ((show evalX (KSt.ts (S217 pre n c i bb lg m0 m1 l e)) (.tmp 127) = .bool (decide (i < ((n : Nat) : Int))) by kernel_rfl).trans (by rw [(show (decide (i < ((n : Nat) : Int))) = false from decide_eq_false (by omega))])) ?_; show Gets _ _ (codeAt [1, 1, 1, 1, 0, 1, 0, 0, 1, 0, 0, 1, 1, 1, 1, 1, 1, 1] B) _ _
  refine Gets.ofN fitE grp_sound (conT_agree _ _) 12 40 (by kernel_rfl) (x := .normal) (s' := (S47 pre n c i bb lg m0 m1 l e)) (R176 pre n c i bb lg m0 m1 l e) ?_
  show Gets _ _ (codeAt [1, 1, 1, 1, 0, 1, 0, 0, 1, 1] B) _ _
  refine Gets.ofN fitE grp_sound (conT_agree _ _) 12 40 (by kernel_rfl) (x := .normal) (s' := (S219 pre n c i bb lg m0 m1 l e)) ((R175 pre n c i bb lg m0 m1 l e).trans (by (show some (Ex.normal, (S218 pre n c i bb lg m0 m1 l e)) = some (Ex.normal, (S219 pre n c i bb lg m0 m1 l e)); unfold S218 S219; rw [(show (IntKind.wrap .i64 (i + 1)) = (i + 1) from wrap_i64_id (by omega) (by omega))]))) ?_
  exact hq
theorem R177 (pre : Nat) (n : Nat) (c : Nat) (i : Int) (bb : Int) (lg : Int) (m0 : Int) (m1 : Int) (l : List Int) (e : TypeId) : evCK Try.prog cfgE (runK Try.prog cfgE fsE (conT grpDom grpE) 12 40) 12 (codeAt [1, 1, 1, 1, 0, 1, 0, 0, 0, 1, 0] B) (S180 pre n c i bb lg m0 m1 l e) (normC 1 [2, 3, 4, 7, 12]) =
  some (.normal, (S130 pre n c i bb lg m0 m1 l e)) := by kernel_rfl
noncomputable def S220 (pre : Nat) (n : Nat) (c : Nat) (i : Int) (bb : Int) (lg : Int) (m0 : Int) (m1 : Int) (l : List Int) (e : TypeId) : KSt := ⟨(frameL 135 [(2, (.slice (some ⟨0, pre, none⟩) n c)), (3, (.pointer (some ⟨1, 0, none⟩))), (4, (.pointer (some ⟨2, 0, none⟩))), (7, (.pointer (some ⟨3, 0, none⟩))), (12, (.int .i64 i)), (13, (.pointer (some ⟨4, 0, none⟩)))]), ⟨5, 1, [(4, 0, .cells [(.slice (some ⟨0, pre, none⟩) ((Int.toNat i) - 0) (c - 0)), (.int .i64 0), (.bool false), (.int .i64 0), (.int .u64 0), (.int .i64 0), (.int .u64 0), (.int .u64 0)] 31 true), (3, 0, .cells [(.int .u64 bb), (.int .i64 lg), (.int .i64 m0), (.int .i64 m1), (.int .u64 (l.getD 0 0)), (.int .i64 0), (.int .i64 2), (.int .u64 (l.getD 0 0)), (.int .u64 (makeV (l.getD 0 0) m1))] 82 true), (2, 0, .cells [(.int .i64 m0), (.int .i64 m1)] 55 true), (1, 0, .cells [(.int .u64 bb), (.int .i64 lg)] 54 true), (0, 0, .tail pre .u64 l e)]⟩⟩
noncomputable def S221 (pre : Nat) (n : Nat) (c : Nat) (i : Int) (bb : Int) (lg : Int) (m0 : Int) (m1 : Int) (l : List Int) (e : TypeId) : KSt := ⟨(frameL 135 [(2, (.slice (some ⟨0, pre, none⟩) n c)), (3, (.pointer (some ⟨1, 0, none⟩))), (4, (.pointer (some ⟨2, 0, none⟩))), (7, (.pointer (some ⟨3, 0, none⟩))), (12, (.int .i64 i)), (13, (.pointer (some ⟨4, 0, none⟩)))]), ⟨5, 1, [(4, 0, .cells [(.slice (some ⟨0, (pre + 0), none⟩) ((Int.toNat i) - 0) (c - 0)), (.int .i64 0), (.bool false), (.int .i64 0), (.int .u64 0), (.int .i64 0), (.int .u64 0), (.int .u64 0)] 31 true), (3, 0, .cells [(.int .u64 bb), (.int .i64 lg), (.int .i64 m0), (.int .i64 m1), (.int .u64 (l.getD 0 0)), (.int .i64 0), (.int .i64 2), (.int .u64 (l.getD 0 0)), (.int .u64 (makeV (l.getD 0 0) m1))] 82 true), (2, 0, .cells [(.int .i64 m0), (.int .i64 m1)] 55 true), (1, 0, .cells [(.int .u64 bb), (.int .i64 lg)] 54 true), (0, 0, .tail pre .u64 l e)]⟩⟩
theorem R178 (pre : Nat) (n : Nat) (c : Nat) (i : Int) (bb : Int) (lg : Int) (m0 : Int) (m1 : Int) (l : List Int) (e : TypeId) : evCK Try.prog cfgE (runK Try.prog cfgE fsE (conT grpDom grpE) 12 40) 12 (codeAt [1, 1, 1, 1, 0, 1, 0, 0, 1, 0, 0, 0] B) (S130 pre n c i bb lg m0 m1 l e) (normC 1 [2, 3, 4, 7, 12, 13]) =
  if 0 ≤ i ∧ i ≤ ((c : Nat) : Int) then
    bif ((Nat.ble 0 (Int.toNat i)) && (Nat.ble (Int.toNat i) c)) then
      bif (Nat.beq c 0) then
        some (.normal, (S220 pre n c i bb lg m0 m1 l e))
      else
        some (.normal, (S221 pre n c i bb lg m0 m1 l e))
    else
      none
  else
    none := by kernel_rfl
noncomputable def S222 (pre : Nat) (n : Nat) (c : Nat) (i : Int) (bb : Int) (lg : Int) (m0 : Int) (m1 : Int) (l : List Int) (e : TypeId) : KSt := ⟨(frameL 135 [(2, (.slice (some ⟨0, pre, none⟩) n c)), (3, (.pointer (some ⟨1, 0, none⟩))), (4, (.pointer (some ⟨2, 0, none⟩))), (7, (.pointer (some ⟨3, 0, none⟩))), (12, (.int .i64 i)), (13, (.pointer (some ⟨4, 0, none⟩))), (14, (.pointer (some ⟨5, 0, none⟩)))]), ⟨6, 1, [(5, 0, .cells [(.int .i64 1), (.int .u64 0), (.int .u64 0)] 63 true), (4, 0, .cells [(.slice (some ⟨0, (pre + 0), none⟩) ((Int.toNat i) - 0) (c - 0)), (.int .i64 1), (.bool false), (.int .i64 0), (.int .u64 0), (.int .i64 0), (.int .u64 0), (.int .u64 0)] 31 true), (3, 0, .cells [(.int .u64 bb), (.int .i64 lg), (.int .i64 m0), (.int .i64 m1), (.int .u64 (l.getD 0 0)), (.int .i64 0), (.int .i64 2), (.int .u64 (l.getD 0 0)), (.int .u64 (makeV (l.getD 0 0) m1))] 82 true), (2, 0, .cells [(.int .i64 m0), (.int .i64 m1)] 55 true), (1, 0, .cells [(.int .u64 bb), (.int .i64 lg)] 54 true), (0, 0, .tail pre .u64 l e)]⟩⟩
noncomputable def S223 (pre : Nat) (n : Nat) (c : Nat) (i : Int) (n1 : Int) (m1 : Int) (bb : Int) (lg : Int) (m0 : Int) (l : List Int) (e : TypeId) : KSt := ⟨(frameL 135 [(2, (.slice (some ⟨0, pre, none⟩) n c)), (3, (.pointer (some ⟨1, 0, none⟩))), (4, (.pointer (some ⟨2, 0, none⟩))), (7, (.pointer (some ⟨3, 0, none⟩))), (12, (.int .i64 i)), (13, (.pointer (some ⟨4, 0, none⟩))), (14, (.pointer (some ⟨5, 0, none⟩)))]), ⟨6, 1, [(5, 0, .cells [(.int .i64 2), (.int .u64 n1), (.int .u64 (makeRV n1 m1))] 63 true), (4, 0, .cells [(.slice (some ⟨0, (pre + 0), none⟩) ((Int.toNat i) - 0) (c - 0)), (.int .i64 3), (.bool false), (.int .i64 0), (.int .u64 0), (.int .i64 0), (.int .u64 0), (.int .u64 0)] 31 true), (3, 0, .cells [(.int .u64 bb), (.int .i64 lg), (.int .i64 m0), (.int .i64 m1), (.int .u64 (l.getD 0 0)), (.int .i64 0), (.int .i64 2), (.int .u64 (l.getD 0 0)), (.int .u64 (makeV (l.getD 0 0) m1))] 82 true), (2, 0, .cells [(.int .i64 m0), (.int .i64 m1)] 55 true), (1, 0, .cells [(.int .u64 bb), (.int .i64 lg)] 54 true), (0, 0, .tail pre .u64 l e)]⟩⟩
noncomputable def S224 (pre : Nat) (n : Nat) (c : Nat) (i : Int) (n3 : Int) (bb : Int) (lg : Int) (m0 : Int) (m1 : Int) (l : List Int) (e : TypeId) : KSt := ⟨(frameL 135 [(2, (.slice (some ⟨0, pre, none⟩) n c)), (3, (.pointer (some ⟨1, 0, none⟩))), (4, (.pointer (some ⟨2, 0, none⟩))), (7, (.pointer (some ⟨3, 0, none⟩))), (12, (.int .i64 i)), (13, (.pointer (some ⟨4, 0, none⟩))), (14, (.pointer (some ⟨5, 0, none⟩)))]), ⟨6, 1, [(5, 0, .cells [(.int .i64 3), (.int .u64 0), (.int .u64 n3)] 63 true), (4, 0, .cells [(.slice (some ⟨0, (pre + 0), none⟩) ((Int.toNat i) - 0) (c - 0)), (.int .i64 4), (.bool false), (.int .i64 0), (.int .u64 0), (.int .i64 0), (.int .u64 0), (.int .u64 0)] 31 true), (3, 0, .cells [(.int .u64 bb), (.int .i64 lg), (.int .i64 m0), (.int .i64 m1), (.int .u64 (l.getD 0 0)), (.int .i64 0), (.int .i64 2), (.int .u64 (l.getD 0 0)), (.int .u64 (makeV (l.getD 0 0) m1))] 82 true), (2, 0, .cells [(.int .i64 m0), (.int .i64 m1)] 55 true), (1, 0, .cells [(.int .u64 bb), (.int .i64 lg)] 54 true), (0, 0, .tail pre .u64 l e)]⟩⟩
noncomputable def S225 (pre : Nat) (n : Nat) (c : Nat) (i : Int) (n3 : Int) (n1 : Int) (bb : Int) (lg : Int) (m0 : Int) (m1 : Int) (l : List Int) (e : TypeId) : KSt := ⟨(frameL 135 [(2, (.slice (some ⟨0, pre, none⟩) n c)), (3, (.pointer (some ⟨1, 0, none⟩))), (4, (.pointer (some ⟨2, 0, none⟩))), (7, (.pointer (some ⟨3, 0, none⟩))), (12, (.int .i64 i)), (13, (.pointer (some ⟨4, 0, none⟩))), (14, (.pointer (some ⟨5, 0, none⟩)))]), ⟨6, 1, [(5, 0, .cells [(.int .i64 3), (.int .u64 0), (.int .u64 n3)] 63 true), (4, 0, .cells [(.slice (some ⟨0, (pre + 0), none⟩) ((Int.toNat i) - 0) (c - 0)), (.int .i64 3), (.bool true), (.int .i64 6), (.int .u64 n1), (.int .i64 0), (.int .u64 0), (.int .u64 0)] 31 true), (3, 0, .cells [(.int .u64 bb), (.int .i64 lg), (.int .i64 m0), (.int .i64 m1), (.int .u64 (l.getD 0 0)), (.int .i64 0), (.int .i64 2), (.int .u64 (l.getD 0 0)), (.int .u64 (makeV (l.getD 0 0) m1))] 82 true), (2, 0, .cells [(.int .i64 m0), (.int .i64 m1)] 55 true), (1, 0, .cells [(.int .u64 bb), (.int .i64 lg)] 54 true), (0, 0, .tail pre .u64 l e)]⟩⟩
noncomputable def S226 (pre : Nat) (n : Nat) (c : Nat) (i : Int) (n1 : Int) (m1 : Int) (bb : Int) (lg : Int) (m0 : Int) (l : List Int) (e : TypeId) : KSt := ⟨(frameL 135 [(2, (.slice (some ⟨0, pre, none⟩) n c)), (3, (.pointer (some ⟨1, 0, none⟩))), (4, (.pointer (some ⟨2, 0, none⟩))), (7, (.pointer (some ⟨3, 0, none⟩))), (12, (.int .i64 i)), (13, (.pointer (some ⟨4, 0, none⟩))), (14, (.pointer (some ⟨5, 0, none⟩)))]), ⟨6, 1, [(5, 0, .cells [(.int .i64 2), (.int .u64 n1), (.int .u64 (makeRV n1 m1))] 63 true), (4, 0, .cells [(.slice (some ⟨0, (pre + 0), none⟩) ((Int.toNat i) - 0) (c - 0)), (.int .i64 2), (.bool true), (.int .i64 3), (.int .u64 bb), (.int .i64 1), (.int .u64 0), (.int .u64 (makeRV n1 m1))] 31 true), (3, 0, .cells [(.int .u64 bb), (.int .i64 lg), (.int .i64 m0), (.int .i64 m1), (.int .u64 (l.getD 0 0)), (.int .i64 0), (.int .i64 2), (.int .u64 (l.getD 0 0)), (.int .u64 (makeV (l.getD 0 0) m1))] 82 true), (2, 0, .cells [(.int .i64 m0), (.int .i64 m1)] 55 true), (1, 0, .cells [(.int .u64 bb), (.int .i64 lg)] 54 true), (0, 0, .tail pre .u64 l e)]⟩⟩
end Go.Proofs.Ytmphcolclkpnnab.extendActs
