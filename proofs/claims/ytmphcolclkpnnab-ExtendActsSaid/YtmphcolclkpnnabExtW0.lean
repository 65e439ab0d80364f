/- ExtendActs: roads. -/
import Derived.Test.YtmphcolclkpnnabGroups
import Derived.WalkKit
import Derived.ProofKit
import Derived.OpenShut
import Derived.ChangeOld
import Derived.Below
import Derived.SizedLaws
namespace Go.Proofs.Ytmphcolclkpnnab.extendActs
open Go.Eng
open Go.ChangeShapes Go.WideShapes Go.ChangeAt Go.RowKit
set_option linter.unusedVariables false
set_option linter.unusedSimpArgs false
set_option maxRecDepth 100000
noncomputable def cfgE : Cfg := ⟨[29, 60, 63]⟩
noncomputable def fsE : List FuncId := [6, 25, 26, 27, 28, 29, 30, 31, 44, 45, 46, 48, 49, 50, 51, 53, 54, 55]
theorem fitE : Fit Try.prog cfgE fsE := ⟨by kernel_rfl, Cfg.ok_of (by kernel_rfl), by kernel_rfl⟩
noncomputable def B : Code := bodyOf Try.prog 6
theorem B_is : Try.f6.body = some B := by kernel_rfl
theorem B_ok : okCode Try.prog.globals.size B = true := by kernel_rfl
noncomputable def S0 (bb : Int) (lg : Int) (m0 : Int) (m1 : Int) (pre : Nat) (n : Nat) (c : Nat) (l : List Int) (e : TypeId) : KSt := (firstK [(.agg #[(.int .u64 bb), (.int .i64 lg)]), (.agg #[(.int .i64 m0), (.int .i64 m1)]), (.slice (some ⟨0, pre, none⟩) n c)] 135 ⟨1, 1, [(0, 0, .tail pre .u64 l e)]⟩)
theorem C : B = .seq (codeAt [0] B) (codeAt [1] B) := by kernel_rfl
noncomputable def S1 (pre : Nat) (n : Nat) (c : Nat) (m0 : Int) (m1 : Int) (bb : Int) (lg : Int) (l : List Int) (e : TypeId) : KSt := ⟨(frameL 135 [(2, (.slice (some ⟨0, pre, none⟩) n c)), (3, (.pointer (some ⟨1, 0, none⟩))), (4, (.pointer (some ⟨2, 0, none⟩)))]), ⟨3, 1, [(2, 0, .cells [(.int .i64 m0), (.int .i64 m1)] 55 true), (1, 0, .cells [(.int .u64 bb), (.int .i64 lg)] 54 true), (0, 0, .tail pre .u64 l e)]⟩⟩
theorem R1 (bb : Int) (lg : Int) (m0 : Int) (m1 : Int) (pre : Nat) (n : Nat) (c : Nat) (l : List Int) (e : TypeId) : evCK Try.prog cfgE (runK Try.prog cfgE fsE (conT grpDom grpE) 12 40) 12 (codeAt [0] B) (S0 bb lg m0 m1 pre n c l e) (normC 1 [2, 3, 4]) =
  some (.normal, (S1 pre n c m0 m1 bb lg l e)) := by kernel_rfl
theorem C1 : (codeAt [1] B) = .seq (codeAt [1, 0] B) (codeAt [1, 1] B) := by kernel_rfl
theorem C1_0 : (codeAt [1, 0] B) = .seq (codeAt [1, 0, 0] B) (codeAt [1, 0, 1] B) := by kernel_rfl
noncomputable def S2 (pre : Nat) (n : Nat) (c : Nat) (m0 : Int) (m1 : Int) (bb : Int) (lg : Int) (l : List Int) (e : TypeId) : KSt := ⟨(frameL 135 [(2, (.slice (some ⟨0, pre, none⟩) n c)), (3, (.pointer (some ⟨1, 0, none⟩))), (4, (.pointer (some ⟨2, 0, none⟩))), (21, (.bool (decide (((n : Nat) : Int) > 20))))]), ⟨3, 1, [(2, 0, .cells [(.int .i64 m0), (.int .i64 m1)] 55 true), (1, 0, .cells [(.int .u64 bb), (.int .i64 lg)] 54 true), (0, 0, .tail pre .u64 l e)]⟩⟩
theorem R2 (pre : Nat) (n : Nat) (c : Nat) (m0 : Int) (m1 : Int) (bb : Int) (lg : Int) (l : List Int) (e : TypeId) : evCK Try.prog cfgE (runK Try.prog cfgE fsE (conT grpDom grpE) 12 40) 12 (codeAt [1, 0, 0] B) (S1 pre n c m0 m1 bb lg l e) (normC 1 [2, 3, 4, 21]) =
  some (.normal, (S2 pre n c m0 m1 bb lg l e)) := by kernel_rfl
theorem C1_0_1 : (codeAt [1, 0, 1] B) = .cond (.tmp 21) (codeAt [1, 0, 1, 0] B) (codeAt [1, 0, 1, 1] B) := by kernel_rfl
theorem C1_0_1_0 : (codeAt [1, 0, 1, 0] B) = .seq (codeAt [1, 0, 1, 0, 0] B) (codeAt [1, 0, 1, 0, 1] B) := by kernel_rfl
noncomputable def S3 (pre : Nat) (l : List Int) (e : TypeId) : KSt := ⟨(frameL 135 [(6, (.bool true))]), ⟨1, 1, [(0, 0, .tail pre .u64 l e)]⟩⟩
theorem R3 (pre : Nat) (n : Nat) (c : Nat) (m0 : Int) (m1 : Int) (bb : Int) (lg : Int) (l : List Int) (e : TypeId) : evCK Try.prog cfgE (runK Try.prog cfgE fsE (conT grpDom grpE) 12 40) 12 (codeAt [1, 0, 1, 0, 0] B) (S2 pre n c m0 m1 bb lg l e) (normC 1 [6]) =
  some (.normal, (S3 pre l e)) := by kernel_rfl
theorem C1_0_1_0_1 : (codeAt [1, 0, 1, 0, 1] B) = .ret := by kernel_rfl
theorem r20_0 (bb lg m0 m1 g gl : Int) (i : Int) (pre n c : Nat) (l : List Int) (e : TypeId) (hb : 0 ≤ bb) (hm : -9223372036854775808 ≤ m1 ∧ m1 < 9223372036854775808) (hg : groupsV m0 = g) (hg1 : 0 ≤ g) (hg2 : g ≤ 512) (hgl : groupsV lg = gl) (hgl1 : 0 ≤ gl) (hn20 : 20 < n) (hc : n ≤ c) (hc2 : c ≤ 9223372036854775807) (hl : l.length = c) (hc0 : 0 < c)   {Q : Ex → St → Prop} (hq : Q .ret (KSt.low (S3 pre l e))) : Gets Try.prog (KH.low ⟨1, 1, [(0, 0, .tail pre .u64 l e)]⟩) B (KSt.low (S0 bb lg m0 m1 pre n c l e)) Q := by
  rw [C]; refine Gets.seq ?_
  refine Gets.ofN fitE grp_sound (conT_agree _ _) 12 40 (by kernel_rfl) (x := .normal) (s' := (S1 pre n c m0 m1 bb lg l e)) (R1 bb lg m0 m1 pre n c l e) ?_
  show Gets _ _ (codeAt [1] B) _ _
  rw [C1]; refine Gets.seq ?_
  rw [C1_0]; refine Gets.seq ?_
  refine Gets.ofN fitE grp_sound (conT_agree _ _) 12 40 (by kernel_rfl) (x := .normal) (s' := (S2 pre n c m0 m1 bb lg l e)) (R2 pre n c m0 m1 bb lg l e) ?_
  show Gets _ _ (codeAt [1, 0, 1] B) _ _
  rw [C1_0_1]; refine Gets.cond true (by kernel_rfl) ((show evalX (KSt.ts (S2 pre n c m0 m1 bb lg l e)) (.tmp 21) = .bool (decide (((n : Nat) : Int) > 20)) by kernel_rfl).trans (by rw [(show (decide (((n : Nat) : Int) > 20)) = true from decide_eq_true (by omega))])) ?_; show Gets _ _ (codeAt [1, 0, 1, 0] B) _ _
  rw [C1_0_1_0]; refine Gets.seq ?_
  refine Gets.ofN fitE grp_sound (conT_agree _ _) 12 40 (by kernel_rfl) (x := .normal) (s' := (S3 pre l e)) (R3 pre n c m0 m1 bb lg l e) ?_
  show Gets _ _ (codeAt [1, 0, 1, 0, 1] B) _ _
  rw [C1_0_1_0_1]; refine Gets.ev fitE.mix fitE.cfg (fitE.sound grp_sound 12 0) 12 rfl (s' := KSt.low (S3 pre l e)) (x := .ret) rfl ?_
  exact hq
theorem R4 (pre : Nat) (n : Nat) (c : Nat) (m0 : Int) (m1 : Int) (bb : Int) (lg : Int) (l : List Int) (e : TypeId) : evCK Try.prog cfgE (runK Try.prog cfgE fsE (conT grpDom grpE) 12 40) 12 (codeAt [1, 0, 1, 1] B) (S2 pre n c m0 m1 bb lg l e) (normC 1 [2, 3, 4]) =
  some (.normal, (S1 pre n c m0 m1 bb lg l e)) := by kernel_rfl
theorem C1_1 : (codeAt [1, 1] B) = .seq (codeAt [1, 1, 0] B) (codeAt [1, 1, 1] B) := by kernel_rfl
noncomputable def S4 (pre : Nat) (n : Nat) (c : Nat) (m0 : Int) (m1 : Int) (bb : Int) (lg : Int) (l : List Int) (e : TypeId) : KSt := ⟨(frameL 135 [(2, (.slice (some ⟨0, pre, none⟩) n c)), (3, (.pointer (some ⟨1, 0, none⟩))), (4, (.pointer (some ⟨2, 0, none⟩))), (7, (.pointer (some ⟨3, 0, none⟩)))]), ⟨4, 1, [(3, 0, .cells [(.int .u64 0), (.int .i64 0), (.int .i64 0), (.int .i64 0), (.int .u64 0), (.int .i64 0), (.int .i64 0), (.int .u64 0), (.int .u64 0)] 82 true), (2, 0, .cells [(.int .i64 m0), (.int .i64 m1)] 55 true), (1, 0, .cells [(.int .u64 bb), (.int .i64 lg)] 54 true), (0, 0, .tail pre .u64 l e)]⟩⟩
noncomputable def S5 (pre : Nat) (n : Nat) (c : Nat) (bb : Int) (lg : Int) (m0 : Int) (m1 : Int) (l : List Int) (e : TypeId) : KSt := ⟨(frameL 135 [(2, (.slice (some ⟨0, pre, none⟩) n c)), (3, (.pointer (some ⟨1, 0, none⟩))), (4, (.pointer (some ⟨2, 0, none⟩))), (7, (.pointer (some ⟨3, 0, none⟩)))]), ⟨4, 1, [(3, 0, .cells [(.int .u64 bb), (.int .i64 lg), (.int .i64 m0), (.int .i64 m1), (.int .u64 0), (.int .i64 1), (.int .i64 0), (.int .u64 0), (.int .u64 0)] 82 true), (2, 0, .cells [(.int .i64 m0), (.int .i64 m1)] 55 true), (1, 0, .cells [(.int .u64 bb), (.int .i64 lg)] 54 true), (0, 0, .tail pre .u64 l e)]⟩⟩
theorem R5 (pre : Nat) (n : Nat) (c : Nat) (m0 : Int) (m1 : Int) (bb : Int) (lg : Int) (l : List Int) (e : TypeId) : evCK Try.prog cfgE (runK Try.prog cfgE fsE (conT grpDom grpE) 12 40) 12 (codeAt [1, 1, 0] B) (S1 pre n c m0 m1 bb lg l e) (normC 1 [2, 3, 4, 7]) =
  bif (bb != 0) then
    bif (!(decide ((groupsV lg) > 0))) then
      some (.normal, (S4 pre n c m0 m1 bb lg l e))
    else
      bif ((groupsV m0) == 0) then
        some (.normal, (S4 pre n c m0 m1 bb lg l e))
      else
        bif ((IntKind.wrap .i64 ((IntKind.wrap .i64 (7 + (groupsV m0))) + (IntKind.wrap .i64 (8 * (groupsV m0))))) == 0) then
          some (.normal, (S4 pre n c m0 m1 bb lg l e))
        else
          bif (m1 != 1) then
            bif (m1 != 2) then
              some (.normal, (S4 pre n c m0 m1 bb lg l e))
            else
              some (.normal, (S5 pre n c bb lg m0 m1 l e))
          else
            some (.normal, (S5 pre n c bb lg m0 m1 l e))
  else
    some (.normal, (S4 pre n c m0 m1 bb lg l e)) := by kernel_rfl
theorem C1_1_1 : (codeAt [1, 1, 1] B) = .seq (codeAt [1, 1, 1, 0] B) (codeAt [1, 1, 1, 1] B) := by kernel_rfl
theorem C1_1_1_0 : (codeAt [1, 1, 1, 0] B) = .seq (codeAt [1, 1, 1, 0, 0] B) (codeAt [1, 1, 1, 0, 1] B) := by kernel_rfl
noncomputable def S6 (pre : Nat) (n : Nat) (c : Nat) (m0 : Int) (m1 : Int) (bb : Int) (lg : Int) (l : List Int) (e : TypeId) : KSt := ⟨(frameL 135 [(2, (.slice (some ⟨0, pre, none⟩) n c)), (3, (.pointer (some ⟨1, 0, none⟩))), (4, (.pointer (some ⟨2, 0, none⟩))), (7, (.pointer (some ⟨3, 0, none⟩))), (35, (.bool false))]), ⟨4, 1, [(3, 0, .cells [(.int .u64 0), (.int .i64 0), (.int .i64 0), (.int .i64 0), (.int .u64 0), (.int .i64 0), (.int .i64 0), (.int .u64 0), (.int .u64 0)] 82 true), (2, 0, .cells [(.int .i64 m0), (.int .i64 m1)] 55 true), (1, 0, .cells [(.int .u64 bb), (.int .i64 lg)] 54 true), (0, 0, .tail pre .u64 l e)]⟩⟩
noncomputable def S7 (pre : Nat) (n : Nat) (c : Nat) (m1 : Int) (m0 : Int) (bb : Int) (lg : Int) (l : List Int) (e : TypeId) : KSt := ⟨(frameL 135 [(2, (.slice (some ⟨0, pre, none⟩) n c)), (3, (.pointer (some ⟨1, 0, none⟩))), (4, (.pointer (some ⟨2, 0, none⟩))), (7, (.pointer (some ⟨3, 0, none⟩))), (35, (.bool (!(m1 == 2))))]), ⟨4, 1, [(3, 0, .cells [(.int .u64 0), (.int .i64 0), (.int .i64 0), (.int .i64 0), (.int .u64 0), (.int .i64 0), (.int .i64 0), (.int .u64 0), (.int .u64 0)] 82 true), (2, 0, .cells [(.int .i64 m0), (.int .i64 m1)] 55 true), (1, 0, .cells [(.int .u64 bb), (.int .i64 lg)] 54 true), (0, 0, .tail pre .u64 l e)]⟩⟩
noncomputable def S8 (pre : Nat) (n : Nat) (c : Nat) (m0 : Int) (m1 : Int) (bb : Int) (lg : Int) (l : List Int) (e : TypeId) : KSt := ⟨(frameL 135 [(2, (.slice (some ⟨0, pre, none⟩) n c)), (3, (.pointer (some ⟨1, 0, none⟩))), (4, (.pointer (some ⟨2, 0, none⟩))), (7, (.pointer (some ⟨3, 0, none⟩))), (35, (.bool true))]), ⟨4, 1, [(3, 0, .cells [(.int .u64 0), (.int .i64 0), (.int .i64 0), (.int .i64 0), (.int .u64 0), (.int .i64 0), (.int .i64 0), (.int .u64 0), (.int .u64 0)] 82 true), (2, 0, .cells [(.int .i64 m0), (.int .i64 m1)] 55 true), (1, 0, .cells [(.int .u64 bb), (.int .i64 lg)] 54 true), (0, 0, .tail pre .u64 l e)]⟩⟩
theorem R6 (pre : Nat) (n : Nat) (c : Nat) (m0 : Int) (m1 : Int) (bb : Int) (lg : Int) (l : List Int) (e : TypeId) : evCK Try.prog cfgE (runK Try.prog cfgE fsE (conT grpDom grpE) 12 40) 12 (codeAt [1, 1, 1, 0, 0] B) (S4 pre n c m0 m1 bb lg l e) (normC 1 [2, 3, 4, 7, 35]) =
  bif (decide (bb > 0)) then
    bif (decide ((groupsV lg) > 0)) then
      bif (decide ((groupsV m0) > 0)) then
        bif (m1 == 1) then
          some (.normal, (S6 pre n c m0 m1 bb lg l e))
        else
          some (.normal, (S7 pre n c m1 m0 bb lg l e))
      else
        some (.normal, (S8 pre n c m0 m1 bb lg l e))
    else
      some (.normal, (S8 pre n c m0 m1 bb lg l e))
  else
    some (.normal, (S8 pre n c m0 m1 bb lg l e)) := by kernel_rfl
theorem C1_1_1_0_1 : (codeAt [1, 1, 1, 0, 1] B) = .cond (.tmp 35) (codeAt [1, 1, 1, 0, 1, 0] B) (codeAt [1, 1, 1, 0, 1, 1] B) := by kernel_rfl
theorem C1_1_1_0_1_0 : (codeAt [1, 1, 1, 0, 1, 0] B) = .seq (codeAt [1, 1, 1, 0, 1, 0, 0] B) (codeAt [1, 1, 1, 0, 1, 0, 1] B) := by kernel_rfl
noncomputable def S9 (pre : Nat) (l : List Int) (e : TypeId) : KSt := ⟨(frameL 135 [(7, (.pointer (some ⟨1, 0, none⟩))), (9, (.bool false))]), ⟨2, 1, [(1, 0, .cells [(.int .u64 0), (.int .i64 0), (.int .i64 0), (.int .i64 0), (.int .u64 0), (.int .i64 0), (.int .i64 0), (.int .u64 0), (.int .u64 0)] 82 true), (0, 0, .tail pre .u64 l e)]⟩⟩
theorem R7 (pre : Nat) (n : Nat) (c : Nat) (m0 : Int) (m1 : Int) (bb : Int) (lg : Int) (l : List Int) (e : TypeId) : evCK Try.prog cfgE (runK Try.prog cfgE fsE (conT grpDom grpE) 12 40) 12 (codeAt [1, 1, 1, 0, 1, 0, 0] B) (S8 pre n c m0 m1 bb lg l e) (normC 1 [7, 9]) =
  some (.normal, (S9 pre l e)) := by kernel_rfl
theorem C1_1_1_0_1_0_1 : (codeAt [1, 1, 1, 0, 1, 0, 1] B) = .seq (codeAt [1, 1, 1, 0, 1, 0, 1, 0] B) (codeAt [1, 1, 1, 0, 1, 0, 1, 1] B) := by kernel_rfl
theorem R8 (pre : Nat) (l : List Int) (e : TypeId) : evCK Try.prog cfgE (runK Try.prog cfgE fsE (conT grpDom grpE) 12 40) 12 (codeAt [1, 1, 1, 0, 1, 0, 1, 0] B) (S9 pre l e) (normC 1 [7, 9]) =
  some (.normal, (S9 pre l e)) := by kernel_rfl
theorem C1_1_1_0_1_0_1_1 : (codeAt [1, 1, 1, 0, 1, 0, 1, 1] B) = .seq (codeAt [1, 1, 1, 0, 1, 0, 1, 1, 0] B) (codeAt [1, 1, 1, 0, 1, 0, 1, 1, 1] B) := by kernel_rfl
noncomputable def S10 (pre : Nat) (l : List Int) (e : TypeId) : KSt := ⟨(frameL 135 [(9, (.bool false)), (11, (.bool false))]), ⟨1, 1, [(0, 0, .tail pre .u64 l e)]⟩⟩
theorem R9 (pre : Nat) (l : List Int) (e : TypeId) : evCK Try.prog cfgE (runK Try.prog cfgE fsE (conT grpDom grpE) 12 40) 12 (codeAt [1, 1, 1, 0, 1, 0, 1, 1, 0] B) (S9 pre l e) (normC 1 [9, 11]) =
  some (.normal, (S10 pre l e)) := by kernel_rfl
theorem C1_1_1_0_1_0_1_1_1 : (codeAt [1, 1, 1, 0, 1, 0, 1, 1, 1] B) = .seq (codeAt [1, 1, 1, 0, 1, 0, 1, 1, 1, 0] B) (codeAt [1, 1, 1, 0, 1, 0, 1, 1, 1, 1] B) := by kernel_rfl
theorem R10 (pre : Nat) (l : List Int) (e : TypeId) : evCK Try.prog cfgE (runK Try.prog cfgE fsE (conT grpDom grpE) 12 40) 12 (codeAt [1, 1, 1, 0, 1, 0, 1, 1, 1, 0] B) (S10 pre l e) (normC 1 [6]) =
  some (.normal, (S3 pre l e)) := by kernel_rfl
theorem C1_1_1_0_1_0_1_1_1_1 : (codeAt [1, 1, 1, 0, 1, 0, 1, 1, 1, 1] B) = .ret := by kernel_rfl
theorem b0_1 (bb lg m0 m1 g gl : Int) (i : Int) (pre n c : Nat) (l : List Int) (e : TypeId) (hb : 0 ≤ bb) (hm : -9223372036854775808 ≤ m1 ∧ m1 < 9223372036854775808) (hg : groupsV m0 = g) (hg1 : 0 ≤ g) (hg2 : g ≤ 512) (hgl : groupsV lg = gl) (hgl1 : 0 ≤ gl) (hn20 : n ≤ 20) (hc : n ≤ c) (hc2 : c ≤ 9223372036854775807) (hl : l.length = c) (hc0 : 0 < c) (h1 : bb = 0)   {Q : Ex → St → Prop} (hq : Q .ret (KSt.low (S3 pre l e))) : Gets Try.prog (KH.low ⟨1, 1, [(0, 0, .tail pre .u64 l e)]⟩) B (KSt.low (S0 bb lg m0 m1 pre n c l e)) Q := by
  rw [C]; refine Gets.seq ?_
  refine Gets.ofN fitE grp_sound (conT_agree _ _) 12 40 (by kernel_rfl) (x := .normal) (s' := (S1 pre n c m0 m1 bb lg l e)) (R1 bb lg m0 m1 pre n c l e) ?_
  show Gets _ _ (codeAt [1] B) _ _
  rw [C1]; refine Gets.seq ?_
  rw [C1_0]; refine Gets.seq ?_
  refine Gets.ofN fitE grp_sound (conT_agree _ _) 12 40 (by kernel_rfl) (x := .normal) (s' := (S2 pre n c m0 m1 bb lg l e)) (R2 pre n c m0 m1 bb lg l e) ?_
  show Gets _ _ (codeAt [1, 0, 1] B) _ _
  rw [C1_0_1]; refine Gets.cond false (by kernel_rfl) ((show evalX (KSt.ts (S2 pre n c m0 m1 bb lg l e)) (.tmp 21) = .bool (decide (((n : Nat) : Int) > 20)) by kernel_rfl).trans (by rw [(show (decide (((n : Nat) : Int) > 20)) = false from decide_eq_false (by omega))])) ?_; show Gets _ _ (codeAt [1, 0, 1, 1] B) _ _
  refine Gets.ofN fitE grp_sound (conT_agree _ _) 12 40 (by kernel_rfl) (x := .normal) (s' := (S1 pre n c m0 m1 bb lg l e)) (R4 pre n c m0 m1 bb lg l e) ?_
  show Gets _ _ (codeAt [1, 1] B) _ _
  rw [C1_1]; refine Gets.seq ?_
  refine Gets.ofN fitE grp_sound (conT_agree _ _) 12 40 (by kernel_rfl) (x := .normal) (s' := (S4 pre n c m0 m1 bb lg l e)) ((R5 pre n c m0 m1 bb lg l e).trans (by rw [condF (ibne_f (by omega))])) ?_
  show Gets _ _ (codeAt [1, 1, 1] B) _ _
  rw [C1_1_1]; refine Gets.seq ?_
  rw [C1_1_1_0]; refine Gets.seq ?_
  refine Gets.ofN fitE grp_sound (conT_agree _ _) 12 40 (by kernel_rfl) (x := .normal) (s' := (S8 pre n c m0 m1 bb lg l e)) ((R6 pre n c m0 m1 bb lg l e).trans (by rw [condF (decide_eq_false (by omega))])) ?_
  show Gets _ _ (codeAt [1, 1, 1, 0, 1] B) _ _
  rw [C1_1_1_0_1]; refine Gets.cond true (by kernel_rfl) (show evalX (KSt.ts (S8 pre n c m0 m1 bb lg l e)) (.tmp 35) = .bool true by kernel_rfl) ?_; show Gets _ _ (codeAt [1, 1, 1, 0, 1, 0] B) _ _
  rw [C1_1_1_0_1_0]; refine Gets.seq ?_
  refine Gets.ofN fitE grp_sound (conT_agree _ _) 12 40 (by kernel_rfl) (x := .normal) (s' := (S9 pre l e)) (R7 pre n c m0 m1 bb lg l e) ?_
  show Gets _ _ (codeAt [1, 1, 1, 0, 1, 0, 1] B) _ _
  rw [C1_1_1_0_1_0_1]; refine Gets.seq ?_
  refine Gets.ofN fitE grp_sound (conT_agree _ _) 12 40 (by kernel_rfl) (x := .normal) (s' := (S9 pre l e)) (R8 pre l e) ?_
  show Gets _ _ (codeAt [1, 1, 1, 0, 1, 0, 1, 1] B) _ _
  rw [C1_1_1_0_1_0_1_1]; refine Gets.seq ?_
  refine Gets.ofN fitE grp_sound (conT_agree _ _) 12 40 (by kernel_rfl) (x := .normal) (s' := (S10 pre l e)) (R9 pre l e) ?_
  show Gets _ _ (codeAt [1, 1, 1, 0, 1, 0, 1, 1, 1] B) _ _
  rw [C1_1_1_0_1_0_1_1_1]; refine Gets.seq ?_
  refine Gets.ofN fitE grp_sound (conT_agree _ _) 12 40 (by kernel_rfl) (x := .normal) (s' := (S3 pre l e)) (R10 pre l e) ?_
  show Gets _ _ (codeAt [1, 1, 1, 0, 1, 0, 1, 1, 1, 1] B) _ _
  rw [C1_1_1_0_1_0_1_1_1_1]; refine Gets.ev fitE.mix fitE.cfg (fitE.sound grp_sound 12 0) 12 rfl (s' := KSt.low (S3 pre l e)) (x := .ret) rfl ?_
  exact hq
theorem b1_2 (bb lg m0 m1 g gl : Int) (i : Int) (pre n c : Nat) (l : List Int) (e : TypeId) (hb : 0 ≤ bb) (hm : -9223372036854775808 ≤ m1 ∧ m1 < 9223372036854775808) (hg : groupsV m0 = g) (hg1 : 0 ≤ g) (hg2 : g ≤ 512) (hgl : groupsV lg = gl) (hgl1 : 0 ≤ gl) (hn20 : n ≤ 20) (hc : n ≤ c) (hc2 : c ≤ 9223372036854775807) (hl : l.length = c) (hc0 : 0 < c) (h1 : bb ≠ 0) (h2 : gl = 0)   {Q : Ex → St → Prop} (hq : Q .ret (KSt.low (S3 pre l e))) : Gets Try.prog (KH.low ⟨1, 1, [(0, 0, .tail pre .u64 l e)]⟩) B (KSt.low (S0 bb lg m0 m1 pre n c l e)) Q := by
  rw [C]; refine Gets.seq ?_
  refine Gets.ofN fitE grp_sound (conT_agree _ _) 12 40 (by kernel_rfl) (x := .normal) (s' := (S1 pre n c m0 m1 bb lg l e)) (R1 bb lg m0 m1 pre n c l e) ?_
  show Gets _ _ (codeAt [1] B) _ _
  rw [C1]; refine Gets.seq ?_
  rw [C1_0]; refine Gets.seq ?_
  refine Gets.ofN fitE grp_sound (conT_agree _ _) 12 40 (by kernel_rfl) (x := .normal) (s' := (S2 pre n c m0 m1 bb lg l e)) (R2 pre n c m0 m1 bb lg l e) ?_
  show Gets _ _ (codeAt [1, 0, 1] B) _ _
  rw [C1_0_1]; refine Gets.cond false (by kernel_rfl) ((show evalX (KSt.ts (S2 pre n c m0 m1 bb lg l e)) (.tmp 21) = .bool (decide (((n : Nat) : Int) > 20)) by kernel_rfl).trans (by rw [(show (decide (((n : Nat) : Int) > 20)) = false from decide_eq_false (by omega))])) ?_; show Gets _ _ (codeAt [1, 0, 1, 1] B) _ _
  refine Gets.ofN fitE grp_sound (conT_agree _ _) 12 40 (by kernel_rfl) (x := .normal) (s' := (S1 pre n c m0 m1 bb lg l e)) (R4 pre n c m0 m1 bb lg l e) ?_
  show Gets _ _ (codeAt [1, 1] B) _ _
  rw [C1_1]; refine Gets.seq ?_
  refine Gets.ofN fitE grp_sound (conT_agree _ _) 12 40 (by kernel_rfl) (x := .normal) (s' := (S4 pre n c m0 m1 bb lg l e)) ((R5 pre n c m0 m1 bb lg l e).trans (by rw [condT (ibne_t (by omega)), condT (not_t (decide_eq_false (by ((try simp (disch := omega) only [hg, hgl, wrap_i64_id]) <;> omega))))])) ?_
  show Gets _ _ (codeAt [1, 1, 1] B) _ _
  rw [C1_1_1]; refine Gets.seq ?_
  rw [C1_1_1_0]; refine Gets.seq ?_
  refine Gets.ofN fitE grp_sound (conT_agree _ _) 12 40 (by kernel_rfl) (x := .normal) (s' := (S8 pre n c m0 m1 bb lg l e)) ((R6 pre n c m0 m1 bb lg l e).trans (by rw [condT (decide_eq_true (by omega)), condF (decide_eq_false (by ((try simp (disch := omega) only [hg, hgl, wrap_i64_id]) <;> omega)))])) ?_
  show Gets _ _ (codeAt [1, 1, 1, 0, 1] B) _ _
  rw [C1_1_1_0_1]; refine Gets.cond true (by kernel_rfl) (show evalX (KSt.ts (S8 pre n c m0 m1 bb lg l e)) (.tmp 35) = .bool true by kernel_rfl) ?_; show Gets _ _ (codeAt [1, 1, 1, 0, 1, 0] B) _ _
  rw [C1_1_1_0_1_0]; refine Gets.seq ?_
  refine Gets.ofN fitE grp_sound (conT_agree _ _) 12 40 (by kernel_rfl) (x := .normal) (s' := (S9 pre l e)) (R7 pre n c m0 m1 bb lg l e) ?_
  show Gets _ _ (codeAt [1, 1, 1, 0, 1, 0, 1] B) _ _
  rw [C1_1_1_0_1_0_1]; refine Gets.seq ?_
  refine Gets.ofN fitE grp_sound (conT_agree _ _) 12 40 (by kernel_rfl) (x := .normal) (s' := (S9 pre l e)) (R8 pre l e) ?_
  show Gets _ _ (codeAt [1, 1, 1, 0, 1, 0, 1, 1] B) _ _
  rw [C1_1_1_0_1_0_1_1]; refine Gets.seq ?_
  refine Gets.ofN fitE grp_sound (conT_agree _ _) 12 40 (by kernel_rfl) (x := .normal) (s' := (S10 pre l e)) (R9 pre l e) ?_
  show Gets _ _ (codeAt [1, 1, 1, 0, 1, 0, 1, 1, 1] B) _ _
  rw [C1_1_1_0_1_0_1_1_1]; refine Gets.seq ?_
  refine Gets.ofN fitE grp_sound (conT_agree _ _) 12 40 (by kernel_rfl) (x := .normal) (s' := (S3 pre l e)) (R10 pre l e) ?_
  show Gets _ _ (codeAt [1, 1, 1, 0, 1, 0, 1, 1, 1, 1] B) _ _
  rw [C1_1_1_0_1_0_1_1_1_1]; refine Gets.ev fitE.mix fitE.cfg (fitE.sound grp_sound 12 0) 12 rfl (s' := KSt.low (S3 pre l e)) (x := .ret) rfl ?_
  exact hq
theorem b2_3 (bb lg m0 m1 g gl : Int) (i : Int) (pre n c : Nat) (l : List Int) (e : TypeId) (hb : 0 ≤ bb) (hm : -9223372036854775808 ≤ m1 ∧ m1 < 9223372036854775808) (hg : groupsV m0 = g) (hg1 : 0 ≤ g) (hg2 : g ≤ 512) (hgl : groupsV lg = gl) (hgl1 : 0 ≤ gl) (hn20 : n ≤ 20) (hc : n ≤ c) (hc2 : c ≤ 9223372036854775807) (hl : l.length = c) (hc0 : 0 < c) (h1 : bb ≠ 0) (h2 : 0 < gl) (h3 : g = 0)   {Q : Ex → St → Prop} (hq : Q .ret (KSt.low (S3 pre l e))) : Gets Try.prog (KH.low ⟨1, 1, [(0, 0, .tail pre .u64 l e)]⟩) B (KSt.low (S0 bb lg m0 m1 pre n c l e)) Q := by
  rw [C]; refine Gets.seq ?_
  refine Gets.ofN fitE grp_sound (conT_agree _ _) 12 40 (by kernel_rfl) (x := .normal) (s' := (S1 pre n c m0 m1 bb lg l e)) (R1 bb lg m0 m1 pre n c l e) ?_
  show Gets _ _ (codeAt [1] B) _ _
  rw [C1]; refine Gets.seq ?_
  rw [C1_0]; refine Gets.seq ?_
  refine Gets.ofN fitE grp_sound (conT_agree _ _) 12 40 (by kernel_rfl) (x := .normal) (s' := (S2 pre n c m0 m1 bb lg l e)) (R2 pre n c m0 m1 bb lg l e) ?_
  show Gets _ _ (codeAt [1, 0, 1] B) _ _
  rw [C1_0_1]; refine Gets.cond false (by kernel_rfl) ((show evalX (KSt.ts (S2 pre n c m0 m1 bb lg l e)) (.tmp 21) = .bool (decide (((n : Nat) : Int) > 20)) by kernel_rfl).trans (by rw [(show (decide (((n : Nat) : Int) > 20)) = false from decide_eq_false (by omega))])) ?_; show Gets _ _ (codeAt [1, 0, 1, 1] B) _ _
  refine Gets.ofN fitE grp_sound (conT_agree _ _) 12 40 (by kernel_rfl) (x := .normal) (s' := (S1 pre n c m0 m1 bb lg l e)) (R4 pre n c m0 m1 bb lg l e) ?_
  show Gets _ _ (codeAt [1, 1] B) _ _
  rw [C1_1]; refine Gets.seq ?_
  refine Gets.ofN fitE grp_sound (conT_agree _ _) 12 40 (by kernel_rfl) (x := .normal) (s' := (S4 pre n c m0 m1 bb lg l e)) ((R5 pre n c m0 m1 bb lg l e).trans (by rw [condT (ibne_t (by omega)), condF (not_f (decide_eq_true (by ((try simp (disch := omega) only [hg, hgl, wrap_i64_id]) <;> omega)))), condT (ibeq_t (by ((try simp (disch := omega) only [hg, hgl, wrap_i64_id]) <;> omega)))])) ?_
  show Gets _ _ (codeAt [1, 1, 1] B) _ _
  rw [C1_1_1]; refine Gets.seq ?_
  rw [C1_1_1_0]; refine Gets.seq ?_
  refine Gets.ofN fitE grp_sound (conT_agree _ _) 12 40 (by kernel_rfl) (x := .normal) (s' := (S8 pre n c m0 m1 bb lg l e)) ((R6 pre n c m0 m1 bb lg l e).trans (by rw [condT (decide_eq_true (by omega)), condT (decide_eq_true (by ((try simp (disch := omega) only [hg, hgl, wrap_i64_id]) <;> omega))), condF (decide_eq_false (by ((try simp (disch := omega) only [hg, hgl, wrap_i64_id]) <;> omega)))])) ?_
  show Gets _ _ (codeAt [1, 1, 1, 0, 1] B) _ _
  rw [C1_1_1_0_1]; refine Gets.cond true (by kernel_rfl) (show evalX (KSt.ts (S8 pre n c m0 m1 bb lg l e)) (.tmp 35) = .bool true by kernel_rfl) ?_; show Gets _ _ (codeAt [1, 1, 1, 0, 1, 0] B) _ _
  rw [C1_1_1_0_1_0]; refine Gets.seq ?_
  refine Gets.ofN fitE grp_sound (conT_agree _ _) 12 40 (by kernel_rfl) (x := .normal) (s' := (S9 pre l e)) (R7 pre n c m0 m1 bb lg l e) ?_
  show Gets _ _ (codeAt [1, 1, 1, 0, 1, 0, 1] B) _ _
  rw [C1_1_1_0_1_0_1]; refine Gets.seq ?_
  refine Gets.ofN fitE grp_sound (conT_agree _ _) 12 40 (by kernel_rfl) (x := .normal) (s' := (S9 pre l e)) (R8 pre l e) ?_
  show Gets _ _ (codeAt [1, 1, 1, 0, 1, 0, 1, 1] B) _ _
  rw [C1_1_1_0_1_0_1_1]; refine Gets.seq ?_
  refine Gets.ofN fitE grp_sound (conT_agree _ _) 12 40 (by kernel_rfl) (x := .normal) (s' := (S10 pre l e)) (R9 pre l e) ?_
  show Gets _ _ (codeAt [1, 1, 1, 0, 1, 0, 1, 1, 1] B) _ _
  rw [C1_1_1_0_1_0_1_1_1]; refine Gets.seq ?_
  refine Gets.ofN fitE grp_sound (conT_agree _ _) 12 40 (by kernel_rfl) (x := .normal) (s' := (S3 pre l e)) (R10 pre l e) ?_
  show Gets _ _ (codeAt [1, 1, 1, 0, 1, 0, 1, 1, 1, 1] B) _ _
  rw [C1_1_1_0_1_0_1_1_1_1]; refine Gets.ev fitE.mix fitE.cfg (fitE.sound grp_sound 12 0) 12 rfl (s' := KSt.low (S3 pre l e)) (x := .ret) rfl ?_
  exact hq
theorem R11 (pre : Nat) (n : Nat) (c : Nat) (m1 : Int) (m0 : Int) (bb : Int) (lg : Int) (l : List Int) (e : TypeId) : evCK Try.prog cfgE (runK Try.prog cfgE fsE (conT grpDom grpE) 12 40) 12 (codeAt [1, 1, 1, 0, 1, 0, 0] B) (S7 pre n c m1 m0 bb lg l e) (normC 1 [7, 9]) =
  some (.normal, (S9 pre l e)) := by kernel_rfl
theorem b3_4 (bb lg m0 m1 g gl : Int) (i : Int) (pre n c : Nat) (l : List Int) (e : TypeId) (hb : 0 ≤ bb) (hm : -9223372036854775808 ≤ m1 ∧ m1 < 9223372036854775808) (hg : groupsV m0 = g) (hg1 : 0 ≤ g) (hg2 : g ≤ 512) (hgl : groupsV lg = gl) (hgl1 : 0 ≤ gl) (hn20 : n ≤ 20) (hc : n ≤ c) (hc2 : c ≤ 9223372036854775807) (hl : l.length = c) (hc0 : 0 < c) (h1 : bb ≠ 0) (h2 : 0 < gl) (h3 : 0 < g) (h4 : m1 ≠ 1) (h5 : m1 ≠ 2)   {Q : Ex → St → Prop} (hq : Q .ret (KSt.low (S3 pre l e))) : Gets Try.prog (KH.low ⟨1, 1, [(0, 0, .tail pre .u64 l e)]⟩) B (KSt.low (S0 bb lg m0 m1 pre n c l e)) Q := by
  rw [C]; refine Gets.seq ?_
  refine Gets.ofN fitE grp_sound (conT_agree _ _) 12 40 (by kernel_rfl) (x := .normal) (s' := (S1 pre n c m0 m1 bb lg l e)) (R1 bb lg m0 m1 pre n c l e) ?_
  show Gets _ _ (codeAt [1] B) _ _
  rw [C1]; refine Gets.seq ?_
  rw [C1_0]; refine Gets.seq ?_
  refine Gets.ofN fitE grp_sound (conT_agree _ _) 12 40 (by kernel_rfl) (x := .normal) (s' := (S2 pre n c m0 m1 bb lg l e)) (R2 pre n c m0 m1 bb lg l e) ?_
  show Gets _ _ (codeAt [1, 0, 1] B) _ _
  rw [C1_0_1]; refine Gets.cond false (by kernel_rfl) ((show evalX (KSt.ts (S2 pre n c m0 m1 bb lg l e)) (.tmp 21) = .bool (decide (((n : Nat) : Int) > 20)) by kernel_rfl).trans (by rw [(show (decide (((n : Nat) : Int) > 20)) = false from decide_eq_false (by omega))])) ?_; show Gets _ _ (codeAt [1, 0, 1, 1] B) _ _
  refine Gets.ofN fitE grp_sound (conT_agree _ _) 12 40 (by kernel_rfl) (x := .normal) (s' := (S1 pre n c m0 m1 bb lg l e)) (R4 pre n c m0 m1 bb lg l e) ?_
  show Gets _ _ (codeAt [1, 1] B) _ _
  rw [C1_1]; refine Gets.seq ?_
  refine Gets.ofN fitE grp_sound (conT_agree _ _) 12 40 (by kernel_rfl) (x := .normal) (s' := (S4 pre n c m0 m1 bb lg l e)) ((R5 pre n c m0 m1 bb lg l e).trans (by rw [condT (ibne_t (by omega)), condF (not_f (decide_eq_true (by ((try simp (disch := omega) only [hg, hgl, wrap_i64_id]) <;> omega)))), condF (ibeq_f (by ((try simp (disch := omega) only [hg, hgl, wrap_i64_id]) <;> omega))), condF (ibeq_f (by ((try simp (disch := omega) only [hg, hgl, wrap_i64_id]) <;> omega))), condT (ibne_t (by omega)), condT (ibne_t (by omega))])) ?_
  show Gets _ _ (codeAt [1, 1, 1] B) _ _
  rw [C1_1_1]; refine Gets.seq ?_
  rw [C1_1_1_0]; refine Gets.seq ?_
  refine Gets.ofN fitE grp_sound (conT_agree _ _) 12 40 (by kernel_rfl) (x := .normal) (s' := (S7 pre n c m1 m0 bb lg l e)) ((R6 pre n c m0 m1 bb lg l e).trans (by rw [condT (decide_eq_true (by omega)), condT (decide_eq_true (by ((try simp (disch := omega) only [hg, hgl, wrap_i64_id]) <;> omega))), condT (decide_eq_true (by ((try simp (disch := omega) only [hg, hgl, wrap_i64_id]) <;> omega))), condF (ibeq_f (by omega))])) ?_
  show Gets _ _ (codeAt [1, 1, 1, 0, 1] B) _ _
  rw [C1_1_1_0_1]; refine Gets.cond true (by kernel_rfl) ((show evalX (KSt.ts (S7 pre n c m1 m0 bb lg l e)) (.tmp 35) = .bool (!(m1 == 2)) by kernel_rfl).trans (by rw [(show (!(m1 == 2)) = true from not_t (ibeq_f (by omega)))])) ?_; show Gets _ _ (codeAt [1, 1, 1, 0, 1, 0] B) _ _
  rw [C1_1_1_0_1_0]; refine Gets.seq ?_
  refine Gets.ofN fitE grp_sound (conT_agree _ _) 12 40 (by kernel_rfl) (x := .normal) (s' := (S9 pre l e)) (R11 pre n c m1 m0 bb lg l e) ?_
  show Gets _ _ (codeAt [1, 1, 1, 0, 1, 0, 1] B) _ _
  rw [C1_1_1_0_1_0_1]; refine Gets.seq ?_
  refine Gets.ofN fitE grp_sound (conT_agree _ _) 12 40 (by kernel_rfl) (x := .normal) (s' := (S9 pre l e)) (R8 pre l e) ?_
  show Gets _ _ (codeAt [1, 1, 1, 0, 1, 0, 1, 1] B) _ _
  rw [C1_1_1_0_1_0_1_1]; refine Gets.seq ?_
  refine Gets.ofN fitE grp_sound (conT_agree _ _) 12 40 (by kernel_rfl) (x := .normal) (s' := (S10 pre l e)) (R9 pre l e) ?_
  show Gets _ _ (codeAt [1, 1, 1, 0, 1, 0, 1, 1, 1] B) _ _
  rw [C1_1_1_0_1_0_1_1_1]; refine Gets.seq ?_
  refine Gets.ofN fitE grp_sound (conT_agree _ _) 12 40 (by kernel_rfl) (x := .normal) (s' := (S3 pre l e)) (R10 pre l e) ?_
  show Gets _ _ (codeAt [1, 1, 1, 0, 1, 0, 1, 1, 1, 1] B) _ _
  rw [C1_1_1_0_1_0_1_1_1_1]; refine Gets.ev fitE.mix fitE.cfg (fitE.sound grp_sound 12 0) 12 rfl (s' := KSt.low (S3 pre l e)) (x := .ret) rfl ?_
  exact hq
noncomputable def S11 (pre : Nat) (n : Nat) (c : Nat) (bb : Int) (lg : Int) (m0 : Int) (m1 : Int) (l : List Int) (e : TypeId) : KSt := ⟨(frameL 135 [(2, (.slice (some ⟨0, pre, none⟩) n c)), (3, (.pointer (some ⟨1, 0, none⟩))), (4, (.pointer (some ⟨2, 0, none⟩))), (7, (.pointer (some ⟨3, 0, none⟩))), (35, (.bool false))]), ⟨4, 1, [(3, 0, .cells [(.int .u64 bb), (.int .i64 lg), (.int .i64 m0), (.int .i64 m1), (.int .u64 0), (.int .i64 1), (.int .i64 0), (.int .u64 0), (.int .u64 0)] 82 true), (2, 0, .cells [(.int .i64 m0), (.int .i64 m1)] 55 true), (1, 0, .cells [(.int .u64 bb), (.int .i64 lg)] 54 true), (0, 0, .tail pre .u64 l e)]⟩⟩
noncomputable def S12 (pre : Nat) (n : Nat) (c : Nat) (m1 : Int) (bb : Int) (lg : Int) (m0 : Int) (l : List Int) (e : TypeId) : KSt := ⟨(frameL 135 [(2, (.slice (some ⟨0, pre, none⟩) n c)), (3, (.pointer (some ⟨1, 0, none⟩))), (4, (.pointer (some ⟨2, 0, none⟩))), (7, (.pointer (some ⟨3, 0, none⟩))), (35, (.bool (!(m1 == 2))))]), ⟨4, 1, [(3, 0, .cells [(.int .u64 bb), (.int .i64 lg), (.int .i64 m0), (.int .i64 m1), (.int .u64 0), (.int .i64 1), (.int .i64 0), (.int .u64 0), (.int .u64 0)] 82 true), (2, 0, .cells [(.int .i64 m0), (.int .i64 m1)] 55 true), (1, 0, .cells [(.int .u64 bb), (.int .i64 lg)] 54 true), (0, 0, .tail pre .u64 l e)]⟩⟩
noncomputable def S13 (pre : Nat) (n : Nat) (c : Nat) (bb : Int) (lg : Int) (m0 : Int) (m1 : Int) (l : List Int) (e : TypeId) : KSt := ⟨(frameL 135 [(2, (.slice (some ⟨0, pre, none⟩) n c)), (3, (.pointer (some ⟨1, 0, none⟩))), (4, (.pointer (some ⟨2, 0, none⟩))), (7, (.pointer (some ⟨3, 0, none⟩))), (35, (.bool true))]), ⟨4, 1, [(3, 0, .cells [(.int .u64 bb), (.int .i64 lg), (.int .i64 m0), (.int .i64 m1), (.int .u64 0), (.int .i64 1), (.int .i64 0), (.int .u64 0), (.int .u64 0)] 82 true), (2, 0, .cells [(.int .i64 m0), (.int .i64 m1)] 55 true), (1, 0, .cells [(.int .u64 bb), (.int .i64 lg)] 54 true), (0, 0, .tail pre .u64 l e)]⟩⟩
theorem R12 (pre : Nat) (n : Nat) (c : Nat) (bb : Int) (lg : Int) (m0 : Int) (m1 : Int) (l : List Int) (e : TypeId) : evCK Try.prog cfgE (runK Try.prog cfgE fsE (conT grpDom grpE) 12 40) 12 (codeAt [1, 1, 1, 0, 0] B) (S5 pre n c bb lg m0 m1 l e) (normC 1 [2, 3, 4, 7, 35]) =
  bif (decide (bb > 0)) then
    bif (decide ((groupsV lg) > 0)) then
      bif (decide ((groupsV m0) > 0)) then
        bif (m1 == 1) then
          some (.normal, (S11 pre n c bb lg m0 m1 l e))
        else
          some (.normal, (S12 pre n c m1 bb lg m0 l e))
      else
        some (.normal, (S13 pre n c bb lg m0 m1 l e))
    else
      some (.normal, (S13 pre n c bb lg m0 m1 l e))
  else
    some (.normal, (S13 pre n c bb lg m0 m1 l e)) := by kernel_rfl
theorem R13 (pre : Nat) (n : Nat) (c : Nat) (bb : Int) (lg : Int) (m0 : Int) (m1 : Int) (l : List Int) (e : TypeId) : evCK Try.prog cfgE (runK Try.prog cfgE fsE (conT grpDom grpE) 12 40) 12 (codeAt [1, 1, 1, 0, 1, 1] B) (S11 pre n c bb lg m0 m1 l e) (normC 1 [2, 3, 4, 7]) =
  some (.normal, (S5 pre n c bb lg m0 m1 l e)) := by kernel_rfl
theorem C1_1_1_1 : (codeAt [1, 1, 1, 1] B) = .seq (codeAt [1, 1, 1, 1, 0] B) (codeAt [1, 1, 1, 1, 1] B) := by kernel_rfl
theorem C1_1_1_1_0 : (codeAt [1, 1, 1, 1, 0] B) = .seq (codeAt [1, 1, 1, 1, 0, 0] B) (codeAt [1, 1, 1, 1, 0, 1] B) := by kernel_rfl
noncomputable def S14 (pre : Nat) (n : Nat) (c : Nat) (bb : Int) (lg : Int) (m0 : Int) (m1 : Int) (l : List Int) (e : TypeId) : KSt := ⟨(frameL 135 [(2, (.slice (some ⟨0, pre, none⟩) n c)), (3, (.pointer (some ⟨1, 0, none⟩))), (4, (.pointer (some ⟨2, 0, none⟩))), (7, (.pointer (some ⟨3, 0, none⟩))), (12, (.int .i64 0))]), ⟨4, 1, [(3, 0, .cells [(.int .u64 bb), (.int .i64 lg), (.int .i64 m0), (.int .i64 m1), (.int .u64 0), (.int .i64 1), (.int .i64 0), (.int .u64 0), (.int .u64 0)] 82 true), (2, 0, .cells [(.int .i64 m0), (.int .i64 m1)] 55 true), (1, 0, .cells [(.int .u64 bb), (.int .i64 lg)] 54 true), (0, 0, .tail pre .u64 l e)]⟩⟩
theorem R14 (pre : Nat) (n : Nat) (c : Nat) (bb : Int) (lg : Int) (m0 : Int) (m1 : Int) (l : List Int) (e : TypeId) : evCK Try.prog cfgE (runK Try.prog cfgE fsE (conT grpDom grpE) 12 40) 12 (codeAt [1, 1, 1, 1, 0, 0] B) (S5 pre n c bb lg m0 m1 l e) (normC 1 [2, 3, 4, 7, 12]) =
  some (.normal, (S14 pre n c bb lg m0 m1 l e)) := by kernel_rfl
theorem g1_5 (bb lg m0 m1 g gl : Int) (i : Int) (pre n c : Nat) (l : List Int) (e : TypeId) (hb : 0 ≤ bb) (hm : -9223372036854775808 ≤ m1 ∧ m1 < 9223372036854775808) (hg : groupsV m0 = g) (hg1 : 0 ≤ g) (hg2 : g ≤ 512) (hgl : groupsV lg = gl) (hgl1 : 0 ≤ gl) (hn20 : n ≤ 20) (hc : n ≤ c) (hc2 : c ≤ 9223372036854775807) (hl : l.length = c) (hc0 : 0 < c) (h1 : bb ≠ 0) (h2 : 0 < gl) (h3 : 0 < g) (h4 : m1 = 1)   {Q : Ex → St → Prop} (hq : Gets Try.prog (KH.low ⟨1, 1, [(0, 0, .tail pre .u64 l e)]⟩) (codeAt [1, 1, 1, 1, 0, 1] B) (KSt.low (S14 pre n c bb lg m0 m1 l e)) (onN (fun s => Gets Try.prog (KH.low ⟨1, 1, [(0, 0, .tail pre .u64 l e)]⟩) (codeAt [1, 1, 1, 1, 1] B) s (Q)) (Q))) : Gets Try.prog (KH.low ⟨1, 1, [(0, 0, .tail pre .u64 l e)]⟩) B (KSt.low (S0 bb lg m0 m1 pre n c l e)) Q := by
  rw [C]; refine Gets.seq ?_
  refine Gets.ofN fitE grp_sound (conT_agree _ _) 12 40 (by kernel_rfl) (x := .normal) (s' := (S1 pre n c m0 m1 bb lg l e)) (R1 bb lg m0 m1 pre n c l e) ?_
  show Gets _ _ (codeAt [1] B) _ _
  rw [C1]; refine Gets.seq ?_
  rw [C1_0]; refine Gets.seq ?_
  refine Gets.ofN fitE grp_sound (conT_agree _ _) 12 40 (by kernel_rfl) (x := .normal) (s' := (S2 pre n c m0 m1 bb lg l e)) (R2 pre n c m0 m1 bb lg l e) ?_
  show Gets _ _ (codeAt [1, 0, 1] B) _ _
  rw [C1_0_1]; refine Gets.cond false (by kernel_rfl) ((show evalX (KSt.ts (S2 pre n c m0 m1 bb lg l e)) (.tmp 21) = .bool (decide (((n : Nat) : Int) > 20)) by kernel_rfl).trans (by rw [(show (decide (((n : Nat) : Int) > 20)) = false from decide_eq_false (by omega))])) ?_; show Gets _ _ (codeAt [1, 0, 1, 1] B) _ _
  refine Gets.ofN fitE grp_sound (conT_agree _ _) 12 40 (by kernel_rfl) (x := .normal) (s' := (S1 pre n c m0 m1 bb lg l e)) (R4 pre n c m0 m1 bb lg l e) ?_
  show Gets _ _ (codeAt [1, 1] B) _ _
  rw [C1_1]; refine Gets.seq ?_
  refine Gets.ofN fitE grp_sound (conT_agree _ _) 12 40 (by kernel_rfl) (x := .normal) (s' := (S5 pre n c bb lg m0 m1 l e)) ((R5 pre n c m0 m1 bb lg l e).trans (by rw [condT (ibne_t (by omega)), condF (not_f (decide_eq_true (by ((try simp (disch := omega) only [hg, hgl, wrap_i64_id]) <;> omega)))), condF (ibeq_f (by ((try simp (disch := omega) only [hg, hgl, wrap_i64_id]) <;> omega))), condF (ibeq_f (by ((try simp (disch := omega) only [hg, hgl, wrap_i64_id]) <;> omega))), condF (ibne_f (by omega))])) ?_
  show Gets _ _ (codeAt [1, 1, 1] B) _ _
  rw [C1_1_1]; refine Gets.seq ?_
  rw [C1_1_1_0]; refine Gets.seq ?_
  refine Gets.ofN fitE grp_sound (conT_agree _ _) 12 40 (by kernel_rfl) (x := .normal) (s' := (S11 pre n c bb lg m0 m1 l e)) ((R12 pre n c bb lg m0 m1 l e).trans (by rw [condT (decide_eq_true (by omega)), condT (decide_eq_true (by ((try simp (disch := omega) only [hg, hgl, wrap_i64_id]) <;> omega))), condT (decide_eq_true (by ((try simp (disch := omega) only [hg, hgl, wrap_i64_id]) <;> omega))), condT (ibeq_t (by omega))])) ?_
  show Gets _ _ (codeAt [1, 1, 1, 0, 1] B) _ _
  rw [C1_1_1_0_1]; refine Gets.cond false (by kernel_rfl) (show evalX (KSt.ts (S11 pre n c bb lg m0 m1 l e)) (.tmp 35) = .bool false by kernel_rfl) ?_; show Gets _ _ (codeAt [1, 1, 1, 0, 1, 1] B) _ _
  refine Gets.ofN fitE grp_sound (conT_agree _ _) 12 40 (by kernel_rfl) (x := .normal) (s' := (S5 pre n c bb lg m0 m1 l e)) (R13 pre n c bb lg m0 m1 l e) ?_
  show Gets _ _ (codeAt [1, 1, 1, 1] B) _ _
  rw [C1_1_1_1]; refine Gets.seq ?_
  rw [C1_1_1_1_0]; refine Gets.seq ?_
  refine Gets.ofN fitE grp_sound (conT_agree _ _) 12 40 (by kernel_rfl) (x := .normal) (s' := (S14 pre n c bb lg m0 m1 l e)) (R14 pre n c bb lg m0 m1 l e) ?_
  show Gets _ _ (codeAt [1, 1, 1, 1, 0, 1] B) _ _
  exact hq
theorem R15 (pre : Nat) (n : Nat) (c : Nat) (m1 : Int) (bb : Int) (lg : Int) (m0 : Int) (l : List Int) (e : TypeId) : evCK Try.prog cfgE (runK Try.prog cfgE fsE (conT grpDom grpE) 12 40) 12 (codeAt [1, 1, 1, 0, 1, 1] B) (S12 pre n c m1 bb lg m0 l e) (normC 1 [2, 3, 4, 7]) =
  some (.normal, (S5 pre n c bb lg m0 m1 l e)) := by kernel_rfl
theorem g2_6 (bb lg m0 m1 g gl : Int) (i : Int) (pre n c : Nat) (l : List Int) (e : TypeId) (hb : 0 ≤ bb) (hm : -9223372036854775808 ≤ m1 ∧ m1 < 9223372036854775808) (hg : groupsV m0 = g) (hg1 : 0 ≤ g) (hg2 : g ≤ 512) (hgl : groupsV lg = gl) (hgl1 : 0 ≤ gl) (hn20 : n ≤ 20) (hc : n ≤ c) (hc2 : c ≤ 9223372036854775807) (hl : l.length = c) (hc0 : 0 < c) (h1 : bb ≠ 0) (h2 : 0 < gl) (h3 : 0 < g) (h4 : m1 = 2)   {Q : Ex → St → Prop} (hq : Gets Try.prog (KH.low ⟨1, 1, [(0, 0, .tail pre .u64 l e)]⟩) (codeAt [1, 1, 1, 1, 0, 1] B) (KSt.low (S14 pre n c bb lg m0 m1 l e)) (onN (fun s => Gets Try.prog (KH.low ⟨1, 1, [(0, 0, .tail pre .u64 l e)]⟩) (codeAt [1, 1, 1, 1, 1] B) s (Q)) (Q))) : Gets Try.prog (KH.low ⟨1, 1, [(0, 0, .tail pre .u64 l e)]⟩) B (KSt.low (S0 bb lg m0 m1 pre n c l e)) Q := by
  rw [C]; refine Gets.seq ?_
  refine Gets.ofN fitE grp_sound (conT_agree _ _) 12 40 (by kernel_rfl) (x := .normal) (s' := (S1 pre n c m0 m1 bb lg l e)) (R1 bb lg m0 m1 pre n c l e) ?_
  show Gets _ _ (codeAt [1] B) _ _
  rw [C1]; refine Gets.seq ?_
  rw [C1_0]; refine Gets.seq ?_
  refine Gets.ofN fitE grp_sound (conT_agree _ _) 12 40 (by kernel_rfl) (x := .normal) (s' := (S2 pre n c m0 m1 bb lg l e)) (R2 pre n c m0 m1 bb lg l e) ?_
  show Gets _ _ (codeAt [1, 0, 1] B) _ _
  rw [C1_0_1]; refine Gets.cond false (by kernel_rfl) ((show evalX (KSt.ts (S2 pre n c m0 m1 bb lg l e)) (.tmp 21) = .bool (decide (((n : Nat) : Int) > 20)) by kernel_rfl).trans (by rw [(show (decide (((n : Nat) : Int) > 20)) = false from decide_eq_false (by omega))])) ?_; show Gets _ _ (codeAt [1, 0, 1, 1] B) _ _
  refine Gets.ofN fitE grp_sound (conT_agree _ _) 12 40 (by kernel_rfl) (x := .normal) (s' := (S1 pre n c m0 m1 bb lg l e)) (R4 pre n c m0 m1 bb lg l e) ?_
  show Gets _ _ (codeAt [1, 1] B) _ _
  rw [C1_1]; refine Gets.seq ?_
  refine Gets.ofN fitE grp_sound (conT_agree _ _) 12 40 (by kernel_rfl) (x := .normal) (s' := (S5 pre n c bb lg m0 m1 l e)) ((R5 pre n c m0 m1 bb lg l e).trans (by rw [condT (ibne_t (by omega)), condF (not_f (decide_eq_true (by ((try simp (disch := omega) only [hg, hgl, wrap_i64_id]) <;> omega)))), condF (ibeq_f (by ((try simp (disch := omega) only [hg, hgl, wrap_i64_id]) <;> omega))), condF (ibeq_f (by ((try simp (disch := omega) only [hg, hgl, wrap_i64_id]) <;> omega))), condT (ibne_t (by omega)), condF (ibne_f (by omega))])) ?_
  show Gets _ _ (codeAt [1, 1, 1] B) _ _
  rw [C1_1_1]; refine Gets.seq ?_
  rw [C1_1_1_0]; refine Gets.seq ?_
  refine Gets.ofN fitE grp_sound (conT_agree _ _) 12 40 (by kernel_rfl) (x := .normal) (s' := (S12 pre n c m1 bb lg m0 l e)) ((R12 pre n c bb lg m0 m1 l e).trans (by rw [condT (decide_eq_true (by omega)), condT (decide_eq_true (by ((try simp (disch := omega) only [hg, hgl, wrap_i64_id]) <;> omega))), condT (decide_eq_true (by ((try simp (disch := omega) only [hg, hgl, wrap_i64_id]) <;> omega))), condF (ibeq_f (by omega))])) ?_
  show Gets _ _ (codeAt [1, 1, 1, 0, 1] B) _ _
  rw [C1_1_1_0_1]; refine Gets.cond false (by kernel_rfl) ((show evalX (KSt.ts (S12 pre n c m1 bb lg m0 l e)) (.tmp 35) = .bool (!(m1 == 2)) by kernel_rfl).trans (by rw [(show (!(m1 == 2)) = false from not_f (ibeq_t (by omega)))])) ?_; show Gets _ _ (codeAt [1, 1, 1, 0, 1, 1] B) _ _
  refine Gets.ofN fitE grp_sound (conT_agree _ _) 12 40 (by kernel_rfl) (x := .normal) (s' := (S5 pre n c bb lg m0 m1 l e)) (R15 pre n c m1 bb lg m0 l e) ?_
  show Gets _ _ (codeAt [1, 1, 1, 1] B) _ _
  rw [C1_1_1_1]; refine Gets.seq ?_
  rw [C1_1_1_1_0]; refine Gets.seq ?_
  refine Gets.ofN fitE grp_sound (conT_agree _ _) 12 40 (by kernel_rfl) (x := .normal) (s' := (S14 pre n c bb lg m0 m1 l e)) (R14 pre n c bb lg m0 m1 l e) ?_
  show Gets _ _ (codeAt [1, 1, 1, 1, 0, 1] B) _ _
  exact hq
theorem C1_1_1_1_0_1_0_0 : (codeAt [1, 1, 1, 1, 0, 1, 0, 0] B) = .seq (codeAt [1, 1, 1, 1, 0, 1, 0, 0, 0] B) (codeAt [1, 1, 1, 1, 0, 1, 0, 0, 1] B) := by kernel_rfl
theorem C1_1_1_1_0_1_0_0_0 : (codeAt [1, 1, 1, 1, 0, 1, 0, 0, 0] B) = .seq (codeAt [1, 1, 1, 1, 0, 1, 0, 0, 0, 0] B) (codeAt [1, 1, 1, 1, 0, 1, 0, 0, 0, 1] B) := by kernel_rfl
noncomputable def S15 (pre : Nat) (n : Nat) (c : Nat) (bb : Int) (lg : Int) (m0 : Int) (m1 : Int) (l : List Int) (e : TypeId) : KSt := ⟨(frameL 135 [(2, (.slice (some ⟨0, pre, none⟩) n c)), (3, (.pointer (some ⟨1, 0, none⟩))), (4, (.pointer (some ⟨2, 0, none⟩))), (7, (.pointer (some ⟨3, 0, none⟩))), (12, (.int .i64 0)), (60, (.bool (decide (0 ≤ ((n : Nat) : Int)))))]), ⟨4, 1, [(3, 0, .cells [(.int .u64 bb), (.int .i64 lg), (.int .i64 m0), (.int .i64 m1), (.int .u64 0), (.int .i64 1), (.int .i64 0), (.int .u64 0), (.int .u64 0)] 82 true), (2, 0, .cells [(.int .i64 m0), (.int .i64 m1)] 55 true), (1, 0, .cells [(.int .u64 bb), (.int .i64 lg)] 54 true), (0, 0, .tail pre .u64 l e)]⟩⟩
theorem R16 (pre : Nat) (n : Nat) (c : Nat) (bb : Int) (lg : Int) (m0 : Int) (m1 : Int) (l : List Int) (e : TypeId) : evCK Try.prog cfgE (runK Try.prog cfgE fsE (conT grpDom grpE) 12 40) 12 (codeAt [1, 1, 1, 1, 0, 1, 0, 0, 0, 0] B) (S14 pre n c bb lg m0 m1 l e) (normC 1 [2, 3, 4, 7, 12, 60]) =
  some (.normal, (S15 pre n c bb lg m0 m1 l e)) := by kernel_rfl
theorem C1_1_1_1_0_1_0_0_0_1 : (codeAt [1, 1, 1, 1, 0, 1, 0, 0, 0, 1] B) = .cond (.tmp 60) (codeAt [1, 1, 1, 1, 0, 1, 0, 0, 0, 1, 0] B) (codeAt [1, 1, 1, 1, 0, 1, 0, 0, 0, 1, 1] B) := by kernel_rfl
theorem R17 (pre : Nat) (n : Nat) (c : Nat) (bb : Int) (lg : Int) (m0 : Int) (m1 : Int) (l : List Int) (e : TypeId) : evCK Try.prog cfgE (runK Try.prog cfgE fsE (conT grpDom grpE) 12 40) 12 (codeAt [1, 1, 1, 1, 0, 1, 0, 0, 0, 1, 0] B) (S15 pre n c bb lg m0 m1 l e) (normC 1 [2, 3, 4, 7, 12]) =
  some (.normal, (S14 pre n c bb lg m0 m1 l e)) := by kernel_rfl
theorem C1_1_1_1_0_1_0_0_1 : (codeAt [1, 1, 1, 1, 0, 1, 0, 0, 1] B) = .seq (codeAt [1, 1, 1, 1, 0, 1, 0, 0, 1, 0] B) (codeAt [1, 1, 1, 1, 0, 1, 0, 0, 1, 1] B) := by kernel_rfl
theorem C1_1_1_1_0_1_0_0_1_0 : (codeAt [1, 1, 1, 1, 0, 1, 0, 0, 1, 0] B) = .block 1 (codeAt [1, 1, 1, 1, 0, 1, 0, 0, 1, 0, 0] B) := by kernel_rfl
theorem C1_1_1_1_0_1_0_0_1_0_0 : (codeAt [1, 1, 1, 1, 0, 1, 0, 0, 1, 0, 0] B) = .seq (codeAt [1, 1, 1, 1, 0, 1, 0, 0, 1, 0, 0, 0] B) (codeAt [1, 1, 1, 1, 0, 1, 0, 0, 1, 0, 0, 1] B) := by kernel_rfl
noncomputable def S16 (pre : Nat) (n : Nat) (c : Nat) (bb : Int) (lg : Int) (m0 : Int) (m1 : Int) (l : List Int) (e : TypeId) : KSt := ⟨(frameL 135 [(2, (.slice (some ⟨0, pre, none⟩) n c)), (3, (.pointer (some ⟨1, 0, none⟩))), (4, (.pointer (some ⟨2, 0, none⟩))), (7, (.pointer (some ⟨3, 0, none⟩))), (12, (.int .i64 0)), (13, (.pointer (some ⟨4, 0, none⟩)))]), ⟨5, 1, [(4, 0, .cells [(.slice (some ⟨0, pre, none⟩) 0 (c - 0)), (.int .i64 0), (.bool false), (.int .i64 0), (.int .u64 0), (.int .i64 0), (.int .u64 0), (.int .u64 0)] 31 true), (3, 0, .cells [(.int .u64 bb), (.int .i64 lg), (.int .i64 m0), (.int .i64 m1), (.int .u64 0), (.int .i64 1), (.int .i64 0), (.int .u64 0), (.int .u64 0)] 82 true), (2, 0, .cells [(.int .i64 m0), (.int .i64 m1)] 55 true), (1, 0, .cells [(.int .u64 bb), (.int .i64 lg)] 54 true), (0, 0, .tail pre .u64 l e)]⟩⟩
noncomputable def S17 (pre : Nat) (n : Nat) (c : Nat) (bb : Int) (lg : Int) (m0 : Int) (m1 : Int) (l : List Int) (e : TypeId) : KSt := ⟨(frameL 135 [(2, (.slice (some ⟨0, pre, none⟩) n c)), (3, (.pointer (some ⟨1, 0, none⟩))), (4, (.pointer (some ⟨2, 0, none⟩))), (7, (.pointer (some ⟨3, 0, none⟩))), (12, (.int .i64 0)), (13, (.pointer (some ⟨4, 0, none⟩)))]), ⟨5, 1, [(4, 0, .cells [(.slice (some ⟨0, (pre + 0), none⟩) 0 (c - 0)), (.int .i64 0), (.bool false), (.int .i64 0), (.int .u64 0), (.int .i64 0), (.int .u64 0), (.int .u64 0)] 31 true), (3, 0, .cells [(.int .u64 bb), (.int .i64 lg), (.int .i64 m0), (.int .i64 m1), (.int .u64 0), (.int .i64 1), (.int .i64 0), (.int .u64 0), (.int .u64 0)] 82 true), (2, 0, .cells [(.int .i64 m0), (.int .i64 m1)] 55 true), (1, 0, .cells [(.int .u64 bb), (.int .i64 lg)] 54 true), (0, 0, .tail pre .u64 l e)]⟩⟩
theorem R18 (pre : Nat) (n : Nat) (c : Nat) (bb : Int) (lg : Int) (m0 : Int) (m1 : Int) (l : List Int) (e : TypeId) : evCK Try.prog cfgE (runK Try.prog cfgE fsE (conT grpDom grpE) 12 40) 12 (codeAt [1, 1, 1, 1, 0, 1, 0, 0, 1, 0, 0, 0] B) (S14 pre n c bb lg m0 m1 l e) (normC 1 [2, 3, 4, 7, 12, 13]) =
  if (0 : Int) ≤ 0 ∧ 0 ≤ ((c : Nat) : Int) then
    bif (true && (Nat.ble 0 c)) then
      bif (Nat.beq c 0) then
        some (.normal, (S16 pre n c bb lg m0 m1 l e))
      else
        some (.normal, (S17 pre n c bb lg m0 m1 l e))
    else
      none
  else
    none := by kernel_rfl
theorem C1_1_1_1_0_1_0_0_1_0_0_1 : (codeAt [1, 1, 1, 1, 0, 1, 0, 0, 1, 0, 0, 1] B) = .seq (codeAt [1, 1, 1, 1, 0, 1, 0, 0, 1, 0, 0, 1, 0] B) (codeAt [1, 1, 1, 1, 0, 1, 0, 0, 1, 0, 0, 1, 1] B) := by kernel_rfl
noncomputable def S18 (pre : Nat) (n : Nat) (c : Nat) (bb : Int) (lg : Int) (m0 : Int) (m1 : Int) (l : List Int) (e : TypeId) : KSt := ⟨(frameL 135 [(2, (.slice (some ⟨0, pre, none⟩) n c)), (3, (.pointer (some ⟨1, 0, none⟩))), (4, (.pointer (some ⟨2, 0, none⟩))), (7, (.pointer (some ⟨3, 0, none⟩))), (12, (.int .i64 0)), (13, (.pointer (some ⟨4, 0, none⟩))), (14, (.pointer (some ⟨5, 0, none⟩)))]), ⟨6, 1, [(5, 0, .cells [(.int .i64 1), (.int .u64 0), (.int .u64 0)] 63 true), (4, 0, .cells [(.slice (some ⟨0, (pre + 0), none⟩) 0 (c - 0)), (.int .i64 0), (.bool true), (.int .i64 5), (.int .u64 0), (.int .i64 0), (.int .u64 0), (.int .u64 0)] 31 true), (3, 0, .cells [(.int .u64 bb), (.int .i64 lg), (.int .i64 m0), (.int .i64 m1), (.int .u64 0), (.int .i64 1), (.int .i64 0), (.int .u64 0), (.int .u64 0)] 82 true), (2, 0, .cells [(.int .i64 m0), (.int .i64 m1)] 55 true), (1, 0, .cells [(.int .u64 bb), (.int .i64 lg)] 54 true), (0, 0, .tail pre .u64 l e)]⟩⟩
noncomputable def S19 (pre : Nat) (n : Nat) (c : Nat) (m0 : Int) (bb : Int) (lg : Int) (m1 : Int) (l : List Int) (e : TypeId) : KSt := ⟨(frameL 135 [(2, (.slice (some ⟨0, pre, none⟩) n c)), (3, (.pointer (some ⟨1, 0, none⟩))), (4, (.pointer (some ⟨2, 0, none⟩))), (7, (.pointer (some ⟨3, 0, none⟩))), (12, (.int .i64 0)), (13, (.pointer (some ⟨4, 0, none⟩))), (14, (.pointer (some ⟨5, 0, none⟩)))]), ⟨6, 1, [(5, 0, .cells [(.int .i64 1), (.int .u64 0), (.int .u64 0)] 63 true), (4, 0, .cells [(.slice (some ⟨0, (pre + 0), none⟩) 0 (c - 0)), (.int .i64 0), (.bool true), (.int .i64 5), (.int .u64 0), (.int .i64 (IntKind.wrap .i64 (7 + (IntKind.wrap .i64 (9 * (groupsV m0)))))), (.int .u64 0), (.int .u64 0)] 31 true), (3, 0, .cells [(.int .u64 bb), (.int .i64 lg), (.int .i64 m0), (.int .i64 m1), (.int .u64 0), (.int .i64 1), (.int .i64 0), (.int .u64 0), (.int .u64 0)] 82 true), (2, 0, .cells [(.int .i64 m0), (.int .i64 m1)] 55 true), (1, 0, .cells [(.int .u64 bb), (.int .i64 lg)] 54 true), (0, 0, .tail pre .u64 l e)]⟩⟩
theorem R19 (pre : Nat) (n : Nat) (c : Nat) (bb : Int) (lg : Int) (m0 : Int) (m1 : Int) (l : List Int) (e : TypeId) : evCK Try.prog cfgE (runK Try.prog cfgE fsE (conT grpDom grpE) 12 40) 12 (codeAt [1, 1, 1, 1, 0, 1, 0, 0, 1, 0, 0, 1, 0] B) (S17 pre n c bb lg m0 m1 l e) (normC 1 [2, 3, 4, 7, 12, 13, 14]) =
  bif ((groupsV m0) == 0) then
    some (.normal, (S18 pre n c bb lg m0 m1 l e))
  else
    some (.normal, (S19 pre n c m0 bb lg m1 l e)) := by kernel_rfl
noncomputable def S20 (pre : Nat) (n : Nat) (c : Nat) (g : Int) (bb : Int) (lg : Int) (m0 : Int) (m1 : Int) (l : List Int) (e : TypeId) : KSt := ⟨(frameL 135 [(2, (.slice (some ⟨0, pre, none⟩) n c)), (3, (.pointer (some ⟨1, 0, none⟩))), (4, (.pointer (some ⟨2, 0, none⟩))), (7, (.pointer (some ⟨3, 0, none⟩))), (12, (.int .i64 0)), (13, (.pointer (some ⟨4, 0, none⟩))), (14, (.pointer (some ⟨5, 0, none⟩)))]), ⟨6, 1, [(5, 0, .cells [(.int .i64 1), (.int .u64 0), (.int .u64 0)] 63 true), (4, 0, .cells [(.slice (some ⟨0, (pre + 0), none⟩) 0 (c - 0)), (.int .i64 0), (.bool true), (.int .i64 5), (.int .u64 0), (.int .i64 (7 + (9 * g))), (.int .u64 0), (.int .u64 0)] 31 true), (3, 0, .cells [(.int .u64 bb), (.int .i64 lg), (.int .i64 m0), (.int .i64 m1), (.int .u64 0), (.int .i64 1), (.int .i64 0), (.int .u64 0), (.int .u64 0)] 82 true), (2, 0, .cells [(.int .i64 m0), (.int .i64 m1)] 55 true), (1, 0, .cells [(.int .u64 bb), (.int .i64 lg)] 54 true), (0, 0, .tail pre .u64 l e)]⟩⟩
theorem C1_1_1_1_0_1_0_0_1_0_0_1_1 : (codeAt [1, 1, 1, 1, 0, 1, 0, 0, 1, 0, 0, 1, 1] B) = .seq (codeAt [1, 1, 1, 1, 0, 1, 0, 0, 1, 0, 0, 1, 1, 0] B) (codeAt [1, 1, 1, 1, 0, 1, 0, 0, 1, 0, 0, 1, 1, 1] B) := by kernel_rfl
noncomputable def S21 (pre : Nat) (n : Nat) (c : Nat) (g : Int) (bb : Int) (lg : Int) (m0 : Int) (m1 : Int) (l : List Int) (e : TypeId) : KSt := ⟨(frameL 135 [(2, (.slice (some ⟨0, pre, none⟩) n c)), (3, (.pointer (some ⟨1, 0, none⟩))), (4, (.pointer (some ⟨2, 0, none⟩))), (7, (.pointer (some ⟨3, 0, none⟩))), (12, (.int .i64 0)), (13, (.pointer (some ⟨4, 0, none⟩))), (14, (.pointer (some ⟨5, 0, none⟩))), (15, (.pointer (some ⟨6, 0, none⟩))), (16, (.bool false))]), ⟨7, 1, [(6, 0, .cells [(.int .i64 0), (.int .u64 0), (.int .u64 0)] 60 true), (5, 0, .cells [(.int .i64 1), (.int .u64 0), (.int .u64 0)] 63 true), (4, 0, .cells [(.slice (some ⟨0, (pre + 0), none⟩) 0 (c - 0)), (.int .i64 0), (.bool true), (.int .i64 5), (.int .u64 0), (.int .i64 (7 + (9 * g))), (.int .u64 0), (.int .u64 0)] 31 true), (3, 0, .cells [(.int .u64 bb), (.int .i64 lg), (.int .i64 m0), (.int .i64 m1), (.int .u64 0), (.int .i64 1), (.int .i64 0), (.int .u64 0), (.int .u64 0)] 82 true), (2, 0, .cells [(.int .i64 m0), (.int .i64 m1)] 55 true), (1, 0, .cells [(.int .u64 bb), (.int .i64 lg)] 54 true), (0, 0, .tail pre .u64 l e)]⟩⟩
theorem R20 (pre : Nat) (n : Nat) (c : Nat) (g : Int) (bb : Int) (lg : Int) (m0 : Int) (m1 : Int) (l : List Int) (e : TypeId) : evCK Try.prog cfgE (runK Try.prog cfgE fsE (conT grpDom grpE) 12 40) 12 (codeAt [1, 1, 1, 1, 0, 1, 0, 0, 1, 0, 0, 1, 1, 0] B) (S20 pre n c g bb lg m0 m1 l e) (normC 1 [2, 3, 4, 7, 12, 13, 14, 15, 16]) =
  some (.normal, (S21 pre n c g bb lg m0 m1 l e)) := by kernel_rfl
theorem C1_1_1_1_0_1_0_0_1_0_0_1_1_1 : (codeAt [1, 1, 1, 1, 0, 1, 0, 0, 1, 0, 0, 1, 1, 1] B) = .seq (codeAt [1, 1, 1, 1, 0, 1, 0, 0, 1, 0, 0, 1, 1, 1, 0] B) (codeAt [1, 1, 1, 1, 0, 1, 0, 0, 1, 0, 0, 1, 1, 1, 1] B) := by kernel_rfl
noncomputable def S22 (pre : Nat) (n : Nat) (c : Nat) (g : Int) (bb : Int) (lg : Int) (m0 : Int) (m1 : Int) (l : List Int) (e : TypeId) : KSt := ⟨(frameL 135 [(2, (.slice (some ⟨0, pre, none⟩) n c)), (3, (.pointer (some ⟨1, 0, none⟩))), (4, (.pointer (some ⟨2, 0, none⟩))), (7, (.pointer (some ⟨3, 0, none⟩))), (12, (.int .i64 0)), (13, (.pointer (some ⟨4, 0, none⟩))), (14, (.pointer (some ⟨5, 0, none⟩))), (15, (.pointer (some ⟨6, 0, none⟩))), (16, (.bool false)), (17, (.pointer (some ⟨7, 0, none⟩))), (18, (.bool true))]), ⟨8, 1, [(7, 0, .cells [(.int .i64 5), (.int .u64 0), (.int .i64 0), (.int .u64 0), (.int .u64 0)] 29 true), (6, 0, .cells [(.int .i64 0), (.int .u64 0), (.int .u64 0)] 60 true), (5, 0, .cells [(.int .i64 1), (.int .u64 0), (.int .u64 0)] 63 true), (4, 0, .cells [(.slice (some ⟨0, (pre + 0), none⟩) 0 (c - 0)), (.int .i64 0), (.bool true), (.int .i64 5), (.int .u64 0), (.int .i64 (7 + (9 * g))), (.int .u64 0), (.int .u64 0)] 31 true), (3, 0, .cells [(.int .u64 bb), (.int .i64 lg), (.int .i64 m0), (.int .i64 m1), (.int .u64 0), (.int .i64 1), (.int .i64 0), (.int .u64 0), (.int .u64 0)] 82 true), (2, 0, .cells [(.int .i64 m0), (.int .i64 m1)] 55 true), (1, 0, .cells [(.int .u64 bb), (.int .i64 lg)] 54 true), (0, 0, .tail pre .u64 l e)]⟩⟩
noncomputable def S23 (pre : Nat) (n : Nat) (c : Nat) (m0 : Int) (g : Int) (bb : Int) (lg : Int) (m1 : Int) (l : List Int) (e : TypeId) : KSt := ⟨(frameL 135 [(2, (.slice (some ⟨0, pre, none⟩) n c)), (3, (.pointer (some ⟨1, 0, none⟩))), (4, (.pointer (some ⟨2, 0, none⟩))), (7, (.pointer (some ⟨3, 0, none⟩))), (12, (.int .i64 0)), (13, (.pointer (some ⟨4, 0, none⟩))), (14, (.pointer (some ⟨5, 0, none⟩))), (15, (.pointer (some ⟨6, 0, none⟩))), (16, (.bool false)), (17, (.pointer (some ⟨7, 0, none⟩))), (18, (.bool true))]), ⟨8, 1, [(7, 0, .cells [(.int .i64 5), (.int .u64 0), (.int .i64 (IntKind.wrap .i64 ((IntKind.wrap .i64 (7 + (groupsV m0))) + (IntKind.wrap .i64 (8 * (groupsV m0)))))), (.int .u64 0), (.int .u64 0)] 29 true), (6, 0, .cells [(.int .i64 0), (.int .u64 0), (.int .u64 0)] 60 true), (5, 0, .cells [(.int .i64 1), (.int .u64 0), (.int .u64 0)] 63 true), (4, 0, .cells [(.slice (some ⟨0, (pre + 0), none⟩) 0 (c - 0)), (.int .i64 0), (.bool true), (.int .i64 5), (.int .u64 0), (.int .i64 (7 + (9 * g))), (.int .u64 0), (.int .u64 0)] 31 true), (3, 0, .cells [(.int .u64 bb), (.int .i64 lg), (.int .i64 m0), (.int .i64 m1), (.int .u64 0), (.int .i64 1), (.int .i64 0), (.int .u64 0), (.int .u64 0)] 82 true), (2, 0, .cells [(.int .i64 m0), (.int .i64 m1)] 55 true), (1, 0, .cells [(.int .u64 bb), (.int .i64 lg)] 54 true), (0, 0, .tail pre .u64 l e)]⟩⟩
theorem R21 (pre : Nat) (n : Nat) (c : Nat) (g : Int) (bb : Int) (lg : Int) (m0 : Int) (m1 : Int) (l : List Int) (e : TypeId) : evCK Try.prog cfgE (runK Try.prog cfgE fsE (conT grpDom grpE) 12 40) 12 (codeAt [1, 1, 1, 1, 0, 1, 0, 0, 1, 0, 0, 1, 1, 1, 0] B) (S21 pre n c g bb lg m0 m1 l e) (normC 1 [2, 3, 4, 7, 12, 13, 14, 15, 16, 17, 18]) =
  bif ((groupsV m0) == 0) then
    some (.normal, (S22 pre n c g bb lg m0 m1 l e))
  else
    some (.normal, (S23 pre n c m0 g bb lg m1 l e)) := by kernel_rfl
noncomputable def S24 (pre : Nat) (n : Nat) (c : Nat) (g : Int) (bb : Int) (lg : Int) (m0 : Int) (m1 : Int) (l : List Int) (e : TypeId) : KSt := ⟨(frameL 135 [(2, (.slice (some ⟨0, pre, none⟩) n c)), (3, (.pointer (some ⟨1, 0, none⟩))), (4, (.pointer (some ⟨2, 0, none⟩))), (7, (.pointer (some ⟨3, 0, none⟩))), (12, (.int .i64 0)), (13, (.pointer (some ⟨4, 0, none⟩))), (14, (.pointer (some ⟨5, 0, none⟩))), (15, (.pointer (some ⟨6, 0, none⟩))), (16, (.bool false)), (17, (.pointer (some ⟨7, 0, none⟩))), (18, (.bool true))]), ⟨8, 1, [(7, 0, .cells [(.int .i64 5), (.int .u64 0), (.int .i64 ((7 + g) + (8 * g))), (.int .u64 0), (.int .u64 0)] 29 true), (6, 0, .cells [(.int .i64 0), (.int .u64 0), (.int .u64 0)] 60 true), (5, 0, .cells [(.int .i64 1), (.int .u64 0), (.int .u64 0)] 63 true), (4, 0, .cells [(.slice (some ⟨0, (pre + 0), none⟩) 0 (c - 0)), (.int .i64 0), (.bool true), (.int .i64 5), (.int .u64 0), (.int .i64 (7 + (9 * g))), (.int .u64 0), (.int .u64 0)] 31 true), (3, 0, .cells [(.int .u64 bb), (.int .i64 lg), (.int .i64 m0), (.int .i64 m1), (.int .u64 0), (.int .i64 1), (.int .i64 0), (.int .u64 0), (.int .u64 0)] 82 true), (2, 0, .cells [(.int .i64 m0), (.int .i64 m1)] 55 true), (1, 0, .cells [(.int .u64 bb), (.int .i64 lg)] 54 true), (0, 0, .tail pre .u64 l e)]⟩⟩
theorem C1_1_1_1_0_1_0_0_1_0_0_1_1_1_1 : (codeAt [1, 1, 1, 1, 0, 1, 0, 0, 1, 0, 0, 1, 1, 1, 1] B) = .seq (codeAt [1, 1, 1, 1, 0, 1, 0, 0, 1, 0, 0, 1, 1, 1, 1, 0] B) (codeAt [1, 1, 1, 1, 0, 1, 0, 0, 1, 0, 0, 1, 1, 1, 1, 1] B) := by kernel_rfl
theorem C1_1_1_1_0_1_0_0_1_0_0_1_1_1_1_0 : (codeAt [1, 1, 1, 1, 0, 1, 0, 0, 1, 0, 0, 1, 1, 1, 1, 0] B) = .seq (codeAt [1, 1, 1, 1, 0, 1, 0, 0, 1, 0, 0, 1, 1, 1, 1, 0, 0] B) (codeAt [1, 1, 1, 1, 0, 1, 0, 0, 1, 0, 0, 1, 1, 1, 1, 0, 1] B) := by kernel_rfl
noncomputable def S25 (pre : Nat) (n : Nat) (c : Nat) (bb : Int) (lg : Int) (m0 : Int) (m1 : Int) (l : List Int) (e : TypeId) : KSt := ⟨(frameL 135 [(2, (.slice (some ⟨0, pre, none⟩) n c)), (3, (.pointer (some ⟨1, 0, none⟩))), (4, (.pointer (some ⟨2, 0, none⟩))), (7, (.pointer (some ⟨3, 0, none⟩))), (12, (.int .i64 0)), (123, (.bool true))]), ⟨4, 1, [(3, 0, .cells [(.int .u64 bb), (.int .i64 lg), (.int .i64 m0), (.int .i64 m1), (.int .u64 0), (.int .i64 1), (.int .i64 0), (.int .u64 0), (.int .u64 0)] 82 true), (2, 0, .cells [(.int .i64 m0), (.int .i64 m1)] 55 true), (1, 0, .cells [(.int .u64 bb), (.int .i64 lg)] 54 true), (0, 0, .tail pre .u64 l e)]⟩⟩
noncomputable def S26 (pre : Nat) (n : Nat) (c : Nat) (bb : Int) (lg : Int) (m0 : Int) (m1 : Int) (l : List Int) (e : TypeId) : KSt := ⟨(frameL 135 [(2, (.slice (some ⟨0, pre, none⟩) n c)), (3, (.pointer (some ⟨1, 0, none⟩))), (4, (.pointer (some ⟨2, 0, none⟩))), (7, (.pointer (some ⟨3, 0, none⟩))), (12, (.int .i64 0)), (123, (.bool false))]), ⟨4, 1, [(3, 0, .cells [(.int .u64 bb), (.int .i64 lg), (.int .i64 m0), (.int .i64 m1), (.int .u64 0), (.int .i64 1), (.int .i64 0), (.int .u64 0), (.int .u64 0)] 82 true), (2, 0, .cells [(.int .i64 m0), (.int .i64 m1)] 55 true), (1, 0, .cells [(.int .u64 bb), (.int .i64 lg)] 54 true), (0, 0, .tail pre .u64 l e)]⟩⟩
theorem R22 (pre : Nat) (n : Nat) (c : Nat) (g : Int) (bb : Int) (lg : Int) (m0 : Int) (m1 : Int) (l : List Int) (e : TypeId) : evCK Try.prog cfgE (runK Try.prog cfgE fsE (conT grpDom grpE) 12 40) 12 (codeAt [1, 1, 1, 1, 0, 1, 0, 0, 1, 0, 0, 1, 1, 1, 1, 0, 0] B) (S24 pre n c g bb lg m0 m1 l e) (normC 1 [2, 3, 4, 7, 12, 123]) =
  bif (!(true && (true && ((((7 + g) + (8 * g)) == (7 + (9 * g))) && true)))) then
    some (.normal, (S25 pre n c bb lg m0 m1 l e))
  else
    some (.normal, (S26 pre n c bb lg m0 m1 l e)) := by kernel_rfl
theorem C1_1_1_1_0_1_0_0_1_0_0_1_1_1_1_0_1 : (codeAt [1, 1, 1, 1, 0, 1, 0, 0, 1, 0, 0, 1, 1, 1, 1, 0, 1] B) = .cond (.tmp 123) (codeAt [1, 1, 1, 1, 0, 1, 0, 0, 1, 0, 0, 1, 1, 1, 1, 0, 1, 0] B) (codeAt [1, 1, 1, 1, 0, 1, 0, 0, 1, 0, 0, 1, 1, 1, 1, 0, 1, 1] B) := by kernel_rfl
theorem R23 (pre : Nat) (n : Nat) (c : Nat) (bb : Int) (lg : Int) (m0 : Int) (m1 : Int) (l : List Int) (e : TypeId) : evCK Try.prog cfgE (runK Try.prog cfgE fsE (conT grpDom grpE) 12 40) 12 (codeAt [1, 1, 1, 1, 0, 1, 0, 0, 1, 0, 0, 1, 1, 1, 1, 0, 1, 1] B) (S26 pre n c bb lg m0 m1 l e) (normC 1 [2, 3, 4, 7, 12]) =
  some (.normal, (S14 pre n c bb lg m0 m1 l e)) := by kernel_rfl
theorem C1_1_1_1_0_1_0_0_1_0_0_1_1_1_1_1 : (codeAt [1, 1, 1, 1, 0, 1, 0, 0, 1, 0, 0, 1, 1, 1, 1, 1] B) = .seq (codeAt [1, 1, 1, 1, 0, 1, 0, 0, 1, 0, 0, 1, 1, 1, 1, 1, 0] B) (codeAt [1, 1, 1, 1, 0, 1, 0, 0, 1, 0, 0, 1, 1, 1, 1, 1, 1] B) := by kernel_rfl
noncomputable def S27 (pre : Nat) (n : Nat) (c : Nat) (bb : Int) (lg : Int) (m0 : Int) (m1 : Int) (l : List Int) (e : TypeId) : KSt := ⟨(frameL 135 [(2, (.slice (some ⟨0, pre, none⟩) n c)), (3, (.pointer (some ⟨1, 0, none⟩))), (4, (.pointer (some ⟨2, 0, none⟩))), (7, (.pointer (some ⟨3, 0, none⟩))), (12, (.int .i64 0)), (127, (.bool (decide (0 < ((n : Nat) : Int)))))]), ⟨4, 1, [(3, 0, .cells [(.int .u64 bb), (.int .i64 lg), (.int .i64 m0), (.int .i64 m1), (.int .u64 0), (.int .i64 1), (.int .i64 0), (.int .u64 0), (.int .u64 0)] 82 true), (2, 0, .cells [(.int .i64 m0), (.int .i64 m1)] 55 true), (1, 0, .cells [(.int .u64 bb), (.int .i64 lg)] 54 true), (0, 0, .tail pre .u64 l e)]⟩⟩
theorem R24 (pre : Nat) (n : Nat) (c : Nat) (bb : Int) (lg : Int) (m0 : Int) (m1 : Int) (l : List Int) (e : TypeId) : evCK Try.prog cfgE (runK Try.prog cfgE fsE (conT grpDom grpE) 12 40) 12 (codeAt [1, 1, 1, 1, 0, 1, 0, 0, 1, 0, 0, 1, 1, 1, 1, 1, 0] B) (S14 pre n c bb lg m0 m1 l e) (normC 1 [2, 3, 4, 7, 12, 127]) =
  some (.normal, (S27 pre n c bb lg m0 m1 l e)) := by kernel_rfl
theorem C1_1_1_1_0_1_0_0_1_0_0_1_1_1_1_1_1 : (codeAt [1, 1, 1, 1, 0, 1, 0, 0, 1, 0, 0, 1, 1, 1, 1, 1, 1] B) = .cond (.tmp 127) (codeAt [1, 1, 1, 1, 0, 1, 0, 0, 1, 0, 0, 1, 1, 1, 1, 1, 1, 0] B) (codeAt [1, 1, 1, 1, 0, 1, 0, 0, 1, 0, 0, 1, 1, 1, 1, 1, 1, 1] B) := by kernel_rfl
noncomputable def S28 (pre : Nat) (n : Nat) (c : Nat) (bb : Int) (lg : Int) (m0 : Int) (m1 : Int) (n1 : Int) (l : List Int) (e : TypeId) : KSt := ⟨(frameL 135 [(2, (.slice (some ⟨0, pre, none⟩) n c)), (3, (.pointer (some ⟨1, 0, none⟩))), (4, (.pointer (some ⟨2, 0, none⟩))), (7, (.pointer (some ⟨3, 0, none⟩))), (12, (.int .i64 0))]), ⟨4, 1, [(3, 0, .cells [(.int .u64 bb), (.int .i64 lg), (.int .i64 m0), (.int .i64 m1), (.int .u64 n1), (.int .i64 0), (.int .i64 1), (.int .u64 0), (.int .u64 0)] 82 true), (2, 0, .cells [(.int .i64 m0), (.int .i64 m1)] 55 true), (1, 0, .cells [(.int .u64 bb), (.int .i64 lg)] 54 true), (0, 0, .tail pre .u64 l e)]⟩⟩
noncomputable def S29 (pre : Nat) (n : Nat) (c : Nat) (bb : Int) (lg : Int) (m0 : Int) (m1 : Int) (n1 : Int) (l : List Int) (e : TypeId) : KSt := ⟨(frameL 135 [(2, (.slice (some ⟨0, pre, none⟩) n c)), (3, (.pointer (some ⟨1, 0, none⟩))), (4, (.pointer (some ⟨2, 0, none⟩))), (7, (.pointer (some ⟨3, 0, none⟩))), (12, (.int .i64 0))]), ⟨4, 1, [(3, 0, .cells [(.int .u64 bb), (.int .i64 lg), (.int .i64 m0), (.int .i64 m1), (.int .u64 n1), (.int .i64 2), (.int .i64 0), (.int .u64 0), (.int .u64 0)] 82 true), (2, 0, .cells [(.int .i64 m0), (.int .i64 m1)] 55 true), (1, 0, .cells [(.int .u64 bb), (.int .i64 lg)] 54 true), (0, 0, .tail pre .u64 l e)]⟩⟩
theorem R25 (pre : Nat) (n : Nat) (c : Nat) (bb : Int) (lg : Int) (m0 : Int) (m1 : Int) (l : List Int) (e : TypeId) : evCK Try.prog cfgE (runK Try.prog cfgE fsE (conT grpDom grpE) 12 40) 12 (codeAt [1, 1, 1, 1, 0, 1, 0, 0, 1, 0, 0, 1, 1, 1, 1, 1, 1, 0] B) (S27 pre n c bb lg m0 m1 l e) (normC 1 [2, 3, 4, 7, 12]) =
  if (0 : Int) ≤ 0 ∧ 0 < ((n : Nat) : Int) then
    bif (Nat.ble pre (pre + 0)) then
      obind (l[((pre + 0) - pre)]?) fun n1 =>
        bif (n1 == 0) then
          some (.normal, (S28 pre n c bb lg m0 m1 n1 l e))
        else
          some (.normal, (S29 pre n c bb lg m0 m1 n1 l e))
    else
      none
  else
    none := by kernel_rfl
noncomputable def S30 (pre : Nat) (n : Nat) (c : Nat) (bb : Int) (lg : Int) (m0 : Int) (m1 : Int) (l : List Int) (e : TypeId) : KSt := ⟨(frameL 135 [(2, (.slice (some ⟨0, pre, none⟩) n c)), (3, (.pointer (some ⟨1, 0, none⟩))), (4, (.pointer (some ⟨2, 0, none⟩))), (7, (.pointer (some ⟨3, 0, none⟩))), (12, (.int .i64 0))]), ⟨4, 1, [(3, 0, .cells [(.int .u64 bb), (.int .i64 lg), (.int .i64 m0), (.int .i64 m1), (.int .u64 (l.getD 0 0)), (.int .i64 0), (.int .i64 1), (.int .u64 0), (.int .u64 0)] 82 true), (2, 0, .cells [(.int .i64 m0), (.int .i64 m1)] 55 true), (1, 0, .cells [(.int .u64 bb), (.int .i64 lg)] 54 true), (0, 0, .tail pre .u64 l e)]⟩⟩
noncomputable def S31 (pre : Nat) (n : Nat) (c : Nat) (bb : Int) (lg : Int) (m0 : Int) (m1 : Int) (l : List Int) (e : TypeId) : KSt := ⟨(frameL 135 [(2, (.slice (some ⟨0, pre, none⟩) n c)), (3, (.pointer (some ⟨1, 0, none⟩))), (4, (.pointer (some ⟨2, 0, none⟩))), (7, (.pointer (some ⟨3, 0, none⟩))), (12, (.int .i64 1))]), ⟨4, 1, [(3, 0, .cells [(.int .u64 bb), (.int .i64 lg), (.int .i64 m0), (.int .i64 m1), (.int .u64 (l.getD 0 0)), (.int .i64 0), (.int .i64 1), (.int .u64 0), (.int .u64 0)] 82 true), (2, 0, .cells [(.int .i64 m0), (.int .i64 m1)] 55 true), (1, 0, .cells [(.int .u64 bb), (.int .i64 lg)] 54 true), (0, 0, .tail pre .u64 l e)]⟩⟩
theorem R26 (pre : Nat) (n : Nat) (c : Nat) (bb : Int) (lg : Int) (m0 : Int) (m1 : Int) (l : List Int) (e : TypeId) : evCK Try.prog cfgE (runK Try.prog cfgE fsE (conT grpDom grpE) 12 40) 12 (codeAt [1, 1, 1, 1, 0, 1, 0, 0, 1, 1] B) (S30 pre n c bb lg m0 m1 l e) (normC 1 [2, 3, 4, 7, 12]) =
  some (.normal, (S31 pre n c bb lg m0 m1 l e)) := by kernel_rfl
theorem lp0m_7 (bb lg m0 m1 g gl : Int) (i : Int) (pre n c : Nat) (l : List Int) (e : TypeId) (hb : 0 ≤ bb) (hm : -9223372036854775808 ≤ m1 ∧ m1 < 9223372036854775808) (hg : groupsV m0 = g) (hg1 : 0 ≤ g) (hg2 : g ≤ 512) (hgl : groupsV lg = gl) (hgl1 : 0 ≤ gl) (hn20 : n ≤ 20) (hc : n ≤ c) (hc2 : c ≤ 9223372036854775807) (hl : l.length = c) (hc0 : 0 < c) (h1 : bb ≠ 0) (h2 : 0 < gl) (h3 : 0 < g) (hn : 0 < (n : Int))  (q1 : ((l.getD 0 0) == 0) = true) {Q : Ex → St → Prop} (hq : Q .normal (KSt.low (S31 pre n c bb lg m0 m1 l e))) : Gets Try.prog (KH.low ⟨1, 1, [(0, 0, .tail pre .u64 l e)]⟩) (codeAt [1, 1, 1, 1, 0, 1, 0, 0] B) (KSt.low (S14 pre n c bb lg m0 m1 l e)) Q := by
  rw [C1_1_1_1_0_1_0_0]; refine Gets.seq ?_
  rw [C1_1_1_1_0_1_0_0_0]; refine Gets.seq ?_
  refine Gets.ofN fitE grp_sound (conT_agree _ _) 12 40 (by kernel_rfl) (x := .normal) (s' := (S15 pre n c bb lg m0 m1 l e)) (R16 pre n c bb lg m0 m1 l e) ?_
  show Gets _ _ (codeAt [1, 1, 1, 1, 0, 1, 0, 0, 0, 1] B) _ _
  rw [C1_1_1_1_0_1_0_0_0_1]; refine Gets.cond true (by kernel_rfl) ((show evalX (KSt.ts (S15 pre n c bb lg m0 m1 l e)) (.tmp 60) = .bool (decide (0 ≤ ((n : Nat) : Int))) by kernel_rfl).trans (by rw [(show (decide (0 ≤ ((n : Nat) : Int))) = true from decide_eq_true (by omega))])) ?_; show Gets _ _ (codeAt [1, 1, 1, 1, 0, 1, 0, 0, 0, 1, 0] B) _ _
  refine Gets.ofN fitE grp_sound (conT_agree _ _) 12 40 (by kernel_rfl) (x := .normal) (s' := (S14 pre n c bb lg m0 m1 l e)) (R17 pre n c bb lg m0 m1 l e) ?_
  show Gets _ _ (codeAt [1, 1, 1, 1, 0, 1, 0, 0, 1] B) _ _
  rw [C1_1_1_1_0_1_0_0_1]; refine Gets.seq ?_
  rw [C1_1_1_1_0_1_0_0_1_0]; refine Gets.block ?_
  rw [C1_1_1_1_0_1_0_0_1_0_0]; refine Gets.seq ?_
  refine Gets.ofN fitE grp_sound (conT_agree _ _) 12 40 (by kernel_rfl) (x := .normal) (s' := (S17 pre n c bb lg m0 m1 l e)) ((R18 pre n c bb lg m0 m1 l e).trans (by rw [if_pos (⟨by omega, by omega⟩), condT (and_t (rfl) (ble_t (by omega))), condF (nbeq_f (by omega))])) ?_
  show Gets _ _ (codeAt [1, 1, 1, 1, 0, 1, 0, 0, 1, 0, 0, 1] B) _ _
  rw [C1_1_1_1_0_1_0_0_1_0_0_1]; refine Gets.seq ?_
  refine Gets.ofN fitE grp_sound (conT_agree _ _) 12 40 (by kernel_rfl) (x := .normal) (s' := (S20 pre n c g bb lg m0 m1 l e)) ((R19 pre n c bb lg m0 m1 l e).trans (by rw [condF (ibeq_f (by ((try simp (disch := omega) only [hg, hgl, wrap_i64_id]) <;> omega)))] <;> (show some (Ex.normal, (S19 pre n c m0 bb lg m1 l e)) = some (Ex.normal, (S20 pre n c g bb lg m0 m1 l e)); unfold S19 S20; rw [(show (groupsV m0) = g from hg), (show (IntKind.wrap .i64 (9 * g)) = (9 * g) from wrap_i64_id (by omega) (by omega)), (show (IntKind.wrap .i64 (7 + (9 * g))) = (7 + (9 * g)) from wrap_i64_id (by omega) (by omega))]))) ?_
  show Gets _ _ (codeAt [1, 1, 1, 1, 0, 1, 0, 0, 1, 0, 0, 1, 1] B) _ _
  rw [C1_1_1_1_0_1_0_0_1_0_0_1_1]; refine Gets.seq ?_
  refine Gets.ofN fitE grp_sound (conT_agree _ _) 12 40 (by kernel_rfl) (x := .normal) (s' := (S21 pre n c g bb lg m0 m1 l e)) (R20 pre n c g bb lg m0 m1 l e) ?_
  show Gets _ _ (codeAt [1, 1, 1, 1, 0, 1, 0, 0, 1, 0, 0, 1, 1, 1] B) _ _
  rw [C1_1_1_1_0_1_0_0_1_0_0_1_1_1]; refine Gets.seq ?_
  refine Gets.ofN fitE grp_sound (conT_agree _ _) 12 40 (by kernel_rfl) (x := .normal) (s' := (S24 pre n c g bb lg m0 m1 l e)) ((R21 pre n c g bb lg m0 m1 l e).trans (by rw [condF (ibeq_f (by ((try simp (disch := omega) only [hg, hgl, wrap_i64_id]) <;> omega)))] <;> (show some (Ex.normal, (S23 pre n c m0 g bb lg m1 l e)) = some (Ex.normal, (S24 pre n c g bb lg m0 m1 l e)); unfold S23 S24; rw [(show (groupsV m0) = g from hg), (show (IntKind.wrap .i64 (7 + g)) = (7 + g) from wrap_i64_id (by omega) (by omega)), (show (IntKind.wrap .i64 (8 * g)) = (8 * g) from wrap_i64_id (by omega) (by omega)), (show (IntKind.wrap .i64 ((7 + g) + (8 * g))) = ((7 + g) + (8 * g)) from wrap_i64_id (by omega) (by omega))]))) ?_
  show Gets _ _ (codeAt [1, 1, 1, 1, 0, 1, 0, 0, 1, 0, 0, 1, 1, 1, 1] B) _ _
  rw [C1_1_1_1_0_1_0_0_1_0_0_1_1_1_1]; refine Gets.seq ?_
  rw [C1_1_1_1_0_1_0_0_1_0_0_1_1_1_1_0]; refine Gets.seq ?_
  refine Gets.ofN fitE grp_sound (conT_agree _ _) 12 40 (by kernel_rfl) (x := .normal) (s' := (S26 pre n c bb lg m0 m1 l e)) ((R22 pre n c g bb lg m0 m1 l e).trans (by rw [condF (not_f (and_t (rfl) (and_t (rfl) (and_t (ibeq_t (by omega)) (rfl)))))])) ?_
  show Gets _ _ (codeAt [1, 1, 1, 1, 0, 1, 0, 0, 1, 0, 0, 1, 1, 1, 1, 0, 1] B) _ _
  rw [C1_1_1_1_0_1_0_0_1_0_0_1_1_1_1_0_1]; refine Gets.cond false (by kernel_rfl) (show evalX (KSt.ts (S26 pre n c bb lg m0 m1 l e)) (.tmp 123) = .bool false by kernel_rfl) ?_; show Gets _ _ (codeAt [1, 1, 1, 1, 0, 1, 0, 0, 1, 0, 0, 1, 1, 1, 1, 0, 1, 1] B) _ _
  refine Gets.ofN fitE grp_sound (conT_agree _ _) 12 40 (by kernel_rfl) (x := .normal) (s' := (S14 pre n c bb lg m0 m1 l e)) (R23 pre n c bb lg m0 m1 l e) ?_
  show Gets _ _ (codeAt [1, 1, 1, 1, 0, 1, 0, 0, 1, 0, 0, 1, 1, 1, 1, 1] B) _ _
  rw [C1_1_1_1_0_1_0_0_1_0_0_1_1_1_1_1]; refine Gets.seq ?_
  refine Gets.ofN fitE grp_sound (conT_agree _ _) 12 40 (by kernel_rfl) (x := .normal) (s' := (S27 pre n c bb lg m0 m1 l e)) (R24 pre n c bb lg m0 m1 l e) ?_
  show Gets _ _ (codeAt [1, 1, 1, 1, 0, 1, 0, 0, 1, 0, 0, 1, 1, 1, 1, 1, 1] B) _ _
  rw [C1_1_1_1_0_1_0_0_1_0_0_1_1_1_1_1_1]; refine Gets.cond true (by kernel_rfl) ((show evalX (KSt.ts (S27 pre n c bb lg m0 m1 l e)) (.tmp 127) = .bool (decide (0 < ((n : Nat) : Int))) by kernel_rfl).trans (by rw [(show (decide (0 < ((n : Nat) : Int))) = true from decide_eq_true (by omega))])) ?_; show Gets _ _ (codeAt [1, 1, 1, 1, 0, 1, 0, 0, 1, 0, 0, 1, 1, 1, 1, 1, 1, 0] B) _ _
  refine Gets.ofN fitE grp_sound (conT_agree _ _) 12 40 (by kernel_rfl) (x := .normal) (s' := (S30 pre n c bb lg m0 m1 l e)) ((R25 pre n c bb lg m0 m1 l e).trans (by rw [if_pos (⟨by omega, by omega⟩), condT (ble_t (by omega)), obind_at (k := 0) (by omega) (by omega), condT (q1)] <;> rfl)) ?_
  show Gets _ _ (codeAt [1, 1, 1, 1, 0, 1, 0, 0, 1, 1] B) _ _
  refine Gets.ofN fitE grp_sound (conT_agree _ _) 12 40 (by kernel_rfl) (x := .normal) (s' := (S31 pre n c bb lg m0 m1 l e)) (R26 pre n c bb lg m0 m1 l e) ?_
  exact hq
noncomputable def S32 (pre : Nat) (n : Nat) (c : Nat) (bb : Int) (lg : Int) (m0 : Int) (m1 : Int) (l : List Int) (e : TypeId) : KSt := ⟨(frameL 135 [(2, (.slice (some ⟨0, pre, none⟩) n c)), (3, (.pointer (some ⟨1, 0, none⟩))), (4, (.pointer (some ⟨2, 0, none⟩))), (7, (.pointer (some ⟨3, 0, none⟩))), (12, (.int .i64 0))]), ⟨4, 1, [(3, 0, .cells [(.int .u64 bb), (.int .i64 lg), (.int .i64 m0), (.int .i64 m1), (.int .u64 (l.getD 0 0)), (.int .i64 2), (.int .i64 0), (.int .u64 0), (.int .u64 0)] 82 true), (2, 0, .cells [(.int .i64 m0), (.int .i64 m1)] 55 true), (1, 0, .cells [(.int .u64 bb), (.int .i64 lg)] 54 true), (0, 0, .tail pre .u64 l e)]⟩⟩
noncomputable def S33 (pre : Nat) (n : Nat) (c : Nat) (bb : Int) (lg : Int) (m0 : Int) (m1 : Int) (l : List Int) (e : TypeId) : KSt := ⟨(frameL 135 [(2, (.slice (some ⟨0, pre, none⟩) n c)), (3, (.pointer (some ⟨1, 0, none⟩))), (4, (.pointer (some ⟨2, 0, none⟩))), (7, (.pointer (some ⟨3, 0, none⟩))), (12, (.int .i64 1))]), ⟨4, 1, [(3, 0, .cells [(.int .u64 bb), (.int .i64 lg), (.int .i64 m0), (.int .i64 m1), (.int .u64 (l.getD 0 0)), (.int .i64 2), (.int .i64 0), (.int .u64 0), (.int .u64 0)] 82 true), (2, 0, .cells [(.int .i64 m0), (.int .i64 m1)] 55 true), (1, 0, .cells [(.int .u64 bb), (.int .i64 lg)] 54 true), (0, 0, .tail pre .u64 l e)]⟩⟩
theorem R27 (pre : Nat) (n : Nat) (c : Nat) (bb : Int) (lg : Int) (m0 : Int) (m1 : Int) (l : List Int) (e : TypeId) : evCK Try.prog cfgE (runK Try.prog cfgE fsE (conT grpDom grpE) 12 40) 12 (codeAt [1, 1, 1, 1, 0, 1, 0, 0, 1, 1] B) (S32 pre n c bb lg m0 m1 l e) (normC 1 [2, 3, 4, 7, 12]) =
  some (.normal, (S33 pre n c bb lg m0 m1 l e)) := by kernel_rfl
theorem lp0m_8 (bb lg m0 m1 g gl : Int) (i : Int) (pre n c : Nat) (l : List Int) (e : TypeId) (hb : 0 ≤ bb) (hm : -9223372036854775808 ≤ m1 ∧ m1 < 9223372036854775808) (hg : groupsV m0 = g) (hg1 : 0 ≤ g) (hg2 : g ≤ 512) (hgl : groupsV lg = gl) (hgl1 : 0 ≤ gl) (hn20 : n ≤ 20) (hc : n ≤ c) (hc2 : c ≤ 9223372036854775807) (hl : l.length = c) (hc0 : 0 < c) (h1 : bb ≠ 0) (h2 : 0 < gl) (h3 : 0 < g) (hn : 0 < (n : Int))  (q1 : ((l.getD 0 0) == 0) = false) {Q : Ex → St → Prop} (hq : Q .normal (KSt.low (S33 pre n c bb lg m0 m1 l e))) : Gets Try.prog (KH.low ⟨1, 1, [(0, 0, .tail pre .u64 l e)]⟩) (codeAt [1, 1, 1, 1, 0, 1, 0, 0] B) (KSt.low (S14 pre n c bb lg m0 m1 l e)) Q := by
  rw [C1_1_1_1_0_1_0_0]; refine Gets.seq ?_
  rw [C1_1_1_1_0_1_0_0_0]; refine Gets.seq ?_
  refine Gets.ofN fitE grp_sound (conT_agree _ _) 12 40 (by kernel_rfl) (x := .normal) (s' := (S15 pre n c bb lg m0 m1 l e)) (R16 pre n c bb lg m0 m1 l e) ?_
  show Gets _ _ (codeAt [1, 1, 1, 1, 0, 1, 0, 0, 0, 1] B) _ _
  rw [C1_1_1_1_0_1_0_0_0_1]; refine Gets.cond true (by kernel_rfl) ((show evalX (KSt.ts (S15 pre n c bb lg m0 m1 l e)) (.tmp 60) = .bool (decide (0 ≤ ((n : Nat) : Int))) by kernel_rfl).trans (by rw [(show (decide (0 ≤ ((n : Nat) : Int))) = true from decide_eq_true (by omega))])) ?_; show Gets _ _ (codeAt [1, 1, 1, 1, 0, 1, 0, 0, 0, 1, 0] B) _ _
  refine Gets.ofN fitE grp_sound (conT_agree _ _) 12 40 (by kernel_rfl) (x := .normal) (s' := (S14 pre n c bb lg m0 m1 l e)) (R17 pre n c bb lg m0 m1 l e) ?_
  show Gets _ _ (codeAt [1, 1, 1, 1, 0, 1, 0, 0, 1] B) _ _
  rw [C1_1_1_1_0_1_0_0_1]; refine Gets.seq ?_
  rw [C1_1_1_1_0_1_0_0_1_0]; refine Gets.block ?_
  rw [C1_1_1_1_0_1_0_0_1_0_0]; refine Gets.seq ?_
  refine Gets.ofN fitE grp_sound (conT_agree _ _) 12 40 (by kernel_rfl) (x := .normal) (s' := (S17 pre n c bb lg m0 m1 l e)) ((R18 pre n c bb lg m0 m1 l e).trans (by rw [if_pos (⟨by omega, by omega⟩), condT (and_t (rfl) (ble_t (by omega))), condF (nbeq_f (by omega))])) ?_
  show Gets _ _ (codeAt [1, 1, 1, 1, 0, 1, 0, 0, 1, 0, 0, 1] B) _ _
  rw [C1_1_1_1_0_1_0_0_1_0_0_1]; refine Gets.seq ?_
  refine Gets.ofN fitE grp_sound (conT_agree _ _) 12 40 (by kernel_rfl) (x := .normal) (s' := (S20 pre n c g bb lg m0 m1 l e)) ((R19 pre n c bb lg m0 m1 l e).trans (by rw [condF (ibeq_f (by ((try simp (disch := omega) only [hg, hgl, wrap_i64_id]) <;> omega)))] <;> (show some (Ex.normal, (S19 pre n c m0 bb lg m1 l e)) = some (Ex.normal, (S20 pre n c g bb lg m0 m1 l e)); unfold S19 S20; rw [(show (groupsV m0) = g from hg), (show (IntKind.wrap .i64 (9 * g)) = (9 * g) from wrap_i64_id (by omega) (by omega)), (show (IntKind.wrap .i64 (7 + (9 * g))) = (7 + (9 * g)) from wrap_i64_id (by omega) (by omega))]))) ?_
  show Gets _ _ (codeAt [1, 1, 1, 1, 0, 1, 0, 0, 1, 0, 0, 1, 1] B) _ _
  rw [C1_1_1_1_0_1_0_0_1_0_0_1_1]; refine Gets.seq ?_
  refine Gets.ofN fitE grp_sound (conT_agree _ _) 12 40 (by kernel_rfl) (x := .normal) (s' := (S21 pre n c g bb lg m0 m1 l e)) (R20 pre n c g bb lg m0 m1 l e) ?_
  show Gets _ _ (codeAt [1, 1, 1, 1, 0, 1, 0, 0, 1, 0, 0, 1, 1, 1] B) _ _
  rw [C1_1_1_1_0_1_0_0_1_0_0_1_1_1]; refine Gets.seq ?_
  refine Gets.ofN fitE grp_sound (conT_agree _ _) 12 40 (by kernel_rfl) (x := .normal) (s' := (S24 pre n c g bb lg m0 m1 l e)) ((R21 pre n c g bb lg m0 m1 l e).trans (by rw [condF (ibeq_f (by ((try simp (disch := omega) only [hg, hgl, wrap_i64_id]) <;> omega)))] <;> (show some (Ex.normal, (S23 pre n c m0 g bb lg m1 l e)) = some (Ex.normal, (S24 pre n c g bb lg m0 m1 l e)); unfold S23 S24; rw [(show (groupsV m0) = g from hg), (show (IntKind.wrap .i64 (7 + g)) = (7 + g) from wrap_i64_id (by omega) (by omega)), (show (IntKind.wrap .i64 (8 * g)) = (8 * g) from wrap_i64_id (by omega) (by omega)), (show (IntKind.wrap .i64 ((7 + g) + (8 * g))) = ((7 + g) + (8 * g)) from wrap_i64_id (by omega) (by omega))]))) ?_
  show Gets _ _ (codeAt [1, 1, 1, 1, 0, 1, 0, 0, 1, 0, 0, 1, 1, 1, 1] B) _ _
  rw [C1_1_1_1_0_1_0_0_1_0_0_1_1_1_1]; refine Gets.seq ?_
  rw [C1_1_1_1_0_1_0_0_1_0_0_1_1_1_1_0]; refine Gets.seq ?_
  refine Gets.ofN fitE grp_sound (conT_agree _ _) 12 40 (by kernel_rfl) (x := .normal) (s' := (S26 pre n c bb lg m0 m1 l e)) ((R22 pre n c g bb lg m0 m1 l e).trans (by rw [condF (not_f (and_t (rfl) (and_t (rfl) (and_t (ibeq_t (by omega)) (rfl)))))])) ?_
  show Gets _ _ (codeAt [1, 1, 1, 1, 0, 1, 0, 0, 1, 0, 0, 1, 1, 1, 1, 0, 1] B) _ _
  rw [C1_1_1_1_0_1_0_0_1_0_0_1_1_1_1_0_1]; refine Gets.cond false (by kernel_rfl) (show evalX (KSt.ts (S26 pre n c bb lg m0 m1 l e)) (.tmp 123) = .bool false by kernel_rfl) ?_; show Gets _ _ (codeAt [1, 1, 1, 1, 0, 1, 0, 0, 1, 0, 0, 1, 1, 1, 1, 0, 1, 1] B) _ _
  refine Gets.ofN fitE grp_sound (conT_agree _ _) 12 40 (by kernel_rfl) (x := .normal) (s' := (S14 pre n c bb lg m0 m1 l e)) (R23 pre n c bb lg m0 m1 l e) ?_
  show Gets _ _ (codeAt [1, 1, 1, 1, 0, 1, 0, 0, 1, 0, 0, 1, 1, 1, 1, 1] B) _ _
  rw [C1_1_1_1_0_1_0_0_1_0_0_1_1_1_1_1]; refine Gets.seq ?_
  refine Gets.ofN fitE grp_sound (conT_agree _ _) 12 40 (by kernel_rfl) (x := .normal) (s' := (S27 pre n c bb lg m0 m1 l e)) (R24 pre n c bb lg m0 m1 l e) ?_
  show Gets _ _ (codeAt [1, 1, 1, 1, 0, 1, 0, 0, 1, 0, 0, 1, 1, 1, 1, 1, 1] B) _ _
  rw [C1_1_1_1_0_1_0_0_1_0_0_1_1_1_1_1_1]; refine Gets.cond true (by kernel_rfl) ((show evalX (KSt.ts (S27 pre n c bb lg m0 m1 l e)) (.tmp 127) = .bool (decide (0 < ((n : Nat) : Int))) by kernel_rfl).trans (by rw [(show (decide (0 < ((n : Nat) : Int))) = true from decide_eq_true (by omega))])) ?_; show Gets _ _ (codeAt [1, 1, 1, 1, 0, 1, 0, 0, 1, 0, 0, 1, 1, 1, 1, 1, 1, 0] B) _ _
  refine Gets.ofN fitE grp_sound (conT_agree _ _) 12 40 (by kernel_rfl) (x := .normal) (s' := (S32 pre n c bb lg m0 m1 l e)) ((R25 pre n c bb lg m0 m1 l e).trans (by rw [if_pos (⟨by omega, by omega⟩), condT (ble_t (by omega)), obind_at (k := 0) (by omega) (by omega), condF (q1)] <;> rfl)) ?_
  show Gets _ _ (codeAt [1, 1, 1, 1, 0, 1, 0, 0, 1, 1] B) _ _
  refine Gets.ofN fitE grp_sound (conT_agree _ _) 12 40 (by kernel_rfl) (x := .normal) (s' := (S33 pre n c bb lg m0 m1 l e)) (R27 pre n c bb lg m0 m1 l e) ?_
  exact hq
theorem R28 (pre : Nat) (n : Nat) (c : Nat) (bb : Int) (lg : Int) (m0 : Int) (m1 : Int) (l : List Int) (e : TypeId) : evCK Try.prog cfgE (runK Try.prog cfgE fsE (conT grpDom grpE) 12 40) 12 (codeAt [1, 1, 1, 1, 0, 1, 0, 0, 1, 0, 0, 1, 1, 1, 1, 1, 1, 1] B) (S27 pre n c bb lg m0 m1 l e) (normC 1 [2, 3, 4, 7, 12]) =
  some (.normal, (S14 pre n c bb lg m0 m1 l e)) := by kernel_rfl
noncomputable def S34 (pre : Nat) (n : Nat) (c : Nat) (bb : Int) (lg : Int) (m0 : Int) (m1 : Int) (l : List Int) (e : TypeId) : KSt := ⟨(frameL 135 [(2, (.slice (some ⟨0, pre, none⟩) n c)), (3, (.pointer (some ⟨1, 0, none⟩))), (4, (.pointer (some ⟨2, 0, none⟩))), (7, (.pointer (some ⟨3, 0, none⟩))), (12, (.int .i64 1))]), ⟨4, 1, [(3, 0, .cells [(.int .u64 bb), (.int .i64 lg), (.int .i64 m0), (.int .i64 m1), (.int .u64 0), (.int .i64 1), (.int .i64 0), (.int .u64 0), (.int .u64 0)] 82 true), (2, 0, .cells [(.int .i64 m0), (.int .i64 m1)] 55 true), (1, 0, .cells [(.int .u64 bb), (.int .i64 lg)] 54 true), (0, 0, .tail pre .u64 l e)]⟩⟩
theorem R29 (pre : Nat) (n : Nat) (c : Nat) (bb : Int) (lg : Int) (m0 : Int) (m1 : Int) (l : List Int) (e : TypeId) : evCK Try.prog cfgE (runK Try.prog cfgE fsE (conT grpDom grpE) 12 40) 12 (codeAt [1, 1, 1, 1, 0, 1, 0, 0, 1, 1] B) (S14 pre n c bb lg m0 m1 l e) (normC 1 [2, 3, 4, 7, 12]) =
  some (.normal, (S34 pre n c bb lg m0 m1 l e)) := by kernel_rfl
theorem lp0e_9 (bb lg m0 m1 g gl : Int) (i : Int) (pre n c : Nat) (l : List Int) (e : TypeId) (hb : 0 ≤ bb) (hm : -9223372036854775808 ≤ m1 ∧ m1 < 9223372036854775808) (hg : groupsV m0 = g) (hg1 : 0 ≤ g) (hg2 : g ≤ 512) (hgl : groupsV lg = gl) (hgl1 : 0 ≤ gl) (hn20 : n ≤ 20) (hc : n ≤ c) (hc2 : c ≤ 9223372036854775807) (hl : l.length = c) (hc0 : 0 < c) (h1 : bb ≠ 0) (h2 : 0 < gl) (h3 : 0 < g) (hn : 0 = (n : Int))   {Q : Ex → St → Prop} (hq : Q .normal (KSt.low (S34 pre n c bb lg m0 m1 l e))) : Gets Try.prog (KH.low ⟨1, 1, [(0, 0, .tail pre .u64 l e)]⟩) (codeAt [1, 1, 1, 1, 0, 1, 0, 0] B) (KSt.low (S14 pre n c bb lg m0 m1 l e)) Q := by
  rw [C1_1_1_1_0_1_0_0]; refine Gets.seq ?_
  rw [C1_1_1_1_0_1_0_0_0]; refine Gets.seq ?_
  refine Gets.ofN fitE grp_sound (conT_agree _ _) 12 40 (by kernel_rfl) (x := .normal) (s' := (S15 pre n c bb lg m0 m1 l e)) (R16 pre n c bb lg m0 m1 l e) ?_
  show Gets _ _ (codeAt [1, 1, 1, 1, 0, 1, 0, 0, 0, 1] B) _ _
  rw [C1_1_1_1_0_1_0_0_0_1]; refine Gets.cond true (by kernel_rfl) ((show evalX (KSt.ts (S15 pre n c bb lg m0 m1 l e)) (.tmp 60) = .bool (decide (0 ≤ ((n : Nat) : Int))) by kernel_rfl).trans (by rw [(show (decide (0 ≤ ((n : Nat) : Int))) = true from decide_eq_true (by omega))])) ?_; show Gets _ _ (codeAt [1, 1, 1, 1, 0, 1, 0, 0, 0, 1, 0] B) _ _
  refine Gets.ofN fitE grp_sound (conT_agree _ _) 12 40 (by kernel_rfl) (x := .normal) (s' := (S14 pre n c bb lg m0 m1 l e)) (R17 pre n c bb lg m0 m1 l e) ?_
  show Gets _ _ (codeAt [1, 1, 1, 1, 0, 1, 0, 0, 1] B) _ _
  rw [C1_1_1_1_0_1_0_0_1]; refine Gets.seq ?_
  rw [C1_1_1_1_0_1_0_0_1_0]; refine Gets.block ?_
  rw [C1_1_1_1_0_1_0_0_1_0_0]; refine Gets.seq ?_
  refine Gets.ofN fitE grp_sound (conT_agree _ _) 12 40 (by kernel_rfl) (x := .normal) (s' := (S17 pre n c bb lg m0 m1 l e)) ((R18 pre n c bb lg m0 m1 l e).trans (by rw [if_pos (⟨by omega, by omega⟩), condT (and_t (rfl) (ble_t (by omega))), condF (nbeq_f (by omega))])) ?_
  show Gets _ _ (codeAt [1, 1, 1, 1, 0, 1, 0, 0, 1, 0, 0, 1] B) _ _
  rw [C1_1_1_1_0_1_0_0_1_0_0_1]; refine Gets.seq ?_
  refine Gets.ofN fitE grp_sound (conT_agree _ _) 12 40 (by kernel_rfl) (x := .normal) (s' := (S20 pre n c g bb lg m0 m1 l e)) ((R19 pre n c bb lg m0 m1 l e).trans (by rw [condF (ibeq_f (by ((try simp (disch := omega) only [hg, hgl, wrap_i64_id]) <;> omega)))] <;> (show some (Ex.normal, (S19 pre n c m0 bb lg m1 l e)) = some (Ex.normal, (S20 pre n c g bb lg m0 m1 l e)); unfold S19 S20; rw [(show (groupsV m0) = g from hg), (show (IntKind.wrap .i64 (9 * g)) = (9 * g) from wrap_i64_id (by omega) (by omega)), (show (IntKind.wrap .i64 (7 + (9 * g))) = (7 + (9 * g)) from wrap_i64_id (by omega) (by omega))]))) ?_
  show Gets _ _ (codeAt [1, 1, 1, 1, 0, 1, 0, 0, 1, 0, 0, 1, 1] B) _ _
  rw [C1_1_1_1_0_1_0_0_1_0_0_1_1]; refine Gets.seq ?_
  refine Gets.ofN fitE grp_sound (conT_agree _ _) 12 40 (by kernel_rfl) (x := .normal) (s' := (S21 pre n c g bb lg m0 m1 l e)) (R20 pre n c g bb lg m0 m1 l e) ?_
  show Gets _ _ (codeAt [1, 1, 1, 1, 0, 1, 0, 0, 1, 0, 0, 1, 1, 1] B) _ _
  rw [C1_1_1_1_0_1_0_0_1_0_0_1_1_1]; refine Gets.seq ?_
  refine Gets.ofN fitE grp_sound (conT_agree _ _) 12 40 (by kernel_rfl) (x := .normal) (s' := (S24 pre n c g bb lg m0 m1 l e)) ((R21 pre n c g bb lg m0 m1 l e).trans (by rw [condF (ibeq_f (by ((try simp (disch := omega) only [hg, hgl, wrap_i64_id]) <;> omega)))] <;> (show some (Ex.normal, (S23 pre n c m0 g bb lg m1 l e)) = some (Ex.normal, (S24 pre n c g bb lg m0 m1 l e)); unfold S23 S24; rw [(show (groupsV m0) = g from hg), (show (IntKind.wrap .i64 (7 + g)) = (7 + g) from wrap_i64_id (by omega) (by omega)), (show (IntKind.wrap .i64 (8 * g)) = (8 * g) from wrap_i64_id (by omega) (by omega)), (show (IntKind.wrap .i64 ((7 + g) + (8 * g))) = ((7 + g) + (8 * g)) from wrap_i64_id (by omega) (by omega))]))) ?_
  show Gets _ _ (codeAt [1, 1, 1, 1, 0, 1, 0, 0, 1, 0, 0, 1, 1, 1, 1] B) _ _
  rw [C1_1_1_1_0_1_0_0_1_0_0_1_1_1_1]; refine Gets.seq ?_
  rw [C1_1_1_1_0_1_0_0_1_0_0_1_1_1_1_0]; refine Gets.seq ?_
  refine Gets.ofN fitE grp_sound (conT_agree _ _) 12 40 (by kernel_rfl) (x := .normal) (s' := (S26 pre n c bb lg m0 m1 l e)) ((R22 pre n c g bb lg m0 m1 l e).trans (by rw [condF (not_f (and_t (rfl) (and_t (rfl) (and_t (ibeq_t (by omega)) (rfl)))))])) ?_
  show Gets _ _ (codeAt [1, 1, 1, 1, 0, 1, 0, 0, 1, 0, 0, 1, 1, 1, 1, 0, 1] B) _ _
  rw [C1_1_1_1_0_1_0_0_1_0_0_1_1_1_1_0_1]; refine Gets.cond false (by kernel_rfl) (show evalX (KSt.ts (S26 pre n c bb lg m0 m1 l e)) (.tmp 123) = .bool false by kernel_rfl) ?_; show Gets _ _ (codeAt [1, 1, 1, 1, 0, 1, 0, 0, 1, 0, 0, 1, 1, 1, 1, 0, 1, 1] B) _ _
  refine Gets.ofN fitE grp_sound (conT_agree _ _) 12 40 (by kernel_rfl) (x := .normal) (s' := (S14 pre n c bb lg m0 m1 l e)) (R23 pre n c bb lg m0 m1 l e) ?_
  show Gets _ _ (codeAt [1, 1, 1, 1, 0, 1, 0, 0, 1, 0, 0, 1, 1, 1, 1, 1] B) _ _
  rw [C1_1_1_1_0_1_0_0_1_0_0_1_1_1_1_1]; refine Gets.seq ?_
  refine Gets.ofN fitE grp_sound (conT_agree _ _) 12 40 (by kernel_rfl) (x := .normal) (s' := (S27 pre n c bb lg m0 m1 l e)) (R24 pre n c bb lg m0 m1 l e) ?_
  show Gets _ _ (codeAt [1, 1, 1, 1, 0, 1, 0, 0, 1, 0, 0, 1, 1, 1, 1, 1, 1] B) _ _
  rw [C1_1_1_1_0_1_0_0_1_0_0_1_1_1_1_1_1]; refine Gets.cond false (by kernel_rfl) ((show evalX (KSt.ts (S27 pre n c bb lg m0 m1 l e)) (.tmp 127) = .bool (decide (0 < ((n : Nat) : Int))) by kernel_rfl).trans (by rw [(show (decide (0 < ((n : Nat) : Int))) = false from decide_eq_false (by omega))])) ?_; show Gets _ _ (codeAt [1, 1, 1, 1, 0, 1, 0, 0, 1, 0, 0, 1, 1, 1, 1, 1, 1, 1] B) _ _
  refine Gets.ofN fitE grp_sound (conT_agree _ _) 12 40 (by kernel_rfl) (x := .normal) (s' := (S14 pre n c bb lg m0 m1 l e)) (R28 pre n c bb lg m0 m1 l e) ?_
  show Gets _ _ (codeAt [1, 1, 1, 1, 0, 1, 0, 0, 1, 1] B) _ _
  refine Gets.ofN fitE grp_sound (conT_agree _ _) 12 40 (by kernel_rfl) (x := .normal) (s' := (S34 pre n c bb lg m0 m1 l e)) (R29 pre n c bb lg m0 m1 l e) ?_
  exact hq
noncomputable def S35 (pre : Nat) (n : Nat) (c : Nat) (i : Int) (bb : Int) (lg : Int) (m0 : Int) (m1 : Int) (l : List Int) (e : TypeId) : KSt := ⟨(frameL 135 [(2, (.slice (some ⟨0, pre, none⟩) n c)), (3, (.pointer (some ⟨1, 0, none⟩))), (4, (.pointer (some ⟨2, 0, none⟩))), (7, (.pointer (some ⟨3, 0, none⟩))), (12, (.int .i64 i))]), ⟨4, 1, [(3, 0, .cells [(.int .u64 bb), (.int .i64 lg), (.int .i64 m0), (.int .i64 m1), (.int .u64 0), (.int .i64 1), (.int .i64 0), (.int .u64 0), (.int .u64 0)] 82 true), (2, 0, .cells [(.int .i64 m0), (.int .i64 m1)] 55 true), (1, 0, .cells [(.int .u64 bb), (.int .i64 lg)] 54 true), (0, 0, .tail pre .u64 l e)]⟩⟩
noncomputable def S36 (pre : Nat) (n : Nat) (c : Nat) (bb : Int) (lg : Int) (m0 : Int) (m1 : Int) (l : List Int) (e : TypeId) : KSt := ⟨(frameL 135 [(2, (.slice (some ⟨0, pre, none⟩) n c)), (3, (.pointer (some ⟨1, 0, none⟩))), (4, (.pointer (some ⟨2, 0, none⟩))), (7, (.pointer (some ⟨3, 0, none⟩))), (12, (.int .i64 1)), (60, (.bool (decide (1 ≤ ((n : Nat) : Int)))))]), ⟨4, 1, [(3, 0, .cells [(.int .u64 bb), (.int .i64 lg), (.int .i64 m0), (.int .i64 m1), (.int .u64 (l.getD 0 0)), (.int .i64 0), (.int .i64 1), (.int .u64 0), (.int .u64 0)] 82 true), (2, 0, .cells [(.int .i64 m0), (.int .i64 m1)] 55 true), (1, 0, .cells [(.int .u64 bb), (.int .i64 lg)] 54 true), (0, 0, .tail pre .u64 l e)]⟩⟩
theorem R30 (pre : Nat) (n : Nat) (c : Nat) (bb : Int) (lg : Int) (m0 : Int) (m1 : Int) (l : List Int) (e : TypeId) : evCK Try.prog cfgE (runK Try.prog cfgE fsE (conT grpDom grpE) 12 40) 12 (codeAt [1, 1, 1, 1, 0, 1, 0, 0, 0, 0] B) (S31 pre n c bb lg m0 m1 l e) (normC 1 [2, 3, 4, 7, 12, 60]) =
  some (.normal, (S36 pre n c bb lg m0 m1 l e)) := by kernel_rfl
theorem R31 (pre : Nat) (n : Nat) (c : Nat) (bb : Int) (lg : Int) (m0 : Int) (m1 : Int) (l : List Int) (e : TypeId) : evCK Try.prog cfgE (runK Try.prog cfgE fsE (conT grpDom grpE) 12 40) 12 (codeAt [1, 1, 1, 1, 0, 1, 0, 0, 0, 1, 0] B) (S36 pre n c bb lg m0 m1 l e) (normC 1 [2, 3, 4, 7, 12]) =
  some (.normal, (S31 pre n c bb lg m0 m1 l e)) := by kernel_rfl
noncomputable def S37 (pre : Nat) (n : Nat) (c : Nat) (bb : Int) (lg : Int) (m0 : Int) (m1 : Int) (l : List Int) (e : TypeId) : KSt := ⟨(frameL 135 [(2, (.slice (some ⟨0, pre, none⟩) n c)), (3, (.pointer (some ⟨1, 0, none⟩))), (4, (.pointer (some ⟨2, 0, none⟩))), (7, (.pointer (some ⟨3, 0, none⟩))), (12, (.int .i64 1)), (13, (.pointer (some ⟨4, 0, none⟩)))]), ⟨5, 1, [(4, 0, .cells [(.slice (some ⟨0, pre, none⟩) 1 (c - 0)), (.int .i64 0), (.bool false), (.int .i64 0), (.int .u64 0), (.int .i64 0), (.int .u64 0), (.int .u64 0)] 31 true), (3, 0, .cells [(.int .u64 bb), (.int .i64 lg), (.int .i64 m0), (.int .i64 m1), (.int .u64 (l.getD 0 0)), (.int .i64 0), (.int .i64 1), (.int .u64 0), (.int .u64 0)] 82 true), (2, 0, .cells [(.int .i64 m0), (.int .i64 m1)] 55 true), (1, 0, .cells [(.int .u64 bb), (.int .i64 lg)] 54 true), (0, 0, .tail pre .u64 l e)]⟩⟩
noncomputable def S38 (pre : Nat) (n : Nat) (c : Nat) (bb : Int) (lg : Int) (m0 : Int) (m1 : Int) (l : List Int) (e : TypeId) : KSt := ⟨(frameL 135 [(2, (.slice (some ⟨0, pre, none⟩) n c)), (3, (.pointer (some ⟨1, 0, none⟩))), (4, (.pointer (some ⟨2, 0, none⟩))), (7, (.pointer (some ⟨3, 0, none⟩))), (12, (.int .i64 1)), (13, (.pointer (some ⟨4, 0, none⟩)))]), ⟨5, 1, [(4, 0, .cells [(.slice (some ⟨0, (pre + 0), none⟩) 1 (c - 0)), (.int .i64 0), (.bool false), (.int .i64 0), (.int .u64 0), (.int .i64 0), (.int .u64 0), (.int .u64 0)] 31 true), (3, 0, .cells [(.int .u64 bb), (.int .i64 lg), (.int .i64 m0), (.int .i64 m1), (.int .u64 (l.getD 0 0)), (.int .i64 0), (.int .i64 1), (.int .u64 0), (.int .u64 0)] 82 true), (2, 0, .cells [(.int .i64 m0), (.int .i64 m1)] 55 true), (1, 0, .cells [(.int .u64 bb), (.int .i64 lg)] 54 true), (0, 0, .tail pre .u64 l e)]⟩⟩
theorem R32 (pre : Nat) (n : Nat) (c : Nat) (bb : Int) (lg : Int) (m0 : Int) (m1 : Int) (l : List Int) (e : TypeId) : evCK Try.prog cfgE (runK Try.prog cfgE fsE (conT grpDom grpE) 12 40) 12 (codeAt [1, 1, 1, 1, 0, 1, 0, 0, 1, 0, 0, 0] B) (S31 pre n c bb lg m0 m1 l e) (normC 1 [2, 3, 4, 7, 12, 13]) =
  if (0 : Int) ≤ 1 ∧ 1 ≤ ((c : Nat) : Int) then
    bif (true && (Nat.ble 1 c)) then
      bif (Nat.beq c 0) then
        some (.normal, (S37 pre n c bb lg m0 m1 l e))
      else
        some (.normal, (S38 pre n c bb lg m0 m1 l e))
    else
      none
  else
    none := by kernel_rfl
noncomputable def S39 (pre : Nat) (n : Nat) (c : Nat) (bb : Int) (lg : Int) (m0 : Int) (m1 : Int) (l : List Int) (e : TypeId) : KSt := ⟨(frameL 135 [(2, (.slice (some ⟨0, pre, none⟩) n c)), (3, (.pointer (some ⟨1, 0, none⟩))), (4, (.pointer (some ⟨2, 0, none⟩))), (7, (.pointer (some ⟨3, 0, none⟩))), (12, (.int .i64 1)), (13, (.pointer (some ⟨4, 0, none⟩))), (14, (.pointer (some ⟨5, 0, none⟩)))]), ⟨6, 1, [(5, 0, .cells [(.int .i64 1), (.int .u64 0), (.int .u64 0)] 63 true), (4, 0, .cells [(.slice (some ⟨0, (pre + 0), none⟩) 1 (c - 0)), (.int .i64 1), (.bool false), (.int .i64 0), (.int .u64 0), (.int .i64 0), (.int .u64 0), (.int .u64 0)] 31 true), (3, 0, .cells [(.int .u64 bb), (.int .i64 lg), (.int .i64 m0), (.int .i64 m1), (.int .u64 (l.getD 0 0)), (.int .i64 0), (.int .i64 1), (.int .u64 0), (.int .u64 0)] 82 true), (2, 0, .cells [(.int .i64 m0), (.int .i64 m1)] 55 true), (1, 0, .cells [(.int .u64 bb), (.int .i64 lg)] 54 true), (0, 0, .tail pre .u64 l e)]⟩⟩
noncomputable def S40 (pre : Nat) (n : Nat) (c : Nat) (n1 : Int) (m1 : Int) (m0 : Int) (bb : Int) (lg : Int) (l : List Int) (e : TypeId) : KSt := ⟨(frameL 135 [(2, (.slice (some ⟨0, pre, none⟩) n c)), (3, (.pointer (some ⟨1, 0, none⟩))), (4, (.pointer (some ⟨2, 0, none⟩))), (7, (.pointer (some ⟨3, 0, none⟩))), (12, (.int .i64 1)), (13, (.pointer (some ⟨4, 0, none⟩))), (14, (.pointer (some ⟨5, 0, none⟩)))]), ⟨6, 1, [(5, 0, .cells [(.int .i64 2), (.int .u64 n1), (.int .u64 (makeRV n1 m1))] 63 true), (4, 0, .cells [(.slice (some ⟨0, (pre + 0), none⟩) 1 (c - 0)), (.int .i64 1), (.bool true), (.int .i64 2), (.int .u64 n1), (.int .i64 0), (.int .u64 0), (.int .u64 (IntKind.wrap .u64 m0))] 31 true), (3, 0, .cells [(.int .u64 bb), (.int .i64 lg), (.int .i64 m0), (.int .i64 m1), (.int .u64 (l.getD 0 0)), (.int .i64 0), (.int .i64 1), (.int .u64 0), (.int .u64 0)] 82 true), (2, 0, .cells [(.int .i64 m0), (.int .i64 m1)] 55 true), (1, 0, .cells [(.int .u64 bb), (.int .i64 lg)] 54 true), (0, 0, .tail pre .u64 l e)]⟩⟩
noncomputable def S41 (pre : Nat) (n : Nat) (c : Nat) (n2 : Int) (m1 : Int) (m0 : Int) (bb : Int) (lg : Int) (l : List Int) (e : TypeId) : KSt := ⟨(frameL 135 [(2, (.slice (some ⟨0, pre, none⟩) n c)), (3, (.pointer (some ⟨1, 0, none⟩))), (4, (.pointer (some ⟨2, 0, none⟩))), (7, (.pointer (some ⟨3, 0, none⟩))), (12, (.int .i64 1)), (13, (.pointer (some ⟨4, 0, none⟩))), (14, (.pointer (some ⟨5, 0, none⟩)))]), ⟨6, 1, [(5, 0, .cells [(.int .i64 2), (.int .u64 n2), (.int .u64 (makeRV n2 m1))] 63 true), (4, 0, .cells [(.slice (some ⟨0, (pre + 0), none⟩) 1 (c - 0)), (.int .i64 1), (.bool true), (.int .i64 2), (.int .u64 n2), (.int .i64 0), (.int .u64 0), (.int .u64 (IntKind.wrap .u64 m0))] 31 true), (3, 0, .cells [(.int .u64 bb), (.int .i64 lg), (.int .i64 m0), (.int .i64 m1), (.int .u64 (l.getD 0 0)), (.int .i64 0), (.int .i64 1), (.int .u64 0), (.int .u64 0)] 82 true), (2, 0, .cells [(.int .i64 m0), (.int .i64 m1)] 55 true), (1, 0, .cells [(.int .u64 bb), (.int .i64 lg)] 54 true), (0, 0, .tail pre .u64 l e)]⟩⟩
theorem R33 (pre : Nat) (n : Nat) (c : Nat) (bb : Int) (lg : Int) (m0 : Int) (m1 : Int) (l : List Int) (e : TypeId) : evCK Try.prog cfgE (runK Try.prog cfgE fsE (conT grpDom grpE) 12 40) 12 (codeAt [1, 1, 1, 1, 0, 1, 0, 0, 1, 0, 0, 1, 0] B) (S38 pre n c bb lg m0 m1 l e) (normC 1 [2, 3, 4, 7, 12, 13, 14]) =
  bif ((groupsV m0) == 0) then
    bif (Nat.ble pre ((pre + 0) + 0)) then
      obind (l[(((pre + 0) + 0) - pre)]?) fun n1 =>
        bif (n1 == 0) then
          some (.normal, (S39 pre n c bb lg m0 m1 l e))
        else
          some (.normal, (S40 pre n c n1 m1 m0 bb lg l e))
    else
      none
  else
    bif (Nat.ble pre ((pre + 0) + 0)) then
      obind (l[(((pre + 0) + 0) - pre)]?) fun n2 =>
        bif (n2 == 0) then
          some (.normal, (S39 pre n c bb lg m0 m1 l e))
        else
          some (.normal, (S41 pre n c n2 m1 m0 bb lg l e))
    else
      none := by kernel_rfl
noncomputable def S42 (pre : Nat) (n : Nat) (c : Nat) (bb : Int) (lg : Int) (m0 : Int) (m1 : Int) (l : List Int) (e : TypeId) : KSt := ⟨(frameL 135 [(2, (.slice (some ⟨0, pre, none⟩) n c)), (3, (.pointer (some ⟨1, 0, none⟩))), (4, (.pointer (some ⟨2, 0, none⟩))), (7, (.pointer (some ⟨3, 0, none⟩))), (12, (.int .i64 1)), (13, (.pointer (some ⟨4, 0, none⟩))), (14, (.pointer (some ⟨5, 0, none⟩))), (15, (.pointer (some ⟨6, 0, none⟩))), (16, (.bool true))]), ⟨7, 1, [(6, 0, .cells [(.int .i64 1), (.int .u64 0), (.int .u64 0)] 60 true), (5, 0, .cells [(.int .i64 1), (.int .u64 0), (.int .u64 0)] 63 true), (4, 0, .cells [(.slice (some ⟨0, (pre + 0), none⟩) 1 (c - 0)), (.int .i64 1), (.bool false), (.int .i64 0), (.int .u64 0), (.int .i64 0), (.int .u64 0), (.int .u64 0)] 31 true), (3, 0, .cells [(.int .u64 bb), (.int .i64 lg), (.int .i64 m0), (.int .i64 m1), (.int .u64 (l.getD 0 0)), (.int .i64 0), (.int .i64 1), (.int .u64 0), (.int .u64 0)] 82 true), (2, 0, .cells [(.int .i64 m0), (.int .i64 m1)] 55 true), (1, 0, .cells [(.int .u64 bb), (.int .i64 lg)] 54 true), (0, 0, .tail pre .u64 l e)]⟩⟩
theorem R34 (pre : Nat) (n : Nat) (c : Nat) (bb : Int) (lg : Int) (m0 : Int) (m1 : Int) (l : List Int) (e : TypeId) : evCK Try.prog cfgE (runK Try.prog cfgE fsE (conT grpDom grpE) 12 40) 12 (codeAt [1, 1, 1, 1, 0, 1, 0, 0, 1, 0, 0, 1, 1, 0] B) (S39 pre n c bb lg m0 m1 l e) (normC 1 [2, 3, 4, 7, 12, 13, 14, 15, 16]) =
  some (.normal, (S42 pre n c bb lg m0 m1 l e)) := by kernel_rfl
noncomputable def S43 (pre : Nat) (n : Nat) (c : Nat) (bb : Int) (lg : Int) (m0 : Int) (m1 : Int) (l : List Int) (e : TypeId) : KSt := ⟨(frameL 135 [(2, (.slice (some ⟨0, pre, none⟩) n c)), (3, (.pointer (some ⟨1, 0, none⟩))), (4, (.pointer (some ⟨2, 0, none⟩))), (7, (.pointer (some ⟨3, 0, none⟩))), (12, (.int .i64 1)), (13, (.pointer (some ⟨4, 0, none⟩))), (14, (.pointer (some ⟨5, 0, none⟩))), (15, (.pointer (some ⟨6, 0, none⟩))), (16, (.bool true)), (17, (.pointer (some ⟨7, 0, none⟩))), (18, (.bool false))]), ⟨8, 1, [(7, 0, .cells [(.int .i64 0), (.int .u64 0), (.int .i64 0), (.int .u64 0), (.int .u64 0)] 29 true), (6, 0, .cells [(.int .i64 1), (.int .u64 0), (.int .u64 0)] 60 true), (5, 0, .cells [(.int .i64 1), (.int .u64 0), (.int .u64 0)] 63 true), (4, 0, .cells [(.slice (some ⟨0, (pre + 0), none⟩) 1 (c - 0)), (.int .i64 1), (.bool false), (.int .i64 0), (.int .u64 0), (.int .i64 0), (.int .u64 0), (.int .u64 0)] 31 true), (3, 0, .cells [(.int .u64 bb), (.int .i64 lg), (.int .i64 m0), (.int .i64 m1), (.int .u64 (l.getD 0 0)), (.int .i64 0), (.int .i64 1), (.int .u64 0), (.int .u64 0)] 82 true), (2, 0, .cells [(.int .i64 m0), (.int .i64 m1)] 55 true), (1, 0, .cells [(.int .u64 bb), (.int .i64 lg)] 54 true), (0, 0, .tail pre .u64 l e)]⟩⟩
theorem R35 (pre : Nat) (n : Nat) (c : Nat) (bb : Int) (lg : Int) (m0 : Int) (m1 : Int) (l : List Int) (e : TypeId) : evCK Try.prog cfgE (runK Try.prog cfgE fsE (conT grpDom grpE) 12 40) 12 (codeAt [1, 1, 1, 1, 0, 1, 0, 0, 1, 0, 0, 1, 1, 1, 0] B) (S42 pre n c bb lg m0 m1 l e) (normC 1 [2, 3, 4, 7, 12, 13, 14, 15, 16, 17, 18]) =
  some (.normal, (S43 pre n c bb lg m0 m1 l e)) := by kernel_rfl
noncomputable def S44 (pre : Nat) (n : Nat) (c : Nat) (bb : Int) (lg : Int) (m0 : Int) (m1 : Int) (l : List Int) (e : TypeId) : KSt := ⟨(frameL 135 [(2, (.slice (some ⟨0, pre, none⟩) n c)), (3, (.pointer (some ⟨1, 0, none⟩))), (4, (.pointer (some ⟨2, 0, none⟩))), (7, (.pointer (some ⟨3, 0, none⟩))), (12, (.int .i64 1)), (123, (.bool false))]), ⟨4, 1, [(3, 0, .cells [(.int .u64 bb), (.int .i64 lg), (.int .i64 m0), (.int .i64 m1), (.int .u64 (l.getD 0 0)), (.int .i64 0), (.int .i64 1), (.int .u64 0), (.int .u64 0)] 82 true), (2, 0, .cells [(.int .i64 m0), (.int .i64 m1)] 55 true), (1, 0, .cells [(.int .u64 bb), (.int .i64 lg)] 54 true), (0, 0, .tail pre .u64 l e)]⟩⟩
theorem R36 (pre : Nat) (n : Nat) (c : Nat) (bb : Int) (lg : Int) (m0 : Int) (m1 : Int) (l : List Int) (e : TypeId) : evCK Try.prog cfgE (runK Try.prog cfgE fsE (conT grpDom grpE) 12 40) 12 (codeAt [1, 1, 1, 1, 0, 1, 0, 0, 1, 0, 0, 1, 1, 1, 1, 0, 0] B) (S43 pre n c bb lg m0 m1 l e) (normC 1 [2, 3, 4, 7, 12, 123]) =
  some (.normal, (S44 pre n c bb lg m0 m1 l e)) := by kernel_rfl
theorem R37 (pre : Nat) (n : Nat) (c : Nat) (bb : Int) (lg : Int) (m0 : Int) (m1 : Int) (l : List Int) (e : TypeId) : evCK Try.prog cfgE (runK Try.prog cfgE fsE (conT grpDom grpE) 12 40) 12 (codeAt [1, 1, 1, 1, 0, 1, 0, 0, 1, 0, 0, 1, 1, 1, 1, 0, 1, 1] B) (S44 pre n c bb lg m0 m1 l e) (normC 1 [2, 3, 4, 7, 12]) =
  some (.normal, (S31 pre n c bb lg m0 m1 l e)) := by kernel_rfl
noncomputable def S45 (pre : Nat) (n : Nat) (c : Nat) (bb : Int) (lg : Int) (m0 : Int) (m1 : Int) (l : List Int) (e : TypeId) : KSt := ⟨(frameL 135 [(2, (.slice (some ⟨0, pre, none⟩) n c)), (3, (.pointer (some ⟨1, 0, none⟩))), (4, (.pointer (some ⟨2, 0, none⟩))), (7, (.pointer (some ⟨3, 0, none⟩))), (12, (.int .i64 1)), (127, (.bool (decide (1 < ((n : Nat) : Int)))))]), ⟨4, 1, [(3, 0, .cells [(.int .u64 bb), (.int .i64 lg), (.int .i64 m0), (.int .i64 m1), (.int .u64 (l.getD 0 0)), (.int .i64 0), (.int .i64 1), (.int .u64 0), (.int .u64 0)] 82 true), (2, 0, .cells [(.int .i64 m0), (.int .i64 m1)] 55 true), (1, 0, .cells [(.int .u64 bb), (.int .i64 lg)] 54 true), (0, 0, .tail pre .u64 l e)]⟩⟩
theorem R38 (pre : Nat) (n : Nat) (c : Nat) (bb : Int) (lg : Int) (m0 : Int) (m1 : Int) (l : List Int) (e : TypeId) : evCK Try.prog cfgE (runK Try.prog cfgE fsE (conT grpDom grpE) 12 40) 12 (codeAt [1, 1, 1, 1, 0, 1, 0, 0, 1, 0, 0, 1, 1, 1, 1, 1, 0] B) (S31 pre n c bb lg m0 m1 l e) (normC 1 [2, 3, 4, 7, 12, 127]) =
  some (.normal, (S45 pre n c bb lg m0 m1 l e)) := by kernel_rfl
theorem R39 (pre : Nat) (n : Nat) (c : Nat) (bb : Int) (lg : Int) (m0 : Int) (m1 : Int) (l : List Int) (e : TypeId) : evCK Try.prog cfgE (runK Try.prog cfgE fsE (conT grpDom grpE) 12 40) 12 (codeAt [1, 1, 1, 1, 0, 1, 0, 0, 1, 0, 0, 1, 1, 1, 1, 1, 1, 0] B) (S45 pre n c bb lg m0 m1 l e) (normC 1 [2, 3, 4, 7, 12]) =
  if (0 : Int) ≤ 1 ∧ 1 < ((n : Nat) : Int) then
    bif (Nat.ble pre (pre + 1)) then
      obind (l[((pre + 1) - pre)]?) fun n1 =>
        some (.normal, (S31 pre n c bb lg m0 m1 l e))
    else
      none
  else
    none := by kernel_rfl
noncomputable def S46 (pre : Nat) (n : Nat) (c : Nat) (bb : Int) (lg : Int) (m0 : Int) (m1 : Int) (l : List Int) (e : TypeId) : KSt := ⟨(frameL 135 [(2, (.slice (some ⟨0, pre, none⟩) n c)), (3, (.pointer (some ⟨1, 0, none⟩))), (4, (.pointer (some ⟨2, 0, none⟩))), (7, (.pointer (some ⟨3, 0, none⟩))), (12, (.int .i64 2))]), ⟨4, 1, [(3, 0, .cells [(.int .u64 bb), (.int .i64 lg), (.int .i64 m0), (.int .i64 m1), (.int .u64 (l.getD 0 0)), (.int .i64 0), (.int .i64 1), (.int .u64 0), (.int .u64 0)] 82 true), (2, 0, .cells [(.int .i64 m0), (.int .i64 m1)] 55 true), (1, 0, .cells [(.int .u64 bb), (.int .i64 lg)] 54 true), (0, 0, .tail pre .u64 l e)]⟩⟩
theorem R40 (pre : Nat) (n : Nat) (c : Nat) (bb : Int) (lg : Int) (m0 : Int) (m1 : Int) (l : List Int) (e : TypeId) : evCK Try.prog cfgE (runK Try.prog cfgE fsE (conT grpDom grpE) 12 40) 12 (codeAt [1, 1, 1, 1, 0, 1, 0, 0, 1, 1] B) (S31 pre n c bb lg m0 m1 l e) (normC 1 [2, 3, 4, 7, 12]) =
  some (.normal, (S46 pre n c bb lg m0 m1 l e)) := by kernel_rfl
theorem lp1m_10 (bb lg m0 m1 g gl : Int) (i : Int) (pre n c : Nat) (l : List Int) (e : TypeId) (hb : 0 ≤ bb) (hm : -9223372036854775808 ≤ m1 ∧ m1 < 9223372036854775808) (hg : groupsV m0 = g) (hg1 : 0 ≤ g) (hg2 : g ≤ 512) (hgl : groupsV lg = gl) (hgl1 : 0 ≤ gl) (hn20 : n ≤ 20) (hc : n ≤ c) (hc2 : c ≤ 9223372036854775807) (hl : l.length = c) (hc0 : 0 < c) (h1 : bb ≠ 0) (h2 : 0 < gl) (h3 : 0 < g) (hn : 1 < (n : Int))  (q1 : ((l.getD 0 0) == 0) = true) {Q : Ex → St → Prop} (hq : Q .normal (KSt.low (S46 pre n c bb lg m0 m1 l e))) : Gets Try.prog (KH.low ⟨1, 1, [(0, 0, .tail pre .u64 l e)]⟩) (codeAt [1, 1, 1, 1, 0, 1, 0, 0] B) (KSt.low (S31 pre n c bb lg m0 m1 l e)) Q := by
  rw [C1_1_1_1_0_1_0_0]; refine Gets.seq ?_
  rw [C1_1_1_1_0_1_0_0_0]; refine Gets.seq ?_
  refine Gets.ofN fitE grp_sound (conT_agree _ _) 12 40 (by kernel_rfl) (x := .normal) (s' := (S36 pre n c bb lg m0 m1 l e)) (R30 pre n c bb lg m0 m1 l e) ?_
  show Gets _ _ (codeAt [1, 1, 1, 1, 0, 1, 0, 0, 0, 1] B) _ _
  rw [C1_1_1_1_0_1_0_0_0_1]; refine Gets.cond true (by kernel_rfl) ((show evalX (KSt.ts (S36 pre n c bb lg m0 m1 l e)) (.tmp 60) = .bool (decide (1 ≤ ((n : Nat) : Int))) by kernel_rfl).trans (by rw [(show (decide (1 ≤ ((n : Nat) : Int))) = true from decide_eq_true (by omega))])) ?_; show Gets _ _ (codeAt [1, 1, 1, 1, 0, 1, 0, 0, 0, 1, 0] B) _ _
  refine Gets.ofN fitE grp_sound (conT_agree _ _) 12 40 (by kernel_rfl) (x := .normal) (s' := (S31 pre n c bb lg m0 m1 l e)) (R31 pre n c bb lg m0 m1 l e) ?_
  show Gets _ _ (codeAt [1, 1, 1, 1, 0, 1, 0, 0, 1] B) _ _
  rw [C1_1_1_1_0_1_0_0_1]; refine Gets.seq ?_
  rw [C1_1_1_1_0_1_0_0_1_0]; refine Gets.block ?_
  rw [C1_1_1_1_0_1_0_0_1_0_0]; refine Gets.seq ?_
  refine Gets.ofN fitE grp_sound (conT_agree _ _) 12 40 (by kernel_rfl) (x := .normal) (s' := (S38 pre n c bb lg m0 m1 l e)) ((R32 pre n c bb lg m0 m1 l e).trans (by rw [if_pos (⟨by omega, by omega⟩), condT (and_t (rfl) (ble_t (by omega))), condF (nbeq_f (by omega))])) ?_
  show Gets _ _ (codeAt [1, 1, 1, 1, 0, 1, 0, 0, 1, 0, 0, 1] B) _ _
  rw [C1_1_1_1_0_1_0_0_1_0_0_1]; refine Gets.seq ?_
  refine Gets.ofN fitE grp_sound (conT_agree _ _) 12 40 (by kernel_rfl) (x := .normal) (s' := (S39 pre n c bb lg m0 m1 l e)) ((R33 pre n c bb lg m0 m1 l e).trans (by rw [condF (ibeq_f (by ((try simp (disch := omega) only [hg, hgl, wrap_i64_id]) <;> omega))), condT (ble_t (by omega)), obind_at (k := 0) (by omega) (by omega), condT (q1)] <;> rfl)) ?_
  show Gets _ _ (codeAt [1, 1, 1, 1, 0, 1, 0, 0, 1, 0, 0, 1, 1] B) _ _
  rw [C1_1_1_1_0_1_0_0_1_0_0_1_1]; refine Gets.seq ?_
  refine Gets.ofN fitE grp_sound (conT_agree _ _) 12 40 (by kernel_rfl) (x := .normal) (s' := (S42 pre n c bb lg m0 m1 l e)) (R34 pre n c bb lg m0 m1 l e) ?_
  show Gets _ _ (codeAt [1, 1, 1, 1, 0, 1, 0, 0, 1, 0, 0, 1, 1, 1] B) _ _
  rw [C1_1_1_1_0_1_0_0_1_0_0_1_1_1]; refine Gets.seq ?_
  refine Gets.ofN fitE grp_sound (conT_agree _ _) 12 40 (by kernel_rfl) (x := .normal) (s' := (S43 pre n c bb lg m0 m1 l e)) (R35 pre n c bb lg m0 m1 l e) ?_
  show Gets _ _ (codeAt [1, 1, 1, 1, 0, 1, 0, 0, 1, 0, 0, 1, 1, 1, 1] B) _ _
  rw [C1_1_1_1_0_1_0_0_1_0_0_1_1_1_1]; refine Gets.seq ?_
  rw [C1_1_1_1_0_1_0_0_1_0_0_1_1_1_1_0]; refine Gets.seq ?_
  refine Gets.ofN fitE grp_sound (conT_agree _ _) 12 40 (by kernel_rfl) (x := .normal) (s' := (S44 pre n c bb lg m0 m1 l e)) (R36 pre n c bb lg m0 m1 l e) ?_
  show Gets _ _ (codeAt [1, 1, 1, 1, 0, 1, 0, 0, 1, 0, 0, 1, 1, 1, 1, 0, 1] B) _ _
  rw [C1_1_1_1_0_1_0_0_1_0_0_1_1_1_1_0_1]; refine Gets.cond false (by kernel_rfl) (show evalX (KSt.ts (S44 pre n c bb lg m0 m1 l e)) (.tmp 123) = .bool false by kernel_rfl) ?_; show Gets _ _ (codeAt [1, 1, 1, 1, 0, 1, 0, 0, 1, 0, 0, 1, 1, 1, 1, 0, 1, 1] B) _ _
  refine Gets.ofN fitE grp_sound (conT_agree _ _) 12 40 (by kernel_rfl) (x := .normal) (s' := (S31 pre n c bb lg m0 m1 l e)) (R37 pre n c bb lg m0 m1 l e) ?_
  show Gets _ _ (codeAt [1, 1, 1, 1, 0, 1, 0, 0, 1, 0, 0, 1, 1, 1, 1, 1] B) _ _
  rw [C1_1_1_1_0_1_0_0_1_0_0_1_1_1_1_1]; refine Gets.seq ?_
  refine Gets.ofN fitE grp_sound (conT_agree _ _) 12 40 (by kernel_rfl) (x := .normal) (s' := (S45 pre n c bb lg m0 m1 l e)) (R38 pre n c bb lg m0 m1 l e) ?_
  show Gets _ _ (codeAt [1, 1, 1, 1, 0, 1, 0, 0, 1, 0, 0, 1, 1, 1, 1, 1, 1] B) _ _
  rw [C1_1_1_1_0_1_0_0_1_0_0_1_1_1_1_1_1]; refine Gets.cond true (by kernel_rfl) ((show evalX (KSt.ts (S45 pre n c bb lg m0 m1 l e)) (.tmp 127) = .bool (decide (1 < ((n : Nat) : Int))) by kernel_rfl).trans (by rw [(show (decide (1 < ((n : Nat) : Int))) = true from decide_eq_true (by omega))])) ?_; show Gets _ _ (codeAt [1, 1, 1, 1, 0, 1, 0, 0, 1, 0, 0, 1, 1, 1, 1, 1, 1, 0] B) _ _
  refine Gets.ofN fitE grp_sound (conT_agree _ _) 12 40 (by kernel_rfl) (x := .normal) (s' := (S31 pre n c bb lg m0 m1 l e)) ((R39 pre n c bb lg m0 m1 l e).trans (by rw [if_pos (⟨by omega, by omega⟩), condT (ble_t (by omega)), obind_at (k := 1) (by omega) (by omega)] <;> rfl)) ?_
  show Gets _ _ (codeAt [1, 1, 1, 1, 0, 1, 0, 0, 1, 1] B) _ _
  refine Gets.ofN fitE grp_sound (conT_agree _ _) 12 40 (by kernel_rfl) (x := .normal) (s' := (S46 pre n c bb lg m0 m1 l e)) (R40 pre n c bb lg m0 m1 l e) ?_
  exact hq
theorem R41 (pre : Nat) (n : Nat) (c : Nat) (bb : Int) (lg : Int) (m0 : Int) (m1 : Int) (l : List Int) (e : TypeId) : evCK Try.prog cfgE (runK Try.prog cfgE fsE (conT grpDom grpE) 12 40) 12 (codeAt [1, 1, 1, 1, 0, 1, 0, 0, 1, 0, 0, 1, 1, 1, 1, 1, 1, 1] B) (S45 pre n c bb lg m0 m1 l e) (normC 1 [2, 3, 4, 7, 12]) =
  some (.normal, (S31 pre n c bb lg m0 m1 l e)) := by kernel_rfl
theorem lp1e_11 (bb lg m0 m1 g gl : Int) (i : Int) (pre n c : Nat) (l : List Int) (e : TypeId) (hb : 0 ≤ bb) (hm : -9223372036854775808 ≤ m1 ∧ m1 < 9223372036854775808) (hg : groupsV m0 = g) (hg1 : 0 ≤ g) (hg2 : g ≤ 512) (hgl : groupsV lg = gl) (hgl1 : 0 ≤ gl) (hn20 : n ≤ 20) (hc : n ≤ c) (hc2 : c ≤ 9223372036854775807) (hl : l.length = c) (hc0 : 0 < c) (h1 : bb ≠ 0) (h2 : 0 < gl) (h3 : 0 < g) (hn : 1 = (n : Int))  (q1 : ((l.getD 0 0) == 0) = true) {Q : Ex → St → Prop} (hq : Q .normal (KSt.low (S46 pre n c bb lg m0 m1 l e))) : Gets Try.prog (KH.low ⟨1, 1, [(0, 0, .tail pre .u64 l e)]⟩) (codeAt [1, 1, 1, 1, 0, 1, 0, 0] B) (KSt.low (S31 pre n c bb lg m0 m1 l e)) Q := by
  rw [C1_1_1_1_0_1_0_0]; refine Gets.seq ?_
  rw [C1_1_1_1_0_1_0_0_0]; refine Gets.seq ?_
  refine Gets.ofN fitE grp_sound (conT_agree _ _) 12 40 (by kernel_rfl) (x := .normal) (s' := (S36 pre n c bb lg m0 m1 l e)) (R30 pre n c bb lg m0 m1 l e) ?_
  show Gets _ _ (codeAt [1, 1, 1, 1, 0, 1, 0, 0, 0, 1] B) _ _
  rw [C1_1_1_1_0_1_0_0_0_1]; refine Gets.cond true (by kernel_rfl) ((show evalX (KSt.ts (S36 pre n c bb lg m0 m1 l e)) (.tmp 60) = .bool (decide (1 ≤ ((n : Nat) : Int))) by kernel_rfl).trans (by rw [(show (decide (1 ≤ ((n : Nat) : Int))) = true from decide_eq_true (by omega))])) ?_; show Gets _ _ (codeAt [1, 1, 1, 1, 0, 1, 0, 0, 0, 1, 0] B) _ _
  refine Gets.ofN fitE grp_sound (conT_agree _ _) 12 40 (by kernel_rfl) (x := .normal) (s' := (S31 pre n c bb lg m0 m1 l e)) (R31 pre n c bb lg m0 m1 l e) ?_
  show Gets _ _ (codeAt [1, 1, 1, 1, 0, 1, 0, 0, 1] B) _ _
  rw [C1_1_1_1_0_1_0_0_1]; refine Gets.seq ?_
  rw [C1_1_1_1_0_1_0_0_1_0]; refine Gets.block ?_
  rw [C1_1_1_1_0_1_0_0_1_0_0]; refine Gets.seq ?_
  refine Gets.ofN fitE grp_sound (conT_agree _ _) 12 40 (by kernel_rfl) (x := .normal) (s' := (S38 pre n c bb lg m0 m1 l e)) ((R32 pre n c bb lg m0 m1 l e).trans (by rw [if_pos (⟨by omega, by omega⟩), condT (and_t (rfl) (ble_t (by omega))), condF (nbeq_f (by omega))])) ?_
  show Gets _ _ (codeAt [1, 1, 1, 1, 0, 1, 0, 0, 1, 0, 0, 1] B) _ _
  rw [C1_1_1_1_0_1_0_0_1_0_0_1]; refine Gets.seq ?_
  refine Gets.ofN fitE grp_sound (conT_agree _ _) 12 40 (by kernel_rfl) (x := .normal) (s' := (S39 pre n c bb lg m0 m1 l e)) ((R33 pre n c bb lg m0 m1 l e).trans (by rw [condF (ibeq_f (by ((try simp (disch := omega) only [hg, hgl, wrap_i64_id]) <;> omega))), condT (ble_t (by omega)), obind_at (k := 0) (by omega) (by omega), condT (q1)] <;> rfl)) ?_
  show Gets _ _ (codeAt [1, 1, 1, 1, 0, 1, 0, 0, 1, 0, 0, 1, 1] B) _ _
  rw [C1_1_1_1_0_1_0_0_1_0_0_1_1]; refine Gets.seq ?_
  refine Gets.ofN fitE grp_sound (conT_agree _ _) 12 40 (by kernel_rfl) (x := .normal) (s' := (S42 pre n c bb lg m0 m1 l e)) (R34 pre n c bb lg m0 m1 l e) ?_
  show Gets _ _ (codeAt [1, 1, 1, 1, 0, 1, 0, 0, 1, 0, 0, 1, 1, 1] B) _ _
  rw [C1_1_1_1_0_1_0_0_1_0_0_1_1_1]; refine Gets.seq ?_
  refine Gets.ofN fitE grp_sound (conT_agree _ _) 12 40 (by kernel_rfl) (x := .normal) (s' := (S43 pre n c bb lg m0 m1 l e)) (R35 pre n c bb lg m0 m1 l e) ?_
  show Gets _ _ (codeAt [1, 1, 1, 1, 0, 1, 0, 0, 1, 0, 0, 1, 1, 1, 1] B) _ _
  rw [C1_1_1_1_0_1_0_0_1_0_0_1_1_1_1]; refine Gets.seq ?_
  rw [C1_1_1_1_0_1_0_0_1_0_0_1_1_1_1_0]; refine Gets.seq ?_
  refine Gets.ofN fitE grp_sound (conT_agree _ _) 12 40 (by kernel_rfl) (x := .normal) (s' := (S44 pre n c bb lg m0 m1 l e)) (R36 pre n c bb lg m0 m1 l e) ?_
  show Gets _ _ (codeAt [1, 1, 1, 1, 0, 1, 0, 0, 1, 0, 0, 1, 1, 1, 1, 0, 1] B) _ _
  rw [C1_1_1_1_0_1_0_0_1_0_0_1_1_1_1_0_1]; refine Gets.cond false (by kernel_rfl) (show evalX (KSt.ts (S44 pre n c bb lg m0 m1 l e)) (.tmp 123) = .bool false by kernel_rfl) ?_; show Gets _ _ (codeAt [1, 1, 1, 1, 0, 1, 0, 0, 1, 0, 0, 1, 1, 1, 1, 0, 1, 1] B) _ _
  refine Gets.ofN fitE grp_sound (conT_agree _ _) 12 40 (by kernel_rfl) (x := .normal) (s' := (S31 pre n c bb lg m0 m1 l e)) (R37 pre n c bb lg m0 m1 l e) ?_
  show Gets _ _ (codeAt [1, 1, 1, 1, 0, 1, 0, 0, 1, 0, 0, 1, 1, 1, 1, 1] B) _ _
  rw [C1_1_1_1_0_1_0_0_1_0_0_1_1_1_1_1]; refine Gets.seq ?_
  refine Gets.ofN fitE grp_sound (conT_agree _ _) 12 40 (by kernel_rfl) (x := .normal) (s' := (S45 pre n c bb lg m0 m1 l e)) (R38 pre n c bb lg m0 m1 l e) ?_
  show Gets _ _ (codeAt [1, 1, 1, 1, 0, 1, 0, 0, 1, 0, 0, 1, 1, 1, 1, 1, 1] B) _ _
  rw [C1_1_1_1_0_1_0_0_1_0_0_1_1_1_1_1_1]; refine Gets.cond false (by kernel_rfl) ((show evalX (KSt.ts (S45 pre n c bb lg m0 m1 l e)) (.tmp 127) = .bool (decide (1 < ((n : Nat) : Int))) by kernel_rfl).trans (by rw [(show (decide (1 < ((n : Nat) : Int))) = false from decide_eq_false (by omega))])) ?_; show Gets _ _ (codeAt [1, 1, 1, 1, 0, 1, 0, 0, 1, 0, 0, 1, 1, 1, 1, 1, 1, 1] B) _ _
  refine Gets.ofN fitE grp_sound (conT_agree _ _) 12 40 (by kernel_rfl) (x := .normal) (s' := (S31 pre n c bb lg m0 m1 l e)) (R41 pre n c bb lg m0 m1 l e) ?_
  show Gets _ _ (codeAt [1, 1, 1, 1, 0, 1, 0, 0, 1, 1] B) _ _
  refine Gets.ofN fitE grp_sound (conT_agree _ _) 12 40 (by kernel_rfl) (x := .normal) (s' := (S46 pre n c bb lg m0 m1 l e)) (R40 pre n c bb lg m0 m1 l e) ?_
  exact hq
noncomputable def S47 (pre : Nat) (n : Nat) (c : Nat) (i : Int) (bb : Int) (lg : Int) (m0 : Int) (m1 : Int) (l : List Int) (e : TypeId) : KSt := ⟨(frameL 135 [(2, (.slice (some ⟨0, pre, none⟩) n c)), (3, (.pointer (some ⟨1, 0, none⟩))), (4, (.pointer (some ⟨2, 0, none⟩))), (7, (.pointer (some ⟨3, 0, none⟩))), (12, (.int .i64 i))]), ⟨4, 1, [(3, 0, .cells [(.int .u64 bb), (.int .i64 lg), (.int .i64 m0), (.int .i64 m1), (.int .u64 (l.getD 0 0)), (.int .i64 0), (.int .i64 1), (.int .u64 0), (.int .u64 0)] 82 true), (2, 0, .cells [(.int .i64 m0), (.int .i64 m1)] 55 true), (1, 0, .cells [(.int .u64 bb), (.int .i64 lg)] 54 true), (0, 0, .tail pre .u64 l e)]⟩⟩
noncomputable def S48 (pre : Nat) (n : Nat) (c : Nat) (bb : Int) (lg : Int) (m0 : Int) (m1 : Int) (l : List Int) (e : TypeId) : KSt := ⟨(frameL 135 [(2, (.slice (some ⟨0, pre, none⟩) n c)), (3, (.pointer (some ⟨1, 0, none⟩))), (4, (.pointer (some ⟨2, 0, none⟩))), (7, (.pointer (some ⟨3, 0, none⟩))), (12, (.int .i64 1)), (60, (.bool (decide (1 ≤ ((n : Nat) : Int)))))]), ⟨4, 1, [(3, 0, .cells [(.int .u64 bb), (.int .i64 lg), (.int .i64 m0), (.int .i64 m1), (.int .u64 (l.getD 0 0)), (.int .i64 2), (.int .i64 0), (.int .u64 0), (.int .u64 0)] 82 true), (2, 0, .cells [(.int .i64 m0), (.int .i64 m1)] 55 true), (1, 0, .cells [(.int .u64 bb), (.int .i64 lg)] 54 true), (0, 0, .tail pre .u64 l e)]⟩⟩
theorem R42 (pre : Nat) (n : Nat) (c : Nat) (bb : Int) (lg : Int) (m0 : Int) (m1 : Int) (l : List Int) (e : TypeId) : evCK Try.prog cfgE (runK Try.prog cfgE fsE (conT grpDom grpE) 12 40) 12 (codeAt [1, 1, 1, 1, 0, 1, 0, 0, 0, 0] B) (S33 pre n c bb lg m0 m1 l e) (normC 1 [2, 3, 4, 7, 12, 60]) =
  some (.normal, (S48 pre n c bb lg m0 m1 l e)) := by kernel_rfl
theorem R43 (pre : Nat) (n : Nat) (c : Nat) (bb : Int) (lg : Int) (m0 : Int) (m1 : Int) (l : List Int) (e : TypeId) : evCK Try.prog cfgE (runK Try.prog cfgE fsE (conT grpDom grpE) 12 40) 12 (codeAt [1, 1, 1, 1, 0, 1, 0, 0, 0, 1, 0] B) (S48 pre n c bb lg m0 m1 l e) (normC 1 [2, 3, 4, 7, 12]) =
  some (.normal, (S33 pre n c bb lg m0 m1 l e)) := by kernel_rfl
noncomputable def S49 (pre : Nat) (n : Nat) (c : Nat) (bb : Int) (lg : Int) (m0 : Int) (m1 : Int) (l : List Int) (e : TypeId) : KSt := ⟨(frameL 135 [(2, (.slice (some ⟨0, pre, none⟩) n c)), (3, (.pointer (some ⟨1, 0, none⟩))), (4, (.pointer (some ⟨2, 0, none⟩))), (7, (.pointer (some ⟨3, 0, none⟩))), (12, (.int .i64 1)), (13, (.pointer (some ⟨4, 0, none⟩)))]), ⟨5, 1, [(4, 0, .cells [(.slice (some ⟨0, pre, none⟩) 1 (c - 0)), (.int .i64 0), (.bool false), (.int .i64 0), (.int .u64 0), (.int .i64 0), (.int .u64 0), (.int .u64 0)] 31 true), (3, 0, .cells [(.int .u64 bb), (.int .i64 lg), (.int .i64 m0), (.int .i64 m1), (.int .u64 (l.getD 0 0)), (.int .i64 2), (.int .i64 0), (.int .u64 0), (.int .u64 0)] 82 true), (2, 0, .cells [(.int .i64 m0), (.int .i64 m1)] 55 true), (1, 0, .cells [(.int .u64 bb), (.int .i64 lg)] 54 true), (0, 0, .tail pre .u64 l e)]⟩⟩
noncomputable def S50 (pre : Nat) (n : Nat) (c : Nat) (bb : Int) (lg : Int) (m0 : Int) (m1 : Int) (l : List Int) (e : TypeId) : KSt := ⟨(frameL 135 [(2, (.slice (some ⟨0, pre, none⟩) n c)), (3, (.pointer (some ⟨1, 0, none⟩))), (4, (.pointer (some ⟨2, 0, none⟩))), (7, (.pointer (some ⟨3, 0, none⟩))), (12, (.int .i64 1)), (13, (.pointer (some ⟨4, 0, none⟩)))]), ⟨5, 1, [(4, 0, .cells [(.slice (some ⟨0, (pre + 0), none⟩) 1 (c - 0)), (.int .i64 0), (.bool false), (.int .i64 0), (.int .u64 0), (.int .i64 0), (.int .u64 0), (.int .u64 0)] 31 true), (3, 0, .cells [(.int .u64 bb), (.int .i64 lg), (.int .i64 m0), (.int .i64 m1), (.int .u64 (l.getD 0 0)), (.int .i64 2), (.int .i64 0), (.int .u64 0), (.int .u64 0)] 82 true), (2, 0, .cells [(.int .i64 m0), (.int .i64 m1)] 55 true), (1, 0, .cells [(.int .u64 bb), (.int .i64 lg)] 54 true), (0, 0, .tail pre .u64 l e)]⟩⟩
theorem R44 (pre : Nat) (n : Nat) (c : Nat) (bb : Int) (lg : Int) (m0 : Int) (m1 : Int) (l : List Int) (e : TypeId) : evCK Try.prog cfgE (runK Try.prog cfgE fsE (conT grpDom grpE) 12 40) 12 (codeAt [1, 1, 1, 1, 0, 1, 0, 0, 1, 0, 0, 0] B) (S33 pre n c bb lg m0 m1 l e) (normC 1 [2, 3, 4, 7, 12, 13]) =
  if (0 : Int) ≤ 1 ∧ 1 ≤ ((c : Nat) : Int) then
    bif (true && (Nat.ble 1 c)) then
      bif (Nat.beq c 0) then
        some (.normal, (S49 pre n c bb lg m0 m1 l e))
      else
        some (.normal, (S50 pre n c bb lg m0 m1 l e))
    else
      none
  else
    none := by kernel_rfl
noncomputable def S51 (pre : Nat) (n : Nat) (c : Nat) (bb : Int) (lg : Int) (m0 : Int) (m1 : Int) (l : List Int) (e : TypeId) : KSt := ⟨(frameL 135 [(2, (.slice (some ⟨0, pre, none⟩) n c)), (3, (.pointer (some ⟨1, 0, none⟩))), (4, (.pointer (some ⟨2, 0, none⟩))), (7, (.pointer (some ⟨3, 0, none⟩))), (12, (.int .i64 1)), (13, (.pointer (some ⟨4, 0, none⟩))), (14, (.pointer (some ⟨5, 0, none⟩)))]), ⟨6, 1, [(5, 0, .cells [(.int .i64 1), (.int .u64 0), (.int .u64 0)] 63 true), (4, 0, .cells [(.slice (some ⟨0, (pre + 0), none⟩) 1 (c - 0)), (.int .i64 1), (.bool false), (.int .i64 0), (.int .u64 0), (.int .i64 0), (.int .u64 0), (.int .u64 0)] 31 true), (3, 0, .cells [(.int .u64 bb), (.int .i64 lg), (.int .i64 m0), (.int .i64 m1), (.int .u64 (l.getD 0 0)), (.int .i64 2), (.int .i64 0), (.int .u64 0), (.int .u64 0)] 82 true), (2, 0, .cells [(.int .i64 m0), (.int .i64 m1)] 55 true), (1, 0, .cells [(.int .u64 bb), (.int .i64 lg)] 54 true), (0, 0, .tail pre .u64 l e)]⟩⟩
noncomputable def S52 (pre : Nat) (n : Nat) (c : Nat) (n1 : Int) (m1 : Int) (m0 : Int) (bb : Int) (lg : Int) (l : List Int) (e : TypeId) : KSt := ⟨(frameL 135 [(2, (.slice (some ⟨0, pre, none⟩) n c)), (3, (.pointer (some ⟨1, 0, none⟩))), (4, (.pointer (some ⟨2, 0, none⟩))), (7, (.pointer (some ⟨3, 0, none⟩))), (12, (.int .i64 1)), (13, (.pointer (some ⟨4, 0, none⟩))), (14, (.pointer (some ⟨5, 0, none⟩)))]), ⟨6, 1, [(5, 0, .cells [(.int .i64 2), (.int .u64 n1), (.int .u64 (makeRV n1 m1))] 63 true), (4, 0, .cells [(.slice (some ⟨0, (pre + 0), none⟩) 1 (c - 0)), (.int .i64 1), (.bool true), (.int .i64 2), (.int .u64 n1), (.int .i64 0), (.int .u64 0), (.int .u64 (IntKind.wrap .u64 m0))] 31 true), (3, 0, .cells [(.int .u64 bb), (.int .i64 lg), (.int .i64 m0), (.int .i64 m1), (.int .u64 (l.getD 0 0)), (.int .i64 2), (.int .i64 0), (.int .u64 0), (.int .u64 0)] 82 true), (2, 0, .cells [(.int .i64 m0), (.int .i64 m1)] 55 true), (1, 0, .cells [(.int .u64 bb), (.int .i64 lg)] 54 true), (0, 0, .tail pre .u64 l e)]⟩⟩
noncomputable def S53 (pre : Nat) (n : Nat) (c : Nat) (n2 : Int) (m1 : Int) (m0 : Int) (bb : Int) (lg : Int) (l : List Int) (e : TypeId) : KSt := ⟨(frameL 135 [(2, (.slice (some ⟨0, pre, none⟩) n c)), (3, (.pointer (some ⟨1, 0, none⟩))), (4, (.pointer (some ⟨2, 0, none⟩))), (7, (.pointer (some ⟨3, 0, none⟩))), (12, (.int .i64 1)), (13, (.pointer (some ⟨4, 0, none⟩))), (14, (.pointer (some ⟨5, 0, none⟩)))]), ⟨6, 1, [(5, 0, .cells [(.int .i64 2), (.int .u64 n2), (.int .u64 (makeRV n2 m1))] 63 true), (4, 0, .cells [(.slice (some ⟨0, (pre + 0), none⟩) 1 (c - 0)), (.int .i64 1), (.bool true), (.int .i64 2), (.int .u64 n2), (.int .i64 0), (.int .u64 0), (.int .u64 (IntKind.wrap .u64 m0))] 31 true), (3, 0, .cells [(.int .u64 bb), (.int .i64 lg), (.int .i64 m0), (.int .i64 m1), (.int .u64 (l.getD 0 0)), (.int .i64 2), (.int .i64 0), (.int .u64 0), (.int .u64 0)] 82 true), (2, 0, .cells [(.int .i64 m0), (.int .i64 m1)] 55 true), (1, 0, .cells [(.int .u64 bb), (.int .i64 lg)] 54 true), (0, 0, .tail pre .u64 l e)]⟩⟩
theorem R45 (pre : Nat) (n : Nat) (c : Nat) (bb : Int) (lg : Int) (m0 : Int) (m1 : Int) (l : List Int) (e : TypeId) : evCK Try.prog cfgE (runK Try.prog cfgE fsE (conT grpDom grpE) 12 40) 12 (codeAt [1, 1, 1, 1, 0, 1, 0, 0, 1, 0, 0, 1, 0] B) (S50 pre n c bb lg m0 m1 l e) (normC 1 [2, 3, 4, 7, 12, 13, 14]) =
  bif ((groupsV m0) == 0) then
    bif (Nat.ble pre ((pre + 0) + 0)) then
      obind (l[(((pre + 0) + 0) - pre)]?) fun n1 =>
        bif (n1 == 0) then
          some (.normal, (S51 pre n c bb lg m0 m1 l e))
        else
          some (.normal, (S52 pre n c n1 m1 m0 bb lg l e))
    else
      none
  else
    bif (Nat.ble pre ((pre + 0) + 0)) then
      obind (l[(((pre + 0) + 0) - pre)]?) fun n2 =>
        bif (n2 == 0) then
          some (.normal, (S51 pre n c bb lg m0 m1 l e))
        else
          some (.normal, (S53 pre n c n2 m1 m0 bb lg l e))
    else
      none := by kernel_rfl
noncomputable def S54 (pre : Nat) (n : Nat) (c : Nat) (l : List Int) (m1 : Int) (m0 : Int) (bb : Int) (lg : Int) (e : TypeId) : KSt := ⟨(frameL 135 [(2, (.slice (some ⟨0, pre, none⟩) n c)), (3, (.pointer (some ⟨1, 0, none⟩))), (4, (.pointer (some ⟨2, 0, none⟩))), (7, (.pointer (some ⟨3, 0, none⟩))), (12, (.int .i64 1)), (13, (.pointer (some ⟨4, 0, none⟩))), (14, (.pointer (some ⟨5, 0, none⟩)))]), ⟨6, 1, [(5, 0, .cells [(.int .i64 2), (.int .u64 (l.getD 0 0)), (.int .u64 (makeV (l.getD 0 0) m1))] 63 true), (4, 0, .cells [(.slice (some ⟨0, (pre + 0), none⟩) 1 (c - 0)), (.int .i64 1), (.bool true), (.int .i64 2), (.int .u64 (l.getD 0 0)), (.int .i64 0), (.int .u64 0), (.int .u64 (IntKind.wrap .u64 m0))] 31 true), (3, 0, .cells [(.int .u64 bb), (.int .i64 lg), (.int .i64 m0), (.int .i64 m1), (.int .u64 (l.getD 0 0)), (.int .i64 2), (.int .i64 0), (.int .u64 0), (.int .u64 0)] 82 true), (2, 0, .cells [(.int .i64 m0), (.int .i64 m1)] 55 true), (1, 0, .cells [(.int .u64 bb), (.int .i64 lg)] 54 true), (0, 0, .tail pre .u64 l e)]⟩⟩
noncomputable def S55 (pre : Nat) (n : Nat) (c : Nat) (l : List Int) (m1 : Int) (m0 : Int) (bb : Int) (lg : Int) (e : TypeId) : KSt := ⟨(frameL 135 [(2, (.slice (some ⟨0, pre, none⟩) n c)), (3, (.pointer (some ⟨1, 0, none⟩))), (4, (.pointer (some ⟨2, 0, none⟩))), (7, (.pointer (some ⟨3, 0, none⟩))), (12, (.int .i64 1)), (13, (.pointer (some ⟨4, 0, none⟩))), (14, (.pointer (some ⟨5, 0, none⟩)))]), ⟨6, 1, [(5, 0, .cells [(.int .i64 2), (.int .u64 (l.getD 0 0)), (.int .u64 (makeRV (l.getD 0 0) m1))] 63 true), (4, 0, .cells [(.slice (some ⟨0, (pre + 0), none⟩) 1 (c - 0)), (.int .i64 1), (.bool true), (.int .i64 2), (.int .u64 (l.getD 0 0)), (.int .i64 0), (.int .u64 0), (.int .u64 (IntKind.wrap .u64 m0))] 31 true), (3, 0, .cells [(.int .u64 bb), (.int .i64 lg), (.int .i64 m0), (.int .i64 m1), (.int .u64 (l.getD 0 0)), (.int .i64 2), (.int .i64 0), (.int .u64 0), (.int .u64 0)] 82 true), (2, 0, .cells [(.int .i64 m0), (.int .i64 m1)] 55 true), (1, 0, .cells [(.int .u64 bb), (.int .i64 lg)] 54 true), (0, 0, .tail pre .u64 l e)]⟩⟩
noncomputable def S56 (pre : Nat) (n : Nat) (c : Nat) (l : List Int) (m1 : Int) (m0 : Int) (bb : Int) (lg : Int) (e : TypeId) : KSt := ⟨(frameL 135 [(2, (.slice (some ⟨0, pre, none⟩) n c)), (3, (.pointer (some ⟨1, 0, none⟩))), (4, (.pointer (some ⟨2, 0, none⟩))), (7, (.pointer (some ⟨3, 0, none⟩))), (12, (.int .i64 1)), (13, (.pointer (some ⟨4, 0, none⟩))), (14, (.pointer (some ⟨5, 0, none⟩))), (15, (.pointer (some ⟨6, 0, none⟩))), (16, (.bool false))]), ⟨7, 1, [(6, 0, .cells [(.int .i64 0), (.int .u64 0), (.int .u64 0)] 60 true), (5, 0, .cells [(.int .i64 2), (.int .u64 (l.getD 0 0)), (.int .u64 (makeV (l.getD 0 0) m1))] 63 true), (4, 0, .cells [(.slice (some ⟨0, (pre + 0), none⟩) 1 (c - 0)), (.int .i64 1), (.bool true), (.int .i64 2), (.int .u64 (l.getD 0 0)), (.int .i64 0), (.int .u64 0), (.int .u64 (IntKind.wrap .u64 m0))] 31 true), (3, 0, .cells [(.int .u64 bb), (.int .i64 lg), (.int .i64 m0), (.int .i64 m1), (.int .u64 (l.getD 0 0)), (.int .i64 2), (.int .i64 0), (.int .u64 0), (.int .u64 0)] 82 true), (2, 0, .cells [(.int .i64 m0), (.int .i64 m1)] 55 true), (1, 0, .cells [(.int .u64 bb), (.int .i64 lg)] 54 true), (0, 0, .tail pre .u64 l e)]⟩⟩
theorem R46 (pre : Nat) (n : Nat) (c : Nat) (l : List Int) (m1 : Int) (m0 : Int) (bb : Int) (lg : Int) (e : TypeId) : evCK Try.prog cfgE (runK Try.prog cfgE fsE (conT grpDom grpE) 12 40) 12 (codeAt [1, 1, 1, 1, 0, 1, 0, 0, 1, 0, 0, 1, 1, 0] B) (S54 pre n c l m1 m0 bb lg e) (normC 1 [2, 3, 4, 7, 12, 13, 14, 15, 16]) =
  some (.normal, (S56 pre n c l m1 m0 bb lg e)) := by kernel_rfl
noncomputable def S57 (pre : Nat) (n : Nat) (c : Nat) (l : List Int) (m0 : Int) (m1 : Int) (bb : Int) (lg : Int) (e : TypeId) : KSt := ⟨(frameL 135 [(2, (.slice (some ⟨0, pre, none⟩) n c)), (3, (.pointer (some ⟨1, 0, none⟩))), (4, (.pointer (some ⟨2, 0, none⟩))), (7, (.pointer (some ⟨3, 0, none⟩))), (12, (.int .i64 1)), (13, (.pointer (some ⟨4, 0, none⟩))), (14, (.pointer (some ⟨5, 0, none⟩))), (15, (.pointer (some ⟨6, 0, none⟩))), (16, (.bool false)), (17, (.pointer (some ⟨7, 0, none⟩))), (18, (.bool true))]), ⟨8, 1, [(7, 0, .cells [(.int .i64 2), (.int .u64 (l.getD 0 0)), (.int .i64 0), (.int .u64 0), (.int .u64 (IntKind.wrap .u64 m0))] 29 true), (6, 0, .cells [(.int .i64 0), (.int .u64 0), (.int .u64 0)] 60 true), (5, 0, .cells [(.int .i64 2), (.int .u64 (l.getD 0 0)), (.int .u64 (makeV (l.getD 0 0) m1))] 63 true), (4, 0, .cells [(.slice (some ⟨0, (pre + 0), none⟩) 1 (c - 0)), (.int .i64 1), (.bool true), (.int .i64 2), (.int .u64 (l.getD 0 0)), (.int .i64 0), (.int .u64 0), (.int .u64 (IntKind.wrap .u64 m0))] 31 true), (3, 0, .cells [(.int .u64 bb), (.int .i64 lg), (.int .i64 m0), (.int .i64 m1), (.int .u64 (l.getD 0 0)), (.int .i64 2), (.int .i64 0), (.int .u64 0), (.int .u64 0)] 82 true), (2, 0, .cells [(.int .i64 m0), (.int .i64 m1)] 55 true), (1, 0, .cells [(.int .u64 bb), (.int .i64 lg)] 54 true), (0, 0, .tail pre .u64 l e)]⟩⟩
theorem R47 (pre : Nat) (n : Nat) (c : Nat) (l : List Int) (m1 : Int) (m0 : Int) (bb : Int) (lg : Int) (e : TypeId) : evCK Try.prog cfgE (runK Try.prog cfgE fsE (conT grpDom grpE) 12 40) 12 (codeAt [1, 1, 1, 1, 0, 1, 0, 0, 1, 0, 0, 1, 1, 1, 0] B) (S56 pre n c l m1 m0 bb lg e) (normC 1 [2, 3, 4, 7, 12, 13, 14, 15, 16, 17, 18]) =
  some (.normal, (S57 pre n c l m0 m1 bb lg e)) := by kernel_rfl
noncomputable def S58 (pre : Nat) (n : Nat) (c : Nat) (bb : Int) (lg : Int) (m0 : Int) (m1 : Int) (l : List Int) (e : TypeId) : KSt := ⟨(frameL 135 [(2, (.slice (some ⟨0, pre, none⟩) n c)), (3, (.pointer (some ⟨1, 0, none⟩))), (4, (.pointer (some ⟨2, 0, none⟩))), (7, (.pointer (some ⟨3, 0, none⟩))), (12, (.int .i64 1)), (123, (.bool true))]), ⟨4, 1, [(3, 0, .cells [(.int .u64 bb), (.int .i64 lg), (.int .i64 m0), (.int .i64 m1), (.int .u64 (l.getD 0 0)), (.int .i64 2), (.int .i64 0), (.int .u64 0), (.int .u64 0)] 82 true), (2, 0, .cells [(.int .i64 m0), (.int .i64 m1)] 55 true), (1, 0, .cells [(.int .u64 bb), (.int .i64 lg)] 54 true), (0, 0, .tail pre .u64 l e)]⟩⟩
noncomputable def S59 (pre : Nat) (n : Nat) (c : Nat) (bb : Int) (lg : Int) (m0 : Int) (m1 : Int) (l : List Int) (e : TypeId) : KSt := ⟨(frameL 135 [(2, (.slice (some ⟨0, pre, none⟩) n c)), (3, (.pointer (some ⟨1, 0, none⟩))), (4, (.pointer (some ⟨2, 0, none⟩))), (7, (.pointer (some ⟨3, 0, none⟩))), (12, (.int .i64 1)), (123, (.bool false))]), ⟨4, 1, [(3, 0, .cells [(.int .u64 bb), (.int .i64 lg), (.int .i64 m0), (.int .i64 m1), (.int .u64 (l.getD 0 0)), (.int .i64 2), (.int .i64 0), (.int .u64 0), (.int .u64 0)] 82 true), (2, 0, .cells [(.int .i64 m0), (.int .i64 m1)] 55 true), (1, 0, .cells [(.int .u64 bb), (.int .i64 lg)] 54 true), (0, 0, .tail pre .u64 l e)]⟩⟩
theorem R48 (pre : Nat) (n : Nat) (c : Nat) (l : List Int) (m0 : Int) (m1 : Int) (bb : Int) (lg : Int) (e : TypeId) : evCK Try.prog cfgE (runK Try.prog cfgE fsE (conT grpDom grpE) 12 40) 12 (codeAt [1, 1, 1, 1, 0, 1, 0, 0, 1, 0, 0, 1, 1, 1, 1, 0, 0] B) (S57 pre n c l m0 m1 bb lg e) (normC 1 [2, 3, 4, 7, 12, 123]) =
  bif (!(true && (((l.getD 0 0) == (l.getD 0 0)) && (true && (true && (((IntKind.wrap .u64 m0) == (IntKind.wrap .u64 m0)) && true)))))) then
    some (.normal, (S58 pre n c bb lg m0 m1 l e))
  else
    some (.normal, (S59 pre n c bb lg m0 m1 l e)) := by kernel_rfl
theorem R49 (pre : Nat) (n : Nat) (c : Nat) (bb : Int) (lg : Int) (m0 : Int) (m1 : Int) (l : List Int) (e : TypeId) : evCK Try.prog cfgE (runK Try.prog cfgE fsE (conT grpDom grpE) 12 40) 12 (codeAt [1, 1, 1, 1, 0, 1, 0, 0, 1, 0, 0, 1, 1, 1, 1, 0, 1, 1] B) (S59 pre n c bb lg m0 m1 l e) (normC 1 [2, 3, 4, 7, 12]) =
  some (.normal, (S33 pre n c bb lg m0 m1 l e)) := by kernel_rfl
noncomputable def S60 (pre : Nat) (n : Nat) (c : Nat) (bb : Int) (lg : Int) (m0 : Int) (m1 : Int) (l : List Int) (e : TypeId) : KSt := ⟨(frameL 135 [(2, (.slice (some ⟨0, pre, none⟩) n c)), (3, (.pointer (some ⟨1, 0, none⟩))), (4, (.pointer (some ⟨2, 0, none⟩))), (7, (.pointer (some ⟨3, 0, none⟩))), (12, (.int .i64 1)), (127, (.bool (decide (1 < ((n : Nat) : Int)))))]), ⟨4, 1, [(3, 0, .cells [(.int .u64 bb), (.int .i64 lg), (.int .i64 m0), (.int .i64 m1), (.int .u64 (l.getD 0 0)), (.int .i64 2), (.int .i64 0), (.int .u64 0), (.int .u64 0)] 82 true), (2, 0, .cells [(.int .i64 m0), (.int .i64 m1)] 55 true), (1, 0, .cells [(.int .u64 bb), (.int .i64 lg)] 54 true), (0, 0, .tail pre .u64 l e)]⟩⟩
theorem R50 (pre : Nat) (n : Nat) (c : Nat) (bb : Int) (lg : Int) (m0 : Int) (m1 : Int) (l : List Int) (e : TypeId) : evCK Try.prog cfgE (runK Try.prog cfgE fsE (conT grpDom grpE) 12 40) 12 (codeAt [1, 1, 1, 1, 0, 1, 0, 0, 1, 0, 0, 1, 1, 1, 1, 1, 0] B) (S33 pre n c bb lg m0 m1 l e) (normC 1 [2, 3, 4, 7, 12, 127]) =
  some (.normal, (S60 pre n c bb lg m0 m1 l e)) := by kernel_rfl
noncomputable def S61 (pre : Nat) (n : Nat) (c : Nat) (bb : Int) (lg : Int) (m0 : Int) (m1 : Int) (l : List Int) (e : TypeId) : KSt := ⟨(frameL 135 [(2, (.slice (some ⟨0, pre, none⟩) n c)), (3, (.pointer (some ⟨1, 0, none⟩))), (4, (.pointer (some ⟨2, 0, none⟩))), (7, (.pointer (some ⟨3, 0, none⟩))), (12, (.int .i64 1))]), ⟨4, 1, [(3, 0, .cells [(.int .u64 bb), (.int .i64 lg), (.int .i64 m0), (.int .i64 m1), (.int .u64 (l.getD 0 0)), (.int .i64 3), (.int .i64 0), (.int .u64 0), (.int .u64 0)] 82 true), (2, 0, .cells [(.int .i64 m0), (.int .i64 m1)] 55 true), (1, 0, .cells [(.int .u64 bb), (.int .i64 lg)] 54 true), (0, 0, .tail pre .u64 l e)]⟩⟩
theorem R51 (pre : Nat) (n : Nat) (c : Nat) (bb : Int) (lg : Int) (m0 : Int) (m1 : Int) (l : List Int) (e : TypeId) : evCK Try.prog cfgE (runK Try.prog cfgE fsE (conT grpDom grpE) 12 40) 12 (codeAt [1, 1, 1, 1, 0, 1, 0, 0, 1, 0, 0, 1, 1, 1, 1, 1, 1, 0] B) (S60 pre n c bb lg m0 m1 l e) (normC 1 [2, 3, 4, 7, 12]) =
  if (0 : Int) ≤ 1 ∧ 1 < ((n : Nat) : Int) then
    bif (Nat.ble pre (pre + 1)) then
      obind (l[((pre + 1) - pre)]?) fun n1 =>
        some (.normal, (S61 pre n c bb lg m0 m1 l e))
    else
      none
  else
    none := by kernel_rfl
noncomputable def S62 (pre : Nat) (n : Nat) (c : Nat) (bb : Int) (lg : Int) (m0 : Int) (m1 : Int) (l : List Int) (e : TypeId) : KSt := ⟨(frameL 135 [(2, (.slice (some ⟨0, pre, none⟩) n c)), (3, (.pointer (some ⟨1, 0, none⟩))), (4, (.pointer (some ⟨2, 0, none⟩))), (7, (.pointer (some ⟨3, 0, none⟩))), (12, (.int .i64 2))]), ⟨4, 1, [(3, 0, .cells [(.int .u64 bb), (.int .i64 lg), (.int .i64 m0), (.int .i64 m1), (.int .u64 (l.getD 0 0)), (.int .i64 3), (.int .i64 0), (.int .u64 0), (.int .u64 0)] 82 true), (2, 0, .cells [(.int .i64 m0), (.int .i64 m1)] 55 true), (1, 0, .cells [(.int .u64 bb), (.int .i64 lg)] 54 true), (0, 0, .tail pre .u64 l e)]⟩⟩
theorem R52 (pre : Nat) (n : Nat) (c : Nat) (bb : Int) (lg : Int) (m0 : Int) (m1 : Int) (l : List Int) (e : TypeId) : evCK Try.prog cfgE (runK Try.prog cfgE fsE (conT grpDom grpE) 12 40) 12 (codeAt [1, 1, 1, 1, 0, 1, 0, 0, 1, 1] B) (S61 pre n c bb lg m0 m1 l e) (normC 1 [2, 3, 4, 7, 12]) =
  some (.normal, (S62 pre n c bb lg m0 m1 l e)) := by kernel_rfl
theorem lp2m_12 (bb lg m0 m1 g gl : Int) (i : Int) (pre n c : Nat) (l : List Int) (e : TypeId) (hb : 0 ≤ bb) (hm : -9223372036854775808 ≤ m1 ∧ m1 < 9223372036854775808) (hg : groupsV m0 = g) (hg1 : 0 ≤ g) (hg2 : g ≤ 512) (hgl : groupsV lg = gl) (hgl1 : 0 ≤ gl) (hn20 : n ≤ 20) (hc : n ≤ c) (hc2 : c ≤ 9223372036854775807) (hl : l.length = c) (hc0 : 0 < c) (h1 : bb ≠ 0) (h2 : 0 < gl) (h3 : 0 < g) (hn : 1 < (n : Int))  (q1 : ((l.getD 0 0) == 0) = false) {Q : Ex → St → Prop} (hq : Q .normal (KSt.low (S62 pre n c bb lg m0 m1 l e))) : Gets Try.prog (KH.low ⟨1, 1, [(0, 0, .tail pre .u64 l e)]⟩) (codeAt [1, 1, 1, 1, 0, 1, 0, 0] B) (KSt.low (S33 pre n c bb lg m0 m1 l e)) Q := by
  rw [C1_1_1_1_0_1_0_0]; refine Gets.seq ?_
  rw [C1_1_1_1_0_1_0_0_0]; refine Gets.seq ?_
  refine Gets.ofN fitE grp_sound (conT_agree _ _) 12 40 (by kernel_rfl) (x := .normal) (s' := (S48 pre n c bb lg m0 m1 l e)) (R42 pre n c bb lg m0 m1 l e) ?_
  show Gets _ _ (codeAt [1, 1, 1, 1, 0, 1, 0, 0, 0, 1] B) _ _
  rw [C1_1_1_1_0_1_0_0_0_1]; refine Gets.cond true (by kernel_rfl) ((show evalX (KSt.ts (S48 pre n c bb lg m0 m1 l e)) (.tmp 60) = .bool (decide (1 ≤ ((n : Nat) : Int))) by kernel_rfl).trans (by rw [(show (decide (1 ≤ ((n : Nat) : Int))) = true from decide_eq_true (by omega))])) ?_; show Gets _ _ (codeAt [1, 1, 1, 1, 0, 1, 0, 0, 0, 1, 0] B) _ _
  refine Gets.ofN fitE grp_sound (conT_agree _ _) 12 40 (by kernel_rfl) (x := .normal) (s' := (S33 pre n c bb lg m0 m1 l e)) (R43 pre n c bb lg m0 m1 l e) ?_
  show Gets _ _ (codeAt [1, 1, 1, 1, 0, 1, 0, 0, 1] B) _ _
  rw [C1_1_1_1_0_1_0_0_1]; refine Gets.seq ?_
  rw [C1_1_1_1_0_1_0_0_1_0]; refine Gets.block ?_
  rw [C1_1_1_1_0_1_0_0_1_0_0]; refine Gets.seq ?_
  refine Gets.ofN fitE grp_sound (conT_agree _ _) 12 40 (by kernel_rfl) (x := .normal) (s' := (S50 pre n c bb lg m0 m1 l e)) ((R44 pre n c bb lg m0 m1 l e).trans (by rw [if_pos (⟨by omega, by omega⟩), condT (and_t (rfl) (ble_t (by omega))), condF (nbeq_f (by omega))])) ?_
  show Gets _ _ (codeAt [1, 1, 1, 1, 0, 1, 0, 0, 1, 0, 0, 1] B) _ _
  rw [C1_1_1_1_0_1_0_0_1_0_0_1]; refine Gets.seq ?_
  refine Gets.ofN fitE grp_sound (conT_agree _ _) 12 40 (by kernel_rfl) (x := .normal) (s' := (S54 pre n c l m1 m0 bb lg e)) ((R45 pre n c bb lg m0 m1 l e).trans (by rw [condF (ibeq_f (by ((try simp (disch := omega) only [hg, hgl, wrap_i64_id]) <;> omega))), condT (ble_t (by omega)), obind_at (k := 0) (by omega) (by omega), condF (q1)] <;> (show some (Ex.normal, (S55 pre n c l m1 m0 bb lg e)) = some (Ex.normal, (S54 pre n c l m1 m0 bb lg e)); unfold S55 S54; rw [(show (makeRV (l.getD 0 0) m1) = (makeV (l.getD 0 0) m1) from makeRV_eq hm)]))) ?_
  show Gets _ _ (codeAt [1, 1, 1, 1, 0, 1, 0, 0, 1, 0, 0, 1, 1] B) _ _
  rw [C1_1_1_1_0_1_0_0_1_0_0_1_1]; refine Gets.seq ?_
  refine Gets.ofN fitE grp_sound (conT_agree _ _) 12 40 (by kernel_rfl) (x := .normal) (s' := (S56 pre n c l m1 m0 bb lg e)) (R46 pre n c l m1 m0 bb lg e) ?_
  show Gets _ _ (codeAt [1, 1, 1, 1, 0, 1, 0, 0, 1, 0, 0, 1, 1, 1] B) _ _
  rw [C1_1_1_1_0_1_0_0_1_0_0_1_1_1]; refine Gets.seq ?_
  refine Gets.ofN fitE grp_sound (conT_agree _ _) 12 40 (by kernel_rfl) (x := .normal) (s' := (S57 pre n c l m0 m1 bb lg e)) (R47 pre n c l m1 m0 bb lg e) ?_
  show Gets _ _ (codeAt [1, 1, 1, 1, 0, 1, 0, 0, 1, 0, 0, 1, 1, 1, 1] B) _ _
  rw [C1_1_1_1_0_1_0_0_1_0_0_1_1_1_1]; refine Gets.seq ?_
  rw [C1_1_1_1_0_1_0_0_1_0_0_1_1_1_1_0]; refine Gets.seq ?_
  refine Gets.ofN fitE grp_sound (conT_agree _ _) 12 40 (by kernel_rfl) (x := .normal) (s' := (S59 pre n c bb lg m0 m1 l e)) ((R48 pre n c l m0 m1 bb lg e).trans (by rw [condF (not_f (and_t (rfl) (and_t (beq_self_eq_true _) (and_t (rfl) (and_t (rfl) (and_t (beq_self_eq_true _) (rfl)))))))])) ?_
  show Gets _ _ (codeAt [1, 1, 1, 1, 0, 1, 0, 0, 1, 0, 0, 1, 1, 1, 1, 0, 1] B) _ _
  rw [C1_1_1_1_0_1_0_0_1_0_0_1_1_1_1_0_1]; refine Gets.cond false (by kernel_rfl) (show evalX (KSt.ts (S59 pre n c bb lg m0 m1 l e)) (.tmp 123) = .bool false by kernel_rfl) ?_; show Gets _ _ (codeAt [1, 1, 1, 1, 0, 1, 0, 0, 1, 0, 0, 1, 1, 1, 1, 0, 1, 1] B) _ _
  refine Gets.ofN fitE grp_sound (conT_agree _ _) 12 40 (by kernel_rfl) (x := .normal) (s' := (S33 pre n c bb lg m0 m1 l e)) (R49 pre n c bb lg m0 m1 l e) ?_
  show Gets _ _ (codeAt [1, 1, 1, 1, 0, 1, 0, 0, 1, 0, 0, 1, 1, 1, 1, 1] B) _ _
  rw [C1_1_1_1_0_1_0_0_1_0_0_1_1_1_1_1]; refine Gets.seq ?_
  refine Gets.ofN fitE grp_sound (conT_agree _ _) 12 40 (by kernel_rfl) (x := .normal) (s' := (S60 pre n c bb lg m0 m1 l e)) (R50 pre n c bb lg m0 m1 l e) ?_
  show Gets _ _ (codeAt [1, 1, 1, 1, 0, 1, 0, 0, 1, 0, 0, 1, 1, 1, 1, 1, 1] B) _ _
  rw [C1_1_1_1_0_1_0_0_1_0_0_1_1_1_1_1_1]; refine Gets.cond true (by kernel_rfl) ((show evalX (KSt.ts (S60 pre n c bb lg m0 m1 l e)) (.tmp 127) = .bool (decide (1 < ((n : Nat) : Int))) by kernel_rfl).trans (by rw [(show (decide (1 < ((n : Nat) : Int))) = true from decide_eq_true (by omega))])) ?_; show Gets _ _ (codeAt [1, 1, 1, 1, 0, 1, 0, 0, 1, 0, 0, 1, 1, 1, 1, 1, 1, 0] B) _ _
  refine Gets.ofN fitE grp_sound (conT_agree _ _) 12 40 (by kernel_rfl) (x := .normal) (s' := (S61 pre n c bb lg m0 m1 l e)) ((R51 pre n c bb lg m0 m1 l e).trans (by rw [if_pos (⟨by omega, by omega⟩), condT (ble_t (by omega)), obind_at (k := 1) (by omega) (by omega)] <;> rfl)) ?_
  show Gets _ _ (codeAt [1, 1, 1, 1, 0, 1, 0, 0, 1, 1] B) _ _
  refine Gets.ofN fitE grp_sound (conT_agree _ _) 12 40 (by kernel_rfl) (x := .normal) (s' := (S62 pre n c bb lg m0 m1 l e)) (R52 pre n c bb lg m0 m1 l e) ?_
  exact hq
theorem R53 (pre : Nat) (n : Nat) (c : Nat) (bb : Int) (lg : Int) (m0 : Int) (m1 : Int) (l : List Int) (e : TypeId) : evCK Try.prog cfgE (runK Try.prog cfgE fsE (conT grpDom grpE) 12 40) 12 (codeAt [1, 1, 1, 1, 0, 1, 0, 0, 1, 0, 0, 1, 1, 1, 1, 1, 1, 1] B) (S60 pre n c bb lg m0 m1 l e) (normC 1 [2, 3, 4, 7, 12]) =
  some (.normal, (S33 pre n c bb lg m0 m1 l e)) := by kernel_rfl
noncomputable def S63 (pre : Nat) (n : Nat) (c : Nat) (bb : Int) (lg : Int) (m0 : Int) (m1 : Int) (l : List Int) (e : TypeId) : KSt := ⟨(frameL 135 [(2, (.slice (some ⟨0, pre, none⟩) n c)), (3, (.pointer (some ⟨1, 0, none⟩))), (4, (.pointer (some ⟨2, 0, none⟩))), (7, (.pointer (some ⟨3, 0, none⟩))), (12, (.int .i64 2))]), ⟨4, 1, [(3, 0, .cells [(.int .u64 bb), (.int .i64 lg), (.int .i64 m0), (.int .i64 m1), (.int .u64 (l.getD 0 0)), (.int .i64 2), (.int .i64 0), (.int .u64 0), (.int .u64 0)] 82 true), (2, 0, .cells [(.int .i64 m0), (.int .i64 m1)] 55 true), (1, 0, .cells [(.int .u64 bb), (.int .i64 lg)] 54 true), (0, 0, .tail pre .u64 l e)]⟩⟩
theorem R54 (pre : Nat) (n : Nat) (c : Nat) (bb : Int) (lg : Int) (m0 : Int) (m1 : Int) (l : List Int) (e : TypeId) : evCK Try.prog cfgE (runK Try.prog cfgE fsE (conT grpDom grpE) 12 40) 12 (codeAt [1, 1, 1, 1, 0, 1, 0, 0, 1, 1] B) (S33 pre n c bb lg m0 m1 l e) (normC 1 [2, 3, 4, 7, 12]) =
  some (.normal, (S63 pre n c bb lg m0 m1 l e)) := by kernel_rfl
theorem lp2e_13 (bb lg m0 m1 g gl : Int) (i : Int) (pre n c : Nat) (l : List Int) (e : TypeId) (hb : 0 ≤ bb) (hm : -9223372036854775808 ≤ m1 ∧ m1 < 9223372036854775808) (hg : groupsV m0 = g) (hg1 : 0 ≤ g) (hg2 : g ≤ 512) (hgl : groupsV lg = gl) (hgl1 : 0 ≤ gl) (hn20 : n ≤ 20) (hc : n ≤ c) (hc2 : c ≤ 9223372036854775807) (hl : l.length = c) (hc0 : 0 < c) (h1 : bb ≠ 0) (h2 : 0 < gl) (h3 : 0 < g) (hn : 1 = (n : Int))  (q1 : ((l.getD 0 0) == 0) = false) {Q : Ex → St → Prop} (hq : Q .normal (KSt.low (S63 pre n c bb lg m0 m1 l e))) : Gets Try.prog (KH.low ⟨1, 1, [(0, 0, .tail pre .u64 l e)]⟩) (codeAt [1, 1, 1, 1, 0, 1, 0, 0] B) (KSt.low (S33 pre n c bb lg m0 m1 l e)) Q := by
  rw [C1_1_1_1_0_1_0_0]; refine Gets.seq ?_
  rw [C1_1_1_1_0_1_0_0_0]; refine Gets.seq ?_
  refine Gets.ofN fitE grp_sound (conT_agree _ _) 12 40 (by kernel_rfl) (x := .normal) (s' := (S48 pre n c bb lg m0 m1 l e)) (R42 pre n c bb lg m0 m1 l e) ?_
  show Gets _ _ (codeAt [1, 1, 1, 1, 0, 1, 0, 0, 0, 1] B) _ _
  rw [C1_1_1_1_0_1_0_0_0_1]; refine Gets.cond true (by kernel_rfl) ((show evalX (KSt.ts (S48 pre n c bb lg m0 m1 l e)) (.tmp 60) = .bool (decide (1 ≤ ((n : Nat) : Int))) by kernel_rfl).trans (by rw [(show (decide (1 ≤ ((n : Nat) : Int))) = true from decide_eq_true (by omega))])) ?_; show Gets _ _ (codeAt [1, 1, 1, 1, 0, 1, 0, 0, 0, 1, 0] B) _ _
  refine Gets.ofN fitE grp_sound (conT_agree _ _) 12 40 (by kernel_rfl) (x := .normal) (s' := (S33 pre n c bb lg m0 m1 l e)) (R43 pre n c bb lg m0 m1 l e) ?_
  show Gets _ _ (codeAt [1, 1, 1, 1, 0, 1, 0, 0, 1] B) _ _
  rw [C1_1_1_1_0_1_0_0_1]; refine Gets.seq ?_
  rw [C1_1_1_1_0_1_0_0_1_0]; refine Gets.block ?_
  rw [C1_1_1_1_0_1_0_0_1_0_0]; refine Gets.seq ?_
  refine Gets.ofN fitE grp_sound (conT_agree _ _) 12 40 (by kernel_rfl) (x := .normal) (s' := (S50 pre n c bb lg m0 m1 l e)) ((R44 pre n c bb lg m0 m1 l e).trans (by rw [if_pos (⟨by omega, by omega⟩), condT (and_t (rfl) (ble_t (by omega))), condF (nbeq_f (by omega))])) ?_
  show Gets _ _ (codeAt [1, 1, 1, 1, 0, 1, 0, 0, 1, 0, 0, 1] B) _ _
  rw [C1_1_1_1_0_1_0_0_1_0_0_1]; refine Gets.seq ?_
  refine Gets.ofN fitE grp_sound (conT_agree _ _) 12 40 (by kernel_rfl) (x := .normal) (s' := (S54 pre n c l m1 m0 bb lg e)) ((R45 pre n c bb lg m0 m1 l e).trans (by rw [condF (ibeq_f (by ((try simp (disch := omega) only [hg, hgl, wrap_i64_id]) <;> omega))), condT (ble_t (by omega)), obind_at (k := 0) (by omega) (by omega), condF (q1)] <;> (show some (Ex.normal, (S55 pre n c l m1 m0 bb lg e)) = some (Ex.normal, (S54 pre n c l m1 m0 bb lg e)); unfold S55 S54; rw [(show (makeRV (l.getD 0 0) m1) = (makeV (l.getD 0 0) m1) from makeRV_eq hm)]))) ?_
  show Gets _ _ (codeAt [1, 1, 1, 1, 0, 1, 0, 0, 1, 0, 0, 1, 1] B) _ _
  rw [C1_1_1_1_0_1_0_0_1_0_0_1_1]; refine Gets.seq ?_
  refine Gets.ofN fitE grp_sound (conT_agree _ _) 12 40 (by kernel_rfl) (x := .normal) (s' := (S56 pre n c l m1 m0 bb lg e)) (R46 pre n c l m1 m0 bb lg e) ?_
  show Gets _ _ (codeAt [1, 1, 1, 1, 0, 1, 0, 0, 1, 0, 0, 1, 1, 1] B) _ _
  rw [C1_1_1_1_0_1_0_0_1_0_0_1_1_1]; refine Gets.seq ?_
  refine Gets.ofN fitE grp_sound (conT_agree _ _) 12 40 (by kernel_rfl) (x := .normal) (s' := (S57 pre n c l m0 m1 bb lg e)) (R47 pre n c l m1 m0 bb lg e) ?_
  show Gets _ _ (codeAt [1, 1, 1, 1, 0, 1, 0, 0, 1, 0, 0, 1, 1, 1, 1] B) _ _
  rw [C1_1_1_1_0_1_0_0_1_0_0_1_1_1_1]; refine Gets.seq ?_
  rw [C1_1_1_1_0_1_0_0_1_0_0_1_1_1_1_0]; refine Gets.seq ?_
  refine Gets.ofN fitE grp_sound (conT_agree _ _) 12 40 (by kernel_rfl) (x := .normal) (s' := (S59 pre n c bb lg m0 m1 l e)) ((R48 pre n c l m0 m1 bb lg e).trans (by rw [condF (not_f (and_t (rfl) (and_t (beq_self_eq_true _) (and_t (rfl) (and_t (rfl) (and_t (beq_self_eq_true _) (rfl)))))))])) ?_
  show Gets _ _ (codeAt [1, 1, 1, 1, 0, 1, 0, 0, 1, 0, 0, 1, 1, 1, 1, 0, 1] B) _ _
  rw [C1_1_1_1_0_1_0_0_1_0_0_1_1_1_1_0_1]; refine Gets.cond false (by kernel_rfl) (show evalX (KSt.ts (S59 pre n c bb lg m0 m1 l e)) (.tmp 123) = .bool false by kernel_rfl) ?_; show Gets _ _ (codeAt [1, 1, 1, 1, 0, 1, 0, 0, 1, 0, 0, 1, 1, 1, 1, 0, 1, 1] B) _ _
  refine Gets.ofN fitE grp_sound (conT_agree _ _) 12 40 (by kernel_rfl) (x := .normal) (s' := (S33 pre n c bb lg m0 m1 l e)) (R49 pre n c bb lg m0 m1 l e) ?_
  show Gets _ _ (codeAt [1, 1, 1, 1, 0, 1, 0, 0, 1, 0, 0, 1, 1, 1, 1, 1] B) _ _
  rw [C1_1_1_1_0_1_0_0_1_0_0_1_1_1_1_1]; refine Gets.seq ?_
  refine Gets.ofN fitE grp_sound (conT_agree _ _) 12 40 (by kernel_rfl) (x := .normal) (s' := (S60 pre n c bb lg m0 m1 l e)) (R50 pre n c bb lg m0 m1 l e) ?_
  show Gets _ _ (codeAt [1, 1, 1, 1, 0, 1, 0, 0, 1, 0, 0, 1, 1, 1, 1, 1, 1] B) _ _
  rw [C1_1_1_1_0_1_0_0_1_0_0_1_1_1_1_1_1]; refine Gets.cond false (by kernel_rfl) ((show evalX (KSt.ts (S60 pre n c bb lg m0 m1 l e)) (.tmp 127) = .bool (decide (1 < ((n : Nat) : Int))) by kernel_rfl).trans (by rw [(show (decide (1 < ((n : Nat) : Int))) = false from decide_eq_false (by omega))])) ?_; show Gets _ _ (codeAt [1, 1, 1, 1, 0, 1, 0, 0, 1, 0, 0, 1, 1, 1, 1, 1, 1, 1] B) _ _
  refine Gets.ofN fitE grp_sound (conT_agree _ _) 12 40 (by kernel_rfl) (x := .normal) (s' := (S33 pre n c bb lg m0 m1 l e)) (R53 pre n c bb lg m0 m1 l e) ?_
  show Gets _ _ (codeAt [1, 1, 1, 1, 0, 1, 0, 0, 1, 1] B) _ _
  refine Gets.ofN fitE grp_sound (conT_agree _ _) 12 40 (by kernel_rfl) (x := .normal) (s' := (S63 pre n c bb lg m0 m1 l e)) (R54 pre n c bb lg m0 m1 l e) ?_
  exact hq
noncomputable def S64 (pre : Nat) (n : Nat) (c : Nat) (i : Int) (bb : Int) (lg : Int) (m0 : Int) (m1 : Int) (l : List Int) (e : TypeId) : KSt := ⟨(frameL 135 [(2, (.slice (some ⟨0, pre, none⟩) n c)), (3, (.pointer (some ⟨1, 0, none⟩))), (4, (.pointer (some ⟨2, 0, none⟩))), (7, (.pointer (some ⟨3, 0, none⟩))), (12, (.int .i64 i))]), ⟨4, 1, [(3, 0, .cells [(.int .u64 bb), (.int .i64 lg), (.int .i64 m0), (.int .i64 m1), (.int .u64 (l.getD 0 0)), (.int .i64 2), (.int .i64 0), (.int .u64 0), (.int .u64 0)] 82 true), (2, 0, .cells [(.int .i64 m0), (.int .i64 m1)] 55 true), (1, 0, .cells [(.int .u64 bb), (.int .i64 lg)] 54 true), (0, 0, .tail pre .u64 l e)]⟩⟩
noncomputable def S65 (pre : Nat) (n : Nat) (c : Nat) (i : Int) (bb : Int) (lg : Int) (m0 : Int) (m1 : Int) (l : List Int) (e : TypeId) : KSt := ⟨(frameL 135 [(2, (.slice (some ⟨0, pre, none⟩) n c)), (3, (.pointer (some ⟨1, 0, none⟩))), (4, (.pointer (some ⟨2, 0, none⟩))), (7, (.pointer (some ⟨3, 0, none⟩))), (12, (.int .i64 i)), (60, (.bool (decide (i ≤ ((n : Nat) : Int)))))]), ⟨4, 1, [(3, 0, .cells [(.int .u64 bb), (.int .i64 lg), (.int .i64 m0), (.int .i64 m1), (.int .u64 0), (.int .i64 1), (.int .i64 0), (.int .u64 0), (.int .u64 0)] 82 true), (2, 0, .cells [(.int .i64 m0), (.int .i64 m1)] 55 true), (1, 0, .cells [(.int .u64 bb), (.int .i64 lg)] 54 true), (0, 0, .tail pre .u64 l e)]⟩⟩
theorem R55 (pre : Nat) (n : Nat) (c : Nat) (i : Int) (bb : Int) (lg : Int) (m0 : Int) (m1 : Int) (l : List Int) (e : TypeId) : evCK Try.prog cfgE (runK Try.prog cfgE fsE (conT grpDom grpE) 12 40) 12 (codeAt [1, 1, 1, 1, 0, 1, 0, 0, 0, 0] B) (S35 pre n c i bb lg m0 m1 l e) (normC 1 [2, 3, 4, 7, 12, 60]) =
  some (.normal, (S65 pre n c i bb lg m0 m1 l e)) := by kernel_rfl
theorem C1_1_1_1_0_1_0_0_0_1_1 : (codeAt [1, 1, 1, 1, 0, 1, 0, 0, 0, 1, 1] B) = .exit 0 := by kernel_rfl
theorem lp3x_14 (bb lg m0 m1 g gl : Int) (i : Int) (pre n c : Nat) (l : List Int) (e : TypeId) (hx : (n : Int) < i)   {Q : Ex → St → Prop} (hq : Q (.exit 0) (KSt.low (S65 pre n c i bb lg m0 m1 l e))) : Gets Try.prog (KH.low ⟨1, 1, [(0, 0, .tail pre .u64 l e)]⟩) (codeAt [1, 1, 1, 1, 0, 1, 0, 0] B) (KSt.low (S35 pre n c i bb lg m0 m1 l e)) Q := by
  rw [C1_1_1_1_0_1_0_0]; refine Gets.seq ?_
  rw [C1_1_1_1_0_1_0_0_0]; refine Gets.seq ?_
  refine Gets.ofN fitE grp_sound (conT_agree _ _) 12 40 (by kernel_rfl) (x := .normal) (s' := (S65 pre n c i bb lg m0 m1 l e)) (R55 pre n c i bb lg m0 m1 l e) ?_
  show Gets _ _ (codeAt [1, 1, 1, 1, 0, 1, 0, 0, 0, 1] B) _ _
  rw [C1_1_1_1_0_1_0_0_0_1]; refine Gets.cond false (by kernel_rfl) ((show evalX (KSt.ts (S65 pre n c i bb lg m0 m1 l e)) (.tmp 60) = .bool (decide (i ≤ ((n : Nat) : Int))) by kernel_rfl).trans (by rw [(show (decide (i ≤ ((n : Nat) : Int))) = false from decide_eq_false (by omega))])) ?_; show Gets _ _ (codeAt [1, 1, 1, 1, 0, 1, 0, 0, 0, 1, 1] B) _ _
  rw [C1_1_1_1_0_1_0_0_0_1_1]; refine Gets.ev fitE.mix fitE.cfg (fitE.sound grp_sound 12 0) 12 rfl (s' := KSt.low (S65 pre n c i bb lg m0 m1 l e)) (x := (.exit 0)) rfl ?_
  exact hq
theorem C1_1_1_1_1 : (codeAt [1, 1, 1, 1, 1] B) = .seq (codeAt [1, 1, 1, 1, 1, 0] B) (codeAt [1, 1, 1, 1, 1, 1] B) := by kernel_rfl
theorem R56 (pre : Nat) (n : Nat) (c : Nat) (i : Int) (bb : Int) (lg : Int) (m0 : Int) (m1 : Int) (l : List Int) (e : TypeId) : evCK Try.prog cfgE (runK Try.prog cfgE fsE (conT grpDom grpE) 12 40) 12 (codeAt [1, 1, 1, 1, 1, 0] B) (S65 pre n c i bb lg m0 m1 l e) (normC 1 [6]) =
  some (.normal, (S3 pre l e)) := by kernel_rfl
theorem C1_1_1_1_1_1 : (codeAt [1, 1, 1, 1, 1, 1] B) = .ret := by kernel_rfl
theorem lp3f_15 (bb lg m0 m1 g gl : Int) (i : Int) (pre n c : Nat) (l : List Int) (e : TypeId)   {Q : Ex → St → Prop} (hq : Q .ret (KSt.low (S3 pre l e))) : Gets Try.prog (KH.low ⟨1, 1, [(0, 0, .tail pre .u64 l e)]⟩) (codeAt [1, 1, 1, 1, 1] B) (KSt.low (S65 pre n c i bb lg m0 m1 l e)) Q := by
  rw [C1_1_1_1_1]; refine Gets.seq ?_
  refine Gets.ofN fitE grp_sound (conT_agree _ _) 12 40 (by kernel_rfl) (x := .normal) (s' := (S3 pre l e)) (R56 pre n c i bb lg m0 m1 l e) ?_
  show Gets _ _ (codeAt [1, 1, 1, 1, 1, 1] B) _ _
  rw [C1_1_1_1_1_1]; refine Gets.ev fitE.mix fitE.cfg (fitE.sound grp_sound 12 0) 12 rfl (s' := KSt.low (S3 pre l e)) (x := .ret) rfl ?_
  exact hq
noncomputable def S66 (pre : Nat) (n : Nat) (c : Nat) (bb : Int) (lg : Int) (m0 : Int) (m1 : Int) (l : List Int) (e : TypeId) : KSt := ⟨(frameL 135 [(2, (.slice (some ⟨0, pre, none⟩) n c)), (3, (.pointer (some ⟨1, 0, none⟩))), (4, (.pointer (some ⟨2, 0, none⟩))), (7, (.pointer (some ⟨3, 0, none⟩))), (12, (.int .i64 2)), (60, (.bool (decide (2 ≤ ((n : Nat) : Int)))))]), ⟨4, 1, [(3, 0, .cells [(.int .u64 bb), (.int .i64 lg), (.int .i64 m0), (.int .i64 m1), (.int .u64 (l.getD 0 0)), (.int .i64 0), (.int .i64 1), (.int .u64 0), (.int .u64 0)] 82 true), (2, 0, .cells [(.int .i64 m0), (.int .i64 m1)] 55 true), (1, 0, .cells [(.int .u64 bb), (.int .i64 lg)] 54 true), (0, 0, .tail pre .u64 l e)]⟩⟩
theorem R57 (pre : Nat) (n : Nat) (c : Nat) (bb : Int) (lg : Int) (m0 : Int) (m1 : Int) (l : List Int) (e : TypeId) : evCK Try.prog cfgE (runK Try.prog cfgE fsE (conT grpDom grpE) 12 40) 12 (codeAt [1, 1, 1, 1, 0, 1, 0, 0, 0, 0] B) (S46 pre n c bb lg m0 m1 l e) (normC 1 [2, 3, 4, 7, 12, 60]) =
  some (.normal, (S66 pre n c bb lg m0 m1 l e)) := by kernel_rfl
theorem R58 (pre : Nat) (n : Nat) (c : Nat) (bb : Int) (lg : Int) (m0 : Int) (m1 : Int) (l : List Int) (e : TypeId) : evCK Try.prog cfgE (runK Try.prog cfgE fsE (conT grpDom grpE) 12 40) 12 (codeAt [1, 1, 1, 1, 0, 1, 0, 0, 0, 1, 0] B) (S66 pre n c bb lg m0 m1 l e) (normC 1 [2, 3, 4, 7, 12]) =
  some (.normal, (S46 pre n c bb lg m0 m1 l e)) := by kernel_rfl
noncomputable def S67 (pre : Nat) (n : Nat) (c : Nat) (bb : Int) (lg : Int) (m0 : Int) (m1 : Int) (l : List Int) (e : TypeId) : KSt := ⟨(frameL 135 [(2, (.slice (some ⟨0, pre, none⟩) n c)), (3, (.pointer (some ⟨1, 0, none⟩))), (4, (.pointer (some ⟨2, 0, none⟩))), (7, (.pointer (some ⟨3, 0, none⟩))), (12, (.int .i64 2)), (13, (.pointer (some ⟨4, 0, none⟩)))]), ⟨5, 1, [(4, 0, .cells [(.slice (some ⟨0, pre, none⟩) 2 (c - 0)), (.int .i64 0), (.bool false), (.int .i64 0), (.int .u64 0), (.int .i64 0), (.int .u64 0), (.int .u64 0)] 31 true), (3, 0, .cells [(.int .u64 bb), (.int .i64 lg), (.int .i64 m0), (.int .i64 m1), (.int .u64 (l.getD 0 0)), (.int .i64 0), (.int .i64 1), (.int .u64 0), (.int .u64 0)] 82 true), (2, 0, .cells [(.int .i64 m0), (.int .i64 m1)] 55 true), (1, 0, .cells [(.int .u64 bb), (.int .i64 lg)] 54 true), (0, 0, .tail pre .u64 l e)]⟩⟩
noncomputable def S68 (pre : Nat) (n : Nat) (c : Nat) (bb : Int) (lg : Int) (m0 : Int) (m1 : Int) (l : List Int) (e : TypeId) : KSt := ⟨(frameL 135 [(2, (.slice (some ⟨0, pre, none⟩) n c)), (3, (.pointer (some ⟨1, 0, none⟩))), (4, (.pointer (some ⟨2, 0, none⟩))), (7, (.pointer (some ⟨3, 0, none⟩))), (12, (.int .i64 2)), (13, (.pointer (some ⟨4, 0, none⟩)))]), ⟨5, 1, [(4, 0, .cells [(.slice (some ⟨0, (pre + 0), none⟩) 2 (c - 0)), (.int .i64 0), (.bool false), (.int .i64 0), (.int .u64 0), (.int .i64 0), (.int .u64 0), (.int .u64 0)] 31 true), (3, 0, .cells [(.int .u64 bb), (.int .i64 lg), (.int .i64 m0), (.int .i64 m1), (.int .u64 (l.getD 0 0)), (.int .i64 0), (.int .i64 1), (.int .u64 0), (.int .u64 0)] 82 true), (2, 0, .cells [(.int .i64 m0), (.int .i64 m1)] 55 true), (1, 0, .cells [(.int .u64 bb), (.int .i64 lg)] 54 true), (0, 0, .tail pre .u64 l e)]⟩⟩
theorem R59 (pre : Nat) (n : Nat) (c : Nat) (bb : Int) (lg : Int) (m0 : Int) (m1 : Int) (l : List Int) (e : TypeId) : evCK Try.prog cfgE (runK Try.prog cfgE fsE (conT grpDom grpE) 12 40) 12 (codeAt [1, 1, 1, 1, 0, 1, 0, 0, 1, 0, 0, 0] B) (S46 pre n c bb lg m0 m1 l e) (normC 1 [2, 3, 4, 7, 12, 13]) =
  if (0 : Int) ≤ 2 ∧ 2 ≤ ((c : Nat) : Int) then
    bif (true && (Nat.ble 2 c)) then
      bif (Nat.beq c 0) then
        some (.normal, (S67 pre n c bb lg m0 m1 l e))
      else
        some (.normal, (S68 pre n c bb lg m0 m1 l e))
    else
      none
  else
    none := by kernel_rfl
noncomputable def S69 (pre : Nat) (n : Nat) (c : Nat) (bb : Int) (lg : Int) (m0 : Int) (m1 : Int) (l : List Int) (e : TypeId) : KSt := ⟨(frameL 135 [(2, (.slice (some ⟨0, pre, none⟩) n c)), (3, (.pointer (some ⟨1, 0, none⟩))), (4, (.pointer (some ⟨2, 0, none⟩))), (7, (.pointer (some ⟨3, 0, none⟩))), (12, (.int .i64 2)), (13, (.pointer (some ⟨4, 0, none⟩))), (14, (.pointer (some ⟨5, 0, none⟩)))]), ⟨6, 1, [(5, 0, .cells [(.int .i64 1), (.int .u64 0), (.int .u64 0)] 63 true), (4, 0, .cells [(.slice (some ⟨0, (pre + 0), none⟩) 2 (c - 0)), (.int .i64 1), (.bool false), (.int .i64 0), (.int .u64 0), (.int .i64 0), (.int .u64 0), (.int .u64 0)] 31 true), (3, 0, .cells [(.int .u64 bb), (.int .i64 lg), (.int .i64 m0), (.int .i64 m1), (.int .u64 (l.getD 0 0)), (.int .i64 0), (.int .i64 1), (.int .u64 0), (.int .u64 0)] 82 true), (2, 0, .cells [(.int .i64 m0), (.int .i64 m1)] 55 true), (1, 0, .cells [(.int .u64 bb), (.int .i64 lg)] 54 true), (0, 0, .tail pre .u64 l e)]⟩⟩
noncomputable def S70 (pre : Nat) (n : Nat) (c : Nat) (n1 : Int) (m1 : Int) (bb : Int) (lg : Int) (m0 : Int) (l : List Int) (e : TypeId) : KSt := ⟨(frameL 135 [(2, (.slice (some ⟨0, pre, none⟩) n c)), (3, (.pointer (some ⟨1, 0, none⟩))), (4, (.pointer (some ⟨2, 0, none⟩))), (7, (.pointer (some ⟨3, 0, none⟩))), (12, (.int .i64 2)), (13, (.pointer (some ⟨4, 0, none⟩))), (14, (.pointer (some ⟨5, 0, none⟩)))]), ⟨6, 1, [(5, 0, .cells [(.int .i64 2), (.int .u64 n1), (.int .u64 (makeRV n1 m1))] 63 true), (4, 0, .cells [(.slice (some ⟨0, (pre + 0), none⟩) 2 (c - 0)), (.int .i64 2), (.bool true), (.int .i64 3), (.int .u64 bb), (.int .i64 1), (.int .u64 0), (.int .u64 (makeRV n1 m1))] 31 true), (3, 0, .cells [(.int .u64 bb), (.int .i64 lg), (.int .i64 m0), (.int .i64 m1), (.int .u64 (l.getD 0 0)), (.int .i64 0), (.int .i64 1), (.int .u64 0), (.int .u64 0)] 82 true), (2, 0, .cells [(.int .i64 m0), (.int .i64 m1)] 55 true), (1, 0, .cells [(.int .u64 bb), (.int .i64 lg)] 54 true), (0, 0, .tail pre .u64 l e)]⟩⟩
noncomputable def S71 (pre : Nat) (n : Nat) (c : Nat) (n3 : Int) (m1 : Int) (bb : Int) (lg : Int) (m0 : Int) (l : List Int) (e : TypeId) : KSt := ⟨(frameL 135 [(2, (.slice (some ⟨0, pre, none⟩) n c)), (3, (.pointer (some ⟨1, 0, none⟩))), (4, (.pointer (some ⟨2, 0, none⟩))), (7, (.pointer (some ⟨3, 0, none⟩))), (12, (.int .i64 2)), (13, (.pointer (some ⟨4, 0, none⟩))), (14, (.pointer (some ⟨5, 0, none⟩)))]), ⟨6, 1, [(5, 0, .cells [(.int .i64 2), (.int .u64 n3), (.int .u64 (makeRV n3 m1))] 63 true), (4, 0, .cells [(.slice (some ⟨0, (pre + 0), none⟩) 2 (c - 0)), (.int .i64 2), (.bool true), (.int .i64 3), (.int .u64 bb), (.int .i64 1), (.int .u64 0), (.int .u64 (makeRV n3 m1))] 31 true), (3, 0, .cells [(.int .u64 bb), (.int .i64 lg), (.int .i64 m0), (.int .i64 m1), (.int .u64 (l.getD 0 0)), (.int .i64 0), (.int .i64 1), (.int .u64 0), (.int .u64 0)] 82 true), (2, 0, .cells [(.int .i64 m0), (.int .i64 m1)] 55 true), (1, 0, .cells [(.int .u64 bb), (.int .i64 lg)] 54 true), (0, 0, .tail pre .u64 l e)]⟩⟩
theorem R60 (pre : Nat) (n : Nat) (c : Nat) (bb : Int) (lg : Int) (m0 : Int) (m1 : Int) (l : List Int) (e : TypeId) : evCK Try.prog cfgE (runK Try.prog cfgE fsE (conT grpDom grpE) 12 40) 12 (codeAt [1, 1, 1, 1, 0, 1, 0, 0, 1, 0, 0, 1, 0] B) (S68 pre n c bb lg m0 m1 l e) (normC 1 [2, 3, 4, 7, 12, 13, 14]) =
  bif ((groupsV m0) == 0) then
    bif (Nat.ble pre ((pre + 0) + 0)) then
      obind (l[(((pre + 0) + 0) - pre)]?) fun n1 =>
        bif (n1 == 0) then
          some (.normal, (S69 pre n c bb lg m0 m1 l e))
        else
          bif (Nat.ble pre ((pre + 0) + 1)) then
            obind (l[(((pre + 0) + 1) - pre)]?) fun n2 =>
              some (.normal, (S70 pre n c n1 m1 bb lg m0 l e))
          else
            none
    else
      none
  else
    bif (Nat.ble pre ((pre + 0) + 0)) then
      obind (l[(((pre + 0) + 0) - pre)]?) fun n3 =>
        bif (n3 == 0) then
          some (.normal, (S69 pre n c bb lg m0 m1 l e))
        else
          bif (Nat.ble pre ((pre + 0) + 1)) then
            obind (l[(((pre + 0) + 1) - pre)]?) fun n4 =>
              some (.normal, (S71 pre n c n3 m1 bb lg m0 l e))
          else
            none
    else
      none := by kernel_rfl
noncomputable def S72 (pre : Nat) (n : Nat) (c : Nat) (bb : Int) (lg : Int) (m0 : Int) (m1 : Int) (l : List Int) (e : TypeId) : KSt := ⟨(frameL 135 [(2, (.slice (some ⟨0, pre, none⟩) n c)), (3, (.pointer (some ⟨1, 0, none⟩))), (4, (.pointer (some ⟨2, 0, none⟩))), (7, (.pointer (some ⟨3, 0, none⟩))), (12, (.int .i64 2)), (13, (.pointer (some ⟨4, 0, none⟩))), (14, (.pointer (some ⟨5, 0, none⟩))), (15, (.pointer (some ⟨6, 0, none⟩))), (16, (.bool true))]), ⟨7, 1, [(6, 0, .cells [(.int .i64 1), (.int .u64 0), (.int .u64 0)] 60 true), (5, 0, .cells [(.int .i64 1), (.int .u64 0), (.int .u64 0)] 63 true), (4, 0, .cells [(.slice (some ⟨0, (pre + 0), none⟩) 2 (c - 0)), (.int .i64 1), (.bool false), (.int .i64 0), (.int .u64 0), (.int .i64 0), (.int .u64 0), (.int .u64 0)] 31 true), (3, 0, .cells [(.int .u64 bb), (.int .i64 lg), (.int .i64 m0), (.int .i64 m1), (.int .u64 (l.getD 0 0)), (.int .i64 0), (.int .i64 1), (.int .u64 0), (.int .u64 0)] 82 true), (2, 0, .cells [(.int .i64 m0), (.int .i64 m1)] 55 true), (1, 0, .cells [(.int .u64 bb), (.int .i64 lg)] 54 true), (0, 0, .tail pre .u64 l e)]⟩⟩
theorem R61 (pre : Nat) (n : Nat) (c : Nat) (bb : Int) (lg : Int) (m0 : Int) (m1 : Int) (l : List Int) (e : TypeId) : evCK Try.prog cfgE (runK Try.prog cfgE fsE (conT grpDom grpE) 12 40) 12 (codeAt [1, 1, 1, 1, 0, 1, 0, 0, 1, 0, 0, 1, 1, 0] B) (S69 pre n c bb lg m0 m1 l e) (normC 1 [2, 3, 4, 7, 12, 13, 14, 15, 16]) =
  some (.normal, (S72 pre n c bb lg m0 m1 l e)) := by kernel_rfl
noncomputable def S73 (pre : Nat) (n : Nat) (c : Nat) (bb : Int) (lg : Int) (m0 : Int) (m1 : Int) (l : List Int) (e : TypeId) : KSt := ⟨(frameL 135 [(2, (.slice (some ⟨0, pre, none⟩) n c)), (3, (.pointer (some ⟨1, 0, none⟩))), (4, (.pointer (some ⟨2, 0, none⟩))), (7, (.pointer (some ⟨3, 0, none⟩))), (12, (.int .i64 2)), (13, (.pointer (some ⟨4, 0, none⟩))), (14, (.pointer (some ⟨5, 0, none⟩))), (15, (.pointer (some ⟨6, 0, none⟩))), (16, (.bool true)), (17, (.pointer (some ⟨7, 0, none⟩))), (18, (.bool false))]), ⟨8, 1, [(7, 0, .cells [(.int .i64 0), (.int .u64 0), (.int .i64 0), (.int .u64 0), (.int .u64 0)] 29 true), (6, 0, .cells [(.int .i64 1), (.int .u64 0), (.int .u64 0)] 60 true), (5, 0, .cells [(.int .i64 1), (.int .u64 0), (.int .u64 0)] 63 true), (4, 0, .cells [(.slice (some ⟨0, (pre + 0), none⟩) 2 (c - 0)), (.int .i64 1), (.bool false), (.int .i64 0), (.int .u64 0), (.int .i64 0), (.int .u64 0), (.int .u64 0)] 31 true), (3, 0, .cells [(.int .u64 bb), (.int .i64 lg), (.int .i64 m0), (.int .i64 m1), (.int .u64 (l.getD 0 0)), (.int .i64 0), (.int .i64 1), (.int .u64 0), (.int .u64 0)] 82 true), (2, 0, .cells [(.int .i64 m0), (.int .i64 m1)] 55 true), (1, 0, .cells [(.int .u64 bb), (.int .i64 lg)] 54 true), (0, 0, .tail pre .u64 l e)]⟩⟩
theorem R62 (pre : Nat) (n : Nat) (c : Nat) (bb : Int) (lg : Int) (m0 : Int) (m1 : Int) (l : List Int) (e : TypeId) : evCK Try.prog cfgE (runK Try.prog cfgE fsE (conT grpDom grpE) 12 40) 12 (codeAt [1, 1, 1, 1, 0, 1, 0, 0, 1, 0, 0, 1, 1, 1, 0] B) (S72 pre n c bb lg m0 m1 l e) (normC 1 [2, 3, 4, 7, 12, 13, 14, 15, 16, 17, 18]) =
  some (.normal, (S73 pre n c bb lg m0 m1 l e)) := by kernel_rfl
noncomputable def S74 (pre : Nat) (n : Nat) (c : Nat) (bb : Int) (lg : Int) (m0 : Int) (m1 : Int) (l : List Int) (e : TypeId) : KSt := ⟨(frameL 135 [(2, (.slice (some ⟨0, pre, none⟩) n c)), (3, (.pointer (some ⟨1, 0, none⟩))), (4, (.pointer (some ⟨2, 0, none⟩))), (7, (.pointer (some ⟨3, 0, none⟩))), (12, (.int .i64 2)), (123, (.bool false))]), ⟨4, 1, [(3, 0, .cells [(.int .u64 bb), (.int .i64 lg), (.int .i64 m0), (.int .i64 m1), (.int .u64 (l.getD 0 0)), (.int .i64 0), (.int .i64 1), (.int .u64 0), (.int .u64 0)] 82 true), (2, 0, .cells [(.int .i64 m0), (.int .i64 m1)] 55 true), (1, 0, .cells [(.int .u64 bb), (.int .i64 lg)] 54 true), (0, 0, .tail pre .u64 l e)]⟩⟩
theorem R63 (pre : Nat) (n : Nat) (c : Nat) (bb : Int) (lg : Int) (m0 : Int) (m1 : Int) (l : List Int) (e : TypeId) : evCK Try.prog cfgE (runK Try.prog cfgE fsE (conT grpDom grpE) 12 40) 12 (codeAt [1, 1, 1, 1, 0, 1, 0, 0, 1, 0, 0, 1, 1, 1, 1, 0, 0] B) (S73 pre n c bb lg m0 m1 l e) (normC 1 [2, 3, 4, 7, 12, 123]) =
  some (.normal, (S74 pre n c bb lg m0 m1 l e)) := by kernel_rfl
theorem R64 (pre : Nat) (n : Nat) (c : Nat) (bb : Int) (lg : Int) (m0 : Int) (m1 : Int) (l : List Int) (e : TypeId) : evCK Try.prog cfgE (runK Try.prog cfgE fsE (conT grpDom grpE) 12 40) 12 (codeAt [1, 1, 1, 1, 0, 1, 0, 0, 1, 0, 0, 1, 1, 1, 1, 0, 1, 1] B) (S74 pre n c bb lg m0 m1 l e) (normC 1 [2, 3, 4, 7, 12]) =
  some (.normal, (S46 pre n c bb lg m0 m1 l e)) := by kernel_rfl
noncomputable def S75 (pre : Nat) (n : Nat) (c : Nat) (bb : Int) (lg : Int) (m0 : Int) (m1 : Int) (l : List Int) (e : TypeId) : KSt := ⟨(frameL 135 [(2, (.slice (some ⟨0, pre, none⟩) n c)), (3, (.pointer (some ⟨1, 0, none⟩))), (4, (.pointer (some ⟨2, 0, none⟩))), (7, (.pointer (some ⟨3, 0, none⟩))), (12, (.int .i64 2)), (127, (.bool (decide (2 < ((n : Nat) : Int)))))]), ⟨4, 1, [(3, 0, .cells [(.int .u64 bb), (.int .i64 lg), (.int .i64 m0), (.int .i64 m1), (.int .u64 (l.getD 0 0)), (.int .i64 0), (.int .i64 1), (.int .u64 0), (.int .u64 0)] 82 true), (2, 0, .cells [(.int .i64 m0), (.int .i64 m1)] 55 true), (1, 0, .cells [(.int .u64 bb), (.int .i64 lg)] 54 true), (0, 0, .tail pre .u64 l e)]⟩⟩
theorem R65 (pre : Nat) (n : Nat) (c : Nat) (bb : Int) (lg : Int) (m0 : Int) (m1 : Int) (l : List Int) (e : TypeId) : evCK Try.prog cfgE (runK Try.prog cfgE fsE (conT grpDom grpE) 12 40) 12 (codeAt [1, 1, 1, 1, 0, 1, 0, 0, 1, 0, 0, 1, 1, 1, 1, 1, 0] B) (S46 pre n c bb lg m0 m1 l e) (normC 1 [2, 3, 4, 7, 12, 127]) =
  some (.normal, (S75 pre n c bb lg m0 m1 l e)) := by kernel_rfl
theorem R66 (pre : Nat) (n : Nat) (c : Nat) (bb : Int) (lg : Int) (m0 : Int) (m1 : Int) (l : List Int) (e : TypeId) : evCK Try.prog cfgE (runK Try.prog cfgE fsE (conT grpDom grpE) 12 40) 12 (codeAt [1, 1, 1, 1, 0, 1, 0, 0, 1, 0, 0, 1, 1, 1, 1, 1, 1, 0] B) (S75 pre n c bb lg m0 m1 l e) (normC 1 [2, 3, 4, 7, 12]) =
  if (0 : Int) ≤ 2 ∧ 2 < ((n : Nat) : Int) then
    bif (Nat.ble pre (pre + 2)) then
      obind (l[((pre + 2) - pre)]?) fun n1 =>
        some (.normal, (S46 pre n c bb lg m0 m1 l e))
    else
      none
  else
    none := by kernel_rfl
noncomputable def S76 (pre : Nat) (n : Nat) (c : Nat) (bb : Int) (lg : Int) (m0 : Int) (m1 : Int) (l : List Int) (e : TypeId) : KSt := ⟨(frameL 135 [(2, (.slice (some ⟨0, pre, none⟩) n c)), (3, (.pointer (some ⟨1, 0, none⟩))), (4, (.pointer (some ⟨2, 0, none⟩))), (7, (.pointer (some ⟨3, 0, none⟩))), (12, (.int .i64 3))]), ⟨4, 1, [(3, 0, .cells [(.int .u64 bb), (.int .i64 lg), (.int .i64 m0), (.int .i64 m1), (.int .u64 (l.getD 0 0)), (.int .i64 0), (.int .i64 1), (.int .u64 0), (.int .u64 0)] 82 true), (2, 0, .cells [(.int .i64 m0), (.int .i64 m1)] 55 true), (1, 0, .cells [(.int .u64 bb), (.int .i64 lg)] 54 true), (0, 0, .tail pre .u64 l e)]⟩⟩
theorem R67 (pre : Nat) (n : Nat) (c : Nat) (bb : Int) (lg : Int) (m0 : Int) (m1 : Int) (l : List Int) (e : TypeId) : evCK Try.prog cfgE (runK Try.prog cfgE fsE (conT grpDom grpE) 12 40) 12 (codeAt [1, 1, 1, 1, 0, 1, 0, 0, 1, 1] B) (S46 pre n c bb lg m0 m1 l e) (normC 1 [2, 3, 4, 7, 12]) =
  some (.normal, (S76 pre n c bb lg m0 m1 l e)) := by kernel_rfl
theorem lp4m_16 (bb lg m0 m1 g gl : Int) (i : Int) (pre n c : Nat) (l : List Int) (e : TypeId) (hb : 0 ≤ bb) (hm : -9223372036854775808 ≤ m1 ∧ m1 < 9223372036854775808) (hg : groupsV m0 = g) (hg1 : 0 ≤ g) (hg2 : g ≤ 512) (hgl : groupsV lg = gl) (hgl1 : 0 ≤ gl) (hn20 : n ≤ 20) (hc : n ≤ c) (hc2 : c ≤ 9223372036854775807) (hl : l.length = c) (hc0 : 0 < c) (h1 : bb ≠ 0) (h2 : 0 < gl) (h3 : 0 < g) (hn : 2 < (n : Int))  (q1 : ((l.getD 0 0) == 0) = true) {Q : Ex → St → Prop} (hq : Q .normal (KSt.low (S76 pre n c bb lg m0 m1 l e))) : Gets Try.prog (KH.low ⟨1, 1, [(0, 0, .tail pre .u64 l e)]⟩) (codeAt [1, 1, 1, 1, 0, 1, 0, 0] B) (KSt.low (S46 pre n c bb lg m0 m1 l e)) Q := by
  rw [C1_1_1_1_0_1_0_0]; refine Gets.seq ?_
  rw [C1_1_1_1_0_1_0_0_0]; refine Gets.seq ?_
  refine Gets.ofN fitE grp_sound (conT_agree _ _) 12 40 (by kernel_rfl) (x := .normal) (s' := (S66 pre n c bb lg m0 m1 l e)) (R57 pre n c bb lg m0 m1 l e) ?_
  show Gets _ _ (codeAt [1, 1, 1, 1, 0, 1, 0, 0, 0, 1] B) _ _
  rw [C1_1_1_1_0_1_0_0_0_1]; refine Gets.cond true (by kernel_rfl) ((show evalX (KSt.ts (S66 pre n c bb lg m0 m1 l e)) (.tmp 60) = .bool (decide (2 ≤ ((n : Nat) : Int))) by kernel_rfl).trans (by rw [(show (decide (2 ≤ ((n : Nat) : Int))) = true from decide_eq_true (by omega))])) ?_; show Gets _ _ (codeAt [1, 1, 1, 1, 0, 1, 0, 0, 0, 1, 0] B) _ _
  refine Gets.ofN fitE grp_sound (conT_agree _ _) 12 40 (by kernel_rfl) (x := .normal) (s' := (S46 pre n c bb lg m0 m1 l e)) (R58 pre n c bb lg m0 m1 l e) ?_
  show Gets _ _ (codeAt [1, 1, 1, 1, 0, 1, 0, 0, 1] B) _ _
  rw [C1_1_1_1_0_1_0_0_1]; refine Gets.seq ?_
  rw [C1_1_1_1_0_1_0_0_1_0]; refine Gets.block ?_
  rw [C1_1_1_1_0_1_0_0_1_0_0]; refine Gets.seq ?_
  refine Gets.ofN fitE grp_sound (conT_agree _ _) 12 40 (by kernel_rfl) (x := .normal) (s' := (S68 pre n c bb lg m0 m1 l e)) ((R59 pre n c bb lg m0 m1 l e).trans (by rw [if_pos (⟨by omega, by omega⟩), condT (and_t (rfl) (ble_t (by omega))), condF (nbeq_f (by omega))])) ?_
  show Gets _ _ (codeAt [1, 1, 1, 1, 0, 1, 0, 0, 1, 0, 0, 1] B) _ _
  rw [C1_1_1_1_0_1_0_0_1_0_0_1]; refine Gets.seq ?_
  refine Gets.ofN fitE grp_sound (conT_agree _ _) 12 40 (by kernel_rfl) (x := .normal) (s' := (S69 pre n c bb lg m0 m1 l e)) ((R60 pre n c bb lg m0 m1 l e).trans (by rw [condF (ibeq_f (by ((try simp (disch := omega) only [hg, hgl, wrap_i64_id]) <;> omega))), condT (ble_t (by omega)), obind_at (k := 0) (by omega) (by omega), condT (q1)] <;> rfl)) ?_
  show Gets _ _ (codeAt [1, 1, 1, 1, 0, 1, 0, 0, 1, 0, 0, 1, 1] B) _ _
  rw [C1_1_1_1_0_1_0_0_1_0_0_1_1]; refine Gets.seq ?_
  refine Gets.ofN fitE grp_sound (conT_agree _ _) 12 40 (by kernel_rfl) (x := .normal) (s' := (S72 pre n c bb lg m0 m1 l e)) (R61 pre n c bb lg m0 m1 l e) ?_
  show Gets _ _ (codeAt [1, 1, 1, 1, 0, 1, 0, 0, 1, 0, 0, 1, 1, 1] B) _ _
  rw [C1_1_1_1_0_1_0_0_1_0_0_1_1_1]; refine Gets.seq ?_
  refine Gets.ofN fitE grp_sound (conT_agree _ _) 12 40 (by kernel_rfl) (x := .normal) (s' := (S73 pre n c bb lg m0 m1 l e)) (R62 pre n c bb lg m0 m1 l e) ?_
  show Gets _ _ (codeAt [1, 1, 1, 1, 0, 1, 0, 0, 1, 0, 0, 1, 1, 1, 1] B) _ _
  rw [C1_1_1_1_0_1_0_0_1_0_0_1_1_1_1]; refine Gets.seq ?_
  rw [C1_1_1_1_0_1_0_0_1_0_0_1_1_1_1_0]; refine Gets.seq ?_
  refine Gets.ofN fitE grp_sound (conT_agree _ _) 12 40 (by kernel_rfl) (x := .normal) (s' := (S74 pre n c bb lg m0 m1 l e)) (R63 pre n c bb lg m0 m1 l e) ?_
  show Gets _ _ (codeAt [1, 1, 1, 1, 0, 1, 0, 0, 1, 0, 0, 1, 1, 1, 1, 0, 1] B) _ _
  rw [C1_1_1_1_0_1_0_0_1_0_0_1_1_1_1_0_1]; refine Gets.cond false (by kernel_rfl) (show evalX (KSt.ts (S74 pre n c bb lg m0 m1 l e)) (.tmp 123) = .bool false by kernel_rfl) ?_; show Gets _ _ (codeAt [1, 1, 1, 1, 0, 1, 0, 0, 1, 0, 0, 1, 1, 1, 1, 0, 1, 1] B) _ _
  refine Gets.ofN fitE grp_sound (conT_agree _ _) 12 40 (by kernel_rfl) (x := .normal) (s' := (S46 pre n c bb lg m0 m1 l e)) (R64 pre n c bb lg m0 m1 l e) ?_
  show Gets _ _ (codeAt [1, 1, 1, 1, 0, 1, 0, 0, 1, 0, 0, 1, 1, 1, 1, 1] B) _ _
  rw [C1_1_1_1_0_1_0_0_1_0_0_1_1_1_1_1]; refine Gets.seq ?_
  refine Gets.ofN fitE grp_sound (conT_agree _ _) 12 40 (by kernel_rfl) (x := .normal) (s' := (S75 pre n c bb lg m0 m1 l e)) (R65 pre n c bb lg m0 m1 l e) ?_
  show Gets _ _ (codeAt [1, 1, 1, 1, 0, 1, 0, 0, 1, 0, 0, 1, 1, 1, 1, 1, 1] B) _ _
  rw [C1_1_1_1_0_1_0_0_1_0_0_1_1_1_1_1_1]; refine Gets.cond true (by kernel_rfl) ((show evalX (KSt.ts (S75 pre n c bb lg m0 m1 l e)) (.tmp 127) = .bool (decide (2 < ((n : Nat) : Int))) by kernel_rfl).trans (by rw [(show (decide (2 < ((n : Nat) : Int))) = true from decide_eq_true (by omega))])) ?_; show Gets _ _ (codeAt [1, 1, 1, 1, 0, 1, 0, 0, 1, 0, 0, 1, 1, 1, 1, 1, 1, 0] B) _ _
  refine Gets.ofN fitE grp_sound (conT_agree _ _) 12 40 (by kernel_rfl) (x := .normal) (s' := (S46 pre n c bb lg m0 m1 l e)) ((R66 pre n c bb lg m0 m1 l e).trans (by rw [if_pos (⟨by omega, by omega⟩), condT (ble_t (by omega)), obind_at (k := 2) (by omega) (by omega)] <;> rfl)) ?_
  show Gets _ _ (codeAt [1, 1, 1, 1, 0, 1, 0, 0, 1, 1] B) _ _
  refine Gets.ofN fitE grp_sound (conT_agree _ _) 12 40 (by kernel_rfl) (x := .normal) (s' := (S76 pre n c bb lg m0 m1 l e)) (R67 pre n c bb lg m0 m1 l e) ?_
  exact hq
theorem R68 (pre : Nat) (n : Nat) (c : Nat) (bb : Int) (lg : Int) (m0 : Int) (m1 : Int) (l : List Int) (e : TypeId) : evCK Try.prog cfgE (runK Try.prog cfgE fsE (conT grpDom grpE) 12 40) 12 (codeAt [1, 1, 1, 1, 0, 1, 0, 0, 1, 0, 0, 1, 1, 1, 1, 1, 1, 1] B) (S75 pre n c bb lg m0 m1 l e) (normC 1 [2, 3, 4, 7, 12]) =
  some (.normal, (S46 pre n c bb lg m0 m1 l e)) := by kernel_rfl
theorem lp4e_17 (bb lg m0 m1 g gl : Int) (i : Int) (pre n c : Nat) (l : List Int) (e : TypeId) (hb : 0 ≤ bb) (hm : -9223372036854775808 ≤ m1 ∧ m1 < 9223372036854775808) (hg : groupsV m0 = g) (hg1 : 0 ≤ g) (hg2 : g ≤ 512) (hgl : groupsV lg = gl) (hgl1 : 0 ≤ gl) (hn20 : n ≤ 20) (hc : n ≤ c) (hc2 : c ≤ 9223372036854775807) (hl : l.length = c) (hc0 : 0 < c) (h1 : bb ≠ 0) (h2 : 0 < gl) (h3 : 0 < g) (hn : 2 = (n : Int))  (q1 : ((l.getD 0 0) == 0) = true) {Q : Ex → St → Prop} (hq : Q .normal (KSt.low (S76 pre n c bb lg m0 m1 l e))) : Gets Try.prog (KH.low ⟨1, 1, [(0, 0, .tail pre .u64 l e)]⟩) (codeAt [1, 1, 1, 1, 0, 1, 0, 0] B) (KSt.low (S46 pre n c bb lg m0 m1 l e)) Q := by
  rw [C1_1_1_1_0_1_0_0]; refine Gets.seq ?_
  rw [C1_1_1_1_0_1_0_0_0]; refine Gets.seq ?_
  refine Gets.ofN fitE grp_sound (conT_agree _ _) 12 40 (by kernel_rfl) (x := .normal) (s' := (S66 pre n c bb lg m0 m1 l e)) (R57 pre n c bb lg m0 m1 l e) ?_
  show Gets _ _ (codeAt [1, 1, 1, 1, 0, 1, 0, 0, 0, 1] B) _ _
  rw [C1_1_1_1_0_1_0_0_0_1]; refine Gets.cond true (by kernel_rfl) ((show evalX (KSt.ts (S66 pre n c bb lg m0 m1 l e)) (.tmp 60) = .bool (decide (2 ≤ ((n : Nat) : Int))) by kernel_rfl).trans (by rw [(show (decide (2 ≤ ((n : Nat) : Int))) = true from decide_eq_true (by omega))])) ?_; show Gets _ _ (codeAt [1, 1, 1, 1, 0, 1, 0, 0, 0, 1, 0] B) _ _
  refine Gets.ofN fitE grp_sound (conT_agree _ _) 12 40 (by kernel_rfl) (x := .normal) (s' := (S46 pre n c bb lg m0 m1 l e)) (R58 pre n c bb lg m0 m1 l e) ?_
  show Gets _ _ (codeAt [1, 1, 1, 1, 0, 1, 0, 0, 1] B) _ _
  rw [C1_1_1_1_0_1_0_0_1]; refine Gets.seq ?_
  rw [C1_1_1_1_0_1_0_0_1_0]; refine Gets.block ?_
  rw [C1_1_1_1_0_1_0_0_1_0_0]; refine Gets.seq ?_
  refine Gets.ofN fitE grp_sound (conT_agree _ _) 12 40 (by kernel_rfl) (x := .normal) (s' := (S68 pre n c bb lg m0 m1 l e)) ((R59 pre n c bb lg m0 m1 l e).trans (by rw [if_pos (⟨by omega, by omega⟩), condT (and_t (rfl) (ble_t (by omega))), condF (nbeq_f (by omega))])) ?_
  show Gets _ _ (codeAt [1, 1, 1, 1, 0, 1, 0, 0, 1, 0, 0, 1] B) _ _
  rw [C1_1_1_1_0_1_0_0_1_0_0_1]; refine Gets.seq ?_
  refine Gets.ofN fitE grp_sound (conT_agree _ _) 12 40 (by kernel_rfl) (x := .normal) (s' := (S69 pre n c bb lg m0 m1 l e)) ((R60 pre n c bb lg m0 m1 l e).trans (by rw [condF (ibeq_f (by ((try simp (disch := omega) only [hg, hgl, wrap_i64_id]) <;> omega))), condT (ble_t (by omega)), obind_at (k := 0) (by omega) (by omega), condT (q1)] <;> rfl)) ?_
  show Gets _ _ (codeAt [1, 1, 1, 1, 0, 1, 0, 0, 1, 0, 0, 1, 1] B) _ _
  rw [C1_1_1_1_0_1_0_0_1_0_0_1_1]; refine Gets.seq ?_
  refine Gets.ofN fitE grp_sound (conT_agree _ _) 12 40 (by kernel_rfl) (x := .normal) (s' := (S72 pre n c bb lg m0 m1 l e)) (R61 pre n c bb lg m0 m1 l e) ?_
  show Gets _ _ (codeAt [1, 1, 1, 1, 0, 1, 0, 0, 1, 0, 0, 1, 1, 1] B) _ _
  rw [C1_1_1_1_0_1_0_0_1_0_0_1_1_1]; refine Gets.seq ?_
  refine Gets.ofN fitE grp_sound (conT_agree _ _) 12 40 (by kernel_rfl) (x := .normal) (s' := (S73 pre n c bb lg m0 m1 l e)) (R62 pre n c bb lg m0 m1 l e) ?_
  show Gets _ _ (codeAt [1, 1, 1, 1, 0, 1, 0, 0, 1, 0, 0, 1, 1, 1, 1] B) _ _
  rw [C1_1_1_1_0_1_0_0_1_0_0_1_1_1_1]; refine Gets.seq ?_
  rw [C1_1_1_1_0_1_0_0_1_0_0_1_1_1_1_0]; refine Gets.seq ?_
  refine Gets.ofN fitE grp_sound (conT_agree _ _) 12 40 (by kernel_rfl) (x := .normal) (s' := (S74 pre n c bb lg m0 m1 l e)) (R63 pre n c bb lg m0 m1 l e) ?_
  show Gets _ _ (codeAt [1, 1, 1, 1, 0, 1, 0, 0, 1, 0, 0, 1, 1, 1, 1, 0, 1] B) _ _
  rw [C1_1_1_1_0_1_0_0_1_0_0_1_1_1_1_0_1]; refine Gets.cond false (by kernel_rfl) (show evalX (KSt.ts (S74 pre n c bb lg m0 m1 l e)) (.tmp 123) = .bool false by kernel_rfl) ?_; show Gets _ _ (codeAt [1, 1, 1, 1, 0, 1, 0, 0, 1, 0, 0, 1, 1, 1, 1, 0, 1, 1] B) _ _
  refine Gets.ofN fitE grp_sound (conT_agree _ _) 12 40 (by kernel_rfl) (x := .normal) (s' := (S46 pre n c bb lg m0 m1 l e)) (R64 pre n c bb lg m0 m1 l e) ?_
  show Gets _ _ (codeAt [1, 1, 1, 1, 0, 1, 0, 0, 1, 0, 0, 1, 1, 1, 1, 1] B) _ _
  rw [C1_1_1_1_0_1_0_0_1_0_0_1_1_1_1_1]; refine Gets.seq ?_
  refine Gets.ofN fitE grp_sound (conT_agree _ _) 12 40 (by kernel_rfl) (x := .normal) (s' := (S75 pre n c bb lg m0 m1 l e)) (R65 pre n c bb lg m0 m1 l e) ?_
  show Gets _ _ (codeAt [1, 1, 1, 1, 0, 1, 0, 0, 1, 0, 0, 1, 1, 1, 1, 1, 1] B) _ _
  rw [C1_1_1_1_0_1_0_0_1_0_0_1_1_1_1_1_1]; refine Gets.cond false (by kernel_rfl) ((show evalX (KSt.ts (S75 pre n c bb lg m0 m1 l e)) (.tmp 127) = .bool (decide (2 < ((n : Nat) : Int))) by kernel_rfl).trans (by rw [(show (decide (2 < ((n : Nat) : Int))) = false from decide_eq_false (by omega))])) ?_; show Gets _ _ (codeAt [1, 1, 1, 1, 0, 1, 0, 0, 1, 0, 0, 1, 1, 1, 1, 1, 1, 1] B) _ _
  refine Gets.ofN fitE grp_sound (conT_agree _ _) 12 40 (by kernel_rfl) (x := .normal) (s' := (S46 pre n c bb lg m0 m1 l e)) (R68 pre n c bb lg m0 m1 l e) ?_
  show Gets _ _ (codeAt [1, 1, 1, 1, 0, 1, 0, 0, 1, 1] B) _ _
  refine Gets.ofN fitE grp_sound (conT_agree _ _) 12 40 (by kernel_rfl) (x := .normal) (s' := (S76 pre n c bb lg m0 m1 l e)) (R67 pre n c bb lg m0 m1 l e) ?_
  exact hq
noncomputable def S77 (pre : Nat) (n : Nat) (c : Nat) (i : Int) (bb : Int) (lg : Int) (m0 : Int) (m1 : Int) (l : List Int) (e : TypeId) : KSt := ⟨(frameL 135 [(2, (.slice (some ⟨0, pre, none⟩) n c)), (3, (.pointer (some ⟨1, 0, none⟩))), (4, (.pointer (some ⟨2, 0, none⟩))), (7, (.pointer (some ⟨3, 0, none⟩))), (12, (.int .i64 i)), (60, (.bool (decide (i ≤ ((n : Nat) : Int)))))]), ⟨4, 1, [(3, 0, .cells [(.int .u64 bb), (.int .i64 lg), (.int .i64 m0), (.int .i64 m1), (.int .u64 (l.getD 0 0)), (.int .i64 0), (.int .i64 1), (.int .u64 0), (.int .u64 0)] 82 true), (2, 0, .cells [(.int .i64 m0), (.int .i64 m1)] 55 true), (1, 0, .cells [(.int .u64 bb), (.int .i64 lg)] 54 true), (0, 0, .tail pre .u64 l e)]⟩⟩
theorem R69 (pre : Nat) (n : Nat) (c : Nat) (i : Int) (bb : Int) (lg : Int) (m0 : Int) (m1 : Int) (l : List Int) (e : TypeId) : evCK Try.prog cfgE (runK Try.prog cfgE fsE (conT grpDom grpE) 12 40) 12 (codeAt [1, 1, 1, 1, 0, 1, 0, 0, 0, 0] B) (S47 pre n c i bb lg m0 m1 l e) (normC 1 [2, 3, 4, 7, 12, 60]) =
  some (.normal, (S77 pre n c i bb lg m0 m1 l e)) := by kernel_rfl
theorem lp5x_18 (bb lg m0 m1 g gl : Int) (i : Int) (pre n c : Nat) (l : List Int) (e : TypeId) (hx : (n : Int) < i)   {Q : Ex → St → Prop} (hq : Q (.exit 0) (KSt.low (S77 pre n c i bb lg m0 m1 l e))) : Gets Try.prog (KH.low ⟨1, 1, [(0, 0, .tail pre .u64 l e)]⟩) (codeAt [1, 1, 1, 1, 0, 1, 0, 0] B) (KSt.low (S47 pre n c i bb lg m0 m1 l e)) Q := by
  rw [C1_1_1_1_0_1_0_0]; refine Gets.seq ?_
  rw [C1_1_1_1_0_1_0_0_0]; refine Gets.seq ?_
  refine Gets.ofN fitE grp_sound (conT_agree _ _) 12 40 (by kernel_rfl) (x := .normal) (s' := (S77 pre n c i bb lg m0 m1 l e)) (R69 pre n c i bb lg m0 m1 l e) ?_
  show Gets _ _ (codeAt [1, 1, 1, 1, 0, 1, 0, 0, 0, 1] B) _ _
  rw [C1_1_1_1_0_1_0_0_0_1]; refine Gets.cond false (by kernel_rfl) ((show evalX (KSt.ts (S77 pre n c i bb lg m0 m1 l e)) (.tmp 60) = .bool (decide (i ≤ ((n : Nat) : Int))) by kernel_rfl).trans (by rw [(show (decide (i ≤ ((n : Nat) : Int))) = false from decide_eq_false (by omega))])) ?_; show Gets _ _ (codeAt [1, 1, 1, 1, 0, 1, 0, 0, 0, 1, 1] B) _ _
  rw [C1_1_1_1_0_1_0_0_0_1_1]; refine Gets.ev fitE.mix fitE.cfg (fitE.sound grp_sound 12 0) 12 rfl (s' := KSt.low (S77 pre n c i bb lg m0 m1 l e)) (x := (.exit 0)) rfl ?_
  exact hq
theorem R70 (pre : Nat) (n : Nat) (c : Nat) (i : Int) (bb : Int) (lg : Int) (m0 : Int) (m1 : Int) (l : List Int) (e : TypeId) : evCK Try.prog cfgE (runK Try.prog cfgE fsE (conT grpDom grpE) 12 40) 12 (codeAt [1, 1, 1, 1, 1, 0] B) (S77 pre n c i bb lg m0 m1 l e) (normC 1 [6]) =
  some (.normal, (S3 pre l e)) := by kernel_rfl
theorem lp5f_19 (bb lg m0 m1 g gl : Int) (i : Int) (pre n c : Nat) (l : List Int) (e : TypeId)   {Q : Ex → St → Prop} (hq : Q .ret (KSt.low (S3 pre l e))) : Gets Try.prog (KH.low ⟨1, 1, [(0, 0, .tail pre .u64 l e)]⟩) (codeAt [1, 1, 1, 1, 1] B) (KSt.low (S77 pre n c i bb lg m0 m1 l e)) Q := by
  rw [C1_1_1_1_1]; refine Gets.seq ?_
  refine Gets.ofN fitE grp_sound (conT_agree _ _) 12 40 (by kernel_rfl) (x := .normal) (s' := (S3 pre l e)) (R70 pre n c i bb lg m0 m1 l e) ?_
  show Gets _ _ (codeAt [1, 1, 1, 1, 1, 1] B) _ _
  rw [C1_1_1_1_1_1]; refine Gets.ev fitE.mix fitE.cfg (fitE.sound grp_sound 12 0) 12 rfl (s' := KSt.low (S3 pre l e)) (x := .ret) rfl ?_
  exact hq
noncomputable def S78 (pre : Nat) (n : Nat) (c : Nat) (bb : Int) (lg : Int) (m0 : Int) (m1 : Int) (l : List Int) (e : TypeId) : KSt := ⟨(frameL 135 [(2, (.slice (some ⟨0, pre, none⟩) n c)), (3, (.pointer (some ⟨1, 0, none⟩))), (4, (.pointer (some ⟨2, 0, none⟩))), (7, (.pointer (some ⟨3, 0, none⟩))), (12, (.int .i64 2)), (60, (.bool (decide (2 ≤ ((n : Nat) : Int)))))]), ⟨4, 1, [(3, 0, .cells [(.int .u64 bb), (.int .i64 lg), (.int .i64 m0), (.int .i64 m1), (.int .u64 (l.getD 0 0)), (.int .i64 3), (.int .i64 0), (.int .u64 0), (.int .u64 0)] 82 true), (2, 0, .cells [(.int .i64 m0), (.int .i64 m1)] 55 true), (1, 0, .cells [(.int .u64 bb), (.int .i64 lg)] 54 true), (0, 0, .tail pre .u64 l e)]⟩⟩
theorem R71 (pre : Nat) (n : Nat) (c : Nat) (bb : Int) (lg : Int) (m0 : Int) (m1 : Int) (l : List Int) (e : TypeId) : evCK Try.prog cfgE (runK Try.prog cfgE fsE (conT grpDom grpE) 12 40) 12 (codeAt [1, 1, 1, 1, 0, 1, 0, 0, 0, 0] B) (S62 pre n c bb lg m0 m1 l e) (normC 1 [2, 3, 4, 7, 12, 60]) =
  some (.normal, (S78 pre n c bb lg m0 m1 l e)) := by kernel_rfl
theorem R72 (pre : Nat) (n : Nat) (c : Nat) (bb : Int) (lg : Int) (m0 : Int) (m1 : Int) (l : List Int) (e : TypeId) : evCK Try.prog cfgE (runK Try.prog cfgE fsE (conT grpDom grpE) 12 40) 12 (codeAt [1, 1, 1, 1, 0, 1, 0, 0, 0, 1, 0] B) (S78 pre n c bb lg m0 m1 l e) (normC 1 [2, 3, 4, 7, 12]) =
  some (.normal, (S62 pre n c bb lg m0 m1 l e)) := by kernel_rfl
noncomputable def S79 (pre : Nat) (n : Nat) (c : Nat) (bb : Int) (lg : Int) (m0 : Int) (m1 : Int) (l : List Int) (e : TypeId) : KSt := ⟨(frameL 135 [(2, (.slice (some ⟨0, pre, none⟩) n c)), (3, (.pointer (some ⟨1, 0, none⟩))), (4, (.pointer (some ⟨2, 0, none⟩))), (7, (.pointer (some ⟨3, 0, none⟩))), (12, (.int .i64 2)), (13, (.pointer (some ⟨4, 0, none⟩)))]), ⟨5, 1, [(4, 0, .cells [(.slice (some ⟨0, pre, none⟩) 2 (c - 0)), (.int .i64 0), (.bool false), (.int .i64 0), (.int .u64 0), (.int .i64 0), (.int .u64 0), (.int .u64 0)] 31 true), (3, 0, .cells [(.int .u64 bb), (.int .i64 lg), (.int .i64 m0), (.int .i64 m1), (.int .u64 (l.getD 0 0)), (.int .i64 3), (.int .i64 0), (.int .u64 0), (.int .u64 0)] 82 true), (2, 0, .cells [(.int .i64 m0), (.int .i64 m1)] 55 true), (1, 0, .cells [(.int .u64 bb), (.int .i64 lg)] 54 true), (0, 0, .tail pre .u64 l e)]⟩⟩
noncomputable def S80 (pre : Nat) (n : Nat) (c : Nat) (bb : Int) (lg : Int) (m0 : Int) (m1 : Int) (l : List Int) (e : TypeId) : KSt := ⟨(frameL 135 [(2, (.slice (some ⟨0, pre, none⟩) n c)), (3, (.pointer (some ⟨1, 0, none⟩))), (4, (.pointer (some ⟨2, 0, none⟩))), (7, (.pointer (some ⟨3, 0, none⟩))), (12, (.int .i64 2)), (13, (.pointer (some ⟨4, 0, none⟩)))]), ⟨5, 1, [(4, 0, .cells [(.slice (some ⟨0, (pre + 0), none⟩) 2 (c - 0)), (.int .i64 0), (.bool false), (.int .i64 0), (.int .u64 0), (.int .i64 0), (.int .u64 0), (.int .u64 0)] 31 true), (3, 0, .cells [(.int .u64 bb), (.int .i64 lg), (.int .i64 m0), (.int .i64 m1), (.int .u64 (l.getD 0 0)), (.int .i64 3), (.int .i64 0), (.int .u64 0), (.int .u64 0)] 82 true), (2, 0, .cells [(.int .i64 m0), (.int .i64 m1)] 55 true), (1, 0, .cells [(.int .u64 bb), (.int .i64 lg)] 54 true), (0, 0, .tail pre .u64 l e)]⟩⟩
theorem R73 (pre : Nat) (n : Nat) (c : Nat) (bb : Int) (lg : Int) (m0 : Int) (m1 : Int) (l : List Int) (e : TypeId) : evCK Try.prog cfgE (runK Try.prog cfgE fsE (conT grpDom grpE) 12 40) 12 (codeAt [1, 1, 1, 1, 0, 1, 0, 0, 1, 0, 0, 0] B) (S62 pre n c bb lg m0 m1 l e) (normC 1 [2, 3, 4, 7, 12, 13]) =
  if (0 : Int) ≤ 2 ∧ 2 ≤ ((c : Nat) : Int) then
    bif (true && (Nat.ble 2 c)) then
      bif (Nat.beq c 0) then
        some (.normal, (S79 pre n c bb lg m0 m1 l e))
      else
        some (.normal, (S80 pre n c bb lg m0 m1 l e))
    else
      none
  else
    none := by kernel_rfl
noncomputable def S81 (pre : Nat) (n : Nat) (c : Nat) (bb : Int) (lg : Int) (m0 : Int) (m1 : Int) (l : List Int) (e : TypeId) : KSt := ⟨(frameL 135 [(2, (.slice (some ⟨0, pre, none⟩) n c)), (3, (.pointer (some ⟨1, 0, none⟩))), (4, (.pointer (some ⟨2, 0, none⟩))), (7, (.pointer (some ⟨3, 0, none⟩))), (12, (.int .i64 2)), (13, (.pointer (some ⟨4, 0, none⟩))), (14, (.pointer (some ⟨5, 0, none⟩)))]), ⟨6, 1, [(5, 0, .cells [(.int .i64 1), (.int .u64 0), (.int .u64 0)] 63 true), (4, 0, .cells [(.slice (some ⟨0, (pre + 0), none⟩) 2 (c - 0)), (.int .i64 1), (.bool false), (.int .i64 0), (.int .u64 0), (.int .i64 0), (.int .u64 0), (.int .u64 0)] 31 true), (3, 0, .cells [(.int .u64 bb), (.int .i64 lg), (.int .i64 m0), (.int .i64 m1), (.int .u64 (l.getD 0 0)), (.int .i64 3), (.int .i64 0), (.int .u64 0), (.int .u64 0)] 82 true), (2, 0, .cells [(.int .i64 m0), (.int .i64 m1)] 55 true), (1, 0, .cells [(.int .u64 bb), (.int .i64 lg)] 54 true), (0, 0, .tail pre .u64 l e)]⟩⟩
noncomputable def S82 (pre : Nat) (n : Nat) (c : Nat) (n1 : Int) (m1 : Int) (bb : Int) (lg : Int) (m0 : Int) (l : List Int) (e : TypeId) : KSt := ⟨(frameL 135 [(2, (.slice (some ⟨0, pre, none⟩) n c)), (3, (.pointer (some ⟨1, 0, none⟩))), (4, (.pointer (some ⟨2, 0, none⟩))), (7, (.pointer (some ⟨3, 0, none⟩))), (12, (.int .i64 2)), (13, (.pointer (some ⟨4, 0, none⟩))), (14, (.pointer (some ⟨5, 0, none⟩)))]), ⟨6, 1, [(5, 0, .cells [(.int .i64 2), (.int .u64 n1), (.int .u64 (makeRV n1 m1))] 63 true), (4, 0, .cells [(.slice (some ⟨0, (pre + 0), none⟩) 2 (c - 0)), (.int .i64 2), (.bool true), (.int .i64 3), (.int .u64 bb), (.int .i64 1), (.int .u64 0), (.int .u64 (makeRV n1 m1))] 31 true), (3, 0, .cells [(.int .u64 bb), (.int .i64 lg), (.int .i64 m0), (.int .i64 m1), (.int .u64 (l.getD 0 0)), (.int .i64 3), (.int .i64 0), (.int .u64 0), (.int .u64 0)] 82 true), (2, 0, .cells [(.int .i64 m0), (.int .i64 m1)] 55 true), (1, 0, .cells [(.int .u64 bb), (.int .i64 lg)] 54 true), (0, 0, .tail pre .u64 l e)]⟩⟩
noncomputable def S83 (pre : Nat) (n : Nat) (c : Nat) (n3 : Int) (m1 : Int) (bb : Int) (lg : Int) (m0 : Int) (l : List Int) (e : TypeId) : KSt := ⟨(frameL 135 [(2, (.slice (some ⟨0, pre, none⟩) n c)), (3, (.pointer (some ⟨1, 0, none⟩))), (4, (.pointer (some ⟨2, 0, none⟩))), (7, (.pointer (some ⟨3, 0, none⟩))), (12, (.int .i64 2)), (13, (.pointer (some ⟨4, 0, none⟩))), (14, (.pointer (some ⟨5, 0, none⟩)))]), ⟨6, 1, [(5, 0, .cells [(.int .i64 2), (.int .u64 n3), (.int .u64 (makeRV n3 m1))] 63 true), (4, 0, .cells [(.slice (some ⟨0, (pre + 0), none⟩) 2 (c - 0)), (.int .i64 2), (.bool true), (.int .i64 3), (.int .u64 bb), (.int .i64 1), (.int .u64 0), (.int .u64 (makeRV n3 m1))] 31 true), (3, 0, .cells [(.int .u64 bb), (.int .i64 lg), (.int .i64 m0), (.int .i64 m1), (.int .u64 (l.getD 0 0)), (.int .i64 3), (.int .i64 0), (.int .u64 0), (.int .u64 0)] 82 true), (2, 0, .cells [(.int .i64 m0), (.int .i64 m1)] 55 true), (1, 0, .cells [(.int .u64 bb), (.int .i64 lg)] 54 true), (0, 0, .tail pre .u64 l e)]⟩⟩
theorem R74 (pre : Nat) (n : Nat) (c : Nat) (bb : Int) (lg : Int) (m0 : Int) (m1 : Int) (l : List Int) (e : TypeId) : evCK Try.prog cfgE (runK Try.prog cfgE fsE (conT grpDom grpE) 12 40) 12 (codeAt [1, 1, 1, 1, 0, 1, 0, 0, 1, 0, 0, 1, 0] B) (S80 pre n c bb lg m0 m1 l e) (normC 1 [2, 3, 4, 7, 12, 13, 14]) =
  bif ((groupsV m0) == 0) then
    bif (Nat.ble pre ((pre + 0) + 0)) then
      obind (l[(((pre + 0) + 0) - pre)]?) fun n1 =>
        bif (n1 == 0) then
          some (.normal, (S81 pre n c bb lg m0 m1 l e))
        else
          bif (Nat.ble pre ((pre + 0) + 1)) then
            obind (l[(((pre + 0) + 1) - pre)]?) fun n2 =>
              some (.normal, (S82 pre n c n1 m1 bb lg m0 l e))
          else
            none
    else
      none
  else
    bif (Nat.ble pre ((pre + 0) + 0)) then
      obind (l[(((pre + 0) + 0) - pre)]?) fun n3 =>
        bif (n3 == 0) then
          some (.normal, (S81 pre n c bb lg m0 m1 l e))
        else
          bif (Nat.ble pre ((pre + 0) + 1)) then
            obind (l[(((pre + 0) + 1) - pre)]?) fun n4 =>
              some (.normal, (S83 pre n c n3 m1 bb lg m0 l e))
          else
            none
    else
      none := by kernel_rfl
noncomputable def S84 (pre : Nat) (n : Nat) (c : Nat) (l : List Int) (m1 : Int) (bb : Int) (lg : Int) (m0 : Int) (e : TypeId) : KSt := ⟨(frameL 135 [(2, (.slice (some ⟨0, pre, none⟩) n c)), (3, (.pointer (some ⟨1, 0, none⟩))), (4, (.pointer (some ⟨2, 0, none⟩))), (7, (.pointer (some ⟨3, 0, none⟩))), (12, (.int .i64 2)), (13, (.pointer (some ⟨4, 0, none⟩))), (14, (.pointer (some ⟨5, 0, none⟩)))]), ⟨6, 1, [(5, 0, .cells [(.int .i64 2), (.int .u64 (l.getD 0 0)), (.int .u64 (makeV (l.getD 0 0) m1))] 63 true), (4, 0, .cells [(.slice (some ⟨0, (pre + 0), none⟩) 2 (c - 0)), (.int .i64 2), (.bool true), (.int .i64 3), (.int .u64 bb), (.int .i64 1), (.int .u64 0), (.int .u64 (makeV (l.getD 0 0) m1))] 31 true), (3, 0, .cells [(.int .u64 bb), (.int .i64 lg), (.int .i64 m0), (.int .i64 m1), (.int .u64 (l.getD 0 0)), (.int .i64 3), (.int .i64 0), (.int .u64 0), (.int .u64 0)] 82 true), (2, 0, .cells [(.int .i64 m0), (.int .i64 m1)] 55 true), (1, 0, .cells [(.int .u64 bb), (.int .i64 lg)] 54 true), (0, 0, .tail pre .u64 l e)]⟩⟩
noncomputable def S85 (pre : Nat) (n : Nat) (c : Nat) (l : List Int) (m1 : Int) (bb : Int) (lg : Int) (m0 : Int) (e : TypeId) : KSt := ⟨(frameL 135 [(2, (.slice (some ⟨0, pre, none⟩) n c)), (3, (.pointer (some ⟨1, 0, none⟩))), (4, (.pointer (some ⟨2, 0, none⟩))), (7, (.pointer (some ⟨3, 0, none⟩))), (12, (.int .i64 2)), (13, (.pointer (some ⟨4, 0, none⟩))), (14, (.pointer (some ⟨5, 0, none⟩)))]), ⟨6, 1, [(5, 0, .cells [(.int .i64 2), (.int .u64 (l.getD 0 0)), (.int .u64 (makeRV (l.getD 0 0) m1))] 63 true), (4, 0, .cells [(.slice (some ⟨0, (pre + 0), none⟩) 2 (c - 0)), (.int .i64 2), (.bool true), (.int .i64 3), (.int .u64 bb), (.int .i64 1), (.int .u64 0), (.int .u64 (makeRV (l.getD 0 0) m1))] 31 true), (3, 0, .cells [(.int .u64 bb), (.int .i64 lg), (.int .i64 m0), (.int .i64 m1), (.int .u64 (l.getD 0 0)), (.int .i64 3), (.int .i64 0), (.int .u64 0), (.int .u64 0)] 82 true), (2, 0, .cells [(.int .i64 m0), (.int .i64 m1)] 55 true), (1, 0, .cells [(.int .u64 bb), (.int .i64 lg)] 54 true), (0, 0, .tail pre .u64 l e)]⟩⟩
noncomputable def S86 (pre : Nat) (n : Nat) (c : Nat) (l : List Int) (m1 : Int) (bb : Int) (lg : Int) (m0 : Int) (e : TypeId) : KSt := ⟨(frameL 135 [(2, (.slice (some ⟨0, pre, none⟩) n c)), (3, (.pointer (some ⟨1, 0, none⟩))), (4, (.pointer (some ⟨2, 0, none⟩))), (7, (.pointer (some ⟨3, 0, none⟩))), (12, (.int .i64 2)), (13, (.pointer (some ⟨4, 0, none⟩))), (14, (.pointer (some ⟨5, 0, none⟩))), (15, (.pointer (some ⟨6, 0, none⟩))), (16, (.bool false))]), ⟨7, 1, [(6, 0, .cells [(.int .i64 0), (.int .u64 0), (.int .u64 0)] 60 true), (5, 0, .cells [(.int .i64 2), (.int .u64 (l.getD 0 0)), (.int .u64 (makeV (l.getD 0 0) m1))] 63 true), (4, 0, .cells [(.slice (some ⟨0, (pre + 0), none⟩) 2 (c - 0)), (.int .i64 2), (.bool true), (.int .i64 3), (.int .u64 bb), (.int .i64 1), (.int .u64 0), (.int .u64 (makeV (l.getD 0 0) m1))] 31 true), (3, 0, .cells [(.int .u64 bb), (.int .i64 lg), (.int .i64 m0), (.int .i64 m1), (.int .u64 (l.getD 0 0)), (.int .i64 3), (.int .i64 0), (.int .u64 0), (.int .u64 0)] 82 true), (2, 0, .cells [(.int .i64 m0), (.int .i64 m1)] 55 true), (1, 0, .cells [(.int .u64 bb), (.int .i64 lg)] 54 true), (0, 0, .tail pre .u64 l e)]⟩⟩
theorem R75 (pre : Nat) (n : Nat) (c : Nat) (l : List Int) (m1 : Int) (bb : Int) (lg : Int) (m0 : Int) (e : TypeId) : evCK Try.prog cfgE (runK Try.prog cfgE fsE (conT grpDom grpE) 12 40) 12 (codeAt [1, 1, 1, 1, 0, 1, 0, 0, 1, 0, 0, 1, 1, 0] B) (S84 pre n c l m1 bb lg m0 e) (normC 1 [2, 3, 4, 7, 12, 13, 14, 15, 16]) =
  some (.normal, (S86 pre n c l m1 bb lg m0 e)) := by kernel_rfl
noncomputable def S87 (pre : Nat) (n : Nat) (c : Nat) (bb : Int) (l : List Int) (m1 : Int) (lg : Int) (m0 : Int) (e : TypeId) : KSt := ⟨(frameL 135 [(2, (.slice (some ⟨0, pre, none⟩) n c)), (3, (.pointer (some ⟨1, 0, none⟩))), (4, (.pointer (some ⟨2, 0, none⟩))), (7, (.pointer (some ⟨3, 0, none⟩))), (12, (.int .i64 2)), (13, (.pointer (some ⟨4, 0, none⟩))), (14, (.pointer (some ⟨5, 0, none⟩))), (15, (.pointer (some ⟨6, 0, none⟩))), (16, (.bool false)), (17, (.pointer (some ⟨7, 0, none⟩))), (18, (.bool true))]), ⟨8, 1, [(7, 0, .cells [(.int .i64 3), (.int .u64 bb), (.int .i64 1), (.int .u64 0), (.int .u64 (makeV ((l.getD 0 0)) m1))] 29 true), (6, 0, .cells [(.int .i64 0), (.int .u64 0), (.int .u64 0)] 60 true), (5, 0, .cells [(.int .i64 2), (.int .u64 (l.getD 0 0)), (.int .u64 (makeV (l.getD 0 0) m1))] 63 true), (4, 0, .cells [(.slice (some ⟨0, (pre + 0), none⟩) 2 (c - 0)), (.int .i64 2), (.bool true), (.int .i64 3), (.int .u64 bb), (.int .i64 1), (.int .u64 0), (.int .u64 (makeV (l.getD 0 0) m1))] 31 true), (3, 0, .cells [(.int .u64 bb), (.int .i64 lg), (.int .i64 m0), (.int .i64 m1), (.int .u64 (l.getD 0 0)), (.int .i64 3), (.int .i64 0), (.int .u64 0), (.int .u64 0)] 82 true), (2, 0, .cells [(.int .i64 m0), (.int .i64 m1)] 55 true), (1, 0, .cells [(.int .u64 bb), (.int .i64 lg)] 54 true), (0, 0, .tail pre .u64 l e)]⟩⟩
theorem R76 (pre : Nat) (n : Nat) (c : Nat) (l : List Int) (m1 : Int) (bb : Int) (lg : Int) (m0 : Int) (e : TypeId) : evCK Try.prog cfgE (runK Try.prog cfgE fsE (conT grpDom grpE) 12 40) 12 (codeAt [1, 1, 1, 1, 0, 1, 0, 0, 1, 0, 0, 1, 1, 1, 0] B) (S86 pre n c l m1 bb lg m0 e) (normC 1 [2, 3, 4, 7, 12, 13, 14, 15, 16, 17, 18]) =
  some (.normal, (S87 pre n c bb l m1 lg m0 e)) := by kernel_rfl
noncomputable def S88 (pre : Nat) (n : Nat) (c : Nat) (bb : Int) (lg : Int) (m0 : Int) (m1 : Int) (l : List Int) (e : TypeId) : KSt := ⟨(frameL 135 [(2, (.slice (some ⟨0, pre, none⟩) n c)), (3, (.pointer (some ⟨1, 0, none⟩))), (4, (.pointer (some ⟨2, 0, none⟩))), (7, (.pointer (some ⟨3, 0, none⟩))), (12, (.int .i64 2)), (123, (.bool true))]), ⟨4, 1, [(3, 0, .cells [(.int .u64 bb), (.int .i64 lg), (.int .i64 m0), (.int .i64 m1), (.int .u64 (l.getD 0 0)), (.int .i64 3), (.int .i64 0), (.int .u64 0), (.int .u64 0)] 82 true), (2, 0, .cells [(.int .i64 m0), (.int .i64 m1)] 55 true), (1, 0, .cells [(.int .u64 bb), (.int .i64 lg)] 54 true), (0, 0, .tail pre .u64 l e)]⟩⟩
noncomputable def S89 (pre : Nat) (n : Nat) (c : Nat) (bb : Int) (lg : Int) (m0 : Int) (m1 : Int) (l : List Int) (e : TypeId) : KSt := ⟨(frameL 135 [(2, (.slice (some ⟨0, pre, none⟩) n c)), (3, (.pointer (some ⟨1, 0, none⟩))), (4, (.pointer (some ⟨2, 0, none⟩))), (7, (.pointer (some ⟨3, 0, none⟩))), (12, (.int .i64 2)), (123, (.bool false))]), ⟨4, 1, [(3, 0, .cells [(.int .u64 bb), (.int .i64 lg), (.int .i64 m0), (.int .i64 m1), (.int .u64 (l.getD 0 0)), (.int .i64 3), (.int .i64 0), (.int .u64 0), (.int .u64 0)] 82 true), (2, 0, .cells [(.int .i64 m0), (.int .i64 m1)] 55 true), (1, 0, .cells [(.int .u64 bb), (.int .i64 lg)] 54 true), (0, 0, .tail pre .u64 l e)]⟩⟩
theorem R77 (pre : Nat) (n : Nat) (c : Nat) (bb : Int) (l : List Int) (m1 : Int) (lg : Int) (m0 : Int) (e : TypeId) : evCK Try.prog cfgE (runK Try.prog cfgE fsE (conT grpDom grpE) 12 40) 12 (codeAt [1, 1, 1, 1, 0, 1, 0, 0, 1, 0, 0, 1, 1, 1, 1, 0, 0] B) (S87 pre n c bb l m1 lg m0 e) (normC 1 [2, 3, 4, 7, 12, 123]) =
  bif (!(true && ((bb == bb) && (true && (true && (((makeV ((l.getD 0 0)) m1) == (makeV (l.getD 0 0) m1)) && true)))))) then
    some (.normal, (S88 pre n c bb lg m0 m1 l e))
  else
    some (.normal, (S89 pre n c bb lg m0 m1 l e)) := by kernel_rfl
theorem R78 (pre : Nat) (n : Nat) (c : Nat) (bb : Int) (lg : Int) (m0 : Int) (m1 : Int) (l : List Int) (e : TypeId) : evCK Try.prog cfgE (runK Try.prog cfgE fsE (conT grpDom grpE) 12 40) 12 (codeAt [1, 1, 1, 1, 0, 1, 0, 0, 1, 0, 0, 1, 1, 1, 1, 0, 1, 1] B) (S89 pre n c bb lg m0 m1 l e) (normC 1 [2, 3, 4, 7, 12]) =
  some (.normal, (S62 pre n c bb lg m0 m1 l e)) := by kernel_rfl
noncomputable def S90 (pre : Nat) (n : Nat) (c : Nat) (bb : Int) (lg : Int) (m0 : Int) (m1 : Int) (l : List Int) (e : TypeId) : KSt := ⟨(frameL 135 [(2, (.slice (some ⟨0, pre, none⟩) n c)), (3, (.pointer (some ⟨1, 0, none⟩))), (4, (.pointer (some ⟨2, 0, none⟩))), (7, (.pointer (some ⟨3, 0, none⟩))), (12, (.int .i64 2)), (127, (.bool (decide (2 < ((n : Nat) : Int)))))]), ⟨4, 1, [(3, 0, .cells [(.int .u64 bb), (.int .i64 lg), (.int .i64 m0), (.int .i64 m1), (.int .u64 (l.getD 0 0)), (.int .i64 3), (.int .i64 0), (.int .u64 0), (.int .u64 0)] 82 true), (2, 0, .cells [(.int .i64 m0), (.int .i64 m1)] 55 true), (1, 0, .cells [(.int .u64 bb), (.int .i64 lg)] 54 true), (0, 0, .tail pre .u64 l e)]⟩⟩
theorem R79 (pre : Nat) (n : Nat) (c : Nat) (bb : Int) (lg : Int) (m0 : Int) (m1 : Int) (l : List Int) (e : TypeId) : evCK Try.prog cfgE (runK Try.prog cfgE fsE (conT grpDom grpE) 12 40) 12 (codeAt [1, 1, 1, 1, 0, 1, 0, 0, 1, 0, 0, 1, 1, 1, 1, 1, 0] B) (S62 pre n c bb lg m0 m1 l e) (normC 1 [2, 3, 4, 7, 12, 127]) =
  some (.normal, (S90 pre n c bb lg m0 m1 l e)) := by kernel_rfl
noncomputable def S91 (pre : Nat) (n : Nat) (c : Nat) (bb : Int) (lg : Int) (m0 : Int) (m1 : Int) (l : List Int) (e : TypeId) : KSt := ⟨(frameL 135 [(2, (.slice (some ⟨0, pre, none⟩) n c)), (3, (.pointer (some ⟨1, 0, none⟩))), (4, (.pointer (some ⟨2, 0, none⟩))), (7, (.pointer (some ⟨3, 0, none⟩))), (12, (.int .i64 2))]), ⟨4, 1, [(3, 0, .cells [(.int .u64 bb), (.int .i64 lg), (.int .i64 m0), (.int .i64 m1), (.int .u64 (l.getD 0 0)), (.int .i64 0), (.int .i64 2), (.int .u64 (l.getD 0 0)), (.int .u64 (makeV ((l.getD 0 0)) m1))] 82 true), (2, 0, .cells [(.int .i64 m0), (.int .i64 m1)] 55 true), (1, 0, .cells [(.int .u64 bb), (.int .i64 lg)] 54 true), (0, 0, .tail pre .u64 l e)]⟩⟩
noncomputable def S92 (pre : Nat) (n : Nat) (c : Nat) (bb : Int) (lg : Int) (m0 : Int) (m1 : Int) (l : List Int) (n1 : Int) (e : TypeId) : KSt := ⟨(frameL 135 [(2, (.slice (some ⟨0, pre, none⟩) n c)), (3, (.pointer (some ⟨1, 0, none⟩))), (4, (.pointer (some ⟨2, 0, none⟩))), (7, (.pointer (some ⟨3, 0, none⟩))), (12, (.int .i64 2))]), ⟨4, 1, [(3, 0, .cells [(.int .u64 bb), (.int .i64 lg), (.int .i64 m0), (.int .i64 m1), (.int .u64 (l.getD 0 0)), (.int .i64 4), (.int .i64 3), (.int .u64 0), (.int .u64 n1)] 82 true), (2, 0, .cells [(.int .i64 m0), (.int .i64 m1)] 55 true), (1, 0, .cells [(.int .u64 bb), (.int .i64 lg)] 54 true), (0, 0, .tail pre .u64 l e)]⟩⟩
theorem R80 (pre : Nat) (n : Nat) (c : Nat) (bb : Int) (lg : Int) (m0 : Int) (m1 : Int) (l : List Int) (e : TypeId) : evCK Try.prog cfgE (runK Try.prog cfgE fsE (conT grpDom grpE) 12 40) 12 (codeAt [1, 1, 1, 1, 0, 1, 0, 0, 1, 0, 0, 1, 1, 1, 1, 1, 1, 0] B) (S90 pre n c bb lg m0 m1 l e) (normC 1 [2, 3, 4, 7, 12]) =
  if (0 : Int) ≤ 2 ∧ 2 < ((n : Nat) : Int) then
    bif (Nat.ble pre (pre + 2)) then
      obind (l[((pre + 2) - pre)]?) fun n1 =>
        bif (n1 == 0) then
          some (.normal, (S91 pre n c bb lg m0 m1 l e))
        else
          some (.normal, (S92 pre n c bb lg m0 m1 l n1 e))
    else
      none
  else
    none := by kernel_rfl
noncomputable def S93 (pre : Nat) (n : Nat) (c : Nat) (bb : Int) (lg : Int) (m0 : Int) (m1 : Int) (l : List Int) (e : TypeId) : KSt := ⟨(frameL 135 [(2, (.slice (some ⟨0, pre, none⟩) n c)), (3, (.pointer (some ⟨1, 0, none⟩))), (4, (.pointer (some ⟨2, 0, none⟩))), (7, (.pointer (some ⟨3, 0, none⟩))), (12, (.int .i64 2))]), ⟨4, 1, [(3, 0, .cells [(.int .u64 bb), (.int .i64 lg), (.int .i64 m0), (.int .i64 m1), (.int .u64 (l.getD 0 0)), (.int .i64 0), (.int .i64 2), (.int .u64 (l.getD 0 0)), (.int .u64 (makeV (l.getD 0 0) m1))] 82 true), (2, 0, .cells [(.int .i64 m0), (.int .i64 m1)] 55 true), (1, 0, .cells [(.int .u64 bb), (.int .i64 lg)] 54 true), (0, 0, .tail pre .u64 l e)]⟩⟩
noncomputable def S94 (pre : Nat) (n : Nat) (c : Nat) (bb : Int) (lg : Int) (m0 : Int) (m1 : Int) (l : List Int) (e : TypeId) : KSt := ⟨(frameL 135 [(2, (.slice (some ⟨0, pre, none⟩) n c)), (3, (.pointer (some ⟨1, 0, none⟩))), (4, (.pointer (some ⟨2, 0, none⟩))), (7, (.pointer (some ⟨3, 0, none⟩))), (12, (.int .i64 3))]), ⟨4, 1, [(3, 0, .cells [(.int .u64 bb), (.int .i64 lg), (.int .i64 m0), (.int .i64 m1), (.int .u64 (l.getD 0 0)), (.int .i64 0), (.int .i64 2), (.int .u64 (l.getD 0 0)), (.int .u64 (makeV (l.getD 0 0) m1))] 82 true), (2, 0, .cells [(.int .i64 m0), (.int .i64 m1)] 55 true), (1, 0, .cells [(.int .u64 bb), (.int .i64 lg)] 54 true), (0, 0, .tail pre .u64 l e)]⟩⟩
theorem R81 (pre : Nat) (n : Nat) (c : Nat) (bb : Int) (lg : Int) (m0 : Int) (m1 : Int) (l : List Int) (e : TypeId) : evCK Try.prog cfgE (runK Try.prog cfgE fsE (conT grpDom grpE) 12 40) 12 (codeAt [1, 1, 1, 1, 0, 1, 0, 0, 1, 1] B) (S93 pre n c bb lg m0 m1 l e) (normC 1 [2, 3, 4, 7, 12]) =
  some (.normal, (S94 pre n c bb lg m0 m1 l e)) := by kernel_rfl
theorem lp6m_20 (bb lg m0 m1 g gl : Int) (i : Int) (pre n c : Nat) (l : List Int) (e : TypeId) (hb : 0 ≤ bb) (hm : -9223372036854775808 ≤ m1 ∧ m1 < 9223372036854775808) (hg : groupsV m0 = g) (hg1 : 0 ≤ g) (hg2 : g ≤ 512) (hgl : groupsV lg = gl) (hgl1 : 0 ≤ gl) (hn20 : n ≤ 20) (hc : n ≤ c) (hc2 : c ≤ 9223372036854775807) (hl : l.length = c) (hc0 : 0 < c) (h1 : bb ≠ 0) (h2 : 0 < gl) (h3 : 0 < g) (hn : 2 < (n : Int))  (q1 : ((l.getD 0 0) == 0) = false) (q2 : ((l.getD 2 0) == 0) = true) {Q : Ex → St → Prop} (hq : Q .normal (KSt.low (S94 pre n c bb lg m0 m1 l e))) : Gets Try.prog (KH.low ⟨1, 1, [(0, 0, .tail pre .u64 l e)]⟩) (codeAt [1, 1, 1, 1, 0, 1, 0, 0] B) (KSt.low (S62 pre n c bb lg m0 m1 l e)) Q := by
  rw [C1_1_1_1_0_1_0_0]; refine Gets.seq ?_
  rw [C1_1_1_1_0_1_0_0_0]; refine Gets.seq ?_
  refine Gets.ofN fitE grp_sound (conT_agree _ _) 12 40 (by kernel_rfl) (x := .normal) (s' := (S78 pre n c bb lg m0 m1 l e)) (R71 pre n c bb lg m0 m1 l e) ?_
  show Gets _ _ (codeAt [1, 1, 1, 1, 0, 1, 0, 0, 0, 1] B) _ _
  rw [C1_1_1_1_0_1_0_0_0_1]; refine Gets.cond true (by kernel_rfl) ((show evalX (KSt.ts (S78 pre n c bb lg m0 m1 l e)) (.tmp 60) = .bool (decide (2 ≤ ((n : Nat) : Int))) by kernel_rfl).trans (by rw [(show (decide (2 ≤ ((n : Nat) : Int))) = true from decide_eq_true (by omega))])) ?_; show Gets _ _ (codeAt [1, 1, 1, 1, 0, 1, 0, 0, 0, 1, 0] B) _ _
  refine Gets.ofN fitE grp_sound (conT_agree _ _) 12 40 (by kernel_rfl) (x := .normal) (s' := (S62 pre n c bb lg m0 m1 l e)) (R72 pre n c bb lg m0 m1 l e) ?_
  show Gets _ _ (codeAt [1, 1, 1, 1, 0, 1, 0, 0, 1] B) _ _
  rw [C1_1_1_1_0_1_0_0_1]; refine Gets.seq ?_
  rw [C1_1_1_1_0_1_0_0_1_0]; refine Gets.block ?_
  rw [C1_1_1_1_0_1_0_0_1_0_0]; refine Gets.seq ?_
  refine Gets.ofN fitE grp_sound (conT_agree _ _) 12 40 (by kernel_rfl) (x := .normal) (s' := (S80 pre n c bb lg m0 m1 l e)) ((R73 pre n c bb lg m0 m1 l e).trans (by rw [if_pos (⟨by omega, by omega⟩), condT (and_t (rfl) (ble_t (by omega))), condF (nbeq_f (by omega))])) ?_
  show Gets _ _ (codeAt [1, 1, 1, 1, 0, 1, 0, 0, 1, 0, 0, 1] B) _ _
  rw [C1_1_1_1_0_1_0_0_1_0_0_1]; refine Gets.seq ?_
  refine Gets.ofN fitE grp_sound (conT_agree _ _) 12 40 (by kernel_rfl) (x := .normal) (s' := (S84 pre n c l m1 bb lg m0 e)) ((R74 pre n c bb lg m0 m1 l e).trans (by rw [condF (ibeq_f (by ((try simp (disch := omega) only [hg, hgl, wrap_i64_id]) <;> omega))), condT (ble_t (by omega)), obind_at (k := 0) (by omega) (by omega), condF (q1), condT (ble_t (by omega)), obind_at (k := 1) (by omega) (by omega)] <;> (show some (Ex.normal, (S85 pre n c l m1 bb lg m0 e)) = some (Ex.normal, (S84 pre n c l m1 bb lg m0 e)); unfold S85 S84; rw [(show (makeRV (l.getD 0 0) m1) = (makeV (l.getD 0 0) m1) from makeRV_eq hm)]))) ?_
  show Gets _ _ (codeAt [1, 1, 1, 1, 0, 1, 0, 0, 1, 0, 0, 1, 1] B) _ _
  rw [C1_1_1_1_0_1_0_0_1_0_0_1_1]; refine Gets.seq ?_
  refine Gets.ofN fitE grp_sound (conT_agree _ _) 12 40 (by kernel_rfl) (x := .normal) (s' := (S86 pre n c l m1 bb lg m0 e)) (R75 pre n c l m1 bb lg m0 e) ?_
  show Gets _ _ (codeAt [1, 1, 1, 1, 0, 1, 0, 0, 1, 0, 0, 1, 1, 1] B) _ _
  rw [C1_1_1_1_0_1_0_0_1_0_0_1_1_1]; refine Gets.seq ?_
  refine Gets.ofN fitE grp_sound (conT_agree _ _) 12 40 (by kernel_rfl) (x := .normal) (s' := (S87 pre n c bb l m1 lg m0 e)) (R76 pre n c l m1 bb lg m0 e) ?_
  show Gets _ _ (codeAt [1, 1, 1, 1, 0, 1, 0, 0, 1, 0, 0, 1, 1, 1, 1] B) _ _
  rw [C1_1_1_1_0_1_0_0_1_0_0_1_1_1_1]; refine Gets.seq ?_
  rw [C1_1_1_1_0_1_0_0_1_0_0_1_1_1_1_0]; refine Gets.seq ?_
  refine Gets.ofN fitE grp_sound (conT_agree _ _) 12 40 (by kernel_rfl) (x := .normal) (s' := (S89 pre n c bb lg m0 m1 l e)) ((R77 pre n c bb l m1 lg m0 e).trans (by rw [condF (not_f (and_t (rfl) (and_t (beq_self_eq_true _) (and_t (rfl) (and_t (rfl) (and_t (beq_self_eq_true _) (rfl)))))))])) ?_
  show Gets _ _ (codeAt [1, 1, 1, 1, 0, 1, 0, 0, 1, 0, 0, 1, 1, 1, 1, 0, 1] B) _ _
  rw [C1_1_1_1_0_1_0_0_1_0_0_1_1_1_1_0_1]; refine Gets.cond false (by kernel_rfl) (show evalX (KSt.ts (S89 pre n c bb lg m0 m1 l e)) (.tmp 123) = .bool false by kernel_rfl) ?_; show Gets _ _ (codeAt [1, 1, 1, 1, 0, 1, 0, 0, 1, 0, 0, 1, 1, 1, 1, 0, 1, 1] B) _ _
  refine Gets.ofN fitE grp_sound (conT_agree _ _) 12 40 (by kernel_rfl) (x := .normal) (s' := (S62 pre n c bb lg m0 m1 l e)) (R78 pre n c bb lg m0 m1 l e) ?_
  show Gets _ _ (codeAt [1, 1, 1, 1, 0, 1, 0, 0, 1, 0, 0, 1, 1, 1, 1, 1] B) _ _
  rw [C1_1_1_1_0_1_0_0_1_0_0_1_1_1_1_1]; refine Gets.seq ?_
  refine Gets.ofN fitE grp_sound (conT_agree _ _) 12 40 (by kernel_rfl) (x := .normal) (s' := (S90 pre n c bb lg m0 m1 l e)) (R79 pre n c bb lg m0 m1 l e) ?_
  show Gets _ _ (codeAt [1, 1, 1, 1, 0, 1, 0, 0, 1, 0, 0, 1, 1, 1, 1, 1, 1] B) _ _
  rw [C1_1_1_1_0_1_0_0_1_0_0_1_1_1_1_1_1]; refine Gets.cond true (by kernel_rfl) ((show evalX (KSt.ts (S90 pre n c bb lg m0 m1 l e)) (.tmp 127) = .bool (decide (2 < ((n : Nat) : Int))) by kernel_rfl).trans (by rw [(show (decide (2 < ((n : Nat) : Int))) = true from decide_eq_true (by omega))])) ?_; show Gets _ _ (codeAt [1, 1, 1, 1, 0, 1, 0, 0, 1, 0, 0, 1, 1, 1, 1, 1, 1, 0] B) _ _
  refine Gets.ofN fitE grp_sound (conT_agree _ _) 12 40 (by kernel_rfl) (x := .normal) (s' := (S93 pre n c bb lg m0 m1 l e)) ((R80 pre n c bb lg m0 m1 l e).trans (by rw [if_pos (⟨by omega, by omega⟩), condT (ble_t (by omega)), obind_at (k := 2) (by omega) (by omega), condT (q2)] <;> rfl)) ?_
  show Gets _ _ (codeAt [1, 1, 1, 1, 0, 1, 0, 0, 1, 1] B) _ _
  refine Gets.ofN fitE grp_sound (conT_agree _ _) 12 40 (by kernel_rfl) (x := .normal) (s' := (S94 pre n c bb lg m0 m1 l e)) (R81 pre n c bb lg m0 m1 l e) ?_
  exact hq
noncomputable def S95 (pre : Nat) (n : Nat) (c : Nat) (bb : Int) (lg : Int) (m0 : Int) (m1 : Int) (l : List Int) (e : TypeId) : KSt := ⟨(frameL 135 [(2, (.slice (some ⟨0, pre, none⟩) n c)), (3, (.pointer (some ⟨1, 0, none⟩))), (4, (.pointer (some ⟨2, 0, none⟩))), (7, (.pointer (some ⟨3, 0, none⟩))), (12, (.int .i64 2))]), ⟨4, 1, [(3, 0, .cells [(.int .u64 bb), (.int .i64 lg), (.int .i64 m0), (.int .i64 m1), (.int .u64 (l.getD 0 0)), (.int .i64 4), (.int .i64 3), (.int .u64 0), (.int .u64 (l.getD 2 0))] 82 true), (2, 0, .cells [(.int .i64 m0), (.int .i64 m1)] 55 true), (1, 0, .cells [(.int .u64 bb), (.int .i64 lg)] 54 true), (0, 0, .tail pre .u64 l e)]⟩⟩
noncomputable def S96 (pre : Nat) (n : Nat) (c : Nat) (bb : Int) (lg : Int) (m0 : Int) (m1 : Int) (l : List Int) (e : TypeId) : KSt := ⟨(frameL 135 [(2, (.slice (some ⟨0, pre, none⟩) n c)), (3, (.pointer (some ⟨1, 0, none⟩))), (4, (.pointer (some ⟨2, 0, none⟩))), (7, (.pointer (some ⟨3, 0, none⟩))), (12, (.int .i64 3))]), ⟨4, 1, [(3, 0, .cells [(.int .u64 bb), (.int .i64 lg), (.int .i64 m0), (.int .i64 m1), (.int .u64 (l.getD 0 0)), (.int .i64 4), (.int .i64 3), (.int .u64 0), (.int .u64 (l.getD 2 0))] 82 true), (2, 0, .cells [(.int .i64 m0), (.int .i64 m1)] 55 true), (1, 0, .cells [(.int .u64 bb), (.int .i64 lg)] 54 true), (0, 0, .tail pre .u64 l e)]⟩⟩
theorem R82 (pre : Nat) (n : Nat) (c : Nat) (bb : Int) (lg : Int) (m0 : Int) (m1 : Int) (l : List Int) (e : TypeId) : evCK Try.prog cfgE (runK Try.prog cfgE fsE (conT grpDom grpE) 12 40) 12 (codeAt [1, 1, 1, 1, 0, 1, 0, 0, 1, 1] B) (S95 pre n c bb lg m0 m1 l e) (normC 1 [2, 3, 4, 7, 12]) =
  some (.normal, (S96 pre n c bb lg m0 m1 l e)) := by kernel_rfl
theorem lp6m_21 (bb lg m0 m1 g gl : Int) (i : Int) (pre n c : Nat) (l : List Int) (e : TypeId) (hb : 0 ≤ bb) (hm : -9223372036854775808 ≤ m1 ∧ m1 < 9223372036854775808) (hg : groupsV m0 = g) (hg1 : 0 ≤ g) (hg2 : g ≤ 512) (hgl : groupsV lg = gl) (hgl1 : 0 ≤ gl) (hn20 : n ≤ 20) (hc : n ≤ c) (hc2 : c ≤ 9223372036854775807) (hl : l.length = c) (hc0 : 0 < c) (h1 : bb ≠ 0) (h2 : 0 < gl) (h3 : 0 < g) (hn : 2 < (n : Int))  (q1 : ((l.getD 0 0) == 0) = false) (q2 : ((l.getD 2 0) == 0) = false) {Q : Ex → St → Prop} (hq : Q .normal (KSt.low (S96 pre n c bb lg m0 m1 l e))) : Gets Try.prog (KH.low ⟨1, 1, [(0, 0, .tail pre .u64 l e)]⟩) (codeAt [1, 1, 1, 1, 0, 1, 0, 0] B) (KSt.low (S62 pre n c bb lg m0 m1 l e)) Q := by
  rw [C1_1_1_1_0_1_0_0]; refine Gets.seq ?_
  rw [C1_1_1_1_0_1_0_0_0]; refine Gets.seq ?_
  refine Gets.ofN fitE grp_sound (conT_agree _ _) 12 40 (by kernel_rfl) (x := .normal) (s' := (S78 pre n c bb lg m0 m1 l e)) (R71 pre n c bb lg m0 m1 l e) ?_
  show Gets _ _ (codeAt [1, 1, 1, 1, 0, 1, 0, 0, 0, 1] B) _ _
  rw [C1_1_1_1_0_1_0_0_0_1]; refine Gets.cond true (by kernel_rfl) ((show evalX (KSt.ts (S78 pre n c bb lg m0 m1 l e)) (.tmp 60) = .bool (decide (2 ≤ ((n : Nat) : Int))) by kernel_rfl).trans (by rw [(show (decide (2 ≤ ((n : Nat) : Int))) = true from decide_eq_true (by omega))])) ?_; show Gets _ _ (codeAt [1, 1, 1, 1, 0, 1, 0, 0, 0, 1, 0] B) _ _
  refine Gets.ofN fitE grp_sound (conT_agree _ _) 12 40 (by kernel_rfl) (x := .normal) (s' := (S62 pre n c bb lg m0 m1 l e)) (R72 pre n c bb lg m0 m1 l e) ?_
  show Gets _ _ (codeAt [1, 1, 1, 1, 0, 1, 0, 0, 1] B) _ _
  rw [C1_1_1_1_0_1_0_0_1]; refine Gets.seq ?_
  rw [C1_1_1_1_0_1_0_0_1_0]; refine Gets.block ?_
  rw [C1_1_1_1_0_1_0_0_1_0_0]; refine Gets.seq ?_
  refine Gets.ofN fitE grp_sound (conT_agree _ _) 12 40 (by kernel_rfl) (x := .normal) (s' := (S80 pre n c bb lg m0 m1 l e)) ((R73 pre n c bb lg m0 m1 l e).trans (by rw [if_pos (⟨by omega, by omega⟩), condT (and_t (rfl) (ble_t (by omega))), condF (nbeq_f (by omega))])) ?_
  show Gets _ _ (codeAt [1, 1, 1, 1, 0, 1, 0, 0, 1, 0, 0, 1] B) _ _
  rw [C1_1_1_1_0_1_0_0_1_0_0_1]; refine Gets.seq ?_
  refine Gets.ofN fitE grp_sound (conT_agree _ _) 12 40 (by kernel_rfl) (x := .normal) (s' := (S84 pre n c l m1 bb lg m0 e)) ((R74 pre n c bb lg m0 m1 l e).trans (by rw [condF (ibeq_f (by ((try simp (disch := omega) only [hg, hgl, wrap_i64_id]) <;> omega))), condT (ble_t (by omega)), obind_at (k := 0) (by omega) (by omega), condF (q1), condT (ble_t (by omega)), obind_at (k := 1) (by omega) (by omega)] <;> (show some (Ex.normal, (S85 pre n c l m1 bb lg m0 e)) = some (Ex.normal, (S84 pre n c l m1 bb lg m0 e)); unfold S85 S84; rw [(show (makeRV (l.getD 0 0) m1) = (makeV (l.getD 0 0) m1) from makeRV_eq hm)]))) ?_
  show Gets _ _ (codeAt [1, 1, 1, 1, 0, 1, 0, 0, 1, 0, 0, 1, 1] B) _ _
  rw [C1_1_1_1_0_1_0_0_1_0_0_1_1]; refine Gets.seq ?_
  refine Gets.ofN fitE grp_sound (conT_agree _ _) 12 40 (by kernel_rfl) (x := .normal) (s' := (S86 pre n c l m1 bb lg m0 e)) (R75 pre n c l m1 bb lg m0 e) ?_
  show Gets _ _ (codeAt [1, 1, 1, 1, 0, 1, 0, 0, 1, 0, 0, 1, 1, 1] B) _ _
  rw [C1_1_1_1_0_1_0_0_1_0_0_1_1_1]; refine Gets.seq ?_
  refine Gets.ofN fitE grp_sound (conT_agree _ _) 12 40 (by kernel_rfl) (x := .normal) (s' := (S87 pre n c bb l m1 lg m0 e)) (R76 pre n c l m1 bb lg m0 e) ?_
  show Gets _ _ (codeAt [1, 1, 1, 1, 0, 1, 0, 0, 1, 0, 0, 1, 1, 1, 1] B) _ _
  rw [C1_1_1_1_0_1_0_0_1_0_0_1_1_1_1]; refine Gets.seq ?_
  rw [C1_1_1_1_0_1_0_0_1_0_0_1_1_1_1_0]; refine Gets.seq ?_
  refine Gets.ofN fitE grp_sound (conT_agree _ _) 12 40 (by kernel_rfl) (x := .normal) (s' := (S89 pre n c bb lg m0 m1 l e)) ((R77 pre n c bb l m1 lg m0 e).trans (by rw [condF (not_f (and_t (rfl) (and_t (beq_self_eq_true _) (and_t (rfl) (and_t (rfl) (and_t (beq_self_eq_true _) (rfl)))))))])) ?_
  show Gets _ _ (codeAt [1, 1, 1, 1, 0, 1, 0, 0, 1, 0, 0, 1, 1, 1, 1, 0, 1] B) _ _
  rw [C1_1_1_1_0_1_0_0_1_0_0_1_1_1_1_0_1]; refine Gets.cond false (by kernel_rfl) (show evalX (KSt.ts (S89 pre n c bb lg m0 m1 l e)) (.tmp 123) = .bool false by kernel_rfl) ?_; show Gets _ _ (codeAt [1, 1, 1, 1, 0, 1, 0, 0, 1, 0, 0, 1, 1, 1, 1, 0, 1, 1] B) _ _
  refine Gets.ofN fitE grp_sound (conT_agree _ _) 12 40 (by kernel_rfl) (x := .normal) (s' := (S62 pre n c bb lg m0 m1 l e)) (R78 pre n c bb lg m0 m1 l e) ?_
  show Gets _ _ (codeAt [1, 1, 1, 1, 0, 1, 0, 0, 1, 0, 0, 1, 1, 1, 1, 1] B) _ _
  rw [C1_1_1_1_0_1_0_0_1_0_0_1_1_1_1_1]; refine Gets.seq ?_
  refine Gets.ofN fitE grp_sound (conT_agree _ _) 12 40 (by kernel_rfl) (x := .normal) (s' := (S90 pre n c bb lg m0 m1 l e)) (R79 pre n c bb lg m0 m1 l e) ?_
  show Gets _ _ (codeAt [1, 1, 1, 1, 0, 1, 0, 0, 1, 0, 0, 1, 1, 1, 1, 1, 1] B) _ _
  rw [C1_1_1_1_0_1_0_0_1_0_0_1_1_1_1_1_1]; refine Gets.cond true (by kernel_rfl) ((show evalX (KSt.ts (S90 pre n c bb lg m0 m1 l e)) (.tmp 127) = .bool (decide (2 < ((n : Nat) : Int))) by kernel_rfl).trans (by rw [(show (decide (2 < ((n : Nat) : Int))) = true from decide_eq_true (by omega))])) ?_; show Gets _ _ (codeAt [1, 1, 1, 1, 0, 1, 0, 0, 1, 0, 0, 1, 1, 1, 1, 1, 1, 0] B) _ _
  refine Gets.ofN fitE grp_sound (conT_agree _ _) 12 40 (by kernel_rfl) (x := .normal) (s' := (S95 pre n c bb lg m0 m1 l e)) ((R80 pre n c bb lg m0 m1 l e).trans (by rw [if_pos (⟨by omega, by omega⟩), condT (ble_t (by omega)), obind_at (k := 2) (by omega) (by omega), condF (q2)] <;> rfl)) ?_
  show Gets _ _ (codeAt [1, 1, 1, 1, 0, 1, 0, 0, 1, 1] B) _ _
  refine Gets.ofN fitE grp_sound (conT_agree _ _) 12 40 (by kernel_rfl) (x := .normal) (s' := (S96 pre n c bb lg m0 m1 l e)) (R82 pre n c bb lg m0 m1 l e) ?_
  exact hq
theorem R83 (pre : Nat) (n : Nat) (c : Nat) (bb : Int) (lg : Int) (m0 : Int) (m1 : Int) (l : List Int) (e : TypeId) : evCK Try.prog cfgE (runK Try.prog cfgE fsE (conT grpDom grpE) 12 40) 12 (codeAt [1, 1, 1, 1, 0, 1, 0, 0, 1, 0, 0, 1, 1, 1, 1, 1, 1, 1] B) (S90 pre n c bb lg m0 m1 l e) (normC 1 [2, 3, 4, 7, 12]) =
  some (.normal, (S62 pre n c bb lg m0 m1 l e)) := by kernel_rfl
noncomputable def S97 (pre : Nat) (n : Nat) (c : Nat) (bb : Int) (lg : Int) (m0 : Int) (m1 : Int) (l : List Int) (e : TypeId) : KSt := ⟨(frameL 135 [(2, (.slice (some ⟨0, pre, none⟩) n c)), (3, (.pointer (some ⟨1, 0, none⟩))), (4, (.pointer (some ⟨2, 0, none⟩))), (7, (.pointer (some ⟨3, 0, none⟩))), (12, (.int .i64 3))]), ⟨4, 1, [(3, 0, .cells [(.int .u64 bb), (.int .i64 lg), (.int .i64 m0), (.int .i64 m1), (.int .u64 (l.getD 0 0)), (.int .i64 3), (.int .i64 0), (.int .u64 0), (.int .u64 0)] 82 true), (2, 0, .cells [(.int .i64 m0), (.int .i64 m1)] 55 true), (1, 0, .cells [(.int .u64 bb), (.int .i64 lg)] 54 true), (0, 0, .tail pre .u64 l e)]⟩⟩
theorem R84 (pre : Nat) (n : Nat) (c : Nat) (bb : Int) (lg : Int) (m0 : Int) (m1 : Int) (l : List Int) (e : TypeId) : evCK Try.prog cfgE (runK Try.prog cfgE fsE (conT grpDom grpE) 12 40) 12 (codeAt [1, 1, 1, 1, 0, 1, 0, 0, 1, 1] B) (S62 pre n c bb lg m0 m1 l e) (normC 1 [2, 3, 4, 7, 12]) =
  some (.normal, (S97 pre n c bb lg m0 m1 l e)) := by kernel_rfl
theorem lp6e_22 (bb lg m0 m1 g gl : Int) (i : Int) (pre n c : Nat) (l : List Int) (e : TypeId) (hb : 0 ≤ bb) (hm : -9223372036854775808 ≤ m1 ∧ m1 < 9223372036854775808) (hg : groupsV m0 = g) (hg1 : 0 ≤ g) (hg2 : g ≤ 512) (hgl : groupsV lg = gl) (hgl1 : 0 ≤ gl) (hn20 : n ≤ 20) (hc : n ≤ c) (hc2 : c ≤ 9223372036854775807) (hl : l.length = c) (hc0 : 0 < c) (h1 : bb ≠ 0) (h2 : 0 < gl) (h3 : 0 < g) (hn : 2 = (n : Int))  (q1 : ((l.getD 0 0) == 0) = false) {Q : Ex → St → Prop} (hq : Q .normal (KSt.low (S97 pre n c bb lg m0 m1 l e))) : Gets Try.prog (KH.low ⟨1, 1, [(0, 0, .tail pre .u64 l e)]⟩) (codeAt [1, 1, 1, 1, 0, 1, 0, 0] B) (KSt.low (S62 pre n c bb lg m0 m1 l e)) Q := by
  rw [C1_1_1_1_0_1_0_0]; refine Gets.seq ?_
  rw [C1_1_1_1_0_1_0_0_0]; refine Gets.seq ?_
  refine Gets.ofN fitE grp_sound (conT_agree _ _) 12 40 (by kernel_rfl) (x := .normal) (s' := (S78 pre n c bb lg m0 m1 l e)) (R71 pre n c bb lg m0 m1 l e) ?_
  show Gets _ _ (codeAt [1, 1, 1, 1, 0, 1, 0, 0, 0, 1] B) _ _
  rw [C1_1_1_1_0_1_0_0_0_1]; refine Gets.cond true (by kernel_rfl) ((show evalX (KSt.ts (S78 pre n c bb lg m0 m1 l e)) (.tmp 60) = .bool (decide (2 ≤ ((n : Nat) : Int))) by kernel_rfl).trans (by rw [(show (decide (2 ≤ ((n : Nat) : Int))) = true from decide_eq_true (by omega))])) ?_; show Gets _ _ (codeAt [1, 1, 1, 1, 0, 1, 0, 0, 0, 1, 0] B) _ _
  refine Gets.ofN fitE grp_sound (conT_agree _ _) 12 40 (by kernel_rfl) (x := .normal) (s' := (S62 pre n c bb lg m0 m1 l e)) (R72 pre n c bb lg m0 m1 l e) ?_
  show Gets _ _ (codeAt [1, 1, 1, 1, 0, 1, 0, 0, 1] B) _ _
  rw [C1_1_1_1_0_1_0_0_1]; refine Gets.seq ?_
  rw [C1_1_1_1_0_1_0_0_1_0]; refine Gets.block ?_
  rw [C1_1_1_1_0_1_0_0_1_0_0]; refine Gets.seq ?_
  refine Gets.ofN fitE grp_sound (conT_agree _ _) 12 40 (by kernel_rfl) (x := .normal) (s' := (S80 pre n c bb lg m0 m1 l e)) ((R73 pre n c bb lg m0 m1 l e).trans (by rw [if_pos (⟨by omega, by omega⟩), condT (and_t (rfl) (ble_t (by omega))), condF (nbeq_f (by omega))])) ?_
  show Gets _ _ (codeAt [1, 1, 1, 1, 0, 1, 0, 0, 1, 0, 0, 1] B) _ _
  rw [C1_1_1_1_0_1_0_0_1_0_0_1]; refine Gets.seq ?_
  refine Gets.ofN fitE grp_sound (conT_agree _ _) 12 40 (by kernel_rfl) (x := .normal) (s' := (S84 pre n c l m1 bb lg m0 e)) ((R74 pre n c bb lg m0 m1 l e).trans (by rw [condF (ibeq_f (by ((try simp (disch := omega) only [hg, hgl, wrap_i64_id]) <;> omega))), condT (ble_t (by omega)), obind_at (k := 0) (by omega) (by omega), condF (q1), condT (ble_t (by omega)), obind_at (k := 1) (by omega) (by omega)] <;> (show some (Ex.normal, (S85 pre n c l m1 bb lg m0 e)) = some (Ex.normal, (S84 pre n c l m1 bb lg m0 e)); unfold S85 S84; rw [(show (makeRV (l.getD 0 0) m1) = (makeV (l.getD 0 0) m1) from makeRV_eq hm)]))) ?_
  show Gets _ _ (codeAt [1, 1, 1, 1, 0, 1, 0, 0, 1, 0, 0, 1, 1] B) _ _
  rw [C1_1_1_1_0_1_0_0_1_0_0_1_1]; refine Gets.seq ?_
  refine Gets.ofN fitE grp_sound (conT_agree _ _) 12 40 (by kernel_rfl) (x := .normal) (s' := (S86 pre n c l m1 bb lg m0 e)) (R75 pre n c l m1 bb lg m0 e) ?_
  show Gets _ _ (codeAt [1, 1, 1, 1, 0, 1, 0, 0, 1, 0, 0, 1, 1, 1] B) _ _
  rw [C1_1_1_1_0_1_0_0_1_0_0_1_1_1]; refine Gets.seq ?_
  refine Gets.ofN fitE grp_sound (conT_agree _ _) 12 40 (by kernel_rfl) (x := .normal) (s' := (S87 pre n c bb l m1 lg m0 e)) (R76 pre n c l m1 bb lg m0 e) ?_
  show Gets _ _ (codeAt [1, 1, 1, 1, 0, 1, 0, 0, 1, 0, 0, 1, 1, 1, 1] B) _ _
  rw [C1_1_1_1_0_1_0_0_1_0_0_1_1_1_1]; refine Gets.seq ?_
  rw [C1_1_1_1_0_1_0_0_1_0_0_1_1_1_1_0]; refine Gets.seq ?_
  refine Gets.ofN fitE grp_sound (conT_agree _ _) 12 40 (by kernel_rfl) (x := .normal) (s' := (S89 pre n c bb lg m0 m1 l e)) ((R77 pre n c bb l m1 lg m0 e).trans (by rw [condF (not_f (and_t (rfl) (and_t (beq_self_eq_true _) (and_t (rfl) (and_t (rfl) (and_t (beq_self_eq_true _) (rfl)))))))])) ?_
  show Gets _ _ (codeAt [1, 1, 1, 1, 0, 1, 0, 0, 1, 0, 0, 1, 1, 1, 1, 0, 1] B) _ _
  rw [C1_1_1_1_0_1_0_0_1_0_0_1_1_1_1_0_1]; refine Gets.cond false (by kernel_rfl) (show evalX (KSt.ts (S89 pre n c bb lg m0 m1 l e)) (.tmp 123) = .bool false by kernel_rfl) ?_; show Gets _ _ (codeAt [1, 1, 1, 1, 0, 1, 0, 0, 1, 0, 0, 1, 1, 1, 1, 0, 1, 1] B) _ _
  refine Gets.ofN fitE grp_sound (conT_agree _ _) 12 40 (by kernel_rfl) (x := .normal) (s' := (S62 pre n c bb lg m0 m1 l e)) (R78 pre n c bb lg m0 m1 l e) ?_
  show Gets _ _ (codeAt [1, 1, 1, 1, 0, 1, 0, 0, 1, 0, 0, 1, 1, 1, 1, 1] B) _ _
  rw [C1_1_1_1_0_1_0_0_1_0_0_1_1_1_1_1]; refine Gets.seq ?_
  refine Gets.ofN fitE grp_sound (conT_agree _ _) 12 40 (by kernel_rfl) (x := .normal) (s' := (S90 pre n c bb lg m0 m1 l e)) (R79 pre n c bb lg m0 m1 l e) ?_
  show Gets _ _ (codeAt [1, 1, 1, 1, 0, 1, 0, 0, 1, 0, 0, 1, 1, 1, 1, 1, 1] B) _ _
  rw [C1_1_1_1_0_1_0_0_1_0_0_1_1_1_1_1_1]; refine Gets.cond false (by kernel_rfl) ((show evalX (KSt.ts (S90 pre n c bb lg m0 m1 l e)) (.tmp 127) = .bool (decide (2 < ((n : Nat) : Int))) by kernel_rfl).trans (by rw [(show (decide (2 < ((n : Nat) : Int))) = false from decide_eq_false (by omega))])) ?_; show Gets _ _ (codeAt [1, 1, 1, 1, 0, 1, 0, 0, 1, 0, 0, 1, 1, 1, 1, 1, 1, 1] B) _ _
  refine Gets.ofN fitE grp_sound (conT_agree _ _) 12 40 (by kernel_rfl) (x := .normal) (s' := (S62 pre n c bb lg m0 m1 l e)) (R83 pre n c bb lg m0 m1 l e) ?_
  show Gets _ _ (codeAt [1, 1, 1, 1, 0, 1, 0, 0, 1, 1] B) _ _
  refine Gets.ofN fitE grp_sound (conT_agree _ _) 12 40 (by kernel_rfl) (x := .normal) (s' := (S97 pre n c bb lg m0 m1 l e)) (R84 pre n c bb lg m0 m1 l e) ?_
  exact hq
noncomputable def S98 (pre : Nat) (n : Nat) (c : Nat) (i : Int) (bb : Int) (lg : Int) (m0 : Int) (m1 : Int) (l : List Int) (e : TypeId) : KSt := ⟨(frameL 135 [(2, (.slice (some ⟨0, pre, none⟩) n c)), (3, (.pointer (some ⟨1, 0, none⟩))), (4, (.pointer (some ⟨2, 0, none⟩))), (7, (.pointer (some ⟨3, 0, none⟩))), (12, (.int .i64 i))]), ⟨4, 1, [(3, 0, .cells [(.int .u64 bb), (.int .i64 lg), (.int .i64 m0), (.int .i64 m1), (.int .u64 (l.getD 0 0)), (.int .i64 3), (.int .i64 0), (.int .u64 0), (.int .u64 0)] 82 true), (2, 0, .cells [(.int .i64 m0), (.int .i64 m1)] 55 true), (1, 0, .cells [(.int .u64 bb), (.int .i64 lg)] 54 true), (0, 0, .tail pre .u64 l e)]⟩⟩
noncomputable def S99 (pre : Nat) (n : Nat) (c : Nat) (i : Int) (bb : Int) (lg : Int) (m0 : Int) (m1 : Int) (l : List Int) (e : TypeId) : KSt := ⟨(frameL 135 [(2, (.slice (some ⟨0, pre, none⟩) n c)), (3, (.pointer (some ⟨1, 0, none⟩))), (4, (.pointer (some ⟨2, 0, none⟩))), (7, (.pointer (some ⟨3, 0, none⟩))), (12, (.int .i64 i)), (60, (.bool (decide (i ≤ ((n : Nat) : Int)))))]), ⟨4, 1, [(3, 0, .cells [(.int .u64 bb), (.int .i64 lg), (.int .i64 m0), (.int .i64 m1), (.int .u64 (l.getD 0 0)), (.int .i64 2), (.int .i64 0), (.int .u64 0), (.int .u64 0)] 82 true), (2, 0, .cells [(.int .i64 m0), (.int .i64 m1)] 55 true), (1, 0, .cells [(.int .u64 bb), (.int .i64 lg)] 54 true), (0, 0, .tail pre .u64 l e)]⟩⟩
theorem R85 (pre : Nat) (n : Nat) (c : Nat) (i : Int) (bb : Int) (lg : Int) (m0 : Int) (m1 : Int) (l : List Int) (e : TypeId) : evCK Try.prog cfgE (runK Try.prog cfgE fsE (conT grpDom grpE) 12 40) 12 (codeAt [1, 1, 1, 1, 0, 1, 0, 0, 0, 0] B) (S64 pre n c i bb lg m0 m1 l e) (normC 1 [2, 3, 4, 7, 12, 60]) =
  some (.normal, (S99 pre n c i bb lg m0 m1 l e)) := by kernel_rfl
theorem lp7x_23 (bb lg m0 m1 g gl : Int) (i : Int) (pre n c : Nat) (l : List Int) (e : TypeId) (hx : (n : Int) < i)   {Q : Ex → St → Prop} (hq : Q (.exit 0) (KSt.low (S99 pre n c i bb lg m0 m1 l e))) : Gets Try.prog (KH.low ⟨1, 1, [(0, 0, .tail pre .u64 l e)]⟩) (codeAt [1, 1, 1, 1, 0, 1, 0, 0] B) (KSt.low (S64 pre n c i bb lg m0 m1 l e)) Q := by
  rw [C1_1_1_1_0_1_0_0]; refine Gets.seq ?_
  rw [C1_1_1_1_0_1_0_0_0]; refine Gets.seq ?_
  refine Gets.ofN fitE grp_sound (conT_agree _ _) 12 40 (by kernel_rfl) (x := .normal) (s' := (S99 pre n c i bb lg m0 m1 l e)) (R85 pre n c i bb lg m0 m1 l e) ?_
  show Gets _ _ (codeAt [1, 1, 1, 1, 0, 1, 0, 0, 0, 1] B) _ _
  rw [C1_1_1_1_0_1_0_0_0_1]; refine Gets.cond false (by kernel_rfl) ((show evalX (KSt.ts (S99 pre n c i bb lg m0 m1 l e)) (.tmp 60) = .bool (decide (i ≤ ((n : Nat) : Int))) by kernel_rfl).trans (by rw [(show (decide (i ≤ ((n : Nat) : Int))) = false from decide_eq_false (by omega))])) ?_; show Gets _ _ (codeAt [1, 1, 1, 1, 0, 1, 0, 0, 0, 1, 1] B) _ _
  rw [C1_1_1_1_0_1_0_0_0_1_1]; refine Gets.ev fitE.mix fitE.cfg (fitE.sound grp_sound 12 0) 12 rfl (s' := KSt.low (S99 pre n c i bb lg m0 m1 l e)) (x := (.exit 0)) rfl ?_
  exact hq
theorem R86 (pre : Nat) (n : Nat) (c : Nat) (i : Int) (bb : Int) (lg : Int) (m0 : Int) (m1 : Int) (l : List Int) (e : TypeId) : evCK Try.prog cfgE (runK Try.prog cfgE fsE (conT grpDom grpE) 12 40) 12 (codeAt [1, 1, 1, 1, 1, 0] B) (S99 pre n c i bb lg m0 m1 l e) (normC 1 [6]) =
  some (.normal, (S3 pre l e)) := by kernel_rfl
theorem lp7f_24 (bb lg m0 m1 g gl : Int) (i : Int) (pre n c : Nat) (l : List Int) (e : TypeId)   {Q : Ex → St → Prop} (hq : Q .ret (KSt.low (S3 pre l e))) : Gets Try.prog (KH.low ⟨1, 1, [(0, 0, .tail pre .u64 l e)]⟩) (codeAt [1, 1, 1, 1, 1] B) (KSt.low (S99 pre n c i bb lg m0 m1 l e)) Q := by
  rw [C1_1_1_1_1]; refine Gets.seq ?_
  refine Gets.ofN fitE grp_sound (conT_agree _ _) 12 40 (by kernel_rfl) (x := .normal) (s' := (S3 pre l e)) (R86 pre n c i bb lg m0 m1 l e) ?_
  show Gets _ _ (codeAt [1, 1, 1, 1, 1, 1] B) _ _
  rw [C1_1_1_1_1_1]; refine Gets.ev fitE.mix fitE.cfg (fitE.sound grp_sound 12 0) 12 rfl (s' := KSt.low (S3 pre l e)) (x := .ret) rfl ?_
  exact hq
noncomputable def S100 (pre : Nat) (n : Nat) (c : Nat) (bb : Int) (lg : Int) (m0 : Int) (m1 : Int) (l : List Int) (e : TypeId) : KSt := ⟨(frameL 135 [(2, (.slice (some ⟨0, pre, none⟩) n c)), (3, (.pointer (some ⟨1, 0, none⟩))), (4, (.pointer (some ⟨2, 0, none⟩))), (7, (.pointer (some ⟨3, 0, none⟩))), (12, (.int .i64 3)), (60, (.bool (decide (3 ≤ ((n : Nat) : Int)))))]), ⟨4, 1, [(3, 0, .cells [(.int .u64 bb), (.int .i64 lg), (.int .i64 m0), (.int .i64 m1), (.int .u64 (l.getD 0 0)), (.int .i64 0), (.int .i64 1), (.int .u64 0), (.int .u64 0)] 82 true), (2, 0, .cells [(.int .i64 m0), (.int .i64 m1)] 55 true), (1, 0, .cells [(.int .u64 bb), (.int .i64 lg)] 54 true), (0, 0, .tail pre .u64 l e)]⟩⟩
theorem R87 (pre : Nat) (n : Nat) (c : Nat) (bb : Int) (lg : Int) (m0 : Int) (m1 : Int) (l : List Int) (e : TypeId) : evCK Try.prog cfgE (runK Try.prog cfgE fsE (conT grpDom grpE) 12 40) 12 (codeAt [1, 1, 1, 1, 0, 1, 0, 0, 0, 0] B) (S76 pre n c bb lg m0 m1 l e) (normC 1 [2, 3, 4, 7, 12, 60]) =
  some (.normal, (S100 pre n c bb lg m0 m1 l e)) := by kernel_rfl
theorem R88 (pre : Nat) (n : Nat) (c : Nat) (bb : Int) (lg : Int) (m0 : Int) (m1 : Int) (l : List Int) (e : TypeId) : evCK Try.prog cfgE (runK Try.prog cfgE fsE (conT grpDom grpE) 12 40) 12 (codeAt [1, 1, 1, 1, 0, 1, 0, 0, 0, 1, 0] B) (S100 pre n c bb lg m0 m1 l e) (normC 1 [2, 3, 4, 7, 12]) =
  some (.normal, (S76 pre n c bb lg m0 m1 l e)) := by kernel_rfl
noncomputable def S101 (pre : Nat) (n : Nat) (c : Nat) (bb : Int) (lg : Int) (m0 : Int) (m1 : Int) (l : List Int) (e : TypeId) : KSt := ⟨(frameL 135 [(2, (.slice (some ⟨0, pre, none⟩) n c)), (3, (.pointer (some ⟨1, 0, none⟩))), (4, (.pointer (some ⟨2, 0, none⟩))), (7, (.pointer (some ⟨3, 0, none⟩))), (12, (.int .i64 3)), (13, (.pointer (some ⟨4, 0, none⟩)))]), ⟨5, 1, [(4, 0, .cells [(.slice (some ⟨0, pre, none⟩) 3 (c - 0)), (.int .i64 0), (.bool false), (.int .i64 0), (.int .u64 0), (.int .i64 0), (.int .u64 0), (.int .u64 0)] 31 true), (3, 0, .cells [(.int .u64 bb), (.int .i64 lg), (.int .i64 m0), (.int .i64 m1), (.int .u64 (l.getD 0 0)), (.int .i64 0), (.int .i64 1), (.int .u64 0), (.int .u64 0)] 82 true), (2, 0, .cells [(.int .i64 m0), (.int .i64 m1)] 55 true), (1, 0, .cells [(.int .u64 bb), (.int .i64 lg)] 54 true), (0, 0, .tail pre .u64 l e)]⟩⟩
noncomputable def S102 (pre : Nat) (n : Nat) (c : Nat) (bb : Int) (lg : Int) (m0 : Int) (m1 : Int) (l : List Int) (e : TypeId) : KSt := ⟨(frameL 135 [(2, (.slice (some ⟨0, pre, none⟩) n c)), (3, (.pointer (some ⟨1, 0, none⟩))), (4, (.pointer (some ⟨2, 0, none⟩))), (7, (.pointer (some ⟨3, 0, none⟩))), (12, (.int .i64 3)), (13, (.pointer (some ⟨4, 0, none⟩)))]), ⟨5, 1, [(4, 0, .cells [(.slice (some ⟨0, (pre + 0), none⟩) 3 (c - 0)), (.int .i64 0), (.bool false), (.int .i64 0), (.int .u64 0), (.int .i64 0), (.int .u64 0), (.int .u64 0)] 31 true), (3, 0, .cells [(.int .u64 bb), (.int .i64 lg), (.int .i64 m0), (.int .i64 m1), (.int .u64 (l.getD 0 0)), (.int .i64 0), (.int .i64 1), (.int .u64 0), (.int .u64 0)] 82 true), (2, 0, .cells [(.int .i64 m0), (.int .i64 m1)] 55 true), (1, 0, .cells [(.int .u64 bb), (.int .i64 lg)] 54 true), (0, 0, .tail pre .u64 l e)]⟩⟩
theorem R89 (pre : Nat) (n : Nat) (c : Nat) (bb : Int) (lg : Int) (m0 : Int) (m1 : Int) (l : List Int) (e : TypeId) : evCK Try.prog cfgE (runK Try.prog cfgE fsE (conT grpDom grpE) 12 40) 12 (codeAt [1, 1, 1, 1, 0, 1, 0, 0, 1, 0, 0, 0] B) (S76 pre n c bb lg m0 m1 l e) (normC 1 [2, 3, 4, 7, 12, 13]) =
  if (0 : Int) ≤ 3 ∧ 3 ≤ ((c : Nat) : Int) then
    bif (true && (Nat.ble 3 c)) then
      bif (Nat.beq c 0) then
        some (.normal, (S101 pre n c bb lg m0 m1 l e))
      else
        some (.normal, (S102 pre n c bb lg m0 m1 l e))
    else
      none
  else
    none := by kernel_rfl
noncomputable def S103 (pre : Nat) (n : Nat) (c : Nat) (bb : Int) (lg : Int) (m0 : Int) (m1 : Int) (l : List Int) (e : TypeId) : KSt := ⟨(frameL 135 [(2, (.slice (some ⟨0, pre, none⟩) n c)), (3, (.pointer (some ⟨1, 0, none⟩))), (4, (.pointer (some ⟨2, 0, none⟩))), (7, (.pointer (some ⟨3, 0, none⟩))), (12, (.int .i64 3)), (13, (.pointer (some ⟨4, 0, none⟩))), (14, (.pointer (some ⟨5, 0, none⟩)))]), ⟨6, 1, [(5, 0, .cells [(.int .i64 1), (.int .u64 0), (.int .u64 0)] 63 true), (4, 0, .cells [(.slice (some ⟨0, (pre + 0), none⟩) 3 (c - 0)), (.int .i64 1), (.bool false), (.int .i64 0), (.int .u64 0), (.int .i64 0), (.int .u64 0), (.int .u64 0)] 31 true), (3, 0, .cells [(.int .u64 bb), (.int .i64 lg), (.int .i64 m0), (.int .i64 m1), (.int .u64 (l.getD 0 0)), (.int .i64 0), (.int .i64 1), (.int .u64 0), (.int .u64 0)] 82 true), (2, 0, .cells [(.int .i64 m0), (.int .i64 m1)] 55 true), (1, 0, .cells [(.int .u64 bb), (.int .i64 lg)] 54 true), (0, 0, .tail pre .u64 l e)]⟩⟩
noncomputable def S104 (pre : Nat) (n : Nat) (c : Nat) (n1 : Int) (m1 : Int) (bb : Int) (lg : Int) (m0 : Int) (l : List Int) (e : TypeId) : KSt := ⟨(frameL 135 [(2, (.slice (some ⟨0, pre, none⟩) n c)), (3, (.pointer (some ⟨1, 0, none⟩))), (4, (.pointer (some ⟨2, 0, none⟩))), (7, (.pointer (some ⟨3, 0, none⟩))), (12, (.int .i64 3)), (13, (.pointer (some ⟨4, 0, none⟩))), (14, (.pointer (some ⟨5, 0, none⟩)))]), ⟨6, 1, [(5, 0, .cells [(.int .i64 2), (.int .u64 n1), (.int .u64 (makeRV n1 m1))] 63 true), (4, 0, .cells [(.slice (some ⟨0, (pre + 0), none⟩) 3 (c - 0)), (.int .i64 3), (.bool false), (.int .i64 0), (.int .u64 0), (.int .i64 0), (.int .u64 0), (.int .u64 0)] 31 true), (3, 0, .cells [(.int .u64 bb), (.int .i64 lg), (.int .i64 m0), (.int .i64 m1), (.int .u64 (l.getD 0 0)), (.int .i64 0), (.int .i64 1), (.int .u64 0), (.int .u64 0)] 82 true), (2, 0, .cells [(.int .i64 m0), (.int .i64 m1)] 55 true), (1, 0, .cells [(.int .u64 bb), (.int .i64 lg)] 54 true), (0, 0, .tail pre .u64 l e)]⟩⟩
noncomputable def S105 (pre : Nat) (n : Nat) (c : Nat) (n3 : Int) (n1 : Int) (bb : Int) (lg : Int) (m0 : Int) (m1 : Int) (l : List Int) (e : TypeId) : KSt := ⟨(frameL 135 [(2, (.slice (some ⟨0, pre, none⟩) n c)), (3, (.pointer (some ⟨1, 0, none⟩))), (4, (.pointer (some ⟨2, 0, none⟩))), (7, (.pointer (some ⟨3, 0, none⟩))), (12, (.int .i64 3)), (13, (.pointer (some ⟨4, 0, none⟩))), (14, (.pointer (some ⟨5, 0, none⟩)))]), ⟨6, 1, [(5, 0, .cells [(.int .i64 3), (.int .u64 0), (.int .u64 n3)] 63 true), (4, 0, .cells [(.slice (some ⟨0, (pre + 0), none⟩) 3 (c - 0)), (.int .i64 3), (.bool true), (.int .i64 6), (.int .u64 n1), (.int .i64 0), (.int .u64 0), (.int .u64 0)] 31 true), (3, 0, .cells [(.int .u64 bb), (.int .i64 lg), (.int .i64 m0), (.int .i64 m1), (.int .u64 (l.getD 0 0)), (.int .i64 0), (.int .i64 1), (.int .u64 0), (.int .u64 0)] 82 true), (2, 0, .cells [(.int .i64 m0), (.int .i64 m1)] 55 true), (1, 0, .cells [(.int .u64 bb), (.int .i64 lg)] 54 true), (0, 0, .tail pre .u64 l e)]⟩⟩
noncomputable def S106 (pre : Nat) (n : Nat) (c : Nat) (n4 : Int) (m1 : Int) (bb : Int) (lg : Int) (m0 : Int) (l : List Int) (e : TypeId) : KSt := ⟨(frameL 135 [(2, (.slice (some ⟨0, pre, none⟩) n c)), (3, (.pointer (some ⟨1, 0, none⟩))), (4, (.pointer (some ⟨2, 0, none⟩))), (7, (.pointer (some ⟨3, 0, none⟩))), (12, (.int .i64 3)), (13, (.pointer (some ⟨4, 0, none⟩))), (14, (.pointer (some ⟨5, 0, none⟩)))]), ⟨6, 1, [(5, 0, .cells [(.int .i64 2), (.int .u64 n4), (.int .u64 (makeRV n4 m1))] 63 true), (4, 0, .cells [(.slice (some ⟨0, (pre + 0), none⟩) 3 (c - 0)), (.int .i64 3), (.bool false), (.int .i64 0), (.int .u64 0), (.int .i64 0), (.int .u64 0), (.int .u64 0)] 31 true), (3, 0, .cells [(.int .u64 bb), (.int .i64 lg), (.int .i64 m0), (.int .i64 m1), (.int .u64 (l.getD 0 0)), (.int .i64 0), (.int .i64 1), (.int .u64 0), (.int .u64 0)] 82 true), (2, 0, .cells [(.int .i64 m0), (.int .i64 m1)] 55 true), (1, 0, .cells [(.int .u64 bb), (.int .i64 lg)] 54 true), (0, 0, .tail pre .u64 l e)]⟩⟩
noncomputable def S107 (pre : Nat) (n : Nat) (c : Nat) (n6 : Int) (n4 : Int) (bb : Int) (lg : Int) (m0 : Int) (m1 : Int) (l : List Int) (e : TypeId) : KSt := ⟨(frameL 135 [(2, (.slice (some ⟨0, pre, none⟩) n c)), (3, (.pointer (some ⟨1, 0, none⟩))), (4, (.pointer (some ⟨2, 0, none⟩))), (7, (.pointer (some ⟨3, 0, none⟩))), (12, (.int .i64 3)), (13, (.pointer (some ⟨4, 0, none⟩))), (14, (.pointer (some ⟨5, 0, none⟩)))]), ⟨6, 1, [(5, 0, .cells [(.int .i64 3), (.int .u64 0), (.int .u64 n6)] 63 true), (4, 0, .cells [(.slice (some ⟨0, (pre + 0), none⟩) 3 (c - 0)), (.int .i64 3), (.bool true), (.int .i64 6), (.int .u64 n4), (.int .i64 0), (.int .u64 0), (.int .u64 0)] 31 true), (3, 0, .cells [(.int .u64 bb), (.int .i64 lg), (.int .i64 m0), (.int .i64 m1), (.int .u64 (l.getD 0 0)), (.int .i64 0), (.int .i64 1), (.int .u64 0), (.int .u64 0)] 82 true), (2, 0, .cells [(.int .i64 m0), (.int .i64 m1)] 55 true), (1, 0, .cells [(.int .u64 bb), (.int .i64 lg)] 54 true), (0, 0, .tail pre .u64 l e)]⟩⟩
theorem R90 (pre : Nat) (n : Nat) (c : Nat) (bb : Int) (lg : Int) (m0 : Int) (m1 : Int) (l : List Int) (e : TypeId) : evCK Try.prog cfgE (runK Try.prog cfgE fsE (conT grpDom grpE) 12 40) 12 (codeAt [1, 1, 1, 1, 0, 1, 0, 0, 1, 0, 0, 1, 0] B) (S102 pre n c bb lg m0 m1 l e) (normC 1 [2, 3, 4, 7, 12, 13, 14]) =
  bif ((groupsV m0) == 0) then
    bif (Nat.ble pre ((pre + 0) + 0)) then
      obind (l[(((pre + 0) + 0) - pre)]?) fun n1 =>
        bif (n1 == 0) then
          some (.normal, (S103 pre n c bb lg m0 m1 l e))
        else
          bif (Nat.ble pre ((pre + 0) + 1)) then
            obind (l[(((pre + 0) + 1) - pre)]?) fun n2 =>
              bif (Nat.ble pre ((pre + 0) + 2)) then
                obind (l[(((pre + 0) + 2) - pre)]?) fun n3 =>
                  bif (n3 == 0) then
                    some (.normal, (S104 pre n c n1 m1 bb lg m0 l e))
                  else
                    some (.normal, (S105 pre n c n3 n1 bb lg m0 m1 l e))
              else
                none
          else
            none
    else
      none
  else
    bif (Nat.ble pre ((pre + 0) + 0)) then
      obind (l[(((pre + 0) + 0) - pre)]?) fun n4 =>
        bif (n4 == 0) then
          some (.normal, (S103 pre n c bb lg m0 m1 l e))
        else
          bif (Nat.ble pre ((pre + 0) + 1)) then
            obind (l[(((pre + 0) + 1) - pre)]?) fun n5 =>
              bif (Nat.ble pre ((pre + 0) + 2)) then
                obind (l[(((pre + 0) + 2) - pre)]?) fun n6 =>
                  bif (n6 == 0) then
                    some (.normal, (S106 pre n c n4 m1 bb lg m0 l e))
                  else
                    some (.normal, (S107 pre n c n6 n4 bb lg m0 m1 l e))
              else
                none
          else
            none
    else
      none := by kernel_rfl
noncomputable def S108 (pre : Nat) (n : Nat) (c : Nat) (bb : Int) (lg : Int) (m0 : Int) (m1 : Int) (l : List Int) (e : TypeId) : KSt := ⟨(frameL 135 [(2, (.slice (some ⟨0, pre, none⟩) n c)), (3, (.pointer (some ⟨1, 0, none⟩))), (4, (.pointer (some ⟨2, 0, none⟩))), (7, (.pointer (some ⟨3, 0, none⟩))), (12, (.int .i64 3)), (13, (.pointer (some ⟨4, 0, none⟩))), (14, (.pointer (some ⟨5, 0, none⟩))), (15, (.pointer (some ⟨6, 0, none⟩))), (16, (.bool true))]), ⟨7, 1, [(6, 0, .cells [(.int .i64 1), (.int .u64 0), (.int .u64 0)] 60 true), (5, 0, .cells [(.int .i64 1), (.int .u64 0), (.int .u64 0)] 63 true), (4, 0, .cells [(.slice (some ⟨0, (pre + 0), none⟩) 3 (c - 0)), (.int .i64 1), (.bool false), (.int .i64 0), (.int .u64 0), (.int .i64 0), (.int .u64 0), (.int .u64 0)] 31 true), (3, 0, .cells [(.int .u64 bb), (.int .i64 lg), (.int .i64 m0), (.int .i64 m1), (.int .u64 (l.getD 0 0)), (.int .i64 0), (.int .i64 1), (.int .u64 0), (.int .u64 0)] 82 true), (2, 0, .cells [(.int .i64 m0), (.int .i64 m1)] 55 true), (1, 0, .cells [(.int .u64 bb), (.int .i64 lg)] 54 true), (0, 0, .tail pre .u64 l e)]⟩⟩
theorem R91 (pre : Nat) (n : Nat) (c : Nat) (bb : Int) (lg : Int) (m0 : Int) (m1 : Int) (l : List Int) (e : TypeId) : evCK Try.prog cfgE (runK Try.prog cfgE fsE (conT grpDom grpE) 12 40) 12 (codeAt [1, 1, 1, 1, 0, 1, 0, 0, 1, 0, 0, 1, 1, 0] B) (S103 pre n c bb lg m0 m1 l e) (normC 1 [2, 3, 4, 7, 12, 13, 14, 15, 16]) =
  some (.normal, (S108 pre n c bb lg m0 m1 l e)) := by kernel_rfl
noncomputable def S109 (pre : Nat) (n : Nat) (c : Nat) (bb : Int) (lg : Int) (m0 : Int) (m1 : Int) (l : List Int) (e : TypeId) : KSt := ⟨(frameL 135 [(2, (.slice (some ⟨0, pre, none⟩) n c)), (3, (.pointer (some ⟨1, 0, none⟩))), (4, (.pointer (some ⟨2, 0, none⟩))), (7, (.pointer (some ⟨3, 0, none⟩))), (12, (.int .i64 3)), (13, (.pointer (some ⟨4, 0, none⟩))), (14, (.pointer (some ⟨5, 0, none⟩))), (15, (.pointer (some ⟨6, 0, none⟩))), (16, (.bool true)), (17, (.pointer (some ⟨7, 0, none⟩))), (18, (.bool false))]), ⟨8, 1, [(7, 0, .cells [(.int .i64 0), (.int .u64 0), (.int .i64 0), (.int .u64 0), (.int .u64 0)] 29 true), (6, 0, .cells [(.int .i64 1), (.int .u64 0), (.int .u64 0)] 60 true), (5, 0, .cells [(.int .i64 1), (.int .u64 0), (.int .u64 0)] 63 true), (4, 0, .cells [(.slice (some ⟨0, (pre + 0), none⟩) 3 (c - 0)), (.int .i64 1), (.bool false), (.int .i64 0), (.int .u64 0), (.int .i64 0), (.int .u64 0), (.int .u64 0)] 31 true), (3, 0, .cells [(.int .u64 bb), (.int .i64 lg), (.int .i64 m0), (.int .i64 m1), (.int .u64 (l.getD 0 0)), (.int .i64 0), (.int .i64 1), (.int .u64 0), (.int .u64 0)] 82 true), (2, 0, .cells [(.int .i64 m0), (.int .i64 m1)] 55 true), (1, 0, .cells [(.int .u64 bb), (.int .i64 lg)] 54 true), (0, 0, .tail pre .u64 l e)]⟩⟩
theorem R92 (pre : Nat) (n : Nat) (c : Nat) (bb : Int) (lg : Int) (m0 : Int) (m1 : Int) (l : List Int) (e : TypeId) : evCK Try.prog cfgE (runK Try.prog cfgE fsE (conT grpDom grpE) 12 40) 12 (codeAt [1, 1, 1, 1, 0, 1, 0, 0, 1, 0, 0, 1, 1, 1, 0] B) (S108 pre n c bb lg m0 m1 l e) (normC 1 [2, 3, 4, 7, 12, 13, 14, 15, 16, 17, 18]) =
  some (.normal, (S109 pre n c bb lg m0 m1 l e)) := by kernel_rfl
noncomputable def S110 (pre : Nat) (n : Nat) (c : Nat) (bb : Int) (lg : Int) (m0 : Int) (m1 : Int) (l : List Int) (e : TypeId) : KSt := ⟨(frameL 135 [(2, (.slice (some ⟨0, pre, none⟩) n c)), (3, (.pointer (some ⟨1, 0, none⟩))), (4, (.pointer (some ⟨2, 0, none⟩))), (7, (.pointer (some ⟨3, 0, none⟩))), (12, (.int .i64 3)), (123, (.bool false))]), ⟨4, 1, [(3, 0, .cells [(.int .u64 bb), (.int .i64 lg), (.int .i64 m0), (.int .i64 m1), (.int .u64 (l.getD 0 0)), (.int .i64 0), (.int .i64 1), (.int .u64 0), (.int .u64 0)] 82 true), (2, 0, .cells [(.int .i64 m0), (.int .i64 m1)] 55 true), (1, 0, .cells [(.int .u64 bb), (.int .i64 lg)] 54 true), (0, 0, .tail pre .u64 l e)]⟩⟩
theorem R93 (pre : Nat) (n : Nat) (c : Nat) (bb : Int) (lg : Int) (m0 : Int) (m1 : Int) (l : List Int) (e : TypeId) : evCK Try.prog cfgE (runK Try.prog cfgE fsE (conT grpDom grpE) 12 40) 12 (codeAt [1, 1, 1, 1, 0, 1, 0, 0, 1, 0, 0, 1, 1, 1, 1, 0, 0] B) (S109 pre n c bb lg m0 m1 l e) (normC 1 [2, 3, 4, 7, 12, 123]) =
  some (.normal, (S110 pre n c bb lg m0 m1 l e)) := by kernel_rfl
theorem R94 (pre : Nat) (n : Nat) (c : Nat) (bb : Int) (lg : Int) (m0 : Int) (m1 : Int) (l : List Int) (e : TypeId) : evCK Try.prog cfgE (runK Try.prog cfgE fsE (conT grpDom grpE) 12 40) 12 (codeAt [1, 1, 1, 1, 0, 1, 0, 0, 1, 0, 0, 1, 1, 1, 1, 0, 1, 1] B) (S110 pre n c bb lg m0 m1 l e) (normC 1 [2, 3, 4, 7, 12]) =
  some (.normal, (S76 pre n c bb lg m0 m1 l e)) := by kernel_rfl
noncomputable def S111 (pre : Nat) (n : Nat) (c : Nat) (bb : Int) (lg : Int) (m0 : Int) (m1 : Int) (l : List Int) (e : TypeId) : KSt := ⟨(frameL 135 [(2, (.slice (some ⟨0, pre, none⟩) n c)), (3, (.pointer (some ⟨1, 0, none⟩))), (4, (.pointer (some ⟨2, 0, none⟩))), (7, (.pointer (some ⟨3, 0, none⟩))), (12, (.int .i64 3)), (127, (.bool (decide (3 < ((n : Nat) : Int)))))]), ⟨4, 1, [(3, 0, .cells [(.int .u64 bb), (.int .i64 lg), (.int .i64 m0), (.int .i64 m1), (.int .u64 (l.getD 0 0)), (.int .i64 0), (.int .i64 1), (.int .u64 0), (.int .u64 0)] 82 true), (2, 0, .cells [(.int .i64 m0), (.int .i64 m1)] 55 true), (1, 0, .cells [(.int .u64 bb), (.int .i64 lg)] 54 true), (0, 0, .tail pre .u64 l e)]⟩⟩
theorem R95 (pre : Nat) (n : Nat) (c : Nat) (bb : Int) (lg : Int) (m0 : Int) (m1 : Int) (l : List Int) (e : TypeId) : evCK Try.prog cfgE (runK Try.prog cfgE fsE (conT grpDom grpE) 12 40) 12 (codeAt [1, 1, 1, 1, 0, 1, 0, 0, 1, 0, 0, 1, 1, 1, 1, 1, 0] B) (S76 pre n c bb lg m0 m1 l e) (normC 1 [2, 3, 4, 7, 12, 127]) =
  some (.normal, (S111 pre n c bb lg m0 m1 l e)) := by kernel_rfl
theorem R96 (pre : Nat) (n : Nat) (c : Nat) (bb : Int) (lg : Int) (m0 : Int) (m1 : Int) (l : List Int) (e : TypeId) : evCK Try.prog cfgE (runK Try.prog cfgE fsE (conT grpDom grpE) 12 40) 12 (codeAt [1, 1, 1, 1, 0, 1, 0, 0, 1, 0, 0, 1, 1, 1, 1, 1, 1, 0] B) (S111 pre n c bb lg m0 m1 l e) (normC 1 [2, 3, 4, 7, 12]) =
  if (0 : Int) ≤ 3 ∧ 3 < ((n : Nat) : Int) then
    bif (Nat.ble pre (pre + 3)) then
      obind (l[((pre + 3) - pre)]?) fun n1 =>
        some (.normal, (S76 pre n c bb lg m0 m1 l e))
    else
      none
  else
    none := by kernel_rfl
end Go.Proofs.Ytmphcolclkpnnab.extendActs
