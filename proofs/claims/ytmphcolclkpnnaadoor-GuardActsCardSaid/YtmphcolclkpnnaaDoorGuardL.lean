/- GuardActs: the loop. -/
import Derived.Test.YtmphcolclkpnnaaDoorGuardT
import Derived.WalkKit
import Derived.ProofKit
import Derived.OpenShut
import Derived.ChangeOld
import Derived.Below
import Derived.SizedLaws
namespace Go.Proofs.YtmphcolclkpnnaaDoor.guardActs
open Go.Eng
open Go.ChangeShapes Go.WideShapes Go.ChangeAt Go.RowKit
set_option linter.unusedVariables false
set_option linter.unusedSimpArgs false
set_option maxRecDepth 100000
open Go.Proofs.YtmphcolclkpnnaaDoor.guardRef (gst gLoop gOver gKind gBlk gCell gNew gRes gMore gE gK gDom g_sound g_agree)
noncomputable def cfgV : Cfg := ⟨[37]⟩
noncomputable def fsV : List FuncId := [5, 17, 18, 19, 20, 21, 23, 24]
theorem fitV : Fit Tryd.prog cfgV fsV := ⟨by kernel_rfl, Cfg.ok_of (by kernel_rfl), by kernel_rfl⟩
/-- One answer more. -/
def gstep (G : Int × Int × Int) (x : Int) : Int × Int × Int :=
  if G.1 = 1 then (2, x, 1) else if G.1 = 2 then (3, G.2.1, G.2.2 + 1) else if G.1 = 3 then (if x = G.2.1 then (4, G.2.1, G.2.2 + 1) else (2, x, G.2.2 + 1)) else G
theorem gLoop_step (x : Int) : ∀ (l : List Int) (r k : Int), gLoop r k (l ++ [x]) = gstep (gLoop r k l) x
  | [], r, k => rfl
  | [a], r, k => by
    show (if x = r then _ else _) = _
    by_cases h : x = r <;> simp [gLoop, gstep, h]
  | a :: q :: rest, r, k => by
    show (if q = r then _ else _) = gstep (if q = r then _ else _) x
    by_cases h : q = r
    · rw [if_pos h, if_pos h]; rfl
    · rw [if_neg h, if_neg h]; exact gLoop_step x rest q (k + 1 + 1)
theorem gst_step (l : List Int) (x : Int) : gst (l ++ [x]) = gstep (gst l) x := by
  cases l with
  | nil => rfl
  | cons r rest => exact gLoop_step x rest r 1
theorem gst_take {l : List Int} {j : Nat} (h : j < l.length) : gst (l.take (j + 1)) = gstep (gst (l.take j)) (l.getD j 0) := by
  have : l.take (j + 1) = l.take j ++ [l.getD j 0] := by
    rw [List.take_add_one]; simp [List.getD, h]
  rw [this, gst_step]
noncomputable def B : Code := bodyOf Tryd.prog 5
theorem B_is : Tryd.f5.body = some B := by kernel_rfl
theorem B_ok : okCode Tryd.prog.globals.size B = true := by kernel_rfl
noncomputable def S0 (dk : Int) (th : Int) (ths : Int) (kp : Int) (sd : Int) (pre : Nat) (n : Nat) (c : Nat) (l : List Int) (e : TypeId) (e0 : TypeId) : KSt := (firstK [(.agg #[(.int .u64 dk), (.int .i64 th), (.int .i64 ths), (.int .i64 kp), (.int .u64 sd)]), (.slice (some ⟨1, pre, none⟩) n c)] 120 ⟨2, 1, [(1, 0, .tail pre .u64 l e), (0, 0, .cells [(.int .i64 1), (.int .i64 64), (.int .i64 1), (.int .i64 64)] e0 false)]⟩)
theorem C : B = .seq (codeAt [0] B) (codeAt [1] B) := by kernel_rfl
noncomputable def S1 (pre : Nat) (n : Nat) (c : Nat) (dk : Int) (th : Int) (ths : Int) (kp : Int) (sd : Int) (l : List Int) (e : TypeId) (e0 : TypeId) : KSt := ⟨(frameL 120 [(1, (.slice (some ⟨1, pre, none⟩) n c)), (2, (.pointer (some ⟨2, 0, none⟩)))]), ⟨3, 1, [(2, 0, .cells [(.int .u64 dk), (.int .i64 th), (.int .i64 ths), (.int .i64 kp), (.int .u64 sd)] 24 true), (1, 0, .tail pre .u64 l e), (0, 0, .cells [(.int .i64 1), (.int .i64 64), (.int .i64 1), (.int .i64 64)] e0 false)]⟩⟩
theorem R1 (dk : Int) (th : Int) (ths : Int) (kp : Int) (sd : Int) (pre : Nat) (n : Nat) (c : Nat) (l : List Int) (e : TypeId) (e0 : TypeId) : evCK Tryd.prog cfgV (runK Tryd.prog cfgV fsV (conTk gDom gK) 12 40) 12 (codeAt [0] B) (S0 dk th ths kp sd pre n c l e e0) (normC 2 [1, 2]) =
  some (.normal, (S1 pre n c dk th ths kp sd l e e0)) := by kernel_rfl
theorem C1 : (codeAt [1] B) = .seq (codeAt [1, 0] B) (codeAt [1, 1] B) := by kernel_rfl
theorem C1_0 : (codeAt [1, 0] B) = .seq (codeAt [1, 0, 0] B) (codeAt [1, 0, 1] B) := by kernel_rfl
noncomputable def S2 (pre : Nat) (n : Nat) (c : Nat) (dk : Int) (th : Int) (ths : Int) (kp : Int) (sd : Int) (l : List Int) (e : TypeId) (e0 : TypeId) : KSt := ⟨(frameL 120 [(1, (.slice (some ⟨1, pre, none⟩) n c)), (2, (.pointer (some ⟨2, 0, none⟩))), (19, (.bool (decide (((n : Nat) : Int) > 40))))]), ⟨3, 1, [(2, 0, .cells [(.int .u64 dk), (.int .i64 th), (.int .i64 ths), (.int .i64 kp), (.int .u64 sd)] 24 true), (1, 0, .tail pre .u64 l e), (0, 0, .cells [(.int .i64 1), (.int .i64 64), (.int .i64 1), (.int .i64 64)] e0 false)]⟩⟩
theorem R2 (pre : Nat) (n : Nat) (c : Nat) (dk : Int) (th : Int) (ths : Int) (kp : Int) (sd : Int) (l : List Int) (e : TypeId) (e0 : TypeId) : evCK Tryd.prog cfgV (runK Tryd.prog cfgV fsV (conTk gDom gK) 12 40) 12 (codeAt [1, 0, 0] B) (S1 pre n c dk th ths kp sd l e e0) (normC 2 [1, 2, 19]) =
  some (.normal, (S2 pre n c dk th ths kp sd l e e0)) := by kernel_rfl
theorem C1_0_1 : (codeAt [1, 0, 1] B) = .cond (.tmp 19) (codeAt [1, 0, 1, 0] B) (codeAt [1, 0, 1, 1] B) := by kernel_rfl
theorem R3 (pre : Nat) (n : Nat) (c : Nat) (dk : Int) (th : Int) (ths : Int) (kp : Int) (sd : Int) (l : List Int) (e : TypeId) (e0 : TypeId) : evCK Tryd.prog cfgV (runK Tryd.prog cfgV fsV (conTk gDom gK) 12 40) 12 (codeAt [1, 0, 1, 1] B) (S2 pre n c dk th ths kp sd l e e0) (normC 2 [1, 2]) =
  some (.normal, (S1 pre n c dk th ths kp sd l e e0)) := by kernel_rfl
theorem C1_1 : (codeAt [1, 1] B) = .seq (codeAt [1, 1, 0] B) (codeAt [1, 1, 1] B) := by kernel_rfl
noncomputable def S3 (pre : Nat) (n : Nat) (c : Nat) (dk : Int) (th : Int) (ths : Int) (kp : Int) (sd : Int) (l : List Int) (e : TypeId) (e0 : TypeId) : KSt := ⟨(frameL 120 [(1, (.slice (some ⟨1, pre, none⟩) n c)), (2, (.pointer (some ⟨2, 0, none⟩))), (5, (.pointer (some ⟨3, 0, none⟩)))]), ⟨4, 1, [(3, 0, .cells [(.int .u64 0), (.int .i64 0), (.int .i64 0), (.int .i64 0), (.int .u64 0), (.int .u64 0), (.int .i64 0)] 51 true), (2, 0, .cells [(.int .u64 dk), (.int .i64 th), (.int .i64 ths), (.int .i64 kp), (.int .u64 sd)] 24 true), (1, 0, .tail pre .u64 l e), (0, 0, .cells [(.int .i64 1), (.int .i64 64), (.int .i64 1), (.int .i64 64)] e0 false)]⟩⟩
noncomputable def S4 (pre : Nat) (n : Nat) (c : Nat) (dk : Int) (th : Int) (ths : Int) (kp : Int) (sd : Int) (l : List Int) (e : TypeId) (e0 : TypeId) : KSt := ⟨(frameL 120 [(1, (.slice (some ⟨1, pre, none⟩) n c)), (2, (.pointer (some ⟨2, 0, none⟩))), (5, (.pointer (some ⟨3, 0, none⟩)))]), ⟨4, 1, [(3, 0, .cells [(.int .u64 dk), (.int .i64 th), (.int .i64 ths), (.int .i64 kp), (.int .u64 sd), (.int .u64 0), (.int .i64 1)] 51 true), (2, 0, .cells [(.int .u64 dk), (.int .i64 th), (.int .i64 ths), (.int .i64 kp), (.int .u64 sd)] 24 true), (1, 0, .tail pre .u64 l e), (0, 0, .cells [(.int .i64 1), (.int .i64 64), (.int .i64 1), (.int .i64 64)] e0 false)]⟩⟩
theorem R4 (pre : Nat) (n : Nat) (c : Nat) (dk : Int) (th : Int) (ths : Int) (kp : Int) (sd : Int) (l : List Int) (e : TypeId) (e0 : TypeId) : evCK Tryd.prog cfgV (runK Tryd.prog cfgV fsV (conTk gDom gK) 12 40) 12 (codeAt [1, 1, 0] B) (S1 pre n c dk th ths kp sd l e e0) (normC 2 [1, 2, 5]) =
  bif (!(rightV dk th ths kp)) then
    some (.normal, (S3 pre n c dk th ths kp sd l e e0))
  else
    some (.normal, (S4 pre n c dk th ths kp sd l e e0)) := by kernel_rfl
theorem C1_1_1 : (codeAt [1, 1, 1] B) = .seq (codeAt [1, 1, 1, 0] B) (codeAt [1, 1, 1, 1] B) := by kernel_rfl
theorem C1_1_1_0 : (codeAt [1, 1, 1, 0] B) = .seq (codeAt [1, 1, 1, 0, 0] B) (codeAt [1, 1, 1, 0, 1] B) := by kernel_rfl
noncomputable def S5 (pre : Nat) (n : Nat) (c : Nat) (dk : Int) (th : Int) (ths : Int) (kp : Int) (sd : Int) (l : List Int) (e : TypeId) (e0 : TypeId) : KSt := ⟨(frameL 120 [(1, (.slice (some ⟨1, pre, none⟩) n c)), (2, (.pointer (some ⟨2, 0, none⟩))), (5, (.pointer (some ⟨3, 0, none⟩))), (25, (.bool (!(rightRV dk th ths kp))))]), ⟨4, 1, [(3, 0, .cells [(.int .u64 0), (.int .i64 0), (.int .i64 0), (.int .i64 0), (.int .u64 0), (.int .u64 0), (.int .i64 0)] 51 true), (2, 0, .cells [(.int .u64 dk), (.int .i64 th), (.int .i64 ths), (.int .i64 kp), (.int .u64 sd)] 24 true), (1, 0, .tail pre .u64 l e), (0, 0, .cells [(.int .i64 1), (.int .i64 64), (.int .i64 1), (.int .i64 64)] e0 false)]⟩⟩
theorem R5 (pre : Nat) (n : Nat) (c : Nat) (dk : Int) (th : Int) (ths : Int) (kp : Int) (sd : Int) (l : List Int) (e : TypeId) (e0 : TypeId) : evCK Tryd.prog cfgV (runK Tryd.prog cfgV fsV (conTk gDom gK) 12 40) 12 (codeAt [1, 1, 1, 0, 0] B) (S3 pre n c dk th ths kp sd l e e0) (normC 2 [1, 2, 5, 25]) =
  some (.normal, (S5 pre n c dk th ths kp sd l e e0)) := by kernel_rfl
theorem C1_1_1_0_1 : (codeAt [1, 1, 1, 0, 1] B) = .cond (.tmp 25) (codeAt [1, 1, 1, 0, 1, 0] B) (codeAt [1, 1, 1, 0, 1, 1] B) := by kernel_rfl
theorem C1_1_1_0_1_0 : (codeAt [1, 1, 1, 0, 1, 0] B) = .seq (codeAt [1, 1, 1, 0, 1, 0, 0] B) (codeAt [1, 1, 1, 0, 1, 0, 1] B) := by kernel_rfl
noncomputable def S6 (pre : Nat) (l : List Int) (e : TypeId) (e0 : TypeId) : KSt := ⟨(frameL 120 [(5, (.pointer (some ⟨2, 0, none⟩))), (7, (.bool false))]), ⟨3, 1, [(2, 0, .cells [(.int .u64 0), (.int .i64 0), (.int .i64 0), (.int .i64 0), (.int .u64 0), (.int .u64 0), (.int .i64 0)] 51 true), (1, 0, .tail pre .u64 l e), (0, 0, .cells [(.int .i64 1), (.int .i64 64), (.int .i64 1), (.int .i64 64)] e0 false)]⟩⟩
theorem R6 (pre : Nat) (n : Nat) (c : Nat) (dk : Int) (th : Int) (ths : Int) (kp : Int) (sd : Int) (l : List Int) (e : TypeId) (e0 : TypeId) : evCK Tryd.prog cfgV (runK Tryd.prog cfgV fsV (conTk gDom gK) 12 40) 12 (codeAt [1, 1, 1, 0, 1, 0, 0] B) (S5 pre n c dk th ths kp sd l e e0) (normC 2 [5, 7]) =
  some (.normal, (S6 pre l e e0)) := by kernel_rfl
theorem C1_1_1_0_1_0_1 : (codeAt [1, 1, 1, 0, 1, 0, 1] B) = .seq (codeAt [1, 1, 1, 0, 1, 0, 1, 0] B) (codeAt [1, 1, 1, 0, 1, 0, 1, 1] B) := by kernel_rfl
theorem R7 (pre : Nat) (l : List Int) (e : TypeId) (e0 : TypeId) : evCK Tryd.prog cfgV (runK Tryd.prog cfgV fsV (conTk gDom gK) 12 40) 12 (codeAt [1, 1, 1, 0, 1, 0, 1, 0] B) (S6 pre l e e0) (normC 2 [5, 7]) =
  some (.normal, (S6 pre l e e0)) := by kernel_rfl
theorem C1_1_1_0_1_0_1_1 : (codeAt [1, 1, 1, 0, 1, 0, 1, 1] B) = .seq (codeAt [1, 1, 1, 0, 1, 0, 1, 1, 0] B) (codeAt [1, 1, 1, 0, 1, 0, 1, 1, 1] B) := by kernel_rfl
noncomputable def S7 (pre : Nat) (l : List Int) (e : TypeId) (e0 : TypeId) : KSt := ⟨(frameL 120 [(7, (.bool false)), (9, (.bool false))]), ⟨2, 1, [(1, 0, .tail pre .u64 l e), (0, 0, .cells [(.int .i64 1), (.int .i64 64), (.int .i64 1), (.int .i64 64)] e0 false)]⟩⟩
theorem R8 (pre : Nat) (l : List Int) (e : TypeId) (e0 : TypeId) : evCK Tryd.prog cfgV (runK Tryd.prog cfgV fsV (conTk gDom gK) 12 40) 12 (codeAt [1, 1, 1, 0, 1, 0, 1, 1, 0] B) (S6 pre l e e0) (normC 2 [7, 9]) =
  some (.normal, (S7 pre l e e0)) := by kernel_rfl
theorem C1_1_1_0_1_0_1_1_1 : (codeAt [1, 1, 1, 0, 1, 0, 1, 1, 1] B) = .seq (codeAt [1, 1, 1, 0, 1, 0, 1, 1, 1, 0] B) (codeAt [1, 1, 1, 0, 1, 0, 1, 1, 1, 1] B) := by kernel_rfl
noncomputable def S8 (pre : Nat) (l : List Int) (e : TypeId) (e0 : TypeId) : KSt := ⟨(frameL 120 [(4, (.bool true))]), ⟨2, 1, [(1, 0, .tail pre .u64 l e), (0, 0, .cells [(.int .i64 1), (.int .i64 64), (.int .i64 1), (.int .i64 64)] e0 false)]⟩⟩
theorem R9 (pre : Nat) (l : List Int) (e : TypeId) (e0 : TypeId) : evCK Tryd.prog cfgV (runK Tryd.prog cfgV fsV (conTk gDom gK) 12 40) 12 (codeAt [1, 1, 1, 0, 1, 0, 1, 1, 1, 0] B) (S7 pre l e e0) (normC 2 [4]) =
  some (.normal, (S8 pre l e e0)) := by kernel_rfl
theorem C1_1_1_0_1_0_1_1_1_1 : (codeAt [1, 1, 1, 0, 1, 0, 1, 1, 1, 1] B) = .ret := by kernel_rfl
theorem bad (dk th ths kp sd r i a : Int) (pre n c : Nat) (l : List Int) (e0 e : TypeId) (hdk : 0 ≤ dk) (hn40 : n ≤ 40) (hc : n ≤ c) (hc2 : c ≤ 9223372036854775807) (hl : l.length = c) (hc0 : 0 < c) (hR : rightV dk th ths kp = false)   {Q : Ex → St → Prop} (hq : Q .ret (KSt.low (S8 pre l e e0))) : Gets Tryd.prog (KH.low ⟨2, 1, [(1, 0, .tail pre .u64 l e), (0, 0, .cells [(.int .i64 1), (.int .i64 64), (.int .i64 1), (.int .i64 64)] e0 false)]⟩) B (KSt.low (S0 dk th ths kp sd pre n c l e e0)) Q := by
  rw [C]; refine Gets.seq ?_
  refine Gets.ofN fitV g_sound g_agree 12 40 (by kernel_rfl) (x := .normal) (s' := (S1 pre n c dk th ths kp sd l e e0)) (R1 dk th ths kp sd pre n c l e e0) ?_
  show Gets _ _ (codeAt [1] B) _ _
  rw [C1]; refine Gets.seq ?_
  rw [C1_0]; refine Gets.seq ?_
  refine Gets.ofN fitV g_sound g_agree 12 40 (by kernel_rfl) (x := .normal) (s' := (S2 pre n c dk th ths kp sd l e e0)) (R2 pre n c dk th ths kp sd l e e0) ?_
  show Gets _ _ (codeAt [1, 0, 1] B) _ _
  rw [C1_0_1]; refine Gets.cond false (by kernel_rfl) ((show evalX (KSt.ts (S2 pre n c dk th ths kp sd l e e0)) (.tmp 19) = .bool (decide (((n : Nat) : Int) > 40)) by kernel_rfl).trans (by rw [(show (decide (((n : Nat) : Int) > 40)) = false from decide_eq_false (by omega))])) ?_; show Gets _ _ (codeAt [1, 0, 1, 1] B) _ _
  refine Gets.ofN fitV g_sound g_agree 12 40 (by kernel_rfl) (x := .normal) (s' := (S1 pre n c dk th ths kp sd l e e0)) (R3 pre n c dk th ths kp sd l e e0) ?_
  show Gets _ _ (codeAt [1, 1] B) _ _
  rw [C1_1]; refine Gets.seq ?_
  refine Gets.ofN fitV g_sound g_agree 12 40 (by kernel_rfl) (x := .normal) (s' := (S3 pre n c dk th ths kp sd l e e0)) ((R4 pre n c dk th ths kp sd l e e0).trans (by rw [condT (not_t (hR))])) ?_
  show Gets _ _ (codeAt [1, 1, 1] B) _ _
  rw [C1_1_1]; refine Gets.seq ?_
  rw [C1_1_1_0]; refine Gets.seq ?_
  refine Gets.ofN fitV g_sound g_agree 12 40 (by kernel_rfl) (x := .normal) (s' := (S5 pre n c dk th ths kp sd l e e0)) (R5 pre n c dk th ths kp sd l e e0) ?_
  show Gets _ _ (codeAt [1, 1, 1, 0, 1] B) _ _
  rw [C1_1_1_0_1]; refine Gets.cond true (by kernel_rfl) ((show evalX (KSt.ts (S5 pre n c dk th ths kp sd l e e0)) (.tmp 25) = .bool (!(rightRV dk th ths kp)) by kernel_rfl).trans (by rw [(show (!(rightRV dk th ths kp)) = true from not_t (by rw [rightRV_eq hdk]; exact hR))])) ?_; show Gets _ _ (codeAt [1, 1, 1, 0, 1, 0] B) _ _
  rw [C1_1_1_0_1_0]; refine Gets.seq ?_
  refine Gets.ofN fitV g_sound g_agree 12 40 (by kernel_rfl) (x := .normal) (s' := (S6 pre l e e0)) (R6 pre n c dk th ths kp sd l e e0) ?_
  show Gets _ _ (codeAt [1, 1, 1, 0, 1, 0, 1] B) _ _
  rw [C1_1_1_0_1_0_1]; refine Gets.seq ?_
  refine Gets.ofN fitV g_sound g_agree 12 40 (by kernel_rfl) (x := .normal) (s' := (S6 pre l e e0)) (R7 pre l e e0) ?_
  show Gets _ _ (codeAt [1, 1, 1, 0, 1, 0, 1, 1] B) _ _
  rw [C1_1_1_0_1_0_1_1]; refine Gets.seq ?_
  refine Gets.ofN fitV g_sound g_agree 12 40 (by kernel_rfl) (x := .normal) (s' := (S7 pre l e e0)) (R8 pre l e e0) ?_
  show Gets _ _ (codeAt [1, 1, 1, 0, 1, 0, 1, 1, 1] B) _ _
  rw [C1_1_1_0_1_0_1_1_1]; refine Gets.seq ?_
  refine Gets.ofN fitV g_sound g_agree 12 40 (by kernel_rfl) (x := .normal) (s' := (S8 pre l e e0)) (R9 pre l e e0) ?_
  show Gets _ _ (codeAt [1, 1, 1, 0, 1, 0, 1, 1, 1, 1] B) _ _
  rw [C1_1_1_0_1_0_1_1_1_1]; refine Gets.ev fitV.mix fitV.cfg (fitV.sound g_sound 12 0) 12 rfl (s' := KSt.low (S8 pre l e e0)) (x := .ret) rfl ?_
  exact hq
noncomputable def S9 (pre : Nat) (n : Nat) (c : Nat) (dk : Int) (th : Int) (ths : Int) (kp : Int) (sd : Int) (l : List Int) (e : TypeId) (e0 : TypeId) : KSt := ⟨(frameL 120 [(1, (.slice (some ⟨1, pre, none⟩) n c)), (2, (.pointer (some ⟨2, 0, none⟩))), (5, (.pointer (some ⟨3, 0, none⟩))), (25, (.bool (!(rightRV dk th ths kp))))]), ⟨4, 1, [(3, 0, .cells [(.int .u64 dk), (.int .i64 th), (.int .i64 ths), (.int .i64 kp), (.int .u64 sd), (.int .u64 0), (.int .i64 1)] 51 true), (2, 0, .cells [(.int .u64 dk), (.int .i64 th), (.int .i64 ths), (.int .i64 kp), (.int .u64 sd)] 24 true), (1, 0, .tail pre .u64 l e), (0, 0, .cells [(.int .i64 1), (.int .i64 64), (.int .i64 1), (.int .i64 64)] e0 false)]⟩⟩
theorem R10 (pre : Nat) (n : Nat) (c : Nat) (dk : Int) (th : Int) (ths : Int) (kp : Int) (sd : Int) (l : List Int) (e : TypeId) (e0 : TypeId) : evCK Tryd.prog cfgV (runK Tryd.prog cfgV fsV (conTk gDom gK) 12 40) 12 (codeAt [1, 1, 1, 0, 0] B) (S4 pre n c dk th ths kp sd l e e0) (normC 2 [1, 2, 5, 25]) =
  some (.normal, (S9 pre n c dk th ths kp sd l e e0)) := by kernel_rfl
theorem R11 (pre : Nat) (n : Nat) (c : Nat) (dk : Int) (th : Int) (ths : Int) (kp : Int) (sd : Int) (l : List Int) (e : TypeId) (e0 : TypeId) : evCK Tryd.prog cfgV (runK Tryd.prog cfgV fsV (conTk gDom gK) 12 40) 12 (codeAt [1, 1, 1, 0, 1, 1] B) (S9 pre n c dk th ths kp sd l e e0) (normC 2 [1, 2, 5]) =
  some (.normal, (S4 pre n c dk th ths kp sd l e e0)) := by kernel_rfl
theorem C1_1_1_1 : (codeAt [1, 1, 1, 1] B) = .seq (codeAt [1, 1, 1, 1, 0] B) (codeAt [1, 1, 1, 1, 1] B) := by kernel_rfl
theorem C1_1_1_1_0 : (codeAt [1, 1, 1, 1, 0] B) = .seq (codeAt [1, 1, 1, 1, 0, 0] B) (codeAt [1, 1, 1, 1, 0, 1] B) := by kernel_rfl
noncomputable def S10 (pre : Nat) (n : Nat) (c : Nat) (dk : Int) (th : Int) (ths : Int) (kp : Int) (sd : Int) (l : List Int) (e : TypeId) (e0 : TypeId) : KSt := ⟨(frameL 120 [(1, (.slice (some ⟨1, pre, none⟩) n c)), (2, (.pointer (some ⟨2, 0, none⟩))), (5, (.pointer (some ⟨3, 0, none⟩))), (10, (.int .i64 0))]), ⟨4, 1, [(3, 0, .cells [(.int .u64 dk), (.int .i64 th), (.int .i64 ths), (.int .i64 kp), (.int .u64 sd), (.int .u64 0), (.int .i64 1)] 51 true), (2, 0, .cells [(.int .u64 dk), (.int .i64 th), (.int .i64 ths), (.int .i64 kp), (.int .u64 sd)] 24 true), (1, 0, .tail pre .u64 l e), (0, 0, .cells [(.int .i64 1), (.int .i64 64), (.int .i64 1), (.int .i64 64)] e0 false)]⟩⟩
theorem R12 (pre : Nat) (n : Nat) (c : Nat) (dk : Int) (th : Int) (ths : Int) (kp : Int) (sd : Int) (l : List Int) (e : TypeId) (e0 : TypeId) : evCK Tryd.prog cfgV (runK Tryd.prog cfgV fsV (conTk gDom gK) 12 40) 12 (codeAt [1, 1, 1, 1, 0, 0] B) (S4 pre n c dk th ths kp sd l e e0) (normC 2 [1, 2, 5, 10]) =
  some (.normal, (S10 pre n c dk th ths kp sd l e e0)) := by kernel_rfl
theorem good (dk th ths kp sd r i a : Int) (pre n c : Nat) (l : List Int) (e0 e : TypeId) (hdk : 0 ≤ dk) (hn40 : n ≤ 40) (hc : n ≤ c) (hc2 : c ≤ 9223372036854775807) (hl : l.length = c) (hc0 : 0 < c) (hR : rightV dk th ths kp = true)   {Q : Ex → St → Prop} (hq : Gets Tryd.prog (KH.low ⟨2, 1, [(1, 0, .tail pre .u64 l e), (0, 0, .cells [(.int .i64 1), (.int .i64 64), (.int .i64 1), (.int .i64 64)] e0 false)]⟩) (codeAt [1, 1, 1, 1, 0, 1] B) (KSt.low (S10 pre n c dk th ths kp sd l e e0)) (onN (fun s => Gets Tryd.prog (KH.low ⟨2, 1, [(1, 0, .tail pre .u64 l e), (0, 0, .cells [(.int .i64 1), (.int .i64 64), (.int .i64 1), (.int .i64 64)] e0 false)]⟩) (codeAt [1, 1, 1, 1, 1] B) s (Q)) (Q))) : Gets Tryd.prog (KH.low ⟨2, 1, [(1, 0, .tail pre .u64 l e), (0, 0, .cells [(.int .i64 1), (.int .i64 64), (.int .i64 1), (.int .i64 64)] e0 false)]⟩) B (KSt.low (S0 dk th ths kp sd pre n c l e e0)) Q := by
  rw [C]; refine Gets.seq ?_
  refine Gets.ofN fitV g_sound g_agree 12 40 (by kernel_rfl) (x := .normal) (s' := (S1 pre n c dk th ths kp sd l e e0)) (R1 dk th ths kp sd pre n c l e e0) ?_
  show Gets _ _ (codeAt [1] B) _ _
  rw [C1]; refine Gets.seq ?_
  rw [C1_0]; refine Gets.seq ?_
  refine Gets.ofN fitV g_sound g_agree 12 40 (by kernel_rfl) (x := .normal) (s' := (S2 pre n c dk th ths kp sd l e e0)) (R2 pre n c dk th ths kp sd l e e0) ?_
  show Gets _ _ (codeAt [1, 0, 1] B) _ _
  rw [C1_0_1]; refine Gets.cond false (by kernel_rfl) ((show evalX (KSt.ts (S2 pre n c dk th ths kp sd l e e0)) (.tmp 19) = .bool (decide (((n : Nat) : Int) > 40)) by kernel_rfl).trans (by rw [(show (decide (((n : Nat) : Int) > 40)) = false from decide_eq_false (by omega))])) ?_; show Gets _ _ (codeAt [1, 0, 1, 1] B) _ _
  refine Gets.ofN fitV g_sound g_agree 12 40 (by kernel_rfl) (x := .normal) (s' := (S1 pre n c dk th ths kp sd l e e0)) (R3 pre n c dk th ths kp sd l e e0) ?_
  show Gets _ _ (codeAt [1, 1] B) _ _
  rw [C1_1]; refine Gets.seq ?_
  refine Gets.ofN fitV g_sound g_agree 12 40 (by kernel_rfl) (x := .normal) (s' := (S4 pre n c dk th ths kp sd l e e0)) ((R4 pre n c dk th ths kp sd l e e0).trans (by rw [condF (not_f (hR))])) ?_
  show Gets _ _ (codeAt [1, 1, 1] B) _ _
  rw [C1_1_1]; refine Gets.seq ?_
  rw [C1_1_1_0]; refine Gets.seq ?_
  refine Gets.ofN fitV g_sound g_agree 12 40 (by kernel_rfl) (x := .normal) (s' := (S9 pre n c dk th ths kp sd l e e0)) (R10 pre n c dk th ths kp sd l e e0) ?_
  show Gets _ _ (codeAt [1, 1, 1, 0, 1] B) _ _
  rw [C1_1_1_0_1]; refine Gets.cond false (by kernel_rfl) ((show evalX (KSt.ts (S9 pre n c dk th ths kp sd l e e0)) (.tmp 25) = .bool (!(rightRV dk th ths kp)) by kernel_rfl).trans (by rw [(show (!(rightRV dk th ths kp)) = false from not_f (by rw [rightRV_eq hdk]; exact hR))])) ?_; show Gets _ _ (codeAt [1, 1, 1, 0, 1, 1] B) _ _
  refine Gets.ofN fitV g_sound g_agree 12 40 (by kernel_rfl) (x := .normal) (s' := (S4 pre n c dk th ths kp sd l e e0)) (R11 pre n c dk th ths kp sd l e e0) ?_
  show Gets _ _ (codeAt [1, 1, 1, 1] B) _ _
  rw [C1_1_1_1]; refine Gets.seq ?_
  rw [C1_1_1_1_0]; refine Gets.seq ?_
  refine Gets.ofN fitV g_sound g_agree 12 40 (by kernel_rfl) (x := .normal) (s' := (S10 pre n c dk th ths kp sd l e e0)) (R12 pre n c dk th ths kp sd l e e0) ?_
  show Gets _ _ (codeAt [1, 1, 1, 1, 0, 1] B) _ _
  exact hq
theorem C1_1_1_1_0_1_0_0 : (codeAt [1, 1, 1, 1, 0, 1, 0, 0] B) = .seq (codeAt [1, 1, 1, 1, 0, 1, 0, 0, 0] B) (codeAt [1, 1, 1, 1, 0, 1, 0, 0, 1] B) := by kernel_rfl
theorem C1_1_1_1_0_1_0_0_0 : (codeAt [1, 1, 1, 1, 0, 1, 0, 0, 0] B) = .seq (codeAt [1, 1, 1, 1, 0, 1, 0, 0, 0, 0] B) (codeAt [1, 1, 1, 1, 0, 1, 0, 0, 0, 1] B) := by kernel_rfl
noncomputable def S11 (pre : Nat) (n : Nat) (c : Nat) (dk : Int) (th : Int) (ths : Int) (kp : Int) (sd : Int) (l : List Int) (e : TypeId) (e0 : TypeId) : KSt := ⟨(frameL 120 [(1, (.slice (some ⟨1, pre, none⟩) n c)), (2, (.pointer (some ⟨2, 0, none⟩))), (5, (.pointer (some ⟨3, 0, none⟩))), (10, (.int .i64 0)), (50, (.bool (decide (0 ≤ ((n : Nat) : Int)))))]), ⟨4, 1, [(3, 0, .cells [(.int .u64 dk), (.int .i64 th), (.int .i64 ths), (.int .i64 kp), (.int .u64 sd), (.int .u64 0), (.int .i64 1)] 51 true), (2, 0, .cells [(.int .u64 dk), (.int .i64 th), (.int .i64 ths), (.int .i64 kp), (.int .u64 sd)] 24 true), (1, 0, .tail pre .u64 l e), (0, 0, .cells [(.int .i64 1), (.int .i64 64), (.int .i64 1), (.int .i64 64)] e0 false)]⟩⟩
theorem R13 (pre : Nat) (n : Nat) (c : Nat) (dk : Int) (th : Int) (ths : Int) (kp : Int) (sd : Int) (l : List Int) (e : TypeId) (e0 : TypeId) : evCK Tryd.prog cfgV (runK Tryd.prog cfgV fsV (conTk gDom gK) 12 40) 12 (codeAt [1, 1, 1, 1, 0, 1, 0, 0, 0, 0] B) (S10 pre n c dk th ths kp sd l e e0) (normC 2 [1, 2, 5, 10, 50]) =
  some (.normal, (S11 pre n c dk th ths kp sd l e e0)) := by kernel_rfl
theorem C1_1_1_1_0_1_0_0_0_1 : (codeAt [1, 1, 1, 1, 0, 1, 0, 0, 0, 1] B) = .cond (.tmp 50) (codeAt [1, 1, 1, 1, 0, 1, 0, 0, 0, 1, 0] B) (codeAt [1, 1, 1, 1, 0, 1, 0, 0, 0, 1, 1] B) := by kernel_rfl
theorem R14 (pre : Nat) (n : Nat) (c : Nat) (dk : Int) (th : Int) (ths : Int) (kp : Int) (sd : Int) (l : List Int) (e : TypeId) (e0 : TypeId) : evCK Tryd.prog cfgV (runK Tryd.prog cfgV fsV (conTk gDom gK) 12 40) 12 (codeAt [1, 1, 1, 1, 0, 1, 0, 0, 0, 1, 0] B) (S11 pre n c dk th ths kp sd l e e0) (normC 2 [1, 2, 5, 10]) =
  some (.normal, (S10 pre n c dk th ths kp sd l e e0)) := by kernel_rfl
theorem C1_1_1_1_0_1_0_0_1 : (codeAt [1, 1, 1, 1, 0, 1, 0, 0, 1] B) = .seq (codeAt [1, 1, 1, 1, 0, 1, 0, 0, 1, 0] B) (codeAt [1, 1, 1, 1, 0, 1, 0, 0, 1, 1] B) := by kernel_rfl
theorem C1_1_1_1_0_1_0_0_1_0 : (codeAt [1, 1, 1, 1, 0, 1, 0, 0, 1, 0] B) = .block 1 (codeAt [1, 1, 1, 1, 0, 1, 0, 0, 1, 0, 0] B) := by kernel_rfl
theorem C1_1_1_1_0_1_0_0_1_0_0 : (codeAt [1, 1, 1, 1, 0, 1, 0, 0, 1, 0, 0] B) = .seq (codeAt [1, 1, 1, 1, 0, 1, 0, 0, 1, 0, 0, 0] B) (codeAt [1, 1, 1, 1, 0, 1, 0, 0, 1, 0, 0, 1] B) := by kernel_rfl
noncomputable def S12 (pre : Nat) (n : Nat) (c : Nat) (dk : Int) (th : Int) (ths : Int) (kp : Int) (sd : Int) (l : List Int) (e : TypeId) (e0 : TypeId) : KSt := ⟨(frameL 120 [(1, (.slice (some ⟨1, pre, none⟩) n c)), (2, (.pointer (some ⟨2, 0, none⟩))), (5, (.pointer (some ⟨3, 0, none⟩))), (10, (.int .i64 0)), (11, (.pointer (some ⟨4, 0, none⟩)))]), ⟨5, 1, [(4, 0, .cells [(.slice (some ⟨1, pre, none⟩) 0 (c - 0)), (.int .i64 0), (.bool false), (.int .i64 0), (.int .u64 0), (.int .i64 0), (.int .u64 0), (.int .u64 0)] 45 true), (3, 0, .cells [(.int .u64 dk), (.int .i64 th), (.int .i64 ths), (.int .i64 kp), (.int .u64 sd), (.int .u64 0), (.int .i64 1)] 51 true), (2, 0, .cells [(.int .u64 dk), (.int .i64 th), (.int .i64 ths), (.int .i64 kp), (.int .u64 sd)] 24 true), (1, 0, .tail pre .u64 l e), (0, 0, .cells [(.int .i64 1), (.int .i64 64), (.int .i64 1), (.int .i64 64)] e0 false)]⟩⟩
noncomputable def S13 (pre : Nat) (n : Nat) (c : Nat) (dk : Int) (th : Int) (ths : Int) (kp : Int) (sd : Int) (l : List Int) (e : TypeId) (e0 : TypeId) : KSt := ⟨(frameL 120 [(1, (.slice (some ⟨1, pre, none⟩) n c)), (2, (.pointer (some ⟨2, 0, none⟩))), (5, (.pointer (some ⟨3, 0, none⟩))), (10, (.int .i64 0)), (11, (.pointer (some ⟨4, 0, none⟩)))]), ⟨5, 1, [(4, 0, .cells [(.slice (some ⟨1, (pre + 0), none⟩) 0 (c - 0)), (.int .i64 0), (.bool false), (.int .i64 0), (.int .u64 0), (.int .i64 0), (.int .u64 0), (.int .u64 0)] 45 true), (3, 0, .cells [(.int .u64 dk), (.int .i64 th), (.int .i64 ths), (.int .i64 kp), (.int .u64 sd), (.int .u64 0), (.int .i64 1)] 51 true), (2, 0, .cells [(.int .u64 dk), (.int .i64 th), (.int .i64 ths), (.int .i64 kp), (.int .u64 sd)] 24 true), (1, 0, .tail pre .u64 l e), (0, 0, .cells [(.int .i64 1), (.int .i64 64), (.int .i64 1), (.int .i64 64)] e0 false)]⟩⟩
theorem R15 (pre : Nat) (n : Nat) (c : Nat) (dk : Int) (th : Int) (ths : Int) (kp : Int) (sd : Int) (l : List Int) (e : TypeId) (e0 : TypeId) : evCK Tryd.prog cfgV (runK Tryd.prog cfgV fsV (conTk gDom gK) 12 40) 12 (codeAt [1, 1, 1, 1, 0, 1, 0, 0, 1, 0, 0, 0] B) (S10 pre n c dk th ths kp sd l e e0) (normC 2 [1, 2, 5, 10, 11]) =
  if (0 : Int) ≤ 0 ∧ 0 ≤ ((c : Nat) : Int) then
    bif (true && (Nat.ble 0 c)) then
      bif (Nat.beq c 0) then
        some (.normal, (S12 pre n c dk th ths kp sd l e e0))
      else
        some (.normal, (S13 pre n c dk th ths kp sd l e e0))
    else
      none
  else
    none := by kernel_rfl
theorem C1_1_1_1_0_1_0_0_1_0_0_1 : (codeAt [1, 1, 1, 1, 0, 1, 0, 0, 1, 0, 0, 1] B) = .seq (codeAt [1, 1, 1, 1, 0, 1, 0, 0, 1, 0, 0, 1, 0] B) (codeAt [1, 1, 1, 1, 0, 1, 0, 0, 1, 0, 0, 1, 1] B) := by kernel_rfl
noncomputable def S14 (pre : Nat) (n : Nat) (c : Nat) (l : List Int) (dk : Int) (th : Int) (ths : Int) (kp : Int) (sd : Int) (e : TypeId) (e0 : TypeId) : KSt := ⟨(frameL 120 [(1, (.slice (some ⟨1, pre, none⟩) n c)), (2, (.pointer (some ⟨2, 0, none⟩))), (5, (.pointer (some ⟨3, 0, none⟩))), (10, (.int .i64 0)), (11, (.pointer (some ⟨4, 0, none⟩))), (12, (.int .u64 (gRes (gst (List.take 0 (List.drop ((pre + 0) - pre) l))))))]), ⟨5, 1, [(4, 0, .cells [(.slice (some ⟨1, (pre + 0), none⟩) 0 (c - 0)), (.int .i64 ((gst (List.take 0 (List.drop ((pre + 0) - pre) l))).2.2)), (.bool (gOver (gst (List.take 0 (List.drop ((pre + 0) - pre) l))))), (.int .i64 (gKind (gst (List.take 0 (List.drop ((pre + 0) - pre) l))))), (.int .u64 (gBlk dk (gst (List.take 0 (List.drop ((pre + 0) - pre) l))))), (.int .i64 (gCell th (gst (List.take 0 (List.drop ((pre + 0) - pre) l))))), (.int .u64 0), (.int .u64 (gNew (gst (List.take 0 (List.drop ((pre + 0) - pre) l)))))] 45 true), (3, 0, .cells [(.int .u64 dk), (.int .i64 th), (.int .i64 ths), (.int .i64 kp), (.int .u64 sd), (.int .u64 0), (.int .i64 1)] 51 true), (2, 0, .cells [(.int .u64 dk), (.int .i64 th), (.int .i64 ths), (.int .i64 kp), (.int .u64 sd)] 24 true), (1, 0, .tail pre .u64 l e), (0, 0, .cells [(.int .i64 1), (.int .i64 64), (.int .i64 1), (.int .i64 64)] e0 false)]⟩⟩
theorem R16 (pre : Nat) (n : Nat) (c : Nat) (dk : Int) (th : Int) (ths : Int) (kp : Int) (sd : Int) (l : List Int) (e : TypeId) (e0 : TypeId) : evCK Tryd.prog cfgV (runK Tryd.prog cfgV fsV (conTk gDom gK) 12 40) 12 (codeAt [1, 1, 1, 1, 0, 1, 0, 0, 1, 0, 0, 1, 0] B) (S13 pre n c dk th ths kp sd l e e0) (normC 2 [1, 2, 5, 10, 11, 12]) =
  bif (Nat.ble 0 1000) then
    bif (Nat.ble pre (pre + 0)) then
      bif (Nat.ble (((pre + 0) - pre) + 0) (List.length l)) then
        some (.normal, (S14 pre n c l dk th ths kp sd e e0))
      else
        none
    else
      none
  else
    none := by kernel_rfl
theorem C1_1_1_1_0_1_0_0_1_0_0_1_1 : (codeAt [1, 1, 1, 1, 0, 1, 0, 0, 1, 0, 0, 1, 1] B) = .seq (codeAt [1, 1, 1, 1, 0, 1, 0, 0, 1, 0, 0, 1, 1, 0] B) (codeAt [1, 1, 1, 1, 0, 1, 0, 0, 1, 0, 0, 1, 1, 1] B) := by kernel_rfl
noncomputable def S15 (pre : Nat) (n : Nat) (c : Nat) (l : List Int) (dk : Int) (th : Int) (ths : Int) (kp : Int) (sd : Int) (e : TypeId) (e0 : TypeId) : KSt := ⟨(frameL 120 [(1, (.slice (some ⟨1, pre, none⟩) n c)), (2, (.pointer (some ⟨2, 0, none⟩))), (5, (.pointer (some ⟨3, 0, none⟩))), (10, (.int .i64 0)), (11, (.pointer (some ⟨4, 0, none⟩))), (12, (.int .u64 (gRes (gst (List.take 0 (List.drop ((pre + 0) - pre) l)))))), (13, (.int .u64 0)), (14, (.bool false))]), ⟨5, 1, [(4, 0, .cells [(.slice (some ⟨1, (pre + 0), none⟩) 0 (c - 0)), (.int .i64 ((gst (List.take 0 (List.drop ((pre + 0) - pre) l))).2.2)), (.bool (gOver (gst (List.take 0 (List.drop ((pre + 0) - pre) l))))), (.int .i64 (gKind (gst (List.take 0 (List.drop ((pre + 0) - pre) l))))), (.int .u64 (gBlk dk (gst (List.take 0 (List.drop ((pre + 0) - pre) l))))), (.int .i64 (gCell th (gst (List.take 0 (List.drop ((pre + 0) - pre) l))))), (.int .u64 0), (.int .u64 (gNew (gst (List.take 0 (List.drop ((pre + 0) - pre) l)))))] 45 true), (3, 0, .cells [(.int .u64 dk), (.int .i64 th), (.int .i64 ths), (.int .i64 kp), (.int .u64 sd), (.int .u64 0), (.int .i64 1)] 51 true), (2, 0, .cells [(.int .u64 dk), (.int .i64 th), (.int .i64 ths), (.int .i64 kp), (.int .u64 sd)] 24 true), (1, 0, .tail pre .u64 l e), (0, 0, .cells [(.int .i64 1), (.int .i64 64), (.int .i64 1), (.int .i64 64)] e0 false)]⟩⟩
theorem R17 (pre : Nat) (n : Nat) (c : Nat) (l : List Int) (dk : Int) (th : Int) (ths : Int) (kp : Int) (sd : Int) (e : TypeId) (e0 : TypeId) : evCK Tryd.prog cfgV (runK Tryd.prog cfgV fsV (conTk gDom gK) 12 40) 12 (codeAt [1, 1, 1, 1, 0, 1, 0, 0, 1, 0, 0, 1, 1, 0] B) (S14 pre n c l dk th ths kp sd e e0) (normC 2 [1, 2, 5, 10, 11, 12, 13, 14]) =
  some (.normal, (S15 pre n c l dk th ths kp sd e e0)) := by kernel_rfl
theorem C1_1_1_1_0_1_0_0_1_0_0_1_1_1 : (codeAt [1, 1, 1, 1, 0, 1, 0, 0, 1, 0, 0, 1, 1, 1] B) = .seq (codeAt [1, 1, 1, 1, 0, 1, 0, 0, 1, 0, 0, 1, 1, 1, 0] B) (codeAt [1, 1, 1, 1, 0, 1, 0, 0, 1, 0, 0, 1, 1, 1, 1] B) := by kernel_rfl
noncomputable def S16 (pre : Nat) (n : Nat) (c : Nat) (l : List Int) (dk : Int) (th : Int) (ths : Int) (kp : Int) (sd : Int) (e : TypeId) (e0 : TypeId) : KSt := ⟨(frameL 120 [(1, (.slice (some ⟨1, pre, none⟩) n c)), (2, (.pointer (some ⟨2, 0, none⟩))), (5, (.pointer (some ⟨3, 0, none⟩))), (10, (.int .i64 0)), (11, (.pointer (some ⟨4, 0, none⟩))), (12, (.int .u64 (gRes (gst (List.take 0 (List.drop ((pre + 0) - pre) l)))))), (13, (.int .u64 0)), (14, (.bool false)), (15, (.pointer (some ⟨5, 0, none⟩))), (16, (.bool true))]), ⟨6, 1, [(5, 0, .cells [(.int .i64 1), (.int .u64 dk), (.int .i64 0), (.int .u64 0), (.int .u64 0)] 37 true), (4, 0, .cells [(.slice (some ⟨1, (pre + 0), none⟩) 0 (c - 0)), (.int .i64 ((gst (List.take 0 (List.drop ((pre + 0) - pre) l))).2.2)), (.bool (gOver (gst (List.take 0 (List.drop ((pre + 0) - pre) l))))), (.int .i64 (gKind (gst (List.take 0 (List.drop ((pre + 0) - pre) l))))), (.int .u64 (gBlk dk (gst (List.take 0 (List.drop ((pre + 0) - pre) l))))), (.int .i64 (gCell th (gst (List.take 0 (List.drop ((pre + 0) - pre) l))))), (.int .u64 0), (.int .u64 (gNew (gst (List.take 0 (List.drop ((pre + 0) - pre) l)))))] 45 true), (3, 0, .cells [(.int .u64 dk), (.int .i64 th), (.int .i64 ths), (.int .i64 kp), (.int .u64 sd), (.int .u64 0), (.int .i64 1)] 51 true), (2, 0, .cells [(.int .u64 dk), (.int .i64 th), (.int .i64 ths), (.int .i64 kp), (.int .u64 sd)] 24 true), (1, 0, .tail pre .u64 l e), (0, 0, .cells [(.int .i64 1), (.int .i64 64), (.int .i64 1), (.int .i64 64)] e0 false)]⟩⟩
theorem R18 (pre : Nat) (n : Nat) (c : Nat) (l : List Int) (dk : Int) (th : Int) (ths : Int) (kp : Int) (sd : Int) (e : TypeId) (e0 : TypeId) : evCK Tryd.prog cfgV (runK Tryd.prog cfgV fsV (conTk gDom gK) 12 40) 12 (codeAt [1, 1, 1, 1, 0, 1, 0, 0, 1, 0, 0, 1, 1, 1, 0] B) (S15 pre n c l dk th ths kp sd e e0) (normC 2 [1, 2, 5, 10, 11, 12, 13, 14, 15, 16]) =
  some (.normal, (S16 pre n c l dk th ths kp sd e e0)) := by kernel_rfl
theorem C1_1_1_1_0_1_0_0_1_0_0_1_1_1_1 : (codeAt [1, 1, 1, 1, 0, 1, 0, 0, 1, 0, 0, 1, 1, 1, 1] B) = .seq (codeAt [1, 1, 1, 1, 0, 1, 0, 0, 1, 0, 0, 1, 1, 1, 1, 0] B) (codeAt [1, 1, 1, 1, 0, 1, 0, 0, 1, 0, 0, 1, 1, 1, 1, 1] B) := by kernel_rfl
theorem C1_1_1_1_0_1_0_0_1_0_0_1_1_1_1_0 : (codeAt [1, 1, 1, 1, 0, 1, 0, 0, 1, 0, 0, 1, 1, 1, 1, 0] B) = .seq (codeAt [1, 1, 1, 1, 0, 1, 0, 0, 1, 0, 0, 1, 1, 1, 1, 0, 0] B) (codeAt [1, 1, 1, 1, 0, 1, 0, 0, 1, 0, 0, 1, 1, 1, 1, 0, 1] B) := by kernel_rfl
noncomputable def S17 (pre : Nat) (n : Nat) (c : Nat) (dk : Int) (th : Int) (ths : Int) (kp : Int) (sd : Int) (l : List Int) (e : TypeId) (e0 : TypeId) : KSt := ⟨(frameL 120 [(1, (.slice (some ⟨1, pre, none⟩) n c)), (2, (.pointer (some ⟨2, 0, none⟩))), (5, (.pointer (some ⟨3, 0, none⟩))), (10, (.int .i64 0)), (108, (.bool true))]), ⟨4, 1, [(3, 0, .cells [(.int .u64 dk), (.int .i64 th), (.int .i64 ths), (.int .i64 kp), (.int .u64 sd), (.int .u64 0), (.int .i64 1)] 51 true), (2, 0, .cells [(.int .u64 dk), (.int .i64 th), (.int .i64 ths), (.int .i64 kp), (.int .u64 sd)] 24 true), (1, 0, .tail pre .u64 l e), (0, 0, .cells [(.int .i64 1), (.int .i64 64), (.int .i64 1), (.int .i64 64)] e0 false)]⟩⟩
noncomputable def S18 (pre : Nat) (n : Nat) (c : Nat) (dk : Int) (th : Int) (ths : Int) (kp : Int) (sd : Int) (l : List Int) (e : TypeId) (e0 : TypeId) : KSt := ⟨(frameL 120 [(1, (.slice (some ⟨1, pre, none⟩) n c)), (2, (.pointer (some ⟨2, 0, none⟩))), (5, (.pointer (some ⟨3, 0, none⟩))), (10, (.int .i64 0)), (108, (.bool false))]), ⟨4, 1, [(3, 0, .cells [(.int .u64 dk), (.int .i64 th), (.int .i64 ths), (.int .i64 kp), (.int .u64 sd), (.int .u64 0), (.int .i64 1)] 51 true), (2, 0, .cells [(.int .u64 dk), (.int .i64 th), (.int .i64 ths), (.int .i64 kp), (.int .u64 sd)] 24 true), (1, 0, .tail pre .u64 l e), (0, 0, .cells [(.int .i64 1), (.int .i64 64), (.int .i64 1), (.int .i64 64)] e0 false)]⟩⟩
theorem R19 (pre : Nat) (n : Nat) (c : Nat) (l : List Int) (dk : Int) (th : Int) (ths : Int) (kp : Int) (sd : Int) (e : TypeId) (e0 : TypeId) : evCK Tryd.prog cfgV (runK Tryd.prog cfgV fsV (conTk gDom gK) 12 40) 12 (codeAt [1, 1, 1, 1, 0, 1, 0, 0, 1, 0, 0, 1, 1, 1, 1, 0, 0] B) (S16 pre n c l dk th ths kp sd e e0) (normC 2 [1, 2, 5, 10, 108]) =
  bif (!(true == (gOver (gst (List.take 0 (List.drop ((pre + 0) - pre) l)))))) then
    some (.normal, (S17 pre n c dk th ths kp sd l e e0))
  else
    bif (!((1 == (gKind (gst (List.take 0 (List.drop ((pre + 0) - pre) l))))) && ((dk == (gBlk dk (gst (List.take 0 (List.drop ((pre + 0) - pre) l))))) && ((0 == (gCell th (gst (List.take 0 (List.drop ((pre + 0) - pre) l))))) && (true && ((0 == (gNew (gst (List.take 0 (List.drop ((pre + 0) - pre) l))))) && true)))))) then
      some (.normal, (S17 pre n c dk th ths kp sd l e e0))
    else
      bif (false == (gOver (gst (List.take 0 (List.drop ((pre + 0) - pre) l))))) then
        some (.normal, (S17 pre n c dk th ths kp sd l e e0))
      else
        some (.normal, (S18 pre n c dk th ths kp sd l e e0)) := by kernel_rfl
theorem C1_1_1_1_0_1_0_0_1_0_0_1_1_1_1_0_1 : (codeAt [1, 1, 1, 1, 0, 1, 0, 0, 1, 0, 0, 1, 1, 1, 1, 0, 1] B) = .cond (.tmp 108) (codeAt [1, 1, 1, 1, 0, 1, 0, 0, 1, 0, 0, 1, 1, 1, 1, 0, 1, 0] B) (codeAt [1, 1, 1, 1, 0, 1, 0, 0, 1, 0, 0, 1, 1, 1, 1, 0, 1, 1] B) := by kernel_rfl
theorem R20 (pre : Nat) (n : Nat) (c : Nat) (dk : Int) (th : Int) (ths : Int) (kp : Int) (sd : Int) (l : List Int) (e : TypeId) (e0 : TypeId) : evCK Tryd.prog cfgV (runK Tryd.prog cfgV fsV (conTk gDom gK) 12 40) 12 (codeAt [1, 1, 1, 1, 0, 1, 0, 0, 1, 0, 0, 1, 1, 1, 1, 0, 1, 1] B) (S18 pre n c dk th ths kp sd l e e0) (normC 2 [1, 2, 5, 10]) =
  some (.normal, (S10 pre n c dk th ths kp sd l e e0)) := by kernel_rfl
theorem C1_1_1_1_0_1_0_0_1_0_0_1_1_1_1_1 : (codeAt [1, 1, 1, 1, 0, 1, 0, 0, 1, 0, 0, 1, 1, 1, 1, 1] B) = .seq (codeAt [1, 1, 1, 1, 0, 1, 0, 0, 1, 0, 0, 1, 1, 1, 1, 1, 0] B) (codeAt [1, 1, 1, 1, 0, 1, 0, 0, 1, 0, 0, 1, 1, 1, 1, 1, 1] B) := by kernel_rfl
noncomputable def S19 (pre : Nat) (n : Nat) (c : Nat) (dk : Int) (th : Int) (ths : Int) (kp : Int) (sd : Int) (l : List Int) (e : TypeId) (e0 : TypeId) : KSt := ⟨(frameL 120 [(1, (.slice (some ⟨1, pre, none⟩) n c)), (2, (.pointer (some ⟨2, 0, none⟩))), (5, (.pointer (some ⟨3, 0, none⟩))), (10, (.int .i64 0)), (112, (.bool (decide (0 < ((n : Nat) : Int)))))]), ⟨4, 1, [(3, 0, .cells [(.int .u64 dk), (.int .i64 th), (.int .i64 ths), (.int .i64 kp), (.int .u64 sd), (.int .u64 0), (.int .i64 1)] 51 true), (2, 0, .cells [(.int .u64 dk), (.int .i64 th), (.int .i64 ths), (.int .i64 kp), (.int .u64 sd)] 24 true), (1, 0, .tail pre .u64 l e), (0, 0, .cells [(.int .i64 1), (.int .i64 64), (.int .i64 1), (.int .i64 64)] e0 false)]⟩⟩
theorem R21 (pre : Nat) (n : Nat) (c : Nat) (dk : Int) (th : Int) (ths : Int) (kp : Int) (sd : Int) (l : List Int) (e : TypeId) (e0 : TypeId) : evCK Tryd.prog cfgV (runK Tryd.prog cfgV fsV (conTk gDom gK) 12 40) 12 (codeAt [1, 1, 1, 1, 0, 1, 0, 0, 1, 0, 0, 1, 1, 1, 1, 1, 0] B) (S10 pre n c dk th ths kp sd l e e0) (normC 2 [1, 2, 5, 10, 112]) =
  some (.normal, (S19 pre n c dk th ths kp sd l e e0)) := by kernel_rfl
theorem C1_1_1_1_0_1_0_0_1_0_0_1_1_1_1_1_1 : (codeAt [1, 1, 1, 1, 0, 1, 0, 0, 1, 0, 0, 1, 1, 1, 1, 1, 1] B) = .cond (.tmp 112) (codeAt [1, 1, 1, 1, 0, 1, 0, 0, 1, 0, 0, 1, 1, 1, 1, 1, 1, 0] B) (codeAt [1, 1, 1, 1, 0, 1, 0, 0, 1, 0, 0, 1, 1, 1, 1, 1, 1, 1] B) := by kernel_rfl
noncomputable def S20 (pre : Nat) (n : Nat) (c : Nat) (dk : Int) (th : Int) (ths : Int) (kp : Int) (sd : Int) (n1 : Int) (l : List Int) (e : TypeId) (e0 : TypeId) : KSt := ⟨(frameL 120 [(1, (.slice (some ⟨1, pre, none⟩) n c)), (2, (.pointer (some ⟨2, 0, none⟩))), (5, (.pointer (some ⟨3, 0, none⟩))), (10, (.int .i64 0))]), ⟨4, 1, [(3, 0, .cells [(.int .u64 dk), (.int .i64 th), (.int .i64 ths), (.int .i64 kp), (.int .u64 sd), (.int .u64 n1), (.int .i64 2)] 51 true), (2, 0, .cells [(.int .u64 dk), (.int .i64 th), (.int .i64 ths), (.int .i64 kp), (.int .u64 sd)] 24 true), (1, 0, .tail pre .u64 l e), (0, 0, .cells [(.int .i64 1), (.int .i64 64), (.int .i64 1), (.int .i64 64)] e0 false)]⟩⟩
theorem R22 (pre : Nat) (n : Nat) (c : Nat) (dk : Int) (th : Int) (ths : Int) (kp : Int) (sd : Int) (l : List Int) (e : TypeId) (e0 : TypeId) : evCK Tryd.prog cfgV (runK Tryd.prog cfgV fsV (conTk gDom gK) 12 40) 12 (codeAt [1, 1, 1, 1, 0, 1, 0, 0, 1, 0, 0, 1, 1, 1, 1, 1, 1, 0] B) (S19 pre n c dk th ths kp sd l e e0) (normC 2 [1, 2, 5, 10]) =
  if (0 : Int) ≤ 0 ∧ 0 < ((n : Nat) : Int) then
    bif (Nat.ble pre (pre + 0)) then
      obind (l[((pre + 0) - pre)]?) fun n1 =>
        some (.normal, (S20 pre n c dk th ths kp sd n1 l e e0))
    else
      none
  else
    none := by kernel_rfl
noncomputable def S21 (pre : Nat) (n : Nat) (c : Nat) (dk : Int) (th : Int) (ths : Int) (kp : Int) (sd : Int) (l : List Int) (e : TypeId) (e0 : TypeId) : KSt := ⟨(frameL 120 [(1, (.slice (some ⟨1, pre, none⟩) n c)), (2, (.pointer (some ⟨2, 0, none⟩))), (5, (.pointer (some ⟨3, 0, none⟩))), (10, (.int .i64 0))]), ⟨4, 1, [(3, 0, .cells [(.int .u64 dk), (.int .i64 th), (.int .i64 ths), (.int .i64 kp), (.int .u64 sd), (.int .u64 (l.getD 0 0)), (.int .i64 2)] 51 true), (2, 0, .cells [(.int .u64 dk), (.int .i64 th), (.int .i64 ths), (.int .i64 kp), (.int .u64 sd)] 24 true), (1, 0, .tail pre .u64 l e), (0, 0, .cells [(.int .i64 1), (.int .i64 64), (.int .i64 1), (.int .i64 64)] e0 false)]⟩⟩
noncomputable def S22 (pre : Nat) (n : Nat) (c : Nat) (dk : Int) (th : Int) (ths : Int) (kp : Int) (sd : Int) (l : List Int) (e : TypeId) (e0 : TypeId) : KSt := ⟨(frameL 120 [(1, (.slice (some ⟨1, pre, none⟩) n c)), (2, (.pointer (some ⟨2, 0, none⟩))), (5, (.pointer (some ⟨3, 0, none⟩))), (10, (.int .i64 1))]), ⟨4, 1, [(3, 0, .cells [(.int .u64 dk), (.int .i64 th), (.int .i64 ths), (.int .i64 kp), (.int .u64 sd), (.int .u64 (l.getD 0 0)), (.int .i64 2)] 51 true), (2, 0, .cells [(.int .u64 dk), (.int .i64 th), (.int .i64 ths), (.int .i64 kp), (.int .u64 sd)] 24 true), (1, 0, .tail pre .u64 l e), (0, 0, .cells [(.int .i64 1), (.int .i64 64), (.int .i64 1), (.int .i64 64)] e0 false)]⟩⟩
theorem R23 (pre : Nat) (n : Nat) (c : Nat) (dk : Int) (th : Int) (ths : Int) (kp : Int) (sd : Int) (l : List Int) (e : TypeId) (e0 : TypeId) : evCK Tryd.prog cfgV (runK Tryd.prog cfgV fsV (conTk gDom gK) 12 40) 12 (codeAt [1, 1, 1, 1, 0, 1, 0, 0, 1, 1] B) (S21 pre n c dk th ths kp sd l e e0) (normC 2 [1, 2, 5, 10]) =
  some (.normal, (S22 pre n c dk th ths kp sd l e e0)) := by kernel_rfl
theorem s1m (dk th ths kp sd r i a : Int) (pre n c : Nat) (l : List Int) (e0 e : TypeId) (hdk : 0 ≤ dk) (hn40 : n ≤ 40) (hc : n ≤ c) (hc2 : c ≤ 9223372036854775807) (hl : l.length = c) (hc0 : 0 < c) (hR : rightV dk th ths kp = true) (hn : 0 < (n : Int)) (hGd : gst (List.take 0 (List.drop ((pre + 0) - pre) l)) = (1, 0, 0))   {Q : Ex → St → Prop} (hq : Q .normal (KSt.low (S22 pre n c dk th ths kp sd l e e0))) : Gets Tryd.prog (KH.low ⟨2, 1, [(1, 0, .tail pre .u64 l e), (0, 0, .cells [(.int .i64 1), (.int .i64 64), (.int .i64 1), (.int .i64 64)] e0 false)]⟩) (codeAt [1, 1, 1, 1, 0, 1, 0, 0] B) (KSt.low (S10 pre n c dk th ths kp sd l e e0)) Q := by
  rw [C1_1_1_1_0_1_0_0]; refine Gets.seq ?_
  rw [C1_1_1_1_0_1_0_0_0]; refine Gets.seq ?_
  refine Gets.ofN fitV g_sound g_agree 12 40 (by kernel_rfl) (x := .normal) (s' := (S11 pre n c dk th ths kp sd l e e0)) (R13 pre n c dk th ths kp sd l e e0) ?_
  show Gets _ _ (codeAt [1, 1, 1, 1, 0, 1, 0, 0, 0, 1] B) _ _
  rw [C1_1_1_1_0_1_0_0_0_1]; refine Gets.cond true (by kernel_rfl) ((show evalX (KSt.ts (S11 pre n c dk th ths kp sd l e e0)) (.tmp 50) = .bool (decide (0 ≤ ((n : Nat) : Int))) by kernel_rfl).trans (by rw [(show (decide (0 ≤ ((n : Nat) : Int))) = true from decide_eq_true (by omega))])) ?_; show Gets _ _ (codeAt [1, 1, 1, 1, 0, 1, 0, 0, 0, 1, 0] B) _ _
  refine Gets.ofN fitV g_sound g_agree 12 40 (by kernel_rfl) (x := .normal) (s' := (S10 pre n c dk th ths kp sd l e e0)) (R14 pre n c dk th ths kp sd l e e0) ?_
  show Gets _ _ (codeAt [1, 1, 1, 1, 0, 1, 0, 0, 1] B) _ _
  rw [C1_1_1_1_0_1_0_0_1]; refine Gets.seq ?_
  rw [C1_1_1_1_0_1_0_0_1_0]; refine Gets.block ?_
  rw [C1_1_1_1_0_1_0_0_1_0_0]; refine Gets.seq ?_
  refine Gets.ofN fitV g_sound g_agree 12 40 (by kernel_rfl) (x := .normal) (s' := (S13 pre n c dk th ths kp sd l e e0)) ((R15 pre n c dk th ths kp sd l e e0).trans (by rw [if_pos (⟨by omega, by omega⟩), condT (and_t (rfl) (ble_t (by omega))), condF (nbeq_f (by omega))])) ?_
  show Gets _ _ (codeAt [1, 1, 1, 1, 0, 1, 0, 0, 1, 0, 0, 1] B) _ _
  rw [C1_1_1_1_0_1_0_0_1_0_0_1]; refine Gets.seq ?_
  refine Gets.ofN fitV g_sound g_agree 12 40 (by kernel_rfl) (x := .normal) (s' := (S14 pre n c l dk th ths kp sd e e0)) ((R16 pre n c dk th ths kp sd l e e0).trans (by rw [condT (ble_t (by omega)), condT (ble_t (by omega)), condT (ble_t (by omega))])) ?_
  show Gets _ _ (codeAt [1, 1, 1, 1, 0, 1, 0, 0, 1, 0, 0, 1, 1] B) _ _
  rw [C1_1_1_1_0_1_0_0_1_0_0_1_1]; refine Gets.seq ?_
  refine Gets.ofN fitV g_sound g_agree 12 40 (by kernel_rfl) (x := .normal) (s' := (S15 pre n c l dk th ths kp sd e e0)) (R17 pre n c l dk th ths kp sd e e0) ?_
  show Gets _ _ (codeAt [1, 1, 1, 1, 0, 1, 0, 0, 1, 0, 0, 1, 1, 1] B) _ _
  rw [C1_1_1_1_0_1_0_0_1_0_0_1_1_1]; refine Gets.seq ?_
  refine Gets.ofN fitV g_sound g_agree 12 40 (by kernel_rfl) (x := .normal) (s' := (S16 pre n c l dk th ths kp sd e e0)) (R18 pre n c l dk th ths kp sd e e0) ?_
  show Gets _ _ (codeAt [1, 1, 1, 1, 0, 1, 0, 0, 1, 0, 0, 1, 1, 1, 1] B) _ _
  rw [C1_1_1_1_0_1_0_0_1_0_0_1_1_1_1]; refine Gets.seq ?_
  rw [C1_1_1_1_0_1_0_0_1_0_0_1_1_1_1_0]; refine Gets.seq ?_
  refine Gets.ofN fitV g_sound g_agree 12 40 (by kernel_rfl) (x := .normal) (s' := (S18 pre n c dk th ths kp sd l e e0)) ((R19 pre n c l dk th ths kp sd e e0).trans (by rw [condF (not_f (by rw [hGd]; simp [gOver, gKind, gBlk, gCell, gNew, gRes])), condF (not_f (and_t (by rw [hGd]; simp [gOver, gKind, gBlk, gCell, gNew, gRes]) (and_t (by rw [hGd]; simp [gOver, gKind, gBlk, gCell, gNew, gRes]) (and_t (by rw [hGd]; simp [gOver, gKind, gBlk, gCell, gNew, gRes]) (and_t (rfl) (and_t (by rw [hGd]; simp [gOver, gKind, gBlk, gCell, gNew, gRes]) (rfl))))))), condF (by rw [hGd]; simp [gOver, gKind, gBlk, gCell, gNew, gRes])])) ?_
  show Gets _ _ (codeAt [1, 1, 1, 1, 0, 1, 0, 0, 1, 0, 0, 1, 1, 1, 1, 0, 1] B) _ _
  rw [C1_1_1_1_0_1_0_0_1_0_0_1_1_1_1_0_1]; refine Gets.cond false (by kernel_rfl) (show evalX (KSt.ts (S18 pre n c dk th ths kp sd l e e0)) (.tmp 108) = .bool false by kernel_rfl) ?_; show Gets _ _ (codeAt [1, 1, 1, 1, 0, 1, 0, 0, 1, 0, 0, 1, 1, 1, 1, 0, 1, 1] B) _ _
  refine Gets.ofN fitV g_sound g_agree 12 40 (by kernel_rfl) (x := .normal) (s' := (S10 pre n c dk th ths kp sd l e e0)) (R20 pre n c dk th ths kp sd l e e0) ?_
  show Gets _ _ (codeAt [1, 1, 1, 1, 0, 1, 0, 0, 1, 0, 0, 1, 1, 1, 1, 1] B) _ _
  rw [C1_1_1_1_0_1_0_0_1_0_0_1_1_1_1_1]; refine Gets.seq ?_
  refine Gets.ofN fitV g_sound g_agree 12 40 (by kernel_rfl) (x := .normal) (s' := (S19 pre n c dk th ths kp sd l e e0)) (R21 pre n c dk th ths kp sd l e e0) ?_
  show Gets _ _ (codeAt [1, 1, 1, 1, 0, 1, 0, 0, 1, 0, 0, 1, 1, 1, 1, 1, 1] B) _ _
  rw [C1_1_1_1_0_1_0_0_1_0_0_1_1_1_1_1_1]; refine Gets.cond true (by kernel_rfl) ((show evalX (KSt.ts (S19 pre n c dk th ths kp sd l e e0)) (.tmp 112) = .bool (decide (0 < ((n : Nat) : Int))) by kernel_rfl).trans (by rw [(show (decide (0 < ((n : Nat) : Int))) = true from decide_eq_true (by omega))])) ?_; show Gets _ _ (codeAt [1, 1, 1, 1, 0, 1, 0, 0, 1, 0, 0, 1, 1, 1, 1, 1, 1, 0] B) _ _
  refine Gets.ofN fitV g_sound g_agree 12 40 (by kernel_rfl) (x := .normal) (s' := (S21 pre n c dk th ths kp sd l e e0)) ((R22 pre n c dk th ths kp sd l e e0).trans (by rw [if_pos (⟨by omega, by omega⟩), condT (ble_t (by omega)), obind_at (k := 0) (by omega) (by omega)] <;> rfl)) ?_
  show Gets _ _ (codeAt [1, 1, 1, 1, 0, 1, 0, 0, 1, 1] B) _ _
  refine Gets.ofN fitV g_sound g_agree 12 40 (by kernel_rfl) (x := .normal) (s' := (S22 pre n c dk th ths kp sd l e e0)) (R23 pre n c dk th ths kp sd l e e0) ?_
  exact hq
theorem R24 (pre : Nat) (n : Nat) (c : Nat) (dk : Int) (th : Int) (ths : Int) (kp : Int) (sd : Int) (l : List Int) (e : TypeId) (e0 : TypeId) : evCK Tryd.prog cfgV (runK Tryd.prog cfgV fsV (conTk gDom gK) 12 40) 12 (codeAt [1, 1, 1, 1, 0, 1, 0, 0, 1, 0, 0, 1, 1, 1, 1, 1, 1, 1] B) (S19 pre n c dk th ths kp sd l e e0) (normC 2 [1, 2, 5, 10]) =
  some (.normal, (S10 pre n c dk th ths kp sd l e e0)) := by kernel_rfl
noncomputable def S23 (pre : Nat) (n : Nat) (c : Nat) (dk : Int) (th : Int) (ths : Int) (kp : Int) (sd : Int) (l : List Int) (e : TypeId) (e0 : TypeId) : KSt := ⟨(frameL 120 [(1, (.slice (some ⟨1, pre, none⟩) n c)), (2, (.pointer (some ⟨2, 0, none⟩))), (5, (.pointer (some ⟨3, 0, none⟩))), (10, (.int .i64 1))]), ⟨4, 1, [(3, 0, .cells [(.int .u64 dk), (.int .i64 th), (.int .i64 ths), (.int .i64 kp), (.int .u64 sd), (.int .u64 0), (.int .i64 1)] 51 true), (2, 0, .cells [(.int .u64 dk), (.int .i64 th), (.int .i64 ths), (.int .i64 kp), (.int .u64 sd)] 24 true), (1, 0, .tail pre .u64 l e), (0, 0, .cells [(.int .i64 1), (.int .i64 64), (.int .i64 1), (.int .i64 64)] e0 false)]⟩⟩
theorem R25 (pre : Nat) (n : Nat) (c : Nat) (dk : Int) (th : Int) (ths : Int) (kp : Int) (sd : Int) (l : List Int) (e : TypeId) (e0 : TypeId) : evCK Tryd.prog cfgV (runK Tryd.prog cfgV fsV (conTk gDom gK) 12 40) 12 (codeAt [1, 1, 1, 1, 0, 1, 0, 0, 1, 1] B) (S10 pre n c dk th ths kp sd l e e0) (normC 2 [1, 2, 5, 10]) =
  some (.normal, (S23 pre n c dk th ths kp sd l e e0)) := by kernel_rfl
theorem s1e (dk th ths kp sd r i a : Int) (pre n c : Nat) (l : List Int) (e0 e : TypeId) (hdk : 0 ≤ dk) (hn40 : n ≤ 40) (hc : n ≤ c) (hc2 : c ≤ 9223372036854775807) (hl : l.length = c) (hc0 : 0 < c) (hR : rightV dk th ths kp = true) (hn : 0 = (n : Int)) (hGd : gst (List.take 0 (List.drop ((pre + 0) - pre) l)) = (1, 0, 0))   {Q : Ex → St → Prop} (hq : Q .normal (KSt.low (S23 pre n c dk th ths kp sd l e e0))) : Gets Tryd.prog (KH.low ⟨2, 1, [(1, 0, .tail pre .u64 l e), (0, 0, .cells [(.int .i64 1), (.int .i64 64), (.int .i64 1), (.int .i64 64)] e0 false)]⟩) (codeAt [1, 1, 1, 1, 0, 1, 0, 0] B) (KSt.low (S10 pre n c dk th ths kp sd l e e0)) Q := by
  rw [C1_1_1_1_0_1_0_0]; refine Gets.seq ?_
  rw [C1_1_1_1_0_1_0_0_0]; refine Gets.seq ?_
  refine Gets.ofN fitV g_sound g_agree 12 40 (by kernel_rfl) (x := .normal) (s' := (S11 pre n c dk th ths kp sd l e e0)) (R13 pre n c dk th ths kp sd l e e0) ?_
  show Gets _ _ (codeAt [1, 1, 1, 1, 0, 1, 0, 0, 0, 1] B) _ _
  rw [C1_1_1_1_0_1_0_0_0_1]; refine Gets.cond true (by kernel_rfl) ((show evalX (KSt.ts (S11 pre n c dk th ths kp sd l e e0)) (.tmp 50) = .bool (decide (0 ≤ ((n : Nat) : Int))) by kernel_rfl).trans (by rw [(show (decide (0 ≤ ((n : Nat) : Int))) = true from decide_eq_true (by omega))])) ?_; show Gets _ _ (codeAt [1, 1, 1, 1, 0, 1, 0, 0, 0, 1, 0] B) _ _
  refine Gets.ofN fitV g_sound g_agree 12 40 (by kernel_rfl) (x := .normal) (s' := (S10 pre n c dk th ths kp sd l e e0)) (R14 pre n c dk th ths kp sd l e e0) ?_
  show Gets _ _ (codeAt [1, 1, 1, 1, 0, 1, 0, 0, 1] B) _ _
  rw [C1_1_1_1_0_1_0_0_1]; refine Gets.seq ?_
  rw [C1_1_1_1_0_1_0_0_1_0]; refine Gets.block ?_
  rw [C1_1_1_1_0_1_0_0_1_0_0]; refine Gets.seq ?_
  refine Gets.ofN fitV g_sound g_agree 12 40 (by kernel_rfl) (x := .normal) (s' := (S13 pre n c dk th ths kp sd l e e0)) ((R15 pre n c dk th ths kp sd l e e0).trans (by rw [if_pos (⟨by omega, by omega⟩), condT (and_t (rfl) (ble_t (by omega))), condF (nbeq_f (by omega))])) ?_
  show Gets _ _ (codeAt [1, 1, 1, 1, 0, 1, 0, 0, 1, 0, 0, 1] B) _ _
  rw [C1_1_1_1_0_1_0_0_1_0_0_1]; refine Gets.seq ?_
  refine Gets.ofN fitV g_sound g_agree 12 40 (by kernel_rfl) (x := .normal) (s' := (S14 pre n c l dk th ths kp sd e e0)) ((R16 pre n c dk th ths kp sd l e e0).trans (by rw [condT (ble_t (by omega)), condT (ble_t (by omega)), condT (ble_t (by omega))])) ?_
  show Gets _ _ (codeAt [1, 1, 1, 1, 0, 1, 0, 0, 1, 0, 0, 1, 1] B) _ _
  rw [C1_1_1_1_0_1_0_0_1_0_0_1_1]; refine Gets.seq ?_
  refine Gets.ofN fitV g_sound g_agree 12 40 (by kernel_rfl) (x := .normal) (s' := (S15 pre n c l dk th ths kp sd e e0)) (R17 pre n c l dk th ths kp sd e e0) ?_
  show Gets _ _ (codeAt [1, 1, 1, 1, 0, 1, 0, 0, 1, 0, 0, 1, 1, 1] B) _ _
  rw [C1_1_1_1_0_1_0_0_1_0_0_1_1_1]; refine Gets.seq ?_
  refine Gets.ofN fitV g_sound g_agree 12 40 (by kernel_rfl) (x := .normal) (s' := (S16 pre n c l dk th ths kp sd e e0)) (R18 pre n c l dk th ths kp sd e e0) ?_
  show Gets _ _ (codeAt [1, 1, 1, 1, 0, 1, 0, 0, 1, 0, 0, 1, 1, 1, 1] B) _ _
  rw [C1_1_1_1_0_1_0_0_1_0_0_1_1_1_1]; refine Gets.seq ?_
  rw [C1_1_1_1_0_1_0_0_1_0_0_1_1_1_1_0]; refine Gets.seq ?_
  refine Gets.ofN fitV g_sound g_agree 12 40 (by kernel_rfl) (x := .normal) (s' := (S18 pre n c dk th ths kp sd l e e0)) ((R19 pre n c l dk th ths kp sd e e0).trans (by rw [condF (not_f (by rw [hGd]; simp [gOver, gKind, gBlk, gCell, gNew, gRes])), condF (not_f (and_t (by rw [hGd]; simp [gOver, gKind, gBlk, gCell, gNew, gRes]) (and_t (by rw [hGd]; simp [gOver, gKind, gBlk, gCell, gNew, gRes]) (and_t (by rw [hGd]; simp [gOver, gKind, gBlk, gCell, gNew, gRes]) (and_t (rfl) (and_t (by rw [hGd]; simp [gOver, gKind, gBlk, gCell, gNew, gRes]) (rfl))))))), condF (by rw [hGd]; simp [gOver, gKind, gBlk, gCell, gNew, gRes])])) ?_
  show Gets _ _ (codeAt [1, 1, 1, 1, 0, 1, 0, 0, 1, 0, 0, 1, 1, 1, 1, 0, 1] B) _ _
  rw [C1_1_1_1_0_1_0_0_1_0_0_1_1_1_1_0_1]; refine Gets.cond false (by kernel_rfl) (show evalX (KSt.ts (S18 pre n c dk th ths kp sd l e e0)) (.tmp 108) = .bool false by kernel_rfl) ?_; show Gets _ _ (codeAt [1, 1, 1, 1, 0, 1, 0, 0, 1, 0, 0, 1, 1, 1, 1, 0, 1, 1] B) _ _
  refine Gets.ofN fitV g_sound g_agree 12 40 (by kernel_rfl) (x := .normal) (s' := (S10 pre n c dk th ths kp sd l e e0)) (R20 pre n c dk th ths kp sd l e e0) ?_
  show Gets _ _ (codeAt [1, 1, 1, 1, 0, 1, 0, 0, 1, 0, 0, 1, 1, 1, 1, 1] B) _ _
  rw [C1_1_1_1_0_1_0_0_1_0_0_1_1_1_1_1]; refine Gets.seq ?_
  refine Gets.ofN fitV g_sound g_agree 12 40 (by kernel_rfl) (x := .normal) (s' := (S19 pre n c dk th ths kp sd l e e0)) (R21 pre n c dk th ths kp sd l e e0) ?_
  show Gets _ _ (codeAt [1, 1, 1, 1, 0, 1, 0, 0, 1, 0, 0, 1, 1, 1, 1, 1, 1] B) _ _
  rw [C1_1_1_1_0_1_0_0_1_0_0_1_1_1_1_1_1]; refine Gets.cond false (by kernel_rfl) ((show evalX (KSt.ts (S19 pre n c dk th ths kp sd l e e0)) (.tmp 112) = .bool (decide (0 < ((n : Nat) : Int))) by kernel_rfl).trans (by rw [(show (decide (0 < ((n : Nat) : Int))) = false from decide_eq_false (by omega))])) ?_; show Gets _ _ (codeAt [1, 1, 1, 1, 0, 1, 0, 0, 1, 0, 0, 1, 1, 1, 1, 1, 1, 1] B) _ _
  refine Gets.ofN fitV g_sound g_agree 12 40 (by kernel_rfl) (x := .normal) (s' := (S10 pre n c dk th ths kp sd l e e0)) (R24 pre n c dk th ths kp sd l e e0) ?_
  show Gets _ _ (codeAt [1, 1, 1, 1, 0, 1, 0, 0, 1, 1] B) _ _
  refine Gets.ofN fitV g_sound g_agree 12 40 (by kernel_rfl) (x := .normal) (s' := (S23 pre n c dk th ths kp sd l e e0)) (R25 pre n c dk th ths kp sd l e e0) ?_
  exact hq
noncomputable def S24 (pre : Nat) (n : Nat) (c : Nat) (i : Int) (dk : Int) (th : Int) (ths : Int) (kp : Int) (sd : Int) (r : Int) (l : List Int) (e : TypeId) (e0 : TypeId) : KSt := ⟨(frameL 120 [(1, (.slice (some ⟨1, pre, none⟩) n c)), (2, (.pointer (some ⟨2, 0, none⟩))), (5, (.pointer (some ⟨3, 0, none⟩))), (10, (.int .i64 i))]), ⟨4, 1, [(3, 0, .cells [(.int .u64 dk), (.int .i64 th), (.int .i64 ths), (.int .i64 kp), (.int .u64 sd), (.int .u64 r), (.int .i64 2)] 51 true), (2, 0, .cells [(.int .u64 dk), (.int .i64 th), (.int .i64 ths), (.int .i64 kp), (.int .u64 sd)] 24 true), (1, 0, .tail pre .u64 l e), (0, 0, .cells [(.int .i64 1), (.int .i64 64), (.int .i64 1), (.int .i64 64)] e0 false)]⟩⟩
noncomputable def S25 (pre : Nat) (n : Nat) (c : Nat) (i : Int) (dk : Int) (th : Int) (ths : Int) (kp : Int) (sd : Int) (r : Int) (l : List Int) (e : TypeId) (e0 : TypeId) : KSt := ⟨(frameL 120 [(1, (.slice (some ⟨1, pre, none⟩) n c)), (2, (.pointer (some ⟨2, 0, none⟩))), (5, (.pointer (some ⟨3, 0, none⟩))), (10, (.int .i64 i)), (50, (.bool (decide (i ≤ ((n : Nat) : Int)))))]), ⟨4, 1, [(3, 0, .cells [(.int .u64 dk), (.int .i64 th), (.int .i64 ths), (.int .i64 kp), (.int .u64 sd), (.int .u64 r), (.int .i64 2)] 51 true), (2, 0, .cells [(.int .u64 dk), (.int .i64 th), (.int .i64 ths), (.int .i64 kp), (.int .u64 sd)] 24 true), (1, 0, .tail pre .u64 l e), (0, 0, .cells [(.int .i64 1), (.int .i64 64), (.int .i64 1), (.int .i64 64)] e0 false)]⟩⟩
theorem R26 (pre : Nat) (n : Nat) (c : Nat) (i : Int) (dk : Int) (th : Int) (ths : Int) (kp : Int) (sd : Int) (r : Int) (l : List Int) (e : TypeId) (e0 : TypeId) : evCK Tryd.prog cfgV (runK Tryd.prog cfgV fsV (conTk gDom gK) 12 40) 12 (codeAt [1, 1, 1, 1, 0, 1, 0, 0, 0, 0] B) (S24 pre n c i dk th ths kp sd r l e e0) (normC 2 [1, 2, 5, 10, 50]) =
  some (.normal, (S25 pre n c i dk th ths kp sd r l e e0)) := by kernel_rfl
theorem R27 (pre : Nat) (n : Nat) (c : Nat) (i : Int) (dk : Int) (th : Int) (ths : Int) (kp : Int) (sd : Int) (r : Int) (l : List Int) (e : TypeId) (e0 : TypeId) : evCK Tryd.prog cfgV (runK Tryd.prog cfgV fsV (conTk gDom gK) 12 40) 12 (codeAt [1, 1, 1, 1, 0, 1, 0, 0, 0, 1, 0] B) (S25 pre n c i dk th ths kp sd r l e e0) (normC 2 [1, 2, 5, 10]) =
  some (.normal, (S24 pre n c i dk th ths kp sd r l e e0)) := by kernel_rfl
noncomputable def S26 (pre : Nat) (n : Nat) (c : Nat) (i : Int) (dk : Int) (th : Int) (ths : Int) (kp : Int) (sd : Int) (r : Int) (l : List Int) (e : TypeId) (e0 : TypeId) : KSt := ⟨(frameL 120 [(1, (.slice (some ⟨1, pre, none⟩) n c)), (2, (.pointer (some ⟨2, 0, none⟩))), (5, (.pointer (some ⟨3, 0, none⟩))), (10, (.int .i64 i)), (11, (.pointer (some ⟨4, 0, none⟩)))]), ⟨5, 1, [(4, 0, .cells [(.slice (some ⟨1, pre, none⟩) ((Int.toNat i) - 0) (c - 0)), (.int .i64 0), (.bool false), (.int .i64 0), (.int .u64 0), (.int .i64 0), (.int .u64 0), (.int .u64 0)] 45 true), (3, 0, .cells [(.int .u64 dk), (.int .i64 th), (.int .i64 ths), (.int .i64 kp), (.int .u64 sd), (.int .u64 r), (.int .i64 2)] 51 true), (2, 0, .cells [(.int .u64 dk), (.int .i64 th), (.int .i64 ths), (.int .i64 kp), (.int .u64 sd)] 24 true), (1, 0, .tail pre .u64 l e), (0, 0, .cells [(.int .i64 1), (.int .i64 64), (.int .i64 1), (.int .i64 64)] e0 false)]⟩⟩
noncomputable def S27 (pre : Nat) (n : Nat) (c : Nat) (i : Int) (dk : Int) (th : Int) (ths : Int) (kp : Int) (sd : Int) (r : Int) (l : List Int) (e : TypeId) (e0 : TypeId) : KSt := ⟨(frameL 120 [(1, (.slice (some ⟨1, pre, none⟩) n c)), (2, (.pointer (some ⟨2, 0, none⟩))), (5, (.pointer (some ⟨3, 0, none⟩))), (10, (.int .i64 i)), (11, (.pointer (some ⟨4, 0, none⟩)))]), ⟨5, 1, [(4, 0, .cells [(.slice (some ⟨1, (pre + 0), none⟩) ((Int.toNat i) - 0) (c - 0)), (.int .i64 0), (.bool false), (.int .i64 0), (.int .u64 0), (.int .i64 0), (.int .u64 0), (.int .u64 0)] 45 true), (3, 0, .cells [(.int .u64 dk), (.int .i64 th), (.int .i64 ths), (.int .i64 kp), (.int .u64 sd), (.int .u64 r), (.int .i64 2)] 51 true), (2, 0, .cells [(.int .u64 dk), (.int .i64 th), (.int .i64 ths), (.int .i64 kp), (.int .u64 sd)] 24 true), (1, 0, .tail pre .u64 l e), (0, 0, .cells [(.int .i64 1), (.int .i64 64), (.int .i64 1), (.int .i64 64)] e0 false)]⟩⟩
theorem R28 (pre : Nat) (n : Nat) (c : Nat) (i : Int) (dk : Int) (th : Int) (ths : Int) (kp : Int) (sd : Int) (r : Int) (l : List Int) (e : TypeId) (e0 : TypeId) : evCK Tryd.prog cfgV (runK Tryd.prog cfgV fsV (conTk gDom gK) 12 40) 12 (codeAt [1, 1, 1, 1, 0, 1, 0, 0, 1, 0, 0, 0] B) (S24 pre n c i dk th ths kp sd r l e e0) (normC 2 [1, 2, 5, 10, 11]) =
  if 0 ≤ i ∧ i ≤ ((c : Nat) : Int) then
    bif ((Nat.ble 0 (Int.toNat i)) && (Nat.ble (Int.toNat i) c)) then
      bif (Nat.beq c 0) then
        some (.normal, (S26 pre n c i dk th ths kp sd r l e e0))
      else
        some (.normal, (S27 pre n c i dk th ths kp sd r l e e0))
    else
      none
  else
    none := by kernel_rfl
noncomputable def S28 (pre : Nat) (n : Nat) (c : Nat) (i : Int) (l : List Int) (dk : Int) (th : Int) (ths : Int) (kp : Int) (sd : Int) (r : Int) (e : TypeId) (e0 : TypeId) : KSt := ⟨(frameL 120 [(1, (.slice (some ⟨1, pre, none⟩) n c)), (2, (.pointer (some ⟨2, 0, none⟩))), (5, (.pointer (some ⟨3, 0, none⟩))), (10, (.int .i64 i)), (11, (.pointer (some ⟨4, 0, none⟩))), (12, (.int .u64 (gRes (gst (List.take (((Int.toNat i) - 0)) (List.drop ((pre + 0) - pre) l))))))]), ⟨5, 1, [(4, 0, .cells [(.slice (some ⟨1, (pre + 0), none⟩) ((Int.toNat i) - 0) (c - 0)), (.int .i64 ((gst (List.take (((Int.toNat i) - 0)) (List.drop ((pre + 0) - pre) l))).2.2)), (.bool (gOver (gst (List.take (((Int.toNat i) - 0)) (List.drop ((pre + 0) - pre) l))))), (.int .i64 (gKind (gst (List.take (((Int.toNat i) - 0)) (List.drop ((pre + 0) - pre) l))))), (.int .u64 (gBlk dk (gst (List.take (((Int.toNat i) - 0)) (List.drop ((pre + 0) - pre) l))))), (.int .i64 (gCell th (gst (List.take (((Int.toNat i) - 0)) (List.drop ((pre + 0) - pre) l))))), (.int .u64 0), (.int .u64 (gNew (gst (List.take (((Int.toNat i) - 0)) (List.drop ((pre + 0) - pre) l)))))] 45 true), (3, 0, .cells [(.int .u64 dk), (.int .i64 th), (.int .i64 ths), (.int .i64 kp), (.int .u64 sd), (.int .u64 r), (.int .i64 2)] 51 true), (2, 0, .cells [(.int .u64 dk), (.int .i64 th), (.int .i64 ths), (.int .i64 kp), (.int .u64 sd)] 24 true), (1, 0, .tail pre .u64 l e), (0, 0, .cells [(.int .i64 1), (.int .i64 64), (.int .i64 1), (.int .i64 64)] e0 false)]⟩⟩
theorem R29 (pre : Nat) (n : Nat) (c : Nat) (i : Int) (dk : Int) (th : Int) (ths : Int) (kp : Int) (sd : Int) (r : Int) (l : List Int) (e : TypeId) (e0 : TypeId) : evCK Tryd.prog cfgV (runK Tryd.prog cfgV fsV (conTk gDom gK) 12 40) 12 (codeAt [1, 1, 1, 1, 0, 1, 0, 0, 1, 0, 0, 1, 0] B) (S27 pre n c i dk th ths kp sd r l e e0) (normC 2 [1, 2, 5, 10, 11, 12]) =
  bif (Nat.ble (((Int.toNat i) - 0)) 1000) then
    bif (Nat.ble pre (pre + 0)) then
      bif (Nat.ble (((pre + 0) - pre) + (((Int.toNat i) - 0))) (List.length l)) then
        some (.normal, (S28 pre n c i l dk th ths kp sd r e e0))
      else
        none
    else
      none
  else
    none := by kernel_rfl
noncomputable def S29 (pre : Nat) (n : Nat) (c : Nat) (i : Int) (l : List Int) (dk : Int) (th : Int) (ths : Int) (kp : Int) (sd : Int) (r : Int) (e : TypeId) (e0 : TypeId) : KSt := ⟨(frameL 120 [(1, (.slice (some ⟨1, pre, none⟩) n c)), (2, (.pointer (some ⟨2, 0, none⟩))), (5, (.pointer (some ⟨3, 0, none⟩))), (10, (.int .i64 i)), (11, (.pointer (some ⟨4, 0, none⟩))), (12, (.int .u64 (gRes (gst (List.take (((Int.toNat i) - 0)) (List.drop ((pre + 0) - pre) l)))))), (13, (.int .u64 0)), (14, (.bool false))]), ⟨5, 1, [(4, 0, .cells [(.slice (some ⟨1, (pre + 0), none⟩) ((Int.toNat i) - 0) (c - 0)), (.int .i64 ((gst (List.take (((Int.toNat i) - 0)) (List.drop ((pre + 0) - pre) l))).2.2)), (.bool (gOver (gst (List.take (((Int.toNat i) - 0)) (List.drop ((pre + 0) - pre) l))))), (.int .i64 (gKind (gst (List.take (((Int.toNat i) - 0)) (List.drop ((pre + 0) - pre) l))))), (.int .u64 (gBlk dk (gst (List.take (((Int.toNat i) - 0)) (List.drop ((pre + 0) - pre) l))))), (.int .i64 (gCell th (gst (List.take (((Int.toNat i) - 0)) (List.drop ((pre + 0) - pre) l))))), (.int .u64 0), (.int .u64 (gNew (gst (List.take (((Int.toNat i) - 0)) (List.drop ((pre + 0) - pre) l)))))] 45 true), (3, 0, .cells [(.int .u64 dk), (.int .i64 th), (.int .i64 ths), (.int .i64 kp), (.int .u64 sd), (.int .u64 r), (.int .i64 2)] 51 true), (2, 0, .cells [(.int .u64 dk), (.int .i64 th), (.int .i64 ths), (.int .i64 kp), (.int .u64 sd)] 24 true), (1, 0, .tail pre .u64 l e), (0, 0, .cells [(.int .i64 1), (.int .i64 64), (.int .i64 1), (.int .i64 64)] e0 false)]⟩⟩
theorem R30 (pre : Nat) (n : Nat) (c : Nat) (i : Int) (l : List Int) (dk : Int) (th : Int) (ths : Int) (kp : Int) (sd : Int) (r : Int) (e : TypeId) (e0 : TypeId) : evCK Tryd.prog cfgV (runK Tryd.prog cfgV fsV (conTk gDom gK) 12 40) 12 (codeAt [1, 1, 1, 1, 0, 1, 0, 0, 1, 0, 0, 1, 1, 0] B) (S28 pre n c i l dk th ths kp sd r e e0) (normC 2 [1, 2, 5, 10, 11, 12, 13, 14]) =
  some (.normal, (S29 pre n c i l dk th ths kp sd r e e0)) := by kernel_rfl
noncomputable def S30 (pre : Nat) (n : Nat) (c : Nat) (i : Int) (l : List Int) (dk : Int) (th : Int) (r : Int) (ths : Int) (kp : Int) (sd : Int) (e : TypeId) (e0 : TypeId) : KSt := ⟨(frameL 120 [(1, (.slice (some ⟨1, pre, none⟩) n c)), (2, (.pointer (some ⟨2, 0, none⟩))), (5, (.pointer (some ⟨3, 0, none⟩))), (10, (.int .i64 i)), (11, (.pointer (some ⟨4, 0, none⟩))), (12, (.int .u64 (gRes (gst (List.take (((Int.toNat i) - 0)) (List.drop ((pre + 0) - pre) l)))))), (13, (.int .u64 0)), (14, (.bool false)), (15, (.pointer (some ⟨5, 0, none⟩))), (16, (.bool true))]), ⟨6, 1, [(5, 0, .cells [(.int .i64 2), (.int .u64 dk), (.int .i64 (tabCellV th)), (.int .u64 0), (.int .u64 r)] 37 true), (4, 0, .cells [(.slice (some ⟨1, (pre + 0), none⟩) ((Int.toNat i) - 0) (c - 0)), (.int .i64 ((gst (List.take (((Int.toNat i) - 0)) (List.drop ((pre + 0) - pre) l))).2.2)), (.bool (gOver (gst (List.take (((Int.toNat i) - 0)) (List.drop ((pre + 0) - pre) l))))), (.int .i64 (gKind (gst (List.take (((Int.toNat i) - 0)) (List.drop ((pre + 0) - pre) l))))), (.int .u64 (gBlk dk (gst (List.take (((Int.toNat i) - 0)) (List.drop ((pre + 0) - pre) l))))), (.int .i64 (gCell th (gst (List.take (((Int.toNat i) - 0)) (List.drop ((pre + 0) - pre) l))))), (.int .u64 0), (.int .u64 (gNew (gst (List.take (((Int.toNat i) - 0)) (List.drop ((pre + 0) - pre) l)))))] 45 true), (3, 0, .cells [(.int .u64 dk), (.int .i64 th), (.int .i64 ths), (.int .i64 kp), (.int .u64 sd), (.int .u64 r), (.int .i64 2)] 51 true), (2, 0, .cells [(.int .u64 dk), (.int .i64 th), (.int .i64 ths), (.int .i64 kp), (.int .u64 sd)] 24 true), (1, 0, .tail pre .u64 l e), (0, 0, .cells [(.int .i64 1), (.int .i64 64), (.int .i64 1), (.int .i64 64)] e0 false)]⟩⟩
theorem R31 (pre : Nat) (n : Nat) (c : Nat) (i : Int) (l : List Int) (dk : Int) (th : Int) (ths : Int) (kp : Int) (sd : Int) (r : Int) (e : TypeId) (e0 : TypeId) : evCK Tryd.prog cfgV (runK Tryd.prog cfgV fsV (conTk gDom gK) 12 40) 12 (codeAt [1, 1, 1, 1, 0, 1, 0, 0, 1, 0, 0, 1, 1, 1, 0] B) (S29 pre n c i l dk th ths kp sd r e e0) (normC 2 [1, 2, 5, 10, 11, 12, 13, 14, 15, 16]) =
  some (.normal, (S30 pre n c i l dk th r ths kp sd e e0)) := by kernel_rfl
noncomputable def S31 (pre : Nat) (n : Nat) (c : Nat) (i : Int) (dk : Int) (th : Int) (ths : Int) (kp : Int) (sd : Int) (r : Int) (l : List Int) (e : TypeId) (e0 : TypeId) : KSt := ⟨(frameL 120 [(1, (.slice (some ⟨1, pre, none⟩) n c)), (2, (.pointer (some ⟨2, 0, none⟩))), (5, (.pointer (some ⟨3, 0, none⟩))), (10, (.int .i64 i)), (108, (.bool true))]), ⟨4, 1, [(3, 0, .cells [(.int .u64 dk), (.int .i64 th), (.int .i64 ths), (.int .i64 kp), (.int .u64 sd), (.int .u64 r), (.int .i64 2)] 51 true), (2, 0, .cells [(.int .u64 dk), (.int .i64 th), (.int .i64 ths), (.int .i64 kp), (.int .u64 sd)] 24 true), (1, 0, .tail pre .u64 l e), (0, 0, .cells [(.int .i64 1), (.int .i64 64), (.int .i64 1), (.int .i64 64)] e0 false)]⟩⟩
noncomputable def S32 (pre : Nat) (n : Nat) (c : Nat) (i : Int) (dk : Int) (th : Int) (ths : Int) (kp : Int) (sd : Int) (r : Int) (l : List Int) (e : TypeId) (e0 : TypeId) : KSt := ⟨(frameL 120 [(1, (.slice (some ⟨1, pre, none⟩) n c)), (2, (.pointer (some ⟨2, 0, none⟩))), (5, (.pointer (some ⟨3, 0, none⟩))), (10, (.int .i64 i)), (108, (.bool false))]), ⟨4, 1, [(3, 0, .cells [(.int .u64 dk), (.int .i64 th), (.int .i64 ths), (.int .i64 kp), (.int .u64 sd), (.int .u64 r), (.int .i64 2)] 51 true), (2, 0, .cells [(.int .u64 dk), (.int .i64 th), (.int .i64 ths), (.int .i64 kp), (.int .u64 sd)] 24 true), (1, 0, .tail pre .u64 l e), (0, 0, .cells [(.int .i64 1), (.int .i64 64), (.int .i64 1), (.int .i64 64)] e0 false)]⟩⟩
theorem R32 (pre : Nat) (n : Nat) (c : Nat) (i : Int) (l : List Int) (dk : Int) (th : Int) (r : Int) (ths : Int) (kp : Int) (sd : Int) (e : TypeId) (e0 : TypeId) : evCK Tryd.prog cfgV (runK Tryd.prog cfgV fsV (conTk gDom gK) 12 40) 12 (codeAt [1, 1, 1, 1, 0, 1, 0, 0, 1, 0, 0, 1, 1, 1, 1, 0, 0] B) (S30 pre n c i l dk th r ths kp sd e e0) (normC 2 [1, 2, 5, 10, 108]) =
  bif (!(true == (gOver (gst (List.take (((Int.toNat i) - 0)) (List.drop ((pre + 0) - pre) l)))))) then
    some (.normal, (S31 pre n c i dk th ths kp sd r l e e0))
  else
    bif (!((2 == (gKind (gst (List.take (((Int.toNat i) - 0)) (List.drop ((pre + 0) - pre) l))))) && ((dk == (gBlk dk (gst (List.take (((Int.toNat i) - 0)) (List.drop ((pre + 0) - pre) l))))) && (((tabCellV th) == (gCell th (gst (List.take (((Int.toNat i) - 0)) (List.drop ((pre + 0) - pre) l))))) && (true && ((r == (gNew (gst (List.take (((Int.toNat i) - 0)) (List.drop ((pre + 0) - pre) l))))) && true)))))) then
      some (.normal, (S31 pre n c i dk th ths kp sd r l e e0))
    else
      bif (false == (gOver (gst (List.take (((Int.toNat i) - 0)) (List.drop ((pre + 0) - pre) l))))) then
        some (.normal, (S31 pre n c i dk th ths kp sd r l e e0))
      else
        some (.normal, (S32 pre n c i dk th ths kp sd r l e e0)) := by kernel_rfl
theorem R33 (pre : Nat) (n : Nat) (c : Nat) (i : Int) (dk : Int) (th : Int) (ths : Int) (kp : Int) (sd : Int) (r : Int) (l : List Int) (e : TypeId) (e0 : TypeId) : evCK Tryd.prog cfgV (runK Tryd.prog cfgV fsV (conTk gDom gK) 12 40) 12 (codeAt [1, 1, 1, 1, 0, 1, 0, 0, 1, 0, 0, 1, 1, 1, 1, 0, 1, 1] B) (S32 pre n c i dk th ths kp sd r l e e0) (normC 2 [1, 2, 5, 10]) =
  some (.normal, (S24 pre n c i dk th ths kp sd r l e e0)) := by kernel_rfl
noncomputable def S33 (pre : Nat) (n : Nat) (c : Nat) (i : Int) (dk : Int) (th : Int) (ths : Int) (kp : Int) (sd : Int) (r : Int) (l : List Int) (e : TypeId) (e0 : TypeId) : KSt := ⟨(frameL 120 [(1, (.slice (some ⟨1, pre, none⟩) n c)), (2, (.pointer (some ⟨2, 0, none⟩))), (5, (.pointer (some ⟨3, 0, none⟩))), (10, (.int .i64 i)), (112, (.bool (decide (i < ((n : Nat) : Int)))))]), ⟨4, 1, [(3, 0, .cells [(.int .u64 dk), (.int .i64 th), (.int .i64 ths), (.int .i64 kp), (.int .u64 sd), (.int .u64 r), (.int .i64 2)] 51 true), (2, 0, .cells [(.int .u64 dk), (.int .i64 th), (.int .i64 ths), (.int .i64 kp), (.int .u64 sd)] 24 true), (1, 0, .tail pre .u64 l e), (0, 0, .cells [(.int .i64 1), (.int .i64 64), (.int .i64 1), (.int .i64 64)] e0 false)]⟩⟩
theorem R34 (pre : Nat) (n : Nat) (c : Nat) (i : Int) (dk : Int) (th : Int) (ths : Int) (kp : Int) (sd : Int) (r : Int) (l : List Int) (e : TypeId) (e0 : TypeId) : evCK Tryd.prog cfgV (runK Tryd.prog cfgV fsV (conTk gDom gK) 12 40) 12 (codeAt [1, 1, 1, 1, 0, 1, 0, 0, 1, 0, 0, 1, 1, 1, 1, 1, 0] B) (S24 pre n c i dk th ths kp sd r l e e0) (normC 2 [1, 2, 5, 10, 112]) =
  some (.normal, (S33 pre n c i dk th ths kp sd r l e e0)) := by kernel_rfl
noncomputable def S34 (pre : Nat) (n : Nat) (c : Nat) (i : Int) (dk : Int) (th : Int) (ths : Int) (kp : Int) (sd : Int) (r : Int) (l : List Int) (e : TypeId) (e0 : TypeId) : KSt := ⟨(frameL 120 [(1, (.slice (some ⟨1, pre, none⟩) n c)), (2, (.pointer (some ⟨2, 0, none⟩))), (5, (.pointer (some ⟨3, 0, none⟩))), (10, (.int .i64 i))]), ⟨4, 1, [(3, 0, .cells [(.int .u64 dk), (.int .i64 th), (.int .i64 ths), (.int .i64 kp), (.int .u64 sd), (.int .u64 r), (.int .i64 3)] 51 true), (2, 0, .cells [(.int .u64 dk), (.int .i64 th), (.int .i64 ths), (.int .i64 kp), (.int .u64 sd)] 24 true), (1, 0, .tail pre .u64 l e), (0, 0, .cells [(.int .i64 1), (.int .i64 64), (.int .i64 1), (.int .i64 64)] e0 false)]⟩⟩
theorem R35 (pre : Nat) (n : Nat) (c : Nat) (i : Int) (dk : Int) (th : Int) (ths : Int) (kp : Int) (sd : Int) (r : Int) (l : List Int) (e : TypeId) (e0 : TypeId) : evCK Tryd.prog cfgV (runK Tryd.prog cfgV fsV (conTk gDom gK) 12 40) 12 (codeAt [1, 1, 1, 1, 0, 1, 0, 0, 1, 0, 0, 1, 1, 1, 1, 1, 1, 0] B) (S33 pre n c i dk th ths kp sd r l e e0) (normC 2 [1, 2, 5, 10]) =
  if 0 ≤ i ∧ i < ((n : Nat) : Int) then
    bif (Nat.ble pre (pre + ((Int.toNat i) * 1))) then
      obind (l[((pre + ((Int.toNat i) * 1)) - pre)]?) fun n1 =>
        some (.normal, (S34 pre n c i dk th ths kp sd r l e e0))
    else
      none
  else
    none := by kernel_rfl
noncomputable def S35 (pre : Nat) (n : Nat) (c : Nat) (i : Int) (dk : Int) (th : Int) (ths : Int) (kp : Int) (sd : Int) (r : Int) (l : List Int) (e : TypeId) (e0 : TypeId) : KSt := ⟨(frameL 120 [(1, (.slice (some ⟨1, pre, none⟩) n c)), (2, (.pointer (some ⟨2, 0, none⟩))), (5, (.pointer (some ⟨3, 0, none⟩))), (10, (.int .i64 (IntKind.wrap .i64 (i + 1))))]), ⟨4, 1, [(3, 0, .cells [(.int .u64 dk), (.int .i64 th), (.int .i64 ths), (.int .i64 kp), (.int .u64 sd), (.int .u64 r), (.int .i64 3)] 51 true), (2, 0, .cells [(.int .u64 dk), (.int .i64 th), (.int .i64 ths), (.int .i64 kp), (.int .u64 sd)] 24 true), (1, 0, .tail pre .u64 l e), (0, 0, .cells [(.int .i64 1), (.int .i64 64), (.int .i64 1), (.int .i64 64)] e0 false)]⟩⟩
theorem R36 (pre : Nat) (n : Nat) (c : Nat) (i : Int) (dk : Int) (th : Int) (ths : Int) (kp : Int) (sd : Int) (r : Int) (l : List Int) (e : TypeId) (e0 : TypeId) : evCK Tryd.prog cfgV (runK Tryd.prog cfgV fsV (conTk gDom gK) 12 40) 12 (codeAt [1, 1, 1, 1, 0, 1, 0, 0, 1, 1] B) (S34 pre n c i dk th ths kp sd r l e e0) (normC 2 [1, 2, 5, 10]) =
  some (.normal, (S35 pre n c i dk th ths kp sd r l e e0)) := by kernel_rfl
noncomputable def S36 (pre : Nat) (n : Nat) (c : Nat) (i : Int) (dk : Int) (th : Int) (ths : Int) (kp : Int) (sd : Int) (r : Int) (l : List Int) (e : TypeId) (e0 : TypeId) : KSt := ⟨(frameL 120 [(1, (.slice (some ⟨1, pre, none⟩) n c)), (2, (.pointer (some ⟨2, 0, none⟩))), (5, (.pointer (some ⟨3, 0, none⟩))), (10, (.int .i64 (i + 1)))]), ⟨4, 1, [(3, 0, .cells [(.int .u64 dk), (.int .i64 th), (.int .i64 ths), (.int .i64 kp), (.int .u64 sd), (.int .u64 r), (.int .i64 3)] 51 true), (2, 0, .cells [(.int .u64 dk), (.int .i64 th), (.int .i64 ths), (.int .i64 kp), (.int .u64 sd)] 24 true), (1, 0, .tail pre .u64 l e), (0, 0, .cells [(.int .i64 1), (.int .i64 64), (.int .i64 1), (.int .i64 64)] e0 false)]⟩⟩
theorem s2m (dk th ths kp sd r i a : Int) (pre n c : Nat) (l : List Int) (e0 e : TypeId) (hdk : 0 ≤ dk) (hn40 : n ≤ 40) (hc : n ≤ c) (hc2 : c ≤ 9223372036854775807) (hl : l.length = c) (hc0 : 0 < c) (hR : rightV dk th ths kp = true) (hi : 1 ≤ i) (hn : i < (n : Int)) (hGd : gst (List.take ((Int.toNat i) - 0) (List.drop ((pre + 0) - pre) l)) = (2, r, i))   {Q : Ex → St → Prop} (hq : Q .normal (KSt.low (S36 pre n c i dk th ths kp sd r l e e0))) : Gets Tryd.prog (KH.low ⟨2, 1, [(1, 0, .tail pre .u64 l e), (0, 0, .cells [(.int .i64 1), (.int .i64 64), (.int .i64 1), (.int .i64 64)] e0 false)]⟩) (codeAt [1, 1, 1, 1, 0, 1, 0, 0] B) (KSt.low (S24 pre n c i dk th ths kp sd r l e e0)) Q := by
  rw [C1_1_1_1_0_1_0_0]; refine Gets.seq ?_
  rw [C1_1_1_1_0_1_0_0_0]; refine Gets.seq ?_
  refine Gets.ofN fitV g_sound g_agree 12 40 (by kernel_rfl) (x := .normal) (s' := (S25 pre n c i dk th ths kp sd r l e e0)) (R26 pre n c i dk th ths kp sd r l e e0) ?_
  show Gets _ _ (codeAt [1, 1, 1, 1, 0, 1, 0, 0, 0, 1] B) _ _
  rw [C1_1_1_1_0_1_0_0_0_1]; refine Gets.cond true (by kernel_rfl) ((show evalX (KSt.ts (S25 pre n c i dk th ths kp sd r l e e0)) (.tmp 50) = .bool (decide (i ≤ ((n : Nat) : Int))) by kernel_rfl).trans (by rw [(show (decide (i ≤ ((n : Nat) : Int))) = true from decide_eq_true (by omega))])) ?_; show Gets _ _ (codeAt [1, 1, 1, 1, 0, 1, 0, 0, 0, 1, 0] B) _ _
  refine Gets.ofN fitV g_sound g_agree 12 40 (by kernel_rfl) (x := .normal) (s' := (S24 pre n c i dk th ths kp sd r l e e0)) (R27 pre n c i dk th ths kp sd r l e e0) ?_
  show Gets _ _ (codeAt [1, 1, 1, 1, 0, 1, 0, 0, 1] B) _ _
  rw [C1_1_1_1_0_1_0_0_1]; refine Gets.seq ?_
  rw [C1_1_1_1_0_1_0_0_1_0]; refine Gets.block ?_
  rw [C1_1_1_1_0_1_0_0_1_0_0]; refine Gets.seq ?_
  refine Gets.ofN fitV g_sound g_agree 12 40 (by kernel_rfl) (x := .normal) (s' := (S27 pre n c i dk th ths kp sd r l e e0)) ((R28 pre n c i dk th ths kp sd r l e e0).trans (by rw [if_pos (⟨by omega, by omega⟩), condT (and_t (ble_t (by omega)) (ble_t (by omega))), condF (nbeq_f (by omega))])) ?_
  show Gets _ _ (codeAt [1, 1, 1, 1, 0, 1, 0, 0, 1, 0, 0, 1] B) _ _
  rw [C1_1_1_1_0_1_0_0_1_0_0_1]; refine Gets.seq ?_
  refine Gets.ofN fitV g_sound g_agree 12 40 (by kernel_rfl) (x := .normal) (s' := (S28 pre n c i l dk th ths kp sd r e e0)) ((R29 pre n c i dk th ths kp sd r l e e0).trans (by rw [condT (ble_t (by omega)), condT (ble_t (by omega)), condT (ble_t (by omega))])) ?_
  show Gets _ _ (codeAt [1, 1, 1, 1, 0, 1, 0, 0, 1, 0, 0, 1, 1] B) _ _
  rw [C1_1_1_1_0_1_0_0_1_0_0_1_1]; refine Gets.seq ?_
  refine Gets.ofN fitV g_sound g_agree 12 40 (by kernel_rfl) (x := .normal) (s' := (S29 pre n c i l dk th ths kp sd r e e0)) (R30 pre n c i l dk th ths kp sd r e e0) ?_
  show Gets _ _ (codeAt [1, 1, 1, 1, 0, 1, 0, 0, 1, 0, 0, 1, 1, 1] B) _ _
  rw [C1_1_1_1_0_1_0_0_1_0_0_1_1_1]; refine Gets.seq ?_
  refine Gets.ofN fitV g_sound g_agree 12 40 (by kernel_rfl) (x := .normal) (s' := (S30 pre n c i l dk th r ths kp sd e e0)) (R31 pre n c i l dk th ths kp sd r e e0) ?_
  show Gets _ _ (codeAt [1, 1, 1, 1, 0, 1, 0, 0, 1, 0, 0, 1, 1, 1, 1] B) _ _
  rw [C1_1_1_1_0_1_0_0_1_0_0_1_1_1_1]; refine Gets.seq ?_
  rw [C1_1_1_1_0_1_0_0_1_0_0_1_1_1_1_0]; refine Gets.seq ?_
  refine Gets.ofN fitV g_sound g_agree 12 40 (by kernel_rfl) (x := .normal) (s' := (S32 pre n c i dk th ths kp sd r l e e0)) ((R32 pre n c i l dk th r ths kp sd e e0).trans (by rw [condF (not_f (by rw [hGd]; simp [gOver, gKind, gBlk, gCell, gNew, gRes])), condF (not_f (and_t (by rw [hGd]; simp [gOver, gKind, gBlk, gCell, gNew, gRes]) (and_t (by rw [hGd]; simp [gOver, gKind, gBlk, gCell, gNew, gRes]) (and_t (by rw [hGd]; simp [gOver, gKind, gBlk, gCell, gNew, gRes]) (and_t (rfl) (and_t (by rw [hGd]; simp [gOver, gKind, gBlk, gCell, gNew, gRes]) (rfl))))))), condF (by rw [hGd]; simp [gOver, gKind, gBlk, gCell, gNew, gRes])])) ?_
  show Gets _ _ (codeAt [1, 1, 1, 1, 0, 1, 0, 0, 1, 0, 0, 1, 1, 1, 1, 0, 1] B) _ _
  rw [C1_1_1_1_0_1_0_0_1_0_0_1_1_1_1_0_1]; refine Gets.cond false (by kernel_rfl) (show evalX (KSt.ts (S32 pre n c i dk th ths kp sd r l e e0)) (.tmp 108) = .bool false by kernel_rfl) ?_; show Gets _ _ (codeAt [1, 1, 1, 1, 0, 1, 0, 0, 1, 0, 0, 1, 1, 1, 1, 0, 1, 1] B) _ _
  refine Gets.ofN fitV g_sound g_agree 12 40 (by kernel_rfl) (x := .normal) (s' := (S24 pre n c i dk th ths kp sd r l e e0)) (R33 pre n c i dk th ths kp sd r l e e0) ?_
  show Gets _ _ (codeAt [1, 1, 1, 1, 0, 1, 0, 0, 1, 0, 0, 1, 1, 1, 1, 1] B) _ _
  rw [C1_1_1_1_0_1_0_0_1_0_0_1_1_1_1_1]; refine Gets.seq ?_
  refine Gets.ofN fitV g_sound g_agree 12 40 (by kernel_rfl) (x := .normal) (s' := (S33 pre n c i dk th ths kp sd r l e e0)) (R34 pre n c i dk th ths kp sd r l e e0) ?_
  show Gets _ _ (codeAt [1, 1, 1, 1, 0, 1, 0, 0, 1, 0, 0, 1, 1, 1, 1, 1, 1] B) _ _
  rw [C1_1_1_1_0_1_0_0_1_0_0_1_1_1_1_1_1]; refine Gets.cond true (by kernel_rfl) ((show evalX (KSt.ts (S33 pre n c i dk th ths kp sd r l e e0)) (.tmp 112) = .bool (decide (i < ((n : Nat) : Int))) by kernel_rfl).trans (by rw [(show (decide (i < ((n : Nat) : Int))) = true from decide_eq_true (by omega))])) ?_; show Gets _ _ (codeAt [1, 1, 1, 1, 0, 1, 0, 0, 1, 0, 0, 1, 1, 1, 1, 1, 1, 0] B) _ _
  refine Gets.ofN fitV g_sound g_agree 12 40 (by kernel_rfl) (x := .normal) (s' := (S34 pre n c i dk th ths kp sd r l e e0)) ((R35 pre n c i dk th ths kp sd r l e e0).trans (by rw [if_pos (⟨by omega, by omega⟩), condT (ble_t (by omega)), obind_at (k := ((Int.toNat i) * 1)) (by omega) (by omega)] <;> rfl)) ?_
  show Gets _ _ (codeAt [1, 1, 1, 1, 0, 1, 0, 0, 1, 1] B) _ _
  refine Gets.ofN fitV g_sound g_agree 12 40 (by kernel_rfl) (x := .normal) (s' := (S36 pre n c i dk th ths kp sd r l e e0)) ((R36 pre n c i dk th ths kp sd r l e e0).trans (by (show some (Ex.normal, (S35 pre n c i dk th ths kp sd r l e e0)) = some (Ex.normal, (S36 pre n c i dk th ths kp sd r l e e0)); unfold S35 S36; rw [(show (IntKind.wrap .i64 (i + 1)) = (i + 1) from wrap_i64_id (by omega) (by omega))]))) ?_
  exact hq
theorem R37 (pre : Nat) (n : Nat) (c : Nat) (i : Int) (dk : Int) (th : Int) (ths : Int) (kp : Int) (sd : Int) (r : Int) (l : List Int) (e : TypeId) (e0 : TypeId) : evCK Tryd.prog cfgV (runK Tryd.prog cfgV fsV (conTk gDom gK) 12 40) 12 (codeAt [1, 1, 1, 1, 0, 1, 0, 0, 1, 0, 0, 1, 1, 1, 1, 1, 1, 1] B) (S33 pre n c i dk th ths kp sd r l e e0) (normC 2 [1, 2, 5, 10]) =
  some (.normal, (S24 pre n c i dk th ths kp sd r l e e0)) := by kernel_rfl
noncomputable def S37 (pre : Nat) (n : Nat) (c : Nat) (i : Int) (dk : Int) (th : Int) (ths : Int) (kp : Int) (sd : Int) (r : Int) (l : List Int) (e : TypeId) (e0 : TypeId) : KSt := ⟨(frameL 120 [(1, (.slice (some ⟨1, pre, none⟩) n c)), (2, (.pointer (some ⟨2, 0, none⟩))), (5, (.pointer (some ⟨3, 0, none⟩))), (10, (.int .i64 (IntKind.wrap .i64 (i + 1))))]), ⟨4, 1, [(3, 0, .cells [(.int .u64 dk), (.int .i64 th), (.int .i64 ths), (.int .i64 kp), (.int .u64 sd), (.int .u64 r), (.int .i64 2)] 51 true), (2, 0, .cells [(.int .u64 dk), (.int .i64 th), (.int .i64 ths), (.int .i64 kp), (.int .u64 sd)] 24 true), (1, 0, .tail pre .u64 l e), (0, 0, .cells [(.int .i64 1), (.int .i64 64), (.int .i64 1), (.int .i64 64)] e0 false)]⟩⟩
theorem R38 (pre : Nat) (n : Nat) (c : Nat) (i : Int) (dk : Int) (th : Int) (ths : Int) (kp : Int) (sd : Int) (r : Int) (l : List Int) (e : TypeId) (e0 : TypeId) : evCK Tryd.prog cfgV (runK Tryd.prog cfgV fsV (conTk gDom gK) 12 40) 12 (codeAt [1, 1, 1, 1, 0, 1, 0, 0, 1, 1] B) (S24 pre n c i dk th ths kp sd r l e e0) (normC 2 [1, 2, 5, 10]) =
  some (.normal, (S37 pre n c i dk th ths kp sd r l e e0)) := by kernel_rfl
noncomputable def S38 (pre : Nat) (n : Nat) (c : Nat) (i : Int) (dk : Int) (th : Int) (ths : Int) (kp : Int) (sd : Int) (r : Int) (l : List Int) (e : TypeId) (e0 : TypeId) : KSt := ⟨(frameL 120 [(1, (.slice (some ⟨1, pre, none⟩) n c)), (2, (.pointer (some ⟨2, 0, none⟩))), (5, (.pointer (some ⟨3, 0, none⟩))), (10, (.int .i64 (i + 1)))]), ⟨4, 1, [(3, 0, .cells [(.int .u64 dk), (.int .i64 th), (.int .i64 ths), (.int .i64 kp), (.int .u64 sd), (.int .u64 r), (.int .i64 2)] 51 true), (2, 0, .cells [(.int .u64 dk), (.int .i64 th), (.int .i64 ths), (.int .i64 kp), (.int .u64 sd)] 24 true), (1, 0, .tail pre .u64 l e), (0, 0, .cells [(.int .i64 1), (.int .i64 64), (.int .i64 1), (.int .i64 64)] e0 false)]⟩⟩
theorem s2e (dk th ths kp sd r i a : Int) (pre n c : Nat) (l : List Int) (e0 e : TypeId) (hdk : 0 ≤ dk) (hn40 : n ≤ 40) (hc : n ≤ c) (hc2 : c ≤ 9223372036854775807) (hl : l.length = c) (hc0 : 0 < c) (hR : rightV dk th ths kp = true) (hi : 1 ≤ i) (hn : i = (n : Int)) (hGd : gst (List.take ((Int.toNat i) - 0) (List.drop ((pre + 0) - pre) l)) = (2, r, i))   {Q : Ex → St → Prop} (hq : Q .normal (KSt.low (S38 pre n c i dk th ths kp sd r l e e0))) : Gets Tryd.prog (KH.low ⟨2, 1, [(1, 0, .tail pre .u64 l e), (0, 0, .cells [(.int .i64 1), (.int .i64 64), (.int .i64 1), (.int .i64 64)] e0 false)]⟩) (codeAt [1, 1, 1, 1, 0, 1, 0, 0] B) (KSt.low (S24 pre n c i dk th ths kp sd r l e e0)) Q := by
  rw [C1_1_1_1_0_1_0_0]; refine Gets.seq ?_
  rw [C1_1_1_1_0_1_0_0_0]; refine Gets.seq ?_
  refine Gets.ofN fitV g_sound g_agree 12 40 (by kernel_rfl) (x := .normal) (s' := (S25 pre n c i dk th ths kp sd r l e e0)) (R26 pre n c i dk th ths kp sd r l e e0) ?_
  show Gets _ _ (codeAt [1, 1, 1, 1, 0, 1, 0, 0, 0, 1] B) _ _
  rw [C1_1_1_1_0_1_0_0_0_1]; refine Gets.cond true (by kernel_rfl) ((show evalX (KSt.ts (S25 pre n c i dk th ths kp sd r l e e0)) (.tmp 50) = .bool (decide (i ≤ ((n : Nat) : Int))) by kernel_rfl).trans (by rw [(show (decide (i ≤ ((n : Nat) : Int))) = true from decide_eq_true (by omega))])) ?_; show Gets _ _ (codeAt [1, 1, 1, 1, 0, 1, 0, 0, 0, 1, 0] B) _ _
  refine Gets.ofN fitV g_sound g_agree 12 40 (by kernel_rfl) (x := .normal) (s' := (S24 pre n c i dk th ths kp sd r l e e0)) (R27 pre n c i dk th ths kp sd r l e e0) ?_
  show Gets _ _ (codeAt [1, 1, 1, 1, 0, 1, 0, 0, 1] B) _ _
  rw [C1_1_1_1_0_1_0_0_1]; refine Gets.seq ?_
  rw [C1_1_1_1_0_1_0_0_1_0]; refine Gets.block ?_
  rw [C1_1_1_1_0_1_0_0_1_0_0]; refine Gets.seq ?_
  refine Gets.ofN fitV g_sound g_agree 12 40 (by kernel_rfl) (x := .normal) (s' := (S27 pre n c i dk th ths kp sd r l e e0)) ((R28 pre n c i dk th ths kp sd r l e e0).trans (by rw [if_pos (⟨by omega, by omega⟩), condT (and_t (ble_t (by omega)) (ble_t (by omega))), condF (nbeq_f (by omega))])) ?_
  show Gets _ _ (codeAt [1, 1, 1, 1, 0, 1, 0, 0, 1, 0, 0, 1] B) _ _
  rw [C1_1_1_1_0_1_0_0_1_0_0_1]; refine Gets.seq ?_
  refine Gets.ofN fitV g_sound g_agree 12 40 (by kernel_rfl) (x := .normal) (s' := (S28 pre n c i l dk th ths kp sd r e e0)) ((R29 pre n c i dk th ths kp sd r l e e0).trans (by rw [condT (ble_t (by omega)), condT (ble_t (by omega)), condT (ble_t (by omega))])) ?_
  show Gets _ _ (codeAt [1, 1, 1, 1, 0, 1, 0, 0, 1, 0, 0, 1, 1] B) _ _
  rw [C1_1_1_1_0_1_0_0_1_0_0_1_1]; refine Gets.seq ?_
  refine Gets.ofN fitV g_sound g_agree 12 40 (by kernel_rfl) (x := .normal) (s' := (S29 pre n c i l dk th ths kp sd r e e0)) (R30 pre n c i l dk th ths kp sd r e e0) ?_
  show Gets _ _ (codeAt [1, 1, 1, 1, 0, 1, 0, 0, 1, 0, 0, 1, 1, 1] B) _ _
  rw [C1_1_1_1_0_1_0_0_1_0_0_1_1_1]; refine Gets.seq ?_
  refine Gets.ofN fitV g_sound g_agree 12 40 (by kernel_rfl) (x := .normal) (s' := (S30 pre n c i l dk th r ths kp sd e e0)) (R31 pre n c i l dk th ths kp sd r e e0) ?_
  show Gets _ _ (codeAt [1, 1, 1, 1, 0, 1, 0, 0, 1, 0, 0, 1, 1, 1, 1] B) _ _
  rw [C1_1_1_1_0_1_0_0_1_0_0_1_1_1_1]; refine Gets.seq ?_
  rw [C1_1_1_1_0_1_0_0_1_0_0_1_1_1_1_0]; refine Gets.seq ?_
  refine Gets.ofN fitV g_sound g_agree 12 40 (by kernel_rfl) (x := .normal) (s' := (S32 pre n c i dk th ths kp sd r l e e0)) ((R32 pre n c i l dk th r ths kp sd e e0).trans (by rw [condF (not_f (by rw [hGd]; simp [gOver, gKind, gBlk, gCell, gNew, gRes])), condF (not_f (and_t (by rw [hGd]; simp [gOver, gKind, gBlk, gCell, gNew, gRes]) (and_t (by rw [hGd]; simp [gOver, gKind, gBlk, gCell, gNew, gRes]) (and_t (by rw [hGd]; simp [gOver, gKind, gBlk, gCell, gNew, gRes]) (and_t (rfl) (and_t (by rw [hGd]; simp [gOver, gKind, gBlk, gCell, gNew, gRes]) (rfl))))))), condF (by rw [hGd]; simp [gOver, gKind, gBlk, gCell, gNew, gRes])])) ?_
  show Gets _ _ (codeAt [1, 1, 1, 1, 0, 1, 0, 0, 1, 0, 0, 1, 1, 1, 1, 0, 1] B) _ _
  rw [C1_1_1_1_0_1_0_0_1_0_0_1_1_1_1_0_1]; refine Gets.cond false (by kernel_rfl) (show evalX (KSt.ts (S32 pre n c i dk th ths kp sd r l e e0)) (.tmp 108) = .bool false by kernel_rfl) ?_; show Gets _ _ (codeAt [1, 1, 1, 1, 0, 1, 0, 0, 1, 0, 0, 1, 1, 1, 1, 0, 1, 1] B) _ _
  refine Gets.ofN fitV g_sound g_agree 12 40 (by kernel_rfl) (x := .normal) (s' := (S24 pre n c i dk th ths kp sd r l e e0)) (R33 pre n c i dk th ths kp sd r l e e0) ?_
  show Gets _ _ (codeAt [1, 1, 1, 1, 0, 1, 0, 0, 1, 0, 0, 1, 1, 1, 1, 1] B) _ _
  rw [C1_1_1_1_0_1_0_0_1_0_0_1_1_1_1_1]; refine Gets.seq ?_
  refine Gets.ofN fitV g_sound g_agree 12 40 (by kernel_rfl) (x := .normal) (s' := (S33 pre n c i dk th ths kp sd r l e e0)) (R34 pre n c i dk th ths kp sd r l e e0) ?_
  show Gets _ _ (codeAt [1, 1, 1, 1, 0, 1, 0, 0, 1, 0, 0, 1, 1, 1, 1, 1, 1] B) _ _
  rw [C1_1_1_1_0_1_0_0_1_0_0_1_1_1_1_1_1]; refine Gets.cond false (by kernel_rfl) ((show evalX (KSt.ts (S33 pre n c i dk th ths kp sd r l e e0)) (.tmp 112) = .bool (decide (i < ((n : Nat) : Int))) by kernel_rfl).trans (by rw [(show (decide (i < ((n : Nat) : Int))) = false from decide_eq_false (by omega))])) ?_; show Gets _ _ (codeAt [1, 1, 1, 1, 0, 1, 0, 0, 1, 0, 0, 1, 1, 1, 1, 1, 1, 1] B) _ _
  refine Gets.ofN fitV g_sound g_agree 12 40 (by kernel_rfl) (x := .normal) (s' := (S24 pre n c i dk th ths kp sd r l e e0)) (R37 pre n c i dk th ths kp sd r l e e0) ?_
  show Gets _ _ (codeAt [1, 1, 1, 1, 0, 1, 0, 0, 1, 1] B) _ _
  refine Gets.ofN fitV g_sound g_agree 12 40 (by kernel_rfl) (x := .normal) (s' := (S38 pre n c i dk th ths kp sd r l e e0)) ((R38 pre n c i dk th ths kp sd r l e e0).trans (by (show some (Ex.normal, (S37 pre n c i dk th ths kp sd r l e e0)) = some (Ex.normal, (S38 pre n c i dk th ths kp sd r l e e0)); unfold S37 S38; rw [(show (IntKind.wrap .i64 (i + 1)) = (i + 1) from wrap_i64_id (by omega) (by omega))]))) ?_
  exact hq
noncomputable def S39 (pre : Nat) (n : Nat) (c : Nat) (i : Int) (dk : Int) (th : Int) (ths : Int) (kp : Int) (sd : Int) (r : Int) (l : List Int) (e : TypeId) (e0 : TypeId) : KSt := ⟨(frameL 120 [(1, (.slice (some ⟨1, pre, none⟩) n c)), (2, (.pointer (some ⟨2, 0, none⟩))), (5, (.pointer (some ⟨3, 0, none⟩))), (10, (.int .i64 i)), (50, (.bool (decide (i ≤ ((n : Nat) : Int)))))]), ⟨4, 1, [(3, 0, .cells [(.int .u64 dk), (.int .i64 th), (.int .i64 ths), (.int .i64 kp), (.int .u64 sd), (.int .u64 r), (.int .i64 3)] 51 true), (2, 0, .cells [(.int .u64 dk), (.int .i64 th), (.int .i64 ths), (.int .i64 kp), (.int .u64 sd)] 24 true), (1, 0, .tail pre .u64 l e), (0, 0, .cells [(.int .i64 1), (.int .i64 64), (.int .i64 1), (.int .i64 64)] e0 false)]⟩⟩
theorem R39 (pre : Nat) (n : Nat) (c : Nat) (i : Int) (dk : Int) (th : Int) (ths : Int) (kp : Int) (sd : Int) (r : Int) (l : List Int) (e : TypeId) (e0 : TypeId) : evCK Tryd.prog cfgV (runK Tryd.prog cfgV fsV (conTk gDom gK) 12 40) 12 (codeAt [1, 1, 1, 1, 0, 1, 0, 0, 0, 0] B) (S34 pre n c i dk th ths kp sd r l e e0) (normC 2 [1, 2, 5, 10, 50]) =
  some (.normal, (S39 pre n c i dk th ths kp sd r l e e0)) := by kernel_rfl
theorem R40 (pre : Nat) (n : Nat) (c : Nat) (i : Int) (dk : Int) (th : Int) (ths : Int) (kp : Int) (sd : Int) (r : Int) (l : List Int) (e : TypeId) (e0 : TypeId) : evCK Tryd.prog cfgV (runK Tryd.prog cfgV fsV (conTk gDom gK) 12 40) 12 (codeAt [1, 1, 1, 1, 0, 1, 0, 0, 0, 1, 0] B) (S39 pre n c i dk th ths kp sd r l e e0) (normC 2 [1, 2, 5, 10]) =
  some (.normal, (S34 pre n c i dk th ths kp sd r l e e0)) := by kernel_rfl
noncomputable def S40 (pre : Nat) (n : Nat) (c : Nat) (i : Int) (dk : Int) (th : Int) (ths : Int) (kp : Int) (sd : Int) (r : Int) (l : List Int) (e : TypeId) (e0 : TypeId) : KSt := ⟨(frameL 120 [(1, (.slice (some ⟨1, pre, none⟩) n c)), (2, (.pointer (some ⟨2, 0, none⟩))), (5, (.pointer (some ⟨3, 0, none⟩))), (10, (.int .i64 i)), (11, (.pointer (some ⟨4, 0, none⟩)))]), ⟨5, 1, [(4, 0, .cells [(.slice (some ⟨1, pre, none⟩) ((Int.toNat i) - 0) (c - 0)), (.int .i64 0), (.bool false), (.int .i64 0), (.int .u64 0), (.int .i64 0), (.int .u64 0), (.int .u64 0)] 45 true), (3, 0, .cells [(.int .u64 dk), (.int .i64 th), (.int .i64 ths), (.int .i64 kp), (.int .u64 sd), (.int .u64 r), (.int .i64 3)] 51 true), (2, 0, .cells [(.int .u64 dk), (.int .i64 th), (.int .i64 ths), (.int .i64 kp), (.int .u64 sd)] 24 true), (1, 0, .tail pre .u64 l e), (0, 0, .cells [(.int .i64 1), (.int .i64 64), (.int .i64 1), (.int .i64 64)] e0 false)]⟩⟩
noncomputable def S41 (pre : Nat) (n : Nat) (c : Nat) (i : Int) (dk : Int) (th : Int) (ths : Int) (kp : Int) (sd : Int) (r : Int) (l : List Int) (e : TypeId) (e0 : TypeId) : KSt := ⟨(frameL 120 [(1, (.slice (some ⟨1, pre, none⟩) n c)), (2, (.pointer (some ⟨2, 0, none⟩))), (5, (.pointer (some ⟨3, 0, none⟩))), (10, (.int .i64 i)), (11, (.pointer (some ⟨4, 0, none⟩)))]), ⟨5, 1, [(4, 0, .cells [(.slice (some ⟨1, (pre + 0), none⟩) ((Int.toNat i) - 0) (c - 0)), (.int .i64 0), (.bool false), (.int .i64 0), (.int .u64 0), (.int .i64 0), (.int .u64 0), (.int .u64 0)] 45 true), (3, 0, .cells [(.int .u64 dk), (.int .i64 th), (.int .i64 ths), (.int .i64 kp), (.int .u64 sd), (.int .u64 r), (.int .i64 3)] 51 true), (2, 0, .cells [(.int .u64 dk), (.int .i64 th), (.int .i64 ths), (.int .i64 kp), (.int .u64 sd)] 24 true), (1, 0, .tail pre .u64 l e), (0, 0, .cells [(.int .i64 1), (.int .i64 64), (.int .i64 1), (.int .i64 64)] e0 false)]⟩⟩
theorem R41 (pre : Nat) (n : Nat) (c : Nat) (i : Int) (dk : Int) (th : Int) (ths : Int) (kp : Int) (sd : Int) (r : Int) (l : List Int) (e : TypeId) (e0 : TypeId) : evCK Tryd.prog cfgV (runK Tryd.prog cfgV fsV (conTk gDom gK) 12 40) 12 (codeAt [1, 1, 1, 1, 0, 1, 0, 0, 1, 0, 0, 0] B) (S34 pre n c i dk th ths kp sd r l e e0) (normC 2 [1, 2, 5, 10, 11]) =
  if 0 ≤ i ∧ i ≤ ((c : Nat) : Int) then
    bif ((Nat.ble 0 (Int.toNat i)) && (Nat.ble (Int.toNat i) c)) then
      bif (Nat.beq c 0) then
        some (.normal, (S40 pre n c i dk th ths kp sd r l e e0))
      else
        some (.normal, (S41 pre n c i dk th ths kp sd r l e e0))
    else
      none
  else
    none := by kernel_rfl
noncomputable def S42 (pre : Nat) (n : Nat) (c : Nat) (i : Int) (l : List Int) (dk : Int) (th : Int) (ths : Int) (kp : Int) (sd : Int) (r : Int) (e : TypeId) (e0 : TypeId) : KSt := ⟨(frameL 120 [(1, (.slice (some ⟨1, pre, none⟩) n c)), (2, (.pointer (some ⟨2, 0, none⟩))), (5, (.pointer (some ⟨3, 0, none⟩))), (10, (.int .i64 i)), (11, (.pointer (some ⟨4, 0, none⟩))), (12, (.int .u64 (gRes (gst (List.take (((Int.toNat i) - 0)) (List.drop ((pre + 0) - pre) l))))))]), ⟨5, 1, [(4, 0, .cells [(.slice (some ⟨1, (pre + 0), none⟩) ((Int.toNat i) - 0) (c - 0)), (.int .i64 ((gst (List.take (((Int.toNat i) - 0)) (List.drop ((pre + 0) - pre) l))).2.2)), (.bool (gOver (gst (List.take (((Int.toNat i) - 0)) (List.drop ((pre + 0) - pre) l))))), (.int .i64 (gKind (gst (List.take (((Int.toNat i) - 0)) (List.drop ((pre + 0) - pre) l))))), (.int .u64 (gBlk dk (gst (List.take (((Int.toNat i) - 0)) (List.drop ((pre + 0) - pre) l))))), (.int .i64 (gCell th (gst (List.take (((Int.toNat i) - 0)) (List.drop ((pre + 0) - pre) l))))), (.int .u64 0), (.int .u64 (gNew (gst (List.take (((Int.toNat i) - 0)) (List.drop ((pre + 0) - pre) l)))))] 45 true), (3, 0, .cells [(.int .u64 dk), (.int .i64 th), (.int .i64 ths), (.int .i64 kp), (.int .u64 sd), (.int .u64 r), (.int .i64 3)] 51 true), (2, 0, .cells [(.int .u64 dk), (.int .i64 th), (.int .i64 ths), (.int .i64 kp), (.int .u64 sd)] 24 true), (1, 0, .tail pre .u64 l e), (0, 0, .cells [(.int .i64 1), (.int .i64 64), (.int .i64 1), (.int .i64 64)] e0 false)]⟩⟩
theorem R42 (pre : Nat) (n : Nat) (c : Nat) (i : Int) (dk : Int) (th : Int) (ths : Int) (kp : Int) (sd : Int) (r : Int) (l : List Int) (e : TypeId) (e0 : TypeId) : evCK Tryd.prog cfgV (runK Tryd.prog cfgV fsV (conTk gDom gK) 12 40) 12 (codeAt [1, 1, 1, 1, 0, 1, 0, 0, 1, 0, 0, 1, 0] B) (S41 pre n c i dk th ths kp sd r l e e0) (normC 2 [1, 2, 5, 10, 11, 12]) =
  bif (Nat.ble (((Int.toNat i) - 0)) 1000) then
    bif (Nat.ble pre (pre + 0)) then
      bif (Nat.ble (((pre + 0) - pre) + (((Int.toNat i) - 0))) (List.length l)) then
        some (.normal, (S42 pre n c i l dk th ths kp sd r e e0))
      else
        none
    else
      none
  else
    none := by kernel_rfl
noncomputable def S43 (pre : Nat) (n : Nat) (c : Nat) (i : Int) (l : List Int) (dk : Int) (th : Int) (ths : Int) (kp : Int) (sd : Int) (r : Int) (e : TypeId) (e0 : TypeId) : KSt := ⟨(frameL 120 [(1, (.slice (some ⟨1, pre, none⟩) n c)), (2, (.pointer (some ⟨2, 0, none⟩))), (5, (.pointer (some ⟨3, 0, none⟩))), (10, (.int .i64 i)), (11, (.pointer (some ⟨4, 0, none⟩))), (12, (.int .u64 (gRes (gst (List.take (((Int.toNat i) - 0)) (List.drop ((pre + 0) - pre) l)))))), (13, (.int .u64 0)), (14, (.bool false))]), ⟨5, 1, [(4, 0, .cells [(.slice (some ⟨1, (pre + 0), none⟩) ((Int.toNat i) - 0) (c - 0)), (.int .i64 ((gst (List.take (((Int.toNat i) - 0)) (List.drop ((pre + 0) - pre) l))).2.2)), (.bool (gOver (gst (List.take (((Int.toNat i) - 0)) (List.drop ((pre + 0) - pre) l))))), (.int .i64 (gKind (gst (List.take (((Int.toNat i) - 0)) (List.drop ((pre + 0) - pre) l))))), (.int .u64 (gBlk dk (gst (List.take (((Int.toNat i) - 0)) (List.drop ((pre + 0) - pre) l))))), (.int .i64 (gCell th (gst (List.take (((Int.toNat i) - 0)) (List.drop ((pre + 0) - pre) l))))), (.int .u64 0), (.int .u64 (gNew (gst (List.take (((Int.toNat i) - 0)) (List.drop ((pre + 0) - pre) l)))))] 45 true), (3, 0, .cells [(.int .u64 dk), (.int .i64 th), (.int .i64 ths), (.int .i64 kp), (.int .u64 sd), (.int .u64 r), (.int .i64 3)] 51 true), (2, 0, .cells [(.int .u64 dk), (.int .i64 th), (.int .i64 ths), (.int .i64 kp), (.int .u64 sd)] 24 true), (1, 0, .tail pre .u64 l e), (0, 0, .cells [(.int .i64 1), (.int .i64 64), (.int .i64 1), (.int .i64 64)] e0 false)]⟩⟩
theorem R43 (pre : Nat) (n : Nat) (c : Nat) (i : Int) (l : List Int) (dk : Int) (th : Int) (ths : Int) (kp : Int) (sd : Int) (r : Int) (e : TypeId) (e0 : TypeId) : evCK Tryd.prog cfgV (runK Tryd.prog cfgV fsV (conTk gDom gK) 12 40) 12 (codeAt [1, 1, 1, 1, 0, 1, 0, 0, 1, 0, 0, 1, 1, 0] B) (S42 pre n c i l dk th ths kp sd r e e0) (normC 2 [1, 2, 5, 10, 11, 12, 13, 14]) =
  some (.normal, (S43 pre n c i l dk th ths kp sd r e e0)) := by kernel_rfl
noncomputable def S44 (pre : Nat) (n : Nat) (c : Nat) (i : Int) (l : List Int) (dk : Int) (th : Int) (ths : Int) (kp : Int) (sd : Int) (r : Int) (e : TypeId) (e0 : TypeId) : KSt := ⟨(frameL 120 [(1, (.slice (some ⟨1, pre, none⟩) n c)), (2, (.pointer (some ⟨2, 0, none⟩))), (5, (.pointer (some ⟨3, 0, none⟩))), (10, (.int .i64 i)), (11, (.pointer (some ⟨4, 0, none⟩))), (12, (.int .u64 (gRes (gst (List.take (((Int.toNat i) - 0)) (List.drop ((pre + 0) - pre) l)))))), (13, (.int .u64 0)), (14, (.bool false)), (15, (.pointer (some ⟨5, 0, none⟩))), (16, (.bool true))]), ⟨6, 1, [(5, 0, .cells [(.int .i64 1), (.int .u64 dk), (.int .i64 0), (.int .u64 0), (.int .u64 0)] 37 true), (4, 0, .cells [(.slice (some ⟨1, (pre + 0), none⟩) ((Int.toNat i) - 0) (c - 0)), (.int .i64 ((gst (List.take (((Int.toNat i) - 0)) (List.drop ((pre + 0) - pre) l))).2.2)), (.bool (gOver (gst (List.take (((Int.toNat i) - 0)) (List.drop ((pre + 0) - pre) l))))), (.int .i64 (gKind (gst (List.take (((Int.toNat i) - 0)) (List.drop ((pre + 0) - pre) l))))), (.int .u64 (gBlk dk (gst (List.take (((Int.toNat i) - 0)) (List.drop ((pre + 0) - pre) l))))), (.int .i64 (gCell th (gst (List.take (((Int.toNat i) - 0)) (List.drop ((pre + 0) - pre) l))))), (.int .u64 0), (.int .u64 (gNew (gst (List.take (((Int.toNat i) - 0)) (List.drop ((pre + 0) - pre) l)))))] 45 true), (3, 0, .cells [(.int .u64 dk), (.int .i64 th), (.int .i64 ths), (.int .i64 kp), (.int .u64 sd), (.int .u64 r), (.int .i64 3)] 51 true), (2, 0, .cells [(.int .u64 dk), (.int .i64 th), (.int .i64 ths), (.int .i64 kp), (.int .u64 sd)] 24 true), (1, 0, .tail pre .u64 l e), (0, 0, .cells [(.int .i64 1), (.int .i64 64), (.int .i64 1), (.int .i64 64)] e0 false)]⟩⟩
theorem R44 (pre : Nat) (n : Nat) (c : Nat) (i : Int) (l : List Int) (dk : Int) (th : Int) (ths : Int) (kp : Int) (sd : Int) (r : Int) (e : TypeId) (e0 : TypeId) : evCK Tryd.prog cfgV (runK Tryd.prog cfgV fsV (conTk gDom gK) 12 40) 12 (codeAt [1, 1, 1, 1, 0, 1, 0, 0, 1, 0, 0, 1, 1, 1, 0] B) (S43 pre n c i l dk th ths kp sd r e e0) (normC 2 [1, 2, 5, 10, 11, 12, 13, 14, 15, 16]) =
  some (.normal, (S44 pre n c i l dk th ths kp sd r e e0)) := by kernel_rfl
noncomputable def S45 (pre : Nat) (n : Nat) (c : Nat) (i : Int) (dk : Int) (th : Int) (ths : Int) (kp : Int) (sd : Int) (r : Int) (l : List Int) (e : TypeId) (e0 : TypeId) : KSt := ⟨(frameL 120 [(1, (.slice (some ⟨1, pre, none⟩) n c)), (2, (.pointer (some ⟨2, 0, none⟩))), (5, (.pointer (some ⟨3, 0, none⟩))), (10, (.int .i64 i)), (108, (.bool true))]), ⟨4, 1, [(3, 0, .cells [(.int .u64 dk), (.int .i64 th), (.int .i64 ths), (.int .i64 kp), (.int .u64 sd), (.int .u64 r), (.int .i64 3)] 51 true), (2, 0, .cells [(.int .u64 dk), (.int .i64 th), (.int .i64 ths), (.int .i64 kp), (.int .u64 sd)] 24 true), (1, 0, .tail pre .u64 l e), (0, 0, .cells [(.int .i64 1), (.int .i64 64), (.int .i64 1), (.int .i64 64)] e0 false)]⟩⟩
noncomputable def S46 (pre : Nat) (n : Nat) (c : Nat) (i : Int) (dk : Int) (th : Int) (ths : Int) (kp : Int) (sd : Int) (r : Int) (l : List Int) (e : TypeId) (e0 : TypeId) : KSt := ⟨(frameL 120 [(1, (.slice (some ⟨1, pre, none⟩) n c)), (2, (.pointer (some ⟨2, 0, none⟩))), (5, (.pointer (some ⟨3, 0, none⟩))), (10, (.int .i64 i)), (108, (.bool false))]), ⟨4, 1, [(3, 0, .cells [(.int .u64 dk), (.int .i64 th), (.int .i64 ths), (.int .i64 kp), (.int .u64 sd), (.int .u64 r), (.int .i64 3)] 51 true), (2, 0, .cells [(.int .u64 dk), (.int .i64 th), (.int .i64 ths), (.int .i64 kp), (.int .u64 sd)] 24 true), (1, 0, .tail pre .u64 l e), (0, 0, .cells [(.int .i64 1), (.int .i64 64), (.int .i64 1), (.int .i64 64)] e0 false)]⟩⟩
theorem R45 (pre : Nat) (n : Nat) (c : Nat) (i : Int) (l : List Int) (dk : Int) (th : Int) (ths : Int) (kp : Int) (sd : Int) (r : Int) (e : TypeId) (e0 : TypeId) : evCK Tryd.prog cfgV (runK Tryd.prog cfgV fsV (conTk gDom gK) 12 40) 12 (codeAt [1, 1, 1, 1, 0, 1, 0, 0, 1, 0, 0, 1, 1, 1, 1, 0, 0] B) (S44 pre n c i l dk th ths kp sd r e e0) (normC 2 [1, 2, 5, 10, 108]) =
  bif (!(true == (gOver (gst (List.take (((Int.toNat i) - 0)) (List.drop ((pre + 0) - pre) l)))))) then
    some (.normal, (S45 pre n c i dk th ths kp sd r l e e0))
  else
    bif (!((1 == (gKind (gst (List.take (((Int.toNat i) - 0)) (List.drop ((pre + 0) - pre) l))))) && ((dk == (gBlk dk (gst (List.take (((Int.toNat i) - 0)) (List.drop ((pre + 0) - pre) l))))) && ((0 == (gCell th (gst (List.take (((Int.toNat i) - 0)) (List.drop ((pre + 0) - pre) l))))) && (true && ((0 == (gNew (gst (List.take (((Int.toNat i) - 0)) (List.drop ((pre + 0) - pre) l))))) && true)))))) then
      some (.normal, (S45 pre n c i dk th ths kp sd r l e e0))
    else
      bif (false == (gOver (gst (List.take (((Int.toNat i) - 0)) (List.drop ((pre + 0) - pre) l))))) then
        some (.normal, (S45 pre n c i dk th ths kp sd r l e e0))
      else
        some (.normal, (S46 pre n c i dk th ths kp sd r l e e0)) := by kernel_rfl
theorem R46 (pre : Nat) (n : Nat) (c : Nat) (i : Int) (dk : Int) (th : Int) (ths : Int) (kp : Int) (sd : Int) (r : Int) (l : List Int) (e : TypeId) (e0 : TypeId) : evCK Tryd.prog cfgV (runK Tryd.prog cfgV fsV (conTk gDom gK) 12 40) 12 (codeAt [1, 1, 1, 1, 0, 1, 0, 0, 1, 0, 0, 1, 1, 1, 1, 0, 1, 1] B) (S46 pre n c i dk th ths kp sd r l e e0) (normC 2 [1, 2, 5, 10]) =
  some (.normal, (S34 pre n c i dk th ths kp sd r l e e0)) := by kernel_rfl
noncomputable def S47 (pre : Nat) (n : Nat) (c : Nat) (i : Int) (dk : Int) (th : Int) (ths : Int) (kp : Int) (sd : Int) (r : Int) (l : List Int) (e : TypeId) (e0 : TypeId) : KSt := ⟨(frameL 120 [(1, (.slice (some ⟨1, pre, none⟩) n c)), (2, (.pointer (some ⟨2, 0, none⟩))), (5, (.pointer (some ⟨3, 0, none⟩))), (10, (.int .i64 i)), (112, (.bool (decide (i < ((n : Nat) : Int)))))]), ⟨4, 1, [(3, 0, .cells [(.int .u64 dk), (.int .i64 th), (.int .i64 ths), (.int .i64 kp), (.int .u64 sd), (.int .u64 r), (.int .i64 3)] 51 true), (2, 0, .cells [(.int .u64 dk), (.int .i64 th), (.int .i64 ths), (.int .i64 kp), (.int .u64 sd)] 24 true), (1, 0, .tail pre .u64 l e), (0, 0, .cells [(.int .i64 1), (.int .i64 64), (.int .i64 1), (.int .i64 64)] e0 false)]⟩⟩
theorem R47 (pre : Nat) (n : Nat) (c : Nat) (i : Int) (dk : Int) (th : Int) (ths : Int) (kp : Int) (sd : Int) (r : Int) (l : List Int) (e : TypeId) (e0 : TypeId) : evCK Tryd.prog cfgV (runK Tryd.prog cfgV fsV (conTk gDom gK) 12 40) 12 (codeAt [1, 1, 1, 1, 0, 1, 0, 0, 1, 0, 0, 1, 1, 1, 1, 1, 0] B) (S34 pre n c i dk th ths kp sd r l e e0) (normC 2 [1, 2, 5, 10, 112]) =
  some (.normal, (S47 pre n c i dk th ths kp sd r l e e0)) := by kernel_rfl
noncomputable def S48 (pre : Nat) (n : Nat) (c : Nat) (i : Int) (dk : Int) (th : Int) (ths : Int) (kp : Int) (sd : Int) (n1 : Int) (l : List Int) (e : TypeId) (e0 : TypeId) : KSt := ⟨(frameL 120 [(1, (.slice (some ⟨1, pre, none⟩) n c)), (2, (.pointer (some ⟨2, 0, none⟩))), (5, (.pointer (some ⟨3, 0, none⟩))), (10, (.int .i64 i))]), ⟨4, 1, [(3, 0, .cells [(.int .u64 dk), (.int .i64 th), (.int .i64 ths), (.int .i64 kp), (.int .u64 sd), (.int .u64 n1), (.int .i64 2)] 51 true), (2, 0, .cells [(.int .u64 dk), (.int .i64 th), (.int .i64 ths), (.int .i64 kp), (.int .u64 sd)] 24 true), (1, 0, .tail pre .u64 l e), (0, 0, .cells [(.int .i64 1), (.int .i64 64), (.int .i64 1), (.int .i64 64)] e0 false)]⟩⟩
noncomputable def S49 (pre : Nat) (n : Nat) (c : Nat) (i : Int) (dk : Int) (th : Int) (ths : Int) (kp : Int) (sd : Int) (r : Int) (l : List Int) (e : TypeId) (e0 : TypeId) : KSt := ⟨(frameL 120 [(1, (.slice (some ⟨1, pre, none⟩) n c)), (2, (.pointer (some ⟨2, 0, none⟩))), (5, (.pointer (some ⟨3, 0, none⟩))), (10, (.int .i64 i))]), ⟨4, 1, [(3, 0, .cells [(.int .u64 dk), (.int .i64 th), (.int .i64 ths), (.int .i64 kp), (.int .u64 sd), (.int .u64 r), (.int .i64 4)] 51 true), (2, 0, .cells [(.int .u64 dk), (.int .i64 th), (.int .i64 ths), (.int .i64 kp), (.int .u64 sd)] 24 true), (1, 0, .tail pre .u64 l e), (0, 0, .cells [(.int .i64 1), (.int .i64 64), (.int .i64 1), (.int .i64 64)] e0 false)]⟩⟩
theorem R48 (pre : Nat) (n : Nat) (c : Nat) (i : Int) (dk : Int) (th : Int) (ths : Int) (kp : Int) (sd : Int) (r : Int) (l : List Int) (e : TypeId) (e0 : TypeId) : evCK Tryd.prog cfgV (runK Tryd.prog cfgV fsV (conTk gDom gK) 12 40) 12 (codeAt [1, 1, 1, 1, 0, 1, 0, 0, 1, 0, 0, 1, 1, 1, 1, 1, 1, 0] B) (S47 pre n c i dk th ths kp sd r l e e0) (normC 2 [1, 2, 5, 10]) =
  if 0 ≤ i ∧ i < ((n : Nat) : Int) then
    bif (Nat.ble pre (pre + ((Int.toNat i) * 1))) then
      obind (l[((pre + ((Int.toNat i) * 1)) - pre)]?) fun n1 =>
        bif (n1 != r) then
          some (.normal, (S48 pre n c i dk th ths kp sd n1 l e e0))
        else
          some (.normal, (S49 pre n c i dk th ths kp sd r l e e0))
    else
      none
  else
    none := by kernel_rfl
noncomputable def S50 (pre : Nat) (n : Nat) (c : Nat) (i : Int) (dk : Int) (th : Int) (ths : Int) (kp : Int) (sd : Int) (r : Int) (l : List Int) (e : TypeId) (e0 : TypeId) : KSt := ⟨(frameL 120 [(1, (.slice (some ⟨1, pre, none⟩) n c)), (2, (.pointer (some ⟨2, 0, none⟩))), (5, (.pointer (some ⟨3, 0, none⟩))), (10, (.int .i64 (IntKind.wrap .i64 (i + 1))))]), ⟨4, 1, [(3, 0, .cells [(.int .u64 dk), (.int .i64 th), (.int .i64 ths), (.int .i64 kp), (.int .u64 sd), (.int .u64 r), (.int .i64 4)] 51 true), (2, 0, .cells [(.int .u64 dk), (.int .i64 th), (.int .i64 ths), (.int .i64 kp), (.int .u64 sd)] 24 true), (1, 0, .tail pre .u64 l e), (0, 0, .cells [(.int .i64 1), (.int .i64 64), (.int .i64 1), (.int .i64 64)] e0 false)]⟩⟩
theorem R49 (pre : Nat) (n : Nat) (c : Nat) (i : Int) (dk : Int) (th : Int) (ths : Int) (kp : Int) (sd : Int) (r : Int) (l : List Int) (e : TypeId) (e0 : TypeId) : evCK Tryd.prog cfgV (runK Tryd.prog cfgV fsV (conTk gDom gK) 12 40) 12 (codeAt [1, 1, 1, 1, 0, 1, 0, 0, 1, 1] B) (S49 pre n c i dk th ths kp sd r l e e0) (normC 2 [1, 2, 5, 10]) =
  some (.normal, (S50 pre n c i dk th ths kp sd r l e e0)) := by kernel_rfl
noncomputable def S51 (pre : Nat) (n : Nat) (c : Nat) (i : Int) (dk : Int) (th : Int) (ths : Int) (kp : Int) (sd : Int) (r : Int) (l : List Int) (e : TypeId) (e0 : TypeId) : KSt := ⟨(frameL 120 [(1, (.slice (some ⟨1, pre, none⟩) n c)), (2, (.pointer (some ⟨2, 0, none⟩))), (5, (.pointer (some ⟨3, 0, none⟩))), (10, (.int .i64 (i + 1)))]), ⟨4, 1, [(3, 0, .cells [(.int .u64 dk), (.int .i64 th), (.int .i64 ths), (.int .i64 kp), (.int .u64 sd), (.int .u64 r), (.int .i64 4)] 51 true), (2, 0, .cells [(.int .u64 dk), (.int .i64 th), (.int .i64 ths), (.int .i64 kp), (.int .u64 sd)] 24 true), (1, 0, .tail pre .u64 l e), (0, 0, .cells [(.int .i64 1), (.int .i64 64), (.int .i64 1), (.int .i64 64)] e0 false)]⟩⟩
theorem s3mq (dk th ths kp sd r i a : Int) (pre n c : Nat) (l : List Int) (e0 e : TypeId) (hdk : 0 ≤ dk) (hn40 : n ≤ 40) (hc : n ≤ c) (hc2 : c ≤ 9223372036854775807) (hl : l.length = c) (hc0 : 0 < c) (hR : rightV dk th ths kp = true) (hi : 1 ≤ i) (hn : i < (n : Int)) (hGd : gst (List.take ((Int.toNat i) - 0) (List.drop ((pre + 0) - pre) l)) = (3, r, i))  (q1 : ((l.getD ((Int.toNat i) * 1) 0) != r) = false) {Q : Ex → St → Prop} (hq : Q .normal (KSt.low (S51 pre n c i dk th ths kp sd r l e e0))) : Gets Tryd.prog (KH.low ⟨2, 1, [(1, 0, .tail pre .u64 l e), (0, 0, .cells [(.int .i64 1), (.int .i64 64), (.int .i64 1), (.int .i64 64)] e0 false)]⟩) (codeAt [1, 1, 1, 1, 0, 1, 0, 0] B) (KSt.low (S34 pre n c i dk th ths kp sd r l e e0)) Q := by
  rw [C1_1_1_1_0_1_0_0]; refine Gets.seq ?_
  rw [C1_1_1_1_0_1_0_0_0]; refine Gets.seq ?_
  refine Gets.ofN fitV g_sound g_agree 12 40 (by kernel_rfl) (x := .normal) (s' := (S39 pre n c i dk th ths kp sd r l e e0)) (R39 pre n c i dk th ths kp sd r l e e0) ?_
  show Gets _ _ (codeAt [1, 1, 1, 1, 0, 1, 0, 0, 0, 1] B) _ _
  rw [C1_1_1_1_0_1_0_0_0_1]; refine Gets.cond true (by kernel_rfl) ((show evalX (KSt.ts (S39 pre n c i dk th ths kp sd r l e e0)) (.tmp 50) = .bool (decide (i ≤ ((n : Nat) : Int))) by kernel_rfl).trans (by rw [(show (decide (i ≤ ((n : Nat) : Int))) = true from decide_eq_true (by omega))])) ?_; show Gets _ _ (codeAt [1, 1, 1, 1, 0, 1, 0, 0, 0, 1, 0] B) _ _
  refine Gets.ofN fitV g_sound g_agree 12 40 (by kernel_rfl) (x := .normal) (s' := (S34 pre n c i dk th ths kp sd r l e e0)) (R40 pre n c i dk th ths kp sd r l e e0) ?_
  show Gets _ _ (codeAt [1, 1, 1, 1, 0, 1, 0, 0, 1] B) _ _
  rw [C1_1_1_1_0_1_0_0_1]; refine Gets.seq ?_
  rw [C1_1_1_1_0_1_0_0_1_0]; refine Gets.block ?_
  rw [C1_1_1_1_0_1_0_0_1_0_0]; refine Gets.seq ?_
  refine Gets.ofN fitV g_sound g_agree 12 40 (by kernel_rfl) (x := .normal) (s' := (S41 pre n c i dk th ths kp sd r l e e0)) ((R41 pre n c i dk th ths kp sd r l e e0).trans (by rw [if_pos (⟨by omega, by omega⟩), condT (and_t (ble_t (by omega)) (ble_t (by omega))), condF (nbeq_f (by omega))])) ?_
  show Gets _ _ (codeAt [1, 1, 1, 1, 0, 1, 0, 0, 1, 0, 0, 1] B) _ _
  rw [C1_1_1_1_0_1_0_0_1_0_0_1]; refine Gets.seq ?_
  refine Gets.ofN fitV g_sound g_agree 12 40 (by kernel_rfl) (x := .normal) (s' := (S42 pre n c i l dk th ths kp sd r e e0)) ((R42 pre n c i dk th ths kp sd r l e e0).trans (by rw [condT (ble_t (by omega)), condT (ble_t (by omega)), condT (ble_t (by omega))])) ?_
  show Gets _ _ (codeAt [1, 1, 1, 1, 0, 1, 0, 0, 1, 0, 0, 1, 1] B) _ _
  rw [C1_1_1_1_0_1_0_0_1_0_0_1_1]; refine Gets.seq ?_
  refine Gets.ofN fitV g_sound g_agree 12 40 (by kernel_rfl) (x := .normal) (s' := (S43 pre n c i l dk th ths kp sd r e e0)) (R43 pre n c i l dk th ths kp sd r e e0) ?_
  show Gets _ _ (codeAt [1, 1, 1, 1, 0, 1, 0, 0, 1, 0, 0, 1, 1, 1] B) _ _
  rw [C1_1_1_1_0_1_0_0_1_0_0_1_1_1]; refine Gets.seq ?_
  refine Gets.ofN fitV g_sound g_agree 12 40 (by kernel_rfl) (x := .normal) (s' := (S44 pre n c i l dk th ths kp sd r e e0)) (R44 pre n c i l dk th ths kp sd r e e0) ?_
  show Gets _ _ (codeAt [1, 1, 1, 1, 0, 1, 0, 0, 1, 0, 0, 1, 1, 1, 1] B) _ _
  rw [C1_1_1_1_0_1_0_0_1_0_0_1_1_1_1]; refine Gets.seq ?_
  rw [C1_1_1_1_0_1_0_0_1_0_0_1_1_1_1_0]; refine Gets.seq ?_
  refine Gets.ofN fitV g_sound g_agree 12 40 (by kernel_rfl) (x := .normal) (s' := (S46 pre n c i dk th ths kp sd r l e e0)) ((R45 pre n c i l dk th ths kp sd r e e0).trans (by rw [condF (not_f (by rw [hGd]; simp [gOver, gKind, gBlk, gCell, gNew, gRes])), condF (not_f (and_t (by rw [hGd]; simp [gOver, gKind, gBlk, gCell, gNew, gRes]) (and_t (by rw [hGd]; simp [gOver, gKind, gBlk, gCell, gNew, gRes]) (and_t (by rw [hGd]; simp [gOver, gKind, gBlk, gCell, gNew, gRes]) (and_t (rfl) (and_t (by rw [hGd]; simp [gOver, gKind, gBlk, gCell, gNew, gRes]) (rfl))))))), condF (by rw [hGd]; simp [gOver, gKind, gBlk, gCell, gNew, gRes])])) ?_
  show Gets _ _ (codeAt [1, 1, 1, 1, 0, 1, 0, 0, 1, 0, 0, 1, 1, 1, 1, 0, 1] B) _ _
  rw [C1_1_1_1_0_1_0_0_1_0_0_1_1_1_1_0_1]; refine Gets.cond false (by kernel_rfl) (show evalX (KSt.ts (S46 pre n c i dk th ths kp sd r l e e0)) (.tmp 108) = .bool false by kernel_rfl) ?_; show Gets _ _ (codeAt [1, 1, 1, 1, 0, 1, 0, 0, 1, 0, 0, 1, 1, 1, 1, 0, 1, 1] B) _ _
  refine Gets.ofN fitV g_sound g_agree 12 40 (by kernel_rfl) (x := .normal) (s' := (S34 pre n c i dk th ths kp sd r l e e0)) (R46 pre n c i dk th ths kp sd r l e e0) ?_
  show Gets _ _ (codeAt [1, 1, 1, 1, 0, 1, 0, 0, 1, 0, 0, 1, 1, 1, 1, 1] B) _ _
  rw [C1_1_1_1_0_1_0_0_1_0_0_1_1_1_1_1]; refine Gets.seq ?_
  refine Gets.ofN fitV g_sound g_agree 12 40 (by kernel_rfl) (x := .normal) (s' := (S47 pre n c i dk th ths kp sd r l e e0)) (R47 pre n c i dk th ths kp sd r l e e0) ?_
  show Gets _ _ (codeAt [1, 1, 1, 1, 0, 1, 0, 0, 1, 0, 0, 1, 1, 1, 1, 1, 1] B) _ _
  rw [C1_1_1_1_0_1_0_0_1_0_0_1_1_1_1_1_1]; refine Gets.cond true (by kernel_rfl) ((show evalX (KSt.ts (S47 pre n c i dk th ths kp sd r l e e0)) (.tmp 112) = .bool (decide (i < ((n : Nat) : Int))) by kernel_rfl).trans (by rw [(show (decide (i < ((n : Nat) : Int))) = true from decide_eq_true (by omega))])) ?_; show Gets _ _ (codeAt [1, 1, 1, 1, 0, 1, 0, 0, 1, 0, 0, 1, 1, 1, 1, 1, 1, 0] B) _ _
  refine Gets.ofN fitV g_sound g_agree 12 40 (by kernel_rfl) (x := .normal) (s' := (S49 pre n c i dk th ths kp sd r l e e0)) ((R48 pre n c i dk th ths kp sd r l e e0).trans (by rw [if_pos (⟨by omega, by omega⟩), condT (ble_t (by omega)), obind_at (k := ((Int.toNat i) * 1)) (by omega) (by omega), condF (q1)] <;> rfl)) ?_
  show Gets _ _ (codeAt [1, 1, 1, 1, 0, 1, 0, 0, 1, 1] B) _ _
  refine Gets.ofN fitV g_sound g_agree 12 40 (by kernel_rfl) (x := .normal) (s' := (S51 pre n c i dk th ths kp sd r l e e0)) ((R49 pre n c i dk th ths kp sd r l e e0).trans (by (show some (Ex.normal, (S50 pre n c i dk th ths kp sd r l e e0)) = some (Ex.normal, (S51 pre n c i dk th ths kp sd r l e e0)); unfold S50 S51; rw [(show (IntKind.wrap .i64 (i + 1)) = (i + 1) from wrap_i64_id (by omega) (by omega))]))) ?_
  exact hq
noncomputable def S52 (pre : Nat) (n : Nat) (c : Nat) (i : Int) (dk : Int) (th : Int) (ths : Int) (kp : Int) (sd : Int) (l : List Int) (e : TypeId) (e0 : TypeId) : KSt := ⟨(frameL 120 [(1, (.slice (some ⟨1, pre, none⟩) n c)), (2, (.pointer (some ⟨2, 0, none⟩))), (5, (.pointer (some ⟨3, 0, none⟩))), (10, (.int .i64 i))]), ⟨4, 1, [(3, 0, .cells [(.int .u64 dk), (.int .i64 th), (.int .i64 ths), (.int .i64 kp), (.int .u64 sd), (.int .u64 (l.getD (Int.toNat i) 0)), (.int .i64 2)] 51 true), (2, 0, .cells [(.int .u64 dk), (.int .i64 th), (.int .i64 ths), (.int .i64 kp), (.int .u64 sd)] 24 true), (1, 0, .tail pre .u64 l e), (0, 0, .cells [(.int .i64 1), (.int .i64 64), (.int .i64 1), (.int .i64 64)] e0 false)]⟩⟩
noncomputable def S53 (pre : Nat) (n : Nat) (c : Nat) (i : Int) (dk : Int) (th : Int) (ths : Int) (kp : Int) (sd : Int) (l : List Int) (e : TypeId) (e0 : TypeId) : KSt := ⟨(frameL 120 [(1, (.slice (some ⟨1, pre, none⟩) n c)), (2, (.pointer (some ⟨2, 0, none⟩))), (5, (.pointer (some ⟨3, 0, none⟩))), (10, (.int .i64 i))]), ⟨4, 1, [(3, 0, .cells [(.int .u64 dk), (.int .i64 th), (.int .i64 ths), (.int .i64 kp), (.int .u64 sd), (.int .u64 (l.getD ((Int.toNat i) * 1) 0)), (.int .i64 2)] 51 true), (2, 0, .cells [(.int .u64 dk), (.int .i64 th), (.int .i64 ths), (.int .i64 kp), (.int .u64 sd)] 24 true), (1, 0, .tail pre .u64 l e), (0, 0, .cells [(.int .i64 1), (.int .i64 64), (.int .i64 1), (.int .i64 64)] e0 false)]⟩⟩
noncomputable def S54 (pre : Nat) (n : Nat) (c : Nat) (i : Int) (dk : Int) (th : Int) (ths : Int) (kp : Int) (sd : Int) (l : List Int) (e : TypeId) (e0 : TypeId) : KSt := ⟨(frameL 120 [(1, (.slice (some ⟨1, pre, none⟩) n c)), (2, (.pointer (some ⟨2, 0, none⟩))), (5, (.pointer (some ⟨3, 0, none⟩))), (10, (.int .i64 (IntKind.wrap .i64 (i + 1))))]), ⟨4, 1, [(3, 0, .cells [(.int .u64 dk), (.int .i64 th), (.int .i64 ths), (.int .i64 kp), (.int .u64 sd), (.int .u64 (l.getD (Int.toNat i) 0)), (.int .i64 2)] 51 true), (2, 0, .cells [(.int .u64 dk), (.int .i64 th), (.int .i64 ths), (.int .i64 kp), (.int .u64 sd)] 24 true), (1, 0, .tail pre .u64 l e), (0, 0, .cells [(.int .i64 1), (.int .i64 64), (.int .i64 1), (.int .i64 64)] e0 false)]⟩⟩
theorem R50 (pre : Nat) (n : Nat) (c : Nat) (i : Int) (dk : Int) (th : Int) (ths : Int) (kp : Int) (sd : Int) (l : List Int) (e : TypeId) (e0 : TypeId) : evCK Tryd.prog cfgV (runK Tryd.prog cfgV fsV (conTk gDom gK) 12 40) 12 (codeAt [1, 1, 1, 1, 0, 1, 0, 0, 1, 1] B) (S52 pre n c i dk th ths kp sd l e e0) (normC 2 [1, 2, 5, 10]) =
  some (.normal, (S54 pre n c i dk th ths kp sd l e e0)) := by kernel_rfl
noncomputable def S55 (pre : Nat) (n : Nat) (c : Nat) (i : Int) (dk : Int) (th : Int) (ths : Int) (kp : Int) (sd : Int) (l : List Int) (e : TypeId) (e0 : TypeId) : KSt := ⟨(frameL 120 [(1, (.slice (some ⟨1, pre, none⟩) n c)), (2, (.pointer (some ⟨2, 0, none⟩))), (5, (.pointer (some ⟨3, 0, none⟩))), (10, (.int .i64 (i + 1)))]), ⟨4, 1, [(3, 0, .cells [(.int .u64 dk), (.int .i64 th), (.int .i64 ths), (.int .i64 kp), (.int .u64 sd), (.int .u64 (l.getD (Int.toNat i) 0)), (.int .i64 2)] 51 true), (2, 0, .cells [(.int .u64 dk), (.int .i64 th), (.int .i64 ths), (.int .i64 kp), (.int .u64 sd)] 24 true), (1, 0, .tail pre .u64 l e), (0, 0, .cells [(.int .i64 1), (.int .i64 64), (.int .i64 1), (.int .i64 64)] e0 false)]⟩⟩
theorem s3mn (dk th ths kp sd r i a : Int) (pre n c : Nat) (l : List Int) (e0 e : TypeId) (hdk : 0 ≤ dk) (hn40 : n ≤ 40) (hc : n ≤ c) (hc2 : c ≤ 9223372036854775807) (hl : l.length = c) (hc0 : 0 < c) (hR : rightV dk th ths kp = true) (hi : 1 ≤ i) (hn : i < (n : Int)) (hGd : gst (List.take ((Int.toNat i) - 0) (List.drop ((pre + 0) - pre) l)) = (3, r, i))  (q1 : ((l.getD ((Int.toNat i) * 1) 0) != r) = true) {Q : Ex → St → Prop} (hq : Q .normal (KSt.low (S55 pre n c i dk th ths kp sd l e e0))) : Gets Tryd.prog (KH.low ⟨2, 1, [(1, 0, .tail pre .u64 l e), (0, 0, .cells [(.int .i64 1), (.int .i64 64), (.int .i64 1), (.int .i64 64)] e0 false)]⟩) (codeAt [1, 1, 1, 1, 0, 1, 0, 0] B) (KSt.low (S34 pre n c i dk th ths kp sd r l e e0)) Q := by
  rw [C1_1_1_1_0_1_0_0]; refine Gets.seq ?_
  rw [C1_1_1_1_0_1_0_0_0]; refine Gets.seq ?_
  refine Gets.ofN fitV g_sound g_agree 12 40 (by kernel_rfl) (x := .normal) (s' := (S39 pre n c i dk th ths kp sd r l e e0)) (R39 pre n c i dk th ths kp sd r l e e0) ?_
  show Gets _ _ (codeAt [1, 1, 1, 1, 0, 1, 0, 0, 0, 1] B) _ _
  rw [C1_1_1_1_0_1_0_0_0_1]; refine Gets.cond true (by kernel_rfl) ((show evalX (KSt.ts (S39 pre n c i dk th ths kp sd r l e e0)) (.tmp 50) = .bool (decide (i ≤ ((n : Nat) : Int))) by kernel_rfl).trans (by rw [(show (decide (i ≤ ((n : Nat) : Int))) = true from decide_eq_true (by omega))])) ?_; show Gets _ _ (codeAt [1, 1, 1, 1, 0, 1, 0, 0, 0, 1, 0] B) _ _
  refine Gets.ofN fitV g_sound g_agree 12 40 (by kernel_rfl) (x := .normal) (s' := (S34 pre n c i dk th ths kp sd r l e e0)) (R40 pre n c i dk th ths kp sd r l e e0) ?_
  show Gets _ _ (codeAt [1, 1, 1, 1, 0, 1, 0, 0, 1] B) _ _
  rw [C1_1_1_1_0_1_0_0_1]; refine Gets.seq ?_
  rw [C1_1_1_1_0_1_0_0_1_0]; refine Gets.block ?_
  rw [C1_1_1_1_0_1_0_0_1_0_0]; refine Gets.seq ?_
  refine Gets.ofN fitV g_sound g_agree 12 40 (by kernel_rfl) (x := .normal) (s' := (S41 pre n c i dk th ths kp sd r l e e0)) ((R41 pre n c i dk th ths kp sd r l e e0).trans (by rw [if_pos (⟨by omega, by omega⟩), condT (and_t (ble_t (by omega)) (ble_t (by omega))), condF (nbeq_f (by omega))])) ?_
  show Gets _ _ (codeAt [1, 1, 1, 1, 0, 1, 0, 0, 1, 0, 0, 1] B) _ _
  rw [C1_1_1_1_0_1_0_0_1_0_0_1]; refine Gets.seq ?_
  refine Gets.ofN fitV g_sound g_agree 12 40 (by kernel_rfl) (x := .normal) (s' := (S42 pre n c i l dk th ths kp sd r e e0)) ((R42 pre n c i dk th ths kp sd r l e e0).trans (by rw [condT (ble_t (by omega)), condT (ble_t (by omega)), condT (ble_t (by omega))])) ?_
  show Gets _ _ (codeAt [1, 1, 1, 1, 0, 1, 0, 0, 1, 0, 0, 1, 1] B) _ _
  rw [C1_1_1_1_0_1_0_0_1_0_0_1_1]; refine Gets.seq ?_
  refine Gets.ofN fitV g_sound g_agree 12 40 (by kernel_rfl) (x := .normal) (s' := (S43 pre n c i l dk th ths kp sd r e e0)) (R43 pre n c i l dk th ths kp sd r e e0) ?_
  show Gets _ _ (codeAt [1, 1, 1, 1, 0, 1, 0, 0, 1, 0, 0, 1, 1, 1] B) _ _
  rw [C1_1_1_1_0_1_0_0_1_0_0_1_1_1]; refine Gets.seq ?_
  refine Gets.ofN fitV g_sound g_agree 12 40 (by kernel_rfl) (x := .normal) (s' := (S44 pre n c i l dk th ths kp sd r e e0)) (R44 pre n c i l dk th ths kp sd r e e0) ?_
  show Gets _ _ (codeAt [1, 1, 1, 1, 0, 1, 0, 0, 1, 0, 0, 1, 1, 1, 1] B) _ _
  rw [C1_1_1_1_0_1_0_0_1_0_0_1_1_1_1]; refine Gets.seq ?_
  rw [C1_1_1_1_0_1_0_0_1_0_0_1_1_1_1_0]; refine Gets.seq ?_
  refine Gets.ofN fitV g_sound g_agree 12 40 (by kernel_rfl) (x := .normal) (s' := (S46 pre n c i dk th ths kp sd r l e e0)) ((R45 pre n c i l dk th ths kp sd r e e0).trans (by rw [condF (not_f (by rw [hGd]; simp [gOver, gKind, gBlk, gCell, gNew, gRes])), condF (not_f (and_t (by rw [hGd]; simp [gOver, gKind, gBlk, gCell, gNew, gRes]) (and_t (by rw [hGd]; simp [gOver, gKind, gBlk, gCell, gNew, gRes]) (and_t (by rw [hGd]; simp [gOver, gKind, gBlk, gCell, gNew, gRes]) (and_t (rfl) (and_t (by rw [hGd]; simp [gOver, gKind, gBlk, gCell, gNew, gRes]) (rfl))))))), condF (by rw [hGd]; simp [gOver, gKind, gBlk, gCell, gNew, gRes])])) ?_
  show Gets _ _ (codeAt [1, 1, 1, 1, 0, 1, 0, 0, 1, 0, 0, 1, 1, 1, 1, 0, 1] B) _ _
  rw [C1_1_1_1_0_1_0_0_1_0_0_1_1_1_1_0_1]; refine Gets.cond false (by kernel_rfl) (show evalX (KSt.ts (S46 pre n c i dk th ths kp sd r l e e0)) (.tmp 108) = .bool false by kernel_rfl) ?_; show Gets _ _ (codeAt [1, 1, 1, 1, 0, 1, 0, 0, 1, 0, 0, 1, 1, 1, 1, 0, 1, 1] B) _ _
  refine Gets.ofN fitV g_sound g_agree 12 40 (by kernel_rfl) (x := .normal) (s' := (S34 pre n c i dk th ths kp sd r l e e0)) (R46 pre n c i dk th ths kp sd r l e e0) ?_
  show Gets _ _ (codeAt [1, 1, 1, 1, 0, 1, 0, 0, 1, 0, 0, 1, 1, 1, 1, 1] B) _ _
  rw [C1_1_1_1_0_1_0_0_1_0_0_1_1_1_1_1]; refine Gets.seq ?_
  refine Gets.ofN fitV g_sound g_agree 12 40 (by kernel_rfl) (x := .normal) (s' := (S47 pre n c i dk th ths kp sd r l e e0)) (R47 pre n c i dk th ths kp sd r l e e0) ?_
  show Gets _ _ (codeAt [1, 1, 1, 1, 0, 1, 0, 0, 1, 0, 0, 1, 1, 1, 1, 1, 1] B) _ _
  rw [C1_1_1_1_0_1_0_0_1_0_0_1_1_1_1_1_1]; refine Gets.cond true (by kernel_rfl) ((show evalX (KSt.ts (S47 pre n c i dk th ths kp sd r l e e0)) (.tmp 112) = .bool (decide (i < ((n : Nat) : Int))) by kernel_rfl).trans (by rw [(show (decide (i < ((n : Nat) : Int))) = true from decide_eq_true (by omega))])) ?_; show Gets _ _ (codeAt [1, 1, 1, 1, 0, 1, 0, 0, 1, 0, 0, 1, 1, 1, 1, 1, 1, 0] B) _ _
  refine Gets.ofN fitV g_sound g_agree 12 40 (by kernel_rfl) (x := .normal) (s' := (S52 pre n c i dk th ths kp sd l e e0)) ((R48 pre n c i dk th ths kp sd r l e e0).trans (by rw [if_pos (⟨by omega, by omega⟩), condT (ble_t (by omega)), obind_at (k := ((Int.toNat i) * 1)) (by omega) (by omega), condT (q1)] <;> (show some (Ex.normal, (S53 pre n c i dk th ths kp sd l e e0)) = some (Ex.normal, (S52 pre n c i dk th ths kp sd l e e0)); unfold S53 S52; rw [(show ((Int.toNat i) * 1) = (Int.toNat i) from Nat.mul_one _)]))) ?_
  show Gets _ _ (codeAt [1, 1, 1, 1, 0, 1, 0, 0, 1, 1] B) _ _
  refine Gets.ofN fitV g_sound g_agree 12 40 (by kernel_rfl) (x := .normal) (s' := (S55 pre n c i dk th ths kp sd l e e0)) ((R50 pre n c i dk th ths kp sd l e e0).trans (by (show some (Ex.normal, (S54 pre n c i dk th ths kp sd l e e0)) = some (Ex.normal, (S55 pre n c i dk th ths kp sd l e e0)); unfold S54 S55; rw [(show (IntKind.wrap .i64 (i + 1)) = (i + 1) from wrap_i64_id (by omega) (by omega))]))) ?_
  exact hq
theorem R51 (pre : Nat) (n : Nat) (c : Nat) (i : Int) (dk : Int) (th : Int) (ths : Int) (kp : Int) (sd : Int) (r : Int) (l : List Int) (e : TypeId) (e0 : TypeId) : evCK Tryd.prog cfgV (runK Tryd.prog cfgV fsV (conTk gDom gK) 12 40) 12 (codeAt [1, 1, 1, 1, 0, 1, 0, 0, 1, 0, 0, 1, 1, 1, 1, 1, 1, 1] B) (S47 pre n c i dk th ths kp sd r l e e0) (normC 2 [1, 2, 5, 10]) =
  some (.normal, (S34 pre n c i dk th ths kp sd r l e e0)) := by kernel_rfl
theorem s3e (dk th ths kp sd r i a : Int) (pre n c : Nat) (l : List Int) (e0 e : TypeId) (hdk : 0 ≤ dk) (hn40 : n ≤ 40) (hc : n ≤ c) (hc2 : c ≤ 9223372036854775807) (hl : l.length = c) (hc0 : 0 < c) (hR : rightV dk th ths kp = true) (hi : 1 ≤ i) (hn : i = (n : Int)) (hGd : gst (List.take ((Int.toNat i) - 0) (List.drop ((pre + 0) - pre) l)) = (3, r, i))   {Q : Ex → St → Prop} (hq : Q .normal (KSt.low (S36 pre n c i dk th ths kp sd r l e e0))) : Gets Tryd.prog (KH.low ⟨2, 1, [(1, 0, .tail pre .u64 l e), (0, 0, .cells [(.int .i64 1), (.int .i64 64), (.int .i64 1), (.int .i64 64)] e0 false)]⟩) (codeAt [1, 1, 1, 1, 0, 1, 0, 0] B) (KSt.low (S34 pre n c i dk th ths kp sd r l e e0)) Q := by
  rw [C1_1_1_1_0_1_0_0]; refine Gets.seq ?_
  rw [C1_1_1_1_0_1_0_0_0]; refine Gets.seq ?_
  refine Gets.ofN fitV g_sound g_agree 12 40 (by kernel_rfl) (x := .normal) (s' := (S39 pre n c i dk th ths kp sd r l e e0)) (R39 pre n c i dk th ths kp sd r l e e0) ?_
  show Gets _ _ (codeAt [1, 1, 1, 1, 0, 1, 0, 0, 0, 1] B) _ _
  rw [C1_1_1_1_0_1_0_0_0_1]; refine Gets.cond true (by kernel_rfl) ((show evalX (KSt.ts (S39 pre n c i dk th ths kp sd r l e e0)) (.tmp 50) = .bool (decide (i ≤ ((n : Nat) : Int))) by kernel_rfl).trans (by rw [(show (decide (i ≤ ((n : Nat) : Int))) = true from decide_eq_true (by omega))])) ?_; show Gets _ _ (codeAt [1, 1, 1, 1, 0, 1, 0, 0, 0, 1, 0] B) _ _
  refine Gets.ofN fitV g_sound g_agree 12 40 (by kernel_rfl) (x := .normal) (s' := (S34 pre n c i dk th ths kp sd r l e e0)) (R40 pre n c i dk th ths kp sd r l e e0) ?_
  show Gets _ _ (codeAt [1, 1, 1, 1, 0, 1, 0, 0, 1] B) _ _
  rw [C1_1_1_1_0_1_0_0_1]; refine Gets.seq ?_
  rw [C1_1_1_1_0_1_0_0_1_0]; refine Gets.block ?_
  rw [C1_1_1_1_0_1_0_0_1_0_0]; refine Gets.seq ?_
  refine Gets.ofN fitV g_sound g_agree 12 40 (by kernel_rfl) (x := .normal) (s' := (S41 pre n c i dk th ths kp sd r l e e0)) ((R41 pre n c i dk th ths kp sd r l e e0).trans (by rw [if_pos (⟨by omega, by omega⟩), condT (and_t (ble_t (by omega)) (ble_t (by omega))), condF (nbeq_f (by omega))])) ?_
  show Gets _ _ (codeAt [1, 1, 1, 1, 0, 1, 0, 0, 1, 0, 0, 1] B) _ _
  rw [C1_1_1_1_0_1_0_0_1_0_0_1]; refine Gets.seq ?_
  refine Gets.ofN fitV g_sound g_agree 12 40 (by kernel_rfl) (x := .normal) (s' := (S42 pre n c i l dk th ths kp sd r e e0)) ((R42 pre n c i dk th ths kp sd r l e e0).trans (by rw [condT (ble_t (by omega)), condT (ble_t (by omega)), condT (ble_t (by omega))])) ?_
  show Gets _ _ (codeAt [1, 1, 1, 1, 0, 1, 0, 0, 1, 0, 0, 1, 1] B) _ _
  rw [C1_1_1_1_0_1_0_0_1_0_0_1_1]; refine Gets.seq ?_
  refine Gets.ofN fitV g_sound g_agree 12 40 (by kernel_rfl) (x := .normal) (s' := (S43 pre n c i l dk th ths kp sd r e e0)) (R43 pre n c i l dk th ths kp sd r e e0) ?_
  show Gets _ _ (codeAt [1, 1, 1, 1, 0, 1, 0, 0, 1, 0, 0, 1, 1, 1] B) _ _
  rw [C1_1_1_1_0_1_0_0_1_0_0_1_1_1]; refine Gets.seq ?_
  refine Gets.ofN fitV g_sound g_agree 12 40 (by kernel_rfl) (x := .normal) (s' := (S44 pre n c i l dk th ths kp sd r e e0)) (R44 pre n c i l dk th ths kp sd r e e0) ?_
  show Gets _ _ (codeAt [1, 1, 1, 1, 0, 1, 0, 0, 1, 0, 0, 1, 1, 1, 1] B) _ _
  rw [C1_1_1_1_0_1_0_0_1_0_0_1_1_1_1]; refine Gets.seq ?_
  rw [C1_1_1_1_0_1_0_0_1_0_0_1_1_1_1_0]; refine Gets.seq ?_
  refine Gets.ofN fitV g_sound g_agree 12 40 (by kernel_rfl) (x := .normal) (s' := (S46 pre n c i dk th ths kp sd r l e e0)) ((R45 pre n c i l dk th ths kp sd r e e0).trans (by rw [condF (not_f (by rw [hGd]; simp [gOver, gKind, gBlk, gCell, gNew, gRes])), condF (not_f (and_t (by rw [hGd]; simp [gOver, gKind, gBlk, gCell, gNew, gRes]) (and_t (by rw [hGd]; simp [gOver, gKind, gBlk, gCell, gNew, gRes]) (and_t (by rw [hGd]; simp [gOver, gKind, gBlk, gCell, gNew, gRes]) (and_t (rfl) (and_t (by rw [hGd]; simp [gOver, gKind, gBlk, gCell, gNew, gRes]) (rfl))))))), condF (by rw [hGd]; simp [gOver, gKind, gBlk, gCell, gNew, gRes])])) ?_
  show Gets _ _ (codeAt [1, 1, 1, 1, 0, 1, 0, 0, 1, 0, 0, 1, 1, 1, 1, 0, 1] B) _ _
  rw [C1_1_1_1_0_1_0_0_1_0_0_1_1_1_1_0_1]; refine Gets.cond false (by kernel_rfl) (show evalX (KSt.ts (S46 pre n c i dk th ths kp sd r l e e0)) (.tmp 108) = .bool false by kernel_rfl) ?_; show Gets _ _ (codeAt [1, 1, 1, 1, 0, 1, 0, 0, 1, 0, 0, 1, 1, 1, 1, 0, 1, 1] B) _ _
  refine Gets.ofN fitV g_sound g_agree 12 40 (by kernel_rfl) (x := .normal) (s' := (S34 pre n c i dk th ths kp sd r l e e0)) (R46 pre n c i dk th ths kp sd r l e e0) ?_
  show Gets _ _ (codeAt [1, 1, 1, 1, 0, 1, 0, 0, 1, 0, 0, 1, 1, 1, 1, 1] B) _ _
  rw [C1_1_1_1_0_1_0_0_1_0_0_1_1_1_1_1]; refine Gets.seq ?_
  refine Gets.ofN fitV g_sound g_agree 12 40 (by kernel_rfl) (x := .normal) (s' := (S47 pre n c i dk th ths kp sd r l e e0)) (R47 pre n c i dk th ths kp sd r l e e0) ?_
  show Gets _ _ (codeAt [1, 1, 1, 1, 0, 1, 0, 0, 1, 0, 0, 1, 1, 1, 1, 1, 1] B) _ _
  rw [C1_1_1_1_0_1_0_0_1_0_0_1_1_1_1_1_1]; refine Gets.cond false (by kernel_rfl) ((show evalX (KSt.ts (S47 pre n c i dk th ths kp sd r l e e0)) (.tmp 112) = .bool (decide (i < ((n : Nat) : Int))) by kernel_rfl).trans (by rw [(show (decide (i < ((n : Nat) : Int))) = false from decide_eq_false (by omega))])) ?_; show Gets _ _ (codeAt [1, 1, 1, 1, 0, 1, 0, 0, 1, 0, 0, 1, 1, 1, 1, 1, 1, 1] B) _ _
  refine Gets.ofN fitV g_sound g_agree 12 40 (by kernel_rfl) (x := .normal) (s' := (S34 pre n c i dk th ths kp sd r l e e0)) (R51 pre n c i dk th ths kp sd r l e e0) ?_
  show Gets _ _ (codeAt [1, 1, 1, 1, 0, 1, 0, 0, 1, 1] B) _ _
  refine Gets.ofN fitV g_sound g_agree 12 40 (by kernel_rfl) (x := .normal) (s' := (S36 pre n c i dk th ths kp sd r l e e0)) ((R36 pre n c i dk th ths kp sd r l e e0).trans (by (show some (Ex.normal, (S35 pre n c i dk th ths kp sd r l e e0)) = some (Ex.normal, (S36 pre n c i dk th ths kp sd r l e e0)); unfold S35 S36; rw [(show (IntKind.wrap .i64 (i + 1)) = (i + 1) from wrap_i64_id (by omega) (by omega))]))) ?_
  exact hq
noncomputable def S56 (pre : Nat) (n : Nat) (c : Nat) (i : Int) (dk : Int) (th : Int) (ths : Int) (kp : Int) (sd : Int) (r : Int) (l : List Int) (e : TypeId) (e0 : TypeId) : KSt := ⟨(frameL 120 [(1, (.slice (some ⟨1, pre, none⟩) n c)), (2, (.pointer (some ⟨2, 0, none⟩))), (5, (.pointer (some ⟨3, 0, none⟩))), (10, (.int .i64 i)), (50, (.bool (decide (i ≤ ((n : Nat) : Int)))))]), ⟨4, 1, [(3, 0, .cells [(.int .u64 dk), (.int .i64 th), (.int .i64 ths), (.int .i64 kp), (.int .u64 sd), (.int .u64 r), (.int .i64 4)] 51 true), (2, 0, .cells [(.int .u64 dk), (.int .i64 th), (.int .i64 ths), (.int .i64 kp), (.int .u64 sd)] 24 true), (1, 0, .tail pre .u64 l e), (0, 0, .cells [(.int .i64 1), (.int .i64 64), (.int .i64 1), (.int .i64 64)] e0 false)]⟩⟩
theorem R52 (pre : Nat) (n : Nat) (c : Nat) (i : Int) (dk : Int) (th : Int) (ths : Int) (kp : Int) (sd : Int) (r : Int) (l : List Int) (e : TypeId) (e0 : TypeId) : evCK Tryd.prog cfgV (runK Tryd.prog cfgV fsV (conTk gDom gK) 12 40) 12 (codeAt [1, 1, 1, 1, 0, 1, 0, 0, 0, 0] B) (S49 pre n c i dk th ths kp sd r l e e0) (normC 2 [1, 2, 5, 10, 50]) =
  some (.normal, (S56 pre n c i dk th ths kp sd r l e e0)) := by kernel_rfl
theorem R53 (pre : Nat) (n : Nat) (c : Nat) (i : Int) (dk : Int) (th : Int) (ths : Int) (kp : Int) (sd : Int) (r : Int) (l : List Int) (e : TypeId) (e0 : TypeId) : evCK Tryd.prog cfgV (runK Tryd.prog cfgV fsV (conTk gDom gK) 12 40) 12 (codeAt [1, 1, 1, 1, 0, 1, 0, 0, 0, 1, 0] B) (S56 pre n c i dk th ths kp sd r l e e0) (normC 2 [1, 2, 5, 10]) =
  some (.normal, (S49 pre n c i dk th ths kp sd r l e e0)) := by kernel_rfl
noncomputable def S57 (pre : Nat) (n : Nat) (c : Nat) (i : Int) (dk : Int) (th : Int) (ths : Int) (kp : Int) (sd : Int) (r : Int) (l : List Int) (e : TypeId) (e0 : TypeId) : KSt := ⟨(frameL 120 [(1, (.slice (some ⟨1, pre, none⟩) n c)), (2, (.pointer (some ⟨2, 0, none⟩))), (5, (.pointer (some ⟨3, 0, none⟩))), (10, (.int .i64 i)), (11, (.pointer (some ⟨4, 0, none⟩)))]), ⟨5, 1, [(4, 0, .cells [(.slice (some ⟨1, pre, none⟩) ((Int.toNat i) - 0) (c - 0)), (.int .i64 0), (.bool false), (.int .i64 0), (.int .u64 0), (.int .i64 0), (.int .u64 0), (.int .u64 0)] 45 true), (3, 0, .cells [(.int .u64 dk), (.int .i64 th), (.int .i64 ths), (.int .i64 kp), (.int .u64 sd), (.int .u64 r), (.int .i64 4)] 51 true), (2, 0, .cells [(.int .u64 dk), (.int .i64 th), (.int .i64 ths), (.int .i64 kp), (.int .u64 sd)] 24 true), (1, 0, .tail pre .u64 l e), (0, 0, .cells [(.int .i64 1), (.int .i64 64), (.int .i64 1), (.int .i64 64)] e0 false)]⟩⟩
noncomputable def S58 (pre : Nat) (n : Nat) (c : Nat) (i : Int) (dk : Int) (th : Int) (ths : Int) (kp : Int) (sd : Int) (r : Int) (l : List Int) (e : TypeId) (e0 : TypeId) : KSt := ⟨(frameL 120 [(1, (.slice (some ⟨1, pre, none⟩) n c)), (2, (.pointer (some ⟨2, 0, none⟩))), (5, (.pointer (some ⟨3, 0, none⟩))), (10, (.int .i64 i)), (11, (.pointer (some ⟨4, 0, none⟩)))]), ⟨5, 1, [(4, 0, .cells [(.slice (some ⟨1, (pre + 0), none⟩) ((Int.toNat i) - 0) (c - 0)), (.int .i64 0), (.bool false), (.int .i64 0), (.int .u64 0), (.int .i64 0), (.int .u64 0), (.int .u64 0)] 45 true), (3, 0, .cells [(.int .u64 dk), (.int .i64 th), (.int .i64 ths), (.int .i64 kp), (.int .u64 sd), (.int .u64 r), (.int .i64 4)] 51 true), (2, 0, .cells [(.int .u64 dk), (.int .i64 th), (.int .i64 ths), (.int .i64 kp), (.int .u64 sd)] 24 true), (1, 0, .tail pre .u64 l e), (0, 0, .cells [(.int .i64 1), (.int .i64 64), (.int .i64 1), (.int .i64 64)] e0 false)]⟩⟩
theorem R54 (pre : Nat) (n : Nat) (c : Nat) (i : Int) (dk : Int) (th : Int) (ths : Int) (kp : Int) (sd : Int) (r : Int) (l : List Int) (e : TypeId) (e0 : TypeId) : evCK Tryd.prog cfgV (runK Tryd.prog cfgV fsV (conTk gDom gK) 12 40) 12 (codeAt [1, 1, 1, 1, 0, 1, 0, 0, 1, 0, 0, 0] B) (S49 pre n c i dk th ths kp sd r l e e0) (normC 2 [1, 2, 5, 10, 11]) =
  if 0 ≤ i ∧ i ≤ ((c : Nat) : Int) then
    bif ((Nat.ble 0 (Int.toNat i)) && (Nat.ble (Int.toNat i) c)) then
      bif (Nat.beq c 0) then
        some (.normal, (S57 pre n c i dk th ths kp sd r l e e0))
      else
        some (.normal, (S58 pre n c i dk th ths kp sd r l e e0))
    else
      none
  else
    none := by kernel_rfl
noncomputable def S59 (pre : Nat) (n : Nat) (c : Nat) (i : Int) (l : List Int) (dk : Int) (th : Int) (ths : Int) (kp : Int) (sd : Int) (r : Int) (e : TypeId) (e0 : TypeId) : KSt := ⟨(frameL 120 [(1, (.slice (some ⟨1, pre, none⟩) n c)), (2, (.pointer (some ⟨2, 0, none⟩))), (5, (.pointer (some ⟨3, 0, none⟩))), (10, (.int .i64 i)), (11, (.pointer (some ⟨4, 0, none⟩))), (12, (.int .u64 (gRes (gst (List.take (((Int.toNat i) - 0)) (List.drop ((pre + 0) - pre) l))))))]), ⟨5, 1, [(4, 0, .cells [(.slice (some ⟨1, (pre + 0), none⟩) ((Int.toNat i) - 0) (c - 0)), (.int .i64 ((gst (List.take (((Int.toNat i) - 0)) (List.drop ((pre + 0) - pre) l))).2.2)), (.bool (gOver (gst (List.take (((Int.toNat i) - 0)) (List.drop ((pre + 0) - pre) l))))), (.int .i64 (gKind (gst (List.take (((Int.toNat i) - 0)) (List.drop ((pre + 0) - pre) l))))), (.int .u64 (gBlk dk (gst (List.take (((Int.toNat i) - 0)) (List.drop ((pre + 0) - pre) l))))), (.int .i64 (gCell th (gst (List.take (((Int.toNat i) - 0)) (List.drop ((pre + 0) - pre) l))))), (.int .u64 0), (.int .u64 (gNew (gst (List.take (((Int.toNat i) - 0)) (List.drop ((pre + 0) - pre) l)))))] 45 true), (3, 0, .cells [(.int .u64 dk), (.int .i64 th), (.int .i64 ths), (.int .i64 kp), (.int .u64 sd), (.int .u64 r), (.int .i64 4)] 51 true), (2, 0, .cells [(.int .u64 dk), (.int .i64 th), (.int .i64 ths), (.int .i64 kp), (.int .u64 sd)] 24 true), (1, 0, .tail pre .u64 l e), (0, 0, .cells [(.int .i64 1), (.int .i64 64), (.int .i64 1), (.int .i64 64)] e0 false)]⟩⟩
theorem R55 (pre : Nat) (n : Nat) (c : Nat) (i : Int) (dk : Int) (th : Int) (ths : Int) (kp : Int) (sd : Int) (r : Int) (l : List Int) (e : TypeId) (e0 : TypeId) : evCK Tryd.prog cfgV (runK Tryd.prog cfgV fsV (conTk gDom gK) 12 40) 12 (codeAt [1, 1, 1, 1, 0, 1, 0, 0, 1, 0, 0, 1, 0] B) (S58 pre n c i dk th ths kp sd r l e e0) (normC 2 [1, 2, 5, 10, 11, 12]) =
  bif (Nat.ble (((Int.toNat i) - 0)) 1000) then
    bif (Nat.ble pre (pre + 0)) then
      bif (Nat.ble (((pre + 0) - pre) + (((Int.toNat i) - 0))) (List.length l)) then
        some (.normal, (S59 pre n c i l dk th ths kp sd r e e0))
      else
        none
    else
      none
  else
    none := by kernel_rfl
noncomputable def S60 (pre : Nat) (n : Nat) (c : Nat) (i : Int) (l : List Int) (r : Int) (dk : Int) (th : Int) (ths : Int) (kp : Int) (sd : Int) (e : TypeId) (e0 : TypeId) : KSt := ⟨(frameL 120 [(1, (.slice (some ⟨1, pre, none⟩) n c)), (2, (.pointer (some ⟨2, 0, none⟩))), (5, (.pointer (some ⟨3, 0, none⟩))), (10, (.int .i64 i)), (11, (.pointer (some ⟨4, 0, none⟩))), (12, (.int .u64 (gRes (gst (List.take (((Int.toNat i) - 0)) (List.drop ((pre + 0) - pre) l)))))), (13, (.int .u64 r)), (14, (.bool true))]), ⟨5, 1, [(4, 0, .cells [(.slice (some ⟨1, (pre + 0), none⟩) ((Int.toNat i) - 0) (c - 0)), (.int .i64 ((gst (List.take (((Int.toNat i) - 0)) (List.drop ((pre + 0) - pre) l))).2.2)), (.bool (gOver (gst (List.take (((Int.toNat i) - 0)) (List.drop ((pre + 0) - pre) l))))), (.int .i64 (gKind (gst (List.take (((Int.toNat i) - 0)) (List.drop ((pre + 0) - pre) l))))), (.int .u64 (gBlk dk (gst (List.take (((Int.toNat i) - 0)) (List.drop ((pre + 0) - pre) l))))), (.int .i64 (gCell th (gst (List.take (((Int.toNat i) - 0)) (List.drop ((pre + 0) - pre) l))))), (.int .u64 0), (.int .u64 (gNew (gst (List.take (((Int.toNat i) - 0)) (List.drop ((pre + 0) - pre) l)))))] 45 true), (3, 0, .cells [(.int .u64 dk), (.int .i64 th), (.int .i64 ths), (.int .i64 kp), (.int .u64 sd), (.int .u64 r), (.int .i64 4)] 51 true), (2, 0, .cells [(.int .u64 dk), (.int .i64 th), (.int .i64 ths), (.int .i64 kp), (.int .u64 sd)] 24 true), (1, 0, .tail pre .u64 l e), (0, 0, .cells [(.int .i64 1), (.int .i64 64), (.int .i64 1), (.int .i64 64)] e0 false)]⟩⟩
theorem R56 (pre : Nat) (n : Nat) (c : Nat) (i : Int) (l : List Int) (dk : Int) (th : Int) (ths : Int) (kp : Int) (sd : Int) (r : Int) (e : TypeId) (e0 : TypeId) : evCK Tryd.prog cfgV (runK Tryd.prog cfgV fsV (conTk gDom gK) 12 40) 12 (codeAt [1, 1, 1, 1, 0, 1, 0, 0, 1, 0, 0, 1, 1, 0] B) (S59 pre n c i l dk th ths kp sd r e e0) (normC 2 [1, 2, 5, 10, 11, 12, 13, 14]) =
  some (.normal, (S60 pre n c i l r dk th ths kp sd e e0)) := by kernel_rfl
noncomputable def S61 (pre : Nat) (n : Nat) (c : Nat) (i : Int) (l : List Int) (r : Int) (dk : Int) (th : Int) (ths : Int) (kp : Int) (sd : Int) (e : TypeId) (e0 : TypeId) : KSt := ⟨(frameL 120 [(1, (.slice (some ⟨1, pre, none⟩) n c)), (2, (.pointer (some ⟨2, 0, none⟩))), (5, (.pointer (some ⟨3, 0, none⟩))), (10, (.int .i64 i)), (11, (.pointer (some ⟨4, 0, none⟩))), (12, (.int .u64 (gRes (gst (List.take (((Int.toNat i) - 0)) (List.drop ((pre + 0) - pre) l)))))), (13, (.int .u64 r)), (14, (.bool true)), (15, (.pointer (some ⟨5, 0, none⟩))), (16, (.bool false))]), ⟨6, 1, [(5, 0, .cells [(.int .i64 0), (.int .u64 0), (.int .i64 0), (.int .u64 0), (.int .u64 0)] 37 true), (4, 0, .cells [(.slice (some ⟨1, (pre + 0), none⟩) ((Int.toNat i) - 0) (c - 0)), (.int .i64 ((gst (List.take (((Int.toNat i) - 0)) (List.drop ((pre + 0) - pre) l))).2.2)), (.bool (gOver (gst (List.take (((Int.toNat i) - 0)) (List.drop ((pre + 0) - pre) l))))), (.int .i64 (gKind (gst (List.take (((Int.toNat i) - 0)) (List.drop ((pre + 0) - pre) l))))), (.int .u64 (gBlk dk (gst (List.take (((Int.toNat i) - 0)) (List.drop ((pre + 0) - pre) l))))), (.int .i64 (gCell th (gst (List.take (((Int.toNat i) - 0)) (List.drop ((pre + 0) - pre) l))))), (.int .u64 0), (.int .u64 (gNew (gst (List.take (((Int.toNat i) - 0)) (List.drop ((pre + 0) - pre) l)))))] 45 true), (3, 0, .cells [(.int .u64 dk), (.int .i64 th), (.int .i64 ths), (.int .i64 kp), (.int .u64 sd), (.int .u64 r), (.int .i64 4)] 51 true), (2, 0, .cells [(.int .u64 dk), (.int .i64 th), (.int .i64 ths), (.int .i64 kp), (.int .u64 sd)] 24 true), (1, 0, .tail pre .u64 l e), (0, 0, .cells [(.int .i64 1), (.int .i64 64), (.int .i64 1), (.int .i64 64)] e0 false)]⟩⟩
theorem R57 (pre : Nat) (n : Nat) (c : Nat) (i : Int) (l : List Int) (r : Int) (dk : Int) (th : Int) (ths : Int) (kp : Int) (sd : Int) (e : TypeId) (e0 : TypeId) : evCK Tryd.prog cfgV (runK Tryd.prog cfgV fsV (conTk gDom gK) 12 40) 12 (codeAt [1, 1, 1, 1, 0, 1, 0, 0, 1, 0, 0, 1, 1, 1, 0] B) (S60 pre n c i l r dk th ths kp sd e e0) (normC 2 [1, 2, 5, 10, 11, 12, 13, 14, 15, 16]) =
  some (.normal, (S61 pre n c i l r dk th ths kp sd e e0)) := by kernel_rfl
noncomputable def S62 (pre : Nat) (n : Nat) (c : Nat) (i : Int) (dk : Int) (th : Int) (ths : Int) (kp : Int) (sd : Int) (r : Int) (l : List Int) (e : TypeId) (e0 : TypeId) : KSt := ⟨(frameL 120 [(1, (.slice (some ⟨1, pre, none⟩) n c)), (2, (.pointer (some ⟨2, 0, none⟩))), (5, (.pointer (some ⟨3, 0, none⟩))), (10, (.int .i64 i)), (108, (.bool true))]), ⟨4, 1, [(3, 0, .cells [(.int .u64 dk), (.int .i64 th), (.int .i64 ths), (.int .i64 kp), (.int .u64 sd), (.int .u64 r), (.int .i64 4)] 51 true), (2, 0, .cells [(.int .u64 dk), (.int .i64 th), (.int .i64 ths), (.int .i64 kp), (.int .u64 sd)] 24 true), (1, 0, .tail pre .u64 l e), (0, 0, .cells [(.int .i64 1), (.int .i64 64), (.int .i64 1), (.int .i64 64)] e0 false)]⟩⟩
noncomputable def S63 (pre : Nat) (n : Nat) (c : Nat) (i : Int) (dk : Int) (th : Int) (ths : Int) (kp : Int) (sd : Int) (r : Int) (l : List Int) (e : TypeId) (e0 : TypeId) : KSt := ⟨(frameL 120 [(1, (.slice (some ⟨1, pre, none⟩) n c)), (2, (.pointer (some ⟨2, 0, none⟩))), (5, (.pointer (some ⟨3, 0, none⟩))), (10, (.int .i64 i)), (108, (.bool false))]), ⟨4, 1, [(3, 0, .cells [(.int .u64 dk), (.int .i64 th), (.int .i64 ths), (.int .i64 kp), (.int .u64 sd), (.int .u64 r), (.int .i64 4)] 51 true), (2, 0, .cells [(.int .u64 dk), (.int .i64 th), (.int .i64 ths), (.int .i64 kp), (.int .u64 sd)] 24 true), (1, 0, .tail pre .u64 l e), (0, 0, .cells [(.int .i64 1), (.int .i64 64), (.int .i64 1), (.int .i64 64)] e0 false)]⟩⟩
theorem R58 (pre : Nat) (n : Nat) (c : Nat) (i : Int) (l : List Int) (r : Int) (dk : Int) (th : Int) (ths : Int) (kp : Int) (sd : Int) (e : TypeId) (e0 : TypeId) : evCK Tryd.prog cfgV (runK Tryd.prog cfgV fsV (conTk gDom gK) 12 40) 12 (codeAt [1, 1, 1, 1, 0, 1, 0, 0, 1, 0, 0, 1, 1, 1, 1, 0, 0] B) (S61 pre n c i l r dk th ths kp sd e e0) (normC 2 [1, 2, 5, 10, 108]) =
  bif (!(false == (gOver (gst (List.take (((Int.toNat i) - 0)) (List.drop ((pre + 0) - pre) l)))))) then
    some (.normal, (S62 pre n c i dk th ths kp sd r l e e0))
  else
    bif (!((0 == (gKind (gst (List.take (((Int.toNat i) - 0)) (List.drop ((pre + 0) - pre) l))))) && ((0 == (gBlk dk (gst (List.take (((Int.toNat i) - 0)) (List.drop ((pre + 0) - pre) l))))) && ((0 == (gCell th (gst (List.take (((Int.toNat i) - 0)) (List.drop ((pre + 0) - pre) l))))) && (true && ((0 == (gNew (gst (List.take (((Int.toNat i) - 0)) (List.drop ((pre + 0) - pre) l))))) && true)))))) then
      some (.normal, (S62 pre n c i dk th ths kp sd r l e e0))
    else
      bif (true == (gOver (gst (List.take (((Int.toNat i) - 0)) (List.drop ((pre + 0) - pre) l))))) then
        some (.normal, (S62 pre n c i dk th ths kp sd r l e e0))
      else
        bif (r != (gRes (gst (List.take (((Int.toNat i) - 0)) (List.drop ((pre + 0) - pre) l))))) then
          some (.normal, (S62 pre n c i dk th ths kp sd r l e e0))
        else
          some (.normal, (S63 pre n c i dk th ths kp sd r l e e0)) := by kernel_rfl
theorem R59 (pre : Nat) (n : Nat) (c : Nat) (i : Int) (dk : Int) (th : Int) (ths : Int) (kp : Int) (sd : Int) (r : Int) (l : List Int) (e : TypeId) (e0 : TypeId) : evCK Tryd.prog cfgV (runK Tryd.prog cfgV fsV (conTk gDom gK) 12 40) 12 (codeAt [1, 1, 1, 1, 0, 1, 0, 0, 1, 0, 0, 1, 1, 1, 1, 0, 1, 1] B) (S63 pre n c i dk th ths kp sd r l e e0) (normC 2 [1, 2, 5, 10]) =
  some (.normal, (S49 pre n c i dk th ths kp sd r l e e0)) := by kernel_rfl
noncomputable def S64 (pre : Nat) (n : Nat) (c : Nat) (i : Int) (dk : Int) (th : Int) (ths : Int) (kp : Int) (sd : Int) (r : Int) (l : List Int) (e : TypeId) (e0 : TypeId) : KSt := ⟨(frameL 120 [(1, (.slice (some ⟨1, pre, none⟩) n c)), (2, (.pointer (some ⟨2, 0, none⟩))), (5, (.pointer (some ⟨3, 0, none⟩))), (10, (.int .i64 i)), (112, (.bool (decide (i < ((n : Nat) : Int)))))]), ⟨4, 1, [(3, 0, .cells [(.int .u64 dk), (.int .i64 th), (.int .i64 ths), (.int .i64 kp), (.int .u64 sd), (.int .u64 r), (.int .i64 4)] 51 true), (2, 0, .cells [(.int .u64 dk), (.int .i64 th), (.int .i64 ths), (.int .i64 kp), (.int .u64 sd)] 24 true), (1, 0, .tail pre .u64 l e), (0, 0, .cells [(.int .i64 1), (.int .i64 64), (.int .i64 1), (.int .i64 64)] e0 false)]⟩⟩
theorem R60 (pre : Nat) (n : Nat) (c : Nat) (i : Int) (dk : Int) (th : Int) (ths : Int) (kp : Int) (sd : Int) (r : Int) (l : List Int) (e : TypeId) (e0 : TypeId) : evCK Tryd.prog cfgV (runK Tryd.prog cfgV fsV (conTk gDom gK) 12 40) 12 (codeAt [1, 1, 1, 1, 0, 1, 0, 0, 1, 0, 0, 1, 1, 1, 1, 1, 0] B) (S49 pre n c i dk th ths kp sd r l e e0) (normC 2 [1, 2, 5, 10, 112]) =
  some (.normal, (S64 pre n c i dk th ths kp sd r l e e0)) := by kernel_rfl
theorem R61 (pre : Nat) (n : Nat) (c : Nat) (i : Int) (dk : Int) (th : Int) (ths : Int) (kp : Int) (sd : Int) (r : Int) (l : List Int) (e : TypeId) (e0 : TypeId) : evCK Tryd.prog cfgV (runK Tryd.prog cfgV fsV (conTk gDom gK) 12 40) 12 (codeAt [1, 1, 1, 1, 0, 1, 0, 0, 1, 0, 0, 1, 1, 1, 1, 1, 1, 0] B) (S64 pre n c i dk th ths kp sd r l e e0) (normC 2 [1, 2, 5, 10]) =
  if 0 ≤ i ∧ i < ((n : Nat) : Int) then
    bif (Nat.ble pre (pre + ((Int.toNat i) * 1))) then
      obind (l[((pre + ((Int.toNat i) * 1)) - pre)]?) fun n1 =>
        some (.normal, (S49 pre n c i dk th ths kp sd r l e e0))
    else
      none
  else
    none := by kernel_rfl
theorem s4m (dk th ths kp sd r i a : Int) (pre n c : Nat) (l : List Int) (e0 e : TypeId) (hdk : 0 ≤ dk) (hn40 : n ≤ 40) (hc : n ≤ c) (hc2 : c ≤ 9223372036854775807) (hl : l.length = c) (hc0 : 0 < c) (hR : rightV dk th ths kp = true) (hi : 1 ≤ i) (hn : i < (n : Int)) (hGd : gst (List.take ((Int.toNat i) - 0) (List.drop ((pre + 0) - pre) l)) = (4, r, a))   {Q : Ex → St → Prop} (hq : Q .normal (KSt.low (S51 pre n c i dk th ths kp sd r l e e0))) : Gets Tryd.prog (KH.low ⟨2, 1, [(1, 0, .tail pre .u64 l e), (0, 0, .cells [(.int .i64 1), (.int .i64 64), (.int .i64 1), (.int .i64 64)] e0 false)]⟩) (codeAt [1, 1, 1, 1, 0, 1, 0, 0] B) (KSt.low (S49 pre n c i dk th ths kp sd r l e e0)) Q := by
  rw [C1_1_1_1_0_1_0_0]; refine Gets.seq ?_
  rw [C1_1_1_1_0_1_0_0_0]; refine Gets.seq ?_
  refine Gets.ofN fitV g_sound g_agree 12 40 (by kernel_rfl) (x := .normal) (s' := (S56 pre n c i dk th ths kp sd r l e e0)) (R52 pre n c i dk th ths kp sd r l e e0) ?_
  show Gets _ _ (codeAt [1, 1, 1, 1, 0, 1, 0, 0, 0, 1] B) _ _
  rw [C1_1_1_1_0_1_0_0_0_1]; refine Gets.cond true (by kernel_rfl) ((show evalX (KSt.ts (S56 pre n c i dk th ths kp sd r l e e0)) (.tmp 50) = .bool (decide (i ≤ ((n : Nat) : Int))) by kernel_rfl).trans (by rw [(show (decide (i ≤ ((n : Nat) : Int))) = true from decide_eq_true (by omega))])) ?_; show Gets _ _ (codeAt [1, 1, 1, 1, 0, 1, 0, 0, 0, 1, 0] B) _ _
  refine Gets.ofN fitV g_sound g_agree 12 40 (by kernel_rfl) (x := .normal) (s' := (S49 pre n c i dk th ths kp sd r l e e0)) (R53 pre n c i dk th ths kp sd r l e e0) ?_
  show Gets _ _ (codeAt [1, 1, 1, 1, 0, 1, 0, 0, 1] B) _ _
  rw [C1_1_1_1_0_1_0_0_1]; refine Gets.seq ?_
  rw [C1_1_1_1_0_1_0_0_1_0]; refine Gets.block ?_
  rw [C1_1_1_1_0_1_0_0_1_0_0]; refine Gets.seq ?_
  refine Gets.ofN fitV g_sound g_agree 12 40 (by kernel_rfl) (x := .normal) (s' := (S58 pre n c i dk th ths kp sd r l e e0)) ((R54 pre n c i dk th ths kp sd r l e e0).trans (by rw [if_pos (⟨by omega, by omega⟩), condT (and_t (ble_t (by omega)) (ble_t (by omega))), condF (nbeq_f (by omega))])) ?_
  show Gets _ _ (codeAt [1, 1, 1, 1, 0, 1, 0, 0, 1, 0, 0, 1] B) _ _
  rw [C1_1_1_1_0_1_0_0_1_0_0_1]; refine Gets.seq ?_
  refine Gets.ofN fitV g_sound g_agree 12 40 (by kernel_rfl) (x := .normal) (s' := (S59 pre n c i l dk th ths kp sd r e e0)) ((R55 pre n c i dk th ths kp sd r l e e0).trans (by rw [condT (ble_t (by omega)), condT (ble_t (by omega)), condT (ble_t (by omega))])) ?_
  show Gets _ _ (codeAt [1, 1, 1, 1, 0, 1, 0, 0, 1, 0, 0, 1, 1] B) _ _
  rw [C1_1_1_1_0_1_0_0_1_0_0_1_1]; refine Gets.seq ?_
  refine Gets.ofN fitV g_sound g_agree 12 40 (by kernel_rfl) (x := .normal) (s' := (S60 pre n c i l r dk th ths kp sd e e0)) (R56 pre n c i l dk th ths kp sd r e e0) ?_
  show Gets _ _ (codeAt [1, 1, 1, 1, 0, 1, 0, 0, 1, 0, 0, 1, 1, 1] B) _ _
  rw [C1_1_1_1_0_1_0_0_1_0_0_1_1_1]; refine Gets.seq ?_
  refine Gets.ofN fitV g_sound g_agree 12 40 (by kernel_rfl) (x := .normal) (s' := (S61 pre n c i l r dk th ths kp sd e e0)) (R57 pre n c i l r dk th ths kp sd e e0) ?_
  show Gets _ _ (codeAt [1, 1, 1, 1, 0, 1, 0, 0, 1, 0, 0, 1, 1, 1, 1] B) _ _
  rw [C1_1_1_1_0_1_0_0_1_0_0_1_1_1_1]; refine Gets.seq ?_
  rw [C1_1_1_1_0_1_0_0_1_0_0_1_1_1_1_0]; refine Gets.seq ?_
  refine Gets.ofN fitV g_sound g_agree 12 40 (by kernel_rfl) (x := .normal) (s' := (S63 pre n c i dk th ths kp sd r l e e0)) ((R58 pre n c i l r dk th ths kp sd e e0).trans (by rw [condF (not_f (by rw [hGd]; simp [gOver, gKind, gBlk, gCell, gNew, gRes])), condF (not_f (and_t (by rw [hGd]; simp [gOver, gKind, gBlk, gCell, gNew, gRes]) (and_t (by rw [hGd]; simp [gOver, gKind, gBlk, gCell, gNew, gRes]) (and_t (by rw [hGd]; simp [gOver, gKind, gBlk, gCell, gNew, gRes]) (and_t (rfl) (and_t (by rw [hGd]; simp [gOver, gKind, gBlk, gCell, gNew, gRes]) (rfl))))))), condF (by rw [hGd]; simp [gOver, gKind, gBlk, gCell, gNew, gRes]), condF (by rw [hGd]; simp [gOver, gKind, gBlk, gCell, gNew, gRes])])) ?_
  show Gets _ _ (codeAt [1, 1, 1, 1, 0, 1, 0, 0, 1, 0, 0, 1, 1, 1, 1, 0, 1] B) _ _
  rw [C1_1_1_1_0_1_0_0_1_0_0_1_1_1_1_0_1]; refine Gets.cond false (by kernel_rfl) (show evalX (KSt.ts (S63 pre n c i dk th ths kp sd r l e e0)) (.tmp 108) = .bool false by kernel_rfl) ?_; show Gets _ _ (codeAt [1, 1, 1, 1, 0, 1, 0, 0, 1, 0, 0, 1, 1, 1, 1, 0, 1, 1] B) _ _
  refine Gets.ofN fitV g_sound g_agree 12 40 (by kernel_rfl) (x := .normal) (s' := (S49 pre n c i dk th ths kp sd r l e e0)) (R59 pre n c i dk th ths kp sd r l e e0) ?_
  show Gets _ _ (codeAt [1, 1, 1, 1, 0, 1, 0, 0, 1, 0, 0, 1, 1, 1, 1, 1] B) _ _
  rw [C1_1_1_1_0_1_0_0_1_0_0_1_1_1_1_1]; refine Gets.seq ?_
  refine Gets.ofN fitV g_sound g_agree 12 40 (by kernel_rfl) (x := .normal) (s' := (S64 pre n c i dk th ths kp sd r l e e0)) (R60 pre n c i dk th ths kp sd r l e e0) ?_
  show Gets _ _ (codeAt [1, 1, 1, 1, 0, 1, 0, 0, 1, 0, 0, 1, 1, 1, 1, 1, 1] B) _ _
  rw [C1_1_1_1_0_1_0_0_1_0_0_1_1_1_1_1_1]; refine Gets.cond true (by kernel_rfl) ((show evalX (KSt.ts (S64 pre n c i dk th ths kp sd r l e e0)) (.tmp 112) = .bool (decide (i < ((n : Nat) : Int))) by kernel_rfl).trans (by rw [(show (decide (i < ((n : Nat) : Int))) = true from decide_eq_true (by omega))])) ?_; show Gets _ _ (codeAt [1, 1, 1, 1, 0, 1, 0, 0, 1, 0, 0, 1, 1, 1, 1, 1, 1, 0] B) _ _
  refine Gets.ofN fitV g_sound g_agree 12 40 (by kernel_rfl) (x := .normal) (s' := (S49 pre n c i dk th ths kp sd r l e e0)) ((R61 pre n c i dk th ths kp sd r l e e0).trans (by rw [if_pos (⟨by omega, by omega⟩), condT (ble_t (by omega)), obind_at (k := ((Int.toNat i) * 1)) (by omega) (by omega)] <;> rfl)) ?_
  show Gets _ _ (codeAt [1, 1, 1, 1, 0, 1, 0, 0, 1, 1] B) _ _
  refine Gets.ofN fitV g_sound g_agree 12 40 (by kernel_rfl) (x := .normal) (s' := (S51 pre n c i dk th ths kp sd r l e e0)) ((R49 pre n c i dk th ths kp sd r l e e0).trans (by (show some (Ex.normal, (S50 pre n c i dk th ths kp sd r l e e0)) = some (Ex.normal, (S51 pre n c i dk th ths kp sd r l e e0)); unfold S50 S51; rw [(show (IntKind.wrap .i64 (i + 1)) = (i + 1) from wrap_i64_id (by omega) (by omega))]))) ?_
  exact hq
theorem R62 (pre : Nat) (n : Nat) (c : Nat) (i : Int) (dk : Int) (th : Int) (ths : Int) (kp : Int) (sd : Int) (r : Int) (l : List Int) (e : TypeId) (e0 : TypeId) : evCK Tryd.prog cfgV (runK Tryd.prog cfgV fsV (conTk gDom gK) 12 40) 12 (codeAt [1, 1, 1, 1, 0, 1, 0, 0, 1, 0, 0, 1, 1, 1, 1, 1, 1, 1] B) (S64 pre n c i dk th ths kp sd r l e e0) (normC 2 [1, 2, 5, 10]) =
  some (.normal, (S49 pre n c i dk th ths kp sd r l e e0)) := by kernel_rfl
theorem s4e (dk th ths kp sd r i a : Int) (pre n c : Nat) (l : List Int) (e0 e : TypeId) (hdk : 0 ≤ dk) (hn40 : n ≤ 40) (hc : n ≤ c) (hc2 : c ≤ 9223372036854775807) (hl : l.length = c) (hc0 : 0 < c) (hR : rightV dk th ths kp = true) (hi : 1 ≤ i) (hn : i = (n : Int)) (hGd : gst (List.take ((Int.toNat i) - 0) (List.drop ((pre + 0) - pre) l)) = (4, r, a))   {Q : Ex → St → Prop} (hq : Q .normal (KSt.low (S51 pre n c i dk th ths kp sd r l e e0))) : Gets Tryd.prog (KH.low ⟨2, 1, [(1, 0, .tail pre .u64 l e), (0, 0, .cells [(.int .i64 1), (.int .i64 64), (.int .i64 1), (.int .i64 64)] e0 false)]⟩) (codeAt [1, 1, 1, 1, 0, 1, 0, 0] B) (KSt.low (S49 pre n c i dk th ths kp sd r l e e0)) Q := by
  rw [C1_1_1_1_0_1_0_0]; refine Gets.seq ?_
  rw [C1_1_1_1_0_1_0_0_0]; refine Gets.seq ?_
  refine Gets.ofN fitV g_sound g_agree 12 40 (by kernel_rfl) (x := .normal) (s' := (S56 pre n c i dk th ths kp sd r l e e0)) (R52 pre n c i dk th ths kp sd r l e e0) ?_
  show Gets _ _ (codeAt [1, 1, 1, 1, 0, 1, 0, 0, 0, 1] B) _ _
  rw [C1_1_1_1_0_1_0_0_0_1]; refine Gets.cond true (by kernel_rfl) ((show evalX (KSt.ts (S56 pre n c i dk th ths kp sd r l e e0)) (.tmp 50) = .bool (decide (i ≤ ((n : Nat) : Int))) by kernel_rfl).trans (by rw [(show (decide (i ≤ ((n : Nat) : Int))) = true from decide_eq_true (by omega))])) ?_; show Gets _ _ (codeAt [1, 1, 1, 1, 0, 1, 0, 0, 0, 1, 0] B) _ _
  refine Gets.ofN fitV g_sound g_agree 12 40 (by kernel_rfl) (x := .normal) (s' := (S49 pre n c i dk th ths kp sd r l e e0)) (R53 pre n c i dk th ths kp sd r l e e0) ?_
  show Gets _ _ (codeAt [1, 1, 1, 1, 0, 1, 0, 0, 1] B) _ _
  rw [C1_1_1_1_0_1_0_0_1]; refine Gets.seq ?_
  rw [C1_1_1_1_0_1_0_0_1_0]; refine Gets.block ?_
  rw [C1_1_1_1_0_1_0_0_1_0_0]; refine Gets.seq ?_
  refine Gets.ofN fitV g_sound g_agree 12 40 (by kernel_rfl) (x := .normal) (s' := (S58 pre n c i dk th ths kp sd r l e e0)) ((R54 pre n c i dk th ths kp sd r l e e0).trans (by rw [if_pos (⟨by omega, by omega⟩), condT (and_t (ble_t (by omega)) (ble_t (by omega))), condF (nbeq_f (by omega))])) ?_
  show Gets _ _ (codeAt [1, 1, 1, 1, 0, 1, 0, 0, 1, 0, 0, 1] B) _ _
  rw [C1_1_1_1_0_1_0_0_1_0_0_1]; refine Gets.seq ?_
  refine Gets.ofN fitV g_sound g_agree 12 40 (by kernel_rfl) (x := .normal) (s' := (S59 pre n c i l dk th ths kp sd r e e0)) ((R55 pre n c i dk th ths kp sd r l e e0).trans (by rw [condT (ble_t (by omega)), condT (ble_t (by omega)), condT (ble_t (by omega))])) ?_
  show Gets _ _ (codeAt [1, 1, 1, 1, 0, 1, 0, 0, 1, 0, 0, 1, 1] B) _ _
  rw [C1_1_1_1_0_1_0_0_1_0_0_1_1]; refine Gets.seq ?_
  refine Gets.ofN fitV g_sound g_agree 12 40 (by kernel_rfl) (x := .normal) (s' := (S60 pre n c i l r dk th ths kp sd e e0)) (R56 pre n c i l dk th ths kp sd r e e0) ?_
  show Gets _ _ (codeAt [1, 1, 1, 1, 0, 1, 0, 0, 1, 0, 0, 1, 1, 1] B) _ _
  rw [C1_1_1_1_0_1_0_0_1_0_0_1_1_1]; refine Gets.seq ?_
  refine Gets.ofN fitV g_sound g_agree 12 40 (by kernel_rfl) (x := .normal) (s' := (S61 pre n c i l r dk th ths kp sd e e0)) (R57 pre n c i l r dk th ths kp sd e e0) ?_
  show Gets _ _ (codeAt [1, 1, 1, 1, 0, 1, 0, 0, 1, 0, 0, 1, 1, 1, 1] B) _ _
  rw [C1_1_1_1_0_1_0_0_1_0_0_1_1_1_1]; refine Gets.seq ?_
  rw [C1_1_1_1_0_1_0_0_1_0_0_1_1_1_1_0]; refine Gets.seq ?_
  refine Gets.ofN fitV g_sound g_agree 12 40 (by kernel_rfl) (x := .normal) (s' := (S63 pre n c i dk th ths kp sd r l e e0)) ((R58 pre n c i l r dk th ths kp sd e e0).trans (by rw [condF (not_f (by rw [hGd]; simp [gOver, gKind, gBlk, gCell, gNew, gRes])), condF (not_f (and_t (by rw [hGd]; simp [gOver, gKind, gBlk, gCell, gNew, gRes]) (and_t (by rw [hGd]; simp [gOver, gKind, gBlk, gCell, gNew, gRes]) (and_t (by rw [hGd]; simp [gOver, gKind, gBlk, gCell, gNew, gRes]) (and_t (rfl) (and_t (by rw [hGd]; simp [gOver, gKind, gBlk, gCell, gNew, gRes]) (rfl))))))), condF (by rw [hGd]; simp [gOver, gKind, gBlk, gCell, gNew, gRes]), condF (by rw [hGd]; simp [gOver, gKind, gBlk, gCell, gNew, gRes])])) ?_
  show Gets _ _ (codeAt [1, 1, 1, 1, 0, 1, 0, 0, 1, 0, 0, 1, 1, 1, 1, 0, 1] B) _ _
  rw [C1_1_1_1_0_1_0_0_1_0_0_1_1_1_1_0_1]; refine Gets.cond false (by kernel_rfl) (show evalX (KSt.ts (S63 pre n c i dk th ths kp sd r l e e0)) (.tmp 108) = .bool false by kernel_rfl) ?_; show Gets _ _ (codeAt [1, 1, 1, 1, 0, 1, 0, 0, 1, 0, 0, 1, 1, 1, 1, 0, 1, 1] B) _ _
  refine Gets.ofN fitV g_sound g_agree 12 40 (by kernel_rfl) (x := .normal) (s' := (S49 pre n c i dk th ths kp sd r l e e0)) (R59 pre n c i dk th ths kp sd r l e e0) ?_
  show Gets _ _ (codeAt [1, 1, 1, 1, 0, 1, 0, 0, 1, 0, 0, 1, 1, 1, 1, 1] B) _ _
  rw [C1_1_1_1_0_1_0_0_1_0_0_1_1_1_1_1]; refine Gets.seq ?_
  refine Gets.ofN fitV g_sound g_agree 12 40 (by kernel_rfl) (x := .normal) (s' := (S64 pre n c i dk th ths kp sd r l e e0)) (R60 pre n c i dk th ths kp sd r l e e0) ?_
  show Gets _ _ (codeAt [1, 1, 1, 1, 0, 1, 0, 0, 1, 0, 0, 1, 1, 1, 1, 1, 1] B) _ _
  rw [C1_1_1_1_0_1_0_0_1_0_0_1_1_1_1_1_1]; refine Gets.cond false (by kernel_rfl) ((show evalX (KSt.ts (S64 pre n c i dk th ths kp sd r l e e0)) (.tmp 112) = .bool (decide (i < ((n : Nat) : Int))) by kernel_rfl).trans (by rw [(show (decide (i < ((n : Nat) : Int))) = false from decide_eq_false (by omega))])) ?_; show Gets _ _ (codeAt [1, 1, 1, 1, 0, 1, 0, 0, 1, 0, 0, 1, 1, 1, 1, 1, 1, 1] B) _ _
  refine Gets.ofN fitV g_sound g_agree 12 40 (by kernel_rfl) (x := .normal) (s' := (S49 pre n c i dk th ths kp sd r l e e0)) (R62 pre n c i dk th ths kp sd r l e e0) ?_
  show Gets _ _ (codeAt [1, 1, 1, 1, 0, 1, 0, 0, 1, 1] B) _ _
  refine Gets.ofN fitV g_sound g_agree 12 40 (by kernel_rfl) (x := .normal) (s' := (S51 pre n c i dk th ths kp sd r l e e0)) ((R49 pre n c i dk th ths kp sd r l e e0).trans (by (show some (Ex.normal, (S50 pre n c i dk th ths kp sd r l e e0)) = some (Ex.normal, (S51 pre n c i dk th ths kp sd r l e e0)); unfold S50 S51; rw [(show (IntKind.wrap .i64 (i + 1)) = (i + 1) from wrap_i64_id (by omega) (by omega))]))) ?_
  exact hq
noncomputable def S65 (pre : Nat) (n : Nat) (c : Nat) (i : Int) (dk : Int) (th : Int) (ths : Int) (kp : Int) (sd : Int) (l : List Int) (e : TypeId) (e0 : TypeId) : KSt := ⟨(frameL 120 [(1, (.slice (some ⟨1, pre, none⟩) n c)), (2, (.pointer (some ⟨2, 0, none⟩))), (5, (.pointer (some ⟨3, 0, none⟩))), (10, (.int .i64 i))]), ⟨4, 1, [(3, 0, .cells [(.int .u64 dk), (.int .i64 th), (.int .i64 ths), (.int .i64 kp), (.int .u64 sd), (.int .u64 0), (.int .i64 1)] 51 true), (2, 0, .cells [(.int .u64 dk), (.int .i64 th), (.int .i64 ths), (.int .i64 kp), (.int .u64 sd)] 24 true), (1, 0, .tail pre .u64 l e), (0, 0, .cells [(.int .i64 1), (.int .i64 64), (.int .i64 1), (.int .i64 64)] e0 false)]⟩⟩
noncomputable def S66 (pre : Nat) (n : Nat) (c : Nat) (i : Int) (dk : Int) (th : Int) (ths : Int) (kp : Int) (sd : Int) (l : List Int) (e : TypeId) (e0 : TypeId) : KSt := ⟨(frameL 120 [(1, (.slice (some ⟨1, pre, none⟩) n c)), (2, (.pointer (some ⟨2, 0, none⟩))), (5, (.pointer (some ⟨3, 0, none⟩))), (10, (.int .i64 i)), (50, (.bool (decide (i ≤ ((n : Nat) : Int)))))]), ⟨4, 1, [(3, 0, .cells [(.int .u64 dk), (.int .i64 th), (.int .i64 ths), (.int .i64 kp), (.int .u64 sd), (.int .u64 0), (.int .i64 1)] 51 true), (2, 0, .cells [(.int .u64 dk), (.int .i64 th), (.int .i64 ths), (.int .i64 kp), (.int .u64 sd)] 24 true), (1, 0, .tail pre .u64 l e), (0, 0, .cells [(.int .i64 1), (.int .i64 64), (.int .i64 1), (.int .i64 64)] e0 false)]⟩⟩
theorem R63 (pre : Nat) (n : Nat) (c : Nat) (i : Int) (dk : Int) (th : Int) (ths : Int) (kp : Int) (sd : Int) (l : List Int) (e : TypeId) (e0 : TypeId) : evCK Tryd.prog cfgV (runK Tryd.prog cfgV fsV (conTk gDom gK) 12 40) 12 (codeAt [1, 1, 1, 1, 0, 1, 0, 0, 0, 0] B) (S65 pre n c i dk th ths kp sd l e e0) (normC 2 [1, 2, 5, 10, 50]) =
  some (.normal, (S66 pre n c i dk th ths kp sd l e e0)) := by kernel_rfl
theorem C1_1_1_1_0_1_0_0_0_1_1 : (codeAt [1, 1, 1, 1, 0, 1, 0, 0, 0, 1, 1] B) = .exit 0 := by kernel_rfl
theorem x1 (dk th ths kp sd r i a : Int) (pre n c : Nat) (l : List Int) (e0 e : TypeId) (hx : (n : Int) < i)   {Q : Ex → St → Prop} (hq : Q (.exit 0) (KSt.low (S66 pre n c i dk th ths kp sd l e e0))) : Gets Tryd.prog (KH.low ⟨2, 1, [(1, 0, .tail pre .u64 l e), (0, 0, .cells [(.int .i64 1), (.int .i64 64), (.int .i64 1), (.int .i64 64)] e0 false)]⟩) (codeAt [1, 1, 1, 1, 0, 1, 0, 0] B) (KSt.low (S65 pre n c i dk th ths kp sd l e e0)) Q := by
  rw [C1_1_1_1_0_1_0_0]; refine Gets.seq ?_
  rw [C1_1_1_1_0_1_0_0_0]; refine Gets.seq ?_
  refine Gets.ofN fitV g_sound g_agree 12 40 (by kernel_rfl) (x := .normal) (s' := (S66 pre n c i dk th ths kp sd l e e0)) (R63 pre n c i dk th ths kp sd l e e0) ?_
  show Gets _ _ (codeAt [1, 1, 1, 1, 0, 1, 0, 0, 0, 1] B) _ _
  rw [C1_1_1_1_0_1_0_0_0_1]; refine Gets.cond false (by kernel_rfl) ((show evalX (KSt.ts (S66 pre n c i dk th ths kp sd l e e0)) (.tmp 50) = .bool (decide (i ≤ ((n : Nat) : Int))) by kernel_rfl).trans (by rw [(show (decide (i ≤ ((n : Nat) : Int))) = false from decide_eq_false (by omega))])) ?_; show Gets _ _ (codeAt [1, 1, 1, 1, 0, 1, 0, 0, 0, 1, 1] B) _ _
  rw [C1_1_1_1_0_1_0_0_0_1_1]; refine Gets.ev fitV.mix fitV.cfg (fitV.sound g_sound 12 0) 12 rfl (s' := KSt.low (S66 pre n c i dk th ths kp sd l e e0)) (x := (.exit 0)) rfl ?_
  exact hq
theorem C1_1_1_1_1 : (codeAt [1, 1, 1, 1, 1] B) = .seq (codeAt [1, 1, 1, 1, 1, 0] B) (codeAt [1, 1, 1, 1, 1, 1] B) := by kernel_rfl
theorem R64 (pre : Nat) (n : Nat) (c : Nat) (i : Int) (dk : Int) (th : Int) (ths : Int) (kp : Int) (sd : Int) (l : List Int) (e : TypeId) (e0 : TypeId) : evCK Tryd.prog cfgV (runK Tryd.prog cfgV fsV (conTk gDom gK) 12 40) 12 (codeAt [1, 1, 1, 1, 1, 0] B) (S66 pre n c i dk th ths kp sd l e e0) (normC 2 [4]) =
  some (.normal, (S8 pre l e e0)) := by kernel_rfl
theorem C1_1_1_1_1_1 : (codeAt [1, 1, 1, 1, 1, 1] B) = .ret := by kernel_rfl
theorem f1 (dk th ths kp sd r i a : Int) (pre n c : Nat) (l : List Int) (e0 e : TypeId)   {Q : Ex → St → Prop} (hq : Q .ret (KSt.low (S8 pre l e e0))) : Gets Tryd.prog (KH.low ⟨2, 1, [(1, 0, .tail pre .u64 l e), (0, 0, .cells [(.int .i64 1), (.int .i64 64), (.int .i64 1), (.int .i64 64)] e0 false)]⟩) (codeAt [1, 1, 1, 1, 1] B) (KSt.low (S66 pre n c i dk th ths kp sd l e e0)) Q := by
  rw [C1_1_1_1_1]; refine Gets.seq ?_
  refine Gets.ofN fitV g_sound g_agree 12 40 (by kernel_rfl) (x := .normal) (s' := (S8 pre l e e0)) (R64 pre n c i dk th ths kp sd l e e0) ?_
  show Gets _ _ (codeAt [1, 1, 1, 1, 1, 1] B) _ _
  rw [C1_1_1_1_1_1]; refine Gets.ev fitV.mix fitV.cfg (fitV.sound g_sound 12 0) 12 rfl (s' := KSt.low (S8 pre l e e0)) (x := .ret) rfl ?_
  exact hq
theorem x2 (dk th ths kp sd r i a : Int) (pre n c : Nat) (l : List Int) (e0 e : TypeId) (hx : (n : Int) < i)   {Q : Ex → St → Prop} (hq : Q (.exit 0) (KSt.low (S25 pre n c i dk th ths kp sd r l e e0))) : Gets Tryd.prog (KH.low ⟨2, 1, [(1, 0, .tail pre .u64 l e), (0, 0, .cells [(.int .i64 1), (.int .i64 64), (.int .i64 1), (.int .i64 64)] e0 false)]⟩) (codeAt [1, 1, 1, 1, 0, 1, 0, 0] B) (KSt.low (S24 pre n c i dk th ths kp sd r l e e0)) Q := by
  rw [C1_1_1_1_0_1_0_0]; refine Gets.seq ?_
  rw [C1_1_1_1_0_1_0_0_0]; refine Gets.seq ?_
  refine Gets.ofN fitV g_sound g_agree 12 40 (by kernel_rfl) (x := .normal) (s' := (S25 pre n c i dk th ths kp sd r l e e0)) (R26 pre n c i dk th ths kp sd r l e e0) ?_
  show Gets _ _ (codeAt [1, 1, 1, 1, 0, 1, 0, 0, 0, 1] B) _ _
  rw [C1_1_1_1_0_1_0_0_0_1]; refine Gets.cond false (by kernel_rfl) ((show evalX (KSt.ts (S25 pre n c i dk th ths kp sd r l e e0)) (.tmp 50) = .bool (decide (i ≤ ((n : Nat) : Int))) by kernel_rfl).trans (by rw [(show (decide (i ≤ ((n : Nat) : Int))) = false from decide_eq_false (by omega))])) ?_; show Gets _ _ (codeAt [1, 1, 1, 1, 0, 1, 0, 0, 0, 1, 1] B) _ _
  rw [C1_1_1_1_0_1_0_0_0_1_1]; refine Gets.ev fitV.mix fitV.cfg (fitV.sound g_sound 12 0) 12 rfl (s' := KSt.low (S25 pre n c i dk th ths kp sd r l e e0)) (x := (.exit 0)) rfl ?_
  exact hq
theorem R65 (pre : Nat) (n : Nat) (c : Nat) (i : Int) (dk : Int) (th : Int) (ths : Int) (kp : Int) (sd : Int) (r : Int) (l : List Int) (e : TypeId) (e0 : TypeId) : evCK Tryd.prog cfgV (runK Tryd.prog cfgV fsV (conTk gDom gK) 12 40) 12 (codeAt [1, 1, 1, 1, 1, 0] B) (S25 pre n c i dk th ths kp sd r l e e0) (normC 2 [4]) =
  some (.normal, (S8 pre l e e0)) := by kernel_rfl
theorem f2 (dk th ths kp sd r i a : Int) (pre n c : Nat) (l : List Int) (e0 e : TypeId)   {Q : Ex → St → Prop} (hq : Q .ret (KSt.low (S8 pre l e e0))) : Gets Tryd.prog (KH.low ⟨2, 1, [(1, 0, .tail pre .u64 l e), (0, 0, .cells [(.int .i64 1), (.int .i64 64), (.int .i64 1), (.int .i64 64)] e0 false)]⟩) (codeAt [1, 1, 1, 1, 1] B) (KSt.low (S25 pre n c i dk th ths kp sd r l e e0)) Q := by
  rw [C1_1_1_1_1]; refine Gets.seq ?_
  refine Gets.ofN fitV g_sound g_agree 12 40 (by kernel_rfl) (x := .normal) (s' := (S8 pre l e e0)) (R65 pre n c i dk th ths kp sd r l e e0) ?_
  show Gets _ _ (codeAt [1, 1, 1, 1, 1, 1] B) _ _
  rw [C1_1_1_1_1_1]; refine Gets.ev fitV.mix fitV.cfg (fitV.sound g_sound 12 0) 12 rfl (s' := KSt.low (S8 pre l e e0)) (x := .ret) rfl ?_
  exact hq
theorem x3 (dk th ths kp sd r i a : Int) (pre n c : Nat) (l : List Int) (e0 e : TypeId) (hx : (n : Int) < i)   {Q : Ex → St → Prop} (hq : Q (.exit 0) (KSt.low (S39 pre n c i dk th ths kp sd r l e e0))) : Gets Tryd.prog (KH.low ⟨2, 1, [(1, 0, .tail pre .u64 l e), (0, 0, .cells [(.int .i64 1), (.int .i64 64), (.int .i64 1), (.int .i64 64)] e0 false)]⟩) (codeAt [1, 1, 1, 1, 0, 1, 0, 0] B) (KSt.low (S34 pre n c i dk th ths kp sd r l e e0)) Q := by
  rw [C1_1_1_1_0_1_0_0]; refine Gets.seq ?_
  rw [C1_1_1_1_0_1_0_0_0]; refine Gets.seq ?_
  refine Gets.ofN fitV g_sound g_agree 12 40 (by kernel_rfl) (x := .normal) (s' := (S39 pre n c i dk th ths kp sd r l e e0)) (R39 pre n c i dk th ths kp sd r l e e0) ?_
  show Gets _ _ (codeAt [1, 1, 1, 1, 0, 1, 0, 0, 0, 1] B) _ _
  rw [C1_1_1_1_0_1_0_0_0_1]; refine Gets.cond false (by kernel_rfl) ((show evalX (KSt.ts (S39 pre n c i dk th ths kp sd r l e e0)) (.tmp 50) = .bool (decide (i ≤ ((n : Nat) : Int))) by kernel_rfl).trans (by rw [(show (decide (i ≤ ((n : Nat) : Int))) = false from decide_eq_false (by omega))])) ?_; show Gets _ _ (codeAt [1, 1, 1, 1, 0, 1, 0, 0, 0, 1, 1] B) _ _
  rw [C1_1_1_1_0_1_0_0_0_1_1]; refine Gets.ev fitV.mix fitV.cfg (fitV.sound g_sound 12 0) 12 rfl (s' := KSt.low (S39 pre n c i dk th ths kp sd r l e e0)) (x := (.exit 0)) rfl ?_
  exact hq
theorem R66 (pre : Nat) (n : Nat) (c : Nat) (i : Int) (dk : Int) (th : Int) (ths : Int) (kp : Int) (sd : Int) (r : Int) (l : List Int) (e : TypeId) (e0 : TypeId) : evCK Tryd.prog cfgV (runK Tryd.prog cfgV fsV (conTk gDom gK) 12 40) 12 (codeAt [1, 1, 1, 1, 1, 0] B) (S39 pre n c i dk th ths kp sd r l e e0) (normC 2 [4]) =
  some (.normal, (S8 pre l e e0)) := by kernel_rfl
theorem f3 (dk th ths kp sd r i a : Int) (pre n c : Nat) (l : List Int) (e0 e : TypeId)   {Q : Ex → St → Prop} (hq : Q .ret (KSt.low (S8 pre l e e0))) : Gets Tryd.prog (KH.low ⟨2, 1, [(1, 0, .tail pre .u64 l e), (0, 0, .cells [(.int .i64 1), (.int .i64 64), (.int .i64 1), (.int .i64 64)] e0 false)]⟩) (codeAt [1, 1, 1, 1, 1] B) (KSt.low (S39 pre n c i dk th ths kp sd r l e e0)) Q := by
  rw [C1_1_1_1_1]; refine Gets.seq ?_
  refine Gets.ofN fitV g_sound g_agree 12 40 (by kernel_rfl) (x := .normal) (s' := (S8 pre l e e0)) (R66 pre n c i dk th ths kp sd r l e e0) ?_
  show Gets _ _ (codeAt [1, 1, 1, 1, 1, 1] B) _ _
  rw [C1_1_1_1_1_1]; refine Gets.ev fitV.mix fitV.cfg (fitV.sound g_sound 12 0) 12 rfl (s' := KSt.low (S8 pre l e e0)) (x := .ret) rfl ?_
  exact hq
theorem x4 (dk th ths kp sd r i a : Int) (pre n c : Nat) (l : List Int) (e0 e : TypeId) (hx : (n : Int) < i)   {Q : Ex → St → Prop} (hq : Q (.exit 0) (KSt.low (S56 pre n c i dk th ths kp sd r l e e0))) : Gets Tryd.prog (KH.low ⟨2, 1, [(1, 0, .tail pre .u64 l e), (0, 0, .cells [(.int .i64 1), (.int .i64 64), (.int .i64 1), (.int .i64 64)] e0 false)]⟩) (codeAt [1, 1, 1, 1, 0, 1, 0, 0] B) (KSt.low (S49 pre n c i dk th ths kp sd r l e e0)) Q := by
  rw [C1_1_1_1_0_1_0_0]; refine Gets.seq ?_
  rw [C1_1_1_1_0_1_0_0_0]; refine Gets.seq ?_
  refine Gets.ofN fitV g_sound g_agree 12 40 (by kernel_rfl) (x := .normal) (s' := (S56 pre n c i dk th ths kp sd r l e e0)) (R52 pre n c i dk th ths kp sd r l e e0) ?_
  show Gets _ _ (codeAt [1, 1, 1, 1, 0, 1, 0, 0, 0, 1] B) _ _
  rw [C1_1_1_1_0_1_0_0_0_1]; refine Gets.cond false (by kernel_rfl) ((show evalX (KSt.ts (S56 pre n c i dk th ths kp sd r l e e0)) (.tmp 50) = .bool (decide (i ≤ ((n : Nat) : Int))) by kernel_rfl).trans (by rw [(show (decide (i ≤ ((n : Nat) : Int))) = false from decide_eq_false (by omega))])) ?_; show Gets _ _ (codeAt [1, 1, 1, 1, 0, 1, 0, 0, 0, 1, 1] B) _ _
  rw [C1_1_1_1_0_1_0_0_0_1_1]; refine Gets.ev fitV.mix fitV.cfg (fitV.sound g_sound 12 0) 12 rfl (s' := KSt.low (S56 pre n c i dk th ths kp sd r l e e0)) (x := (.exit 0)) rfl ?_
  exact hq
theorem R67 (pre : Nat) (n : Nat) (c : Nat) (i : Int) (dk : Int) (th : Int) (ths : Int) (kp : Int) (sd : Int) (r : Int) (l : List Int) (e : TypeId) (e0 : TypeId) : evCK Tryd.prog cfgV (runK Tryd.prog cfgV fsV (conTk gDom gK) 12 40) 12 (codeAt [1, 1, 1, 1, 1, 0] B) (S56 pre n c i dk th ths kp sd r l e e0) (normC 2 [4]) =
  some (.normal, (S8 pre l e e0)) := by kernel_rfl
theorem f4 (dk th ths kp sd r i a : Int) (pre n c : Nat) (l : List Int) (e0 e : TypeId)   {Q : Ex → St → Prop} (hq : Q .ret (KSt.low (S8 pre l e e0))) : Gets Tryd.prog (KH.low ⟨2, 1, [(1, 0, .tail pre .u64 l e), (0, 0, .cells [(.int .i64 1), (.int .i64 64), (.int .i64 1), (.int .i64 64)] e0 false)]⟩) (codeAt [1, 1, 1, 1, 1] B) (KSt.low (S56 pre n c i dk th ths kp sd r l e e0)) Q := by
  rw [C1_1_1_1_1]; refine Gets.seq ?_
  refine Gets.ofN fitV g_sound g_agree 12 40 (by kernel_rfl) (x := .normal) (s' := (S8 pre l e e0)) (R67 pre n c i dk th ths kp sd r l e e0) ?_
  show Gets _ _ (codeAt [1, 1, 1, 1, 1, 1] B) _ _
  rw [C1_1_1_1_1_1]; refine Gets.ev fitV.mix fitV.cfg (fitV.sound g_sound 12 0) 12 rfl (s' := KSt.low (S8 pre l e e0)) (x := .ret) rfl ?_
  exact hq
theorem C1_0_1_0 : (codeAt [1, 0, 1, 0] B) = .seq (codeAt [1, 0, 1, 0, 0] B) (codeAt [1, 0, 1, 0, 1] B) := by kernel_rfl
theorem R68 (pre : Nat) (n : Nat) (c : Nat) (dk : Int) (th : Int) (ths : Int) (kp : Int) (sd : Int) (l : List Int) (e : TypeId) (e0 : TypeId) : evCK Tryd.prog cfgV (runK Tryd.prog cfgV fsV (conTk gDom gK) 12 40) 12 (codeAt [1, 0, 1, 0, 0] B) (S2 pre n c dk th ths kp sd l e e0) (normC 2 [4]) =
  some (.normal, (S8 pre l e e0)) := by kernel_rfl
theorem C1_0_1_0_1 : (codeAt [1, 0, 1, 0, 1] B) = .ret := by kernel_rfl
theorem r20 (dk th ths kp sd r i a : Int) (pre n c : Nat) (l : List Int) (e0 e : TypeId) (hn : 40 < n)   {Q : Ex → St → Prop} (hq : Q .ret (KSt.low (S8 pre l e e0))) : Gets Tryd.prog (KH.low ⟨2, 1, [(1, 0, .tail pre .u64 l e), (0, 0, .cells [(.int .i64 1), (.int .i64 64), (.int .i64 1), (.int .i64 64)] e0 false)]⟩) B (KSt.low (S0 dk th ths kp sd pre n c l e e0)) Q := by
  rw [C]; refine Gets.seq ?_
  refine Gets.ofN fitV g_sound g_agree 12 40 (by kernel_rfl) (x := .normal) (s' := (S1 pre n c dk th ths kp sd l e e0)) (R1 dk th ths kp sd pre n c l e e0) ?_
  show Gets _ _ (codeAt [1] B) _ _
  rw [C1]; refine Gets.seq ?_
  rw [C1_0]; refine Gets.seq ?_
  refine Gets.ofN fitV g_sound g_agree 12 40 (by kernel_rfl) (x := .normal) (s' := (S2 pre n c dk th ths kp sd l e e0)) (R2 pre n c dk th ths kp sd l e e0) ?_
  show Gets _ _ (codeAt [1, 0, 1] B) _ _
  rw [C1_0_1]; refine Gets.cond true (by kernel_rfl) ((show evalX (KSt.ts (S2 pre n c dk th ths kp sd l e e0)) (.tmp 19) = .bool (decide (((n : Nat) : Int) > 40)) by kernel_rfl).trans (by rw [(show (decide (((n : Nat) : Int) > 40)) = true from decide_eq_true (by omega))])) ?_; show Gets _ _ (codeAt [1, 0, 1, 0] B) _ _
  rw [C1_0_1_0]; refine Gets.seq ?_
  refine Gets.ofN fitV g_sound g_agree 12 40 (by kernel_rfl) (x := .normal) (s' := (S8 pre l e e0)) (R68 pre n c dk th ths kp sd l e e0) ?_
  show Gets _ _ (codeAt [1, 0, 1, 0, 1] B) _ _
  rw [C1_0_1_0_1]; refine Gets.ev fitV.mix fitV.cfg (fitV.sound g_sound 12 0) 12 rfl (s' := KSt.low (S8 pre l e e0)) (x := .ret) rfl ?_
  exact hq
theorem C1_1_1_1_0_1 : (codeAt [1, 1, 1, 1, 0, 1] B) = .block 0 (codeAt [1, 1, 1, 1, 0, 1, 0] B) := by kernel_rfl
theorem C1_1_1_1_0_1_0 : (codeAt [1, 1, 1, 1, 0, 1, 0] B) = .loop (codeAt [1, 1, 1, 1, 0, 1, 0, 0] B) := by kernel_rfl

noncomputable def QE2 : Ex → St → Prop := Eng.Ends Tryd.prog Tryd.f5.results.toList fun r _ => r = .bool true
theorem qe_true {s : KSt} (h : resL Tryd.prog s.low Tryd.f5.results.toList = some [.bool true]) : QE2 .ret s.low := Ends.of h rfl
inductive LInv (dk th ths kp sd : Int) (pre n c : Nat) (l : List Int) (e0 e : TypeId) : Int → KSt → Prop
  | s1 : LInv dk th ths kp sd pre n c l e0 e 0 (S10 pre n c dk th ths kp sd l e e0)
  | s2 (i r : Int) (hi : 1 ≤ i) (hin : i ≤ (n : Int)) (hG : gst (l.take (Int.toNat i)) = (2, r, i)) : LInv dk th ths kp sd pre n c l e0 e i (S24 pre n c i dk th ths kp sd r l e e0)
  | s3 (i r : Int) (hi : 1 ≤ i) (hin : i ≤ (n : Int)) (hG : gst (l.take (Int.toNat i)) = (3, r, i)) : LInv dk th ths kp sd pre n c l e0 e i (S34 pre n c i dk th ths kp sd r l e e0)
  | s4 (i r a : Int) (hi : 1 ≤ i) (hin : i ≤ (n : Int)) (hG : gst (l.take (Int.toNat i)) = (4, r, a)) : LInv dk th ths kp sd pre n c l e0 e i (S49 pre n c i dk th ths kp sd r l e e0)
  | o1 (i : Int) (hx : (n : Int) < i) : LInv dk th ths kp sd pre n c l e0 e i (S65 pre n c i dk th ths kp sd l e e0)
  | o2 (i r : Int) (hx : (n : Int) < i) : LInv dk th ths kp sd pre n c l e0 e i (S24 pre n c i dk th ths kp sd r l e e0)
  | o3 (i r : Int) (hx : (n : Int) < i) : LInv dk th ths kp sd pre n c l e0 e i (S34 pre n c i dk th ths kp sd r l e e0)
  | o4 (i r : Int) (hx : (n : Int) < i) : LInv dk th ths kp sd pre n c l e0 e i (S49 pre n c i dk th ths kp sd r l e e0)
theorem nextG {l : List Int} {i : Int} {G : Int × Int × Int} (hi : 0 ≤ i) (h : i.toNat < l.length) (hG : gst (l.take (Int.toNat i)) = G) : gst (l.take (Int.toNat (i + 1))) = gstep G (l.getD (Int.toNat i) 0) := by
  rw [show Int.toNat (i + 1) = i.toNat + 1 by omega, gst_take h, hG]
theorem lawLoop (dk th ths kp sd : Int) (pre n c : Nat) (l : List Int) (e0 e : TypeId) (hdk : 0 ≤ dk) (hn40 : n ≤ 40) (hc : n ≤ c) (hc2 : c ≤ 9223372036854775807) (hl : l.length = c) (hc0 : 0 < c) (hR : rightV dk th ths kp = true) (i : Int) (s : KSt) (z0 : 0 ≤ i) (z1 : i ≤ (n : Int) + 1) (hI : LInv dk th ths kp sd pre n c l e0 e i s) :
    Gets Tryd.prog (KH.low ⟨2, 1, [(1, 0, .tail pre .u64 l e), (0, 0, .cells [(.int .i64 1), (.int .i64 64), (.int .i64 1), (.int .i64 64)] e0 false)]⟩) (codeAt [1, 1, 1, 1, 0, 1] B) s.low (onN (fun s => Gets Tryd.prog (KH.low ⟨2, 1, [(1, 0, .tail pre .u64 l e), (0, 0, .cells [(.int .i64 1), (.int .i64 64), (.int .i64 1), (.int .i64 64)] e0 false)]⟩) (codeAt [1, 1, 1, 1, 1] B) s (QE2)) (QE2)) := by
  rw [C1_1_1_1_0_1, C1_1_1_1_0_1_0]
  refine Gets.loopG (fun m s => ∃ i : Int, m = ((n : Int) + 1 - i).toNat ∧ 0 ≤ i ∧ i ≤ (n : Int) + 1 ∧ LInv dk th ths kp sd pre n c l e0 e i s) ?_ _ _ ⟨i, rfl, z0, z1, hI⟩
  clear z0 z1 hI s i
  rintro m s ⟨i, rfl, z0, z1, hI⟩
  cases hI with
  | s1 =>
    by_cases hn : (0 : Int) < (n : Int)
    · refine s1m dk th ths kp sd 0 0 0 pre n c l e0 e hdk hn40 hc hc2 hl hc0 hR hn rfl ?_
      exact ⟨_, _, by omega, rfl, _, rfl, by omega, by omega, .s2 1 _ (by omega) (by omega) (by rw [show Int.toNat (1 : Int) = 0 + 1 from rfl, gst_take (by omega)]; rfl)⟩
    · refine s1e dk th ths kp sd 0 0 0 pre n c l e0 e hdk hn40 hc hc2 hl hc0 hR (by omega) rfl ?_
      exact ⟨_, _, by omega, rfl, _, rfl, by omega, by omega, .o1 1 (by omega)⟩
  | s2 _ r hi hin hG =>
    by_cases hn : i < (n : Int)
    · refine s2m dk th ths kp sd r i 0 pre n c l e0 e hdk hn40 hc hc2 hl hc0 hR hi hn (by rw [Nat.sub_zero, Nat.add_zero, Nat.sub_self, List.drop_zero]; exact hG) ?_
      exact ⟨_, _, by omega, rfl, _, rfl, by omega, by omega, .s3 (i + 1) r (by omega) (by omega) (by rw [nextG z0 (by omega) hG]; rfl)⟩
    · refine s2e dk th ths kp sd r i 0 pre n c l e0 e hdk hn40 hc hc2 hl hc0 hR hi (by omega) (by rw [Nat.sub_zero, Nat.add_zero, Nat.sub_self, List.drop_zero]; exact hG) ?_
      exact ⟨_, _, by omega, rfl, _, rfl, by omega, by omega, .o2 (i + 1) r (by omega)⟩
  | s3 _ r hi hin hG =>
    by_cases hn : i < (n : Int)
    · cases hz : ((l.getD ((Int.toNat i) * 1) 0) != r) with
      | false =>
        have hx : l.getD (Int.toNat i) 0 = r := by have := hz; rw [Nat.mul_one] at this; simpa using this
        refine s3mq dk th ths kp sd r i 0 pre n c l e0 e hdk hn40 hc hc2 hl hc0 hR hi hn (by rw [Nat.sub_zero, Nat.add_zero, Nat.sub_self, List.drop_zero]; exact hG) hz ?_
        exact ⟨_, _, by omega, rfl, _, rfl, by omega, by omega, .s4 (i + 1) r (i + 1) (by omega) (by omega) (by rw [nextG z0 (by omega) hG, hx]; simp [gstep])⟩
      | true =>
        have hx : l.getD (Int.toNat i) 0 ≠ r := by have := hz; rw [Nat.mul_one] at this; simpa using this
        refine s3mn dk th ths kp sd r i 0 pre n c l e0 e hdk hn40 hc hc2 hl hc0 hR hi hn (by rw [Nat.sub_zero, Nat.add_zero, Nat.sub_self, List.drop_zero]; exact hG) hz ?_
        exact ⟨_, _, by omega, rfl, _, rfl, by omega, by omega, .s2 (i + 1) _ (by omega) (by omega) (by rw [nextG z0 (by omega) hG]; exact (if_neg (show ¬ ((3 : Int) = 1) by decide)).trans ((if_neg (show ¬ ((3 : Int) = 2) by decide)).trans ((if_pos rfl).trans (if_neg hx))))⟩
    · refine s3e dk th ths kp sd r i 0 pre n c l e0 e hdk hn40 hc hc2 hl hc0 hR hi (by omega) (by rw [Nat.sub_zero, Nat.add_zero, Nat.sub_self, List.drop_zero]; exact hG) ?_
      exact ⟨_, _, by omega, rfl, _, rfl, by omega, by omega, .o3 (i + 1) r (by omega)⟩
  | s4 _ r a hi hin hG =>
    by_cases hn : i < (n : Int)
    · refine s4m dk th ths kp sd r i a pre n c l e0 e hdk hn40 hc hc2 hl hc0 hR hi hn (by rw [Nat.sub_zero, Nat.add_zero, Nat.sub_self, List.drop_zero]; exact hG) ?_
      exact ⟨_, _, by omega, rfl, _, rfl, by omega, by omega, .s4 (i + 1) r a (by omega) (by omega) (by rw [nextG z0 (by omega) hG]; rfl)⟩
    · refine s4e dk th ths kp sd r i a pre n c l e0 e hdk hn40 hc hc2 hl hc0 hR hi (by omega) (by rw [Nat.sub_zero, Nat.add_zero, Nat.sub_self, List.drop_zero]; exact hG) ?_
      exact ⟨_, _, by omega, rfl, _, rfl, by omega, by omega, .o4 (i + 1) r (by omega)⟩
  | o1 _ hx =>
    refine x1 dk th ths kp sd 0 i 0 pre n c l e0 e hx ?_
    refine ⟨fun _ => ?_, fun h => by cases h⟩
    exact f1 dk th ths kp sd 0 i 0 pre n c l e0 e (qe_true (by kernel_rfl))
  | o2 _ r hx =>
    refine x2 dk th ths kp sd r i 0 pre n c l e0 e hx ?_
    refine ⟨fun _ => ?_, fun h => by cases h⟩
    exact f2 dk th ths kp sd r i 0 pre n c l e0 e (qe_true (by kernel_rfl))
  | o3 _ r hx =>
    refine x3 dk th ths kp sd r i 0 pre n c l e0 e hx ?_
    refine ⟨fun _ => ?_, fun h => by cases h⟩
    exact f3 dk th ths kp sd r i 0 pre n c l e0 e (qe_true (by kernel_rfl))
  | o4 _ r hx =>
    refine x4 dk th ths kp sd r i 0 pre n c l e0 e hx ?_
    refine ⟨fun _ => ?_, fun h => by cases h⟩
    exact f4 dk th ths kp sd r i 0 pre n c l e0 e (qe_true (by kernel_rfl))

end Go.Proofs.YtmphcolclkpnnaaDoor.guardActs
