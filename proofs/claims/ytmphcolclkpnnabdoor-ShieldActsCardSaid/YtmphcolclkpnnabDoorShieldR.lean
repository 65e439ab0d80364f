/- What the reference shield does to a tape. -/
import Derived.Test.YtmphcolclkpnnabDoorDesk
import Derived.WalkKit
import Derived.ProofKit
import Derived.OpenShut
import Derived.ChangeOld
import Derived.Below
import Derived.SizedLaws
namespace Go.Proofs.YtmphcolclkpnnabDoor.shieldRef
open Go.Eng
open Go.ChangeShapes Go.WideShapes Go.ChangeAt Go.RowKit
set_option linter.unusedVariables false
set_option linter.unusedSimpArgs false
set_option maxRecDepth 100000
noncomputable def cfgU : Cfg := ⟨[]⟩
noncomputable def fsU : List FuncId := [10, 17, 20, 26]
theorem fitU : Fit Tryd.prog cfgU fsU := ⟨by kernel_rfl, Cfg.ok_of (by kernel_rfl), by kernel_rfl⟩
/-- How it stands behind some answers: the state (1 puts, 2 looks, 3 ended), the word, how many were taken. -/
def gLoop (w k : Int) : List Int → Int × Int × Int
  | [] => if freshR w = true then (1, w, k) else (3, w, k)
  | [_] => if freshR w = true then (2, w, k + 1) else (3, w, k)
  | _ :: y :: rest => if freshR w = true then (if blockR y = blockR w then (3, y, k + 1 + 1) else gLoop y (k + 1 + 1) rest) else (3, w, k)
def gst (w : Int) (l : List Int) : Int × Int × Int := gLoop w 0 l
def gOver (G : Int × Int × Int) : Bool := !decide (G.1 = 3)
def gKind (G : Int × Int × Int) : Int := if G.1 = 3 then 0 else if G.1 = 1 then 2 else 1
def gBlk (dk b0 : Int) (G : Int × Int × Int) : Int := if G.1 = 3 then 0 else if G.1 = 1 then dk else b0
def gCell (th cl : Int) (G : Int × Int × Int) : Int := if G.1 = 3 then 0 else if G.1 = 1 then boxCellV th else cl
def gNew (G : Int × Int × Int) : Int := if G.1 = 1 then blockR G.2.1 else 0
def gRes (G : Int × Int × Int) : Int := if G.1 = 3 then G.2.1 else 0
def gMore (dk th b0 cl : Int) (G : Int × Int × Int) : List Value := [.int .i64 G.2.2, .bool (gOver G), .int .i64 (gKind G), .int .u64 (gBlk dk b0 G), .int .i64 (gCell th cl G), .int .u64 0, .int .u64 (gNew G)]
def gZero : List Value := [.int .i64 0, .bool false, .int .i64 0, .int .u64 0, .int .i64 0, .int .u64 0, .int .u64 0]
theorem drop2 {l : List Int} {k : Nat} (h : k + 2 ≤ l.length) : l.drop k = l.getD k 0 :: l.getD (k + 1) 0 :: l.drop (k + 2) := by
  rw [List.drop_eq_getElem_cons (by omega), List.drop_eq_getElem_cons (by omega)]
  simp [List.getD, List.getElem?_eq_getElem (show k < l.length by omega), List.getElem?_eq_getElem (show k + 1 < l.length by omega)]
theorem drop1 {l : List Int} {k : Nat} (h : k + 1 = l.length) : ∃ x, l.drop k = [x] := by
  rw [List.drop_eq_getElem_cons (by omega), List.drop_of_length_le (by omega)]
  exact ⟨_, rfl⟩
theorem gLoop_ended {w k : Int} (h : freshR w = false) : ∀ l, gLoop w k l = (3, w, k)
  | [] => by simp [gLoop, h]
  | [_] => by simp [gLoop, h]
  | _ :: _ :: _ => by simp [gLoop, h]
noncomputable def B : Code := bodyOf Tryd.prog 10
theorem B_is : Tryd.f10.body = some B := by kernel_rfl
theorem B_ok : okCode Tryd.prog.globals.size B = true := by kernel_rfl
noncomputable def S0 (dk : Int) (th : Int) (ths : Int) (kp : Int) (sd : Int) (b0 : Int) (cl : Int) (w : Int) (e0 : TypeId) (off : Nat) (n : Nat) (c : Nat) (e : TypeId) (l : List Int) (eg : TypeId) : KSt := (firstK [(.pointer (some ⟨1, 0, none⟩)), (.agg #[(.int .u64 dk), (.int .i64 th), (.int .i64 ths), (.int .i64 kp), (.int .u64 sd)]), (.int .u64 b0), (.int .i64 cl), (.int .u64 w)] 42 ⟨3, 1, [(0, 0, .cells [(.int .i64 1), (.int .i64 64), (.int .i64 1), (.int .i64 64)] e0 false), (1, 0, .cells [(.slice (some ⟨2, off, none⟩) n c), (.int .i64 0), (.bool false), (.int .i64 0), (.int .u64 0), (.int .i64 0), (.int .u64 0), (.int .u64 0)] e true), (2, 0, .tail off .u64 l eg)]⟩)
theorem C : B = .seq (codeAt [0] B) (codeAt [1] B) := by kernel_rfl
noncomputable def S1 (b0 : Int) (cl : Int) (w : Int) (dk : Int) (th : Int) (ths : Int) (kp : Int) (sd : Int) (e0 : TypeId) (off : Nat) (n : Nat) (c : Nat) (e : TypeId) (l : List Int) (eg : TypeId) : KSt := ⟨(frameL 42 [(0, (.pointer (some ⟨1, 0, none⟩))), (2, (.int .u64 b0)), (3, (.int .i64 cl)), (4, (.int .u64 w)), (6, (.pointer (some ⟨3, 0, none⟩)))]), ⟨4, 1, [(3, 0, .cells [(.int .u64 dk), (.int .i64 th), (.int .i64 ths), (.int .i64 kp), (.int .u64 sd)] 24 true), (0, 0, .cells [(.int .i64 1), (.int .i64 64), (.int .i64 1), (.int .i64 64)] e0 false), (1, 0, .cells [(.slice (some ⟨2, off, none⟩) n c), (.int .i64 0), (.bool false), (.int .i64 0), (.int .u64 0), (.int .i64 0), (.int .u64 0), (.int .u64 0)] e true), (2, 0, .tail off .u64 l eg)]⟩⟩
theorem R1 (dk : Int) (th : Int) (ths : Int) (kp : Int) (sd : Int) (b0 : Int) (cl : Int) (w : Int) (e0 : TypeId) (off : Nat) (n : Nat) (c : Nat) (e : TypeId) (l : List Int) (eg : TypeId) : evCK Tryd.prog cfgU (runK Tryd.prog cfgU fsU (conT deskDom deskE) 12 40) 12 (codeAt [0] B) (S0 dk th ths kp sd b0 cl w e0 off n c e l eg) (normC 3 [0, 2, 3, 4, 6]) =
  some (.normal, (S1 b0 cl w dk th ths kp sd e0 off n c e l eg)) := by kernel_rfl
theorem C1 : (codeAt [1] B) = .seq (codeAt [1, 0] B) (codeAt [1, 1] B) := by kernel_rfl
theorem p_0 (dk th ths kp sd b0 cl w k : Int) (off n c : Nat) (l : List Int) (e0 e eg : TypeId) (hl : l.length = n) (hn : n ≤ 9223372036854775807)   {Q : Ex → St → Prop} (hq : Gets Tryd.prog (KH.low ⟨3, 1, [(0, 0, .cells [(.int .i64 1), (.int .i64 64), (.int .i64 1), (.int .i64 64)] e0 false), (1, 0, .cells [(.slice (some ⟨2, off, none⟩) n c), (.int .i64 0), (.bool false), (.int .i64 0), (.int .u64 0), (.int .i64 0), (.int .u64 0), (.int .u64 0)] e true), (2, 0, .tail off .u64 l eg)]⟩) (codeAt [1, 0] B) (KSt.low (S1 b0 cl w dk th ths kp sd e0 off n c e l eg)) (onN (fun s => Gets Tryd.prog (KH.low ⟨3, 1, [(0, 0, .cells [(.int .i64 1), (.int .i64 64), (.int .i64 1), (.int .i64 64)] e0 false), (1, 0, .cells [(.slice (some ⟨2, off, none⟩) n c), (.int .i64 0), (.bool false), (.int .i64 0), (.int .u64 0), (.int .i64 0), (.int .u64 0), (.int .u64 0)] e true), (2, 0, .tail off .u64 l eg)]⟩) (codeAt [1, 1] B) s (Q)) (Q))) : Gets Tryd.prog (KH.low ⟨3, 1, [(0, 0, .cells [(.int .i64 1), (.int .i64 64), (.int .i64 1), (.int .i64 64)] e0 false), (1, 0, .cells [(.slice (some ⟨2, off, none⟩) n c), (.int .i64 0), (.bool false), (.int .i64 0), (.int .u64 0), (.int .i64 0), (.int .u64 0), (.int .u64 0)] e true), (2, 0, .tail off .u64 l eg)]⟩) B (KSt.low (S0 dk th ths kp sd b0 cl w e0 off n c e l eg)) Q := by
  rw [C]; refine Gets.seq ?_
  refine Gets.ofN fitU desk_sound (conT_agree _ _) 12 40 (by kernel_rfl) (x := .normal) (s' := (S1 b0 cl w dk th ths kp sd e0 off n c e l eg)) (R1 dk th ths kp sd b0 cl w e0 off n c e l eg) ?_
  show Gets _ _ (codeAt [1] B) _ _
  rw [C1]; refine Gets.seq ?_
  exact hq
noncomputable def S2 (b0 : Int) (cl : Int) (w : Int) (dk : Int) (th : Int) (ths : Int) (kp : Int) (sd : Int) (e0 : TypeId) (off : Nat) (n : Nat) (c : Nat) (k : Int) (e : TypeId) (l : List Int) (eg : TypeId) : KSt := ⟨(frameL 42 [(0, (.pointer (some ⟨1, 0, none⟩))), (2, (.int .u64 b0)), (3, (.int .i64 cl)), (4, (.int .u64 w)), (6, (.pointer (some ⟨3, 0, none⟩)))]), ⟨4, 1, [(3, 0, .cells [(.int .u64 dk), (.int .i64 th), (.int .i64 ths), (.int .i64 kp), (.int .u64 sd)] 24 true), (0, 0, .cells [(.int .i64 1), (.int .i64 64), (.int .i64 1), (.int .i64 64)] e0 false), (1, 0, .cells [(.slice (some ⟨2, off, none⟩) n c), (.int .i64 k), (.bool false), (.int .i64 0), (.int .u64 0), (.int .i64 0), (.int .u64 0), (.int .u64 0)] e true), (2, 0, .tail off .u64 l eg)]⟩⟩
theorem C1_0_0_0 : (codeAt [1, 0, 0, 0] B) = .seq (codeAt [1, 0, 0, 0, 0] B) (codeAt [1, 0, 0, 0, 1] B) := by kernel_rfl
theorem C1_0_0_0_0 : (codeAt [1, 0, 0, 0, 0] B) = .seq (codeAt [1, 0, 0, 0, 0, 0] B) (codeAt [1, 0, 0, 0, 0, 1] B) := by kernel_rfl
noncomputable def S3 (b0 : Int) (cl : Int) (w : Int) (dk : Int) (th : Int) (ths : Int) (kp : Int) (sd : Int) (e0 : TypeId) (off : Nat) (n : Nat) (c : Nat) (k : Int) (e : TypeId) (l : List Int) (eg : TypeId) : KSt := ⟨(frameL 42 [(0, (.pointer (some ⟨1, 0, none⟩))), (2, (.int .u64 b0)), (3, (.int .i64 cl)), (4, (.int .u64 w)), (6, (.pointer (some ⟨3, 0, none⟩))), (20, (.bool true))]), ⟨4, 1, [(3, 0, .cells [(.int .u64 dk), (.int .i64 th), (.int .i64 ths), (.int .i64 kp), (.int .u64 sd)] 24 true), (0, 0, .cells [(.int .i64 1), (.int .i64 64), (.int .i64 1), (.int .i64 64)] e0 false), (1, 0, .cells [(.slice (some ⟨2, off, none⟩) n c), (.int .i64 k), (.bool false), (.int .i64 0), (.int .u64 0), (.int .i64 0), (.int .u64 0), (.int .u64 0)] e true), (2, 0, .tail off .u64 l eg)]⟩⟩
noncomputable def S4 (b0 : Int) (cl : Int) (w : Int) (dk : Int) (th : Int) (ths : Int) (kp : Int) (sd : Int) (e0 : TypeId) (off : Nat) (n : Nat) (c : Nat) (k : Int) (e : TypeId) (l : List Int) (eg : TypeId) : KSt := ⟨(frameL 42 [(0, (.pointer (some ⟨1, 0, none⟩))), (2, (.int .u64 b0)), (3, (.int .i64 cl)), (4, (.int .u64 w)), (6, (.pointer (some ⟨3, 0, none⟩))), (20, (.bool false))]), ⟨4, 1, [(3, 0, .cells [(.int .u64 dk), (.int .i64 th), (.int .i64 ths), (.int .i64 kp), (.int .u64 sd)] 24 true), (0, 0, .cells [(.int .i64 1), (.int .i64 64), (.int .i64 1), (.int .i64 64)] e0 false), (1, 0, .cells [(.slice (some ⟨2, off, none⟩) n c), (.int .i64 k), (.bool false), (.int .i64 0), (.int .u64 0), (.int .i64 0), (.int .u64 0), (.int .u64 0)] e true), (2, 0, .tail off .u64 l eg)]⟩⟩
theorem R2 (b0 : Int) (cl : Int) (w : Int) (dk : Int) (th : Int) (ths : Int) (kp : Int) (sd : Int) (e0 : TypeId) (off : Nat) (n : Nat) (c : Nat) (k : Int) (e : TypeId) (l : List Int) (eg : TypeId) : evCK Tryd.prog cfgU (runK Tryd.prog cfgU fsU (conT deskDom deskE) 12 40) 12 (codeAt [1, 0, 0, 0, 0, 0] B) (S2 b0 cl w dk th ths kp sd e0 off n c k e l eg) (normC 3 [0, 2, 3, 4, 6, 20]) =
  bif (freshR w) then
    some (.normal, (S3 b0 cl w dk th ths kp sd e0 off n c k e l eg))
  else
    some (.normal, (S4 b0 cl w dk th ths kp sd e0 off n c k e l eg)) := by kernel_rfl
theorem C1_0_0_0_0_1 : (codeAt [1, 0, 0, 0, 0, 1] B) = .cond (.tmp 20) (codeAt [1, 0, 0, 0, 0, 1, 0] B) (codeAt [1, 0, 0, 0, 0, 1, 1] B) := by kernel_rfl
theorem R3 (b0 : Int) (cl : Int) (w : Int) (dk : Int) (th : Int) (ths : Int) (kp : Int) (sd : Int) (e0 : TypeId) (off : Nat) (n : Nat) (c : Nat) (k : Int) (e : TypeId) (l : List Int) (eg : TypeId) : evCK Tryd.prog cfgU (runK Tryd.prog cfgU fsU (conT deskDom deskE) 12 40) 12 (codeAt [1, 0, 0, 0, 0, 1, 0] B) (S3 b0 cl w dk th ths kp sd e0 off n c k e l eg) (normC 3 [0, 2, 3, 4, 6]) =
  some (.normal, (S2 b0 cl w dk th ths kp sd e0 off n c k e l eg)) := by kernel_rfl
theorem C1_0_0_0_1 : (codeAt [1, 0, 0, 0, 1] B) = .block 1 (codeAt [1, 0, 0, 0, 1, 0] B) := by kernel_rfl
theorem C1_0_0_0_1_0 : (codeAt [1, 0, 0, 0, 1, 0] B) = .seq (codeAt [1, 0, 0, 0, 1, 0, 0] B) (codeAt [1, 0, 0, 0, 1, 0, 1] B) := by kernel_rfl
noncomputable def S5 (b0 : Int) (cl : Int) (w : Int) (dk : Int) (th : Int) (ths : Int) (kp : Int) (sd : Int) (e0 : TypeId) (off : Nat) (n : Nat) (c : Nat) (k : Int) (e : TypeId) (l : List Int) (eg : TypeId) : KSt := ⟨(frameL 42 [(0, (.pointer (some ⟨1, 0, none⟩))), (2, (.int .u64 b0)), (3, (.int .i64 cl)), (4, (.int .u64 w)), (6, (.pointer (some ⟨3, 0, none⟩)))]), ⟨4, 1, [(3, 0, .cells [(.int .u64 dk), (.int .i64 th), (.int .i64 ths), (.int .i64 kp), (.int .u64 sd)] 24 true), (0, 0, .cells [(.int .i64 1), (.int .i64 64), (.int .i64 1), (.int .i64 64)] e0 false), (1, 0, .cells [(.slice (some ⟨2, off, none⟩) n c), (.int .i64 (IntKind.wrap .i64 (k + 1))), (.bool false), (.int .i64 0), (.int .u64 0), (.int .i64 0), (.int .u64 0), (.int .u64 0)] e true), (2, 0, .tail off .u64 l eg)]⟩⟩
noncomputable def S6 (b0 : Int) (cl : Int) (w : Int) (dk : Int) (th : Int) (ths : Int) (kp : Int) (sd : Int) (e0 : TypeId) (off : Nat) (n : Nat) (c : Nat) (k : Int) (e : TypeId) (l : List Int) (eg : TypeId) : KSt := ⟨(frameL 42 [(0, (.pointer (some ⟨1, 0, none⟩))), (2, (.int .u64 b0)), (3, (.int .i64 cl)), (4, (.int .u64 w)), (6, (.pointer (some ⟨3, 0, none⟩)))]), ⟨4, 1, [(3, 0, .cells [(.int .u64 dk), (.int .i64 th), (.int .i64 ths), (.int .i64 kp), (.int .u64 sd)] 24 true), (0, 0, .cells [(.int .i64 1), (.int .i64 64), (.int .i64 1), (.int .i64 64)] e0 false), (1, 0, .cells [(.slice (some ⟨2, off, none⟩) n c), (.int .i64 k), (.bool true), (.int .i64 2), (.int .u64 dk), (.int .i64 (boxCellV th)), (.int .u64 0), (.int .u64 (blockR w))] e true), (2, 0, .tail off .u64 l eg)]⟩⟩
theorem R4 (b0 : Int) (cl : Int) (w : Int) (dk : Int) (th : Int) (ths : Int) (kp : Int) (sd : Int) (e0 : TypeId) (off : Nat) (n : Nat) (c : Nat) (k : Int) (e : TypeId) (l : List Int) (eg : TypeId) : evCK Tryd.prog cfgU (runK Tryd.prog cfgU fsU (conT deskDom deskE) 12 40) 12 (codeAt [1, 0, 0, 0, 1, 0, 0] B) (S2 b0 cl w dk th ths kp sd e0 off n c k e l eg) (normC 3 [0, 2, 3, 4, 6]) =
  bif (decide (k < ((n : Nat) : Int))) then
    if 0 ≤ (IntKind.wrap .i64 ((IntKind.wrap .i64 (k + 1)) - 1)) ∧ (IntKind.wrap .i64 ((IntKind.wrap .i64 (k + 1)) - 1)) < ((n : Nat) : Int) then
      bif (Nat.ble off (off + ((Int.toNat ((IntKind.wrap .i64 ((IntKind.wrap .i64 (k + 1)) - 1)))) * 1))) then
        obind (l[((off + ((Int.toNat ((IntKind.wrap .i64 ((IntKind.wrap .i64 (k + 1)) - 1)))) * 1)) - off)]?) fun n1 =>
          some (.normal, (S5 b0 cl w dk th ths kp sd e0 off n c k e l eg))
      else
        none
    else
      none
  else
    some (.normal, (S6 b0 cl w dk th ths kp sd e0 off n c k e l eg)) := by kernel_rfl
theorem C1_0_0_0_1_0_1 : (codeAt [1, 0, 0, 0, 1, 0, 1] B) = .seq (codeAt [1, 0, 0, 0, 1, 0, 1, 0] B) (codeAt [1, 0, 0, 0, 1, 0, 1, 1] B) := by kernel_rfl
noncomputable def S7 (b0 : Int) (cl : Int) (w : Int) (dk : Int) (th : Int) (ths : Int) (kp : Int) (sd : Int) (e0 : TypeId) (off : Nat) (n : Nat) (c : Nat) (k : Int) (e : TypeId) (l : List Int) (eg : TypeId) : KSt := ⟨(frameL 42 [(0, (.pointer (some ⟨1, 0, none⟩))), (2, (.int .u64 b0)), (3, (.int .i64 cl)), (4, (.int .u64 w)), (6, (.pointer (some ⟨3, 0, none⟩))), (11, (.int .u64 0))]), ⟨4, 1, [(3, 0, .cells [(.int .u64 dk), (.int .i64 th), (.int .i64 ths), (.int .i64 kp), (.int .u64 sd)] 24 true), (0, 0, .cells [(.int .i64 1), (.int .i64 64), (.int .i64 1), (.int .i64 64)] e0 false), (1, 0, .cells [(.slice (some ⟨2, off, none⟩) n c), (.int .i64 k), (.bool true), (.int .i64 2), (.int .u64 dk), (.int .i64 (boxCellV th)), (.int .u64 0), (.int .u64 (blockR w))] e true), (2, 0, .tail off .u64 l eg)]⟩⟩
theorem R5 (b0 : Int) (cl : Int) (w : Int) (dk : Int) (th : Int) (ths : Int) (kp : Int) (sd : Int) (e0 : TypeId) (off : Nat) (n : Nat) (c : Nat) (k : Int) (e : TypeId) (l : List Int) (eg : TypeId) : evCK Tryd.prog cfgU (runK Tryd.prog cfgU fsU (conT deskDom deskE) 12 40) 12 (codeAt [1, 0, 0, 0, 1, 0, 1, 0] B) (S6 b0 cl w dk th ths kp sd e0 off n c k e l eg) (normC 3 [0, 2, 3, 4, 6, 11]) =
  some (.normal, (S7 b0 cl w dk th ths kp sd e0 off n c k e l eg)) := by kernel_rfl
theorem C1_0_0_0_1_0_1_1 : (codeAt [1, 0, 0, 0, 1, 0, 1, 1] B) = .seq (codeAt [1, 0, 0, 0, 1, 0, 1, 1, 0] B) (codeAt [1, 0, 0, 0, 1, 0, 1, 1, 1] B) := by kernel_rfl
theorem C1_0_0_0_1_0_1_1_0 : (codeAt [1, 0, 0, 0, 1, 0, 1, 1, 0] B) = .seq (codeAt [1, 0, 0, 0, 1, 0, 1, 1, 0, 0] B) (codeAt [1, 0, 0, 0, 1, 0, 1, 1, 0, 1] B) := by kernel_rfl
noncomputable def S8 (b0 : Int) (cl : Int) (w : Int) (dk : Int) (th : Int) (ths : Int) (kp : Int) (sd : Int) (e0 : TypeId) (off : Nat) (n : Nat) (c : Nat) (k : Int) (e : TypeId) (l : List Int) (eg : TypeId) : KSt := ⟨(frameL 42 [(0, (.pointer (some ⟨1, 0, none⟩))), (2, (.int .u64 b0)), (3, (.int .i64 cl)), (6, (.pointer (some ⟨3, 0, none⟩))), (11, (.int .u64 0)), (38, (.bool (0 == (blockR w))))]), ⟨4, 1, [(3, 0, .cells [(.int .u64 dk), (.int .i64 th), (.int .i64 ths), (.int .i64 kp), (.int .u64 sd)] 24 true), (0, 0, .cells [(.int .i64 1), (.int .i64 64), (.int .i64 1), (.int .i64 64)] e0 false), (1, 0, .cells [(.slice (some ⟨2, off, none⟩) n c), (.int .i64 k), (.bool true), (.int .i64 2), (.int .u64 dk), (.int .i64 (boxCellV th)), (.int .u64 0), (.int .u64 (blockR w))] e true), (2, 0, .tail off .u64 l eg)]⟩⟩
theorem R6 (b0 : Int) (cl : Int) (w : Int) (dk : Int) (th : Int) (ths : Int) (kp : Int) (sd : Int) (e0 : TypeId) (off : Nat) (n : Nat) (c : Nat) (k : Int) (e : TypeId) (l : List Int) (eg : TypeId) : evCK Tryd.prog cfgU (runK Tryd.prog cfgU fsU (conT deskDom deskE) 12 40) 12 (codeAt [1, 0, 0, 0, 1, 0, 1, 1, 0, 0] B) (S7 b0 cl w dk th ths kp sd e0 off n c k e l eg) (normC 3 [0, 2, 3, 6, 11, 38]) =
  some (.normal, (S8 b0 cl w dk th ths kp sd e0 off n c k e l eg)) := by kernel_rfl
theorem C1_0_0_0_1_0_1_1_0_1 : (codeAt [1, 0, 0, 0, 1, 0, 1, 1, 0, 1] B) = .cond (.tmp 38) (codeAt [1, 0, 0, 0, 1, 0, 1, 1, 0, 1, 0] B) (codeAt [1, 0, 0, 0, 1, 0, 1, 1, 0, 1, 1] B) := by kernel_rfl
theorem C1_0_0_0_1_0_1_1_0_1_0 : (codeAt [1, 0, 0, 0, 1, 0, 1, 1, 0, 1, 0] B) = .seq (codeAt [1, 0, 0, 0, 1, 0, 1, 1, 0, 1, 0, 0] B) (codeAt [1, 0, 0, 0, 1, 0, 1, 1, 0, 1, 0, 1] B) := by kernel_rfl
noncomputable def S9 (e0 : TypeId) (off : Nat) (n : Nat) (c : Nat) (k : Int) (dk : Int) (th : Int) (w : Int) (e : TypeId) (l : List Int) (eg : TypeId) : KSt := ⟨(frameL 42 [(10, (.int .u64 0))]), ⟨3, 1, [(0, 0, .cells [(.int .i64 1), (.int .i64 64), (.int .i64 1), (.int .i64 64)] e0 false), (1, 0, .cells [(.slice (some ⟨2, off, none⟩) n c), (.int .i64 k), (.bool true), (.int .i64 2), (.int .u64 dk), (.int .i64 (boxCellV th)), (.int .u64 0), (.int .u64 (blockR w))] e true), (2, 0, .tail off .u64 l eg)]⟩⟩
theorem R7 (b0 : Int) (cl : Int) (w : Int) (dk : Int) (th : Int) (ths : Int) (kp : Int) (sd : Int) (e0 : TypeId) (off : Nat) (n : Nat) (c : Nat) (k : Int) (e : TypeId) (l : List Int) (eg : TypeId) : evCK Tryd.prog cfgU (runK Tryd.prog cfgU fsU (conT deskDom deskE) 12 40) 12 (codeAt [1, 0, 0, 0, 1, 0, 1, 1, 0, 1, 0, 0] B) (S8 b0 cl w dk th ths kp sd e0 off n c k e l eg) (normC 3 [10]) =
  some (.normal, (S9 e0 off n c k dk th w e l eg)) := by kernel_rfl
theorem C1_0_0_0_1_0_1_1_0_1_0_1 : (codeAt [1, 0, 0, 0, 1, 0, 1, 1, 0, 1, 0, 1] B) = .ret := by kernel_rfl
theorem a_1 (dk th ths kp sd b0 cl w k : Int) (off n c : Nat) (l : List Int) (e0 e eg : TypeId) (hl : l.length = n) (hn : n ≤ 9223372036854775807) (hk : 0 ≤ k) (h0 : k = (n : Int))  (q1 : (freshR w) = true) (q2 : (0 == (blockR w)) = true) {Q : Ex → St → Prop} (hq : Q .ret (KSt.low (S9 e0 off n c k dk th w e l eg))) : Gets Tryd.prog (KH.low ⟨3, 1, [(0, 0, .cells [(.int .i64 1), (.int .i64 64), (.int .i64 1), (.int .i64 64)] e0 false), (1, 0, .cells [(.slice (some ⟨2, off, none⟩) n c), (.int .i64 0), (.bool false), (.int .i64 0), (.int .u64 0), (.int .i64 0), (.int .u64 0), (.int .u64 0)] e true), (2, 0, .tail off .u64 l eg)]⟩) (codeAt [1, 0, 0, 0] B) (KSt.low (S2 b0 cl w dk th ths kp sd e0 off n c k e l eg)) Q := by
  rw [C1_0_0_0]; refine Gets.seq ?_
  rw [C1_0_0_0_0]; refine Gets.seq ?_
  refine Gets.ofN fitU desk_sound (conT_agree _ _) 12 40 (by kernel_rfl) (x := .normal) (s' := (S3 b0 cl w dk th ths kp sd e0 off n c k e l eg)) ((R2 b0 cl w dk th ths kp sd e0 off n c k e l eg).trans (by rw [condT (q1)])) ?_
  show Gets _ _ (codeAt [1, 0, 0, 0, 0, 1] B) _ _
  rw [C1_0_0_0_0_1]; refine Gets.cond true (by kernel_rfl) (show evalX (KSt.ts (S3 b0 cl w dk th ths kp sd e0 off n c k e l eg)) (.tmp 20) = .bool true by kernel_rfl) ?_; show Gets _ _ (codeAt [1, 0, 0, 0, 0, 1, 0] B) _ _
  refine Gets.ofN fitU desk_sound (conT_agree _ _) 12 40 (by kernel_rfl) (x := .normal) (s' := (S2 b0 cl w dk th ths kp sd e0 off n c k e l eg)) (R3 b0 cl w dk th ths kp sd e0 off n c k e l eg) ?_
  show Gets _ _ (codeAt [1, 0, 0, 0, 1] B) _ _
  rw [C1_0_0_0_1]; refine Gets.block ?_
  rw [C1_0_0_0_1_0]; refine Gets.seq ?_
  refine Gets.ofN fitU desk_sound (conT_agree _ _) 12 40 (by kernel_rfl) (x := .normal) (s' := (S6 b0 cl w dk th ths kp sd e0 off n c k e l eg)) ((R4 b0 cl w dk th ths kp sd e0 off n c k e l eg).trans (by rw [condF (decide_eq_false (by omega))])) ?_
  show Gets _ _ (codeAt [1, 0, 0, 0, 1, 0, 1] B) _ _
  rw [C1_0_0_0_1_0_1]; refine Gets.seq ?_
  refine Gets.ofN fitU desk_sound (conT_agree _ _) 12 40 (by kernel_rfl) (x := .normal) (s' := (S7 b0 cl w dk th ths kp sd e0 off n c k e l eg)) (R5 b0 cl w dk th ths kp sd e0 off n c k e l eg) ?_
  show Gets _ _ (codeAt [1, 0, 0, 0, 1, 0, 1, 1] B) _ _
  rw [C1_0_0_0_1_0_1_1]; refine Gets.seq ?_
  rw [C1_0_0_0_1_0_1_1_0]; refine Gets.seq ?_
  refine Gets.ofN fitU desk_sound (conT_agree _ _) 12 40 (by kernel_rfl) (x := .normal) (s' := (S8 b0 cl w dk th ths kp sd e0 off n c k e l eg)) (R6 b0 cl w dk th ths kp sd e0 off n c k e l eg) ?_
  show Gets _ _ (codeAt [1, 0, 0, 0, 1, 0, 1, 1, 0, 1] B) _ _
  rw [C1_0_0_0_1_0_1_1_0_1]; refine Gets.cond true (by kernel_rfl) ((show evalX (KSt.ts (S8 b0 cl w dk th ths kp sd e0 off n c k e l eg)) (.tmp 38) = .bool (0 == (blockR w)) by kernel_rfl).trans (by rw [(show (0 == (blockR w)) = true from q2)])) ?_; show Gets _ _ (codeAt [1, 0, 0, 0, 1, 0, 1, 1, 0, 1, 0] B) _ _
  rw [C1_0_0_0_1_0_1_1_0_1_0]; refine Gets.seq ?_
  refine Gets.ofN fitU desk_sound (conT_agree _ _) 12 40 (by kernel_rfl) (x := .normal) (s' := (S9 e0 off n c k dk th w e l eg)) (R7 b0 cl w dk th ths kp sd e0 off n c k e l eg) ?_
  show Gets _ _ (codeAt [1, 0, 0, 0, 1, 0, 1, 1, 0, 1, 0, 1] B) _ _
  rw [C1_0_0_0_1_0_1_1_0_1_0_1]; refine Gets.ev fitU.mix fitU.cfg (fitU.sound desk_sound 12 0) 12 rfl (s' := KSt.low (S9 e0 off n c k dk th w e l eg)) (x := .ret) rfl ?_
  exact hq
noncomputable def S10 (b0 : Int) (cl : Int) (dk : Int) (th : Int) (ths : Int) (kp : Int) (sd : Int) (e0 : TypeId) (off : Nat) (n : Nat) (c : Nat) (k : Int) (w : Int) (e : TypeId) (l : List Int) (eg : TypeId) : KSt := ⟨(frameL 42 [(0, (.pointer (some ⟨1, 0, none⟩))), (2, (.int .u64 b0)), (3, (.int .i64 cl)), (6, (.pointer (some ⟨3, 0, none⟩))), (11, (.int .u64 0))]), ⟨4, 1, [(3, 0, .cells [(.int .u64 dk), (.int .i64 th), (.int .i64 ths), (.int .i64 kp), (.int .u64 sd)] 24 true), (0, 0, .cells [(.int .i64 1), (.int .i64 64), (.int .i64 1), (.int .i64 64)] e0 false), (1, 0, .cells [(.slice (some ⟨2, off, none⟩) n c), (.int .i64 k), (.bool true), (.int .i64 2), (.int .u64 dk), (.int .i64 (boxCellV th)), (.int .u64 0), (.int .u64 (blockR w))] e true), (2, 0, .tail off .u64 l eg)]⟩⟩
theorem R8 (b0 : Int) (cl : Int) (w : Int) (dk : Int) (th : Int) (ths : Int) (kp : Int) (sd : Int) (e0 : TypeId) (off : Nat) (n : Nat) (c : Nat) (k : Int) (e : TypeId) (l : List Int) (eg : TypeId) : evCK Tryd.prog cfgU (runK Tryd.prog cfgU fsU (conT deskDom deskE) 12 40) 12 (codeAt [1, 0, 0, 0, 1, 0, 1, 1, 0, 1, 1] B) (S8 b0 cl w dk th ths kp sd e0 off n c k e l eg) (normC 3 [0, 2, 3, 6, 11]) =
  some (.normal, (S10 b0 cl dk th ths kp sd e0 off n c k w e l eg)) := by kernel_rfl
noncomputable def S11 (b0 : Int) (cl : Int) (dk : Int) (th : Int) (ths : Int) (kp : Int) (sd : Int) (e0 : TypeId) (off : Nat) (n : Nat) (c : Nat) (k : Int) (w : Int) (e : TypeId) (l : List Int) (eg : TypeId) : KSt := ⟨(frameL 42 [(0, (.pointer (some ⟨1, 0, none⟩))), (2, (.int .u64 b0)), (3, (.int .i64 cl)), (4, (.int .u64 0)), (6, (.pointer (some ⟨3, 0, none⟩)))]), ⟨4, 1, [(3, 0, .cells [(.int .u64 dk), (.int .i64 th), (.int .i64 ths), (.int .i64 kp), (.int .u64 sd)] 24 true), (0, 0, .cells [(.int .i64 1), (.int .i64 64), (.int .i64 1), (.int .i64 64)] e0 false), (1, 0, .cells [(.slice (some ⟨2, off, none⟩) n c), (.int .i64 k), (.bool true), (.int .i64 2), (.int .u64 dk), (.int .i64 (boxCellV th)), (.int .u64 0), (.int .u64 (blockR w))] e true), (2, 0, .tail off .u64 l eg)]⟩⟩
theorem R9 (b0 : Int) (cl : Int) (dk : Int) (th : Int) (ths : Int) (kp : Int) (sd : Int) (e0 : TypeId) (off : Nat) (n : Nat) (c : Nat) (k : Int) (w : Int) (e : TypeId) (l : List Int) (eg : TypeId) : evCK Tryd.prog cfgU (runK Tryd.prog cfgU fsU (conT deskDom deskE) 12 40) 12 (codeAt [1, 0, 0, 0, 1, 0, 1, 1, 1] B) (S10 b0 cl dk th ths kp sd e0 off n c k w e l eg) (normC 3 [0, 2, 3, 4, 6]) =
  some (.normal, (S11 b0 cl dk th ths kp sd e0 off n c k w e l eg)) := by kernel_rfl
theorem a_2 (dk th ths kp sd b0 cl w k : Int) (off n c : Nat) (l : List Int) (e0 e eg : TypeId) (hl : l.length = n) (hn : n ≤ 9223372036854775807) (hk : 0 ≤ k) (h0 : k = (n : Int))  (q1 : (freshR w) = true) (q2 : (0 == (blockR w)) = false) {Q : Ex → St → Prop} (hq : Q .normal (KSt.low (S11 b0 cl dk th ths kp sd e0 off n c k w e l eg))) : Gets Tryd.prog (KH.low ⟨3, 1, [(0, 0, .cells [(.int .i64 1), (.int .i64 64), (.int .i64 1), (.int .i64 64)] e0 false), (1, 0, .cells [(.slice (some ⟨2, off, none⟩) n c), (.int .i64 0), (.bool false), (.int .i64 0), (.int .u64 0), (.int .i64 0), (.int .u64 0), (.int .u64 0)] e true), (2, 0, .tail off .u64 l eg)]⟩) (codeAt [1, 0, 0, 0] B) (KSt.low (S2 b0 cl w dk th ths kp sd e0 off n c k e l eg)) Q := by
  rw [C1_0_0_0]; refine Gets.seq ?_
  rw [C1_0_0_0_0]; refine Gets.seq ?_
  refine Gets.ofN fitU desk_sound (conT_agree _ _) 12 40 (by kernel_rfl) (x := .normal) (s' := (S3 b0 cl w dk th ths kp sd e0 off n c k e l eg)) ((R2 b0 cl w dk th ths kp sd e0 off n c k e l eg).trans (by rw [condT (q1)])) ?_
  show Gets _ _ (codeAt [1, 0, 0, 0, 0, 1] B) _ _
  rw [C1_0_0_0_0_1]; refine Gets.cond true (by kernel_rfl) (show evalX (KSt.ts (S3 b0 cl w dk th ths kp sd e0 off n c k e l eg)) (.tmp 20) = .bool true by kernel_rfl) ?_; show Gets _ _ (codeAt [1, 0, 0, 0, 0, 1, 0] B) _ _
  refine Gets.ofN fitU desk_sound (conT_agree _ _) 12 40 (by kernel_rfl) (x := .normal) (s' := (S2 b0 cl w dk th ths kp sd e0 off n c k e l eg)) (R3 b0 cl w dk th ths kp sd e0 off n c k e l eg) ?_
  show Gets _ _ (codeAt [1, 0, 0, 0, 1] B) _ _
  rw [C1_0_0_0_1]; refine Gets.block ?_
  rw [C1_0_0_0_1_0]; refine Gets.seq ?_
  refine Gets.ofN fitU desk_sound (conT_agree _ _) 12 40 (by kernel_rfl) (x := .normal) (s' := (S6 b0 cl w dk th ths kp sd e0 off n c k e l eg)) ((R4 b0 cl w dk th ths kp sd e0 off n c k e l eg).trans (by rw [condF (decide_eq_false (by omega))])) ?_
  show Gets _ _ (codeAt [1, 0, 0, 0, 1, 0, 1] B) _ _
  rw [C1_0_0_0_1_0_1]; refine Gets.seq ?_
  refine Gets.ofN fitU desk_sound (conT_agree _ _) 12 40 (by kernel_rfl) (x := .normal) (s' := (S7 b0 cl w dk th ths kp sd e0 off n c k e l eg)) (R5 b0 cl w dk th ths kp sd e0 off n c k e l eg) ?_
  show Gets _ _ (codeAt [1, 0, 0, 0, 1, 0, 1, 1] B) _ _
  rw [C1_0_0_0_1_0_1_1]; refine Gets.seq ?_
  rw [C1_0_0_0_1_0_1_1_0]; refine Gets.seq ?_
  refine Gets.ofN fitU desk_sound (conT_agree _ _) 12 40 (by kernel_rfl) (x := .normal) (s' := (S8 b0 cl w dk th ths kp sd e0 off n c k e l eg)) (R6 b0 cl w dk th ths kp sd e0 off n c k e l eg) ?_
  show Gets _ _ (codeAt [1, 0, 0, 0, 1, 0, 1, 1, 0, 1] B) _ _
  rw [C1_0_0_0_1_0_1_1_0_1]; refine Gets.cond false (by kernel_rfl) ((show evalX (KSt.ts (S8 b0 cl w dk th ths kp sd e0 off n c k e l eg)) (.tmp 38) = .bool (0 == (blockR w)) by kernel_rfl).trans (by rw [(show (0 == (blockR w)) = false from q2)])) ?_; show Gets _ _ (codeAt [1, 0, 0, 0, 1, 0, 1, 1, 0, 1, 1] B) _ _
  refine Gets.ofN fitU desk_sound (conT_agree _ _) 12 40 (by kernel_rfl) (x := .normal) (s' := (S10 b0 cl dk th ths kp sd e0 off n c k w e l eg)) (R8 b0 cl w dk th ths kp sd e0 off n c k e l eg) ?_
  show Gets _ _ (codeAt [1, 0, 0, 0, 1, 0, 1, 1, 1] B) _ _
  refine Gets.ofN fitU desk_sound (conT_agree _ _) 12 40 (by kernel_rfl) (x := .normal) (s' := (S11 b0 cl dk th ths kp sd e0 off n c k w e l eg)) (R9 b0 cl dk th ths kp sd e0 off n c k w e l eg) ?_
  exact hq
theorem C1_0_0_0_0_1_1 : (codeAt [1, 0, 0, 0, 0, 1, 1] B) = .exit 0 := by kernel_rfl
theorem a_3 (dk th ths kp sd b0 cl w k : Int) (off n c : Nat) (l : List Int) (e0 e eg : TypeId) (hl : l.length = n) (hn : n ≤ 9223372036854775807) (hk : 0 ≤ k) (h0 : k = (n : Int))  (q1 : (freshR w) = false) {Q : Ex → St → Prop} (hq : Q (.exit 0) (KSt.low (S4 b0 cl w dk th ths kp sd e0 off n c k e l eg))) : Gets Tryd.prog (KH.low ⟨3, 1, [(0, 0, .cells [(.int .i64 1), (.int .i64 64), (.int .i64 1), (.int .i64 64)] e0 false), (1, 0, .cells [(.slice (some ⟨2, off, none⟩) n c), (.int .i64 0), (.bool false), (.int .i64 0), (.int .u64 0), (.int .i64 0), (.int .u64 0), (.int .u64 0)] e true), (2, 0, .tail off .u64 l eg)]⟩) (codeAt [1, 0, 0, 0] B) (KSt.low (S2 b0 cl w dk th ths kp sd e0 off n c k e l eg)) Q := by
  rw [C1_0_0_0]; refine Gets.seq ?_
  rw [C1_0_0_0_0]; refine Gets.seq ?_
  refine Gets.ofN fitU desk_sound (conT_agree _ _) 12 40 (by kernel_rfl) (x := .normal) (s' := (S4 b0 cl w dk th ths kp sd e0 off n c k e l eg)) ((R2 b0 cl w dk th ths kp sd e0 off n c k e l eg).trans (by rw [condF (q1)])) ?_
  show Gets _ _ (codeAt [1, 0, 0, 0, 0, 1] B) _ _
  rw [C1_0_0_0_0_1]; refine Gets.cond false (by kernel_rfl) (show evalX (KSt.ts (S4 b0 cl w dk th ths kp sd e0 off n c k e l eg)) (.tmp 20) = .bool false by kernel_rfl) ?_; show Gets _ _ (codeAt [1, 0, 0, 0, 0, 1, 1] B) _ _
  rw [C1_0_0_0_0_1_1]; refine Gets.ev fitU.mix fitU.cfg (fitU.sound desk_sound 12 0) 12 rfl (s' := KSt.low (S4 b0 cl w dk th ths kp sd e0 off n c k e l eg)) (x := (.exit 0)) rfl ?_
  exact hq
noncomputable def S12 (b0 : Int) (cl : Int) (w : Int) (dk : Int) (th : Int) (ths : Int) (kp : Int) (sd : Int) (e0 : TypeId) (off : Nat) (n : Nat) (c : Nat) (k : Int) (e : TypeId) (l : List Int) (eg : TypeId) : KSt := ⟨(frameL 42 [(0, (.pointer (some ⟨1, 0, none⟩))), (2, (.int .u64 b0)), (3, (.int .i64 cl)), (4, (.int .u64 w)), (6, (.pointer (some ⟨3, 0, none⟩)))]), ⟨4, 1, [(3, 0, .cells [(.int .u64 dk), (.int .i64 th), (.int .i64 ths), (.int .i64 kp), (.int .u64 sd)] 24 true), (0, 0, .cells [(.int .i64 1), (.int .i64 64), (.int .i64 1), (.int .i64 64)] e0 false), (1, 0, .cells [(.slice (some ⟨2, off, none⟩) n c), (.int .i64 (k + 1)), (.bool false), (.int .i64 0), (.int .u64 0), (.int .i64 0), (.int .u64 0), (.int .u64 0)] e true), (2, 0, .tail off .u64 l eg)]⟩⟩
noncomputable def S13 (b0 : Int) (cl : Int) (w : Int) (n1 : Int) (dk : Int) (th : Int) (ths : Int) (kp : Int) (sd : Int) (e0 : TypeId) (off : Nat) (n : Nat) (c : Nat) (k : Int) (e : TypeId) (l : List Int) (eg : TypeId) : KSt := ⟨(frameL 42 [(0, (.pointer (some ⟨1, 0, none⟩))), (2, (.int .u64 b0)), (3, (.int .i64 cl)), (4, (.int .u64 w)), (6, (.pointer (some ⟨3, 0, none⟩))), (11, (.int .u64 n1))]), ⟨4, 1, [(3, 0, .cells [(.int .u64 dk), (.int .i64 th), (.int .i64 ths), (.int .i64 kp), (.int .u64 sd)] 24 true), (0, 0, .cells [(.int .i64 1), (.int .i64 64), (.int .i64 1), (.int .i64 64)] e0 false), (1, 0, .cells [(.slice (some ⟨2, off, none⟩) n c), (.int .i64 (IntKind.wrap .i64 ((k + 1) + 1))), (.bool false), (.int .i64 0), (.int .u64 0), (.int .i64 0), (.int .u64 0), (.int .u64 0)] e true), (2, 0, .tail off .u64 l eg)]⟩⟩
noncomputable def S14 (b0 : Int) (cl : Int) (w : Int) (dk : Int) (th : Int) (ths : Int) (kp : Int) (sd : Int) (e0 : TypeId) (off : Nat) (n : Nat) (c : Nat) (k : Int) (e : TypeId) (l : List Int) (eg : TypeId) : KSt := ⟨(frameL 42 [(0, (.pointer (some ⟨1, 0, none⟩))), (2, (.int .u64 b0)), (3, (.int .i64 cl)), (4, (.int .u64 w)), (6, (.pointer (some ⟨3, 0, none⟩))), (11, (.int .u64 0))]), ⟨4, 1, [(3, 0, .cells [(.int .u64 dk), (.int .i64 th), (.int .i64 ths), (.int .i64 kp), (.int .u64 sd)] 24 true), (0, 0, .cells [(.int .i64 1), (.int .i64 64), (.int .i64 1), (.int .i64 64)] e0 false), (1, 0, .cells [(.slice (some ⟨2, off, none⟩) n c), (.int .i64 (k + 1)), (.bool true), (.int .i64 1), (.int .u64 b0), (.int .i64 cl), (.int .u64 0), (.int .u64 0)] e true), (2, 0, .tail off .u64 l eg)]⟩⟩
theorem R10 (b0 : Int) (cl : Int) (w : Int) (dk : Int) (th : Int) (ths : Int) (kp : Int) (sd : Int) (e0 : TypeId) (off : Nat) (n : Nat) (c : Nat) (k : Int) (e : TypeId) (l : List Int) (eg : TypeId) : evCK Tryd.prog cfgU (runK Tryd.prog cfgU fsU (conT deskDom deskE) 12 40) 12 (codeAt [1, 0, 0, 0, 1, 0, 1, 0] B) (S12 b0 cl w dk th ths kp sd e0 off n c k e l eg) (normC 3 [0, 2, 3, 4, 6, 11]) =
  bif (decide ((k + 1) < ((n : Nat) : Int))) then
    if 0 ≤ (IntKind.wrap .i64 ((IntKind.wrap .i64 ((k + 1) + 1)) - 1)) ∧ (IntKind.wrap .i64 ((IntKind.wrap .i64 ((k + 1) + 1)) - 1)) < ((n : Nat) : Int) then
      bif (Nat.ble off (off + ((Int.toNat ((IntKind.wrap .i64 ((IntKind.wrap .i64 ((k + 1) + 1)) - 1)))) * 1))) then
        obind (l[((off + ((Int.toNat ((IntKind.wrap .i64 ((IntKind.wrap .i64 ((k + 1) + 1)) - 1)))) * 1)) - off)]?) fun n1 =>
          some (.normal, (S13 b0 cl w n1 dk th ths kp sd e0 off n c k e l eg))
      else
        none
    else
      none
  else
    some (.normal, (S14 b0 cl w dk th ths kp sd e0 off n c k e l eg)) := by kernel_rfl
noncomputable def S15 (b0 : Int) (cl : Int) (w : Int) (dk : Int) (th : Int) (ths : Int) (kp : Int) (sd : Int) (e0 : TypeId) (off : Nat) (n : Nat) (c : Nat) (k : Int) (e : TypeId) (l : List Int) (eg : TypeId) : KSt := ⟨(frameL 42 [(0, (.pointer (some ⟨1, 0, none⟩))), (2, (.int .u64 b0)), (3, (.int .i64 cl)), (6, (.pointer (some ⟨3, 0, none⟩))), (11, (.int .u64 0)), (38, (.bool (0 == (blockR w))))]), ⟨4, 1, [(3, 0, .cells [(.int .u64 dk), (.int .i64 th), (.int .i64 ths), (.int .i64 kp), (.int .u64 sd)] 24 true), (0, 0, .cells [(.int .i64 1), (.int .i64 64), (.int .i64 1), (.int .i64 64)] e0 false), (1, 0, .cells [(.slice (some ⟨2, off, none⟩) n c), (.int .i64 (k + 1)), (.bool true), (.int .i64 1), (.int .u64 b0), (.int .i64 cl), (.int .u64 0), (.int .u64 0)] e true), (2, 0, .tail off .u64 l eg)]⟩⟩
theorem R11 (b0 : Int) (cl : Int) (w : Int) (dk : Int) (th : Int) (ths : Int) (kp : Int) (sd : Int) (e0 : TypeId) (off : Nat) (n : Nat) (c : Nat) (k : Int) (e : TypeId) (l : List Int) (eg : TypeId) : evCK Tryd.prog cfgU (runK Tryd.prog cfgU fsU (conT deskDom deskE) 12 40) 12 (codeAt [1, 0, 0, 0, 1, 0, 1, 1, 0, 0] B) (S14 b0 cl w dk th ths kp sd e0 off n c k e l eg) (normC 3 [0, 2, 3, 6, 11, 38]) =
  some (.normal, (S15 b0 cl w dk th ths kp sd e0 off n c k e l eg)) := by kernel_rfl
noncomputable def S16 (e0 : TypeId) (off : Nat) (n : Nat) (c : Nat) (k : Int) (b0 : Int) (cl : Int) (e : TypeId) (l : List Int) (eg : TypeId) : KSt := ⟨(frameL 42 [(10, (.int .u64 0))]), ⟨3, 1, [(0, 0, .cells [(.int .i64 1), (.int .i64 64), (.int .i64 1), (.int .i64 64)] e0 false), (1, 0, .cells [(.slice (some ⟨2, off, none⟩) n c), (.int .i64 (k + 1)), (.bool true), (.int .i64 1), (.int .u64 b0), (.int .i64 cl), (.int .u64 0), (.int .u64 0)] e true), (2, 0, .tail off .u64 l eg)]⟩⟩
theorem R12 (b0 : Int) (cl : Int) (w : Int) (dk : Int) (th : Int) (ths : Int) (kp : Int) (sd : Int) (e0 : TypeId) (off : Nat) (n : Nat) (c : Nat) (k : Int) (e : TypeId) (l : List Int) (eg : TypeId) : evCK Tryd.prog cfgU (runK Tryd.prog cfgU fsU (conT deskDom deskE) 12 40) 12 (codeAt [1, 0, 0, 0, 1, 0, 1, 1, 0, 1, 0, 0] B) (S15 b0 cl w dk th ths kp sd e0 off n c k e l eg) (normC 3 [10]) =
  some (.normal, (S16 e0 off n c k b0 cl e l eg)) := by kernel_rfl
theorem b_4 (dk th ths kp sd b0 cl w k : Int) (off n c : Nat) (l : List Int) (e0 e eg : TypeId) (hl : l.length = n) (hn : n ≤ 9223372036854775807) (hk : 0 ≤ k) (h0 : k + 1 = (n : Int))  (q1 : (freshR w) = true) (q2 : (0 == (blockR w)) = true) {Q : Ex → St → Prop} (hq : Q .ret (KSt.low (S16 e0 off n c k b0 cl e l eg))) : Gets Tryd.prog (KH.low ⟨3, 1, [(0, 0, .cells [(.int .i64 1), (.int .i64 64), (.int .i64 1), (.int .i64 64)] e0 false), (1, 0, .cells [(.slice (some ⟨2, off, none⟩) n c), (.int .i64 0), (.bool false), (.int .i64 0), (.int .u64 0), (.int .i64 0), (.int .u64 0), (.int .u64 0)] e true), (2, 0, .tail off .u64 l eg)]⟩) (codeAt [1, 0, 0, 0] B) (KSt.low (S2 b0 cl w dk th ths kp sd e0 off n c k e l eg)) Q := by
  rw [C1_0_0_0]; refine Gets.seq ?_
  rw [C1_0_0_0_0]; refine Gets.seq ?_
  refine Gets.ofN fitU desk_sound (conT_agree _ _) 12 40 (by kernel_rfl) (x := .normal) (s' := (S3 b0 cl w dk th ths kp sd e0 off n c k e l eg)) ((R2 b0 cl w dk th ths kp sd e0 off n c k e l eg).trans (by rw [condT (q1)])) ?_
  show Gets _ _ (codeAt [1, 0, 0, 0, 0, 1] B) _ _
  rw [C1_0_0_0_0_1]; refine Gets.cond true (by kernel_rfl) (show evalX (KSt.ts (S3 b0 cl w dk th ths kp sd e0 off n c k e l eg)) (.tmp 20) = .bool true by kernel_rfl) ?_; show Gets _ _ (codeAt [1, 0, 0, 0, 0, 1, 0] B) _ _
  refine Gets.ofN fitU desk_sound (conT_agree _ _) 12 40 (by kernel_rfl) (x := .normal) (s' := (S2 b0 cl w dk th ths kp sd e0 off n c k e l eg)) (R3 b0 cl w dk th ths kp sd e0 off n c k e l eg) ?_
  show Gets _ _ (codeAt [1, 0, 0, 0, 1] B) _ _
  rw [C1_0_0_0_1]; refine Gets.block ?_
  rw [C1_0_0_0_1_0]; refine Gets.seq ?_
  refine Gets.ofN fitU desk_sound (conT_agree _ _) 12 40 (by kernel_rfl) (x := .normal) (s' := (S12 b0 cl w dk th ths kp sd e0 off n c k e l eg)) ((R4 b0 cl w dk th ths kp sd e0 off n c k e l eg).trans (by rw [condT (decide_eq_true (by omega)), if_pos (⟨by ((try simp (disch := omega) only [wrap_i64_id]) <;> omega), by ((try simp (disch := omega) only [wrap_i64_id]) <;> omega)⟩), condT (ble_t (by omega)), obind_at (k := ((Int.toNat (IntKind.wrap .i64 ((IntKind.wrap .i64 (k + 1)) - 1))) * 1)) (by ((try simp (disch := omega) only [wrap_i64_id]) <;> omega)) (by ((try simp (disch := omega) only [wrap_i64_id]) <;> omega))] <;> (show some (Ex.normal, (S5 b0 cl w dk th ths kp sd e0 off n c k e l eg)) = some (Ex.normal, (S12 b0 cl w dk th ths kp sd e0 off n c k e l eg)); unfold S5 S12; rw [(show (IntKind.wrap .i64 (k + 1)) = (k + 1) from wrap_i64_id (by omega) (by omega))]))) ?_
  show Gets _ _ (codeAt [1, 0, 0, 0, 1, 0, 1] B) _ _
  rw [C1_0_0_0_1_0_1]; refine Gets.seq ?_
  refine Gets.ofN fitU desk_sound (conT_agree _ _) 12 40 (by kernel_rfl) (x := .normal) (s' := (S14 b0 cl w dk th ths kp sd e0 off n c k e l eg)) ((R10 b0 cl w dk th ths kp sd e0 off n c k e l eg).trans (by rw [condF (decide_eq_false (by omega))])) ?_
  show Gets _ _ (codeAt [1, 0, 0, 0, 1, 0, 1, 1] B) _ _
  rw [C1_0_0_0_1_0_1_1]; refine Gets.seq ?_
  rw [C1_0_0_0_1_0_1_1_0]; refine Gets.seq ?_
  refine Gets.ofN fitU desk_sound (conT_agree _ _) 12 40 (by kernel_rfl) (x := .normal) (s' := (S15 b0 cl w dk th ths kp sd e0 off n c k e l eg)) (R11 b0 cl w dk th ths kp sd e0 off n c k e l eg) ?_
  show Gets _ _ (codeAt [1, 0, 0, 0, 1, 0, 1, 1, 0, 1] B) _ _
  rw [C1_0_0_0_1_0_1_1_0_1]; refine Gets.cond true (by kernel_rfl) ((show evalX (KSt.ts (S15 b0 cl w dk th ths kp sd e0 off n c k e l eg)) (.tmp 38) = .bool (0 == (blockR w)) by kernel_rfl).trans (by rw [(show (0 == (blockR w)) = true from q2)])) ?_; show Gets _ _ (codeAt [1, 0, 0, 0, 1, 0, 1, 1, 0, 1, 0] B) _ _
  rw [C1_0_0_0_1_0_1_1_0_1_0]; refine Gets.seq ?_
  refine Gets.ofN fitU desk_sound (conT_agree _ _) 12 40 (by kernel_rfl) (x := .normal) (s' := (S16 e0 off n c k b0 cl e l eg)) (R12 b0 cl w dk th ths kp sd e0 off n c k e l eg) ?_
  show Gets _ _ (codeAt [1, 0, 0, 0, 1, 0, 1, 1, 0, 1, 0, 1] B) _ _
  rw [C1_0_0_0_1_0_1_1_0_1_0_1]; refine Gets.ev fitU.mix fitU.cfg (fitU.sound desk_sound 12 0) 12 rfl (s' := KSt.low (S16 e0 off n c k b0 cl e l eg)) (x := .ret) rfl ?_
  exact hq
noncomputable def S17 (b0 : Int) (cl : Int) (dk : Int) (th : Int) (ths : Int) (kp : Int) (sd : Int) (e0 : TypeId) (off : Nat) (n : Nat) (c : Nat) (k : Int) (e : TypeId) (l : List Int) (eg : TypeId) : KSt := ⟨(frameL 42 [(0, (.pointer (some ⟨1, 0, none⟩))), (2, (.int .u64 b0)), (3, (.int .i64 cl)), (6, (.pointer (some ⟨3, 0, none⟩))), (11, (.int .u64 0))]), ⟨4, 1, [(3, 0, .cells [(.int .u64 dk), (.int .i64 th), (.int .i64 ths), (.int .i64 kp), (.int .u64 sd)] 24 true), (0, 0, .cells [(.int .i64 1), (.int .i64 64), (.int .i64 1), (.int .i64 64)] e0 false), (1, 0, .cells [(.slice (some ⟨2, off, none⟩) n c), (.int .i64 (k + 1)), (.bool true), (.int .i64 1), (.int .u64 b0), (.int .i64 cl), (.int .u64 0), (.int .u64 0)] e true), (2, 0, .tail off .u64 l eg)]⟩⟩
theorem R13 (b0 : Int) (cl : Int) (w : Int) (dk : Int) (th : Int) (ths : Int) (kp : Int) (sd : Int) (e0 : TypeId) (off : Nat) (n : Nat) (c : Nat) (k : Int) (e : TypeId) (l : List Int) (eg : TypeId) : evCK Tryd.prog cfgU (runK Tryd.prog cfgU fsU (conT deskDom deskE) 12 40) 12 (codeAt [1, 0, 0, 0, 1, 0, 1, 1, 0, 1, 1] B) (S15 b0 cl w dk th ths kp sd e0 off n c k e l eg) (normC 3 [0, 2, 3, 6, 11]) =
  some (.normal, (S17 b0 cl dk th ths kp sd e0 off n c k e l eg)) := by kernel_rfl
noncomputable def S18 (b0 : Int) (cl : Int) (dk : Int) (th : Int) (ths : Int) (kp : Int) (sd : Int) (e0 : TypeId) (off : Nat) (n : Nat) (c : Nat) (k : Int) (e : TypeId) (l : List Int) (eg : TypeId) : KSt := ⟨(frameL 42 [(0, (.pointer (some ⟨1, 0, none⟩))), (2, (.int .u64 b0)), (3, (.int .i64 cl)), (4, (.int .u64 0)), (6, (.pointer (some ⟨3, 0, none⟩)))]), ⟨4, 1, [(3, 0, .cells [(.int .u64 dk), (.int .i64 th), (.int .i64 ths), (.int .i64 kp), (.int .u64 sd)] 24 true), (0, 0, .cells [(.int .i64 1), (.int .i64 64), (.int .i64 1), (.int .i64 64)] e0 false), (1, 0, .cells [(.slice (some ⟨2, off, none⟩) n c), (.int .i64 (k + 1)), (.bool true), (.int .i64 1), (.int .u64 b0), (.int .i64 cl), (.int .u64 0), (.int .u64 0)] e true), (2, 0, .tail off .u64 l eg)]⟩⟩
theorem R14 (b0 : Int) (cl : Int) (dk : Int) (th : Int) (ths : Int) (kp : Int) (sd : Int) (e0 : TypeId) (off : Nat) (n : Nat) (c : Nat) (k : Int) (e : TypeId) (l : List Int) (eg : TypeId) : evCK Tryd.prog cfgU (runK Tryd.prog cfgU fsU (conT deskDom deskE) 12 40) 12 (codeAt [1, 0, 0, 0, 1, 0, 1, 1, 1] B) (S17 b0 cl dk th ths kp sd e0 off n c k e l eg) (normC 3 [0, 2, 3, 4, 6]) =
  some (.normal, (S18 b0 cl dk th ths kp sd e0 off n c k e l eg)) := by kernel_rfl
theorem b_5 (dk th ths kp sd b0 cl w k : Int) (off n c : Nat) (l : List Int) (e0 e eg : TypeId) (hl : l.length = n) (hn : n ≤ 9223372036854775807) (hk : 0 ≤ k) (h0 : k + 1 = (n : Int))  (q1 : (freshR w) = true) (q2 : (0 == (blockR w)) = false) {Q : Ex → St → Prop} (hq : Q .normal (KSt.low (S18 b0 cl dk th ths kp sd e0 off n c k e l eg))) : Gets Tryd.prog (KH.low ⟨3, 1, [(0, 0, .cells [(.int .i64 1), (.int .i64 64), (.int .i64 1), (.int .i64 64)] e0 false), (1, 0, .cells [(.slice (some ⟨2, off, none⟩) n c), (.int .i64 0), (.bool false), (.int .i64 0), (.int .u64 0), (.int .i64 0), (.int .u64 0), (.int .u64 0)] e true), (2, 0, .tail off .u64 l eg)]⟩) (codeAt [1, 0, 0, 0] B) (KSt.low (S2 b0 cl w dk th ths kp sd e0 off n c k e l eg)) Q := by
  rw [C1_0_0_0]; refine Gets.seq ?_
  rw [C1_0_0_0_0]; refine Gets.seq ?_
  refine Gets.ofN fitU desk_sound (conT_agree _ _) 12 40 (by kernel_rfl) (x := .normal) (s' := (S3 b0 cl w dk th ths kp sd e0 off n c k e l eg)) ((R2 b0 cl w dk th ths kp sd e0 off n c k e l eg).trans (by rw [condT (q1)])) ?_
  show Gets _ _ (codeAt [1, 0, 0, 0, 0, 1] B) _ _
  rw [C1_0_0_0_0_1]; refine Gets.cond true (by kernel_rfl) (show evalX (KSt.ts (S3 b0 cl w dk th ths kp sd e0 off n c k e l eg)) (.tmp 20) = .bool true by kernel_rfl) ?_; show Gets _ _ (codeAt [1, 0, 0, 0, 0, 1, 0] B) _ _
  refine Gets.ofN fitU desk_sound (conT_agree _ _) 12 40 (by kernel_rfl) (x := .normal) (s' := (S2 b0 cl w dk th ths kp sd e0 off n c k e l eg)) (R3 b0 cl w dk th ths kp sd e0 off n c k e l eg) ?_
  show Gets _ _ (codeAt [1, 0, 0, 0, 1] B) _ _
  rw [C1_0_0_0_1]; refine Gets.block ?_
  rw [C1_0_0_0_1_0]; refine Gets.seq ?_
  refine Gets.ofN fitU desk_sound (conT_agree _ _) 12 40 (by kernel_rfl) (x := .normal) (s' := (S12 b0 cl w dk th ths kp sd e0 off n c k e l eg)) ((R4 b0 cl w dk th ths kp sd e0 off n c k e l eg).trans (by rw [condT (decide_eq_true (by omega)), if_pos (⟨by ((try simp (disch := omega) only [wrap_i64_id]) <;> omega), by ((try simp (disch := omega) only [wrap_i64_id]) <;> omega)⟩), condT (ble_t (by omega)), obind_at (k := ((Int.toNat (IntKind.wrap .i64 ((IntKind.wrap .i64 (k + 1)) - 1))) * 1)) (by ((try simp (disch := omega) only [wrap_i64_id]) <;> omega)) (by ((try simp (disch := omega) only [wrap_i64_id]) <;> omega))] <;> (show some (Ex.normal, (S5 b0 cl w dk th ths kp sd e0 off n c k e l eg)) = some (Ex.normal, (S12 b0 cl w dk th ths kp sd e0 off n c k e l eg)); unfold S5 S12; rw [(show (IntKind.wrap .i64 (k + 1)) = (k + 1) from wrap_i64_id (by omega) (by omega))]))) ?_
  show Gets _ _ (codeAt [1, 0, 0, 0, 1, 0, 1] B) _ _
  rw [C1_0_0_0_1_0_1]; refine Gets.seq ?_
  refine Gets.ofN fitU desk_sound (conT_agree _ _) 12 40 (by kernel_rfl) (x := .normal) (s' := (S14 b0 cl w dk th ths kp sd e0 off n c k e l eg)) ((R10 b0 cl w dk th ths kp sd e0 off n c k e l eg).trans (by rw [condF (decide_eq_false (by omega))])) ?_
  show Gets _ _ (codeAt [1, 0, 0, 0, 1, 0, 1, 1] B) _ _
  rw [C1_0_0_0_1_0_1_1]; refine Gets.seq ?_
  rw [C1_0_0_0_1_0_1_1_0]; refine Gets.seq ?_
  refine Gets.ofN fitU desk_sound (conT_agree _ _) 12 40 (by kernel_rfl) (x := .normal) (s' := (S15 b0 cl w dk th ths kp sd e0 off n c k e l eg)) (R11 b0 cl w dk th ths kp sd e0 off n c k e l eg) ?_
  show Gets _ _ (codeAt [1, 0, 0, 0, 1, 0, 1, 1, 0, 1] B) _ _
  rw [C1_0_0_0_1_0_1_1_0_1]; refine Gets.cond false (by kernel_rfl) ((show evalX (KSt.ts (S15 b0 cl w dk th ths kp sd e0 off n c k e l eg)) (.tmp 38) = .bool (0 == (blockR w)) by kernel_rfl).trans (by rw [(show (0 == (blockR w)) = false from q2)])) ?_; show Gets _ _ (codeAt [1, 0, 0, 0, 1, 0, 1, 1, 0, 1, 1] B) _ _
  refine Gets.ofN fitU desk_sound (conT_agree _ _) 12 40 (by kernel_rfl) (x := .normal) (s' := (S17 b0 cl dk th ths kp sd e0 off n c k e l eg)) (R13 b0 cl w dk th ths kp sd e0 off n c k e l eg) ?_
  show Gets _ _ (codeAt [1, 0, 0, 0, 1, 0, 1, 1, 1] B) _ _
  refine Gets.ofN fitU desk_sound (conT_agree _ _) 12 40 (by kernel_rfl) (x := .normal) (s' := (S18 b0 cl dk th ths kp sd e0 off n c k e l eg)) (R14 b0 cl dk th ths kp sd e0 off n c k e l eg) ?_
  exact hq
theorem b_6 (dk th ths kp sd b0 cl w k : Int) (off n c : Nat) (l : List Int) (e0 e eg : TypeId) (hl : l.length = n) (hn : n ≤ 9223372036854775807) (hk : 0 ≤ k) (h0 : k + 1 = (n : Int))  (q1 : (freshR w) = false) {Q : Ex → St → Prop} (hq : Q (.exit 0) (KSt.low (S4 b0 cl w dk th ths kp sd e0 off n c k e l eg))) : Gets Tryd.prog (KH.low ⟨3, 1, [(0, 0, .cells [(.int .i64 1), (.int .i64 64), (.int .i64 1), (.int .i64 64)] e0 false), (1, 0, .cells [(.slice (some ⟨2, off, none⟩) n c), (.int .i64 0), (.bool false), (.int .i64 0), (.int .u64 0), (.int .i64 0), (.int .u64 0), (.int .u64 0)] e true), (2, 0, .tail off .u64 l eg)]⟩) (codeAt [1, 0, 0, 0] B) (KSt.low (S2 b0 cl w dk th ths kp sd e0 off n c k e l eg)) Q := by
  rw [C1_0_0_0]; refine Gets.seq ?_
  rw [C1_0_0_0_0]; refine Gets.seq ?_
  refine Gets.ofN fitU desk_sound (conT_agree _ _) 12 40 (by kernel_rfl) (x := .normal) (s' := (S4 b0 cl w dk th ths kp sd e0 off n c k e l eg)) ((R2 b0 cl w dk th ths kp sd e0 off n c k e l eg).trans (by rw [condF (q1)])) ?_
  show Gets _ _ (codeAt [1, 0, 0, 0, 0, 1] B) _ _
  rw [C1_0_0_0_0_1]; refine Gets.cond false (by kernel_rfl) (show evalX (KSt.ts (S4 b0 cl w dk th ths kp sd e0 off n c k e l eg)) (.tmp 20) = .bool false by kernel_rfl) ?_; show Gets _ _ (codeAt [1, 0, 0, 0, 0, 1, 1] B) _ _
  rw [C1_0_0_0_0_1_1]; refine Gets.ev fitU.mix fitU.cfg (fitU.sound desk_sound 12 0) 12 rfl (s' := KSt.low (S4 b0 cl w dk th ths kp sd e0 off n c k e l eg)) (x := (.exit 0)) rfl ?_
  exact hq
noncomputable def S19 (b0 : Int) (cl : Int) (w : Int) (l : List Int) (k : Int) (dk : Int) (th : Int) (ths : Int) (kp : Int) (sd : Int) (e0 : TypeId) (off : Nat) (n : Nat) (c : Nat) (e : TypeId) (eg : TypeId) : KSt := ⟨(frameL 42 [(0, (.pointer (some ⟨1, 0, none⟩))), (2, (.int .u64 b0)), (3, (.int .i64 cl)), (4, (.int .u64 w)), (6, (.pointer (some ⟨3, 0, none⟩))), (11, (.int .u64 (l.getD (Int.toNat (k + 1)) 0)))]), ⟨4, 1, [(3, 0, .cells [(.int .u64 dk), (.int .i64 th), (.int .i64 ths), (.int .i64 kp), (.int .u64 sd)] 24 true), (0, 0, .cells [(.int .i64 1), (.int .i64 64), (.int .i64 1), (.int .i64 64)] e0 false), (1, 0, .cells [(.slice (some ⟨2, off, none⟩) n c), (.int .i64 ((k + 1) + 1)), (.bool false), (.int .i64 0), (.int .u64 0), (.int .i64 0), (.int .u64 0), (.int .u64 0)] e true), (2, 0, .tail off .u64 l eg)]⟩⟩
noncomputable def S20 (b0 : Int) (cl : Int) (w : Int) (l : List Int) (k : Int) (dk : Int) (th : Int) (ths : Int) (kp : Int) (sd : Int) (e0 : TypeId) (off : Nat) (n : Nat) (c : Nat) (e : TypeId) (eg : TypeId) : KSt := ⟨(frameL 42 [(0, (.pointer (some ⟨1, 0, none⟩))), (2, (.int .u64 b0)), (3, (.int .i64 cl)), (4, (.int .u64 w)), (6, (.pointer (some ⟨3, 0, none⟩))), (11, (.int .u64 (l.getD ((Int.toNat (IntKind.wrap .i64 ((IntKind.wrap .i64 ((k + 1) + 1)) - 1))) * 1) 0)))]), ⟨4, 1, [(3, 0, .cells [(.int .u64 dk), (.int .i64 th), (.int .i64 ths), (.int .i64 kp), (.int .u64 sd)] 24 true), (0, 0, .cells [(.int .i64 1), (.int .i64 64), (.int .i64 1), (.int .i64 64)] e0 false), (1, 0, .cells [(.slice (some ⟨2, off, none⟩) n c), (.int .i64 (IntKind.wrap .i64 ((k + 1) + 1))), (.bool false), (.int .i64 0), (.int .u64 0), (.int .i64 0), (.int .u64 0), (.int .u64 0)] e true), (2, 0, .tail off .u64 l eg)]⟩⟩
noncomputable def S21 (b0 : Int) (cl : Int) (l : List Int) (k : Int) (w : Int) (dk : Int) (th : Int) (ths : Int) (kp : Int) (sd : Int) (e0 : TypeId) (off : Nat) (n : Nat) (c : Nat) (e : TypeId) (eg : TypeId) : KSt := ⟨(frameL 42 [(0, (.pointer (some ⟨1, 0, none⟩))), (2, (.int .u64 b0)), (3, (.int .i64 cl)), (6, (.pointer (some ⟨3, 0, none⟩))), (11, (.int .u64 (l.getD (Int.toNat (k + 1)) 0))), (38, (.bool ((blockR ((l.getD (Int.toNat (k + 1)) 0))) == (blockR w))))]), ⟨4, 1, [(3, 0, .cells [(.int .u64 dk), (.int .i64 th), (.int .i64 ths), (.int .i64 kp), (.int .u64 sd)] 24 true), (0, 0, .cells [(.int .i64 1), (.int .i64 64), (.int .i64 1), (.int .i64 64)] e0 false), (1, 0, .cells [(.slice (some ⟨2, off, none⟩) n c), (.int .i64 ((k + 1) + 1)), (.bool false), (.int .i64 0), (.int .u64 0), (.int .i64 0), (.int .u64 0), (.int .u64 0)] e true), (2, 0, .tail off .u64 l eg)]⟩⟩
theorem R15 (b0 : Int) (cl : Int) (w : Int) (l : List Int) (k : Int) (dk : Int) (th : Int) (ths : Int) (kp : Int) (sd : Int) (e0 : TypeId) (off : Nat) (n : Nat) (c : Nat) (e : TypeId) (eg : TypeId) : evCK Tryd.prog cfgU (runK Tryd.prog cfgU fsU (conT deskDom deskE) 12 40) 12 (codeAt [1, 0, 0, 0, 1, 0, 1, 1, 0, 0] B) (S19 b0 cl w l k dk th ths kp sd e0 off n c e eg) (normC 3 [0, 2, 3, 6, 11, 38]) =
  some (.normal, (S21 b0 cl l k w dk th ths kp sd e0 off n c e eg)) := by kernel_rfl
noncomputable def S22 (l : List Int) (k : Int) (e0 : TypeId) (off : Nat) (n : Nat) (c : Nat) (e : TypeId) (eg : TypeId) : KSt := ⟨(frameL 42 [(10, (.int .u64 (l.getD (Int.toNat (k + 1)) 0)))]), ⟨3, 1, [(0, 0, .cells [(.int .i64 1), (.int .i64 64), (.int .i64 1), (.int .i64 64)] e0 false), (1, 0, .cells [(.slice (some ⟨2, off, none⟩) n c), (.int .i64 ((k + 1) + 1)), (.bool false), (.int .i64 0), (.int .u64 0), (.int .i64 0), (.int .u64 0), (.int .u64 0)] e true), (2, 0, .tail off .u64 l eg)]⟩⟩
theorem R16 (b0 : Int) (cl : Int) (l : List Int) (k : Int) (w : Int) (dk : Int) (th : Int) (ths : Int) (kp : Int) (sd : Int) (e0 : TypeId) (off : Nat) (n : Nat) (c : Nat) (e : TypeId) (eg : TypeId) : evCK Tryd.prog cfgU (runK Tryd.prog cfgU fsU (conT deskDom deskE) 12 40) 12 (codeAt [1, 0, 0, 0, 1, 0, 1, 1, 0, 1, 0, 0] B) (S21 b0 cl l k w dk th ths kp sd e0 off n c e eg) (normC 3 [10]) =
  some (.normal, (S22 l k e0 off n c e eg)) := by kernel_rfl
theorem c_7 (dk th ths kp sd b0 cl w k : Int) (off n c : Nat) (l : List Int) (e0 e eg : TypeId) (hl : l.length = n) (hn : n ≤ 9223372036854775807) (hk : 0 ≤ k) (h0 : k + 2 ≤ (n : Int))  (q1 : (freshR w) = true) (q2 : ((blockR ((l.getD (Int.toNat (k + 1)) 0))) == (blockR w)) = true) {Q : Ex → St → Prop} (hq : Q .ret (KSt.low (S22 l k e0 off n c e eg))) : Gets Tryd.prog (KH.low ⟨3, 1, [(0, 0, .cells [(.int .i64 1), (.int .i64 64), (.int .i64 1), (.int .i64 64)] e0 false), (1, 0, .cells [(.slice (some ⟨2, off, none⟩) n c), (.int .i64 0), (.bool false), (.int .i64 0), (.int .u64 0), (.int .i64 0), (.int .u64 0), (.int .u64 0)] e true), (2, 0, .tail off .u64 l eg)]⟩) (codeAt [1, 0, 0, 0] B) (KSt.low (S2 b0 cl w dk th ths kp sd e0 off n c k e l eg)) Q := by
  rw [C1_0_0_0]; refine Gets.seq ?_
  rw [C1_0_0_0_0]; refine Gets.seq ?_
  refine Gets.ofN fitU desk_sound (conT_agree _ _) 12 40 (by kernel_rfl) (x := .normal) (s' := (S3 b0 cl w dk th ths kp sd e0 off n c k e l eg)) ((R2 b0 cl w dk th ths kp sd e0 off n c k e l eg).trans (by rw [condT (q1)])) ?_
  show Gets _ _ (codeAt [1, 0, 0, 0, 0, 1] B) _ _
  rw [C1_0_0_0_0_1]; refine Gets.cond true (by kernel_rfl) (show evalX (KSt.ts (S3 b0 cl w dk th ths kp sd e0 off n c k e l eg)) (.tmp 20) = .bool true by kernel_rfl) ?_; show Gets _ _ (codeAt [1, 0, 0, 0, 0, 1, 0] B) _ _
  refine Gets.ofN fitU desk_sound (conT_agree _ _) 12 40 (by kernel_rfl) (x := .normal) (s' := (S2 b0 cl w dk th ths kp sd e0 off n c k e l eg)) (R3 b0 cl w dk th ths kp sd e0 off n c k e l eg) ?_
  show Gets _ _ (codeAt [1, 0, 0, 0, 1] B) _ _
  rw [C1_0_0_0_1]; refine Gets.block ?_
  rw [C1_0_0_0_1_0]; refine Gets.seq ?_
  refine Gets.ofN fitU desk_sound (conT_agree _ _) 12 40 (by kernel_rfl) (x := .normal) (s' := (S12 b0 cl w dk th ths kp sd e0 off n c k e l eg)) ((R4 b0 cl w dk th ths kp sd e0 off n c k e l eg).trans (by rw [condT (decide_eq_true (by omega)), if_pos (⟨by ((try simp (disch := omega) only [wrap_i64_id]) <;> omega), by ((try simp (disch := omega) only [wrap_i64_id]) <;> omega)⟩), condT (ble_t (by omega)), obind_at (k := ((Int.toNat (IntKind.wrap .i64 ((IntKind.wrap .i64 (k + 1)) - 1))) * 1)) (by ((try simp (disch := omega) only [wrap_i64_id]) <;> omega)) (by ((try simp (disch := omega) only [wrap_i64_id]) <;> omega))] <;> (show some (Ex.normal, (S5 b0 cl w dk th ths kp sd e0 off n c k e l eg)) = some (Ex.normal, (S12 b0 cl w dk th ths kp sd e0 off n c k e l eg)); unfold S5 S12; rw [(show (IntKind.wrap .i64 (k + 1)) = (k + 1) from wrap_i64_id (by omega) (by omega))]))) ?_
  show Gets _ _ (codeAt [1, 0, 0, 0, 1, 0, 1] B) _ _
  rw [C1_0_0_0_1_0_1]; refine Gets.seq ?_
  refine Gets.ofN fitU desk_sound (conT_agree _ _) 12 40 (by kernel_rfl) (x := .normal) (s' := (S19 b0 cl w l k dk th ths kp sd e0 off n c e eg)) ((R10 b0 cl w dk th ths kp sd e0 off n c k e l eg).trans (by rw [condT (decide_eq_true (by omega)), if_pos (⟨by ((try simp (disch := omega) only [wrap_i64_id]) <;> omega), by ((try simp (disch := omega) only [wrap_i64_id]) <;> omega)⟩), condT (ble_t (by omega)), obind_at (k := ((Int.toNat (IntKind.wrap .i64 ((IntKind.wrap .i64 ((k + 1) + 1)) - 1))) * 1)) (by ((try simp (disch := omega) only [wrap_i64_id]) <;> omega)) (by ((try simp (disch := omega) only [wrap_i64_id]) <;> omega))] <;> (show some (Ex.normal, (S20 b0 cl w l k dk th ths kp sd e0 off n c e eg)) = some (Ex.normal, (S19 b0 cl w l k dk th ths kp sd e0 off n c e eg)); unfold S20 S19; rw [(show (IntKind.wrap .i64 ((k + 1) + 1)) = ((k + 1) + 1) from wrap_i64_id (by omega) (by omega)), (show (IntKind.wrap .i64 (((k + 1) + 1) - 1)) = (((k + 1) + 1) - 1) from wrap_i64_id (by omega) (by omega)), (show ((Int.toNat (((k + 1) + 1) - 1)) * 1) = (Int.toNat (k + 1)) from by omega)]))) ?_
  show Gets _ _ (codeAt [1, 0, 0, 0, 1, 0, 1, 1] B) _ _
  rw [C1_0_0_0_1_0_1_1]; refine Gets.seq ?_
  rw [C1_0_0_0_1_0_1_1_0]; refine Gets.seq ?_
  refine Gets.ofN fitU desk_sound (conT_agree _ _) 12 40 (by kernel_rfl) (x := .normal) (s' := (S21 b0 cl l k w dk th ths kp sd e0 off n c e eg)) (R15 b0 cl w l k dk th ths kp sd e0 off n c e eg) ?_
  show Gets _ _ (codeAt [1, 0, 0, 0, 1, 0, 1, 1, 0, 1] B) _ _
  rw [C1_0_0_0_1_0_1_1_0_1]; refine Gets.cond true (by kernel_rfl) ((show evalX (KSt.ts (S21 b0 cl l k w dk th ths kp sd e0 off n c e eg)) (.tmp 38) = .bool ((blockR ((l.getD (Int.toNat (k + 1)) 0))) == (blockR w)) by kernel_rfl).trans (by rw [(show ((blockR ((l.getD (Int.toNat (k + 1)) 0))) == (blockR w)) = true from q2)])) ?_; show Gets _ _ (codeAt [1, 0, 0, 0, 1, 0, 1, 1, 0, 1, 0] B) _ _
  rw [C1_0_0_0_1_0_1_1_0_1_0]; refine Gets.seq ?_
  refine Gets.ofN fitU desk_sound (conT_agree _ _) 12 40 (by kernel_rfl) (x := .normal) (s' := (S22 l k e0 off n c e eg)) (R16 b0 cl l k w dk th ths kp sd e0 off n c e eg) ?_
  show Gets _ _ (codeAt [1, 0, 0, 0, 1, 0, 1, 1, 0, 1, 0, 1] B) _ _
  rw [C1_0_0_0_1_0_1_1_0_1_0_1]; refine Gets.ev fitU.mix fitU.cfg (fitU.sound desk_sound 12 0) 12 rfl (s' := KSt.low (S22 l k e0 off n c e eg)) (x := .ret) rfl ?_
  exact hq
noncomputable def S23 (b0 : Int) (cl : Int) (l : List Int) (k : Int) (dk : Int) (th : Int) (ths : Int) (kp : Int) (sd : Int) (e0 : TypeId) (off : Nat) (n : Nat) (c : Nat) (e : TypeId) (eg : TypeId) : KSt := ⟨(frameL 42 [(0, (.pointer (some ⟨1, 0, none⟩))), (2, (.int .u64 b0)), (3, (.int .i64 cl)), (6, (.pointer (some ⟨3, 0, none⟩))), (11, (.int .u64 (l.getD (Int.toNat (k + 1)) 0)))]), ⟨4, 1, [(3, 0, .cells [(.int .u64 dk), (.int .i64 th), (.int .i64 ths), (.int .i64 kp), (.int .u64 sd)] 24 true), (0, 0, .cells [(.int .i64 1), (.int .i64 64), (.int .i64 1), (.int .i64 64)] e0 false), (1, 0, .cells [(.slice (some ⟨2, off, none⟩) n c), (.int .i64 ((k + 1) + 1)), (.bool false), (.int .i64 0), (.int .u64 0), (.int .i64 0), (.int .u64 0), (.int .u64 0)] e true), (2, 0, .tail off .u64 l eg)]⟩⟩
theorem R17 (b0 : Int) (cl : Int) (l : List Int) (k : Int) (w : Int) (dk : Int) (th : Int) (ths : Int) (kp : Int) (sd : Int) (e0 : TypeId) (off : Nat) (n : Nat) (c : Nat) (e : TypeId) (eg : TypeId) : evCK Tryd.prog cfgU (runK Tryd.prog cfgU fsU (conT deskDom deskE) 12 40) 12 (codeAt [1, 0, 0, 0, 1, 0, 1, 1, 0, 1, 1] B) (S21 b0 cl l k w dk th ths kp sd e0 off n c e eg) (normC 3 [0, 2, 3, 6, 11]) =
  some (.normal, (S23 b0 cl l k dk th ths kp sd e0 off n c e eg)) := by kernel_rfl
noncomputable def S24 (b0 : Int) (cl : Int) (l : List Int) (k : Int) (dk : Int) (th : Int) (ths : Int) (kp : Int) (sd : Int) (e0 : TypeId) (off : Nat) (n : Nat) (c : Nat) (e : TypeId) (eg : TypeId) : KSt := ⟨(frameL 42 [(0, (.pointer (some ⟨1, 0, none⟩))), (2, (.int .u64 b0)), (3, (.int .i64 cl)), (4, (.int .u64 (l.getD (Int.toNat (k + 1)) 0))), (6, (.pointer (some ⟨3, 0, none⟩)))]), ⟨4, 1, [(3, 0, .cells [(.int .u64 dk), (.int .i64 th), (.int .i64 ths), (.int .i64 kp), (.int .u64 sd)] 24 true), (0, 0, .cells [(.int .i64 1), (.int .i64 64), (.int .i64 1), (.int .i64 64)] e0 false), (1, 0, .cells [(.slice (some ⟨2, off, none⟩) n c), (.int .i64 ((k + 1) + 1)), (.bool false), (.int .i64 0), (.int .u64 0), (.int .i64 0), (.int .u64 0), (.int .u64 0)] e true), (2, 0, .tail off .u64 l eg)]⟩⟩
theorem R18 (b0 : Int) (cl : Int) (l : List Int) (k : Int) (dk : Int) (th : Int) (ths : Int) (kp : Int) (sd : Int) (e0 : TypeId) (off : Nat) (n : Nat) (c : Nat) (e : TypeId) (eg : TypeId) : evCK Tryd.prog cfgU (runK Tryd.prog cfgU fsU (conT deskDom deskE) 12 40) 12 (codeAt [1, 0, 0, 0, 1, 0, 1, 1, 1] B) (S23 b0 cl l k dk th ths kp sd e0 off n c e eg) (normC 3 [0, 2, 3, 4, 6]) =
  some (.normal, (S24 b0 cl l k dk th ths kp sd e0 off n c e eg)) := by kernel_rfl
theorem c_8 (dk th ths kp sd b0 cl w k : Int) (off n c : Nat) (l : List Int) (e0 e eg : TypeId) (hl : l.length = n) (hn : n ≤ 9223372036854775807) (hk : 0 ≤ k) (h0 : k + 2 ≤ (n : Int))  (q1 : (freshR w) = true) (q2 : ((blockR ((l.getD (Int.toNat (k + 1)) 0))) == (blockR w)) = false) {Q : Ex → St → Prop} (hq : Q .normal (KSt.low (S24 b0 cl l k dk th ths kp sd e0 off n c e eg))) : Gets Tryd.prog (KH.low ⟨3, 1, [(0, 0, .cells [(.int .i64 1), (.int .i64 64), (.int .i64 1), (.int .i64 64)] e0 false), (1, 0, .cells [(.slice (some ⟨2, off, none⟩) n c), (.int .i64 0), (.bool false), (.int .i64 0), (.int .u64 0), (.int .i64 0), (.int .u64 0), (.int .u64 0)] e true), (2, 0, .tail off .u64 l eg)]⟩) (codeAt [1, 0, 0, 0] B) (KSt.low (S2 b0 cl w dk th ths kp sd e0 off n c k e l eg)) Q := by
  rw [C1_0_0_0]; refine Gets.seq ?_
  rw [C1_0_0_0_0]; refine Gets.seq ?_
  refine Gets.ofN fitU desk_sound (conT_agree _ _) 12 40 (by kernel_rfl) (x := .normal) (s' := (S3 b0 cl w dk th ths kp sd e0 off n c k e l eg)) ((R2 b0 cl w dk th ths kp sd e0 off n c k e l eg).trans (by rw [condT (q1)])) ?_
  show Gets _ _ (codeAt [1, 0, 0, 0, 0, 1] B) _ _
  rw [C1_0_0_0_0_1]; refine Gets.cond true (by kernel_rfl) (show evalX (KSt.ts (S3 b0 cl w dk th ths kp sd e0 off n c k e l eg)) (.tmp 20) = .bool true by kernel_rfl) ?_; show Gets _ _ (codeAt [1, 0, 0, 0, 0, 1, 0] B) _ _
  refine Gets.ofN fitU desk_sound (conT_agree _ _) 12 40 (by kernel_rfl) (x := .normal) (s' := (S2 b0 cl w dk th ths kp sd e0 off n c k e l eg)) (R3 b0 cl w dk th ths kp sd e0 off n c k e l eg) ?_
  show Gets _ _ (codeAt [1, 0, 0, 0, 1] B) _ _
  rw [C1_0_0_0_1]; refine Gets.block ?_
  rw [C1_0_0_0_1_0]; refine Gets.seq ?_
  refine Gets.ofN fitU desk_sound (conT_agree _ _) 12 40 (by kernel_rfl) (x := .normal) (s' := (S12 b0 cl w dk th ths kp sd e0 off n c k e l eg)) ((R4 b0 cl w dk th ths kp sd e0 off n c k e l eg).trans (by rw [condT (decide_eq_true (by omega)), if_pos (⟨by ((try simp (disch := omega) only [wrap_i64_id]) <;> omega), by ((try simp (disch := omega) only [wrap_i64_id]) <;> omega)⟩), condT (ble_t (by omega)), obind_at (k := ((Int.toNat (IntKind.wrap .i64 ((IntKind.wrap .i64 (k + 1)) - 1))) * 1)) (by ((try simp (disch := omega) only [wrap_i64_id]) <;> omega)) (by ((try simp (disch := omega) only [wrap_i64_id]) <;> omega))] <;> (show some (Ex.normal, (S5 b0 cl w dk th ths kp sd e0 off n c k e l eg)) = some (Ex.normal, (S12 b0 cl w dk th ths kp sd e0 off n c k e l eg)); unfold S5 S12; rw [(show (IntKind.wrap .i64 (k + 1)) = (k + 1) from wrap_i64_id (by omega) (by omega))]))) ?_
  show Gets _ _ (codeAt [1, 0, 0, 0, 1, 0, 1] B) _ _
  rw [C1_0_0_0_1_0_1]; refine Gets.seq ?_
  refine Gets.ofN fitU desk_sound (conT_agree _ _) 12 40 (by kernel_rfl) (x := .normal) (s' := (S19 b0 cl w l k dk th ths kp sd e0 off n c e eg)) ((R10 b0 cl w dk th ths kp sd e0 off n c k e l eg).trans (by rw [condT (decide_eq_true (by omega)), if_pos (⟨by ((try simp (disch := omega) only [wrap_i64_id]) <;> omega), by ((try simp (disch := omega) only [wrap_i64_id]) <;> omega)⟩), condT (ble_t (by omega)), obind_at (k := ((Int.toNat (IntKind.wrap .i64 ((IntKind.wrap .i64 ((k + 1) + 1)) - 1))) * 1)) (by ((try simp (disch := omega) only [wrap_i64_id]) <;> omega)) (by ((try simp (disch := omega) only [wrap_i64_id]) <;> omega))] <;> (show some (Ex.normal, (S20 b0 cl w l k dk th ths kp sd e0 off n c e eg)) = some (Ex.normal, (S19 b0 cl w l k dk th ths kp sd e0 off n c e eg)); unfold S20 S19; rw [(show (IntKind.wrap .i64 ((k + 1) + 1)) = ((k + 1) + 1) from wrap_i64_id (by omega) (by omega)), (show (IntKind.wrap .i64 (((k + 1) + 1) - 1)) = (((k + 1) + 1) - 1) from wrap_i64_id (by omega) (by omega)), (show ((Int.toNat (((k + 1) + 1) - 1)) * 1) = (Int.toNat (k + 1)) from by omega)]))) ?_
  show Gets _ _ (codeAt [1, 0, 0, 0, 1, 0, 1, 1] B) _ _
  rw [C1_0_0_0_1_0_1_1]; refine Gets.seq ?_
  rw [C1_0_0_0_1_0_1_1_0]; refine Gets.seq ?_
  refine Gets.ofN fitU desk_sound (conT_agree _ _) 12 40 (by kernel_rfl) (x := .normal) (s' := (S21 b0 cl l k w dk th ths kp sd e0 off n c e eg)) (R15 b0 cl w l k dk th ths kp sd e0 off n c e eg) ?_
  show Gets _ _ (codeAt [1, 0, 0, 0, 1, 0, 1, 1, 0, 1] B) _ _
  rw [C1_0_0_0_1_0_1_1_0_1]; refine Gets.cond false (by kernel_rfl) ((show evalX (KSt.ts (S21 b0 cl l k w dk th ths kp sd e0 off n c e eg)) (.tmp 38) = .bool ((blockR ((l.getD (Int.toNat (k + 1)) 0))) == (blockR w)) by kernel_rfl).trans (by rw [(show ((blockR ((l.getD (Int.toNat (k + 1)) 0))) == (blockR w)) = false from q2)])) ?_; show Gets _ _ (codeAt [1, 0, 0, 0, 1, 0, 1, 1, 0, 1, 1] B) _ _
  refine Gets.ofN fitU desk_sound (conT_agree _ _) 12 40 (by kernel_rfl) (x := .normal) (s' := (S23 b0 cl l k dk th ths kp sd e0 off n c e eg)) (R17 b0 cl l k w dk th ths kp sd e0 off n c e eg) ?_
  show Gets _ _ (codeAt [1, 0, 0, 0, 1, 0, 1, 1, 1] B) _ _
  refine Gets.ofN fitU desk_sound (conT_agree _ _) 12 40 (by kernel_rfl) (x := .normal) (s' := (S24 b0 cl l k dk th ths kp sd e0 off n c e eg)) (R18 b0 cl l k dk th ths kp sd e0 off n c e eg) ?_
  exact hq
theorem c_9 (dk th ths kp sd b0 cl w k : Int) (off n c : Nat) (l : List Int) (e0 e eg : TypeId) (hl : l.length = n) (hn : n ≤ 9223372036854775807) (hk : 0 ≤ k) (h0 : k + 2 ≤ (n : Int))  (q1 : (freshR w) = false) {Q : Ex → St → Prop} (hq : Q (.exit 0) (KSt.low (S4 b0 cl w dk th ths kp sd e0 off n c k e l eg))) : Gets Tryd.prog (KH.low ⟨3, 1, [(0, 0, .cells [(.int .i64 1), (.int .i64 64), (.int .i64 1), (.int .i64 64)] e0 false), (1, 0, .cells [(.slice (some ⟨2, off, none⟩) n c), (.int .i64 0), (.bool false), (.int .i64 0), (.int .u64 0), (.int .i64 0), (.int .u64 0), (.int .u64 0)] e true), (2, 0, .tail off .u64 l eg)]⟩) (codeAt [1, 0, 0, 0] B) (KSt.low (S2 b0 cl w dk th ths kp sd e0 off n c k e l eg)) Q := by
  rw [C1_0_0_0]; refine Gets.seq ?_
  rw [C1_0_0_0_0]; refine Gets.seq ?_
  refine Gets.ofN fitU desk_sound (conT_agree _ _) 12 40 (by kernel_rfl) (x := .normal) (s' := (S4 b0 cl w dk th ths kp sd e0 off n c k e l eg)) ((R2 b0 cl w dk th ths kp sd e0 off n c k e l eg).trans (by rw [condF (q1)])) ?_
  show Gets _ _ (codeAt [1, 0, 0, 0, 0, 1] B) _ _
  rw [C1_0_0_0_0_1]; refine Gets.cond false (by kernel_rfl) (show evalX (KSt.ts (S4 b0 cl w dk th ths kp sd e0 off n c k e l eg)) (.tmp 20) = .bool false by kernel_rfl) ?_; show Gets _ _ (codeAt [1, 0, 0, 0, 0, 1, 1] B) _ _
  rw [C1_0_0_0_0_1_1]; refine Gets.ev fitU.mix fitU.cfg (fitU.sound desk_sound 12 0) 12 rfl (s' := KSt.low (S4 b0 cl w dk th ths kp sd e0 off n c k e l eg)) (x := (.exit 0)) rfl ?_
  exact hq
noncomputable def S25 (b0 : Int) (cl : Int) (dk : Int) (th : Int) (ths : Int) (kp : Int) (sd : Int) (e0 : TypeId) (off : Nat) (n : Nat) (c : Nat) (k : Int) (e : TypeId) (l : List Int) (eg : TypeId) : KSt := ⟨(frameL 42 [(0, (.pointer (some ⟨1, 0, none⟩))), (2, (.int .u64 b0)), (3, (.int .i64 cl)), (4, (.int .u64 0)), (6, (.pointer (some ⟨3, 0, none⟩)))]), ⟨4, 1, [(3, 0, .cells [(.int .u64 dk), (.int .i64 th), (.int .i64 ths), (.int .i64 kp), (.int .u64 sd)] 24 true), (0, 0, .cells [(.int .i64 1), (.int .i64 64), (.int .i64 1), (.int .i64 64)] e0 false), (1, 0, .cells [(.slice (some ⟨2, off, none⟩) n c), (.int .i64 k), (.bool true), (.int .i64 1), (.int .u64 b0), (.int .i64 cl), (.int .u64 0), (.int .u64 0)] e true), (2, 0, .tail off .u64 l eg)]⟩⟩
noncomputable def S26 (b0 : Int) (cl : Int) (dk : Int) (th : Int) (ths : Int) (kp : Int) (sd : Int) (e0 : TypeId) (off : Nat) (n : Nat) (c : Nat) (k : Int) (w : Int) (e : TypeId) (l : List Int) (eg : TypeId) : KSt := ⟨(frameL 42 [(0, (.pointer (some ⟨1, 0, none⟩))), (2, (.int .u64 b0)), (3, (.int .i64 cl)), (4, (.int .u64 0)), (6, (.pointer (some ⟨3, 0, none⟩))), (20, (.bool false))]), ⟨4, 1, [(3, 0, .cells [(.int .u64 dk), (.int .i64 th), (.int .i64 ths), (.int .i64 kp), (.int .u64 sd)] 24 true), (0, 0, .cells [(.int .i64 1), (.int .i64 64), (.int .i64 1), (.int .i64 64)] e0 false), (1, 0, .cells [(.slice (some ⟨2, off, none⟩) n c), (.int .i64 k), (.bool true), (.int .i64 2), (.int .u64 dk), (.int .i64 (boxCellV th)), (.int .u64 0), (.int .u64 (blockR w))] e true), (2, 0, .tail off .u64 l eg)]⟩⟩
theorem R19 (b0 : Int) (cl : Int) (dk : Int) (th : Int) (ths : Int) (kp : Int) (sd : Int) (e0 : TypeId) (off : Nat) (n : Nat) (c : Nat) (k : Int) (w : Int) (e : TypeId) (l : List Int) (eg : TypeId) : evCK Tryd.prog cfgU (runK Tryd.prog cfgU fsU (conT deskDom deskE) 12 40) 12 (codeAt [1, 0, 0, 0, 0, 0] B) (S11 b0 cl dk th ths kp sd e0 off n c k w e l eg) (normC 3 [0, 2, 3, 4, 6, 20]) =
  some (.normal, (S26 b0 cl dk th ths kp sd e0 off n c k w e l eg)) := by kernel_rfl
theorem xa_10 (dk th ths kp sd b0 cl w k : Int) (off n c : Nat) (l : List Int) (e0 e eg : TypeId)   {Q : Ex → St → Prop} (hq : Q (.exit 0) (KSt.low (S26 b0 cl dk th ths kp sd e0 off n c k w e l eg))) : Gets Tryd.prog (KH.low ⟨3, 1, [(0, 0, .cells [(.int .i64 1), (.int .i64 64), (.int .i64 1), (.int .i64 64)] e0 false), (1, 0, .cells [(.slice (some ⟨2, off, none⟩) n c), (.int .i64 0), (.bool false), (.int .i64 0), (.int .u64 0), (.int .i64 0), (.int .u64 0), (.int .u64 0)] e true), (2, 0, .tail off .u64 l eg)]⟩) (codeAt [1, 0, 0, 0] B) (KSt.low (S11 b0 cl dk th ths kp sd e0 off n c k w e l eg)) Q := by
  rw [C1_0_0_0]; refine Gets.seq ?_
  rw [C1_0_0_0_0]; refine Gets.seq ?_
  refine Gets.ofN fitU desk_sound (conT_agree _ _) 12 40 (by kernel_rfl) (x := .normal) (s' := (S26 b0 cl dk th ths kp sd e0 off n c k w e l eg)) (R19 b0 cl dk th ths kp sd e0 off n c k w e l eg) ?_
  show Gets _ _ (codeAt [1, 0, 0, 0, 0, 1] B) _ _
  rw [C1_0_0_0_0_1]; refine Gets.cond false (by kernel_rfl) (show evalX (KSt.ts (S26 b0 cl dk th ths kp sd e0 off n c k w e l eg)) (.tmp 20) = .bool false by kernel_rfl) ?_; show Gets _ _ (codeAt [1, 0, 0, 0, 0, 1, 1] B) _ _
  rw [C1_0_0_0_0_1_1]; refine Gets.ev fitU.mix fitU.cfg (fitU.sound desk_sound 12 0) 12 rfl (s' := KSt.low (S26 b0 cl dk th ths kp sd e0 off n c k w e l eg)) (x := (.exit 0)) rfl ?_
  exact hq
theorem C1_1 : (codeAt [1, 1] B) = .seq (codeAt [1, 1, 0] B) (codeAt [1, 1, 1] B) := by kernel_rfl
theorem R20 (b0 : Int) (cl : Int) (dk : Int) (th : Int) (ths : Int) (kp : Int) (sd : Int) (e0 : TypeId) (off : Nat) (n : Nat) (c : Nat) (k : Int) (w : Int) (e : TypeId) (l : List Int) (eg : TypeId) : evCK Tryd.prog cfgU (runK Tryd.prog cfgU fsU (conT deskDom deskE) 12 40) 12 (codeAt [1, 1, 0] B) (S26 b0 cl dk th ths kp sd e0 off n c k w e l eg) (normC 3 [10]) =
  some (.normal, (S9 e0 off n c k dk th w e l eg)) := by kernel_rfl
theorem C1_1_1 : (codeAt [1, 1, 1] B) = .ret := by kernel_rfl
theorem fxa_11 (dk th ths kp sd b0 cl w k : Int) (off n c : Nat) (l : List Int) (e0 e eg : TypeId)   {Q : Ex → St → Prop} (hq : Q .ret (KSt.low (S9 e0 off n c k dk th w e l eg))) : Gets Tryd.prog (KH.low ⟨3, 1, [(0, 0, .cells [(.int .i64 1), (.int .i64 64), (.int .i64 1), (.int .i64 64)] e0 false), (1, 0, .cells [(.slice (some ⟨2, off, none⟩) n c), (.int .i64 0), (.bool false), (.int .i64 0), (.int .u64 0), (.int .i64 0), (.int .u64 0), (.int .u64 0)] e true), (2, 0, .tail off .u64 l eg)]⟩) (codeAt [1, 1] B) (KSt.low (S26 b0 cl dk th ths kp sd e0 off n c k w e l eg)) Q := by
  rw [C1_1]; refine Gets.seq ?_
  refine Gets.ofN fitU desk_sound (conT_agree _ _) 12 40 (by kernel_rfl) (x := .normal) (s' := (S9 e0 off n c k dk th w e l eg)) (R20 b0 cl dk th ths kp sd e0 off n c k w e l eg) ?_
  show Gets _ _ (codeAt [1, 1, 1] B) _ _
  rw [C1_1_1]; refine Gets.ev fitU.mix fitU.cfg (fitU.sound desk_sound 12 0) 12 rfl (s' := KSt.low (S9 e0 off n c k dk th w e l eg)) (x := .ret) rfl ?_
  exact hq
noncomputable def S27 (b0 : Int) (cl : Int) (dk : Int) (th : Int) (ths : Int) (kp : Int) (sd : Int) (e0 : TypeId) (off : Nat) (n : Nat) (c : Nat) (k : Int) (e : TypeId) (l : List Int) (eg : TypeId) : KSt := ⟨(frameL 42 [(0, (.pointer (some ⟨1, 0, none⟩))), (2, (.int .u64 b0)), (3, (.int .i64 cl)), (4, (.int .u64 0)), (6, (.pointer (some ⟨3, 0, none⟩))), (20, (.bool false))]), ⟨4, 1, [(3, 0, .cells [(.int .u64 dk), (.int .i64 th), (.int .i64 ths), (.int .i64 kp), (.int .u64 sd)] 24 true), (0, 0, .cells [(.int .i64 1), (.int .i64 64), (.int .i64 1), (.int .i64 64)] e0 false), (1, 0, .cells [(.slice (some ⟨2, off, none⟩) n c), (.int .i64 k), (.bool true), (.int .i64 1), (.int .u64 b0), (.int .i64 cl), (.int .u64 0), (.int .u64 0)] e true), (2, 0, .tail off .u64 l eg)]⟩⟩
theorem R21 (b0 : Int) (cl : Int) (dk : Int) (th : Int) (ths : Int) (kp : Int) (sd : Int) (e0 : TypeId) (off : Nat) (n : Nat) (c : Nat) (k : Int) (e : TypeId) (l : List Int) (eg : TypeId) : evCK Tryd.prog cfgU (runK Tryd.prog cfgU fsU (conT deskDom deskE) 12 40) 12 (codeAt [1, 0, 0, 0, 0, 0] B) (S25 b0 cl dk th ths kp sd e0 off n c k e l eg) (normC 3 [0, 2, 3, 4, 6, 20]) =
  some (.normal, (S27 b0 cl dk th ths kp sd e0 off n c k e l eg)) := by kernel_rfl
theorem xb_12 (dk th ths kp sd b0 cl w k : Int) (off n c : Nat) (l : List Int) (e0 e eg : TypeId)   {Q : Ex → St → Prop} (hq : Q (.exit 0) (KSt.low (S27 b0 cl dk th ths kp sd e0 off n c k e l eg))) : Gets Tryd.prog (KH.low ⟨3, 1, [(0, 0, .cells [(.int .i64 1), (.int .i64 64), (.int .i64 1), (.int .i64 64)] e0 false), (1, 0, .cells [(.slice (some ⟨2, off, none⟩) n c), (.int .i64 0), (.bool false), (.int .i64 0), (.int .u64 0), (.int .i64 0), (.int .u64 0), (.int .u64 0)] e true), (2, 0, .tail off .u64 l eg)]⟩) (codeAt [1, 0, 0, 0] B) (KSt.low (S25 b0 cl dk th ths kp sd e0 off n c k e l eg)) Q := by
  rw [C1_0_0_0]; refine Gets.seq ?_
  rw [C1_0_0_0_0]; refine Gets.seq ?_
  refine Gets.ofN fitU desk_sound (conT_agree _ _) 12 40 (by kernel_rfl) (x := .normal) (s' := (S27 b0 cl dk th ths kp sd e0 off n c k e l eg)) (R21 b0 cl dk th ths kp sd e0 off n c k e l eg) ?_
  show Gets _ _ (codeAt [1, 0, 0, 0, 0, 1] B) _ _
  rw [C1_0_0_0_0_1]; refine Gets.cond false (by kernel_rfl) (show evalX (KSt.ts (S27 b0 cl dk th ths kp sd e0 off n c k e l eg)) (.tmp 20) = .bool false by kernel_rfl) ?_; show Gets _ _ (codeAt [1, 0, 0, 0, 0, 1, 1] B) _ _
  rw [C1_0_0_0_0_1_1]; refine Gets.ev fitU.mix fitU.cfg (fitU.sound desk_sound 12 0) 12 rfl (s' := KSt.low (S27 b0 cl dk th ths kp sd e0 off n c k e l eg)) (x := (.exit 0)) rfl ?_
  exact hq
noncomputable def S28 (e0 : TypeId) (off : Nat) (n : Nat) (c : Nat) (k : Int) (b0 : Int) (cl : Int) (e : TypeId) (l : List Int) (eg : TypeId) : KSt := ⟨(frameL 42 [(10, (.int .u64 0))]), ⟨3, 1, [(0, 0, .cells [(.int .i64 1), (.int .i64 64), (.int .i64 1), (.int .i64 64)] e0 false), (1, 0, .cells [(.slice (some ⟨2, off, none⟩) n c), (.int .i64 k), (.bool true), (.int .i64 1), (.int .u64 b0), (.int .i64 cl), (.int .u64 0), (.int .u64 0)] e true), (2, 0, .tail off .u64 l eg)]⟩⟩
theorem R22 (b0 : Int) (cl : Int) (dk : Int) (th : Int) (ths : Int) (kp : Int) (sd : Int) (e0 : TypeId) (off : Nat) (n : Nat) (c : Nat) (k : Int) (e : TypeId) (l : List Int) (eg : TypeId) : evCK Tryd.prog cfgU (runK Tryd.prog cfgU fsU (conT deskDom deskE) 12 40) 12 (codeAt [1, 1, 0] B) (S27 b0 cl dk th ths kp sd e0 off n c k e l eg) (normC 3 [10]) =
  some (.normal, (S28 e0 off n c k b0 cl e l eg)) := by kernel_rfl
theorem fxb_13 (dk th ths kp sd b0 cl w k : Int) (off n c : Nat) (l : List Int) (e0 e eg : TypeId)   {Q : Ex → St → Prop} (hq : Q .ret (KSt.low (S28 e0 off n c k b0 cl e l eg))) : Gets Tryd.prog (KH.low ⟨3, 1, [(0, 0, .cells [(.int .i64 1), (.int .i64 64), (.int .i64 1), (.int .i64 64)] e0 false), (1, 0, .cells [(.slice (some ⟨2, off, none⟩) n c), (.int .i64 0), (.bool false), (.int .i64 0), (.int .u64 0), (.int .i64 0), (.int .u64 0), (.int .u64 0)] e true), (2, 0, .tail off .u64 l eg)]⟩) (codeAt [1, 1] B) (KSt.low (S27 b0 cl dk th ths kp sd e0 off n c k e l eg)) Q := by
  rw [C1_1]; refine Gets.seq ?_
  refine Gets.ofN fitU desk_sound (conT_agree _ _) 12 40 (by kernel_rfl) (x := .normal) (s' := (S28 e0 off n c k b0 cl e l eg)) (R22 b0 cl dk th ths kp sd e0 off n c k e l eg) ?_
  show Gets _ _ (codeAt [1, 1, 1] B) _ _
  rw [C1_1_1]; refine Gets.ev fitU.mix fitU.cfg (fitU.sound desk_sound 12 0) 12 rfl (s' := KSt.low (S28 e0 off n c k b0 cl e l eg)) (x := .ret) rfl ?_
  exact hq
noncomputable def S29 (w : Int) (e0 : TypeId) (off : Nat) (n : Nat) (c : Nat) (k : Int) (e : TypeId) (l : List Int) (eg : TypeId) : KSt := ⟨(frameL 42 [(10, (.int .u64 w))]), ⟨3, 1, [(0, 0, .cells [(.int .i64 1), (.int .i64 64), (.int .i64 1), (.int .i64 64)] e0 false), (1, 0, .cells [(.slice (some ⟨2, off, none⟩) n c), (.int .i64 k), (.bool false), (.int .i64 0), (.int .u64 0), (.int .i64 0), (.int .u64 0), (.int .u64 0)] e true), (2, 0, .tail off .u64 l eg)]⟩⟩
theorem R23 (b0 : Int) (cl : Int) (w : Int) (dk : Int) (th : Int) (ths : Int) (kp : Int) (sd : Int) (e0 : TypeId) (off : Nat) (n : Nat) (c : Nat) (k : Int) (e : TypeId) (l : List Int) (eg : TypeId) : evCK Tryd.prog cfgU (runK Tryd.prog cfgU fsU (conT deskDom deskE) 12 40) 12 (codeAt [1, 1, 0] B) (S4 b0 cl w dk th ths kp sd e0 off n c k e l eg) (normC 3 [10]) =
  some (.normal, (S29 w e0 off n c k e l eg)) := by kernel_rfl
theorem fna_14 (dk th ths kp sd b0 cl w k : Int) (off n c : Nat) (l : List Int) (e0 e eg : TypeId)   {Q : Ex → St → Prop} (hq : Q .ret (KSt.low (S29 w e0 off n c k e l eg))) : Gets Tryd.prog (KH.low ⟨3, 1, [(0, 0, .cells [(.int .i64 1), (.int .i64 64), (.int .i64 1), (.int .i64 64)] e0 false), (1, 0, .cells [(.slice (some ⟨2, off, none⟩) n c), (.int .i64 0), (.bool false), (.int .i64 0), (.int .u64 0), (.int .i64 0), (.int .u64 0), (.int .u64 0)] e true), (2, 0, .tail off .u64 l eg)]⟩) (codeAt [1, 1] B) (KSt.low (S4 b0 cl w dk th ths kp sd e0 off n c k e l eg)) Q := by
  rw [C1_1]; refine Gets.seq ?_
  refine Gets.ofN fitU desk_sound (conT_agree _ _) 12 40 (by kernel_rfl) (x := .normal) (s' := (S29 w e0 off n c k e l eg)) (R23 b0 cl w dk th ths kp sd e0 off n c k e l eg) ?_
  show Gets _ _ (codeAt [1, 1, 1] B) _ _
  rw [C1_1_1]; refine Gets.ev fitU.mix fitU.cfg (fitU.sound desk_sound 12 0) 12 rfl (s' := KSt.low (S29 w e0 off n c k e l eg)) (x := .ret) rfl ?_
  exact hq
theorem fnb_15 (dk th ths kp sd b0 cl w k : Int) (off n c : Nat) (l : List Int) (e0 e eg : TypeId)   {Q : Ex → St → Prop} (hq : Q .ret (KSt.low (S29 w e0 off n c k e l eg))) : Gets Tryd.prog (KH.low ⟨3, 1, [(0, 0, .cells [(.int .i64 1), (.int .i64 64), (.int .i64 1), (.int .i64 64)] e0 false), (1, 0, .cells [(.slice (some ⟨2, off, none⟩) n c), (.int .i64 0), (.bool false), (.int .i64 0), (.int .u64 0), (.int .i64 0), (.int .u64 0), (.int .u64 0)] e true), (2, 0, .tail off .u64 l eg)]⟩) (codeAt [1, 1] B) (KSt.low (S4 b0 cl w dk th ths kp sd e0 off n c k e l eg)) Q := by
  rw [C1_1]; refine Gets.seq ?_
  refine Gets.ofN fitU desk_sound (conT_agree _ _) 12 40 (by kernel_rfl) (x := .normal) (s' := (S29 w e0 off n c k e l eg)) (R23 b0 cl w dk th ths kp sd e0 off n c k e l eg) ?_
  show Gets _ _ (codeAt [1, 1, 1] B) _ _
  rw [C1_1_1]; refine Gets.ev fitU.mix fitU.cfg (fitU.sound desk_sound 12 0) 12 rfl (s' := KSt.low (S29 w e0 off n c k e l eg)) (x := .ret) rfl ?_
  exact hq
theorem fnc_16 (dk th ths kp sd b0 cl w k : Int) (off n c : Nat) (l : List Int) (e0 e eg : TypeId)   {Q : Ex → St → Prop} (hq : Q .ret (KSt.low (S29 w e0 off n c k e l eg))) : Gets Tryd.prog (KH.low ⟨3, 1, [(0, 0, .cells [(.int .i64 1), (.int .i64 64), (.int .i64 1), (.int .i64 64)] e0 false), (1, 0, .cells [(.slice (some ⟨2, off, none⟩) n c), (.int .i64 0), (.bool false), (.int .i64 0), (.int .u64 0), (.int .i64 0), (.int .u64 0), (.int .u64 0)] e true), (2, 0, .tail off .u64 l eg)]⟩) (codeAt [1, 1] B) (KSt.low (S4 b0 cl w dk th ths kp sd e0 off n c k e l eg)) Q := by
  rw [C1_1]; refine Gets.seq ?_
  refine Gets.ofN fitU desk_sound (conT_agree _ _) 12 40 (by kernel_rfl) (x := .normal) (s' := (S29 w e0 off n c k e l eg)) (R23 b0 cl w dk th ths kp sd e0 off n c k e l eg) ?_
  show Gets _ _ (codeAt [1, 1, 1] B) _ _
  rw [C1_1_1]; refine Gets.ev fitU.mix fitU.cfg (fitU.sound desk_sound 12 0) 12 rfl (s' := KSt.low (S29 w e0 off n c k e l eg)) (x := .ret) rfl ?_
  exact hq
theorem C1_0 : (codeAt [1, 0] B) = .block 0 (codeAt [1, 0, 0] B) := by kernel_rfl
theorem C1_0_0 : (codeAt [1, 0, 0] B) = .loop (codeAt [1, 0, 0, 0] B) := by kernel_rfl

noncomputable def QE (dk th ths kp sd b0 cl w : Int) (off n c : Nat) (l : List Int) (e0 e eg : TypeId) : Ex → St → Prop := Eng.Ends Tryd.prog Tryd.f10.results.toList fun v sh => v = .int .u64 (gRes (gst w l)) ∧ Fits (mkH [.cells [.int .i64 1, .int .i64 64, .int .i64 1, .int .i64 64] e0 false, tapeBlkV off n c gZero e, .tail off .u64 l eg]).low sh (effK (mkH [.cells [.int .i64 1, .int .i64 64, .int .i64 1, .int .i64 64] e0 false, tapeBlkV off n c gZero e, .tail off .u64 l eg]) [(1, tapeBlkV off n c (gMore dk th b0 cl (gst w l)) e)] []).low
theorem qe_end (dk th ths kp sd b0 cl w : Int) (off n c : Nat) (l : List Int) (e0 e eg : TypeId) {s : KSt} {G : Int × Int × Int} (hG : gst w l = G) (hr : resL Tryd.prog s.low Tryd.f10.results.toList = some [.int .u64 (gRes G)])
    (h1 : s.low.h.get 1 = some (tapeBlkV off n c (gMore dk th b0 cl G) e).low) (hx : s.low.h.next ≤ 3) : QE dk th ths kp sd b0 cl w off n c l e0 e eg .ret s.low := by
  subst hG
  exact Ends.of hr ⟨rfl, tapeV_fits rfl h1 hx⟩
inductive Inv (dk th ths kp sd b0 cl w : Int) (off n c : Nat) (l : List Int) (e0 e eg : TypeId) : Nat → KSt → Prop
  | hd (k u : Int) (h1 : 0 ≤ k) (h2 : k ≤ (n : Int)) (hG : gst w l = gLoop u k (l.drop k.toNat)) : Inv dk th ths kp sd b0 cl w off n c l e0 e eg ((n : Int) + 1 - k).toNat (S2 b0 cl u dk th ths kp sd e0 off n c k e l eg)
  | oa (k u : Int) (hG : gst w l = (1, u, k)) : Inv dk th ths kp sd b0 cl w off n c l e0 e eg 0 (S11 b0 cl dk th ths kp sd e0 off n c k u e l eg)
  | ob (k u : Int) (hG : gst w l = (2, u, k)) : Inv dk th ths kp sd b0 cl w off n c l e0 e eg 0 (S25 b0 cl dk th ths kp sd e0 off n c k e l eg)
theorem loop (dk th ths kp sd b0 cl w : Int) (off n c : Nat) (l : List Int) (e0 e eg : TypeId) (hl : l.length = n) (hn : n ≤ 9223372036854775807) (m : Nat) (s : KSt) (hI : Inv dk th ths kp sd b0 cl w off n c l e0 e eg m s) :
    Gets Tryd.prog (KH.low ⟨3, 1, [(0, 0, .cells [(.int .i64 1), (.int .i64 64), (.int .i64 1), (.int .i64 64)] e0 false), (1, 0, .cells [(.slice (some ⟨2, off, none⟩) n c), (.int .i64 0), (.bool false), (.int .i64 0), (.int .u64 0), (.int .i64 0), (.int .u64 0), (.int .u64 0)] e true), (2, 0, .tail off .u64 l eg)]⟩) (codeAt [1, 0] B) s.low (onN (fun s => Gets Tryd.prog (KH.low ⟨3, 1, [(0, 0, .cells [(.int .i64 1), (.int .i64 64), (.int .i64 1), (.int .i64 64)] e0 false), (1, 0, .cells [(.slice (some ⟨2, off, none⟩) n c), (.int .i64 0), (.bool false), (.int .i64 0), (.int .u64 0), (.int .i64 0), (.int .u64 0), (.int .u64 0)] e true), (2, 0, .tail off .u64 l eg)]⟩) (codeAt [1, 1] B) s ((QE dk th ths kp sd b0 cl w off n c l e0 e eg))) ((QE dk th ths kp sd b0 cl w off n c l e0 e eg))) := by
  rw [C1_0, C1_0_0]
  refine Gets.loopG (fun m s => Inv dk th ths kp sd b0 cl w off n c l e0 e eg m s) ?_ _ _ hI
  clear hI m s
  intro m s hI
  cases hI with
  | hd k u h1 h2 hG =>
    by_cases ha : k = (n : Int)
    · have H0 := ha
      cases hf : freshR u with
      | false =>
        refine a_3 dk th ths kp sd b0 cl u k off n c l e0 e eg hl hn h1 H0 hf ?_
        refine ⟨fun _ => ?_, fun h => by cases h⟩
        exact fna_14 dk th ths kp sd b0 cl u k off n c l e0 e eg (qe_end dk th ths kp sd b0 cl w off n c l e0 e eg (hG.trans (gLoop_ended hf _)) (by kernel_rfl) (by kernel_rfl) (show (3 : Nat) ≤ 3 by decide))
      | true =>
        have hG2 : gst w l = (1, u, k) := by rw [hG, List.drop_of_length_le (by omega)]; simp [gLoop, hf]
        cases hz : (0 == (blockR u)) with
        | true =>
          refine a_1 dk th ths kp sd b0 cl u k off n c l e0 e eg hl hn h1 H0 hf hz ?_
          exact qe_end dk th ths kp sd b0 cl w off n c l e0 e eg hG2 (by kernel_rfl) (by kernel_rfl) (show (3 : Nat) ≤ 3 by decide)
        | false =>
          refine a_2 dk th ths kp sd b0 cl u k off n c l e0 e eg hl hn h1 H0 hf hz ?_
          exact ⟨_, _, by omega, rfl, .oa k u hG2⟩
    by_cases hb : k + 1 = (n : Int)
    · have H0 := hb
      cases hf : freshR u with
      | false =>
        refine b_6 dk th ths kp sd b0 cl u k off n c l e0 e eg hl hn h1 H0 hf ?_
        refine ⟨fun _ => ?_, fun h => by cases h⟩
        exact fnb_15 dk th ths kp sd b0 cl u k off n c l e0 e eg (qe_end dk th ths kp sd b0 cl w off n c l e0 e eg (hG.trans (gLoop_ended hf _)) (by kernel_rfl) (by kernel_rfl) (show (3 : Nat) ≤ 3 by decide))
      | true =>
        have hG2 : gst w l = (2, u, k + 1) := by
          obtain ⟨x, hx⟩ := drop1 (l := l) (k := k.toNat) (by omega)
          rw [hG, hx]; simp [gLoop, hf]
        cases hz : (0 == (blockR u)) with
        | true =>
          refine b_4 dk th ths kp sd b0 cl u k off n c l e0 e eg hl hn h1 H0 hf hz ?_
          exact qe_end dk th ths kp sd b0 cl w off n c l e0 e eg hG2 (by kernel_rfl) (by kernel_rfl) (show (3 : Nat) ≤ 3 by decide)
        | false =>
          refine b_5 dk th ths kp sd b0 cl u k off n c l e0 e eg hl hn h1 H0 hf hz ?_
          exact ⟨_, _, by omega, rfl, .ob (k + 1) u hG2⟩
    have H0 : k + 2 ≤ (n : Int) := by omega
    cases hf : freshR u with
      | false =>
        refine c_9 dk th ths kp sd b0 cl u k off n c l e0 e eg hl hn h1 H0 hf ?_
        refine ⟨fun _ => ?_, fun h => by cases h⟩
        exact fnc_16 dk th ths kp sd b0 cl u k off n c l e0 e eg (qe_end dk th ths kp sd b0 cl w off n c l e0 e eg (hG.trans (gLoop_ended hf _)) (by kernel_rfl) (by kernel_rfl) (show (3 : Nat) ≤ 3 by decide))
      | true =>
        have hG2 : gst w l = if (blockR (l.getD (Int.toNat (k + 1)) 0)) = blockR u then (3, l.getD (Int.toNat (k + 1)) 0, k + 1 + 1) else gLoop (l.getD (Int.toNat (k + 1)) 0) (k + 1 + 1) (l.drop (Int.toNat (k + 1 + 1))) := by
          rw [hG, drop2 (by omega), show Int.toNat (k + 1) = k.toNat + 1 by omega, show Int.toNat (k + 1 + 1) = k.toNat + 2 by omega]
          simp [gLoop, hf]
        cases hz : ((blockR (l.getD (Int.toNat (k + 1)) 0)) == blockR u) with
        | true =>
          have hz2 : (blockR (l.getD (Int.toNat (k + 1)) 0)) = blockR u := eq_of_beq hz
          rw [if_pos hz2] at hG2
          refine c_7 dk th ths kp sd b0 cl u k off n c l e0 e eg hl hn h1 H0 hf hz ?_
          exact qe_end dk th ths kp sd b0 cl w off n c l e0 e eg hG2 (by kernel_rfl) (by kernel_rfl) (show (3 : Nat) ≤ 3 by decide)
        | false =>
          have hz2 : (blockR (l.getD (Int.toNat (k + 1)) 0)) ≠ blockR u := fun h => by rw [h] at hz; simp at hz
          rw [if_neg hz2] at hG2
          refine c_8 dk th ths kp sd b0 cl u k off n c l e0 e eg hl hn h1 H0 hf hz ?_
          exact ⟨_, _, by omega, rfl, .hd (k + 1 + 1) _ (by omega) (by omega) hG2⟩
  | oa k u hG =>
    refine xa_10 dk th ths kp sd b0 cl u k off n c l e0 e eg ?_
    refine ⟨fun _ => ?_, fun h => by cases h⟩
    exact fxa_11 dk th ths kp sd b0 cl u k off n c l e0 e eg (qe_end dk th ths kp sd b0 cl w off n c l e0 e eg hG (by kernel_rfl) (by kernel_rfl) (show (3 : Nat) ≤ 3 by decide))
  | ob k u hG =>
    refine xb_12 dk th ths kp sd b0 cl u k off n c l e0 e eg ?_
    refine ⟨fun _ => ?_, fun h => by cases h⟩
    exact fxb_13 dk th ths kp sd b0 cl u k off n c l e0 e eg (qe_end dk th ths kp sd b0 cl w off n c l e0 e eg hG (by kernel_rfl) (by kernel_rfl) (show (3 : Nat) ≤ 3 by decide))
theorem does (dk th ths kp sd b0 cl w : Int) (off n c : Nat) (l : List Int) (e0 e eg : TypeId) (hl : l.length = n) (hn : n ≤ 9223372036854775807) :
    DoesC Tryd.prog 10 [.pointer (some ⟨1, 0, none⟩), .agg #[.int .u64 dk, .int .i64 th, .int .i64 ths, .int .i64 kp, .int .u64 sd], .int .u64 b0, .int .i64 cl, .int .u64 w] (mkH [.cells [.int .i64 1, .int .i64 64, .int .i64 1, .int .i64 64] e0 false, tapeBlkV off n c gZero e, .tail off .u64 l eg]).low (.int .u64 (gRes (gst w l))) (effK (mkH [.cells [.int .i64 1, .int .i64 64, .int .i64 1, .int .i64 64] e0 false, tapeBlkV off n c gZero e, .tail off .u64 l eg]) [(1, tapeBlkV off n c (gMore dk th b0 cl (gst w l)) e)] []).low := by
  refine Gets.does Tryd.func10 B_is (by rw [oneVar]; exact (show (1 : Nat) ≤ 3 by decide)) ?_
  show Gets Tryd.prog (KH.low ⟨3, 1, [(0, 0, .cells [(.int .i64 1), (.int .i64 64), (.int .i64 1), (.int .i64 64)] e0 false), (1, 0, .cells [(.slice (some ⟨2, off, none⟩) n c), (.int .i64 0), (.bool false), (.int .i64 0), (.int .u64 0), (.int .i64 0), (.int .u64 0), (.int .u64 0)] e true), (2, 0, .tail off .u64 l eg)]⟩) B (KSt.low (S0 dk th ths kp sd b0 cl w e0 off n c e l eg)) (QE dk th ths kp sd b0 cl w off n c l e0 e eg)
  refine p_0 dk th ths kp sd b0 cl w 0 off n c l e0 e eg hl hn ?_
  exact loop dk th ths kp sd b0 cl w off n c l e0 e eg hl hn _ _ (.hd 0 w (by omega) (by omega) (by rfl))

end Go.Proofs.YtmphcolclkpnnabDoor.shieldRef
