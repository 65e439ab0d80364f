/- What the reference guard does to a tape. -/
import Derived.Test.YtmphcolclkpnnaaDoorDesk
import Derived.WalkKit
import Derived.ProofKit
import Derived.OpenShut
import Derived.ChangeOld
import Derived.Below
import Derived.SizedLaws
namespace Go.Proofs.YtmphcolclkpnnaaDoor.guardRef
open Go.Eng
open Go.ChangeShapes Go.WideShapes Go.ChangeAt Go.RowKit
set_option linter.unusedVariables false
set_option linter.unusedSimpArgs false
set_option maxRecDepth 100000
noncomputable def cfgU : Cfg := ⟨[]⟩
noncomputable def fsU : List FuncId := [22, 25, 26, 27]
theorem fitU : Fit Tryd.prog cfgU fsU := ⟨by kernel_rfl, Cfg.ok_of (by kernel_rfl), by kernel_rfl⟩
/-- How it stands behind some answers: the state, the root, how many were taken. -/
def gLoop (r k : Int) : List Int → Int × Int × Int
  | [] => (2, r, k)
  | [_] => (3, r, k + 1)
  | _ :: q :: rest => if q = r then (4, r, k + 1 + 1) else gLoop q (k + 1 + 1) rest
def gst : List Int → Int × Int × Int
  | [] => (1, 0, 0)
  | r :: rest => gLoop r 1 rest
def gOver (G : Int × Int × Int) : Bool := !decide (G.1 = 4)
def gKind (G : Int × Int × Int) : Int := if G.1 = 4 then 0 else if G.1 = 2 then 2 else 1
def gBlk (dk : Int) (G : Int × Int × Int) : Int := if G.1 = 4 then 0 else dk
def gCell (th : Int) (G : Int × Int × Int) : Int := if G.1 = 2 then tabCellV th else 0
def gNew (G : Int × Int × Int) : Int := if G.1 = 2 then G.2.1 else 0
def gRes (G : Int × Int × Int) : Int := if G.1 = 4 then G.2.1 else 0
def gMore (dk th : Int) (G : Int × Int × Int) : List Value := [.int .i64 G.2.2, .bool (gOver G), .int .i64 (gKind G), .int .u64 (gBlk dk G), .int .i64 (gCell th G), .int .u64 0, .int .u64 (gNew G)]
def gZero : List Value := [.int .i64 0, .bool false, .int .i64 0, .int .u64 0, .int .i64 0, .int .u64 0, .int .u64 0]
theorem drop2 {l : List Int} {k : Nat} (h : k + 2 ≤ l.length) : l.drop k = l.getD k 0 :: l.getD (k + 1) 0 :: l.drop (k + 2) := by
  rw [List.drop_eq_getElem_cons (by omega), List.drop_eq_getElem_cons (by omega)]
  simp [List.getD, List.getElem?_eq_getElem (show k < l.length by omega), List.getElem?_eq_getElem (show k + 1 < l.length by omega)]
theorem drop1 {l : List Int} {k : Nat} (h : k + 1 = l.length) : ∃ x, l.drop k = [x] := by
  rw [List.drop_eq_getElem_cons (by omega), List.drop_of_length_le (by omega)]
  exact ⟨_, rfl⟩
noncomputable def B : Code := bodyOf Tryd.prog 22
theorem B_is : Tryd.f22.body = some B := by kernel_rfl
theorem B_ok : okCode Tryd.prog.globals.size B = true := by kernel_rfl
noncomputable def S0 (dk : Int) (th : Int) (ths : Int) (kp : Int) (sd : Int) (e0 : TypeId) (off : Nat) (n : Nat) (c : Nat) (e : TypeId) (l : List Int) (eg : TypeId) : KSt := (firstK [(.pointer (some ⟨1, 0, none⟩)), (.agg #[(.int .u64 dk), (.int .i64 th), (.int .i64 ths), (.int .i64 kp), (.int .u64 sd)])] 33 ⟨3, 1, [(0, 0, .cells [(.int .i64 1), (.int .i64 64), (.int .i64 1), (.int .i64 64)] e0 false), (1, 0, .cells [(.slice (some ⟨2, off, none⟩) n c), (.int .i64 0), (.bool false), (.int .i64 0), (.int .u64 0), (.int .i64 0), (.int .u64 0), (.int .u64 0)] e true), (2, 0, .tail off .u64 l eg)]⟩)
theorem C : B = .seq (codeAt [0] B) (codeAt [1] B) := by kernel_rfl
noncomputable def S1 (dk : Int) (th : Int) (ths : Int) (kp : Int) (sd : Int) (e0 : TypeId) (off : Nat) (n : Nat) (c : Nat) (e : TypeId) (l : List Int) (eg : TypeId) : KSt := ⟨(frameL 33 [(0, (.pointer (some ⟨1, 0, none⟩))), (3, (.pointer (some ⟨3, 0, none⟩)))]), ⟨4, 1, [(3, 0, .cells [(.int .u64 dk), (.int .i64 th), (.int .i64 ths), (.int .i64 kp), (.int .u64 sd)] 24 true), (0, 0, .cells [(.int .i64 1), (.int .i64 64), (.int .i64 1), (.int .i64 64)] e0 false), (1, 0, .cells [(.slice (some ⟨2, off, none⟩) n c), (.int .i64 0), (.bool false), (.int .i64 0), (.int .u64 0), (.int .i64 0), (.int .u64 0), (.int .u64 0)] e true), (2, 0, .tail off .u64 l eg)]⟩⟩
theorem R1 (dk : Int) (th : Int) (ths : Int) (kp : Int) (sd : Int) (e0 : TypeId) (off : Nat) (n : Nat) (c : Nat) (e : TypeId) (l : List Int) (eg : TypeId) : evCK Tryd.prog cfgU (runK Tryd.prog cfgU fsU (conT deskDom deskE) 12 40) 12 (codeAt [0] B) (S0 dk th ths kp sd e0 off n c e l eg) (normC 3 [0, 3]) =
  some (.normal, (S1 dk th ths kp sd e0 off n c e l eg)) := by kernel_rfl
theorem C1 : (codeAt [1] B) = .seq (codeAt [1, 0] B) (codeAt [1, 1] B) := by kernel_rfl
noncomputable def S2 (n1 : Int) (dk : Int) (th : Int) (ths : Int) (kp : Int) (sd : Int) (e0 : TypeId) (off : Nat) (n : Nat) (c : Nat) (e : TypeId) (l : List Int) (eg : TypeId) : KSt := ⟨(frameL 33 [(0, (.pointer (some ⟨1, 0, none⟩))), (3, (.pointer (some ⟨3, 0, none⟩))), (5, (.int .u64 n1))]), ⟨4, 1, [(3, 0, .cells [(.int .u64 dk), (.int .i64 th), (.int .i64 ths), (.int .i64 kp), (.int .u64 sd)] 24 true), (0, 0, .cells [(.int .i64 1), (.int .i64 64), (.int .i64 1), (.int .i64 64)] e0 false), (1, 0, .cells [(.slice (some ⟨2, off, none⟩) n c), (.int .i64 1), (.bool false), (.int .i64 0), (.int .u64 0), (.int .i64 0), (.int .u64 0), (.int .u64 0)] e true), (2, 0, .tail off .u64 l eg)]⟩⟩
noncomputable def S3 (dk : Int) (th : Int) (ths : Int) (kp : Int) (sd : Int) (e0 : TypeId) (off : Nat) (n : Nat) (c : Nat) (e : TypeId) (l : List Int) (eg : TypeId) : KSt := ⟨(frameL 33 [(0, (.pointer (some ⟨1, 0, none⟩))), (3, (.pointer (some ⟨3, 0, none⟩))), (5, (.int .u64 0))]), ⟨4, 1, [(3, 0, .cells [(.int .u64 dk), (.int .i64 th), (.int .i64 ths), (.int .i64 kp), (.int .u64 sd)] 24 true), (0, 0, .cells [(.int .i64 1), (.int .i64 64), (.int .i64 1), (.int .i64 64)] e0 false), (1, 0, .cells [(.slice (some ⟨2, off, none⟩) n c), (.int .i64 0), (.bool true), (.int .i64 1), (.int .u64 dk), (.int .i64 0), (.int .u64 0), (.int .u64 0)] e true), (2, 0, .tail off .u64 l eg)]⟩⟩
theorem R2 (dk : Int) (th : Int) (ths : Int) (kp : Int) (sd : Int) (e0 : TypeId) (off : Nat) (n : Nat) (c : Nat) (e : TypeId) (l : List Int) (eg : TypeId) : evCK Tryd.prog cfgU (runK Tryd.prog cfgU fsU (conT deskDom deskE) 12 40) 12 (codeAt [1, 0] B) (S1 dk th ths kp sd e0 off n c e l eg) (normC 3 [0, 3, 5]) =
  bif (decide (0 < ((n : Nat) : Int))) then
    if (0 : Int) ≤ 0 ∧ 0 < ((n : Nat) : Int) then
      bif (Nat.ble off (off + 0)) then
        obind (l[((off + 0) - off)]?) fun n1 =>
          some (.normal, (S2 n1 dk th ths kp sd e0 off n c e l eg))
      else
        none
    else
      none
  else
    some (.normal, (S3 dk th ths kp sd e0 off n c e l eg)) := by kernel_rfl
theorem C1_1 : (codeAt [1, 1] B) = .seq (codeAt [1, 1, 0] B) (codeAt [1, 1, 1] B) := by kernel_rfl
theorem p0_0 (dk th ths kp sd r k : Int) (off n c : Nat) (l : List Int) (e0 e eg : TypeId) (hl : l.length = n) (hn : n ≤ 9223372036854775807) (h0 : n = 0)   {Q : Ex → St → Prop} (hq : Gets Tryd.prog (KH.low ⟨3, 1, [(0, 0, .cells [(.int .i64 1), (.int .i64 64), (.int .i64 1), (.int .i64 64)] e0 false), (1, 0, .cells [(.slice (some ⟨2, off, none⟩) n c), (.int .i64 0), (.bool false), (.int .i64 0), (.int .u64 0), (.int .i64 0), (.int .u64 0), (.int .u64 0)] e true), (2, 0, .tail off .u64 l eg)]⟩) (codeAt [1, 1, 0] B) (KSt.low (S3 dk th ths kp sd e0 off n c e l eg)) (onN (fun s => Gets Tryd.prog (KH.low ⟨3, 1, [(0, 0, .cells [(.int .i64 1), (.int .i64 64), (.int .i64 1), (.int .i64 64)] e0 false), (1, 0, .cells [(.slice (some ⟨2, off, none⟩) n c), (.int .i64 0), (.bool false), (.int .i64 0), (.int .u64 0), (.int .i64 0), (.int .u64 0), (.int .u64 0)] e true), (2, 0, .tail off .u64 l eg)]⟩) (codeAt [1, 1, 1] B) s (Q)) (Q))) : Gets Tryd.prog (KH.low ⟨3, 1, [(0, 0, .cells [(.int .i64 1), (.int .i64 64), (.int .i64 1), (.int .i64 64)] e0 false), (1, 0, .cells [(.slice (some ⟨2, off, none⟩) n c), (.int .i64 0), (.bool false), (.int .i64 0), (.int .u64 0), (.int .i64 0), (.int .u64 0), (.int .u64 0)] e true), (2, 0, .tail off .u64 l eg)]⟩) B (KSt.low (S0 dk th ths kp sd e0 off n c e l eg)) Q := by
  rw [C]; refine Gets.seq ?_
  refine Gets.ofN fitU desk_sound (conT_agree _ _) 12 40 (by kernel_rfl) (x := .normal) (s' := (S1 dk th ths kp sd e0 off n c e l eg)) (R1 dk th ths kp sd e0 off n c e l eg) ?_
  show Gets _ _ (codeAt [1] B) _ _
  rw [C1]; refine Gets.seq ?_
  refine Gets.ofN fitU desk_sound (conT_agree _ _) 12 40 (by kernel_rfl) (x := .normal) (s' := (S3 dk th ths kp sd e0 off n c e l eg)) ((R2 dk th ths kp sd e0 off n c e l eg).trans (by rw [condF (decide_eq_false (by omega))])) ?_
  show Gets _ _ (codeAt [1, 1] B) _ _
  rw [C1_1]; refine Gets.seq ?_
  exact hq
noncomputable def S4 (l : List Int) (dk : Int) (th : Int) (ths : Int) (kp : Int) (sd : Int) (e0 : TypeId) (off : Nat) (n : Nat) (c : Nat) (e : TypeId) (eg : TypeId) : KSt := ⟨(frameL 33 [(0, (.pointer (some ⟨1, 0, none⟩))), (3, (.pointer (some ⟨3, 0, none⟩))), (5, (.int .u64 (l.getD 0 0)))]), ⟨4, 1, [(3, 0, .cells [(.int .u64 dk), (.int .i64 th), (.int .i64 ths), (.int .i64 kp), (.int .u64 sd)] 24 true), (0, 0, .cells [(.int .i64 1), (.int .i64 64), (.int .i64 1), (.int .i64 64)] e0 false), (1, 0, .cells [(.slice (some ⟨2, off, none⟩) n c), (.int .i64 1), (.bool false), (.int .i64 0), (.int .u64 0), (.int .i64 0), (.int .u64 0), (.int .u64 0)] e true), (2, 0, .tail off .u64 l eg)]⟩⟩
theorem p1_1 (dk th ths kp sd r k : Int) (off n c : Nat) (l : List Int) (e0 e eg : TypeId) (hl : l.length = n) (hn : n ≤ 9223372036854775807) (h0 : 0 < n)   {Q : Ex → St → Prop} (hq : Gets Tryd.prog (KH.low ⟨3, 1, [(0, 0, .cells [(.int .i64 1), (.int .i64 64), (.int .i64 1), (.int .i64 64)] e0 false), (1, 0, .cells [(.slice (some ⟨2, off, none⟩) n c), (.int .i64 0), (.bool false), (.int .i64 0), (.int .u64 0), (.int .i64 0), (.int .u64 0), (.int .u64 0)] e true), (2, 0, .tail off .u64 l eg)]⟩) (codeAt [1, 1, 0] B) (KSt.low (S4 l dk th ths kp sd e0 off n c e eg)) (onN (fun s => Gets Tryd.prog (KH.low ⟨3, 1, [(0, 0, .cells [(.int .i64 1), (.int .i64 64), (.int .i64 1), (.int .i64 64)] e0 false), (1, 0, .cells [(.slice (some ⟨2, off, none⟩) n c), (.int .i64 0), (.bool false), (.int .i64 0), (.int .u64 0), (.int .i64 0), (.int .u64 0), (.int .u64 0)] e true), (2, 0, .tail off .u64 l eg)]⟩) (codeAt [1, 1, 1] B) s (Q)) (Q))) : Gets Tryd.prog (KH.low ⟨3, 1, [(0, 0, .cells [(.int .i64 1), (.int .i64 64), (.int .i64 1), (.int .i64 64)] e0 false), (1, 0, .cells [(.slice (some ⟨2, off, none⟩) n c), (.int .i64 0), (.bool false), (.int .i64 0), (.int .u64 0), (.int .i64 0), (.int .u64 0), (.int .u64 0)] e true), (2, 0, .tail off .u64 l eg)]⟩) B (KSt.low (S0 dk th ths kp sd e0 off n c e l eg)) Q := by
  rw [C]; refine Gets.seq ?_
  refine Gets.ofN fitU desk_sound (conT_agree _ _) 12 40 (by kernel_rfl) (x := .normal) (s' := (S1 dk th ths kp sd e0 off n c e l eg)) (R1 dk th ths kp sd e0 off n c e l eg) ?_
  show Gets _ _ (codeAt [1] B) _ _
  rw [C1]; refine Gets.seq ?_
  refine Gets.ofN fitU desk_sound (conT_agree _ _) 12 40 (by kernel_rfl) (x := .normal) (s' := (S4 l dk th ths kp sd e0 off n c e eg)) ((R2 dk th ths kp sd e0 off n c e l eg).trans (by rw [condT (decide_eq_true (by omega)), if_pos (⟨by omega, by omega⟩), condT (ble_t (by omega)), obind_at (k := 0) (by omega) (by omega)] <;> rfl)) ?_
  show Gets _ _ (codeAt [1, 1] B) _ _
  rw [C1_1]; refine Gets.seq ?_
  exact hq
noncomputable def S5 (r : Int) (dk : Int) (th : Int) (ths : Int) (kp : Int) (sd : Int) (e0 : TypeId) (off : Nat) (n : Nat) (c : Nat) (k : Int) (e : TypeId) (l : List Int) (eg : TypeId) : KSt := ⟨(frameL 33 [(0, (.pointer (some ⟨1, 0, none⟩))), (3, (.pointer (some ⟨3, 0, none⟩))), (5, (.int .u64 r))]), ⟨4, 1, [(3, 0, .cells [(.int .u64 dk), (.int .i64 th), (.int .i64 ths), (.int .i64 kp), (.int .u64 sd)] 24 true), (0, 0, .cells [(.int .i64 1), (.int .i64 64), (.int .i64 1), (.int .i64 64)] e0 false), (1, 0, .cells [(.slice (some ⟨2, off, none⟩) n c), (.int .i64 k), (.bool false), (.int .i64 0), (.int .u64 0), (.int .i64 0), (.int .u64 0), (.int .u64 0)] e true), (2, 0, .tail off .u64 l eg)]⟩⟩
theorem C1_1_0_0_0 : (codeAt [1, 1, 0, 0, 0] B) = .seq (codeAt [1, 1, 0, 0, 0, 0] B) (codeAt [1, 1, 0, 0, 0, 1] B) := by kernel_rfl
theorem C1_1_0_0_0_0 : (codeAt [1, 1, 0, 0, 0, 0] B) = .seq (codeAt [1, 1, 0, 0, 0, 0, 0] B) (codeAt [1, 1, 0, 0, 0, 0, 1] B) := by kernel_rfl
noncomputable def S6 (r : Int) (dk : Int) (th : Int) (ths : Int) (kp : Int) (sd : Int) (e0 : TypeId) (off : Nat) (n : Nat) (c : Nat) (k : Int) (e : TypeId) (l : List Int) (eg : TypeId) : KSt := ⟨(frameL 33 [(0, (.pointer (some ⟨1, 0, none⟩))), (3, (.pointer (some ⟨3, 0, none⟩))), (5, (.int .u64 r)), (15, (.bool true))]), ⟨4, 1, [(3, 0, .cells [(.int .u64 dk), (.int .i64 th), (.int .i64 ths), (.int .i64 kp), (.int .u64 sd)] 24 true), (0, 0, .cells [(.int .i64 1), (.int .i64 64), (.int .i64 1), (.int .i64 64)] e0 false), (1, 0, .cells [(.slice (some ⟨2, off, none⟩) n c), (.int .i64 k), (.bool false), (.int .i64 0), (.int .u64 0), (.int .i64 0), (.int .u64 0), (.int .u64 0)] e true), (2, 0, .tail off .u64 l eg)]⟩⟩
theorem R3 (r : Int) (dk : Int) (th : Int) (ths : Int) (kp : Int) (sd : Int) (e0 : TypeId) (off : Nat) (n : Nat) (c : Nat) (k : Int) (e : TypeId) (l : List Int) (eg : TypeId) : evCK Tryd.prog cfgU (runK Tryd.prog cfgU fsU (conT deskDom deskE) 12 40) 12 (codeAt [1, 1, 0, 0, 0, 0, 0] B) (S5 r dk th ths kp sd e0 off n c k e l eg) (normC 3 [0, 3, 5, 15]) =
  some (.normal, (S6 r dk th ths kp sd e0 off n c k e l eg)) := by kernel_rfl
theorem C1_1_0_0_0_0_1 : (codeAt [1, 1, 0, 0, 0, 0, 1] B) = .cond (.tmp 15) (codeAt [1, 1, 0, 0, 0, 0, 1, 0] B) (codeAt [1, 1, 0, 0, 0, 0, 1, 1] B) := by kernel_rfl
theorem R4 (r : Int) (dk : Int) (th : Int) (ths : Int) (kp : Int) (sd : Int) (e0 : TypeId) (off : Nat) (n : Nat) (c : Nat) (k : Int) (e : TypeId) (l : List Int) (eg : TypeId) : evCK Tryd.prog cfgU (runK Tryd.prog cfgU fsU (conT deskDom deskE) 12 40) 12 (codeAt [1, 1, 0, 0, 0, 0, 1, 0] B) (S6 r dk th ths kp sd e0 off n c k e l eg) (normC 3 [0, 3, 5]) =
  some (.normal, (S5 r dk th ths kp sd e0 off n c k e l eg)) := by kernel_rfl
theorem C1_1_0_0_0_1 : (codeAt [1, 1, 0, 0, 0, 1] B) = .block 1 (codeAt [1, 1, 0, 0, 0, 1, 0] B) := by kernel_rfl
theorem C1_1_0_0_0_1_0 : (codeAt [1, 1, 0, 0, 0, 1, 0] B) = .seq (codeAt [1, 1, 0, 0, 0, 1, 0, 0] B) (codeAt [1, 1, 0, 0, 0, 1, 0, 1] B) := by kernel_rfl
noncomputable def S7 (r : Int) (dk : Int) (th : Int) (ths : Int) (kp : Int) (sd : Int) (e0 : TypeId) (off : Nat) (n : Nat) (c : Nat) (k : Int) (e : TypeId) (l : List Int) (eg : TypeId) : KSt := ⟨(frameL 33 [(0, (.pointer (some ⟨1, 0, none⟩))), (3, (.pointer (some ⟨3, 0, none⟩))), (5, (.int .u64 r))]), ⟨4, 1, [(3, 0, .cells [(.int .u64 dk), (.int .i64 th), (.int .i64 ths), (.int .i64 kp), (.int .u64 sd)] 24 true), (0, 0, .cells [(.int .i64 1), (.int .i64 64), (.int .i64 1), (.int .i64 64)] e0 false), (1, 0, .cells [(.slice (some ⟨2, off, none⟩) n c), (.int .i64 (IntKind.wrap .i64 (k + 1))), (.bool false), (.int .i64 0), (.int .u64 0), (.int .i64 0), (.int .u64 0), (.int .u64 0)] e true), (2, 0, .tail off .u64 l eg)]⟩⟩
noncomputable def S8 (r : Int) (dk : Int) (th : Int) (ths : Int) (kp : Int) (sd : Int) (e0 : TypeId) (off : Nat) (n : Nat) (c : Nat) (k : Int) (e : TypeId) (l : List Int) (eg : TypeId) : KSt := ⟨(frameL 33 [(0, (.pointer (some ⟨1, 0, none⟩))), (3, (.pointer (some ⟨3, 0, none⟩))), (5, (.int .u64 r))]), ⟨4, 1, [(3, 0, .cells [(.int .u64 dk), (.int .i64 th), (.int .i64 ths), (.int .i64 kp), (.int .u64 sd)] 24 true), (0, 0, .cells [(.int .i64 1), (.int .i64 64), (.int .i64 1), (.int .i64 64)] e0 false), (1, 0, .cells [(.slice (some ⟨2, off, none⟩) n c), (.int .i64 k), (.bool true), (.int .i64 2), (.int .u64 dk), (.int .i64 (tabCellV th)), (.int .u64 0), (.int .u64 r)] e true), (2, 0, .tail off .u64 l eg)]⟩⟩
theorem R5 (r : Int) (dk : Int) (th : Int) (ths : Int) (kp : Int) (sd : Int) (e0 : TypeId) (off : Nat) (n : Nat) (c : Nat) (k : Int) (e : TypeId) (l : List Int) (eg : TypeId) : evCK Tryd.prog cfgU (runK Tryd.prog cfgU fsU (conT deskDom deskE) 12 40) 12 (codeAt [1, 1, 0, 0, 0, 1, 0, 0] B) (S5 r dk th ths kp sd e0 off n c k e l eg) (normC 3 [0, 3, 5]) =
  bif (decide (k < ((n : Nat) : Int))) then
    if 0 ≤ (IntKind.wrap .i64 ((IntKind.wrap .i64 (k + 1)) - 1)) ∧ (IntKind.wrap .i64 ((IntKind.wrap .i64 (k + 1)) - 1)) < ((n : Nat) : Int) then
      bif (Nat.ble off (off + ((Int.toNat ((IntKind.wrap .i64 ((IntKind.wrap .i64 (k + 1)) - 1)))) * 1))) then
        obind (l[((off + ((Int.toNat ((IntKind.wrap .i64 ((IntKind.wrap .i64 (k + 1)) - 1)))) * 1)) - off)]?) fun n1 =>
          some (.normal, (S7 r dk th ths kp sd e0 off n c k e l eg))
      else
        none
    else
      none
  else
    some (.normal, (S8 r dk th ths kp sd e0 off n c k e l eg)) := by kernel_rfl
theorem C1_1_0_0_0_1_0_1 : (codeAt [1, 1, 0, 0, 0, 1, 0, 1] B) = .seq (codeAt [1, 1, 0, 0, 0, 1, 0, 1, 0] B) (codeAt [1, 1, 0, 0, 0, 1, 0, 1, 1] B) := by kernel_rfl
noncomputable def S9 (r : Int) (dk : Int) (th : Int) (ths : Int) (kp : Int) (sd : Int) (e0 : TypeId) (off : Nat) (n : Nat) (c : Nat) (k : Int) (e : TypeId) (l : List Int) (eg : TypeId) : KSt := ⟨(frameL 33 [(0, (.pointer (some ⟨1, 0, none⟩))), (3, (.pointer (some ⟨3, 0, none⟩))), (5, (.int .u64 r)), (6, (.int .u64 0))]), ⟨4, 1, [(3, 0, .cells [(.int .u64 dk), (.int .i64 th), (.int .i64 ths), (.int .i64 kp), (.int .u64 sd)] 24 true), (0, 0, .cells [(.int .i64 1), (.int .i64 64), (.int .i64 1), (.int .i64 64)] e0 false), (1, 0, .cells [(.slice (some ⟨2, off, none⟩) n c), (.int .i64 k), (.bool true), (.int .i64 2), (.int .u64 dk), (.int .i64 (tabCellV th)), (.int .u64 0), (.int .u64 r)] e true), (2, 0, .tail off .u64 l eg)]⟩⟩
theorem R6 (r : Int) (dk : Int) (th : Int) (ths : Int) (kp : Int) (sd : Int) (e0 : TypeId) (off : Nat) (n : Nat) (c : Nat) (k : Int) (e : TypeId) (l : List Int) (eg : TypeId) : evCK Tryd.prog cfgU (runK Tryd.prog cfgU fsU (conT deskDom deskE) 12 40) 12 (codeAt [1, 1, 0, 0, 0, 1, 0, 1, 0] B) (S8 r dk th ths kp sd e0 off n c k e l eg) (normC 3 [0, 3, 5, 6]) =
  some (.normal, (S9 r dk th ths kp sd e0 off n c k e l eg)) := by kernel_rfl
theorem C1_1_0_0_0_1_0_1_1 : (codeAt [1, 1, 0, 0, 0, 1, 0, 1, 1] B) = .seq (codeAt [1, 1, 0, 0, 0, 1, 0, 1, 1, 0] B) (codeAt [1, 1, 0, 0, 0, 1, 0, 1, 1, 1] B) := by kernel_rfl
theorem C1_1_0_0_0_1_0_1_1_0 : (codeAt [1, 1, 0, 0, 0, 1, 0, 1, 1, 0] B) = .seq (codeAt [1, 1, 0, 0, 0, 1, 0, 1, 1, 0, 0] B) (codeAt [1, 1, 0, 0, 0, 1, 0, 1, 1, 0, 1] B) := by kernel_rfl
noncomputable def S10 (r : Int) (dk : Int) (th : Int) (ths : Int) (kp : Int) (sd : Int) (e0 : TypeId) (off : Nat) (n : Nat) (c : Nat) (k : Int) (e : TypeId) (l : List Int) (eg : TypeId) : KSt := ⟨(frameL 33 [(0, (.pointer (some ⟨1, 0, none⟩))), (3, (.pointer (some ⟨3, 0, none⟩))), (5, (.int .u64 r)), (6, (.int .u64 0)), (30, (.bool (0 == r)))]), ⟨4, 1, [(3, 0, .cells [(.int .u64 dk), (.int .i64 th), (.int .i64 ths), (.int .i64 kp), (.int .u64 sd)] 24 true), (0, 0, .cells [(.int .i64 1), (.int .i64 64), (.int .i64 1), (.int .i64 64)] e0 false), (1, 0, .cells [(.slice (some ⟨2, off, none⟩) n c), (.int .i64 k), (.bool true), (.int .i64 2), (.int .u64 dk), (.int .i64 (tabCellV th)), (.int .u64 0), (.int .u64 r)] e true), (2, 0, .tail off .u64 l eg)]⟩⟩
theorem R7 (r : Int) (dk : Int) (th : Int) (ths : Int) (kp : Int) (sd : Int) (e0 : TypeId) (off : Nat) (n : Nat) (c : Nat) (k : Int) (e : TypeId) (l : List Int) (eg : TypeId) : evCK Tryd.prog cfgU (runK Tryd.prog cfgU fsU (conT deskDom deskE) 12 40) 12 (codeAt [1, 1, 0, 0, 0, 1, 0, 1, 1, 0, 0] B) (S9 r dk th ths kp sd e0 off n c k e l eg) (normC 3 [0, 3, 5, 6, 30]) =
  some (.normal, (S10 r dk th ths kp sd e0 off n c k e l eg)) := by kernel_rfl
theorem C1_1_0_0_0_1_0_1_1_0_1 : (codeAt [1, 1, 0, 0, 0, 1, 0, 1, 1, 0, 1] B) = .cond (.tmp 30) (codeAt [1, 1, 0, 0, 0, 1, 0, 1, 1, 0, 1, 0] B) (codeAt [1, 1, 0, 0, 0, 1, 0, 1, 1, 0, 1, 1] B) := by kernel_rfl
theorem C1_1_0_0_0_1_0_1_1_0_1_0 : (codeAt [1, 1, 0, 0, 0, 1, 0, 1, 1, 0, 1, 0] B) = .seq (codeAt [1, 1, 0, 0, 0, 1, 0, 1, 1, 0, 1, 0, 0] B) (codeAt [1, 1, 0, 0, 0, 1, 0, 1, 1, 0, 1, 0, 1] B) := by kernel_rfl
noncomputable def S11 (r : Int) (e0 : TypeId) (off : Nat) (n : Nat) (c : Nat) (k : Int) (dk : Int) (th : Int) (e : TypeId) (l : List Int) (eg : TypeId) : KSt := ⟨(frameL 33 [(4, (.int .u64 r))]), ⟨3, 1, [(0, 0, .cells [(.int .i64 1), (.int .i64 64), (.int .i64 1), (.int .i64 64)] e0 false), (1, 0, .cells [(.slice (some ⟨2, off, none⟩) n c), (.int .i64 k), (.bool true), (.int .i64 2), (.int .u64 dk), (.int .i64 (tabCellV th)), (.int .u64 0), (.int .u64 r)] e true), (2, 0, .tail off .u64 l eg)]⟩⟩
theorem R8 (r : Int) (dk : Int) (th : Int) (ths : Int) (kp : Int) (sd : Int) (e0 : TypeId) (off : Nat) (n : Nat) (c : Nat) (k : Int) (e : TypeId) (l : List Int) (eg : TypeId) : evCK Tryd.prog cfgU (runK Tryd.prog cfgU fsU (conT deskDom deskE) 12 40) 12 (codeAt [1, 1, 0, 0, 0, 1, 0, 1, 1, 0, 1, 0, 0] B) (S10 r dk th ths kp sd e0 off n c k e l eg) (normC 3 [4]) =
  some (.normal, (S11 r e0 off n c k dk th e l eg)) := by kernel_rfl
theorem C1_1_0_0_0_1_0_1_1_0_1_0_1 : (codeAt [1, 1, 0, 0, 0, 1, 0, 1, 1, 0, 1, 0, 1] B) = .ret := by kernel_rfl
theorem a_2 (dk th ths kp sd r k : Int) (off n c : Nat) (l : List Int) (e0 e eg : TypeId) (hl : l.length = n) (hn : n ≤ 9223372036854775807) (hk : 0 ≤ k) (h0 : k = (n : Int))  (q1 : (0 == r) = true) {Q : Ex → St → Prop} (hq : Q .ret (KSt.low (S11 r e0 off n c k dk th e l eg))) : Gets Tryd.prog (KH.low ⟨3, 1, [(0, 0, .cells [(.int .i64 1), (.int .i64 64), (.int .i64 1), (.int .i64 64)] e0 false), (1, 0, .cells [(.slice (some ⟨2, off, none⟩) n c), (.int .i64 0), (.bool false), (.int .i64 0), (.int .u64 0), (.int .i64 0), (.int .u64 0), (.int .u64 0)] e true), (2, 0, .tail off .u64 l eg)]⟩) (codeAt [1, 1, 0, 0, 0] B) (KSt.low (S5 r dk th ths kp sd e0 off n c k e l eg)) Q := by
  rw [C1_1_0_0_0]; refine Gets.seq ?_
  rw [C1_1_0_0_0_0]; refine Gets.seq ?_
  refine Gets.ofN fitU desk_sound (conT_agree _ _) 12 40 (by kernel_rfl) (x := .normal) (s' := (S6 r dk th ths kp sd e0 off n c k e l eg)) (R3 r dk th ths kp sd e0 off n c k e l eg) ?_
  show Gets _ _ (codeAt [1, 1, 0, 0, 0, 0, 1] B) _ _
  rw [C1_1_0_0_0_0_1]; refine Gets.cond true (by kernel_rfl) (show evalX (KSt.ts (S6 r dk th ths kp sd e0 off n c k e l eg)) (.tmp 15) = .bool true by kernel_rfl) ?_; show Gets _ _ (codeAt [1, 1, 0, 0, 0, 0, 1, 0] B) _ _
  refine Gets.ofN fitU desk_sound (conT_agree _ _) 12 40 (by kernel_rfl) (x := .normal) (s' := (S5 r dk th ths kp sd e0 off n c k e l eg)) (R4 r dk th ths kp sd e0 off n c k e l eg) ?_
  show Gets _ _ (codeAt [1, 1, 0, 0, 0, 1] B) _ _
  rw [C1_1_0_0_0_1]; refine Gets.block ?_
  rw [C1_1_0_0_0_1_0]; refine Gets.seq ?_
  refine Gets.ofN fitU desk_sound (conT_agree _ _) 12 40 (by kernel_rfl) (x := .normal) (s' := (S8 r dk th ths kp sd e0 off n c k e l eg)) ((R5 r dk th ths kp sd e0 off n c k e l eg).trans (by rw [condF (decide_eq_false (by omega))])) ?_
  show Gets _ _ (codeAt [1, 1, 0, 0, 0, 1, 0, 1] B) _ _
  rw [C1_1_0_0_0_1_0_1]; refine Gets.seq ?_
  refine Gets.ofN fitU desk_sound (conT_agree _ _) 12 40 (by kernel_rfl) (x := .normal) (s' := (S9 r dk th ths kp sd e0 off n c k e l eg)) (R6 r dk th ths kp sd e0 off n c k e l eg) ?_
  show Gets _ _ (codeAt [1, 1, 0, 0, 0, 1, 0, 1, 1] B) _ _
  rw [C1_1_0_0_0_1_0_1_1]; refine Gets.seq ?_
  rw [C1_1_0_0_0_1_0_1_1_0]; refine Gets.seq ?_
  refine Gets.ofN fitU desk_sound (conT_agree _ _) 12 40 (by kernel_rfl) (x := .normal) (s' := (S10 r dk th ths kp sd e0 off n c k e l eg)) (R7 r dk th ths kp sd e0 off n c k e l eg) ?_
  show Gets _ _ (codeAt [1, 1, 0, 0, 0, 1, 0, 1, 1, 0, 1] B) _ _
  rw [C1_1_0_0_0_1_0_1_1_0_1]; refine Gets.cond true (by kernel_rfl) ((show evalX (KSt.ts (S10 r dk th ths kp sd e0 off n c k e l eg)) (.tmp 30) = .bool (0 == r) by kernel_rfl).trans (by rw [(show (0 == r) = true from q1)])) ?_; show Gets _ _ (codeAt [1, 1, 0, 0, 0, 1, 0, 1, 1, 0, 1, 0] B) _ _
  rw [C1_1_0_0_0_1_0_1_1_0_1_0]; refine Gets.seq ?_
  refine Gets.ofN fitU desk_sound (conT_agree _ _) 12 40 (by kernel_rfl) (x := .normal) (s' := (S11 r e0 off n c k dk th e l eg)) (R8 r dk th ths kp sd e0 off n c k e l eg) ?_
  show Gets _ _ (codeAt [1, 1, 0, 0, 0, 1, 0, 1, 1, 0, 1, 0, 1] B) _ _
  rw [C1_1_0_0_0_1_0_1_1_0_1_0_1]; refine Gets.ev fitU.mix fitU.cfg (fitU.sound desk_sound 12 0) 12 rfl (s' := KSt.low (S11 r e0 off n c k dk th e l eg)) (x := .ret) rfl ?_
  exact hq
noncomputable def S12 (dk : Int) (th : Int) (ths : Int) (kp : Int) (sd : Int) (e0 : TypeId) (off : Nat) (n : Nat) (c : Nat) (k : Int) (r : Int) (e : TypeId) (l : List Int) (eg : TypeId) : KSt := ⟨(frameL 33 [(0, (.pointer (some ⟨1, 0, none⟩))), (3, (.pointer (some ⟨3, 0, none⟩))), (6, (.int .u64 0))]), ⟨4, 1, [(3, 0, .cells [(.int .u64 dk), (.int .i64 th), (.int .i64 ths), (.int .i64 kp), (.int .u64 sd)] 24 true), (0, 0, .cells [(.int .i64 1), (.int .i64 64), (.int .i64 1), (.int .i64 64)] e0 false), (1, 0, .cells [(.slice (some ⟨2, off, none⟩) n c), (.int .i64 k), (.bool true), (.int .i64 2), (.int .u64 dk), (.int .i64 (tabCellV th)), (.int .u64 0), (.int .u64 r)] e true), (2, 0, .tail off .u64 l eg)]⟩⟩
theorem R9 (r : Int) (dk : Int) (th : Int) (ths : Int) (kp : Int) (sd : Int) (e0 : TypeId) (off : Nat) (n : Nat) (c : Nat) (k : Int) (e : TypeId) (l : List Int) (eg : TypeId) : evCK Tryd.prog cfgU (runK Tryd.prog cfgU fsU (conT deskDom deskE) 12 40) 12 (codeAt [1, 1, 0, 0, 0, 1, 0, 1, 1, 0, 1, 1] B) (S10 r dk th ths kp sd e0 off n c k e l eg) (normC 3 [0, 3, 6]) =
  some (.normal, (S12 dk th ths kp sd e0 off n c k r e l eg)) := by kernel_rfl
noncomputable def S13 (dk : Int) (th : Int) (ths : Int) (kp : Int) (sd : Int) (e0 : TypeId) (off : Nat) (n : Nat) (c : Nat) (k : Int) (r : Int) (e : TypeId) (l : List Int) (eg : TypeId) : KSt := ⟨(frameL 33 [(0, (.pointer (some ⟨1, 0, none⟩))), (3, (.pointer (some ⟨3, 0, none⟩))), (5, (.int .u64 0))]), ⟨4, 1, [(3, 0, .cells [(.int .u64 dk), (.int .i64 th), (.int .i64 ths), (.int .i64 kp), (.int .u64 sd)] 24 true), (0, 0, .cells [(.int .i64 1), (.int .i64 64), (.int .i64 1), (.int .i64 64)] e0 false), (1, 0, .cells [(.slice (some ⟨2, off, none⟩) n c), (.int .i64 k), (.bool true), (.int .i64 2), (.int .u64 dk), (.int .i64 (tabCellV th)), (.int .u64 0), (.int .u64 r)] e true), (2, 0, .tail off .u64 l eg)]⟩⟩
theorem R10 (dk : Int) (th : Int) (ths : Int) (kp : Int) (sd : Int) (e0 : TypeId) (off : Nat) (n : Nat) (c : Nat) (k : Int) (r : Int) (e : TypeId) (l : List Int) (eg : TypeId) : evCK Tryd.prog cfgU (runK Tryd.prog cfgU fsU (conT deskDom deskE) 12 40) 12 (codeAt [1, 1, 0, 0, 0, 1, 0, 1, 1, 1] B) (S12 dk th ths kp sd e0 off n c k r e l eg) (normC 3 [0, 3, 5]) =
  some (.normal, (S13 dk th ths kp sd e0 off n c k r e l eg)) := by kernel_rfl
theorem a_3 (dk th ths kp sd r k : Int) (off n c : Nat) (l : List Int) (e0 e eg : TypeId) (hl : l.length = n) (hn : n ≤ 9223372036854775807) (hk : 0 ≤ k) (h0 : k = (n : Int))  (q1 : (0 == r) = false) {Q : Ex → St → Prop} (hq : Q .normal (KSt.low (S13 dk th ths kp sd e0 off n c k r e l eg))) : Gets Tryd.prog (KH.low ⟨3, 1, [(0, 0, .cells [(.int .i64 1), (.int .i64 64), (.int .i64 1), (.int .i64 64)] e0 false), (1, 0, .cells [(.slice (some ⟨2, off, none⟩) n c), (.int .i64 0), (.bool false), (.int .i64 0), (.int .u64 0), (.int .i64 0), (.int .u64 0), (.int .u64 0)] e true), (2, 0, .tail off .u64 l eg)]⟩) (codeAt [1, 1, 0, 0, 0] B) (KSt.low (S5 r dk th ths kp sd e0 off n c k e l eg)) Q := by
  rw [C1_1_0_0_0]; refine Gets.seq ?_
  rw [C1_1_0_0_0_0]; refine Gets.seq ?_
  refine Gets.ofN fitU desk_sound (conT_agree _ _) 12 40 (by kernel_rfl) (x := .normal) (s' := (S6 r dk th ths kp sd e0 off n c k e l eg)) (R3 r dk th ths kp sd e0 off n c k e l eg) ?_
  show Gets _ _ (codeAt [1, 1, 0, 0, 0, 0, 1] B) _ _
  rw [C1_1_0_0_0_0_1]; refine Gets.cond true (by kernel_rfl) (show evalX (KSt.ts (S6 r dk th ths kp sd e0 off n c k e l eg)) (.tmp 15) = .bool true by kernel_rfl) ?_; show Gets _ _ (codeAt [1, 1, 0, 0, 0, 0, 1, 0] B) _ _
  refine Gets.ofN fitU desk_sound (conT_agree _ _) 12 40 (by kernel_rfl) (x := .normal) (s' := (S5 r dk th ths kp sd e0 off n c k e l eg)) (R4 r dk th ths kp sd e0 off n c k e l eg) ?_
  show Gets _ _ (codeAt [1, 1, 0, 0, 0, 1] B) _ _
  rw [C1_1_0_0_0_1]; refine Gets.block ?_
  rw [C1_1_0_0_0_1_0]; refine Gets.seq ?_
  refine Gets.ofN fitU desk_sound (conT_agree _ _) 12 40 (by kernel_rfl) (x := .normal) (s' := (S8 r dk th ths kp sd e0 off n c k e l eg)) ((R5 r dk th ths kp sd e0 off n c k e l eg).trans (by rw [condF (decide_eq_false (by omega))])) ?_
  show Gets _ _ (codeAt [1, 1, 0, 0, 0, 1, 0, 1] B) _ _
  rw [C1_1_0_0_0_1_0_1]; refine Gets.seq ?_
  refine Gets.ofN fitU desk_sound (conT_agree _ _) 12 40 (by kernel_rfl) (x := .normal) (s' := (S9 r dk th ths kp sd e0 off n c k e l eg)) (R6 r dk th ths kp sd e0 off n c k e l eg) ?_
  show Gets _ _ (codeAt [1, 1, 0, 0, 0, 1, 0, 1, 1] B) _ _
  rw [C1_1_0_0_0_1_0_1_1]; refine Gets.seq ?_
  rw [C1_1_0_0_0_1_0_1_1_0]; refine Gets.seq ?_
  refine Gets.ofN fitU desk_sound (conT_agree _ _) 12 40 (by kernel_rfl) (x := .normal) (s' := (S10 r dk th ths kp sd e0 off n c k e l eg)) (R7 r dk th ths kp sd e0 off n c k e l eg) ?_
  show Gets _ _ (codeAt [1, 1, 0, 0, 0, 1, 0, 1, 1, 0, 1] B) _ _
  rw [C1_1_0_0_0_1_0_1_1_0_1]; refine Gets.cond false (by kernel_rfl) ((show evalX (KSt.ts (S10 r dk th ths kp sd e0 off n c k e l eg)) (.tmp 30) = .bool (0 == r) by kernel_rfl).trans (by rw [(show (0 == r) = false from q1)])) ?_; show Gets _ _ (codeAt [1, 1, 0, 0, 0, 1, 0, 1, 1, 0, 1, 1] B) _ _
  refine Gets.ofN fitU desk_sound (conT_agree _ _) 12 40 (by kernel_rfl) (x := .normal) (s' := (S12 dk th ths kp sd e0 off n c k r e l eg)) (R9 r dk th ths kp sd e0 off n c k e l eg) ?_
  show Gets _ _ (codeAt [1, 1, 0, 0, 0, 1, 0, 1, 1, 1] B) _ _
  refine Gets.ofN fitU desk_sound (conT_agree _ _) 12 40 (by kernel_rfl) (x := .normal) (s' := (S13 dk th ths kp sd e0 off n c k r e l eg)) (R10 dk th ths kp sd e0 off n c k r e l eg) ?_
  exact hq
noncomputable def S14 (r : Int) (dk : Int) (th : Int) (ths : Int) (kp : Int) (sd : Int) (e0 : TypeId) (off : Nat) (n : Nat) (c : Nat) (k : Int) (e : TypeId) (l : List Int) (eg : TypeId) : KSt := ⟨(frameL 33 [(0, (.pointer (some ⟨1, 0, none⟩))), (3, (.pointer (some ⟨3, 0, none⟩))), (5, (.int .u64 r))]), ⟨4, 1, [(3, 0, .cells [(.int .u64 dk), (.int .i64 th), (.int .i64 ths), (.int .i64 kp), (.int .u64 sd)] 24 true), (0, 0, .cells [(.int .i64 1), (.int .i64 64), (.int .i64 1), (.int .i64 64)] e0 false), (1, 0, .cells [(.slice (some ⟨2, off, none⟩) n c), (.int .i64 (k + 1)), (.bool false), (.int .i64 0), (.int .u64 0), (.int .i64 0), (.int .u64 0), (.int .u64 0)] e true), (2, 0, .tail off .u64 l eg)]⟩⟩
noncomputable def S15 (r : Int) (n1 : Int) (dk : Int) (th : Int) (ths : Int) (kp : Int) (sd : Int) (e0 : TypeId) (off : Nat) (n : Nat) (c : Nat) (k : Int) (e : TypeId) (l : List Int) (eg : TypeId) : KSt := ⟨(frameL 33 [(0, (.pointer (some ⟨1, 0, none⟩))), (3, (.pointer (some ⟨3, 0, none⟩))), (5, (.int .u64 r)), (6, (.int .u64 n1))]), ⟨4, 1, [(3, 0, .cells [(.int .u64 dk), (.int .i64 th), (.int .i64 ths), (.int .i64 kp), (.int .u64 sd)] 24 true), (0, 0, .cells [(.int .i64 1), (.int .i64 64), (.int .i64 1), (.int .i64 64)] e0 false), (1, 0, .cells [(.slice (some ⟨2, off, none⟩) n c), (.int .i64 (IntKind.wrap .i64 ((k + 1) + 1))), (.bool false), (.int .i64 0), (.int .u64 0), (.int .i64 0), (.int .u64 0), (.int .u64 0)] e true), (2, 0, .tail off .u64 l eg)]⟩⟩
noncomputable def S16 (r : Int) (dk : Int) (th : Int) (ths : Int) (kp : Int) (sd : Int) (e0 : TypeId) (off : Nat) (n : Nat) (c : Nat) (k : Int) (e : TypeId) (l : List Int) (eg : TypeId) : KSt := ⟨(frameL 33 [(0, (.pointer (some ⟨1, 0, none⟩))), (3, (.pointer (some ⟨3, 0, none⟩))), (5, (.int .u64 r)), (6, (.int .u64 0))]), ⟨4, 1, [(3, 0, .cells [(.int .u64 dk), (.int .i64 th), (.int .i64 ths), (.int .i64 kp), (.int .u64 sd)] 24 true), (0, 0, .cells [(.int .i64 1), (.int .i64 64), (.int .i64 1), (.int .i64 64)] e0 false), (1, 0, .cells [(.slice (some ⟨2, off, none⟩) n c), (.int .i64 (k + 1)), (.bool true), (.int .i64 1), (.int .u64 dk), (.int .i64 0), (.int .u64 0), (.int .u64 0)] e true), (2, 0, .tail off .u64 l eg)]⟩⟩
theorem R11 (r : Int) (dk : Int) (th : Int) (ths : Int) (kp : Int) (sd : Int) (e0 : TypeId) (off : Nat) (n : Nat) (c : Nat) (k : Int) (e : TypeId) (l : List Int) (eg : TypeId) : evCK Tryd.prog cfgU (runK Tryd.prog cfgU fsU (conT deskDom deskE) 12 40) 12 (codeAt [1, 1, 0, 0, 0, 1, 0, 1, 0] B) (S14 r dk th ths kp sd e0 off n c k e l eg) (normC 3 [0, 3, 5, 6]) =
  bif (decide ((k + 1) < ((n : Nat) : Int))) then
    if 0 ≤ (IntKind.wrap .i64 ((IntKind.wrap .i64 ((k + 1) + 1)) - 1)) ∧ (IntKind.wrap .i64 ((IntKind.wrap .i64 ((k + 1) + 1)) - 1)) < ((n : Nat) : Int) then
      bif (Nat.ble off (off + ((Int.toNat ((IntKind.wrap .i64 ((IntKind.wrap .i64 ((k + 1) + 1)) - 1)))) * 1))) then
        obind (l[((off + ((Int.toNat ((IntKind.wrap .i64 ((IntKind.wrap .i64 ((k + 1) + 1)) - 1)))) * 1)) - off)]?) fun n1 =>
          some (.normal, (S15 r n1 dk th ths kp sd e0 off n c k e l eg))
      else
        none
    else
      none
  else
    some (.normal, (S16 r dk th ths kp sd e0 off n c k e l eg)) := by kernel_rfl
noncomputable def S17 (r : Int) (dk : Int) (th : Int) (ths : Int) (kp : Int) (sd : Int) (e0 : TypeId) (off : Nat) (n : Nat) (c : Nat) (k : Int) (e : TypeId) (l : List Int) (eg : TypeId) : KSt := ⟨(frameL 33 [(0, (.pointer (some ⟨1, 0, none⟩))), (3, (.pointer (some ⟨3, 0, none⟩))), (5, (.int .u64 r)), (6, (.int .u64 0)), (30, (.bool (0 == r)))]), ⟨4, 1, [(3, 0, .cells [(.int .u64 dk), (.int .i64 th), (.int .i64 ths), (.int .i64 kp), (.int .u64 sd)] 24 true), (0, 0, .cells [(.int .i64 1), (.int .i64 64), (.int .i64 1), (.int .i64 64)] e0 false), (1, 0, .cells [(.slice (some ⟨2, off, none⟩) n c), (.int .i64 (k + 1)), (.bool true), (.int .i64 1), (.int .u64 dk), (.int .i64 0), (.int .u64 0), (.int .u64 0)] e true), (2, 0, .tail off .u64 l eg)]⟩⟩
theorem R12 (r : Int) (dk : Int) (th : Int) (ths : Int) (kp : Int) (sd : Int) (e0 : TypeId) (off : Nat) (n : Nat) (c : Nat) (k : Int) (e : TypeId) (l : List Int) (eg : TypeId) : evCK Tryd.prog cfgU (runK Tryd.prog cfgU fsU (conT deskDom deskE) 12 40) 12 (codeAt [1, 1, 0, 0, 0, 1, 0, 1, 1, 0, 0] B) (S16 r dk th ths kp sd e0 off n c k e l eg) (normC 3 [0, 3, 5, 6, 30]) =
  some (.normal, (S17 r dk th ths kp sd e0 off n c k e l eg)) := by kernel_rfl
noncomputable def S18 (r : Int) (e0 : TypeId) (off : Nat) (n : Nat) (c : Nat) (k : Int) (dk : Int) (e : TypeId) (l : List Int) (eg : TypeId) : KSt := ⟨(frameL 33 [(4, (.int .u64 r))]), ⟨3, 1, [(0, 0, .cells [(.int .i64 1), (.int .i64 64), (.int .i64 1), (.int .i64 64)] e0 false), (1, 0, .cells [(.slice (some ⟨2, off, none⟩) n c), (.int .i64 (k + 1)), (.bool true), (.int .i64 1), (.int .u64 dk), (.int .i64 0), (.int .u64 0), (.int .u64 0)] e true), (2, 0, .tail off .u64 l eg)]⟩⟩
theorem R13 (r : Int) (dk : Int) (th : Int) (ths : Int) (kp : Int) (sd : Int) (e0 : TypeId) (off : Nat) (n : Nat) (c : Nat) (k : Int) (e : TypeId) (l : List Int) (eg : TypeId) : evCK Tryd.prog cfgU (runK Tryd.prog cfgU fsU (conT deskDom deskE) 12 40) 12 (codeAt [1, 1, 0, 0, 0, 1, 0, 1, 1, 0, 1, 0, 0] B) (S17 r dk th ths kp sd e0 off n c k e l eg) (normC 3 [4]) =
  some (.normal, (S18 r e0 off n c k dk e l eg)) := by kernel_rfl
theorem b_4 (dk th ths kp sd r k : Int) (off n c : Nat) (l : List Int) (e0 e eg : TypeId) (hl : l.length = n) (hn : n ≤ 9223372036854775807) (hk : 0 ≤ k) (h0 : k + 1 = (n : Int))  (q1 : (0 == r) = true) {Q : Ex → St → Prop} (hq : Q .ret (KSt.low (S18 r e0 off n c k dk e l eg))) : Gets Tryd.prog (KH.low ⟨3, 1, [(0, 0, .cells [(.int .i64 1), (.int .i64 64), (.int .i64 1), (.int .i64 64)] e0 false), (1, 0, .cells [(.slice (some ⟨2, off, none⟩) n c), (.int .i64 0), (.bool false), (.int .i64 0), (.int .u64 0), (.int .i64 0), (.int .u64 0), (.int .u64 0)] e true), (2, 0, .tail off .u64 l eg)]⟩) (codeAt [1, 1, 0, 0, 0] B) (KSt.low (S5 r dk th ths kp sd e0 off n c k e l eg)) Q := by
  rw [C1_1_0_0_0]; refine Gets.seq ?_
  rw [C1_1_0_0_0_0]; refine Gets.seq ?_
  refine Gets.ofN fitU desk_sound (conT_agree _ _) 12 40 (by kernel_rfl) (x := .normal) (s' := (S6 r dk th ths kp sd e0 off n c k e l eg)) (R3 r dk th ths kp sd e0 off n c k e l eg) ?_
  show Gets _ _ (codeAt [1, 1, 0, 0, 0, 0, 1] B) _ _
  rw [C1_1_0_0_0_0_1]; refine Gets.cond true (by kernel_rfl) (show evalX (KSt.ts (S6 r dk th ths kp sd e0 off n c k e l eg)) (.tmp 15) = .bool true by kernel_rfl) ?_; show Gets _ _ (codeAt [1, 1, 0, 0, 0, 0, 1, 0] B) _ _
  refine Gets.ofN fitU desk_sound (conT_agree _ _) 12 40 (by kernel_rfl) (x := .normal) (s' := (S5 r dk th ths kp sd e0 off n c k e l eg)) (R4 r dk th ths kp sd e0 off n c k e l eg) ?_
  show Gets _ _ (codeAt [1, 1, 0, 0, 0, 1] B) _ _
  rw [C1_1_0_0_0_1]; refine Gets.block ?_
  rw [C1_1_0_0_0_1_0]; refine Gets.seq ?_
  refine Gets.ofN fitU desk_sound (conT_agree _ _) 12 40 (by kernel_rfl) (x := .normal) (s' := (S14 r dk th ths kp sd e0 off n c k e l eg)) ((R5 r dk th ths kp sd e0 off n c k e l eg).trans (by rw [condT (decide_eq_true (by omega)), if_pos (⟨by ((try simp (disch := omega) only [wrap_i64_id]) <;> omega), by ((try simp (disch := omega) only [wrap_i64_id]) <;> omega)⟩), condT (ble_t (by omega)), obind_at (k := ((Int.toNat (IntKind.wrap .i64 ((IntKind.wrap .i64 (k + 1)) - 1))) * 1)) (by ((try simp (disch := omega) only [wrap_i64_id]) <;> omega)) (by ((try simp (disch := omega) only [wrap_i64_id]) <;> omega))] <;> (show some (Ex.normal, (S7 r dk th ths kp sd e0 off n c k e l eg)) = some (Ex.normal, (S14 r dk th ths kp sd e0 off n c k e l eg)); unfold S7 S14; rw [(show (IntKind.wrap .i64 (k + 1)) = (k + 1) from wrap_i64_id (by omega) (by omega))]))) ?_
  show Gets _ _ (codeAt [1, 1, 0, 0, 0, 1, 0, 1] B) _ _
  rw [C1_1_0_0_0_1_0_1]; refine Gets.seq ?_
  refine Gets.ofN fitU desk_sound (conT_agree _ _) 12 40 (by kernel_rfl) (x := .normal) (s' := (S16 r dk th ths kp sd e0 off n c k e l eg)) ((R11 r dk th ths kp sd e0 off n c k e l eg).trans (by rw [condF (decide_eq_false (by omega))])) ?_
  show Gets _ _ (codeAt [1, 1, 0, 0, 0, 1, 0, 1, 1] B) _ _
  rw [C1_1_0_0_0_1_0_1_1]; refine Gets.seq ?_
  rw [C1_1_0_0_0_1_0_1_1_0]; refine Gets.seq ?_
  refine Gets.ofN fitU desk_sound (conT_agree _ _) 12 40 (by kernel_rfl) (x := .normal) (s' := (S17 r dk th ths kp sd e0 off n c k e l eg)) (R12 r dk th ths kp sd e0 off n c k e l eg) ?_
  show Gets _ _ (codeAt [1, 1, 0, 0, 0, 1, 0, 1, 1, 0, 1] B) _ _
  rw [C1_1_0_0_0_1_0_1_1_0_1]; refine Gets.cond true (by kernel_rfl) ((show evalX (KSt.ts (S17 r dk th ths kp sd e0 off n c k e l eg)) (.tmp 30) = .bool (0 == r) by kernel_rfl).trans (by rw [(show (0 == r) = true from q1)])) ?_; show Gets _ _ (codeAt [1, 1, 0, 0, 0, 1, 0, 1, 1, 0, 1, 0] B) _ _
  rw [C1_1_0_0_0_1_0_1_1_0_1_0]; refine Gets.seq ?_
  refine Gets.ofN fitU desk_sound (conT_agree _ _) 12 40 (by kernel_rfl) (x := .normal) (s' := (S18 r e0 off n c k dk e l eg)) (R13 r dk th ths kp sd e0 off n c k e l eg) ?_
  show Gets _ _ (codeAt [1, 1, 0, 0, 0, 1, 0, 1, 1, 0, 1, 0, 1] B) _ _
  rw [C1_1_0_0_0_1_0_1_1_0_1_0_1]; refine Gets.ev fitU.mix fitU.cfg (fitU.sound desk_sound 12 0) 12 rfl (s' := KSt.low (S18 r e0 off n c k dk e l eg)) (x := .ret) rfl ?_
  exact hq
noncomputable def S19 (dk : Int) (th : Int) (ths : Int) (kp : Int) (sd : Int) (e0 : TypeId) (off : Nat) (n : Nat) (c : Nat) (k : Int) (e : TypeId) (l : List Int) (eg : TypeId) : KSt := ⟨(frameL 33 [(0, (.pointer (some ⟨1, 0, none⟩))), (3, (.pointer (some ⟨3, 0, none⟩))), (6, (.int .u64 0))]), ⟨4, 1, [(3, 0, .cells [(.int .u64 dk), (.int .i64 th), (.int .i64 ths), (.int .i64 kp), (.int .u64 sd)] 24 true), (0, 0, .cells [(.int .i64 1), (.int .i64 64), (.int .i64 1), (.int .i64 64)] e0 false), (1, 0, .cells [(.slice (some ⟨2, off, none⟩) n c), (.int .i64 (k + 1)), (.bool true), (.int .i64 1), (.int .u64 dk), (.int .i64 0), (.int .u64 0), (.int .u64 0)] e true), (2, 0, .tail off .u64 l eg)]⟩⟩
theorem R14 (r : Int) (dk : Int) (th : Int) (ths : Int) (kp : Int) (sd : Int) (e0 : TypeId) (off : Nat) (n : Nat) (c : Nat) (k : Int) (e : TypeId) (l : List Int) (eg : TypeId) : evCK Tryd.prog cfgU (runK Tryd.prog cfgU fsU (conT deskDom deskE) 12 40) 12 (codeAt [1, 1, 0, 0, 0, 1, 0, 1, 1, 0, 1, 1] B) (S17 r dk th ths kp sd e0 off n c k e l eg) (normC 3 [0, 3, 6]) =
  some (.normal, (S19 dk th ths kp sd e0 off n c k e l eg)) := by kernel_rfl
noncomputable def S20 (dk : Int) (th : Int) (ths : Int) (kp : Int) (sd : Int) (e0 : TypeId) (off : Nat) (n : Nat) (c : Nat) (k : Int) (e : TypeId) (l : List Int) (eg : TypeId) : KSt := ⟨(frameL 33 [(0, (.pointer (some ⟨1, 0, none⟩))), (3, (.pointer (some ⟨3, 0, none⟩))), (5, (.int .u64 0))]), ⟨4, 1, [(3, 0, .cells [(.int .u64 dk), (.int .i64 th), (.int .i64 ths), (.int .i64 kp), (.int .u64 sd)] 24 true), (0, 0, .cells [(.int .i64 1), (.int .i64 64), (.int .i64 1), (.int .i64 64)] e0 false), (1, 0, .cells [(.slice (some ⟨2, off, none⟩) n c), (.int .i64 (k + 1)), (.bool true), (.int .i64 1), (.int .u64 dk), (.int .i64 0), (.int .u64 0), (.int .u64 0)] e true), (2, 0, .tail off .u64 l eg)]⟩⟩
theorem R15 (dk : Int) (th : Int) (ths : Int) (kp : Int) (sd : Int) (e0 : TypeId) (off : Nat) (n : Nat) (c : Nat) (k : Int) (e : TypeId) (l : List Int) (eg : TypeId) : evCK Tryd.prog cfgU (runK Tryd.prog cfgU fsU (conT deskDom deskE) 12 40) 12 (codeAt [1, 1, 0, 0, 0, 1, 0, 1, 1, 1] B) (S19 dk th ths kp sd e0 off n c k e l eg) (normC 3 [0, 3, 5]) =
  some (.normal, (S20 dk th ths kp sd e0 off n c k e l eg)) := by kernel_rfl
theorem b_5 (dk th ths kp sd r k : Int) (off n c : Nat) (l : List Int) (e0 e eg : TypeId) (hl : l.length = n) (hn : n ≤ 9223372036854775807) (hk : 0 ≤ k) (h0 : k + 1 = (n : Int))  (q1 : (0 == r) = false) {Q : Ex → St → Prop} (hq : Q .normal (KSt.low (S20 dk th ths kp sd e0 off n c k e l eg))) : Gets Tryd.prog (KH.low ⟨3, 1, [(0, 0, .cells [(.int .i64 1), (.int .i64 64), (.int .i64 1), (.int .i64 64)] e0 false), (1, 0, .cells [(.slice (some ⟨2, off, none⟩) n c), (.int .i64 0), (.bool false), (.int .i64 0), (.int .u64 0), (.int .i64 0), (.int .u64 0), (.int .u64 0)] e true), (2, 0, .tail off .u64 l eg)]⟩) (codeAt [1, 1, 0, 0, 0] B) (KSt.low (S5 r dk th ths kp sd e0 off n c k e l eg)) Q := by
  rw [C1_1_0_0_0]; refine Gets.seq ?_
  rw [C1_1_0_0_0_0]; refine Gets.seq ?_
  refine Gets.ofN fitU desk_sound (conT_agree _ _) 12 40 (by kernel_rfl) (x := .normal) (s' := (S6 r dk th ths kp sd e0 off n c k e l eg)) (R3 r dk th ths kp sd e0 off n c k e l eg) ?_
  show Gets _ _ (codeAt [1, 1, 0, 0, 0, 0, 1] B) _ _
  rw [C1_1_0_0_0_0_1]; refine Gets.cond true (by kernel_rfl) (show evalX (KSt.ts (S6 r dk th ths kp sd e0 off n c k e l eg)) (.tmp 15) = .bool true by kernel_rfl) ?_; show Gets _ _ (codeAt [1, 1, 0, 0, 0, 0, 1, 0] B) _ _
  refine Gets.ofN fitU desk_sound (conT_agree _ _) 12 40 (by kernel_rfl) (x := .normal) (s' := (S5 r dk th ths kp sd e0 off n c k e l eg)) (R4 r dk th ths kp sd e0 off n c k e l eg) ?_
  show Gets _ _ (codeAt [1, 1, 0, 0, 0, 1] B) _ _
  rw [C1_1_0_0_0_1]; refine Gets.block ?_
  rw [C1_1_0_0_0_1_0]; refine Gets.seq ?_
  refine Gets.ofN fitU desk_sound (conT_agree _ _) 12 40 (by kernel_rfl) (x := .normal) (s' := (S14 r dk th ths kp sd e0 off n c k e l eg)) ((R5 r dk th ths kp sd e0 off n c k e l eg).trans (by rw [condT (decide_eq_true (by omega)), if_pos (⟨by ((try simp (disch := omega) only [wrap_i64_id]) <;> omega), by ((try simp (disch := omega) only [wrap_i64_id]) <;> omega)⟩), condT (ble_t (by omega)), obind_at (k := ((Int.toNat (IntKind.wrap .i64 ((IntKind.wrap .i64 (k + 1)) - 1))) * 1)) (by ((try simp (disch := omega) only [wrap_i64_id]) <;> omega)) (by ((try simp (disch := omega) only [wrap_i64_id]) <;> omega))] <;> (show some (Ex.normal, (S7 r dk th ths kp sd e0 off n c k e l eg)) = some (Ex.normal, (S14 r dk th ths kp sd e0 off n c k e l eg)); unfold S7 S14; rw [(show (IntKind.wrap .i64 (k + 1)) = (k + 1) from wrap_i64_id (by omega) (by omega))]))) ?_
  show Gets _ _ (codeAt [1, 1, 0, 0, 0, 1, 0, 1] B) _ _
  rw [C1_1_0_0_0_1_0_1]; refine Gets.seq ?_
  refine Gets.ofN fitU desk_sound (conT_agree _ _) 12 40 (by kernel_rfl) (x := .normal) (s' := (S16 r dk th ths kp sd e0 off n c k e l eg)) ((R11 r dk th ths kp sd e0 off n c k e l eg).trans (by rw [condF (decide_eq_false (by omega))])) ?_
  show Gets _ _ (codeAt [1, 1, 0, 0, 0, 1, 0, 1, 1] B) _ _
  rw [C1_1_0_0_0_1_0_1_1]; refine Gets.seq ?_
  rw [C1_1_0_0_0_1_0_1_1_0]; refine Gets.seq ?_
  refine Gets.ofN fitU desk_sound (conT_agree _ _) 12 40 (by kernel_rfl) (x := .normal) (s' := (S17 r dk th ths kp sd e0 off n c k e l eg)) (R12 r dk th ths kp sd e0 off n c k e l eg) ?_
  show Gets _ _ (codeAt [1, 1, 0, 0, 0, 1, 0, 1, 1, 0, 1] B) _ _
  rw [C1_1_0_0_0_1_0_1_1_0_1]; refine Gets.cond false (by kernel_rfl) ((show evalX (KSt.ts (S17 r dk th ths kp sd e0 off n c k e l eg)) (.tmp 30) = .bool (0 == r) by kernel_rfl).trans (by rw [(show (0 == r) = false from q1)])) ?_; show Gets _ _ (codeAt [1, 1, 0, 0, 0, 1, 0, 1, 1, 0, 1, 1] B) _ _
  refine Gets.ofN fitU desk_sound (conT_agree _ _) 12 40 (by kernel_rfl) (x := .normal) (s' := (S19 dk th ths kp sd e0 off n c k e l eg)) (R14 r dk th ths kp sd e0 off n c k e l eg) ?_
  show Gets _ _ (codeAt [1, 1, 0, 0, 0, 1, 0, 1, 1, 1] B) _ _
  refine Gets.ofN fitU desk_sound (conT_agree _ _) 12 40 (by kernel_rfl) (x := .normal) (s' := (S20 dk th ths kp sd e0 off n c k e l eg)) (R15 dk th ths kp sd e0 off n c k e l eg) ?_
  exact hq
noncomputable def S21 (r : Int) (l : List Int) (k : Int) (dk : Int) (th : Int) (ths : Int) (kp : Int) (sd : Int) (e0 : TypeId) (off : Nat) (n : Nat) (c : Nat) (e : TypeId) (eg : TypeId) : KSt := ⟨(frameL 33 [(0, (.pointer (some ⟨1, 0, none⟩))), (3, (.pointer (some ⟨3, 0, none⟩))), (5, (.int .u64 r)), (6, (.int .u64 (l.getD (Int.toNat (k + 1)) 0)))]), ⟨4, 1, [(3, 0, .cells [(.int .u64 dk), (.int .i64 th), (.int .i64 ths), (.int .i64 kp), (.int .u64 sd)] 24 true), (0, 0, .cells [(.int .i64 1), (.int .i64 64), (.int .i64 1), (.int .i64 64)] e0 false), (1, 0, .cells [(.slice (some ⟨2, off, none⟩) n c), (.int .i64 ((k + 1) + 1)), (.bool false), (.int .i64 0), (.int .u64 0), (.int .i64 0), (.int .u64 0), (.int .u64 0)] e true), (2, 0, .tail off .u64 l eg)]⟩⟩
noncomputable def S22 (r : Int) (l : List Int) (k : Int) (dk : Int) (th : Int) (ths : Int) (kp : Int) (sd : Int) (e0 : TypeId) (off : Nat) (n : Nat) (c : Nat) (e : TypeId) (eg : TypeId) : KSt := ⟨(frameL 33 [(0, (.pointer (some ⟨1, 0, none⟩))), (3, (.pointer (some ⟨3, 0, none⟩))), (5, (.int .u64 r)), (6, (.int .u64 (l.getD ((Int.toNat (IntKind.wrap .i64 ((IntKind.wrap .i64 ((k + 1) + 1)) - 1))) * 1) 0)))]), ⟨4, 1, [(3, 0, .cells [(.int .u64 dk), (.int .i64 th), (.int .i64 ths), (.int .i64 kp), (.int .u64 sd)] 24 true), (0, 0, .cells [(.int .i64 1), (.int .i64 64), (.int .i64 1), (.int .i64 64)] e0 false), (1, 0, .cells [(.slice (some ⟨2, off, none⟩) n c), (.int .i64 (IntKind.wrap .i64 ((k + 1) + 1))), (.bool false), (.int .i64 0), (.int .u64 0), (.int .i64 0), (.int .u64 0), (.int .u64 0)] e true), (2, 0, .tail off .u64 l eg)]⟩⟩
noncomputable def S23 (r : Int) (l : List Int) (k : Int) (dk : Int) (th : Int) (ths : Int) (kp : Int) (sd : Int) (e0 : TypeId) (off : Nat) (n : Nat) (c : Nat) (e : TypeId) (eg : TypeId) : KSt := ⟨(frameL 33 [(0, (.pointer (some ⟨1, 0, none⟩))), (3, (.pointer (some ⟨3, 0, none⟩))), (5, (.int .u64 r)), (6, (.int .u64 (l.getD (Int.toNat (k + 1)) 0))), (30, (.bool ((l.getD (Int.toNat (k + 1)) 0) == r)))]), ⟨4, 1, [(3, 0, .cells [(.int .u64 dk), (.int .i64 th), (.int .i64 ths), (.int .i64 kp), (.int .u64 sd)] 24 true), (0, 0, .cells [(.int .i64 1), (.int .i64 64), (.int .i64 1), (.int .i64 64)] e0 false), (1, 0, .cells [(.slice (some ⟨2, off, none⟩) n c), (.int .i64 ((k + 1) + 1)), (.bool false), (.int .i64 0), (.int .u64 0), (.int .i64 0), (.int .u64 0), (.int .u64 0)] e true), (2, 0, .tail off .u64 l eg)]⟩⟩
theorem R16 (r : Int) (l : List Int) (k : Int) (dk : Int) (th : Int) (ths : Int) (kp : Int) (sd : Int) (e0 : TypeId) (off : Nat) (n : Nat) (c : Nat) (e : TypeId) (eg : TypeId) : evCK Tryd.prog cfgU (runK Tryd.prog cfgU fsU (conT deskDom deskE) 12 40) 12 (codeAt [1, 1, 0, 0, 0, 1, 0, 1, 1, 0, 0] B) (S21 r l k dk th ths kp sd e0 off n c e eg) (normC 3 [0, 3, 5, 6, 30]) =
  some (.normal, (S23 r l k dk th ths kp sd e0 off n c e eg)) := by kernel_rfl
noncomputable def S24 (r : Int) (e0 : TypeId) (off : Nat) (n : Nat) (c : Nat) (k : Int) (e : TypeId) (l : List Int) (eg : TypeId) : KSt := ⟨(frameL 33 [(4, (.int .u64 r))]), ⟨3, 1, [(0, 0, .cells [(.int .i64 1), (.int .i64 64), (.int .i64 1), (.int .i64 64)] e0 false), (1, 0, .cells [(.slice (some ⟨2, off, none⟩) n c), (.int .i64 ((k + 1) + 1)), (.bool false), (.int .i64 0), (.int .u64 0), (.int .i64 0), (.int .u64 0), (.int .u64 0)] e true), (2, 0, .tail off .u64 l eg)]⟩⟩
theorem R17 (r : Int) (l : List Int) (k : Int) (dk : Int) (th : Int) (ths : Int) (kp : Int) (sd : Int) (e0 : TypeId) (off : Nat) (n : Nat) (c : Nat) (e : TypeId) (eg : TypeId) : evCK Tryd.prog cfgU (runK Tryd.prog cfgU fsU (conT deskDom deskE) 12 40) 12 (codeAt [1, 1, 0, 0, 0, 1, 0, 1, 1, 0, 1, 0, 0] B) (S23 r l k dk th ths kp sd e0 off n c e eg) (normC 3 [4]) =
  some (.normal, (S24 r e0 off n c k e l eg)) := by kernel_rfl
theorem c_6 (dk th ths kp sd r k : Int) (off n c : Nat) (l : List Int) (e0 e eg : TypeId) (hl : l.length = n) (hn : n ≤ 9223372036854775807) (hk : 0 ≤ k) (h0 : k + 2 ≤ (n : Int))  (q1 : ((l.getD (Int.toNat (k + 1)) 0) == r) = true) {Q : Ex → St → Prop} (hq : Q .ret (KSt.low (S24 r e0 off n c k e l eg))) : Gets Tryd.prog (KH.low ⟨3, 1, [(0, 0, .cells [(.int .i64 1), (.int .i64 64), (.int .i64 1), (.int .i64 64)] e0 false), (1, 0, .cells [(.slice (some ⟨2, off, none⟩) n c), (.int .i64 0), (.bool false), (.int .i64 0), (.int .u64 0), (.int .i64 0), (.int .u64 0), (.int .u64 0)] e true), (2, 0, .tail off .u64 l eg)]⟩) (codeAt [1, 1, 0, 0, 0] B) (KSt.low (S5 r dk th ths kp sd e0 off n c k e l eg)) Q := by
  rw [C1_1_0_0_0]; refine Gets.seq ?_
  rw [C1_1_0_0_0_0]; refine Gets.seq ?_
  refine Gets.ofN fitU desk_sound (conT_agree _ _) 12 40 (by kernel_rfl) (x := .normal) (s' := (S6 r dk th ths kp sd e0 off n c k e l eg)) (R3 r dk th ths kp sd e0 off n c k e l eg) ?_
  show Gets _ _ (codeAt [1, 1, 0, 0, 0, 0, 1] B) _ _
  rw [C1_1_0_0_0_0_1]; refine Gets.cond true (by kernel_rfl) (show evalX (KSt.ts (S6 r dk th ths kp sd e0 off n c k e l eg)) (.tmp 15) = .bool true by kernel_rfl) ?_; show Gets _ _ (codeAt [1, 1, 0, 0, 0, 0, 1, 0] B) _ _
  refine Gets.ofN fitU desk_sound (conT_agree _ _) 12 40 (by kernel_rfl) (x := .normal) (s' := (S5 r dk th ths kp sd e0 off n c k e l eg)) (R4 r dk th ths kp sd e0 off n c k e l eg) ?_
  show Gets _ _ (codeAt [1, 1, 0, 0, 0, 1] B) _ _
  rw [C1_1_0_0_0_1]; refine Gets.block ?_
  rw [C1_1_0_0_0_1_0]; refine Gets.seq ?_
  refine Gets.ofN fitU desk_sound (conT_agree _ _) 12 40 (by kernel_rfl) (x := .normal) (s' := (S14 r dk th ths kp sd e0 off n c k e l eg)) ((R5 r dk th ths kp sd e0 off n c k e l eg).trans (by rw [condT (decide_eq_true (by omega)), if_pos (⟨by ((try simp (disch := omega) only [wrap_i64_id]) <;> omega), by ((try simp (disch := omega) only [wrap_i64_id]) <;> omega)⟩), condT (ble_t (by omega)), obind_at (k := ((Int.toNat (IntKind.wrap .i64 ((IntKind.wrap .i64 (k + 1)) - 1))) * 1)) (by ((try simp (disch := omega) only [wrap_i64_id]) <;> omega)) (by ((try simp (disch := omega) only [wrap_i64_id]) <;> omega))] <;> (show some (Ex.normal, (S7 r dk th ths kp sd e0 off n c k e l eg)) = some (Ex.normal, (S14 r dk th ths kp sd e0 off n c k e l eg)); unfold S7 S14; rw [(show (IntKind.wrap .i64 (k + 1)) = (k + 1) from wrap_i64_id (by omega) (by omega))]))) ?_
  show Gets _ _ (codeAt [1, 1, 0, 0, 0, 1, 0, 1] B) _ _
  rw [C1_1_0_0_0_1_0_1]; refine Gets.seq ?_
  refine Gets.ofN fitU desk_sound (conT_agree _ _) 12 40 (by kernel_rfl) (x := .normal) (s' := (S21 r l k dk th ths kp sd e0 off n c e eg)) ((R11 r dk th ths kp sd e0 off n c k e l eg).trans (by rw [condT (decide_eq_true (by omega)), if_pos (⟨by ((try simp (disch := omega) only [wrap_i64_id]) <;> omega), by ((try simp (disch := omega) only [wrap_i64_id]) <;> omega)⟩), condT (ble_t (by omega)), obind_at (k := ((Int.toNat (IntKind.wrap .i64 ((IntKind.wrap .i64 ((k + 1) + 1)) - 1))) * 1)) (by ((try simp (disch := omega) only [wrap_i64_id]) <;> omega)) (by ((try simp (disch := omega) only [wrap_i64_id]) <;> omega))] <;> (show some (Ex.normal, (S22 r l k dk th ths kp sd e0 off n c e eg)) = some (Ex.normal, (S21 r l k dk th ths kp sd e0 off n c e eg)); unfold S22 S21; rw [(show (IntKind.wrap .i64 ((k + 1) + 1)) = ((k + 1) + 1) from wrap_i64_id (by omega) (by omega)), (show (IntKind.wrap .i64 (((k + 1) + 1) - 1)) = (((k + 1) + 1) - 1) from wrap_i64_id (by omega) (by omega)), (show ((Int.toNat (((k + 1) + 1) - 1)) * 1) = (Int.toNat (k + 1)) from by omega)]))) ?_
  show Gets _ _ (codeAt [1, 1, 0, 0, 0, 1, 0, 1, 1] B) _ _
  rw [C1_1_0_0_0_1_0_1_1]; refine Gets.seq ?_
  rw [C1_1_0_0_0_1_0_1_1_0]; refine Gets.seq ?_
  refine Gets.ofN fitU desk_sound (conT_agree _ _) 12 40 (by kernel_rfl) (x := .normal) (s' := (S23 r l k dk th ths kp sd e0 off n c e eg)) (R16 r l k dk th ths kp sd e0 off n c e eg) ?_
  show Gets _ _ (codeAt [1, 1, 0, 0, 0, 1, 0, 1, 1, 0, 1] B) _ _
  rw [C1_1_0_0_0_1_0_1_1_0_1]; refine Gets.cond true (by kernel_rfl) ((show evalX (KSt.ts (S23 r l k dk th ths kp sd e0 off n c e eg)) (.tmp 30) = .bool ((l.getD (Int.toNat (k + 1)) 0) == r) by kernel_rfl).trans (by rw [(show ((l.getD (Int.toNat (k + 1)) 0) == r) = true from q1)])) ?_; show Gets _ _ (codeAt [1, 1, 0, 0, 0, 1, 0, 1, 1, 0, 1, 0] B) _ _
  rw [C1_1_0_0_0_1_0_1_1_0_1_0]; refine Gets.seq ?_
  refine Gets.ofN fitU desk_sound (conT_agree _ _) 12 40 (by kernel_rfl) (x := .normal) (s' := (S24 r e0 off n c k e l eg)) (R17 r l k dk th ths kp sd e0 off n c e eg) ?_
  show Gets _ _ (codeAt [1, 1, 0, 0, 0, 1, 0, 1, 1, 0, 1, 0, 1] B) _ _
  rw [C1_1_0_0_0_1_0_1_1_0_1_0_1]; refine Gets.ev fitU.mix fitU.cfg (fitU.sound desk_sound 12 0) 12 rfl (s' := KSt.low (S24 r e0 off n c k e l eg)) (x := .ret) rfl ?_
  exact hq
noncomputable def S25 (l : List Int) (k : Int) (dk : Int) (th : Int) (ths : Int) (kp : Int) (sd : Int) (e0 : TypeId) (off : Nat) (n : Nat) (c : Nat) (e : TypeId) (eg : TypeId) : KSt := ⟨(frameL 33 [(0, (.pointer (some ⟨1, 0, none⟩))), (3, (.pointer (some ⟨3, 0, none⟩))), (6, (.int .u64 (l.getD (Int.toNat (k + 1)) 0)))]), ⟨4, 1, [(3, 0, .cells [(.int .u64 dk), (.int .i64 th), (.int .i64 ths), (.int .i64 kp), (.int .u64 sd)] 24 true), (0, 0, .cells [(.int .i64 1), (.int .i64 64), (.int .i64 1), (.int .i64 64)] e0 false), (1, 0, .cells [(.slice (some ⟨2, off, none⟩) n c), (.int .i64 ((k + 1) + 1)), (.bool false), (.int .i64 0), (.int .u64 0), (.int .i64 0), (.int .u64 0), (.int .u64 0)] e true), (2, 0, .tail off .u64 l eg)]⟩⟩
theorem R18 (r : Int) (l : List Int) (k : Int) (dk : Int) (th : Int) (ths : Int) (kp : Int) (sd : Int) (e0 : TypeId) (off : Nat) (n : Nat) (c : Nat) (e : TypeId) (eg : TypeId) : evCK Tryd.prog cfgU (runK Tryd.prog cfgU fsU (conT deskDom deskE) 12 40) 12 (codeAt [1, 1, 0, 0, 0, 1, 0, 1, 1, 0, 1, 1] B) (S23 r l k dk th ths kp sd e0 off n c e eg) (normC 3 [0, 3, 6]) =
  some (.normal, (S25 l k dk th ths kp sd e0 off n c e eg)) := by kernel_rfl
noncomputable def S26 (l : List Int) (k : Int) (dk : Int) (th : Int) (ths : Int) (kp : Int) (sd : Int) (e0 : TypeId) (off : Nat) (n : Nat) (c : Nat) (e : TypeId) (eg : TypeId) : KSt := ⟨(frameL 33 [(0, (.pointer (some ⟨1, 0, none⟩))), (3, (.pointer (some ⟨3, 0, none⟩))), (5, (.int .u64 (l.getD (Int.toNat (k + 1)) 0)))]), ⟨4, 1, [(3, 0, .cells [(.int .u64 dk), (.int .i64 th), (.int .i64 ths), (.int .i64 kp), (.int .u64 sd)] 24 true), (0, 0, .cells [(.int .i64 1), (.int .i64 64), (.int .i64 1), (.int .i64 64)] e0 false), (1, 0, .cells [(.slice (some ⟨2, off, none⟩) n c), (.int .i64 ((k + 1) + 1)), (.bool false), (.int .i64 0), (.int .u64 0), (.int .i64 0), (.int .u64 0), (.int .u64 0)] e true), (2, 0, .tail off .u64 l eg)]⟩⟩
theorem R19 (l : List Int) (k : Int) (dk : Int) (th : Int) (ths : Int) (kp : Int) (sd : Int) (e0 : TypeId) (off : Nat) (n : Nat) (c : Nat) (e : TypeId) (eg : TypeId) : evCK Tryd.prog cfgU (runK Tryd.prog cfgU fsU (conT deskDom deskE) 12 40) 12 (codeAt [1, 1, 0, 0, 0, 1, 0, 1, 1, 1] B) (S25 l k dk th ths kp sd e0 off n c e eg) (normC 3 [0, 3, 5]) =
  some (.normal, (S26 l k dk th ths kp sd e0 off n c e eg)) := by kernel_rfl
theorem c_7 (dk th ths kp sd r k : Int) (off n c : Nat) (l : List Int) (e0 e eg : TypeId) (hl : l.length = n) (hn : n ≤ 9223372036854775807) (hk : 0 ≤ k) (h0 : k + 2 ≤ (n : Int))  (q1 : ((l.getD (Int.toNat (k + 1)) 0) == r) = false) {Q : Ex → St → Prop} (hq : Q .normal (KSt.low (S26 l k dk th ths kp sd e0 off n c e eg))) : Gets Tryd.prog (KH.low ⟨3, 1, [(0, 0, .cells [(.int .i64 1), (.int .i64 64), (.int .i64 1), (.int .i64 64)] e0 false), (1, 0, .cells [(.slice (some ⟨2, off, none⟩) n c), (.int .i64 0), (.bool false), (.int .i64 0), (.int .u64 0), (.int .i64 0), (.int .u64 0), (.int .u64 0)] e true), (2, 0, .tail off .u64 l eg)]⟩) (codeAt [1, 1, 0, 0, 0] B) (KSt.low (S5 r dk th ths kp sd e0 off n c k e l eg)) Q := by
  rw [C1_1_0_0_0]; refine Gets.seq ?_
  rw [C1_1_0_0_0_0]; refine Gets.seq ?_
  refine Gets.ofN fitU desk_sound (conT_agree _ _) 12 40 (by kernel_rfl) (x := .normal) (s' := (S6 r dk th ths kp sd e0 off n c k e l eg)) (R3 r dk th ths kp sd e0 off n c k e l eg) ?_
  show Gets _ _ (codeAt [1, 1, 0, 0, 0, 0, 1] B) _ _
  rw [C1_1_0_0_0_0_1]; refine Gets.cond true (by kernel_rfl) (show evalX (KSt.ts (S6 r dk th ths kp sd e0 off n c k e l eg)) (.tmp 15) = .bool true by kernel_rfl) ?_; show Gets _ _ (codeAt [1, 1, 0, 0, 0, 0, 1, 0] B) _ _
  refine Gets.ofN fitU desk_sound (conT_agree _ _) 12 40 (by kernel_rfl) (x := .normal) (s' := (S5 r dk th ths kp sd e0 off n c k e l eg)) (R4 r dk th ths kp sd e0 off n c k e l eg) ?_
  show Gets _ _ (codeAt [1, 1, 0, 0, 0, 1] B) _ _
  rw [C1_1_0_0_0_1]; refine Gets.block ?_
  rw [C1_1_0_0_0_1_0]; refine Gets.seq ?_
  refine Gets.ofN fitU desk_sound (conT_agree _ _) 12 40 (by kernel_rfl) (x := .normal) (s' := (S14 r dk th ths kp sd e0 off n c k e l eg)) ((R5 r dk th ths kp sd e0 off n c k e l eg).trans (by rw [condT (decide_eq_true (by omega)), if_pos (⟨by ((try simp (disch := omega) only [wrap_i64_id]) <;> omega), by ((try simp (disch := omega) only [wrap_i64_id]) <;> omega)⟩), condT (ble_t (by omega)), obind_at (k := ((Int.toNat (IntKind.wrap .i64 ((IntKind.wrap .i64 (k + 1)) - 1))) * 1)) (by ((try simp (disch := omega) only [wrap_i64_id]) <;> omega)) (by ((try simp (disch := omega) only [wrap_i64_id]) <;> omega))] <;> (show some (Ex.normal, (S7 r dk th ths kp sd e0 off n c k e l eg)) = some (Ex.normal, (S14 r dk th ths kp sd e0 off n c k e l eg)); unfold S7 S14; rw [(show (IntKind.wrap .i64 (k + 1)) = (k + 1) from wrap_i64_id (by omega) (by omega))]))) ?_
  show Gets _ _ (codeAt [1, 1, 0, 0, 0, 1, 0, 1] B) _ _
  rw [C1_1_0_0_0_1_0_1]; refine Gets.seq ?_
  refine Gets.ofN fitU desk_sound (conT_agree _ _) 12 40 (by kernel_rfl) (x := .normal) (s' := (S21 r l k dk th ths kp sd e0 off n c e eg)) ((R11 r dk th ths kp sd e0 off n c k e l eg).trans (by rw [condT (decide_eq_true (by omega)), if_pos (⟨by ((try simp (disch := omega) only [wrap_i64_id]) <;> omega), by ((try simp (disch := omega) only [wrap_i64_id]) <;> omega)⟩), condT (ble_t (by omega)), obind_at (k := ((Int.toNat (IntKind.wrap .i64 ((IntKind.wrap .i64 ((k + 1) + 1)) - 1))) * 1)) (by ((try simp (disch := omega) only [wrap_i64_id]) <;> omega)) (by ((try simp (disch := omega) only [wrap_i64_id]) <;> omega))] <;> (show some (Ex.normal, (S22 r l k dk th ths kp sd e0 off n c e eg)) = some (Ex.normal, (S21 r l k dk th ths kp sd e0 off n c e eg)); unfold S22 S21; rw [(show (IntKind.wrap .i64 ((k + 1) + 1)) = ((k + 1) + 1) from wrap_i64_id (by omega) (by omega)), (show (IntKind.wrap .i64 (((k + 1) + 1) - 1)) = (((k + 1) + 1) - 1) from wrap_i64_id (by omega) (by omega)), (show ((Int.toNat (((k + 1) + 1) - 1)) * 1) = (Int.toNat (k + 1)) from by omega)]))) ?_
  show Gets _ _ (codeAt [1, 1, 0, 0, 0, 1, 0, 1, 1] B) _ _
  rw [C1_1_0_0_0_1_0_1_1]; refine Gets.seq ?_
  rw [C1_1_0_0_0_1_0_1_1_0]; refine Gets.seq ?_
  refine Gets.ofN fitU desk_sound (conT_agree _ _) 12 40 (by kernel_rfl) (x := .normal) (s' := (S23 r l k dk th ths kp sd e0 off n c e eg)) (R16 r l k dk th ths kp sd e0 off n c e eg) ?_
  show Gets _ _ (codeAt [1, 1, 0, 0, 0, 1, 0, 1, 1, 0, 1] B) _ _
  rw [C1_1_0_0_0_1_0_1_1_0_1]; refine Gets.cond false (by kernel_rfl) ((show evalX (KSt.ts (S23 r l k dk th ths kp sd e0 off n c e eg)) (.tmp 30) = .bool ((l.getD (Int.toNat (k + 1)) 0) == r) by kernel_rfl).trans (by rw [(show ((l.getD (Int.toNat (k + 1)) 0) == r) = false from q1)])) ?_; show Gets _ _ (codeAt [1, 1, 0, 0, 0, 1, 0, 1, 1, 0, 1, 1] B) _ _
  refine Gets.ofN fitU desk_sound (conT_agree _ _) 12 40 (by kernel_rfl) (x := .normal) (s' := (S25 l k dk th ths kp sd e0 off n c e eg)) (R18 r l k dk th ths kp sd e0 off n c e eg) ?_
  show Gets _ _ (codeAt [1, 1, 0, 0, 0, 1, 0, 1, 1, 1] B) _ _
  refine Gets.ofN fitU desk_sound (conT_agree _ _) 12 40 (by kernel_rfl) (x := .normal) (s' := (S26 l k dk th ths kp sd e0 off n c e eg)) (R19 l k dk th ths kp sd e0 off n c e eg) ?_
  exact hq
noncomputable def S27 (dk : Int) (th : Int) (ths : Int) (kp : Int) (sd : Int) (e0 : TypeId) (off : Nat) (n : Nat) (c : Nat) (k : Int) (e : TypeId) (l : List Int) (eg : TypeId) : KSt := ⟨(frameL 33 [(0, (.pointer (some ⟨1, 0, none⟩))), (3, (.pointer (some ⟨3, 0, none⟩))), (5, (.int .u64 0))]), ⟨4, 1, [(3, 0, .cells [(.int .u64 dk), (.int .i64 th), (.int .i64 ths), (.int .i64 kp), (.int .u64 sd)] 24 true), (0, 0, .cells [(.int .i64 1), (.int .i64 64), (.int .i64 1), (.int .i64 64)] e0 false), (1, 0, .cells [(.slice (some ⟨2, off, none⟩) n c), (.int .i64 k), (.bool true), (.int .i64 1), (.int .u64 dk), (.int .i64 0), (.int .u64 0), (.int .u64 0)] e true), (2, 0, .tail off .u64 l eg)]⟩⟩
noncomputable def S28 (dk : Int) (th : Int) (ths : Int) (kp : Int) (sd : Int) (e0 : TypeId) (off : Nat) (n : Nat) (c : Nat) (k : Int) (r : Int) (e : TypeId) (l : List Int) (eg : TypeId) : KSt := ⟨(frameL 33 [(0, (.pointer (some ⟨1, 0, none⟩))), (3, (.pointer (some ⟨3, 0, none⟩))), (5, (.int .u64 0)), (15, (.bool false))]), ⟨4, 1, [(3, 0, .cells [(.int .u64 dk), (.int .i64 th), (.int .i64 ths), (.int .i64 kp), (.int .u64 sd)] 24 true), (0, 0, .cells [(.int .i64 1), (.int .i64 64), (.int .i64 1), (.int .i64 64)] e0 false), (1, 0, .cells [(.slice (some ⟨2, off, none⟩) n c), (.int .i64 k), (.bool true), (.int .i64 2), (.int .u64 dk), (.int .i64 (tabCellV th)), (.int .u64 0), (.int .u64 r)] e true), (2, 0, .tail off .u64 l eg)]⟩⟩
theorem R20 (dk : Int) (th : Int) (ths : Int) (kp : Int) (sd : Int) (e0 : TypeId) (off : Nat) (n : Nat) (c : Nat) (k : Int) (r : Int) (e : TypeId) (l : List Int) (eg : TypeId) : evCK Tryd.prog cfgU (runK Tryd.prog cfgU fsU (conT deskDom deskE) 12 40) 12 (codeAt [1, 1, 0, 0, 0, 0, 0] B) (S13 dk th ths kp sd e0 off n c k r e l eg) (normC 3 [0, 3, 5, 15]) =
  some (.normal, (S28 dk th ths kp sd e0 off n c k r e l eg)) := by kernel_rfl
theorem C1_1_0_0_0_0_1_1 : (codeAt [1, 1, 0, 0, 0, 0, 1, 1] B) = .exit 0 := by kernel_rfl
theorem xa_8 (dk th ths kp sd r k : Int) (off n c : Nat) (l : List Int) (e0 e eg : TypeId)   {Q : Ex → St → Prop} (hq : Q (.exit 0) (KSt.low (S28 dk th ths kp sd e0 off n c k r e l eg))) : Gets Tryd.prog (KH.low ⟨3, 1, [(0, 0, .cells [(.int .i64 1), (.int .i64 64), (.int .i64 1), (.int .i64 64)] e0 false), (1, 0, .cells [(.slice (some ⟨2, off, none⟩) n c), (.int .i64 0), (.bool false), (.int .i64 0), (.int .u64 0), (.int .i64 0), (.int .u64 0), (.int .u64 0)] e true), (2, 0, .tail off .u64 l eg)]⟩) (codeAt [1, 1, 0, 0, 0] B) (KSt.low (S13 dk th ths kp sd e0 off n c k r e l eg)) Q := by
  rw [C1_1_0_0_0]; refine Gets.seq ?_
  rw [C1_1_0_0_0_0]; refine Gets.seq ?_
  refine Gets.ofN fitU desk_sound (conT_agree _ _) 12 40 (by kernel_rfl) (x := .normal) (s' := (S28 dk th ths kp sd e0 off n c k r e l eg)) (R20 dk th ths kp sd e0 off n c k r e l eg) ?_
  show Gets _ _ (codeAt [1, 1, 0, 0, 0, 0, 1] B) _ _
  rw [C1_1_0_0_0_0_1]; refine Gets.cond false (by kernel_rfl) (show evalX (KSt.ts (S28 dk th ths kp sd e0 off n c k r e l eg)) (.tmp 15) = .bool false by kernel_rfl) ?_; show Gets _ _ (codeAt [1, 1, 0, 0, 0, 0, 1, 1] B) _ _
  rw [C1_1_0_0_0_0_1_1]; refine Gets.ev fitU.mix fitU.cfg (fitU.sound desk_sound 12 0) 12 rfl (s' := KSt.low (S28 dk th ths kp sd e0 off n c k r e l eg)) (x := (.exit 0)) rfl ?_
  exact hq
theorem C1_1_1 : (codeAt [1, 1, 1] B) = .seq (codeAt [1, 1, 1, 0] B) (codeAt [1, 1, 1, 1] B) := by kernel_rfl
noncomputable def S29 (e0 : TypeId) (off : Nat) (n : Nat) (c : Nat) (k : Int) (dk : Int) (th : Int) (r : Int) (e : TypeId) (l : List Int) (eg : TypeId) : KSt := ⟨(frameL 33 [(4, (.int .u64 0))]), ⟨3, 1, [(0, 0, .cells [(.int .i64 1), (.int .i64 64), (.int .i64 1), (.int .i64 64)] e0 false), (1, 0, .cells [(.slice (some ⟨2, off, none⟩) n c), (.int .i64 k), (.bool true), (.int .i64 2), (.int .u64 dk), (.int .i64 (tabCellV th)), (.int .u64 0), (.int .u64 r)] e true), (2, 0, .tail off .u64 l eg)]⟩⟩
theorem R21 (dk : Int) (th : Int) (ths : Int) (kp : Int) (sd : Int) (e0 : TypeId) (off : Nat) (n : Nat) (c : Nat) (k : Int) (r : Int) (e : TypeId) (l : List Int) (eg : TypeId) : evCK Tryd.prog cfgU (runK Tryd.prog cfgU fsU (conT deskDom deskE) 12 40) 12 (codeAt [1, 1, 1, 0] B) (S28 dk th ths kp sd e0 off n c k r e l eg) (normC 3 [4]) =
  some (.normal, (S29 e0 off n c k dk th r e l eg)) := by kernel_rfl
theorem C1_1_1_1 : (codeAt [1, 1, 1, 1] B) = .ret := by kernel_rfl
theorem fxa_9 (dk th ths kp sd r k : Int) (off n c : Nat) (l : List Int) (e0 e eg : TypeId)   {Q : Ex → St → Prop} (hq : Q .ret (KSt.low (S29 e0 off n c k dk th r e l eg))) : Gets Tryd.prog (KH.low ⟨3, 1, [(0, 0, .cells [(.int .i64 1), (.int .i64 64), (.int .i64 1), (.int .i64 64)] e0 false), (1, 0, .cells [(.slice (some ⟨2, off, none⟩) n c), (.int .i64 0), (.bool false), (.int .i64 0), (.int .u64 0), (.int .i64 0), (.int .u64 0), (.int .u64 0)] e true), (2, 0, .tail off .u64 l eg)]⟩) (codeAt [1, 1, 1] B) (KSt.low (S28 dk th ths kp sd e0 off n c k r e l eg)) Q := by
  rw [C1_1_1]; refine Gets.seq ?_
  refine Gets.ofN fitU desk_sound (conT_agree _ _) 12 40 (by kernel_rfl) (x := .normal) (s' := (S29 e0 off n c k dk th r e l eg)) (R21 dk th ths kp sd e0 off n c k r e l eg) ?_
  show Gets _ _ (codeAt [1, 1, 1, 1] B) _ _
  rw [C1_1_1_1]; refine Gets.ev fitU.mix fitU.cfg (fitU.sound desk_sound 12 0) 12 rfl (s' := KSt.low (S29 e0 off n c k dk th r e l eg)) (x := .ret) rfl ?_
  exact hq
noncomputable def S30 (dk : Int) (th : Int) (ths : Int) (kp : Int) (sd : Int) (e0 : TypeId) (off : Nat) (n : Nat) (c : Nat) (k : Int) (e : TypeId) (l : List Int) (eg : TypeId) : KSt := ⟨(frameL 33 [(0, (.pointer (some ⟨1, 0, none⟩))), (3, (.pointer (some ⟨3, 0, none⟩))), (5, (.int .u64 0)), (15, (.bool false))]), ⟨4, 1, [(3, 0, .cells [(.int .u64 dk), (.int .i64 th), (.int .i64 ths), (.int .i64 kp), (.int .u64 sd)] 24 true), (0, 0, .cells [(.int .i64 1), (.int .i64 64), (.int .i64 1), (.int .i64 64)] e0 false), (1, 0, .cells [(.slice (some ⟨2, off, none⟩) n c), (.int .i64 k), (.bool true), (.int .i64 1), (.int .u64 dk), (.int .i64 0), (.int .u64 0), (.int .u64 0)] e true), (2, 0, .tail off .u64 l eg)]⟩⟩
theorem R22 (dk : Int) (th : Int) (ths : Int) (kp : Int) (sd : Int) (e0 : TypeId) (off : Nat) (n : Nat) (c : Nat) (k : Int) (e : TypeId) (l : List Int) (eg : TypeId) : evCK Tryd.prog cfgU (runK Tryd.prog cfgU fsU (conT deskDom deskE) 12 40) 12 (codeAt [1, 1, 0, 0, 0, 0, 0] B) (S27 dk th ths kp sd e0 off n c k e l eg) (normC 3 [0, 3, 5, 15]) =
  some (.normal, (S30 dk th ths kp sd e0 off n c k e l eg)) := by kernel_rfl
theorem xb_10 (dk th ths kp sd r k : Int) (off n c : Nat) (l : List Int) (e0 e eg : TypeId)   {Q : Ex → St → Prop} (hq : Q (.exit 0) (KSt.low (S30 dk th ths kp sd e0 off n c k e l eg))) : Gets Tryd.prog (KH.low ⟨3, 1, [(0, 0, .cells [(.int .i64 1), (.int .i64 64), (.int .i64 1), (.int .i64 64)] e0 false), (1, 0, .cells [(.slice (some ⟨2, off, none⟩) n c), (.int .i64 0), (.bool false), (.int .i64 0), (.int .u64 0), (.int .i64 0), (.int .u64 0), (.int .u64 0)] e true), (2, 0, .tail off .u64 l eg)]⟩) (codeAt [1, 1, 0, 0, 0] B) (KSt.low (S27 dk th ths kp sd e0 off n c k e l eg)) Q := by
  rw [C1_1_0_0_0]; refine Gets.seq ?_
  rw [C1_1_0_0_0_0]; refine Gets.seq ?_
  refine Gets.ofN fitU desk_sound (conT_agree _ _) 12 40 (by kernel_rfl) (x := .normal) (s' := (S30 dk th ths kp sd e0 off n c k e l eg)) (R22 dk th ths kp sd e0 off n c k e l eg) ?_
  show Gets _ _ (codeAt [1, 1, 0, 0, 0, 0, 1] B) _ _
  rw [C1_1_0_0_0_0_1]; refine Gets.cond false (by kernel_rfl) (show evalX (KSt.ts (S30 dk th ths kp sd e0 off n c k e l eg)) (.tmp 15) = .bool false by kernel_rfl) ?_; show Gets _ _ (codeAt [1, 1, 0, 0, 0, 0, 1, 1] B) _ _
  rw [C1_1_0_0_0_0_1_1]; refine Gets.ev fitU.mix fitU.cfg (fitU.sound desk_sound 12 0) 12 rfl (s' := KSt.low (S30 dk th ths kp sd e0 off n c k e l eg)) (x := (.exit 0)) rfl ?_
  exact hq
noncomputable def S31 (e0 : TypeId) (off : Nat) (n : Nat) (c : Nat) (k : Int) (dk : Int) (e : TypeId) (l : List Int) (eg : TypeId) : KSt := ⟨(frameL 33 [(4, (.int .u64 0))]), ⟨3, 1, [(0, 0, .cells [(.int .i64 1), (.int .i64 64), (.int .i64 1), (.int .i64 64)] e0 false), (1, 0, .cells [(.slice (some ⟨2, off, none⟩) n c), (.int .i64 k), (.bool true), (.int .i64 1), (.int .u64 dk), (.int .i64 0), (.int .u64 0), (.int .u64 0)] e true), (2, 0, .tail off .u64 l eg)]⟩⟩
theorem R23 (dk : Int) (th : Int) (ths : Int) (kp : Int) (sd : Int) (e0 : TypeId) (off : Nat) (n : Nat) (c : Nat) (k : Int) (e : TypeId) (l : List Int) (eg : TypeId) : evCK Tryd.prog cfgU (runK Tryd.prog cfgU fsU (conT deskDom deskE) 12 40) 12 (codeAt [1, 1, 1, 0] B) (S30 dk th ths kp sd e0 off n c k e l eg) (normC 3 [4]) =
  some (.normal, (S31 e0 off n c k dk e l eg)) := by kernel_rfl
theorem fxb_11 (dk th ths kp sd r k : Int) (off n c : Nat) (l : List Int) (e0 e eg : TypeId)   {Q : Ex → St → Prop} (hq : Q .ret (KSt.low (S31 e0 off n c k dk e l eg))) : Gets Tryd.prog (KH.low ⟨3, 1, [(0, 0, .cells [(.int .i64 1), (.int .i64 64), (.int .i64 1), (.int .i64 64)] e0 false), (1, 0, .cells [(.slice (some ⟨2, off, none⟩) n c), (.int .i64 0), (.bool false), (.int .i64 0), (.int .u64 0), (.int .i64 0), (.int .u64 0), (.int .u64 0)] e true), (2, 0, .tail off .u64 l eg)]⟩) (codeAt [1, 1, 1] B) (KSt.low (S30 dk th ths kp sd e0 off n c k e l eg)) Q := by
  rw [C1_1_1]; refine Gets.seq ?_
  refine Gets.ofN fitU desk_sound (conT_agree _ _) 12 40 (by kernel_rfl) (x := .normal) (s' := (S31 e0 off n c k dk e l eg)) (R23 dk th ths kp sd e0 off n c k e l eg) ?_
  show Gets _ _ (codeAt [1, 1, 1, 1] B) _ _
  rw [C1_1_1_1]; refine Gets.ev fitU.mix fitU.cfg (fitU.sound desk_sound 12 0) 12 rfl (s' := KSt.low (S31 e0 off n c k dk e l eg)) (x := .ret) rfl ?_
  exact hq
theorem C1_1_0 : (codeAt [1, 1, 0] B) = .block 0 (codeAt [1, 1, 0, 0] B) := by kernel_rfl
theorem C1_1_0_0 : (codeAt [1, 1, 0, 0] B) = .loop (codeAt [1, 1, 0, 0, 0] B) := by kernel_rfl

noncomputable def QE (dk th ths kp sd : Int) (off n c : Nat) (l : List Int) (e0 e eg : TypeId) : Ex → St → Prop := Eng.Ends Tryd.prog Tryd.f22.results.toList fun v sh => v = .int .u64 (gRes (gst l)) ∧ Fits (mkH [.cells [.int .i64 1, .int .i64 64, .int .i64 1, .int .i64 64] e0 false, tapeBlkV off n c gZero e, .tail off .u64 l eg]).low sh (effK (mkH [.cells [.int .i64 1, .int .i64 64, .int .i64 1, .int .i64 64] e0 false, tapeBlkV off n c gZero e, .tail off .u64 l eg]) [(1, tapeBlkV off n c (gMore dk th (gst l)) e)] []).low
theorem qe_end (dk th ths kp sd : Int) (off n c : Nat) (l : List Int) (e0 e eg : TypeId) {s : KSt} {G : Int × Int × Int} (hG : gst l = G) (hr : resL Tryd.prog s.low Tryd.f22.results.toList = some [.int .u64 (gRes G)])
    (h1 : s.low.h.get 1 = some (tapeBlkV off n c (gMore dk th G) e).low) (hx : s.low.h.next ≤ 3) : QE dk th ths kp sd off n c l e0 e eg .ret s.low := by
  subst hG
  exact Ends.of hr ⟨rfl, tapeV_fits rfl h1 hx⟩
inductive Inv (dk th ths kp sd : Int) (off n c : Nat) (l : List Int) (e0 e eg : TypeId) : Nat → KSt → Prop
  | hd (k r : Int) (h1 : 1 ≤ k) (h2 : k ≤ (n : Int)) (hG : gst l = gLoop r k (l.drop k.toNat)) : Inv dk th ths kp sd off n c l e0 e eg ((n : Int) + 1 - k).toNat (S5 r dk th ths kp sd e0 off n c k e l eg)
  | oa (k r : Int) (hG : gst l = (2, r, k)) : Inv dk th ths kp sd off n c l e0 e eg 0 (S13 dk th ths kp sd e0 off n c k r e l eg)
  | ob (k r : Int) (hG : gst l = (3, r, k)) : Inv dk th ths kp sd off n c l e0 e eg 0 (S27 dk th ths kp sd e0 off n c k e l eg)
  | o1 (k : Int) (hG : gst l = (1, 0, k)) : Inv dk th ths kp sd off n c l e0 e eg 0 (S27 dk th ths kp sd e0 off n c k e l eg)
theorem loop (dk th ths kp sd : Int) (off n c : Nat) (l : List Int) (e0 e eg : TypeId) (hl : l.length = n) (hn : n ≤ 9223372036854775807) (m : Nat) (s : KSt) (hI : Inv dk th ths kp sd off n c l e0 e eg m s) :
    Gets Tryd.prog (KH.low ⟨3, 1, [(0, 0, .cells [(.int .i64 1), (.int .i64 64), (.int .i64 1), (.int .i64 64)] e0 false), (1, 0, .cells [(.slice (some ⟨2, off, none⟩) n c), (.int .i64 0), (.bool false), (.int .i64 0), (.int .u64 0), (.int .i64 0), (.int .u64 0), (.int .u64 0)] e true), (2, 0, .tail off .u64 l eg)]⟩) (codeAt [1, 1, 0] B) s.low (onN (fun s => Gets Tryd.prog (KH.low ⟨3, 1, [(0, 0, .cells [(.int .i64 1), (.int .i64 64), (.int .i64 1), (.int .i64 64)] e0 false), (1, 0, .cells [(.slice (some ⟨2, off, none⟩) n c), (.int .i64 0), (.bool false), (.int .i64 0), (.int .u64 0), (.int .i64 0), (.int .u64 0), (.int .u64 0)] e true), (2, 0, .tail off .u64 l eg)]⟩) (codeAt [1, 1, 1] B) s ((QE dk th ths kp sd off n c l e0 e eg))) ((QE dk th ths kp sd off n c l e0 e eg))) := by
  rw [C1_1_0, C1_1_0_0]
  refine Gets.loopG (fun m s => Inv dk th ths kp sd off n c l e0 e eg m s) ?_ _ _ hI
  clear hI m s
  intro m s hI
  cases hI with
  | hd k r h1 h2 hG =>
    by_cases ha : k = (n : Int)
    · have hG : gst l = (2, r, k) := by rw [hG, List.drop_of_length_le (by omega)]; rfl
      cases hz : (0 == r) with
      | true =>
        have : r = 0 := (eq_of_beq hz).symm
        subst this
        refine a_2 dk th ths kp sd 0 k off n c l e0 e eg hl hn (by omega) ha rfl ?_
        exact qe_end dk th ths kp sd off n c l e0 e eg hG (by kernel_rfl) (by kernel_rfl) (show (3 : Nat) ≤ 3 by decide)
      | false =>
        refine a_3 dk th ths kp sd r k off n c l e0 e eg hl hn (by omega) ha hz ?_
        exact ⟨_, _, by omega, rfl, .oa k r hG⟩
    by_cases hb : k + 1 = (n : Int)
    · have hG : gst l = (3, r, k + 1) := by
        obtain ⟨x, hx⟩ := drop1 (l := l) (k := k.toNat) (by omega)
        rw [hG, hx]; rfl
      cases hz : (0 == r) with
      | true =>
        have : r = 0 := (eq_of_beq hz).symm
        subst this
        refine b_4 dk th ths kp sd 0 k off n c l e0 e eg hl hn (by omega) hb rfl ?_
        exact qe_end dk th ths kp sd off n c l e0 e eg hG (by kernel_rfl) (by kernel_rfl) (show (3 : Nat) ≤ 3 by decide)
      | false =>
        refine b_5 dk th ths kp sd r k off n c l e0 e eg hl hn (by omega) hb hz ?_
        exact ⟨_, _, by omega, rfl, .ob (k + 1) r hG⟩
    have hG2 : gst l = if l.getD (Int.toNat (k + 1)) 0 = r then (4, r, k + 1 + 1) else gLoop (l.getD (Int.toNat (k + 1)) 0) (k + 1 + 1) (l.drop (Int.toNat (k + 1 + 1))) := by
      rw [hG, drop2 (by omega), show Int.toNat (k + 1) = k.toNat + 1 by omega, show Int.toNat (k + 1 + 1) = k.toNat + 2 by omega]
      rfl
    cases hz : ((l.getD (Int.toNat (k + 1)) 0) == r) with
    | true =>
      have hz2 : l.getD (Int.toNat (k + 1)) 0 = r := eq_of_beq hz
      rw [if_pos hz2] at hG2
      refine c_6 dk th ths kp sd r k off n c l e0 e eg hl hn (by omega) (by omega) hz ?_
      exact qe_end dk th ths kp sd off n c l e0 e eg hG2 (by kernel_rfl) (by kernel_rfl) (show (3 : Nat) ≤ 3 by decide)
    | false =>
      have hz2 : l.getD (Int.toNat (k + 1)) 0 ≠ r := fun h => by rw [h] at hz; simp at hz
      rw [if_neg hz2] at hG2
      refine c_7 dk th ths kp sd r k off n c l e0 e eg hl hn (by omega) (by omega) hz ?_
      exact ⟨_, _, by omega, rfl, .hd (k + 1 + 1) (l.getD (Int.toNat (k + 1)) 0) (by omega) (by omega) hG2⟩
  | oa k r hG =>
    refine xa_8 dk th ths kp sd r k off n c l e0 e eg ?_
    refine ⟨fun _ => ?_, fun h => by cases h⟩
    exact fxa_9 dk th ths kp sd r k off n c l e0 e eg (qe_end dk th ths kp sd off n c l e0 e eg hG (by kernel_rfl) (by kernel_rfl) (show (3 : Nat) ≤ 3 by decide))
  | ob k r hG =>
    refine xb_10 dk th ths kp sd r k off n c l e0 e eg ?_
    refine ⟨fun _ => ?_, fun h => by cases h⟩
    exact fxb_11 dk th ths kp sd r k off n c l e0 e eg (qe_end dk th ths kp sd off n c l e0 e eg hG (by kernel_rfl) (by kernel_rfl) (show (3 : Nat) ≤ 3 by decide))
  | o1 k hG =>
    refine xb_10 dk th ths kp sd 0 k off n c l e0 e eg ?_
    refine ⟨fun _ => ?_, fun h => by cases h⟩
    exact fxb_11 dk th ths kp sd 0 k off n c l e0 e eg (qe_end dk th ths kp sd off n c l e0 e eg hG (by kernel_rfl) (by kernel_rfl) (show (3 : Nat) ≤ 3 by decide))
theorem does (dk th ths kp sd : Int) (off n c : Nat) (l : List Int) (e0 e eg : TypeId) (hl : l.length = n) (hn : n ≤ 9223372036854775807) :
    DoesC Tryd.prog 22 [.pointer (some ⟨1, 0, none⟩), .agg #[.int .u64 dk, .int .i64 th, .int .i64 ths, .int .i64 kp, .int .u64 sd]] (mkH [.cells [.int .i64 1, .int .i64 64, .int .i64 1, .int .i64 64] e0 false, tapeBlkV off n c gZero e, .tail off .u64 l eg]).low (.int .u64 (gRes (gst l))) (effK (mkH [.cells [.int .i64 1, .int .i64 64, .int .i64 1, .int .i64 64] e0 false, tapeBlkV off n c gZero e, .tail off .u64 l eg]) [(1, tapeBlkV off n c (gMore dk th (gst l)) e)] []).low := by
  refine Gets.does Tryd.func22 B_is (by rw [oneVar]; exact (show (1 : Nat) ≤ 3 by decide)) ?_
  show Gets Tryd.prog (KH.low ⟨3, 1, [(0, 0, .cells [(.int .i64 1), (.int .i64 64), (.int .i64 1), (.int .i64 64)] e0 false), (1, 0, .cells [(.slice (some ⟨2, off, none⟩) n c), (.int .i64 0), (.bool false), (.int .i64 0), (.int .u64 0), (.int .i64 0), (.int .u64 0), (.int .u64 0)] e true), (2, 0, .tail off .u64 l eg)]⟩) B (KSt.low (S0 dk th ths kp sd e0 off n c e l eg)) (QE dk th ths kp sd off n c l e0 e eg)
  by_cases h0 : n = 0
  · refine p0_0 dk th ths kp sd 0 0 off n c l e0 e eg hl hn h0 ?_
    refine loop dk th ths kp sd off n c l e0 e eg hl hn _ _ (.o1 0 ?_)
    rw [List.eq_nil_of_length_eq_zero (hl.trans h0)]; rfl
  · refine p1_1 dk th ths kp sd 0 0 off n c l e0 e eg hl hn (by omega) ?_
    refine loop dk th ths kp sd off n c l e0 e eg hl hn _ _ (.hd 1 (l.getD 0 0) (by omega) (by omega) ?_)
    match l, hl with
    | [], hl => exact absurd hl.symm h0
    | x :: r, _ => rfl

end Go.Proofs.YtmphcolclkpnnaaDoor.guardRef
