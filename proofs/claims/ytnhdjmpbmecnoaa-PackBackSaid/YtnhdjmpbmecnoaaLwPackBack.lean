/- A text comes back of its words; and words that are a text's have nothing behind it. -/
import Derived.Test.YtnhdjmpbmecnoaaPkPl
import Derived.WalkKit
import Derived.ProofKit
import Derived.OpenShut
import Derived.ChangeOld
import Derived.Below
import Derived.SizedLaws
import Derived.ChangeMaps5
namespace Go.Proofs.Ytnhdjmpbmecnoaa.packBack
open Go.Eng
open Go.ChangeShapes Go.WideShapes Go.ChangeAt Go.RowKit
set_option linter.unusedVariables false
set_option linter.unusedSimpArgs false
set_option maxRecDepth 100000
noncomputable def cfgL4 : Cfg := ⟨[]⟩
noncomputable def fsL4 : List FuncId := [4]
theorem fitL4 : Fit Try.prog cfgL4 fsL4 := ⟨by kernel_rfl, Cfg.ok_of (by kernel_rfl), by kernel_rfl⟩
noncomputable def BL : Code := bodyOf Try.prog 4
theorem BL_is : Try.f4.body = some BL := by kernel_rfl
theorem BL_ok : okCode Try.prog.globals.size BL = true := by kernel_rfl
noncomputable def LS0 (tx : ByteArray) (off : Nat) (n : Nat) (c : Nat) (k : Int) (l : List Int) (e : TypeId) : KSt := (firstK [(.string tx), (.slice (some ⟨0, off, none⟩) n c), (.int .i64 k)] 71 ⟨1, 1, [(0, 0, .tail off .u64 l e)]⟩)
theorem LC : BL = .seq (codeAt [0] BL) (codeAt [1] BL) := by kernel_rfl
noncomputable def LS1 (tx : ByteArray) (off : Nat) (n : Nat) (c : Nat) (k : Int) (l : List Int) (e : TypeId) : KSt := ⟨(frameL 71 [(0, (.string tx)), (1, (.slice (some ⟨0, off, none⟩) n c)), (2, (.int .i64 k))]), ⟨1, 1, [(0, 0, .tail off .u64 l e)]⟩⟩
theorem LR1 (tx : ByteArray) (off : Nat) (n : Nat) (c : Nat) (k : Int) (l : List Int) (e : TypeId) : evCK Try.prog cfgL4 (runK Try.prog cfgL4 fsL4 (conTk pkcDom (rcK [] pkcT)) 14 40) 14 (codeAt [0] BL) (LS0 tx off n c k l e) (normC 1 [0, 1, 2]) =
  some (.normal, (LS1 tx off n c k l e)) := by kernel_rfl
theorem LC1 : (codeAt [1] BL) = .seq (codeAt [1, 0] BL) (codeAt [1, 1] BL) := by kernel_rfl
theorem LC1_0 : (codeAt [1, 0] BL) = .seq (codeAt [1, 0, 0] BL) (codeAt [1, 0, 1] BL) := by kernel_rfl
noncomputable def LS2 (tx : ByteArray) (off : Nat) (n : Nat) (c : Nat) (k : Int) (l : List Int) (e : TypeId) : KSt := ⟨(frameL 71 [(0, (.string tx)), (1, (.slice (some ⟨0, off, none⟩) n c)), (2, (.int .i64 k)), (19, (.bool true))]), ⟨1, 1, [(0, 0, .tail off .u64 l e)]⟩⟩
noncomputable def LS3 (tx : ByteArray) (off : Nat) (n : Nat) (c : Nat) (k : Int) (l : List Int) (e : TypeId) : KSt := ⟨(frameL 71 [(0, (.string tx)), (1, (.slice (some ⟨0, off, none⟩) n c)), (2, (.int .i64 k)), (19, (.bool (decide (((n : Nat) : Int) > 250))))]), ⟨1, 1, [(0, 0, .tail off .u64 l e)]⟩⟩
theorem LR2 (tx : ByteArray) (off : Nat) (n : Nat) (c : Nat) (k : Int) (l : List Int) (e : TypeId) : evCK Try.prog cfgL4 (runK Try.prog cfgL4 fsL4 (conTk pkcDom (rcK [] pkcT)) 14 40) 14 (codeAt [1, 0, 0] BL) (LS1 tx off n c k l e) (normC 1 [0, 1, 2, 19]) =
  bif (decide ((((ByteArray.size tx) : Nat) : Int) > 2000)) then
    some (.normal, (LS2 tx off n c k l e))
  else
    some (.normal, (LS3 tx off n c k l e)) := by kernel_rfl
theorem LC1_0_1 : (codeAt [1, 0, 1] BL) = .cond (.tmp 19) (codeAt [1, 0, 1, 0] BL) (codeAt [1, 0, 1, 1] BL) := by kernel_rfl
theorem LC1_0_1_0 : (codeAt [1, 0, 1, 0] BL) = .seq (codeAt [1, 0, 1, 0, 0] BL) (codeAt [1, 0, 1, 0, 1] BL) := by kernel_rfl
noncomputable def LS4 (off : Nat) (l : List Int) (e : TypeId) : KSt := ⟨(frameL 71 [(6, (.bool true))]), ⟨1, 1, [(0, 0, .tail off .u64 l e)]⟩⟩
theorem LR3 (tx : ByteArray) (off : Nat) (n : Nat) (c : Nat) (k : Int) (l : List Int) (e : TypeId) : evCK Try.prog cfgL4 (runK Try.prog cfgL4 fsL4 (conTk pkcDom (rcK [] pkcT)) 14 40) 14 (codeAt [1, 0, 1, 0, 0] BL) (LS2 tx off n c k l e) (normC 1 [6]) =
  some (.normal, (LS4 off l e)) := by kernel_rfl
theorem LC1_0_1_0_1 : (codeAt [1, 0, 1, 0, 1] BL) = .ret := by kernel_rfl
theorem Ls {tx : ByteArray} {off : Nat} {l : List Int} {e : TypeId} {n : Nat} {c : Nat} {k : Int} (hs : 2000 < tx.size)   {Q : Ex → St → Prop} (hq : Q .ret (KSt.low (LS4 off l e))) : Gets Try.prog (KH.low ⟨1, 1, [(0, 0, .tail off .u64 l e)]⟩) BL (KSt.low (LS0 tx off n c k l e)) Q := by
  rw [LC]; refine Gets.seq ?_
  refine Gets.ofN fitL4 pkc_sound (rc_agree _ _ _) 14 40 (by kernel_rfl) (x := .normal) (s' := (LS1 tx off n c k l e)) (LR1 tx off n c k l e) ?_
  show Gets _ _ (codeAt [1] BL) _ _
  rw [LC1]; refine Gets.seq ?_
  rw [LC1_0]; refine Gets.seq ?_
  refine Gets.ofN fitL4 pkc_sound (rc_agree _ _ _) 14 40 (by kernel_rfl) (x := .normal) (s' := (LS2 tx off n c k l e)) ((LR2 tx off n c k l e).trans (by rw [condT (decide_eq_true (by (first | omega | ((try simp (disch := omega) only [wrap_i64_id]) <;> omega))))])) ?_
  show Gets _ _ (codeAt [1, 0, 1] BL) _ _
  rw [LC1_0_1]; refine Gets.cond true (by kernel_rfl) (show evalX (KSt.ts (LS2 tx off n c k l e)) (.tmp 19) = .bool true by kernel_rfl) ?_; show Gets _ _ (codeAt [1, 0, 1, 0] BL) _ _
  rw [LC1_0_1_0]; refine Gets.seq ?_
  refine Gets.ofN fitL4 pkc_sound (rc_agree _ _ _) 14 40 (by kernel_rfl) (x := .normal) (s' := (LS4 off l e)) (LR3 tx off n c k l e) ?_
  show Gets _ _ (codeAt [1, 0, 1, 0, 1] BL) _ _
  rw [LC1_0_1_0_1]; refine Gets.ev fitL4.mix fitL4.cfg (fitL4.sound pkc_sound 14 0) 14 rfl (s' := KSt.low (LS4 off l e)) (x := .ret) rfl ?_
  exact hq
theorem LR4 (tx : ByteArray) (off : Nat) (n : Nat) (c : Nat) (k : Int) (l : List Int) (e : TypeId) : evCK Try.prog cfgL4 (runK Try.prog cfgL4 fsL4 (conTk pkcDom (rcK [] pkcT)) 14 40) 14 (codeAt [1, 0, 1, 0, 0] BL) (LS3 tx off n c k l e) (normC 1 [6]) =
  some (.normal, (LS4 off l e)) := by kernel_rfl
theorem Ln {tx : ByteArray} {n : Nat} {off : Nat} {l : List Int} {e : TypeId} {c : Nat} {k : Int} (hs : tx.size ≤ 2000) (hn : 250 < n)   {Q : Ex → St → Prop} (hq : Q .ret (KSt.low (LS4 off l e))) : Gets Try.prog (KH.low ⟨1, 1, [(0, 0, .tail off .u64 l e)]⟩) BL (KSt.low (LS0 tx off n c k l e)) Q := by
  rw [LC]; refine Gets.seq ?_
  refine Gets.ofN fitL4 pkc_sound (rc_agree _ _ _) 14 40 (by kernel_rfl) (x := .normal) (s' := (LS1 tx off n c k l e)) (LR1 tx off n c k l e) ?_
  show Gets _ _ (codeAt [1] BL) _ _
  rw [LC1]; refine Gets.seq ?_
  rw [LC1_0]; refine Gets.seq ?_
  refine Gets.ofN fitL4 pkc_sound (rc_agree _ _ _) 14 40 (by kernel_rfl) (x := .normal) (s' := (LS3 tx off n c k l e)) ((LR2 tx off n c k l e).trans (by rw [condF (decide_eq_false (by (first | omega | ((try simp (disch := omega) only [wrap_i64_id]) <;> omega))))])) ?_
  show Gets _ _ (codeAt [1, 0, 1] BL) _ _
  rw [LC1_0_1]; refine Gets.cond true (by kernel_rfl) ((show evalX (KSt.ts (LS3 tx off n c k l e)) (.tmp 19) = .bool (decide (((n : Nat) : Int) > 250)) by kernel_rfl).trans (by rw [(show (decide (((n : Nat) : Int) > 250)) = true from decide_eq_true (by (first | omega | ((try simp (disch := omega) only [wrap_i64_id]) <;> omega))))])) ?_; show Gets _ _ (codeAt [1, 0, 1, 0] BL) _ _
  rw [LC1_0_1_0]; refine Gets.seq ?_
  refine Gets.ofN fitL4 pkc_sound (rc_agree _ _ _) 14 40 (by kernel_rfl) (x := .normal) (s' := (LS4 off l e)) (LR4 tx off n c k l e) ?_
  show Gets _ _ (codeAt [1, 0, 1, 0, 1] BL) _ _
  rw [LC1_0_1_0_1]; refine Gets.ev fitL4.mix fitL4.cfg (fitL4.sound pkc_sound 14 0) 14 rfl (s' := KSt.low (LS4 off l e)) (x := .ret) rfl ?_
  exact hq
theorem LR5 (tx : ByteArray) (off : Nat) (n : Nat) (c : Nat) (k : Int) (l : List Int) (e : TypeId) : evCK Try.prog cfgL4 (runK Try.prog cfgL4 fsL4 (conTk pkcDom (rcK [] pkcT)) 14 40) 14 (codeAt [1, 0, 1, 1] BL) (LS3 tx off n c k l e) (normC 1 [0, 1, 2]) =
  some (.normal, (LS1 tx off n c k l e)) := by kernel_rfl
theorem LC1_1 : (codeAt [1, 1] BL) = .seq (codeAt [1, 1, 0] BL) (codeAt [1, 1, 1] BL) := by kernel_rfl
noncomputable def LS5 (tx : ByteArray) (off : Nat) (n : Nat) (c : Nat) (k : Int) (l : List Int) (e : TypeId) : KSt := ⟨(frameL 71 [(0, (.string tx)), (1, (.slice (some ⟨0, off, none⟩) n c)), (2, (.int .i64 k)), (7, (.slice (some ⟨1, 0, none⟩) (List.length (wordsA tx)) (List.length (wordsA tx))))]), ⟨2, 1, [(1, 0, .ints .u64 (wordsA tx) 30 true), (0, 0, .tail off .u64 l e)]⟩⟩
theorem LR6 (tx : ByteArray) (off : Nat) (n : Nat) (c : Nat) (k : Int) (l : List Int) (e : TypeId) : evCK Try.prog cfgL4 (runK Try.prog cfgL4 fsL4 (conTk pkcDom (rcK [] pkcT)) 14 40) 14 (codeAt [1, 1, 0] BL) (LS1 tx off n c k l e) (normC 1 [0, 1, 2, 7]) =
  bif (Nat.ble (ByteArray.size tx) 2000) then
    some (.normal, (LS5 tx off n c k l e))
  else
    none := by kernel_rfl
theorem LC1_1_1 : (codeAt [1, 1, 1] BL) = .seq (codeAt [1, 1, 1, 0] BL) (codeAt [1, 1, 1, 1] BL) := by kernel_rfl
noncomputable def LS6 (tx : ByteArray) (off : Nat) (n : Nat) (c : Nat) (k : Int) (l : List Int) (e : TypeId) : KSt := ⟨(frameL 71 [(0, (.string tx)), (1, (.slice (some ⟨0, off, none⟩) n c)), (2, (.int .i64 k)), (7, (.slice (some ⟨1, 0, none⟩) (List.length (wordsA tx)) (List.length (wordsA tx)))), (8, (.string (Prod.fst (textA (List.take (List.length (wordsA tx)) (List.drop 0 (wordsA tx))) (((ByteArray.size tx) : Nat) : Int))))), (9, (.bool (Prod.snd (textA (List.take (List.length (wordsA tx)) (List.drop 0 (wordsA tx))) (((ByteArray.size tx) : Nat) : Int)))))]), ⟨2, 1, [(1, 0, .ints .u64 (wordsA tx) 30 true), (0, 0, .tail off .u64 l e)]⟩⟩
theorem LR7 (tx : ByteArray) (off : Nat) (n : Nat) (c : Nat) (k : Int) (l : List Int) (e : TypeId) : evCK Try.prog cfgL4 (runK Try.prog cfgL4 fsL4 (conTk pkcDom (rcK [] pkcT)) 14 40) 14 (codeAt [1, 1, 1, 0] BL) (LS5 tx off n c k l e) (normC 1 [0, 1, 2, 7, 8, 9]) =
  bif (Nat.ble (0 + (List.length (wordsA tx))) (List.length (wordsA tx))) then
    bif ((Nat.ble (List.length (List.take (List.length (wordsA tx)) (List.drop 0 (wordsA tx)))) 1000) && (decide ((((ByteArray.size tx) : Nat) : Int) ≤ 9223372036854775807))) then
      some (.normal, (LS6 tx off n c k l e))
    else
      none
  else
    none := by kernel_rfl
theorem LC1_1_1_1 : (codeAt [1, 1, 1, 1] BL) = .seq (codeAt [1, 1, 1, 1, 0] BL) (codeAt [1, 1, 1, 1, 1] BL) := by kernel_rfl
theorem LC1_1_1_1_0 : (codeAt [1, 1, 1, 1, 0] BL) = .seq (codeAt [1, 1, 1, 1, 0, 0] BL) (codeAt [1, 1, 1, 1, 0, 1] BL) := by kernel_rfl
noncomputable def LS7 (off : Nat) (n : Nat) (c : Nat) (k : Int) (l : List Int) (e : TypeId) : KSt := ⟨(frameL 71 [(1, (.slice (some ⟨0, off, none⟩) n c)), (2, (.int .i64 k)), (44, (.bool true))]), ⟨1, 1, [(0, 0, .tail off .u64 l e)]⟩⟩
noncomputable def LS8 (off : Nat) (n : Nat) (c : Nat) (k : Int) (tx : ByteArray) (l : List Int) (e : TypeId) : KSt := ⟨(frameL 71 [(1, (.slice (some ⟨0, off, none⟩) n c)), (2, (.int .i64 k)), (44, (.bool ((((List.length (wordsA tx)) : Nat) : Int) != (manyV (((ByteArray.size tx) : Nat) : Int)))))]), ⟨1, 1, [(0, 0, .tail off .u64 l e)]⟩⟩
theorem LR8 (tx : ByteArray) (off : Nat) (n : Nat) (c : Nat) (k : Int) (l : List Int) (e : TypeId) : evCK Try.prog cfgL4 (runK Try.prog cfgL4 fsL4 (conTk pkcDom (rcK [] pkcT)) 14 40) 14 (codeAt [1, 1, 1, 1, 0, 0] BL) (LS6 tx off n c k l e) (normC 1 [1, 2, 44]) =
  bif (!((Prod.fst (textA (List.take (List.length (wordsA tx)) (List.drop 0 (wordsA tx))) (((ByteArray.size tx) : Nat) : Int))).toList == tx.toList)) then
    some (.normal, (LS7 off n c k l e))
  else
    bif (!(Prod.snd (textA (List.take (List.length (wordsA tx)) (List.drop 0 (wordsA tx))) (((ByteArray.size tx) : Nat) : Int)))) then
      some (.normal, (LS7 off n c k l e))
    else
      bif (decide ((((ByteArray.size tx) : Nat) : Int) ≤ 9223372036854775807)) then
        some (.normal, (LS8 off n c k tx l e))
      else
        none := by kernel_rfl
theorem LC1_1_1_1_0_1 : (codeAt [1, 1, 1, 1, 0, 1] BL) = .cond (.tmp 44) (codeAt [1, 1, 1, 1, 0, 1, 0] BL) (codeAt [1, 1, 1, 1, 0, 1, 1] BL) := by kernel_rfl
noncomputable def LS9 (off : Nat) (n : Nat) (c : Nat) (k : Int) (l : List Int) (e : TypeId) : KSt := ⟨(frameL 71 [(1, (.slice (some ⟨0, off, none⟩) n c)), (2, (.int .i64 k))]), ⟨1, 1, [(0, 0, .tail off .u64 l e)]⟩⟩
theorem LR9 (off : Nat) (n : Nat) (c : Nat) (k : Int) (tx : ByteArray) (l : List Int) (e : TypeId) : evCK Try.prog cfgL4 (runK Try.prog cfgL4 fsL4 (conTk pkcDom (rcK [] pkcT)) 14 40) 14 (codeAt [1, 1, 1, 1, 0, 1, 1] BL) (LS8 off n c k tx l e) (normC 1 [1, 2]) =
  some (.normal, (LS9 off n c k l e)) := by kernel_rfl
theorem LC1_1_1_1_1 : (codeAt [1, 1, 1, 1, 1] BL) = .seq (codeAt [1, 1, 1, 1, 1, 0] BL) (codeAt [1, 1, 1, 1, 1, 1] BL) := by kernel_rfl
noncomputable def LS10 (off : Nat) (n : Nat) (c : Nat) (k : Int) (l : List Int) (e : TypeId) : KSt := ⟨(frameL 71 [(1, (.slice (some ⟨0, off, none⟩) n c)), (2, (.int .i64 k)), (10, (.string (Prod.fst (textA (List.take n (List.drop (off - off) l)) k)))), (11, (.bool (Prod.snd (textA (List.take n (List.drop (off - off) l)) k))))]), ⟨1, 1, [(0, 0, .tail off .u64 l e)]⟩⟩
theorem LR10 (off : Nat) (n : Nat) (c : Nat) (k : Int) (l : List Int) (e : TypeId) : evCK Try.prog cfgL4 (runK Try.prog cfgL4 fsL4 (conTk pkcDom (rcK [] pkcT)) 14 40) 14 (codeAt [1, 1, 1, 1, 1, 0] BL) (LS9 off n c k l e) (normC 1 [1, 2, 10, 11]) =
  bif (Nat.ble off off) then
    bif (Nat.ble ((off - off) + n) (List.length l)) then
      bif ((Nat.ble (List.length (List.take n (List.drop (off - off) l))) 1000) && (decide (k ≤ 9223372036854775807))) then
        some (.normal, (LS10 off n c k l e))
      else
        none
    else
      none
  else
    none := by kernel_rfl
theorem LC1_1_1_1_1_1 : (codeAt [1, 1, 1, 1, 1, 1] BL) = .seq (codeAt [1, 1, 1, 1, 1, 1, 0] BL) (codeAt [1, 1, 1, 1, 1, 1, 1] BL) := by kernel_rfl
theorem LC1_1_1_1_1_1_0 : (codeAt [1, 1, 1, 1, 1, 1, 0] BL) = .seq (codeAt [1, 1, 1, 1, 1, 1, 0, 0] BL) (codeAt [1, 1, 1, 1, 1, 1, 0, 1] BL) := by kernel_rfl
noncomputable def LS11 (off : Nat) (n : Nat) (c : Nat) (k : Int) (l : List Int) (e : TypeId) : KSt := ⟨(frameL 71 [(1, (.slice (some ⟨0, off, none⟩) n c)), (2, (.int .i64 k)), (10, (.string (Prod.fst (textA (List.take n (List.drop (off - off) l)) k)))), (52, (.bool (!(Prod.snd (textA (List.take n (List.drop (off - off) l)) k)))))]), ⟨1, 1, [(0, 0, .tail off .u64 l e)]⟩⟩
theorem LR11 (off : Nat) (n : Nat) (c : Nat) (k : Int) (l : List Int) (e : TypeId) : evCK Try.prog cfgL4 (runK Try.prog cfgL4 fsL4 (conTk pkcDom (rcK [] pkcT)) 14 40) 14 (codeAt [1, 1, 1, 1, 1, 1, 0, 0] BL) (LS10 off n c k l e) (normC 1 [1, 2, 10, 52]) =
  some (.normal, (LS11 off n c k l e)) := by kernel_rfl
theorem LC1_1_1_1_1_1_0_1 : (codeAt [1, 1, 1, 1, 1, 1, 0, 1] BL) = .cond (.tmp 52) (codeAt [1, 1, 1, 1, 1, 1, 0, 1, 0] BL) (codeAt [1, 1, 1, 1, 1, 1, 0, 1, 1] BL) := by kernel_rfl
theorem LC1_1_1_1_1_1_0_1_0 : (codeAt [1, 1, 1, 1, 1, 1, 0, 1, 0] BL) = .seq (codeAt [1, 1, 1, 1, 1, 1, 0, 1, 0, 0] BL) (codeAt [1, 1, 1, 1, 1, 1, 0, 1, 0, 1] BL) := by kernel_rfl
noncomputable def LS12 (off : Nat) (l : List Int) (e : TypeId) : KSt := ⟨(frameL 71 [(6, (.bool false))]), ⟨1, 1, [(0, 0, .tail off .u64 l e)]⟩⟩
theorem LR12 (off : Nat) (n : Nat) (c : Nat) (k : Int) (l : List Int) (e : TypeId) : evCK Try.prog cfgL4 (runK Try.prog cfgL4 fsL4 (conTk pkcDom (rcK [] pkcT)) 14 40) 14 (codeAt [1, 1, 1, 1, 1, 1, 0, 1, 0, 0] BL) (LS11 off n c k l e) (normC 1 [6]) =
  bif ((Prod.fst (textA (List.take n (List.drop (off - off) l)) k)).toList == (⟨#[]⟩ : ByteArray).toList) then
    some (.normal, (LS4 off l e))
  else
    some (.normal, (LS12 off l e)) := by kernel_rfl
theorem LC1_1_1_1_1_1_0_1_0_1 : (codeAt [1, 1, 1, 1, 1, 1, 0, 1, 0, 1] BL) = .ret := by kernel_rfl
theorem Lf {tx : ByteArray} {n : Nat} {l : List Int} {c : Nat} {k : Int} {off : Nat} {e : TypeId} (hs : tx.size ≤ 2000) (hn : n ≤ 250) (hl : l.length = c) (hc : n ≤ c) (hk : k ≤ 9223372036854775807) (hWl : (wordsA tx).length ≤ 1000) (hT : textA (List.take (List.length (wordsA tx)) (List.drop 0 (wordsA tx))) (((ByteArray.size tx) : Nat) : Int) = (tx, true)) (hM : (((List.length (wordsA tx) : Nat)) : Int) = manyV (((ByteArray.size tx) : Nat) : Int)) (hF : Prod.snd (textA (List.take n (List.drop (off - off) l)) k) = false) (hE : Prod.fst (textA (List.take n (List.drop (off - off) l)) k) = (⟨#[]⟩ : ByteArray))   {Q : Ex → St → Prop} (hq : Q .ret (KSt.low (LS4 off l e))) : Gets Try.prog (KH.low ⟨1, 1, [(0, 0, .tail off .u64 l e)]⟩) BL (KSt.low (LS0 tx off n c k l e)) Q := by
  rw [LC]; refine Gets.seq ?_
  refine Gets.ofN fitL4 pkc_sound (rc_agree _ _ _) 14 40 (by kernel_rfl) (x := .normal) (s' := (LS1 tx off n c k l e)) (LR1 tx off n c k l e) ?_
  show Gets _ _ (codeAt [1] BL) _ _
  rw [LC1]; refine Gets.seq ?_
  rw [LC1_0]; refine Gets.seq ?_
  refine Gets.ofN fitL4 pkc_sound (rc_agree _ _ _) 14 40 (by kernel_rfl) (x := .normal) (s' := (LS3 tx off n c k l e)) ((LR2 tx off n c k l e).trans (by rw [condF (decide_eq_false (by (first | omega | ((try simp (disch := omega) only [wrap_i64_id]) <;> omega))))])) ?_
  show Gets _ _ (codeAt [1, 0, 1] BL) _ _
  rw [LC1_0_1]; refine Gets.cond false (by kernel_rfl) ((show evalX (KSt.ts (LS3 tx off n c k l e)) (.tmp 19) = .bool (decide (((n : Nat) : Int) > 250)) by kernel_rfl).trans (by rw [(show (decide (((n : Nat) : Int) > 250)) = false from decide_eq_false (by (first | omega | ((try simp (disch := omega) only [wrap_i64_id]) <;> omega))))])) ?_; show Gets _ _ (codeAt [1, 0, 1, 1] BL) _ _
  refine Gets.ofN fitL4 pkc_sound (rc_agree _ _ _) 14 40 (by kernel_rfl) (x := .normal) (s' := (LS1 tx off n c k l e)) (LR5 tx off n c k l e) ?_
  show Gets _ _ (codeAt [1, 1] BL) _ _
  rw [LC1_1]; refine Gets.seq ?_
  refine Gets.ofN fitL4 pkc_sound (rc_agree _ _ _) 14 40 (by kernel_rfl) (x := .normal) (s' := (LS5 tx off n c k l e)) ((LR6 tx off n c k l e).trans (by rw [condT (ble_t (by (first | omega | ((try simp (disch := omega) only [wrap_i64_id]) <;> omega))))])) ?_
  show Gets _ _ (codeAt [1, 1, 1] BL) _ _
  rw [LC1_1_1]; refine Gets.seq ?_
  refine Gets.ofN fitL4 pkc_sound (rc_agree _ _ _) 14 40 (by kernel_rfl) (x := .normal) (s' := (LS6 tx off n c k l e)) ((LR7 tx off n c k l e).trans (by rw [condT (ble_t (by (first | omega | ((try simp (disch := omega) only [wrap_i64_id]) <;> omega)))), condT (and_t (Nat.ble_eq_true_of_le (by simp; omega)) (decide_eq_true (by (first | omega | ((try simp (disch := omega) only [wrap_i64_id]) <;> omega)))))])) ?_
  show Gets _ _ (codeAt [1, 1, 1, 1] BL) _ _
  rw [LC1_1_1_1]; refine Gets.seq ?_
  rw [LC1_1_1_1_0]; refine Gets.seq ?_
  refine Gets.ofN fitL4 pkc_sound (rc_agree _ _ _) 14 40 (by kernel_rfl) (x := .normal) (s' := (LS8 off n c k tx l e)) ((LR8 tx off n c k l e).trans (by rw [condF (not_f (by rw [hT]; exact beq_self_eq_true _)), condF (not_f (by rw [hT])), condT (decide_eq_true (by (first | omega | ((try simp (disch := omega) only [wrap_i64_id]) <;> omega))))])) ?_
  show Gets _ _ (codeAt [1, 1, 1, 1, 0, 1] BL) _ _
  rw [LC1_1_1_1_0_1]; refine Gets.cond false (by kernel_rfl) ((show evalX (KSt.ts (LS8 off n c k tx l e)) (.tmp 44) = .bool ((((List.length (wordsA tx)) : Nat) : Int) != (manyV (((ByteArray.size tx) : Nat) : Int))) by kernel_rfl).trans (by rw [(show ((((List.length (wordsA tx)) : Nat) : Int) != (manyV (((ByteArray.size tx) : Nat) : Int))) = false from by simpa using hM)])) ?_; show Gets _ _ (codeAt [1, 1, 1, 1, 0, 1, 1] BL) _ _
  refine Gets.ofN fitL4 pkc_sound (rc_agree _ _ _) 14 40 (by kernel_rfl) (x := .normal) (s' := (LS9 off n c k l e)) (LR9 off n c k tx l e) ?_
  show Gets _ _ (codeAt [1, 1, 1, 1, 1] BL) _ _
  rw [LC1_1_1_1_1]; refine Gets.seq ?_
  refine Gets.ofN fitL4 pkc_sound (rc_agree _ _ _) 14 40 (by kernel_rfl) (x := .normal) (s' := (LS10 off n c k l e)) ((LR10 off n c k l e).trans (by rw [condT (ble_t (by (first | omega | ((try simp (disch := omega) only [wrap_i64_id]) <;> omega)))), condT (ble_t (by (first | omega | ((try simp (disch := omega) only [wrap_i64_id]) <;> omega)))), condT (and_t (Nat.ble_eq_true_of_le (by simp; omega)) (decide_eq_true (by (first | omega | ((try simp (disch := omega) only [wrap_i64_id]) <;> omega)))))])) ?_
  show Gets _ _ (codeAt [1, 1, 1, 1, 1, 1] BL) _ _
  rw [LC1_1_1_1_1_1]; refine Gets.seq ?_
  rw [LC1_1_1_1_1_1_0]; refine Gets.seq ?_
  refine Gets.ofN fitL4 pkc_sound (rc_agree _ _ _) 14 40 (by kernel_rfl) (x := .normal) (s' := (LS11 off n c k l e)) (LR11 off n c k l e) ?_
  show Gets _ _ (codeAt [1, 1, 1, 1, 1, 1, 0, 1] BL) _ _
  rw [LC1_1_1_1_1_1_0_1]; refine Gets.cond true (by kernel_rfl) ((show evalX (KSt.ts (LS11 off n c k l e)) (.tmp 52) = .bool (!(Prod.snd (textA (List.take n (List.drop (off - off) l)) k))) by kernel_rfl).trans (by rw [(show (!(Prod.snd (textA (List.take n (List.drop (off - off) l)) k))) = true from not_t (hF))])) ?_; show Gets _ _ (codeAt [1, 1, 1, 1, 1, 1, 0, 1, 0] BL) _ _
  rw [LC1_1_1_1_1_1_0_1_0]; refine Gets.seq ?_
  refine Gets.ofN fitL4 pkc_sound (rc_agree _ _ _) 14 40 (by kernel_rfl) (x := .normal) (s' := (LS4 off l e)) ((LR12 off n c k l e).trans (by rw [condT (by rw [hE]; exact beq_self_eq_true _)])) ?_
  show Gets _ _ (codeAt [1, 1, 1, 1, 1, 1, 0, 1, 0, 1] BL) _ _
  rw [LC1_1_1_1_1_1_0_1_0_1]; refine Gets.ev fitL4.mix fitL4.cfg (fitL4.sound pkc_sound 14 0) 14 rfl (s' := KSt.low (LS4 off l e)) (x := .ret) rfl ?_
  exact hq
noncomputable def LS13 (off : Nat) (n : Nat) (c : Nat) (k : Int) (l : List Int) (e : TypeId) : KSt := ⟨(frameL 71 [(1, (.slice (some ⟨0, off, none⟩) n c)), (2, (.int .i64 k)), (10, (.string (Prod.fst (textA (List.take n (List.drop (off - off) l)) k))))]), ⟨1, 1, [(0, 0, .tail off .u64 l e)]⟩⟩
theorem LR13 (off : Nat) (n : Nat) (c : Nat) (k : Int) (l : List Int) (e : TypeId) : evCK Try.prog cfgL4 (runK Try.prog cfgL4 fsL4 (conTk pkcDom (rcK [] pkcT)) 14 40) 14 (codeAt [1, 1, 1, 1, 1, 1, 0, 1, 1] BL) (LS11 off n c k l e) (normC 1 [1, 2, 10]) =
  some (.normal, (LS13 off n c k l e)) := by kernel_rfl
theorem LC1_1_1_1_1_1_1 : (codeAt [1, 1, 1, 1, 1, 1, 1] BL) = .seq (codeAt [1, 1, 1, 1, 1, 1, 1, 0] BL) (codeAt [1, 1, 1, 1, 1, 1, 1, 1] BL) := by kernel_rfl
theorem LR14 (off : Nat) (n : Nat) (c : Nat) (k : Int) (l : List Int) (e : TypeId) : evCK Try.prog cfgL4 (runK Try.prog cfgL4 fsL4 (conTk pkcDom (rcK [] pkcT)) 14 40) 14 (codeAt [1, 1, 1, 1, 1, 1, 1, 0] BL) (LS13 off n c k l e) (normC 1 [6]) =
  bif ((((ByteArray.size (Prod.fst (textA (List.take n (List.drop (off - off) l)) k))) : Nat) : Int) == k) then
    bif (Nat.ble (ByteArray.size (Prod.fst (textA (List.take n (List.drop (off - off) l)) k))) 2000) then
      bif (Nat.ble (0 + (List.length (wordsA (Prod.fst (textA (List.take n (List.drop (off - off) l)) k))))) (List.length (wordsA (Prod.fst (textA (List.take n (List.drop (off - off) l)) k))))) then
        bif (Nat.ble off off) then
          bif (Nat.ble ((off - off) + n) (List.length l)) then
            bif (Nat.ble (List.length (List.take (List.length (wordsA (Prod.fst (textA (List.take n (List.drop (off - off) l)) k)))) (List.drop 0 (wordsA (Prod.fst (textA (List.take n (List.drop (off - off) l)) k)))))) 100000) then
              bif (decide ((List.take (List.length (wordsA (Prod.fst (textA (List.take n (List.drop (off - off) l)) k)))) (List.drop 0 (wordsA (Prod.fst (textA (List.take n (List.drop (off - off) l)) k))))) = (List.take n (List.drop (off - off) l)))) then
                some (.normal, (LS4 off l e))
              else
                some (.normal, (LS12 off l e))
            else
              none
          else
            none
        else
          none
      else
        none
    else
      none
  else
    some (.normal, (LS12 off l e)) := by kernel_rfl
theorem LC1_1_1_1_1_1_1_1 : (codeAt [1, 1, 1, 1, 1, 1, 1, 1] BL) = .ret := by kernel_rfl
theorem Lt {tx : ByteArray} {n : Nat} {l : List Int} {c : Nat} {k : Int} {off : Nat} {e : TypeId} (hs : tx.size ≤ 2000) (hn : n ≤ 250) (hl : l.length = c) (hc : n ≤ c) (hk : k ≤ 9223372036854775807) (hWl : (wordsA tx).length ≤ 1000) (hT : textA (List.take (List.length (wordsA tx)) (List.drop 0 (wordsA tx))) (((ByteArray.size tx) : Nat) : Int) = (tx, true)) (hM : (((List.length (wordsA tx) : Nat)) : Int) = manyV (((ByteArray.size tx) : Nat) : Int)) (hF : Prod.snd (textA (List.take n (List.drop (off - off) l)) k) = true) (hE : ((ByteArray.size (Prod.fst (textA (List.take n (List.drop (off - off) l)) k)) : Nat) : Int) = k) (hz : ByteArray.size (Prod.fst (textA (List.take n (List.drop (off - off) l)) k)) ≤ 2000) (hWl2 : (wordsA (Prod.fst (textA (List.take n (List.drop (off - off) l)) k))).length ≤ 1000) (hW : wordsA (Prod.fst (textA (List.take n (List.drop (off - off) l)) k)) = (List.take n (List.drop (off - off) l)))   {Q : Ex → St → Prop} (hq : Q .ret (KSt.low (LS4 off l e))) : Gets Try.prog (KH.low ⟨1, 1, [(0, 0, .tail off .u64 l e)]⟩) BL (KSt.low (LS0 tx off n c k l e)) Q := by
  rw [LC]; refine Gets.seq ?_
  refine Gets.ofN fitL4 pkc_sound (rc_agree _ _ _) 14 40 (by kernel_rfl) (x := .normal) (s' := (LS1 tx off n c k l e)) (LR1 tx off n c k l e) ?_
  show Gets _ _ (codeAt [1] BL) _ _
  rw [LC1]; refine Gets.seq ?_
  rw [LC1_0]; refine Gets.seq ?_
  refine Gets.ofN fitL4 pkc_sound (rc_agree _ _ _) 14 40 (by kernel_rfl) (x := .normal) (s' := (LS3 tx off n c k l e)) ((LR2 tx off n c k l e).trans (by rw [condF (decide_eq_false (by (first | omega | ((try simp (disch := omega) only [wrap_i64_id]) <;> omega))))])) ?_
  show Gets _ _ (codeAt [1, 0, 1] BL) _ _
  rw [LC1_0_1]; refine Gets.cond false (by kernel_rfl) ((show evalX (KSt.ts (LS3 tx off n c k l e)) (.tmp 19) = .bool (decide (((n : Nat) : Int) > 250)) by kernel_rfl).trans (by rw [(show (decide (((n : Nat) : Int) > 250)) = false from decide_eq_false (by (first | omega | ((try simp (disch := omega) only [wrap_i64_id]) <;> omega))))])) ?_; show Gets _ _ (codeAt [1, 0, 1, 1] BL) _ _
  refine Gets.ofN fitL4 pkc_sound (rc_agree _ _ _) 14 40 (by kernel_rfl) (x := .normal) (s' := (LS1 tx off n c k l e)) (LR5 tx off n c k l e) ?_
  show Gets _ _ (codeAt [1, 1] BL) _ _
  rw [LC1_1]; refine Gets.seq ?_
  refine Gets.ofN fitL4 pkc_sound (rc_agree _ _ _) 14 40 (by kernel_rfl) (x := .normal) (s' := (LS5 tx off n c k l e)) ((LR6 tx off n c k l e).trans (by rw [condT (ble_t (by (first | omega | ((try simp (disch := omega) only [wrap_i64_id]) <;> omega))))])) ?_
  show Gets _ _ (codeAt [1, 1, 1] BL) _ _
  rw [LC1_1_1]; refine Gets.seq ?_
  refine Gets.ofN fitL4 pkc_sound (rc_agree _ _ _) 14 40 (by kernel_rfl) (x := .normal) (s' := (LS6 tx off n c k l e)) ((LR7 tx off n c k l e).trans (by rw [condT (Nat.ble_eq_true_of_le (by omega)), condT (and_t (Nat.ble_eq_true_of_le (by simp; omega)) (decide_eq_true (by (first | omega | ((try simp (disch := omega) only [wrap_i64_id]) <;> omega)))))])) ?_
  show Gets _ _ (codeAt [1, 1, 1, 1] BL) _ _
  rw [LC1_1_1_1]; refine Gets.seq ?_
  rw [LC1_1_1_1_0]; refine Gets.seq ?_
  refine Gets.ofN fitL4 pkc_sound (rc_agree _ _ _) 14 40 (by kernel_rfl) (x := .normal) (s' := (LS8 off n c k tx l e)) ((LR8 tx off n c k l e).trans (by rw [condF (not_f (by rw [hT]; exact beq_self_eq_true _)), condF (not_f (by rw [hT])), condT (decide_eq_true (by (first | omega | ((try simp (disch := omega) only [wrap_i64_id]) <;> omega))))])) ?_
  show Gets _ _ (codeAt [1, 1, 1, 1, 0, 1] BL) _ _
  rw [LC1_1_1_1_0_1]; refine Gets.cond false (by kernel_rfl) ((show evalX (KSt.ts (LS8 off n c k tx l e)) (.tmp 44) = .bool ((((List.length (wordsA tx)) : Nat) : Int) != (manyV (((ByteArray.size tx) : Nat) : Int))) by kernel_rfl).trans (by rw [(show ((((List.length (wordsA tx)) : Nat) : Int) != (manyV (((ByteArray.size tx) : Nat) : Int))) = false from by simpa using hM)])) ?_; show Gets _ _ (codeAt [1, 1, 1, 1, 0, 1, 1] BL) _ _
  refine Gets.ofN fitL4 pkc_sound (rc_agree _ _ _) 14 40 (by kernel_rfl) (x := .normal) (s' := (LS9 off n c k l e)) (LR9 off n c k tx l e) ?_
  show Gets _ _ (codeAt [1, 1, 1, 1, 1] BL) _ _
  rw [LC1_1_1_1_1]; refine Gets.seq ?_
  refine Gets.ofN fitL4 pkc_sound (rc_agree _ _ _) 14 40 (by kernel_rfl) (x := .normal) (s' := (LS10 off n c k l e)) ((LR10 off n c k l e).trans (by rw [condT (ble_t (by (first | omega | ((try simp (disch := omega) only [wrap_i64_id]) <;> omega)))), condT (ble_t (by (first | omega | ((try simp (disch := omega) only [wrap_i64_id]) <;> omega)))), condT (and_t (Nat.ble_eq_true_of_le (by simp; omega)) (decide_eq_true (by (first | omega | ((try simp (disch := omega) only [wrap_i64_id]) <;> omega)))))])) ?_
  show Gets _ _ (codeAt [1, 1, 1, 1, 1, 1] BL) _ _
  rw [LC1_1_1_1_1_1]; refine Gets.seq ?_
  rw [LC1_1_1_1_1_1_0]; refine Gets.seq ?_
  refine Gets.ofN fitL4 pkc_sound (rc_agree _ _ _) 14 40 (by kernel_rfl) (x := .normal) (s' := (LS11 off n c k l e)) (LR11 off n c k l e) ?_
  show Gets _ _ (codeAt [1, 1, 1, 1, 1, 1, 0, 1] BL) _ _
  rw [LC1_1_1_1_1_1_0_1]; refine Gets.cond false (by kernel_rfl) ((show evalX (KSt.ts (LS11 off n c k l e)) (.tmp 52) = .bool (!(Prod.snd (textA (List.take n (List.drop (off - off) l)) k))) by kernel_rfl).trans (by rw [(show (!(Prod.snd (textA (List.take n (List.drop (off - off) l)) k))) = false from not_f (hF))])) ?_; show Gets _ _ (codeAt [1, 1, 1, 1, 1, 1, 0, 1, 1] BL) _ _
  refine Gets.ofN fitL4 pkc_sound (rc_agree _ _ _) 14 40 (by kernel_rfl) (x := .normal) (s' := (LS13 off n c k l e)) (LR13 off n c k l e) ?_
  show Gets _ _ (codeAt [1, 1, 1, 1, 1, 1, 1] BL) _ _
  rw [LC1_1_1_1_1_1_1]; refine Gets.seq ?_
  refine Gets.ofN fitL4 pkc_sound (rc_agree _ _ _) 14 40 (by kernel_rfl) (x := .normal) (s' := (LS4 off l e)) ((LR14 off n c k l e).trans (by rw [condT (beq_iff_eq.2 hE), condT (Nat.ble_eq_true_of_le hz), condT (Nat.ble_eq_true_of_le (by omega)), condT (ble_t (by (first | omega | ((try simp (disch := omega) only [wrap_i64_id]) <;> omega)))), condT (ble_t (by (first | omega | ((try simp (disch := omega) only [wrap_i64_id]) <;> omega)))), condT (Nat.ble_eq_true_of_le (by rw [List.drop_zero, List.take_length]; omega)), condT (decide_eq_true (by rw [List.drop_zero, List.take_length]; exact hW))])) ?_
  show Gets _ _ (codeAt [1, 1, 1, 1, 1, 1, 1, 1] BL) _ _
  rw [LC1_1_1_1_1_1_1_1]; refine Gets.ev fitL4.mix fitL4.cfg (fitL4.sound pkc_sound 14 0) 14 rfl (s' := KSt.low (LS4 off l e)) (x := .ret) rfl ?_
  exact hq
noncomputable def BK : Code := bodyOf Try.prog 4
theorem BK_is : Try.f4.body = some BK := by kernel_rfl
theorem BK_ok : okCode Try.prog.globals.size BK = true := by kernel_rfl
noncomputable def KS0 (tx : ByteArray) (k : Int) : KSt := (firstK [(.string tx), (.slice (some ⟨0, 0, some 0⟩) 0 0), (.int .i64 k)] 71 ⟨0, 1, []⟩)
theorem KC : BK = .seq (codeAt [0] BK) (codeAt [1] BK) := by kernel_rfl
noncomputable def KS1 (tx : ByteArray) (k : Int) : KSt := ⟨(frameL 71 [(0, (.string tx)), (1, (.slice (some ⟨0, 0, some 0⟩) 0 0)), (2, (.int .i64 k))]), ⟨0, 1, []⟩⟩
theorem KR1 (tx : ByteArray) (k : Int) : evCK Try.prog cfgL4 (runK Try.prog cfgL4 fsL4 (conTk pkcDom (rcK [] pkcT)) 14 40) 14 (codeAt [0] BK) (KS0 tx k) (normC 0 [0, 1, 2]) =
  some (.normal, (KS1 tx k)) := by kernel_rfl
theorem KC1 : (codeAt [1] BK) = .seq (codeAt [1, 0] BK) (codeAt [1, 1] BK) := by kernel_rfl
theorem KC1_0 : (codeAt [1, 0] BK) = .seq (codeAt [1, 0, 0] BK) (codeAt [1, 0, 1] BK) := by kernel_rfl
noncomputable def KS2 (tx : ByteArray) (k : Int) : KSt := ⟨(frameL 71 [(0, (.string tx)), (1, (.slice (some ⟨0, 0, some 0⟩) 0 0)), (2, (.int .i64 k)), (19, (.bool true))]), ⟨0, 1, []⟩⟩
noncomputable def KS3 (tx : ByteArray) (k : Int) : KSt := ⟨(frameL 71 [(0, (.string tx)), (1, (.slice (some ⟨0, 0, some 0⟩) 0 0)), (2, (.int .i64 k)), (19, (.bool false))]), ⟨0, 1, []⟩⟩
theorem KR2 (tx : ByteArray) (k : Int) : evCK Try.prog cfgL4 (runK Try.prog cfgL4 fsL4 (conTk pkcDom (rcK [] pkcT)) 14 40) 14 (codeAt [1, 0, 0] BK) (KS1 tx k) (normC 0 [0, 1, 2, 19]) =
  bif (decide ((((ByteArray.size tx) : Nat) : Int) > 2000)) then
    some (.normal, (KS2 tx k))
  else
    some (.normal, (KS3 tx k)) := by kernel_rfl
theorem KC1_0_1 : (codeAt [1, 0, 1] BK) = .cond (.tmp 19) (codeAt [1, 0, 1, 0] BK) (codeAt [1, 0, 1, 1] BK) := by kernel_rfl
theorem KC1_0_1_0 : (codeAt [1, 0, 1, 0] BK) = .seq (codeAt [1, 0, 1, 0, 0] BK) (codeAt [1, 0, 1, 0, 1] BK) := by kernel_rfl
noncomputable def KS4  : KSt := ⟨(frameL 71 [(6, (.bool true))]), ⟨0, 1, []⟩⟩
theorem KR3 (tx : ByteArray) (k : Int) : evCK Try.prog cfgL4 (runK Try.prog cfgL4 fsL4 (conTk pkcDom (rcK [] pkcT)) 14 40) 14 (codeAt [1, 0, 1, 0, 0] BK) (KS2 tx k) (normC 0 [6]) =
  some (.normal, KS4) := by kernel_rfl
theorem KC1_0_1_0_1 : (codeAt [1, 0, 1, 0, 1] BK) = .ret := by kernel_rfl
theorem Ks {tx : ByteArray} {k : Int} (hs : 2000 < tx.size)   {Q : Ex → St → Prop} (hq : Q .ret (KSt.low KS4)) : Gets Try.prog (KH.low ⟨0, 1, []⟩) BK (KSt.low (KS0 tx k)) Q := by
  rw [KC]; refine Gets.seq ?_
  refine Gets.ofN fitL4 pkc_sound (rc_agree _ _ _) 14 40 (by kernel_rfl) (x := .normal) (s' := (KS1 tx k)) (KR1 tx k) ?_
  show Gets _ _ (codeAt [1] BK) _ _
  rw [KC1]; refine Gets.seq ?_
  rw [KC1_0]; refine Gets.seq ?_
  refine Gets.ofN fitL4 pkc_sound (rc_agree _ _ _) 14 40 (by kernel_rfl) (x := .normal) (s' := (KS2 tx k)) ((KR2 tx k).trans (by rw [condT (decide_eq_true (by (first | omega | ((try simp (disch := omega) only [wrap_i64_id]) <;> omega))))])) ?_
  show Gets _ _ (codeAt [1, 0, 1] BK) _ _
  rw [KC1_0_1]; refine Gets.cond true (by kernel_rfl) (show evalX (KSt.ts (KS2 tx k)) (.tmp 19) = .bool true by kernel_rfl) ?_; show Gets _ _ (codeAt [1, 0, 1, 0] BK) _ _
  rw [KC1_0_1_0]; refine Gets.seq ?_
  refine Gets.ofN fitL4 pkc_sound (rc_agree _ _ _) 14 40 (by kernel_rfl) (x := .normal) (s' := KS4) (KR3 tx k) ?_
  show Gets _ _ (codeAt [1, 0, 1, 0, 1] BK) _ _
  rw [KC1_0_1_0_1]; refine Gets.ev fitL4.mix fitL4.cfg (fitL4.sound pkc_sound 14 0) 14 rfl (s' := KSt.low KS4) (x := .ret) rfl ?_
  exact hq
theorem KR4 (tx : ByteArray) (k : Int) : evCK Try.prog cfgL4 (runK Try.prog cfgL4 fsL4 (conTk pkcDom (rcK [] pkcT)) 14 40) 14 (codeAt [1, 0, 1, 1] BK) (KS3 tx k) (normC 0 [0, 1, 2]) =
  some (.normal, (KS1 tx k)) := by kernel_rfl
theorem KC1_1 : (codeAt [1, 1] BK) = .seq (codeAt [1, 1, 0] BK) (codeAt [1, 1, 1] BK) := by kernel_rfl
noncomputable def KS5 (tx : ByteArray) (k : Int) : KSt := ⟨(frameL 71 [(0, (.string tx)), (1, (.slice (some ⟨0, 0, some 0⟩) 0 0)), (2, (.int .i64 k)), (7, (.slice (some ⟨0, 0, none⟩) (List.length (wordsA tx)) (List.length (wordsA tx))))]), ⟨1, 1, [(0, 0, .ints .u64 (wordsA tx) 30 true)]⟩⟩
theorem KR5 (tx : ByteArray) (k : Int) : evCK Try.prog cfgL4 (runK Try.prog cfgL4 fsL4 (conTk pkcDom (rcK [] pkcT)) 14 40) 14 (codeAt [1, 1, 0] BK) (KS1 tx k) (normC 0 [0, 1, 2, 7]) =
  bif (Nat.ble (ByteArray.size tx) 2000) then
    some (.normal, (KS5 tx k))
  else
    none := by kernel_rfl
theorem KC1_1_1 : (codeAt [1, 1, 1] BK) = .seq (codeAt [1, 1, 1, 0] BK) (codeAt [1, 1, 1, 1] BK) := by kernel_rfl
noncomputable def KS6 (tx : ByteArray) (k : Int) : KSt := ⟨(frameL 71 [(0, (.string tx)), (1, (.slice (some ⟨0, 0, some 0⟩) 0 0)), (2, (.int .i64 k)), (7, (.slice (some ⟨0, 0, none⟩) (List.length (wordsA tx)) (List.length (wordsA tx)))), (8, (.string (Prod.fst (textA (List.take (List.length (wordsA tx)) (List.drop 0 (wordsA tx))) (((ByteArray.size tx) : Nat) : Int))))), (9, (.bool (Prod.snd (textA (List.take (List.length (wordsA tx)) (List.drop 0 (wordsA tx))) (((ByteArray.size tx) : Nat) : Int)))))]), ⟨1, 1, [(0, 0, .ints .u64 (wordsA tx) 30 true)]⟩⟩
theorem KR6 (tx : ByteArray) (k : Int) : evCK Try.prog cfgL4 (runK Try.prog cfgL4 fsL4 (conTk pkcDom (rcK [] pkcT)) 14 40) 14 (codeAt [1, 1, 1, 0] BK) (KS5 tx k) (normC 0 [0, 1, 2, 7, 8, 9]) =
  bif (Nat.ble (0 + (List.length (wordsA tx))) (List.length (wordsA tx))) then
    bif ((Nat.ble (List.length (List.take (List.length (wordsA tx)) (List.drop 0 (wordsA tx)))) 1000) && (decide ((((ByteArray.size tx) : Nat) : Int) ≤ 9223372036854775807))) then
      some (.normal, (KS6 tx k))
    else
      none
  else
    none := by kernel_rfl
theorem KC1_1_1_1 : (codeAt [1, 1, 1, 1] BK) = .seq (codeAt [1, 1, 1, 1, 0] BK) (codeAt [1, 1, 1, 1, 1] BK) := by kernel_rfl
theorem KC1_1_1_1_0 : (codeAt [1, 1, 1, 1, 0] BK) = .seq (codeAt [1, 1, 1, 1, 0, 0] BK) (codeAt [1, 1, 1, 1, 0, 1] BK) := by kernel_rfl
noncomputable def KS7 (k : Int) (tx : ByteArray) : KSt := ⟨(frameL 71 [(1, (.slice (some ⟨0, 0, some 0⟩) 0 0)), (2, (.int .i64 k)), (44, (.bool true))]), ⟨1, 1, [(0, 0, .ints .u64 (wordsA tx) 30 true)]⟩⟩
noncomputable def KS8 (k : Int) (tx : ByteArray) : KSt := ⟨(frameL 71 [(1, (.slice (some ⟨0, 0, some 0⟩) 0 0)), (2, (.int .i64 k)), (44, (.bool ((((List.length (wordsA tx)) : Nat) : Int) != (manyV (((ByteArray.size tx) : Nat) : Int)))))]), ⟨1, 1, [(0, 0, .ints .u64 (wordsA tx) 30 true)]⟩⟩
theorem KR7 (tx : ByteArray) (k : Int) : evCK Try.prog cfgL4 (runK Try.prog cfgL4 fsL4 (conTk pkcDom (rcK [] pkcT)) 14 40) 14 (codeAt [1, 1, 1, 1, 0, 0] BK) (KS6 tx k) (normC 0 [1, 2, 44]) =
  bif (!((Prod.fst (textA (List.take (List.length (wordsA tx)) (List.drop 0 (wordsA tx))) (((ByteArray.size tx) : Nat) : Int))).toList == tx.toList)) then
    some (.normal, (KS7 k tx))
  else
    bif (!(Prod.snd (textA (List.take (List.length (wordsA tx)) (List.drop 0 (wordsA tx))) (((ByteArray.size tx) : Nat) : Int)))) then
      some (.normal, (KS7 k tx))
    else
      bif (decide ((((ByteArray.size tx) : Nat) : Int) ≤ 9223372036854775807)) then
        some (.normal, (KS8 k tx))
      else
        none := by kernel_rfl
theorem KC1_1_1_1_0_1 : (codeAt [1, 1, 1, 1, 0, 1] BK) = .cond (.tmp 44) (codeAt [1, 1, 1, 1, 0, 1, 0] BK) (codeAt [1, 1, 1, 1, 0, 1, 1] BK) := by kernel_rfl
noncomputable def KS9 (k : Int) (tx : ByteArray) : KSt := ⟨(frameL 71 [(1, (.slice (some ⟨0, 0, some 0⟩) 0 0)), (2, (.int .i64 k))]), ⟨1, 1, [(0, 0, .ints .u64 (wordsA tx) 30 true)]⟩⟩
theorem KR8 (k : Int) (tx : ByteArray) : evCK Try.prog cfgL4 (runK Try.prog cfgL4 fsL4 (conTk pkcDom (rcK [] pkcT)) 14 40) 14 (codeAt [1, 1, 1, 1, 0, 1, 1] BK) (KS8 k tx) (normC 0 [1, 2]) =
  some (.normal, (KS9 k tx)) := by kernel_rfl
theorem KC1_1_1_1_1 : (codeAt [1, 1, 1, 1, 1] BK) = .seq (codeAt [1, 1, 1, 1, 1, 0] BK) (codeAt [1, 1, 1, 1, 1, 1] BK) := by kernel_rfl
noncomputable def KS10 (k : Int) (tx : ByteArray) : KSt := ⟨(frameL 71 [(1, (.slice (some ⟨0, 0, some 0⟩) 0 0)), (2, (.int .i64 k)), (10, (.string (Prod.fst (textA ([] : List Int) k)))), (11, (.bool (Prod.snd (textA ([] : List Int) k))))]), ⟨1, 1, [(0, 0, .ints .u64 (wordsA tx) 30 true)]⟩⟩
theorem KR9 (k : Int) (tx : ByteArray) : evCK Try.prog cfgL4 (runK Try.prog cfgL4 fsL4 (conTk pkcDom (rcK [] pkcT)) 14 40) 14 (codeAt [1, 1, 1, 1, 1, 0] BK) (KS9 k tx) (normC 0 [1, 2, 10, 11]) =
  bif ((Nat.ble (List.length ([] : List Int)) 1000) && (decide (k ≤ 9223372036854775807))) then
    some (.normal, (KS10 k tx))
  else
    none := by kernel_rfl
theorem KC1_1_1_1_1_1 : (codeAt [1, 1, 1, 1, 1, 1] BK) = .seq (codeAt [1, 1, 1, 1, 1, 1, 0] BK) (codeAt [1, 1, 1, 1, 1, 1, 1] BK) := by kernel_rfl
theorem KC1_1_1_1_1_1_0 : (codeAt [1, 1, 1, 1, 1, 1, 0] BK) = .seq (codeAt [1, 1, 1, 1, 1, 1, 0, 0] BK) (codeAt [1, 1, 1, 1, 1, 1, 0, 1] BK) := by kernel_rfl
noncomputable def KS11 (k : Int) (tx : ByteArray) : KSt := ⟨(frameL 71 [(1, (.slice (some ⟨0, 0, some 0⟩) 0 0)), (2, (.int .i64 k)), (10, (.string (Prod.fst (textA ([] : List Int) k)))), (52, (.bool (!(Prod.snd (textA ([] : List Int) k)))))]), ⟨1, 1, [(0, 0, .ints .u64 (wordsA tx) 30 true)]⟩⟩
theorem KR10 (k : Int) (tx : ByteArray) : evCK Try.prog cfgL4 (runK Try.prog cfgL4 fsL4 (conTk pkcDom (rcK [] pkcT)) 14 40) 14 (codeAt [1, 1, 1, 1, 1, 1, 0, 0] BK) (KS10 k tx) (normC 0 [1, 2, 10, 52]) =
  some (.normal, (KS11 k tx)) := by kernel_rfl
theorem KC1_1_1_1_1_1_0_1 : (codeAt [1, 1, 1, 1, 1, 1, 0, 1] BK) = .cond (.tmp 52) (codeAt [1, 1, 1, 1, 1, 1, 0, 1, 0] BK) (codeAt [1, 1, 1, 1, 1, 1, 0, 1, 1] BK) := by kernel_rfl
theorem KC1_1_1_1_1_1_0_1_0 : (codeAt [1, 1, 1, 1, 1, 1, 0, 1, 0] BK) = .seq (codeAt [1, 1, 1, 1, 1, 1, 0, 1, 0, 0] BK) (codeAt [1, 1, 1, 1, 1, 1, 0, 1, 0, 1] BK) := by kernel_rfl
noncomputable def KS12  : KSt := ⟨(frameL 71 [(6, (.bool false))]), ⟨0, 1, []⟩⟩
theorem KR11 (k : Int) (tx : ByteArray) : evCK Try.prog cfgL4 (runK Try.prog cfgL4 fsL4 (conTk pkcDom (rcK [] pkcT)) 14 40) 14 (codeAt [1, 1, 1, 1, 1, 1, 0, 1, 0, 0] BK) (KS11 k tx) (normC 0 [6]) =
  bif ((Prod.fst (textA ([] : List Int) k)).toList == (⟨#[]⟩ : ByteArray).toList) then
    some (.normal, KS4)
  else
    some (.normal, KS12) := by kernel_rfl
theorem KC1_1_1_1_1_1_0_1_0_1 : (codeAt [1, 1, 1, 1, 1, 1, 0, 1, 0, 1] BK) = .ret := by kernel_rfl
theorem Kf {tx : ByteArray} {k : Int} (hs : tx.size ≤ 2000) (hk : k ≤ 9223372036854775807) (hWl : (wordsA tx).length ≤ 1000) (hT : textA (List.take (List.length (wordsA tx)) (List.drop 0 (wordsA tx))) (((ByteArray.size tx) : Nat) : Int) = (tx, true)) (hM : (((List.length (wordsA tx) : Nat)) : Int) = manyV (((ByteArray.size tx) : Nat) : Int)) (hF : Prod.snd (textA ([] : List Int) k) = false) (hE : Prod.fst (textA ([] : List Int) k) = (⟨#[]⟩ : ByteArray))   {Q : Ex → St → Prop} (hq : Q .ret (KSt.low KS4)) : Gets Try.prog (KH.low ⟨0, 1, []⟩) BK (KSt.low (KS0 tx k)) Q := by
  rw [KC]; refine Gets.seq ?_
  refine Gets.ofN fitL4 pkc_sound (rc_agree _ _ _) 14 40 (by kernel_rfl) (x := .normal) (s' := (KS1 tx k)) (KR1 tx k) ?_
  show Gets _ _ (codeAt [1] BK) _ _
  rw [KC1]; refine Gets.seq ?_
  rw [KC1_0]; refine Gets.seq ?_
  refine Gets.ofN fitL4 pkc_sound (rc_agree _ _ _) 14 40 (by kernel_rfl) (x := .normal) (s' := (KS3 tx k)) ((KR2 tx k).trans (by rw [condF (decide_eq_false (by (first | omega | ((try simp (disch := omega) only [wrap_i64_id]) <;> omega))))])) ?_
  show Gets _ _ (codeAt [1, 0, 1] BK) _ _
  rw [KC1_0_1]; refine Gets.cond false (by kernel_rfl) (show evalX (KSt.ts (KS3 tx k)) (.tmp 19) = .bool false by kernel_rfl) ?_; show Gets _ _ (codeAt [1, 0, 1, 1] BK) _ _
  refine Gets.ofN fitL4 pkc_sound (rc_agree _ _ _) 14 40 (by kernel_rfl) (x := .normal) (s' := (KS1 tx k)) (KR4 tx k) ?_
  show Gets _ _ (codeAt [1, 1] BK) _ _
  rw [KC1_1]; refine Gets.seq ?_
  refine Gets.ofN fitL4 pkc_sound (rc_agree _ _ _) 14 40 (by kernel_rfl) (x := .normal) (s' := (KS5 tx k)) ((KR5 tx k).trans (by rw [condT (ble_t (by (first | omega | ((try simp (disch := omega) only [wrap_i64_id]) <;> omega))))])) ?_
  show Gets _ _ (codeAt [1, 1, 1] BK) _ _
  rw [KC1_1_1]; refine Gets.seq ?_
  refine Gets.ofN fitL4 pkc_sound (rc_agree _ _ _) 14 40 (by kernel_rfl) (x := .normal) (s' := (KS6 tx k)) ((KR6 tx k).trans (by rw [condT (ble_t (by (first | omega | ((try simp (disch := omega) only [wrap_i64_id]) <;> omega)))), condT (and_t (Nat.ble_eq_true_of_le (by simp; omega)) (decide_eq_true (by (first | omega | ((try simp (disch := omega) only [wrap_i64_id]) <;> omega)))))])) ?_
  show Gets _ _ (codeAt [1, 1, 1, 1] BK) _ _
  rw [KC1_1_1_1]; refine Gets.seq ?_
  rw [KC1_1_1_1_0]; refine Gets.seq ?_
  refine Gets.ofN fitL4 pkc_sound (rc_agree _ _ _) 14 40 (by kernel_rfl) (x := .normal) (s' := (KS8 k tx)) ((KR7 tx k).trans (by rw [condF (not_f (by rw [hT]; exact beq_self_eq_true _)), condF (not_f (by rw [hT])), condT (decide_eq_true (by (first | omega | ((try simp (disch := omega) only [wrap_i64_id]) <;> omega))))])) ?_
  show Gets _ _ (codeAt [1, 1, 1, 1, 0, 1] BK) _ _
  rw [KC1_1_1_1_0_1]; refine Gets.cond false (by kernel_rfl) ((show evalX (KSt.ts (KS8 k tx)) (.tmp 44) = .bool ((((List.length (wordsA tx)) : Nat) : Int) != (manyV (((ByteArray.size tx) : Nat) : Int))) by kernel_rfl).trans (by rw [(show ((((List.length (wordsA tx)) : Nat) : Int) != (manyV (((ByteArray.size tx) : Nat) : Int))) = false from by simpa using hM)])) ?_; show Gets _ _ (codeAt [1, 1, 1, 1, 0, 1, 1] BK) _ _
  refine Gets.ofN fitL4 pkc_sound (rc_agree _ _ _) 14 40 (by kernel_rfl) (x := .normal) (s' := (KS9 k tx)) (KR8 k tx) ?_
  show Gets _ _ (codeAt [1, 1, 1, 1, 1] BK) _ _
  rw [KC1_1_1_1_1]; refine Gets.seq ?_
  refine Gets.ofN fitL4 pkc_sound (rc_agree _ _ _) 14 40 (by kernel_rfl) (x := .normal) (s' := (KS10 k tx)) ((KR9 k tx).trans (by rw [condT (and_t (Nat.ble_eq_true_of_le (show List.length ([] : List Int) ≤ 1000 from Nat.zero_le _)) (decide_eq_true (by (first | omega | ((try simp (disch := omega) only [wrap_i64_id]) <;> omega)))))])) ?_
  show Gets _ _ (codeAt [1, 1, 1, 1, 1, 1] BK) _ _
  rw [KC1_1_1_1_1_1]; refine Gets.seq ?_
  rw [KC1_1_1_1_1_1_0]; refine Gets.seq ?_
  refine Gets.ofN fitL4 pkc_sound (rc_agree _ _ _) 14 40 (by kernel_rfl) (x := .normal) (s' := (KS11 k tx)) (KR10 k tx) ?_
  show Gets _ _ (codeAt [1, 1, 1, 1, 1, 1, 0, 1] BK) _ _
  rw [KC1_1_1_1_1_1_0_1]; refine Gets.cond true (by kernel_rfl) ((show evalX (KSt.ts (KS11 k tx)) (.tmp 52) = .bool (!(Prod.snd (textA ([] : List Int) k))) by kernel_rfl).trans (by rw [(show (!(Prod.snd (textA ([] : List Int) k))) = true from not_t (hF))])) ?_; show Gets _ _ (codeAt [1, 1, 1, 1, 1, 1, 0, 1, 0] BK) _ _
  rw [KC1_1_1_1_1_1_0_1_0]; refine Gets.seq ?_
  refine Gets.ofN fitL4 pkc_sound (rc_agree _ _ _) 14 40 (by kernel_rfl) (x := .normal) (s' := KS4) ((KR11 k tx).trans (by rw [condT (by rw [hE]; exact beq_self_eq_true _)])) ?_
  show Gets _ _ (codeAt [1, 1, 1, 1, 1, 1, 0, 1, 0, 1] BK) _ _
  rw [KC1_1_1_1_1_1_0_1_0_1]; refine Gets.ev fitL4.mix fitL4.cfg (fitL4.sound pkc_sound 14 0) 14 rfl (s' := KSt.low KS4) (x := .ret) rfl ?_
  exact hq
noncomputable def KS13 (k : Int) (tx : ByteArray) : KSt := ⟨(frameL 71 [(1, (.slice (some ⟨0, 0, some 0⟩) 0 0)), (2, (.int .i64 k)), (10, (.string (Prod.fst (textA ([] : List Int) k))))]), ⟨1, 1, [(0, 0, .ints .u64 (wordsA tx) 30 true)]⟩⟩
theorem KR12 (k : Int) (tx : ByteArray) : evCK Try.prog cfgL4 (runK Try.prog cfgL4 fsL4 (conTk pkcDom (rcK [] pkcT)) 14 40) 14 (codeAt [1, 1, 1, 1, 1, 1, 0, 1, 1] BK) (KS11 k tx) (normC 0 [1, 2, 10]) =
  some (.normal, (KS13 k tx)) := by kernel_rfl
theorem KC1_1_1_1_1_1_1 : (codeAt [1, 1, 1, 1, 1, 1, 1] BK) = .seq (codeAt [1, 1, 1, 1, 1, 1, 1, 0] BK) (codeAt [1, 1, 1, 1, 1, 1, 1, 1] BK) := by kernel_rfl
theorem KR13 (k : Int) (tx : ByteArray) : evCK Try.prog cfgL4 (runK Try.prog cfgL4 fsL4 (conTk pkcDom (rcK [] pkcT)) 14 40) 14 (codeAt [1, 1, 1, 1, 1, 1, 1, 0] BK) (KS13 k tx) (normC 0 [6]) =
  bif ((((ByteArray.size (Prod.fst (textA ([] : List Int) k))) : Nat) : Int) == k) then
    bif (Nat.ble (ByteArray.size (Prod.fst (textA ([] : List Int) k))) 2000) then
      bif (Nat.ble (0 + (List.length (wordsA (Prod.fst (textA ([] : List Int) k))))) (List.length (wordsA (Prod.fst (textA ([] : List Int) k))))) then
        bif (Nat.ble (List.length (List.take (List.length (wordsA (Prod.fst (textA ([] : List Int) k)))) (List.drop 0 (wordsA (Prod.fst (textA ([] : List Int) k)))))) 100000) then
          bif (decide ((List.take (List.length (wordsA (Prod.fst (textA ([] : List Int) k)))) (List.drop 0 (wordsA (Prod.fst (textA ([] : List Int) k))))) = ([] : List Int))) then
            some (.normal, KS4)
          else
            some (.normal, KS12)
        else
          none
      else
        none
    else
      none
  else
    some (.normal, KS12) := by kernel_rfl
theorem KC1_1_1_1_1_1_1_1 : (codeAt [1, 1, 1, 1, 1, 1, 1, 1] BK) = .ret := by kernel_rfl
theorem Kt {tx : ByteArray} {k : Int} (hs : tx.size ≤ 2000) (hk : k ≤ 9223372036854775807) (hWl : (wordsA tx).length ≤ 1000) (hT : textA (List.take (List.length (wordsA tx)) (List.drop 0 (wordsA tx))) (((ByteArray.size tx) : Nat) : Int) = (tx, true)) (hM : (((List.length (wordsA tx) : Nat)) : Int) = manyV (((ByteArray.size tx) : Nat) : Int)) (hF : Prod.snd (textA ([] : List Int) k) = true) (hE : ((ByteArray.size (Prod.fst (textA ([] : List Int) k)) : Nat) : Int) = k) (hz : ByteArray.size (Prod.fst (textA ([] : List Int) k)) ≤ 2000) (hWl2 : (wordsA (Prod.fst (textA ([] : List Int) k))).length ≤ 1000) (hW : wordsA (Prod.fst (textA ([] : List Int) k)) = ([] : List Int))   {Q : Ex → St → Prop} (hq : Q .ret (KSt.low KS4)) : Gets Try.prog (KH.low ⟨0, 1, []⟩) BK (KSt.low (KS0 tx k)) Q := by
  rw [KC]; refine Gets.seq ?_
  refine Gets.ofN fitL4 pkc_sound (rc_agree _ _ _) 14 40 (by kernel_rfl) (x := .normal) (s' := (KS1 tx k)) (KR1 tx k) ?_
  show Gets _ _ (codeAt [1] BK) _ _
  rw [KC1]; refine Gets.seq ?_
  rw [KC1_0]; refine Gets.seq ?_
  refine Gets.ofN fitL4 pkc_sound (rc_agree _ _ _) 14 40 (by kernel_rfl) (x := .normal) (s' := (KS3 tx k)) ((KR2 tx k).trans (by rw [condF (decide_eq_false (by (first | omega | ((try simp (disch := omega) only [wrap_i64_id]) <;> omega))))])) ?_
  show Gets _ _ (codeAt [1, 0, 1] BK) _ _
  rw [KC1_0_1]; refine Gets.cond false (by kernel_rfl) (show evalX (KSt.ts (KS3 tx k)) (.tmp 19) = .bool false by kernel_rfl) ?_; show Gets _ _ (codeAt [1, 0, 1, 1] BK) _ _
  refine Gets.ofN fitL4 pkc_sound (rc_agree _ _ _) 14 40 (by kernel_rfl) (x := .normal) (s' := (KS1 tx k)) (KR4 tx k) ?_
  show Gets _ _ (codeAt [1, 1] BK) _ _
  rw [KC1_1]; refine Gets.seq ?_
  refine Gets.ofN fitL4 pkc_sound (rc_agree _ _ _) 14 40 (by kernel_rfl) (x := .normal) (s' := (KS5 tx k)) ((KR5 tx k).trans (by rw [condT (ble_t (by (first | omega | ((try simp (disch := omega) only [wrap_i64_id]) <;> omega))))])) ?_
  show Gets _ _ (codeAt [1, 1, 1] BK) _ _
  rw [KC1_1_1]; refine Gets.seq ?_
  refine Gets.ofN fitL4 pkc_sound (rc_agree _ _ _) 14 40 (by kernel_rfl) (x := .normal) (s' := (KS6 tx k)) ((KR6 tx k).trans (by rw [condT (Nat.ble_eq_true_of_le (by omega)), condT (and_t (Nat.ble_eq_true_of_le (by simp; omega)) (decide_eq_true (by (first | omega | ((try simp (disch := omega) only [wrap_i64_id]) <;> omega)))))])) ?_
  show Gets _ _ (codeAt [1, 1, 1, 1] BK) _ _
  rw [KC1_1_1_1]; refine Gets.seq ?_
  rw [KC1_1_1_1_0]; refine Gets.seq ?_
  refine Gets.ofN fitL4 pkc_sound (rc_agree _ _ _) 14 40 (by kernel_rfl) (x := .normal) (s' := (KS8 k tx)) ((KR7 tx k).trans (by rw [condF (not_f (by rw [hT]; exact beq_self_eq_true _)), condF (not_f (by rw [hT])), condT (decide_eq_true (by (first | omega | ((try simp (disch := omega) only [wrap_i64_id]) <;> omega))))])) ?_
  show Gets _ _ (codeAt [1, 1, 1, 1, 0, 1] BK) _ _
  rw [KC1_1_1_1_0_1]; refine Gets.cond false (by kernel_rfl) ((show evalX (KSt.ts (KS8 k tx)) (.tmp 44) = .bool ((((List.length (wordsA tx)) : Nat) : Int) != (manyV (((ByteArray.size tx) : Nat) : Int))) by kernel_rfl).trans (by rw [(show ((((List.length (wordsA tx)) : Nat) : Int) != (manyV (((ByteArray.size tx) : Nat) : Int))) = false from by simpa using hM)])) ?_; show Gets _ _ (codeAt [1, 1, 1, 1, 0, 1, 1] BK) _ _
  refine Gets.ofN fitL4 pkc_sound (rc_agree _ _ _) 14 40 (by kernel_rfl) (x := .normal) (s' := (KS9 k tx)) (KR8 k tx) ?_
  show Gets _ _ (codeAt [1, 1, 1, 1, 1] BK) _ _
  rw [KC1_1_1_1_1]; refine Gets.seq ?_
  refine Gets.ofN fitL4 pkc_sound (rc_agree _ _ _) 14 40 (by kernel_rfl) (x := .normal) (s' := (KS10 k tx)) ((KR9 k tx).trans (by rw [condT (and_t (Nat.ble_eq_true_of_le (show List.length ([] : List Int) ≤ 1000 from Nat.zero_le _)) (decide_eq_true (by (first | omega | ((try simp (disch := omega) only [wrap_i64_id]) <;> omega)))))])) ?_
  show Gets _ _ (codeAt [1, 1, 1, 1, 1, 1] BK) _ _
  rw [KC1_1_1_1_1_1]; refine Gets.seq ?_
  rw [KC1_1_1_1_1_1_0]; refine Gets.seq ?_
  refine Gets.ofN fitL4 pkc_sound (rc_agree _ _ _) 14 40 (by kernel_rfl) (x := .normal) (s' := (KS11 k tx)) (KR10 k tx) ?_
  show Gets _ _ (codeAt [1, 1, 1, 1, 1, 1, 0, 1] BK) _ _
  rw [KC1_1_1_1_1_1_0_1]; refine Gets.cond false (by kernel_rfl) ((show evalX (KSt.ts (KS11 k tx)) (.tmp 52) = .bool (!(Prod.snd (textA ([] : List Int) k))) by kernel_rfl).trans (by rw [(show (!(Prod.snd (textA ([] : List Int) k))) = false from not_f (hF))])) ?_; show Gets _ _ (codeAt [1, 1, 1, 1, 1, 1, 0, 1, 1] BK) _ _
  refine Gets.ofN fitL4 pkc_sound (rc_agree _ _ _) 14 40 (by kernel_rfl) (x := .normal) (s' := (KS13 k tx)) (KR12 k tx) ?_
  show Gets _ _ (codeAt [1, 1, 1, 1, 1, 1, 1] BK) _ _
  rw [KC1_1_1_1_1_1_1]; refine Gets.seq ?_
  refine Gets.ofN fitL4 pkc_sound (rc_agree _ _ _) 14 40 (by kernel_rfl) (x := .normal) (s' := KS4) ((KR13 k tx).trans (by rw [condT (beq_iff_eq.2 hE), condT (Nat.ble_eq_true_of_le hz), condT (Nat.ble_eq_true_of_le (by omega)), condT (Nat.ble_eq_true_of_le (by rw [List.drop_zero, List.take_length]; omega)), condT (decide_eq_true (by rw [List.drop_zero, List.take_length]; exact hW))])) ?_
  show Gets _ _ (codeAt [1, 1, 1, 1, 1, 1, 1, 1] BK) _ _
  rw [KC1_1_1_1_1_1_1_1]; refine Gets.ev fitL4.mix fitL4.cfg (fitL4.sound pkc_sound 14 0) 14 rfl (s' := KSt.low KS4) (x := .ret) rfl ?_
  exact hq
noncomputable def QL : Ex → St → Prop := Eng.Ends Try.prog Try.f4.results.toList fun r _ => r = .bool true
theorem qL {s : KSt} (h : resL Try.prog s.low Try.f4.results.toList = some [.bool true]) : QL .ret s.low := Ends.of h rfl
theorem ro1 {off : Nat} {l : List Int} {e : TypeId} : Ro (mkH [.tail off .u64 l e]).low := fun a o ho => by
  obtain ⟨_, rfl⟩ := mkH1_get ho; rfl
theorem ro0 : Ro (mkH []).low := fun a o ho => by cases ho
theorem told (tx : ByteArray) (k : Int) (off n c : Nat) (l : List Int) (e : TypeId) (hl : l.length = c) (hc : n ≤ c) (hk : k ≤ 9223372036854775807) (hw : ∀ x ∈ l, word64 x) : Tells Try.prog 4 [(.string tx), (.slice (some ⟨0, off, none⟩) n c), (.int .i64 k)] (mkH [.tail off .u64 l e]).low (.bool true) := by
  refine Gets.tells Try.func4 BL_is (by rw [noVars]; exact Nat.zero_le _) rfl ?_ ro1
  show Gets Try.prog (KH.low ⟨1, 1, [(0, 0, .tail off .u64 l e)]⟩) BL (KSt.low (LS0 tx off n c k l e)) QL
  by_cases hs : 2000 < tx.size
  · exact Ls hs (qL (by kernel_rfl))
  by_cases hn : 250 < n
  · exact Ln (by omega) hn (qL (by kernel_rfl))
  have hT : textA (List.take (List.length (wordsA tx)) (List.drop 0 (wordsA tx))) (((ByteArray.size tx) : Nat) : Int) = (tx, true) := by rw [List.drop_zero, List.take_length, wordsA_n]; exact text_words tx
  have hM : (((List.length (wordsA tx) : Nat)) : Int) = manyV (((ByteArray.size tx) : Nat) : Int) := by rw [wordsA_n, wordsN_len, many_size]
  have hWl : (wordsA tx).length ≤ 1000 := by rw [wordsA_n, wordsN_len]; unfold manyN; omega
  cases hF : Prod.snd (textA (List.take n (List.drop (off - off) l)) k) with
  | false => exact Lf (by omega) (by omega) hl hc hk hWl hT hM hF (text_false (u := (textA (List.take n (List.drop (off - off) l)) k).1) (Prod.ext rfl hF)) (qL (by kernel_rfl))
  | true =>
    obtain ⟨h1, h2⟩ := words_text (l := (List.take n (List.drop (off - off) l))) (k := k) (u := (textA (List.take n (List.drop (off - off) l)) k).1) (fun x hx => hw x (List.mem_of_mem_drop (List.mem_of_mem_take hx))) (Prod.ext rfl hF)
    have hlen : (List.take n (List.drop (off - off) l)).length ≤ 250 := by simp; omega
    have hm : manyN (textA (List.take n (List.drop (off - off) l)) k).1 ≤ 250 := by rw [← wordsN_len, h2]; exact hlen
    have hz : ByteArray.size (Prod.fst (textA (List.take n (List.drop (off - off) l)) k)) ≤ 2000 := by unfold manyN at hm; omega
    exact Lt (by omega) (by omega) hl hc hk hWl hT hM hF h1 hz (by rw [wordsA_n, wordsN_len]; omega) (by rw [wordsA_n, h2]) (qL (by kernel_rfl))
theorem toldV (tx : ByteArray) (k : Int) (hk : k ≤ 9223372036854775807) : Tells Try.prog 4 [(.string tx), (.slice (some ⟨0, 0, some 0⟩) 0 0), (.int .i64 k)] (mkH []).low (.bool true) := by
  refine Gets.tells Try.func4 BK_is (by rw [noVars]; exact Nat.zero_le _) rfl ?_ ro0
  show Gets Try.prog (KH.low ⟨0, 1, []⟩) BK (KSt.low (KS0 tx k)) QL
  by_cases hs : 2000 < tx.size
  · exact Ks hs (qL (by kernel_rfl))
  have hT : textA (List.take (List.length (wordsA tx)) (List.drop 0 (wordsA tx))) (((ByteArray.size tx) : Nat) : Int) = (tx, true) := by rw [List.drop_zero, List.take_length, wordsA_n]; exact text_words tx
  have hM : (((List.length (wordsA tx) : Nat)) : Int) = manyV (((ByteArray.size tx) : Nat) : Int) := by rw [wordsA_n, wordsN_len, many_size]
  have hWl : (wordsA tx).length ≤ 1000 := by rw [wordsA_n, wordsN_len]; unfold manyN; omega
  cases hF : Prod.snd (textA ([] : List Int) k) with
  | false => exact Kf (by omega)   hk hWl hT hM hF (text_false (u := (textA ([] : List Int) k).1) (Prod.ext rfl hF)) (qL (by kernel_rfl))
  | true =>
    obtain ⟨h1, h2⟩ := words_text (l := ([] : List Int)) (k := k) (u := (textA ([] : List Int) k).1) (fun x hx => by cases hx) (Prod.ext rfl hF)
    have hlen : ([] : List Int).length ≤ 250 := Nat.zero_le _
    have hm : manyN (textA ([] : List Int) k).1 ≤ 250 := by rw [← wordsN_len, h2]; exact hlen
    have hz : ByteArray.size (Prod.fst (textA ([] : List Int) k)) ≤ 2000 := by unfold manyN at hm; omega
    exact Kt (by omega)   hk hWl hT hM hF h1 hz (by rw [wordsA_n, wordsN_len]; omega) (by rw [wordsA_n, h2]) (qL (by kernel_rfl))
theorem own : ownKnob Try.prog.godebug = none := by kernel_rfl
theorem lifted (os : Os) (started : os.Started) (H : Type) (enc : TypeId × Value → H) :
    ReturnsInHanded {} Try.checked os 4 .any (Rows.packBackSpec.pre6 enc Try.prog Try.f4 Rows.packBackRow.domain false) (Rows.packBackSpec.post enc Try.prog Try.f4 false true false false) := by
  refine returnsInHanded_of_change_sized (C := Try.checked) own started (by kernel_rfl) Try.func4
    (ChangeSpec.witness6 (enc := enc) (C := Try.checked) false ⟨#[], #[.string ⟨#[]⟩, .slice none 0 0, .int .i64 0], []⟩ 8 (by kernel_rfl) (by kernel_rfl) (by kernel_rfl) (by kernel_rfl)) ?_
  intro W base args ds gs before hval0 hW hcnd hsz0 _
  have hval : ∀ (j : Nat) t v, Try.f4.params[j]? = some t → args[j]? = some v → Value.okWide Try.prog W .any base t v := hval0
  have hW' := hW
  obtain ⟨p, q, hA0, hV, rfl, hfz, hnd⟩ := hW
  have hA : DataW.TrodAll enc Try.prog W 0 (fun _ => true) true Try.f4.params.toList args.toList ds p := hA0
  rw [Try.params4] at hA hval
  have hS := hA
  obtain ⟨v0, vs0, d0, ds0, p0, q0, hargs, rfl, rfl, h0, r0⟩ := trodAll_cons hA
  obtain ⟨v1, vs1, d1, ds1, p1, q1, rfl, rfl, rfl, h1, r1⟩ := trodAll_cons r0
  obtain ⟨v2, vs2, d2, ds2, p2, q2, rfl, rfl, rfl, h2, r2⟩ := trodAll_cons r1
  obtain ⟨rfl, rfl, rfl⟩ := trodAll_nil r2
  obtain rfl : args = #[v0, v1, v2] := by cases args; simp_all
  obtain ⟨rfl, rfl⟩ := trodVars_none hV
  suffices hc : Calls Try.prog 4 #[v0, v1, v2] W fun e W' => e = .returned (.bool true) ∧ Below W.heap.size W W' by
    refine hc.mono fun e W' ⟨he, bel⟩ => ?_
    subst he
    exact ⟨_, rfl, _, _, _, [], _, [], hW', trodAll_mk1 (shut_bool Try.underlying4 _), trodAll_stays fineA bel (by decide +kernel) hS, rfl, bel.frame _, fun h => by cases h⟩
  clear hS hW' hfz hnd
  obtain ⟨a0, rfl, rfl, rfl, w0⟩ := Go.ChangeMaps.open_string Try.underlying9 (hval 0 9 v0 rfl rfl) h0
  have o1 := Go.Eng.open_row Try.underlying22 Try.underlying30 (by kernel_rfl) (hval 1 22 v1 rfl rfl) h1
  obtain ⟨a2, rfl, rfl, rfl, w2⟩ := open_int Try.underlying3 (hval 2 3 v2 rfl rfl) h2
  have hk2 := (wf_i64 w2).2
  rcases o1 with ⟨x, rfl⟩ | ⟨a, len, cap, zs, rfl, h0, hle, hmx, hz, hcell, hwf⟩
  · exact toldV a0 a2 (by omega) _ W _ (.cons (.of_plain rfl) (.cons (.slice0 _ _) (.cons (.of_plain rfl) (.nil _)))) (Sim.none noVars W _ _)
  · obtain ⟨e, hS, hsp⟩ := Sim.oneRow noVars (by omega) hcell
    obtain ⟨blk, off, spot⟩ := a
    simp only at hsp
    subst hsp
    exact told a0 a2 off len cap zs e hz hle (by omega) (fun x hx => wf_u64 (hwf x hx)) _ W _ (.cons (.of_plain rfl) (.cons (R.slice_row rfl) (.cons (.of_plain rfl) (.nil _)))) hS
theorem over : Rows.packBackRow.holds Try.pinned (OpenSpec.ofChange Rows.packBackSpec) :=
  OpenClaim.holds_of_wide 4 Try.f4 rfl rfl rfl rfl rfl rfl rfl ⟨rfl, rfl, rfl, rfl, rfl⟩ rfl rfl rfl rfl rfl (by kernel_rfl) Try.func4 (by kernel_rfl)
    (of_decide_eq_true (by kernel_rfl)) (by unfold Func.isWrapper; first | (rw [if_pos (by decide +kernel)]; kernel_rfl) | (rw [if_neg (by decide +kernel)]; exact ⟨rfl, rfl⟩))
    (fun os started H enc _ => lifted os started H enc)
end Go.Proofs.Ytnhdjmpbmecnoaa.packBack
namespace Go.Proofs.Ytnhdjmpbmecnoaa
/-- The row, under a short name, for the claim. -/
theorem packBack_holds : Rows.PackBackSaid := packBack.over
#print axioms packBack_holds
end Go.Proofs.Ytnhdjmpbmecnoaa
