/- Any text has the words that are said, and any words the text of so many bytes, or none. -/
import Derived.Test.YtnhdjmpbmecnoaaPkPl
import Derived.WalkKit
import Derived.ProofKit
import Derived.OpenShut
import Derived.ChangeOld
import Derived.Below
import Derived.SizedLaws
import Derived.ChangeMaps5
namespace Go.Proofs.Ytnhdjmpbmecnoaa.packTells
open Go.Eng
open Go.ChangeShapes Go.WideShapes Go.ChangeAt Go.RowKit
set_option linter.unusedVariables false
set_option linter.unusedSimpArgs false
set_option maxRecDepth 100000
noncomputable def cfgL4 : Cfg := ⟨[]⟩
noncomputable def fsL4 : List FuncId := [3]
theorem fitL4 : Fit Try.prog cfgL4 fsL4 := ⟨by kernel_rfl, Cfg.ok_of (by kernel_rfl), by kernel_rfl⟩
noncomputable def BL : Code := bodyOf Try.prog 3
theorem BL_is : Try.f3.body = some BL := by kernel_rfl
theorem BL_ok : okCode Try.prog.globals.size BL = true := by kernel_rfl
noncomputable def LS0 (tx : ByteArray) (off : Nat) (n : Nat) (c : Nat) (k : Int) (l : List Int) (e : TypeId) : KSt := (firstK [(.string tx), (.slice (some ⟨0, off, none⟩) n c), (.int .i64 k)] 61 ⟨1, 1, [(0, 0, .tail off .u64 l e)]⟩)
theorem LC : BL = .seq (codeAt [0] BL) (codeAt [1] BL) := by kernel_rfl
noncomputable def LS1 (tx : ByteArray) (off : Nat) (n : Nat) (c : Nat) (k : Int) (l : List Int) (e : TypeId) : KSt := ⟨(frameL 61 [(0, (.string tx)), (1, (.slice (some ⟨0, off, none⟩) n c)), (2, (.int .i64 k))]), ⟨1, 1, [(0, 0, .tail off .u64 l e)]⟩⟩
theorem LR1 (tx : ByteArray) (off : Nat) (n : Nat) (c : Nat) (k : Int) (l : List Int) (e : TypeId) : evCK Try.prog cfgL4 (runK Try.prog cfgL4 fsL4 (conTk pkcDom (rcK [] pkcT)) 14 40) 14 (codeAt [0] BL) (LS0 tx off n c k l e) (normC 1 [0, 1, 2]) =
  some (.normal, (LS1 tx off n c k l e)) := by kernel_rfl
theorem LC1 : (codeAt [1] BL) = .seq (codeAt [1, 0] BL) (codeAt [1, 1] BL) := by kernel_rfl
theorem LC1_0 : (codeAt [1, 0] BL) = .seq (codeAt [1, 0, 0] BL) (codeAt [1, 0, 1] BL) := by kernel_rfl
noncomputable def LS2 (tx : ByteArray) (off : Nat) (n : Nat) (c : Nat) (k : Int) (l : List Int) (e : TypeId) : KSt := ⟨(frameL 61 [(0, (.string tx)), (1, (.slice (some ⟨0, off, none⟩) n c)), (2, (.int .i64 k)), (22, (.bool true))]), ⟨1, 1, [(0, 0, .tail off .u64 l e)]⟩⟩
noncomputable def LS3 (tx : ByteArray) (off : Nat) (n : Nat) (c : Nat) (k : Int) (l : List Int) (e : TypeId) : KSt := ⟨(frameL 61 [(0, (.string tx)), (1, (.slice (some ⟨0, off, none⟩) n c)), (2, (.int .i64 k)), (22, (.bool (decide (k > 100000))))]), ⟨1, 1, [(0, 0, .tail off .u64 l e)]⟩⟩
theorem LR2 (tx : ByteArray) (off : Nat) (n : Nat) (c : Nat) (k : Int) (l : List Int) (e : TypeId) : evCK Try.prog cfgL4 (runK Try.prog cfgL4 fsL4 (conTk pkcDom (rcK [] pkcT)) 14 40) 14 (codeAt [1, 0, 0] BL) (LS1 tx off n c k l e) (normC 1 [0, 1, 2, 22]) =
  bif (decide ((((ByteArray.size tx) : Nat) : Int) > 2000)) then
    some (.normal, (LS2 tx off n c k l e))
  else
    bif (decide (((n : Nat) : Int) > 250)) then
      some (.normal, (LS2 tx off n c k l e))
    else
      some (.normal, (LS3 tx off n c k l e)) := by kernel_rfl
theorem LC1_0_1 : (codeAt [1, 0, 1] BL) = .cond (.tmp 22) (codeAt [1, 0, 1, 0] BL) (codeAt [1, 0, 1, 1] BL) := by kernel_rfl
theorem LC1_0_1_0 : (codeAt [1, 0, 1, 0] BL) = .seq (codeAt [1, 0, 1, 0, 0] BL) (codeAt [1, 0, 1, 0, 1] BL) := by kernel_rfl
noncomputable def LS4 (off : Nat) (l : List Int) (e : TypeId) : KSt := ⟨(frameL 61 [(6, (.bool true))]), ⟨1, 1, [(0, 0, .tail off .u64 l e)]⟩⟩
theorem LR3 (tx : ByteArray) (off : Nat) (n : Nat) (c : Nat) (k : Int) (l : List Int) (e : TypeId) : evCK Try.prog cfgL4 (runK Try.prog cfgL4 fsL4 (conTk pkcDom (rcK [] pkcT)) 14 40) 14 (codeAt [1, 0, 1, 0, 0] BL) (LS2 tx off n c k l e) (normC 1 [6]) =
  some (.normal, (LS4 off l e)) := by kernel_rfl
theorem LC1_0_1_0_1 : (codeAt [1, 0, 1, 0, 1] BL) = .ret := by kernel_rfl
theorem Ls {tx : ByteArray} {off : Nat} {l : List Int} {e : TypeId} {n : Nat} {c : Nat} {k : Int} (hs : 2000 < tx.size)   {Q : Ex → St → Prop} (hq : Q .ret (KSt.low (LS4 off l e))) : Gets Try.prog (KH.low ⟨1, 1, [(0, 0, .tail off .u64 l e)]⟩) BL (KSt.low (LS0 tx off n c k l e)) Q := by
  rw [LC]; refine Gets.seq ?_
  refine Gets.ofN fitL4 pkc_sound (rc_agree _ _ _) 14 40 (by kernel_rfl) (x := .normal) (s' := (LS1 tx off n c k l e)) (LR1 tx off n c k l e) ?_
  show Gets _ _ (codeAt [1] BL) _ _
  rw [LC1]; refine Gets.seq ?_
  rw [LC1_0]; refine Gets.seq ?_
  refine Gets.ofN fitL4 pkc_sound (rc_agree _ _ _) 14 40 (by kernel_rfl) (x := .normal) (s' := (LS2 tx off n c k l e)) ((LR2 tx off n c k l e).trans (by rw [condT (decide_eq_true (by (first | omega | ((try simp (disch := omega) only [wrap_i64_id]) <;> omega))))])) ?_
  show Gets _ _ (codeAt [1, 0, 1] BL) _ _
  rw [LC1_0_1]; refine Gets.cond true (by kernel_rfl) (show evalX (KSt.ts (LS2 tx off n c k l e)) (.tmp 22) = .bool true by kernel_rfl) ?_; show Gets _ _ (codeAt [1, 0, 1, 0] BL) _ _
  rw [LC1_0_1_0]; refine Gets.seq ?_
  refine Gets.ofN fitL4 pkc_sound (rc_agree _ _ _) 14 40 (by kernel_rfl) (x := .normal) (s' := (LS4 off l e)) (LR3 tx off n c k l e) ?_
  show Gets _ _ (codeAt [1, 0, 1, 0, 1] BL) _ _
  rw [LC1_0_1_0_1]; refine Gets.ev fitL4.mix fitL4.cfg (fitL4.sound pkc_sound 14 0) 14 rfl (s' := KSt.low (LS4 off l e)) (x := .ret) rfl ?_
  exact hq
theorem Ln {tx : ByteArray} {n : Nat} {off : Nat} {l : List Int} {e : TypeId} {c : Nat} {k : Int} (hs : tx.size ≤ 2000) (hn : 250 < n)   {Q : Ex → St → Prop} (hq : Q .ret (KSt.low (LS4 off l e))) : Gets Try.prog (KH.low ⟨1, 1, [(0, 0, .tail off .u64 l e)]⟩) BL (KSt.low (LS0 tx off n c k l e)) Q := by
  rw [LC]; refine Gets.seq ?_
  refine Gets.ofN fitL4 pkc_sound (rc_agree _ _ _) 14 40 (by kernel_rfl) (x := .normal) (s' := (LS1 tx off n c k l e)) (LR1 tx off n c k l e) ?_
  show Gets _ _ (codeAt [1] BL) _ _
  rw [LC1]; refine Gets.seq ?_
  rw [LC1_0]; refine Gets.seq ?_
  refine Gets.ofN fitL4 pkc_sound (rc_agree _ _ _) 14 40 (by kernel_rfl) (x := .normal) (s' := (LS2 tx off n c k l e)) ((LR2 tx off n c k l e).trans (by rw [condF (decide_eq_false (by (first | omega | ((try simp (disch := omega) only [wrap_i64_id]) <;> omega)))), condT (decide_eq_true (by (first | omega | ((try simp (disch := omega) only [wrap_i64_id]) <;> omega))))])) ?_
  show Gets _ _ (codeAt [1, 0, 1] BL) _ _
  rw [LC1_0_1]; refine Gets.cond true (by kernel_rfl) (show evalX (KSt.ts (LS2 tx off n c k l e)) (.tmp 22) = .bool true by kernel_rfl) ?_; show Gets _ _ (codeAt [1, 0, 1, 0] BL) _ _
  rw [LC1_0_1_0]; refine Gets.seq ?_
  refine Gets.ofN fitL4 pkc_sound (rc_agree _ _ _) 14 40 (by kernel_rfl) (x := .normal) (s' := (LS4 off l e)) (LR3 tx off n c k l e) ?_
  show Gets _ _ (codeAt [1, 0, 1, 0, 1] BL) _ _
  rw [LC1_0_1_0_1]; refine Gets.ev fitL4.mix fitL4.cfg (fitL4.sound pkc_sound 14 0) 14 rfl (s' := KSt.low (LS4 off l e)) (x := .ret) rfl ?_
  exact hq
theorem LR4 (tx : ByteArray) (off : Nat) (n : Nat) (c : Nat) (k : Int) (l : List Int) (e : TypeId) : evCK Try.prog cfgL4 (runK Try.prog cfgL4 fsL4 (conTk pkcDom (rcK [] pkcT)) 14 40) 14 (codeAt [1, 0, 1, 0, 0] BL) (LS3 tx off n c k l e) (normC 1 [6]) =
  some (.normal, (LS4 off l e)) := by kernel_rfl
theorem Lk {tx : ByteArray} {n : Nat} {k : Int} {off : Nat} {l : List Int} {e : TypeId} {c : Nat} (hs : tx.size ≤ 2000) (hn : n ≤ 250) (hk : 100000 < k)   {Q : Ex → St → Prop} (hq : Q .ret (KSt.low (LS4 off l e))) : Gets Try.prog (KH.low ⟨1, 1, [(0, 0, .tail off .u64 l e)]⟩) BL (KSt.low (LS0 tx off n c k l e)) Q := by
  rw [LC]; refine Gets.seq ?_
  refine Gets.ofN fitL4 pkc_sound (rc_agree _ _ _) 14 40 (by kernel_rfl) (x := .normal) (s' := (LS1 tx off n c k l e)) (LR1 tx off n c k l e) ?_
  show Gets _ _ (codeAt [1] BL) _ _
  rw [LC1]; refine Gets.seq ?_
  rw [LC1_0]; refine Gets.seq ?_
  refine Gets.ofN fitL4 pkc_sound (rc_agree _ _ _) 14 40 (by kernel_rfl) (x := .normal) (s' := (LS3 tx off n c k l e)) ((LR2 tx off n c k l e).trans (by rw [condF (decide_eq_false (by (first | omega | ((try simp (disch := omega) only [wrap_i64_id]) <;> omega)))), condF (decide_eq_false (by (first | omega | ((try simp (disch := omega) only [wrap_i64_id]) <;> omega))))])) ?_
  show Gets _ _ (codeAt [1, 0, 1] BL) _ _
  rw [LC1_0_1]; refine Gets.cond true (by kernel_rfl) ((show evalX (KSt.ts (LS3 tx off n c k l e)) (.tmp 22) = .bool (decide (k > 100000)) by kernel_rfl).trans (by rw [(show (decide (k > 100000)) = true from decide_eq_true (by (first | omega | ((try simp (disch := omega) only [wrap_i64_id]) <;> omega))))])) ?_; show Gets _ _ (codeAt [1, 0, 1, 0] BL) _ _
  rw [LC1_0_1_0]; refine Gets.seq ?_
  refine Gets.ofN fitL4 pkc_sound (rc_agree _ _ _) 14 40 (by kernel_rfl) (x := .normal) (s' := (LS4 off l e)) (LR4 tx off n c k l e) ?_
  show Gets _ _ (codeAt [1, 0, 1, 0, 1] BL) _ _
  rw [LC1_0_1_0_1]; refine Gets.ev fitL4.mix fitL4.cfg (fitL4.sound pkc_sound 14 0) 14 rfl (s' := KSt.low (LS4 off l e)) (x := .ret) rfl ?_
  exact hq
theorem LR5 (tx : ByteArray) (off : Nat) (n : Nat) (c : Nat) (k : Int) (l : List Int) (e : TypeId) : evCK Try.prog cfgL4 (runK Try.prog cfgL4 fsL4 (conTk pkcDom (rcK [] pkcT)) 14 40) 14 (codeAt [1, 0, 1, 1] BL) (LS3 tx off n c k l e) (normC 1 [0, 1, 2]) =
  some (.normal, (LS1 tx off n c k l e)) := by kernel_rfl
theorem LC1_1 : (codeAt [1, 1] BL) = .seq (codeAt [1, 1, 0] BL) (codeAt [1, 1, 1] BL) := by kernel_rfl
noncomputable def LS5 (tx : ByteArray) (off : Nat) (n : Nat) (c : Nat) (k : Int) (l : List Int) (e : TypeId) : KSt := ⟨(frameL 61 [(0, (.string tx)), (1, (.slice (some ⟨0, off, none⟩) n c)), (2, (.int .i64 k)), (7, (.string (Prod.fst (textA (List.take n (List.drop (off - off) l)) k)))), (8, (.bool (Prod.snd (textA (List.take n (List.drop (off - off) l)) k))))]), ⟨1, 1, [(0, 0, .tail off .u64 l e)]⟩⟩
theorem LR6 (tx : ByteArray) (off : Nat) (n : Nat) (c : Nat) (k : Int) (l : List Int) (e : TypeId) : evCK Try.prog cfgL4 (runK Try.prog cfgL4 fsL4 (conTk pkcDom (rcK [] pkcT)) 14 40) 14 (codeAt [1, 1, 0] BL) (LS1 tx off n c k l e) (normC 1 [0, 1, 2, 7, 8]) =
  bif (Nat.ble off off) then
    bif (Nat.ble ((off - off) + n) (List.length l)) then
      bif ((Nat.ble (List.length (List.take n (List.drop (off - off) l))) 1000) && (decide (k ≤ 9223372036854775807))) then
        some (.normal, (LS5 tx off n c k l e))
      else
        none
    else
      none
  else
    none := by kernel_rfl
theorem LC1_1_1 : (codeAt [1, 1, 1] BL) = .seq (codeAt [1, 1, 1, 0] BL) (codeAt [1, 1, 1, 1] BL) := by kernel_rfl
noncomputable def LS6 (tx : ByteArray) (k : Int) (n : Nat) (off : Nat) (l : List Int) (e : TypeId) : KSt := ⟨(frameL 61 [(0, (.string tx)), (2, (.int .i64 k)), (7, (.string (Prod.fst (textA (List.take n (List.drop (off - off) l)) k)))), (8, (.bool (Prod.snd (textA (List.take n (List.drop (off - off) l)) k)))), (9, (.string (Prod.fst (textR (List.take n (List.drop (off - off) l)) k)))), (10, (.bool (Prod.snd (textR (List.take n (List.drop (off - off) l)) k))))]), ⟨1, 1, [(0, 0, .tail off .u64 l e)]⟩⟩
theorem LR7 (tx : ByteArray) (off : Nat) (n : Nat) (c : Nat) (k : Int) (l : List Int) (e : TypeId) : evCK Try.prog cfgL4 (runK Try.prog cfgL4 fsL4 (conTk pkcDom (rcK [] pkcT)) 14 40) 14 (codeAt [1, 1, 1, 0] BL) (LS5 tx off n c k l e) (normC 1 [0, 2, 7, 8, 9, 10]) =
  bif (Nat.ble off off) then
    bif (Nat.ble ((off - off) + n) (List.length l)) then
      bif ((Nat.ble (List.length (List.take n (List.drop (off - off) l))) 1000) && (decide (k ≤ 9223372036854775807))) then
        some (.normal, (LS6 tx k n off l e))
      else
        none
    else
      none
  else
    none := by kernel_rfl
theorem LC1_1_1_1 : (codeAt [1, 1, 1, 1] BL) = .seq (codeAt [1, 1, 1, 1, 0] BL) (codeAt [1, 1, 1, 1, 1] BL) := by kernel_rfl
noncomputable def LS7 (off : Nat) (l : List Int) (e : TypeId) : KSt := ⟨(frameL 61 [(6, (.bool false))]), ⟨1, 1, [(0, 0, .tail off .u64 l e)]⟩⟩
theorem LR8 (tx : ByteArray) (k : Int) (n : Nat) (off : Nat) (l : List Int) (e : TypeId) : evCK Try.prog cfgL4 (runK Try.prog cfgL4 fsL4 (conTk pkcDom (rcK [] pkcT)) 14 40) 14 (codeAt [1, 1, 1, 1, 0] BL) (LS6 tx k n off l e) (normC 1 [6]) =
  bif (Nat.ble (ByteArray.size tx) 2000) then
    bif (Nat.ble (ByteArray.size tx) 2000) then
      bif (Nat.ble (0 + (List.length (wordsA tx))) (List.length (wordsA tx))) then
        bif (Nat.ble (0 + (List.length (wordsR tx))) (List.length (wordsR tx))) then
          bif (Nat.ble (List.length (List.take (List.length (wordsA tx)) (List.drop 0 (wordsA tx)))) 100000) then
            bif (decide ((List.take (List.length (wordsA tx)) (List.drop 0 (wordsA tx))) = (List.take (List.length (wordsR tx)) (List.drop 0 (wordsR tx))))) then
              bif ((Prod.fst (textA (List.take n (List.drop (off - off) l)) k)).toList == (Prod.fst (textR (List.take n (List.drop (off - off) l)) k)).toList) then
                bif ((Prod.snd (textA (List.take n (List.drop (off - off) l)) k)) == (Prod.snd (textR (List.take n (List.drop (off - off) l)) k))) then
                  bif (decide (k ≤ 9223372036854775807)) then
                    bif (decide (k ≤ 100000)) then
                      bif ((manyV k) == (manyV k)) then
                        some (.normal, (LS4 off l e))
                      else
                        some (.normal, (LS7 off l e))
                    else
                      none
                  else
                    none
                else
                  some (.normal, (LS7 off l e))
              else
                some (.normal, (LS7 off l e))
            else
              some (.normal, (LS7 off l e))
          else
            none
        else
          none
      else
        none
    else
      none
  else
    none := by kernel_rfl
theorem LC1_1_1_1_1 : (codeAt [1, 1, 1, 1, 1] BL) = .ret := by kernel_rfl
theorem Lm {tx : ByteArray} {n : Nat} {l : List Int} {c : Nat} {k : Int} {off : Nat} {e : TypeId} (hs : tx.size ≤ 2000) (hn : n ≤ 250) (hl : l.length = c) (hc : n ≤ c) (hk : k ≤ 100000) (hWl : (wordsA tx).length ≤ 1000) (hWW : wordsA tx = wordsR tx) (hTT : textA (List.take n (List.drop (off - off) l)) k = textR (List.take n (List.drop (off - off) l)) k)   {Q : Ex → St → Prop} (hq : Q .ret (KSt.low (LS4 off l e))) : Gets Try.prog (KH.low ⟨1, 1, [(0, 0, .tail off .u64 l e)]⟩) BL (KSt.low (LS0 tx off n c k l e)) Q := by
  rw [LC]; refine Gets.seq ?_
  refine Gets.ofN fitL4 pkc_sound (rc_agree _ _ _) 14 40 (by kernel_rfl) (x := .normal) (s' := (LS1 tx off n c k l e)) (LR1 tx off n c k l e) ?_
  show Gets _ _ (codeAt [1] BL) _ _
  rw [LC1]; refine Gets.seq ?_
  rw [LC1_0]; refine Gets.seq ?_
  refine Gets.ofN fitL4 pkc_sound (rc_agree _ _ _) 14 40 (by kernel_rfl) (x := .normal) (s' := (LS3 tx off n c k l e)) ((LR2 tx off n c k l e).trans (by rw [condF (decide_eq_false (by (first | omega | ((try simp (disch := omega) only [wrap_i64_id]) <;> omega)))), condF (decide_eq_false (by (first | omega | ((try simp (disch := omega) only [wrap_i64_id]) <;> omega))))])) ?_
  show Gets _ _ (codeAt [1, 0, 1] BL) _ _
  rw [LC1_0_1]; refine Gets.cond false (by kernel_rfl) ((show evalX (KSt.ts (LS3 tx off n c k l e)) (.tmp 22) = .bool (decide (k > 100000)) by kernel_rfl).trans (by rw [(show (decide (k > 100000)) = false from decide_eq_false (by (first | omega | ((try simp (disch := omega) only [wrap_i64_id]) <;> omega))))])) ?_; show Gets _ _ (codeAt [1, 0, 1, 1] BL) _ _
  refine Gets.ofN fitL4 pkc_sound (rc_agree _ _ _) 14 40 (by kernel_rfl) (x := .normal) (s' := (LS1 tx off n c k l e)) (LR5 tx off n c k l e) ?_
  show Gets _ _ (codeAt [1, 1] BL) _ _
  rw [LC1_1]; refine Gets.seq ?_
  refine Gets.ofN fitL4 pkc_sound (rc_agree _ _ _) 14 40 (by kernel_rfl) (x := .normal) (s' := (LS5 tx off n c k l e)) ((LR6 tx off n c k l e).trans (by rw [condT (ble_t (by (first | omega | ((try simp (disch := omega) only [wrap_i64_id]) <;> omega)))), condT (ble_t (by (first | omega | ((try simp (disch := omega) only [wrap_i64_id]) <;> omega)))), condT (and_t (Nat.ble_eq_true_of_le (by simp; omega)) (decide_eq_true (by (first | omega | ((try simp (disch := omega) only [wrap_i64_id]) <;> omega)))))])) ?_
  show Gets _ _ (codeAt [1, 1, 1] BL) _ _
  rw [LC1_1_1]; refine Gets.seq ?_
  refine Gets.ofN fitL4 pkc_sound (rc_agree _ _ _) 14 40 (by kernel_rfl) (x := .normal) (s' := (LS6 tx k n off l e)) ((LR7 tx off n c k l e).trans (by rw [condT (ble_t (by (first | omega | ((try simp (disch := omega) only [wrap_i64_id]) <;> omega)))), condT (ble_t (by (first | omega | ((try simp (disch := omega) only [wrap_i64_id]) <;> omega)))), condT (and_t (Nat.ble_eq_true_of_le (by simp; omega)) (decide_eq_true (by (first | omega | ((try simp (disch := omega) only [wrap_i64_id]) <;> omega)))))])) ?_
  show Gets _ _ (codeAt [1, 1, 1, 1] BL) _ _
  rw [LC1_1_1_1]; refine Gets.seq ?_
  refine Gets.ofN fitL4 pkc_sound (rc_agree _ _ _) 14 40 (by kernel_rfl) (x := .normal) (s' := (LS4 off l e)) ((LR8 tx k n off l e).trans (by rw [condT (ble_t (by (first | omega | ((try simp (disch := omega) only [wrap_i64_id]) <;> omega)))), condT (ble_t (by (first | omega | ((try simp (disch := omega) only [wrap_i64_id]) <;> omega)))), condT (ble_t (by (first | omega | ((try simp (disch := omega) only [wrap_i64_id]) <;> omega)))), condT (ble_t (by (first | omega | ((try simp (disch := omega) only [wrap_i64_id]) <;> omega)))), condT (Nat.ble_eq_true_of_le (by simp; omega)), condT (by rw [hWW]; exact decide_eq_true rfl), condT (by rw [hTT]; exact beq_self_eq_true _), condT (by rw [hTT]; exact beq_self_eq_true _), condT (decide_eq_true (by (first | omega | ((try simp (disch := omega) only [wrap_i64_id]) <;> omega)))), condT (decide_eq_true (by (first | omega | ((try simp (disch := omega) only [wrap_i64_id]) <;> omega)))), condT (beq_self_eq_true _)])) ?_
  show Gets _ _ (codeAt [1, 1, 1, 1, 1] BL) _ _
  rw [LC1_1_1_1_1]; refine Gets.ev fitL4.mix fitL4.cfg (fitL4.sound pkc_sound 14 0) 14 rfl (s' := KSt.low (LS4 off l e)) (x := .ret) rfl ?_
  exact hq
noncomputable def BK : Code := bodyOf Try.prog 3
theorem BK_is : Try.f3.body = some BK := by kernel_rfl
theorem BK_ok : okCode Try.prog.globals.size BK = true := by kernel_rfl
noncomputable def KS0 (tx : ByteArray) (k : Int) : KSt := (firstK [(.string tx), (.slice (some ⟨0, 0, some 0⟩) 0 0), (.int .i64 k)] 61 ⟨0, 1, []⟩)
theorem KC : BK = .seq (codeAt [0] BK) (codeAt [1] BK) := by kernel_rfl
noncomputable def KS1 (tx : ByteArray) (k : Int) : KSt := ⟨(frameL 61 [(0, (.string tx)), (1, (.slice (some ⟨0, 0, some 0⟩) 0 0)), (2, (.int .i64 k))]), ⟨0, 1, []⟩⟩
theorem KR1 (tx : ByteArray) (k : Int) : evCK Try.prog cfgL4 (runK Try.prog cfgL4 fsL4 (conTk pkcDom (rcK [] pkcT)) 14 40) 14 (codeAt [0] BK) (KS0 tx k) (normC 0 [0, 1, 2]) =
  some (.normal, (KS1 tx k)) := by kernel_rfl
theorem KC1 : (codeAt [1] BK) = .seq (codeAt [1, 0] BK) (codeAt [1, 1] BK) := by kernel_rfl
theorem KC1_0 : (codeAt [1, 0] BK) = .seq (codeAt [1, 0, 0] BK) (codeAt [1, 0, 1] BK) := by kernel_rfl
noncomputable def KS2 (tx : ByteArray) (k : Int) : KSt := ⟨(frameL 61 [(0, (.string tx)), (1, (.slice (some ⟨0, 0, some 0⟩) 0 0)), (2, (.int .i64 k)), (22, (.bool true))]), ⟨0, 1, []⟩⟩
noncomputable def KS3 (tx : ByteArray) (k : Int) : KSt := ⟨(frameL 61 [(0, (.string tx)), (1, (.slice (some ⟨0, 0, some 0⟩) 0 0)), (2, (.int .i64 k)), (22, (.bool (decide (k > 100000))))]), ⟨0, 1, []⟩⟩
theorem KR2 (tx : ByteArray) (k : Int) : evCK Try.prog cfgL4 (runK Try.prog cfgL4 fsL4 (conTk pkcDom (rcK [] pkcT)) 14 40) 14 (codeAt [1, 0, 0] BK) (KS1 tx k) (normC 0 [0, 1, 2, 22]) =
  bif (decide ((((ByteArray.size tx) : Nat) : Int) > 2000)) then
    some (.normal, (KS2 tx k))
  else
    some (.normal, (KS3 tx k)) := by kernel_rfl
theorem KC1_0_1 : (codeAt [1, 0, 1] BK) = .cond (.tmp 22) (codeAt [1, 0, 1, 0] BK) (codeAt [1, 0, 1, 1] BK) := by kernel_rfl
theorem KC1_0_1_0 : (codeAt [1, 0, 1, 0] BK) = .seq (codeAt [1, 0, 1, 0, 0] BK) (codeAt [1, 0, 1, 0, 1] BK) := by kernel_rfl
noncomputable def KS4  : KSt := ⟨(frameL 61 [(6, (.bool true))]), ⟨0, 1, []⟩⟩
theorem KR3 (tx : ByteArray) (k : Int) : evCK Try.prog cfgL4 (runK Try.prog cfgL4 fsL4 (conTk pkcDom (rcK [] pkcT)) 14 40) 14 (codeAt [1, 0, 1, 0, 0] BK) (KS2 tx k) (normC 0 [6]) =
  some (.normal, KS4) := by kernel_rfl
theorem KC1_0_1_0_1 : (codeAt [1, 0, 1, 0, 1] BK) = .ret := by kernel_rfl
theorem Ks {tx : ByteArray} {k : Int} (hs : 2000 < tx.size)   {Q : Ex → St → Prop} (hq : Q .ret (KSt.low KS4)) : Gets Try.prog (KH.low ⟨0, 1, []⟩) BK (KSt.low (KS0 tx k)) Q := by
  rw [KC]; refine Gets.seq ?_
  refine Gets.ofN fitL4 pkc_sound (rc_agree _ _ _) 14 40 (by kernel_rfl) (x := .normal) (s' := (KS1 tx k)) (KR1 tx k) ?_
  show Gets _ _ (codeAt [1] BK) _ _
  rw [KC1]; refine Gets.seq ?_
  rw [KC1_0]; refine Gets.seq ?_
  refine Gets.ofN fitL4 pkc_sound (rc_agree _ _ _) 14 40 (by kernel_rfl) (x := .normal) (s' := (KS2 tx k)) ((KR2 tx k).trans (by rw [condT (decide_eq_true (by (first | omega | ((try simp (disch := omega) only [wrap_i64_id]) <;> omega))))])) ?_
  show Gets _ _ (codeAt [1, 0, 1] BK) _ _
  rw [KC1_0_1]; refine Gets.cond true (by kernel_rfl) (show evalX (KSt.ts (KS2 tx k)) (.tmp 22) = .bool true by kernel_rfl) ?_; show Gets _ _ (codeAt [1, 0, 1, 0] BK) _ _
  rw [KC1_0_1_0]; refine Gets.seq ?_
  refine Gets.ofN fitL4 pkc_sound (rc_agree _ _ _) 14 40 (by kernel_rfl) (x := .normal) (s' := KS4) (KR3 tx k) ?_
  show Gets _ _ (codeAt [1, 0, 1, 0, 1] BK) _ _
  rw [KC1_0_1_0_1]; refine Gets.ev fitL4.mix fitL4.cfg (fitL4.sound pkc_sound 14 0) 14 rfl (s' := KSt.low KS4) (x := .ret) rfl ?_
  exact hq
theorem KR4 (tx : ByteArray) (k : Int) : evCK Try.prog cfgL4 (runK Try.prog cfgL4 fsL4 (conTk pkcDom (rcK [] pkcT)) 14 40) 14 (codeAt [1, 0, 1, 0, 0] BK) (KS3 tx k) (normC 0 [6]) =
  some (.normal, KS4) := by kernel_rfl
theorem Kk {tx : ByteArray} {k : Int} (hs : tx.size ≤ 2000) (hk : 100000 < k)   {Q : Ex → St → Prop} (hq : Q .ret (KSt.low KS4)) : Gets Try.prog (KH.low ⟨0, 1, []⟩) BK (KSt.low (KS0 tx k)) Q := by
  rw [KC]; refine Gets.seq ?_
  refine Gets.ofN fitL4 pkc_sound (rc_agree _ _ _) 14 40 (by kernel_rfl) (x := .normal) (s' := (KS1 tx k)) (KR1 tx k) ?_
  show Gets _ _ (codeAt [1] BK) _ _
  rw [KC1]; refine Gets.seq ?_
  rw [KC1_0]; refine Gets.seq ?_
  refine Gets.ofN fitL4 pkc_sound (rc_agree _ _ _) 14 40 (by kernel_rfl) (x := .normal) (s' := (KS3 tx k)) ((KR2 tx k).trans (by rw [condF (decide_eq_false (by (first | omega | ((try simp (disch := omega) only [wrap_i64_id]) <;> omega))))])) ?_
  show Gets _ _ (codeAt [1, 0, 1] BK) _ _
  rw [KC1_0_1]; refine Gets.cond true (by kernel_rfl) ((show evalX (KSt.ts (KS3 tx k)) (.tmp 22) = .bool (decide (k > 100000)) by kernel_rfl).trans (by rw [(show (decide (k > 100000)) = true from decide_eq_true (by (first | omega | ((try simp (disch := omega) only [wrap_i64_id]) <;> omega))))])) ?_; show Gets _ _ (codeAt [1, 0, 1, 0] BK) _ _
  rw [KC1_0_1_0]; refine Gets.seq ?_
  refine Gets.ofN fitL4 pkc_sound (rc_agree _ _ _) 14 40 (by kernel_rfl) (x := .normal) (s' := KS4) (KR4 tx k) ?_
  show Gets _ _ (codeAt [1, 0, 1, 0, 1] BK) _ _
  rw [KC1_0_1_0_1]; refine Gets.ev fitL4.mix fitL4.cfg (fitL4.sound pkc_sound 14 0) 14 rfl (s' := KSt.low KS4) (x := .ret) rfl ?_
  exact hq
theorem KR5 (tx : ByteArray) (k : Int) : evCK Try.prog cfgL4 (runK Try.prog cfgL4 fsL4 (conTk pkcDom (rcK [] pkcT)) 14 40) 14 (codeAt [1, 0, 1, 1] BK) (KS3 tx k) (normC 0 [0, 1, 2]) =
  some (.normal, (KS1 tx k)) := by kernel_rfl
theorem KC1_1 : (codeAt [1, 1] BK) = .seq (codeAt [1, 1, 0] BK) (codeAt [1, 1, 1] BK) := by kernel_rfl
noncomputable def KS5 (tx : ByteArray) (k : Int) : KSt := ⟨(frameL 61 [(0, (.string tx)), (1, (.slice (some ⟨0, 0, some 0⟩) 0 0)), (2, (.int .i64 k)), (7, (.string (Prod.fst (textA ([] : List Int) k)))), (8, (.bool (Prod.snd (textA ([] : List Int) k))))]), ⟨0, 1, []⟩⟩
theorem KR6 (tx : ByteArray) (k : Int) : evCK Try.prog cfgL4 (runK Try.prog cfgL4 fsL4 (conTk pkcDom (rcK [] pkcT)) 14 40) 14 (codeAt [1, 1, 0] BK) (KS1 tx k) (normC 0 [0, 1, 2, 7, 8]) =
  bif ((Nat.ble (List.length ([] : List Int)) 1000) && (decide (k ≤ 9223372036854775807))) then
    some (.normal, (KS5 tx k))
  else
    none := by kernel_rfl
theorem KC1_1_1 : (codeAt [1, 1, 1] BK) = .seq (codeAt [1, 1, 1, 0] BK) (codeAt [1, 1, 1, 1] BK) := by kernel_rfl
noncomputable def KS6 (tx : ByteArray) (k : Int) : KSt := ⟨(frameL 61 [(0, (.string tx)), (2, (.int .i64 k)), (7, (.string (Prod.fst (textA ([] : List Int) k)))), (8, (.bool (Prod.snd (textA ([] : List Int) k)))), (9, (.string (Prod.fst (textR ([] : List Int) k)))), (10, (.bool (Prod.snd (textR ([] : List Int) k))))]), ⟨0, 1, []⟩⟩
theorem KR7 (tx : ByteArray) (k : Int) : evCK Try.prog cfgL4 (runK Try.prog cfgL4 fsL4 (conTk pkcDom (rcK [] pkcT)) 14 40) 14 (codeAt [1, 1, 1, 0] BK) (KS5 tx k) (normC 0 [0, 2, 7, 8, 9, 10]) =
  bif ((Nat.ble (List.length ([] : List Int)) 1000) && (decide (k ≤ 9223372036854775807))) then
    some (.normal, (KS6 tx k))
  else
    none := by kernel_rfl
theorem KC1_1_1_1 : (codeAt [1, 1, 1, 1] BK) = .seq (codeAt [1, 1, 1, 1, 0] BK) (codeAt [1, 1, 1, 1, 1] BK) := by kernel_rfl
noncomputable def KS7  : KSt := ⟨(frameL 61 [(6, (.bool false))]), ⟨0, 1, []⟩⟩
theorem KR8 (tx : ByteArray) (k : Int) : evCK Try.prog cfgL4 (runK Try.prog cfgL4 fsL4 (conTk pkcDom (rcK [] pkcT)) 14 40) 14 (codeAt [1, 1, 1, 1, 0] BK) (KS6 tx k) (normC 0 [6]) =
  bif (Nat.ble (ByteArray.size tx) 2000) then
    bif (Nat.ble (ByteArray.size tx) 2000) then
      bif (Nat.ble (0 + (List.length (wordsA tx))) (List.length (wordsA tx))) then
        bif (Nat.ble (0 + (List.length (wordsR tx))) (List.length (wordsR tx))) then
          bif (Nat.ble (List.length (List.take (List.length (wordsA tx)) (List.drop 0 (wordsA tx)))) 100000) then
            bif (decide ((List.take (List.length (wordsA tx)) (List.drop 0 (wordsA tx))) = (List.take (List.length (wordsR tx)) (List.drop 0 (wordsR tx))))) then
              bif ((Prod.fst (textA ([] : List Int) k)).toList == (Prod.fst (textR ([] : List Int) k)).toList) then
                bif ((Prod.snd (textA ([] : List Int) k)) == (Prod.snd (textR ([] : List Int) k))) then
                  bif (decide (k ≤ 9223372036854775807)) then
                    bif (decide (k ≤ 100000)) then
                      bif ((manyV k) == (manyV k)) then
                        some (.normal, KS4)
                      else
                        some (.normal, KS7)
                    else
                      none
                  else
                    none
                else
                  some (.normal, KS7)
              else
                some (.normal, KS7)
            else
              some (.normal, KS7)
          else
            none
        else
          none
      else
        none
    else
      none
  else
    none := by kernel_rfl
theorem KC1_1_1_1_1 : (codeAt [1, 1, 1, 1, 1] BK) = .ret := by kernel_rfl
theorem Km {tx : ByteArray} {k : Int} (hs : tx.size ≤ 2000) (hk : k ≤ 100000) (hWl : (wordsA tx).length ≤ 1000) (hWW : wordsA tx = wordsR tx) (hTT : textA ([] : List Int) k = textR ([] : List Int) k)   {Q : Ex → St → Prop} (hq : Q .ret (KSt.low KS4)) : Gets Try.prog (KH.low ⟨0, 1, []⟩) BK (KSt.low (KS0 tx k)) Q := by
  rw [KC]; refine Gets.seq ?_
  refine Gets.ofN fitL4 pkc_sound (rc_agree _ _ _) 14 40 (by kernel_rfl) (x := .normal) (s' := (KS1 tx k)) (KR1 tx k) ?_
  show Gets _ _ (codeAt [1] BK) _ _
  rw [KC1]; refine Gets.seq ?_
  rw [KC1_0]; refine Gets.seq ?_
  refine Gets.ofN fitL4 pkc_sound (rc_agree _ _ _) 14 40 (by kernel_rfl) (x := .normal) (s' := (KS3 tx k)) ((KR2 tx k).trans (by rw [condF (decide_eq_false (by (first | omega | ((try simp (disch := omega) only [wrap_i64_id]) <;> omega))))])) ?_
  show Gets _ _ (codeAt [1, 0, 1] BK) _ _
  rw [KC1_0_1]; refine Gets.cond false (by kernel_rfl) ((show evalX (KSt.ts (KS3 tx k)) (.tmp 22) = .bool (decide (k > 100000)) by kernel_rfl).trans (by rw [(show (decide (k > 100000)) = false from decide_eq_false (by (first | omega | ((try simp (disch := omega) only [wrap_i64_id]) <;> omega))))])) ?_; show Gets _ _ (codeAt [1, 0, 1, 1] BK) _ _
  refine Gets.ofN fitL4 pkc_sound (rc_agree _ _ _) 14 40 (by kernel_rfl) (x := .normal) (s' := (KS1 tx k)) (KR5 tx k) ?_
  show Gets _ _ (codeAt [1, 1] BK) _ _
  rw [KC1_1]; refine Gets.seq ?_
  refine Gets.ofN fitL4 pkc_sound (rc_agree _ _ _) 14 40 (by kernel_rfl) (x := .normal) (s' := (KS5 tx k)) ((KR6 tx k).trans (by rw [condT (and_t (Nat.ble_eq_true_of_le (show List.length ([] : List Int) ≤ 1000 from Nat.zero_le _)) (decide_eq_true (by (first | omega | ((try simp (disch := omega) only [wrap_i64_id]) <;> omega)))))])) ?_
  show Gets _ _ (codeAt [1, 1, 1] BK) _ _
  rw [KC1_1_1]; refine Gets.seq ?_
  refine Gets.ofN fitL4 pkc_sound (rc_agree _ _ _) 14 40 (by kernel_rfl) (x := .normal) (s' := (KS6 tx k)) ((KR7 tx k).trans (by rw [condT (and_t (Nat.ble_eq_true_of_le (show List.length ([] : List Int) ≤ 1000 from Nat.zero_le _)) (decide_eq_true (by (first | omega | ((try simp (disch := omega) only [wrap_i64_id]) <;> omega)))))])) ?_
  show Gets _ _ (codeAt [1, 1, 1, 1] BK) _ _
  rw [KC1_1_1_1]; refine Gets.seq ?_
  refine Gets.ofN fitL4 pkc_sound (rc_agree _ _ _) 14 40 (by kernel_rfl) (x := .normal) (s' := KS4) ((KR8 tx k).trans (by rw [condT (ble_t (by (first | omega | ((try simp (disch := omega) only [wrap_i64_id]) <;> omega)))), condT (ble_t (by (first | omega | ((try simp (disch := omega) only [wrap_i64_id]) <;> omega)))), condT (ble_t (by (first | omega | ((try simp (disch := omega) only [wrap_i64_id]) <;> omega)))), condT (ble_t (by (first | omega | ((try simp (disch := omega) only [wrap_i64_id]) <;> omega)))), condT (Nat.ble_eq_true_of_le (by simp; omega)), condT (by rw [hWW]; exact decide_eq_true rfl), condT (by rw [hTT]; exact beq_self_eq_true _), condT (by rw [hTT]; exact beq_self_eq_true _), condT (decide_eq_true (by (first | omega | ((try simp (disch := omega) only [wrap_i64_id]) <;> omega)))), condT (decide_eq_true (by (first | omega | ((try simp (disch := omega) only [wrap_i64_id]) <;> omega)))), condT (beq_self_eq_true _)])) ?_
  show Gets _ _ (codeAt [1, 1, 1, 1, 1] BK) _ _
  rw [KC1_1_1_1_1]; refine Gets.ev fitL4.mix fitL4.cfg (fitL4.sound pkc_sound 14 0) 14 rfl (s' := KSt.low KS4) (x := .ret) rfl ?_
  exact hq
noncomputable def QL : Ex → St → Prop := Eng.Ends Try.prog Try.f3.results.toList fun r _ => r = .bool true
theorem qL {s : KSt} (h : resL Try.prog s.low Try.f3.results.toList = some [.bool true]) : QL .ret s.low := Ends.of h rfl
theorem ro1 {off : Nat} {l : List Int} {e : TypeId} : Ro (mkH [.tail off .u64 l e]).low := fun a o ho => by
  obtain ⟨_, rfl⟩ := mkH1_get ho; rfl
theorem ro0 : Ro (mkH []).low := fun a o ho => by cases ho
theorem told (tx : ByteArray) (k : Int) (off n c : Nat) (l : List Int) (e : TypeId) (hl : l.length = c) (hc : n ≤ c) (hw : ∀ x ∈ l, word64 x) : Tells Try.prog 3 [(.string tx), (.slice (some ⟨0, off, none⟩) n c), (.int .i64 k)] (mkH [.tail off .u64 l e]).low (.bool true) := by
  refine Gets.tells Try.func3 BL_is (by rw [noVars]; exact Nat.zero_le _) rfl ?_ ro1
  show Gets Try.prog (KH.low ⟨1, 1, [(0, 0, .tail off .u64 l e)]⟩) BL (KSt.low (LS0 tx off n c k l e)) QL
  by_cases hs : 2000 < tx.size
  · exact Ls hs (qL (by kernel_rfl))
  by_cases hn : 250 < n
  · exact Ln (by omega) hn (qL (by kernel_rfl))
  by_cases hk : 100000 < k
  · exact Lk (by omega) (by omega) hk (qL (by kernel_rfl))
  exact Lm (by omega) (by omega) hl hc (by omega) (by rw [wordsA_n, wordsN_len]; unfold manyN; omega) (words_same tx) (text_same (fun x hx => hw x (List.mem_of_mem_drop (List.mem_of_mem_take hx))) k) (qL (by kernel_rfl))
theorem toldV (tx : ByteArray) (k : Int) : Tells Try.prog 3 [(.string tx), (.slice (some ⟨0, 0, some 0⟩) 0 0), (.int .i64 k)] (mkH []).low (.bool true) := by
  refine Gets.tells Try.func3 BK_is (by rw [noVars]; exact Nat.zero_le _) rfl ?_ ro0
  show Gets Try.prog (KH.low ⟨0, 1, []⟩) BK (KSt.low (KS0 tx k)) QL
  by_cases hs : 2000 < tx.size
  · exact Ks hs (qL (by kernel_rfl))
  by_cases hk : 100000 < k
  · exact Kk (by omega) hk (qL (by kernel_rfl))
  exact Km (by omega) (by omega) (by rw [wordsA_n, wordsN_len]; unfold manyN; omega) (words_same tx) (text_same (fun x hx => by cases hx) k) (qL (by kernel_rfl))
theorem own : ownKnob Try.prog.godebug = none := by kernel_rfl
theorem lifted (os : Os) (started : os.Started) (H : Type) (enc : TypeId × Value → H) :
    ReturnsInHanded {} Try.checked os 3 .any (Rows.packTellsSpec.pre6 enc Try.prog Try.f3 Rows.packTellsRow.domain false) (Rows.packTellsSpec.post enc Try.prog Try.f3 false true false false) := by
  refine returnsInHanded_of_change_sized (C := Try.checked) own started (by kernel_rfl) Try.func3
    (ChangeSpec.witness6 (enc := enc) (C := Try.checked) false ⟨#[], #[.string ⟨#[]⟩, .slice none 0 0, .int .i64 0], []⟩ 8 (by kernel_rfl) (by kernel_rfl) (by kernel_rfl) (by kernel_rfl)) ?_
  intro W base args ds gs before hval0 hW hcnd hsz0 _
  have hval : ∀ (j : Nat) t v, Try.f3.params[j]? = some t → args[j]? = some v → Value.okWide Try.prog W .any base t v := hval0
  have hW' := hW
  obtain ⟨p, q, hA0, hV, rfl, hfz, hnd⟩ := hW
  have hA : DataW.TrodAll enc Try.prog W 0 (fun _ => true) true Try.f3.params.toList args.toList ds p := hA0
  rw [Try.params3] at hA hval
  have hS := hA
  obtain ⟨v0, vs0, d0, ds0, p0, q0, hargs, rfl, rfl, h0, r0⟩ := trodAll_cons hA
  obtain ⟨v1, vs1, d1, ds1, p1, q1, rfl, rfl, rfl, h1, r1⟩ := trodAll_cons r0
  obtain ⟨v2, vs2, d2, ds2, p2, q2, rfl, rfl, rfl, h2, r2⟩ := trodAll_cons r1
  obtain ⟨rfl, rfl, rfl⟩ := trodAll_nil r2
  obtain rfl : args = #[v0, v1, v2] := by cases args; simp_all
  obtain ⟨rfl, rfl⟩ := trodVars_none hV
  suffices hc : Calls Try.prog 3 #[v0, v1, v2] W fun e W' => e = .returned (.bool true) ∧ Below W.heap.size W W' by
    refine hc.mono fun e W' ⟨he, bel⟩ => ?_
    subst he
    exact ⟨_, rfl, _, _, _, [], _, [], hW', trodAll_mk1 (shut_bool Try.underlying4 _), trodAll_stays fineA bel (by decide +kernel) hS, rfl, bel.frame _, fun h => by cases h⟩
  clear hS hW' hfz hnd
  obtain ⟨a0, rfl, rfl, rfl, w0⟩ := Go.ChangeMaps.open_string Try.underlying9 (hval 0 9 v0 rfl rfl) h0
  have o1 := Go.Eng.open_row Try.underlying22 Try.underlying30 (by kernel_rfl) (hval 1 22 v1 rfl rfl) h1
  obtain ⟨a2, rfl, rfl, rfl, w2⟩ := open_int Try.underlying3 (hval 2 3 v2 rfl rfl) h2
  rcases o1 with ⟨x, rfl⟩ | ⟨a, len, cap, zs, rfl, h0, hle, hmx, hz, hcell, hwf⟩
  · exact toldV a0 a2 _ W _ (.cons (.of_plain rfl) (.cons (.slice0 _ _) (.cons (.of_plain rfl) (.nil _)))) (Sim.none noVars W _ _)
  · obtain ⟨e, hS, hsp⟩ := Sim.oneRow noVars (by omega) hcell
    obtain ⟨blk, off, spot⟩ := a
    simp only at hsp
    subst hsp
    exact told a0 a2 off len cap zs e hz hle (fun x hx => wf_u64 (hwf x hx)) _ W _ (.cons (.of_plain rfl) (.cons (R.slice_row rfl) (.cons (.of_plain rfl) (.nil _)))) hS
theorem over : Rows.packTellsRow.holds Try.pinned (OpenSpec.ofChange Rows.packTellsSpec) :=
  OpenClaim.holds_of_wide 3 Try.f3 rfl rfl rfl rfl rfl rfl rfl ⟨rfl, rfl, rfl, rfl, rfl⟩ rfl rfl rfl rfl rfl (by kernel_rfl) Try.func3 (by kernel_rfl)
    (of_decide_eq_true (by kernel_rfl)) (by unfold Func.isWrapper; first | (rw [if_pos (by decide +kernel)]; kernel_rfl) | (rw [if_neg (by decide +kernel)]; exact ⟨rfl, rfl⟩))
    (fun os started H enc _ => lifted os started H enc)
end Go.Proofs.Ytnhdjmpbmecnoaa.packTells
namespace Go.Proofs.Ytnhdjmpbmecnoaa
/-- The row, under a short name, for the claim. -/
theorem packTells_holds : Rows.PackTellsSaid := packTells.over
#print axioms packTells_holds
end Go.Proofs.Ytnhdjmpbmecnoaa
