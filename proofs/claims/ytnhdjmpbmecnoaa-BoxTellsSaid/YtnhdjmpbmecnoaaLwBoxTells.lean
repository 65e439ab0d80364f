/- Any key and value have the cells of a box that are said, and any cells the key and value that are said. -/
import Derived.Test.YtnhdjmpbmecnoaaBxL
import Derived.WalkKit
import Derived.ProofKit
import Derived.OpenShut
import Derived.ChangeOld
import Derived.Below
import Derived.SizedLaws
import Derived.ChangeMaps5
namespace Go.Proofs.Ytnhdjmpbmecnoaa.boxTells
open Go.Eng
open Go.ChangeShapes Go.WideShapes Go.ChangeAt Go.RowKit
set_option linter.unusedVariables false
set_option linter.unusedSimpArgs false
set_option maxRecDepth 100000
noncomputable def cfgL5 : Cfg := ⟨[]⟩
noncomputable def fsL5 : List FuncId := [6]
theorem fitL5 : Fit Try.prog cfgL5 fsL5 := ⟨by kernel_rfl, Cfg.ok_of (by kernel_rfl), by kernel_rfl⟩
noncomputable def BLfh : Code := bodyOf Try.prog 6
theorem BLfh_is : Try.f6.body = some BLfh := by kernel_rfl
theorem BLfh_ok : okCode Try.prog.globals.size BLfh = true := by kernel_rfl
noncomputable abbrev LfhEV (boxW : ByteArray → ByteArray → List Int) (byteRV : Int → Int → Int) (byteV : Int → Int → Int) (headN : ByteArray → ByteArray → Int) (isWb : Int → Bool) (isWs : List Int → Bool) (kLen : Int → Int) (manyV : Int → Int) (sizeN : Int → Int) (textA : List Int → Int → ByteArray × Bool) (textAt : List Int → Int → Int → ByteArray) (textR : List Int → Int → ByteArray × Bool) (vLen : Int → Int) (withRV : Int → Int → Int → Int) (wordsA : ByteArray → List Int) (wordsR : ByteArray → List Int) (c : Code) (s : KSt) (lv : List Nat) : Option (Ex × KSt) := evCK Try.prog cfgL5 (runK Try.prog cfgL5 fsL5 (conTk wbxyDom (rcK [] (wbxyT boxW byteRV byteV headN isWb isWs kLen manyV sizeN textA textAt textR vLen withRV wordsA wordsR))) 14 40) 14 c s (normC 1 lv)
theorem Lfhgo {lv : List Nat} {c : Code} {s s' : KSt} {x : Ex} {Q : Ex → St → Prop} {off : Nat} {l : List Int} {e : TypeId} (h : LfhEV boxW byteRV byteV headN isWb isWs kLen manyV sizeN textA textAt textR vLen withRV wordsA wordsR c s lv = some (x, s')) (hq : Q x s'.low) (hok : okCode Try.prog.globals.size c = true := by kernel_rfl) : Gets Try.prog (KH.low ⟨1, 1, [(0, 0, .tail off .u64 l e)]⟩) c s.low Q := Gets.ofN fitL5 wbxy_sound (rc_agree _ _ _) 14 40 hok h hq
theorem LfheX {v : Value} {b c : Bool} (h : v = .bool b) (hb : b = c) : v = .bool c := by rw [h, hb]
theorem LfhC : BLfh = .seq (codeAt [0] BLfh) (codeAt [1] BLfh) := by kernel_rfl
theorem LfhC1 : (codeAt [1] BLfh) = .seq (codeAt [1, 0] BLfh) (codeAt [1, 1] BLfh) := by kernel_rfl
theorem LfhC1_0 : (codeAt [1, 0] BLfh) = .seq (codeAt [1, 0, 0] BLfh) (codeAt [1, 0, 1] BLfh) := by kernel_rfl
theorem LfhC1_0_1 : (codeAt [1, 0, 1] BLfh) = .cond (.tmp 32) (codeAt [1, 0, 1, 0] BLfh) (codeAt [1, 0, 1, 1] BLfh) := by kernel_rfl
theorem LfhC1_1 : (codeAt [1, 1] BLfh) = .seq (codeAt [1, 1, 0] BLfh) (codeAt [1, 1, 1] BLfh) := by kernel_rfl
theorem LfhC1_1_1 : (codeAt [1, 1, 1] BLfh) = .seq (codeAt [1, 1, 1, 0] BLfh) (codeAt [1, 1, 1, 1] BLfh) := by kernel_rfl
theorem LfhC1_1_1_1 : (codeAt [1, 1, 1, 1] BLfh) = .seq (codeAt [1, 1, 1, 1, 0] BLfh) (codeAt [1, 1, 1, 1, 1] BLfh) := by kernel_rfl
theorem LfhC1_1_1_1_1 : (codeAt [1, 1, 1, 1, 1] BLfh) = .seq (codeAt [1, 1, 1, 1, 1, 0] BLfh) (codeAt [1, 1, 1, 1, 1, 1] BLfh) := by kernel_rfl
theorem LfhC1_1_1_1_1_1 : (codeAt [1, 1, 1, 1, 1, 1] BLfh) = .seq (codeAt [1, 1, 1, 1, 1, 1, 0] BLfh) (codeAt [1, 1, 1, 1, 1, 1, 1] BLfh) := by kernel_rfl
theorem LfhC1_1_1_1_1_1_1 : (codeAt [1, 1, 1, 1, 1, 1, 1] BLfh) = .seq (codeAt [1, 1, 1, 1, 1, 1, 1, 0] BLfh) (codeAt [1, 1, 1, 1, 1, 1, 1, 1] BLfh) := by kernel_rfl
theorem LfhC1_1_1_1_1_1_1_0 : (codeAt [1, 1, 1, 1, 1, 1, 1, 0] BLfh) = .seq (codeAt [1, 1, 1, 1, 1, 1, 1, 0, 0] BLfh) (codeAt [1, 1, 1, 1, 1, 1, 1, 0, 1] BLfh) := by kernel_rfl
theorem LfhC1_1_1_1_1_1_1_0_1 : (codeAt [1, 1, 1, 1, 1, 1, 1, 0, 1] BLfh) = .cond (.tmp 61) (codeAt [1, 1, 1, 1, 1, 1, 1, 0, 1, 0] BLfh) (codeAt [1, 1, 1, 1, 1, 1, 1, 0, 1, 1] BLfh) := by kernel_rfl
theorem LfhC1_1_1_1_1_1_1_1 : (codeAt [1, 1, 1, 1, 1, 1, 1, 1] BLfh) = .seq (codeAt [1, 1, 1, 1, 1, 1, 1, 1, 0] BLfh) (codeAt [1, 1, 1, 1, 1, 1, 1, 1, 1] BLfh) := by kernel_rfl
theorem LfhC1_1_1_1_1_1_1_1_1 : (codeAt [1, 1, 1, 1, 1, 1, 1, 1, 1] BLfh) = .seq (codeAt [1, 1, 1, 1, 1, 1, 1, 1, 1, 0] BLfh) (codeAt [1, 1, 1, 1, 1, 1, 1, 1, 1, 1] BLfh) := by kernel_rfl
theorem LfhC1_1_1_1_1_1_1_1_1_1 : (codeAt [1, 1, 1, 1, 1, 1, 1, 1, 1, 1] BLfh) = .seq (codeAt [1, 1, 1, 1, 1, 1, 1, 1, 1, 1, 0] BLfh) (codeAt [1, 1, 1, 1, 1, 1, 1, 1, 1, 1, 1] BLfh) := by kernel_rfl
theorem LfhC1_1_1_1_1_1_1_1_1_1_1 : (codeAt [1, 1, 1, 1, 1, 1, 1, 1, 1, 1, 1] BLfh) = .ret := by kernel_rfl
section
variable (boxW : ByteArray → ByteArray → List Int) (byteRV : Int → Int → Int) (byteV : Int → Int → Int) (headN : ByteArray → ByteArray → Int) (isWb : Int → Bool) (isWs : List Int → Bool) (kLen : Int → Int) (manyV : Int → Int) (sizeN : Int → Int) (textA : List Int → Int → ByteArray × Bool) (textAt : List Int → Int → Int → ByteArray) (textR : List Int → Int → ByteArray × Bool) (vLen : Int → Int) (withRV : Int → Int → Int → Int) (wordsA : ByteArray → List Int) (wordsR : ByteArray → List Int)
noncomputable def LfhS0 (ks : ByteArray) (vs : ByteArray) (off : Nat) (n : Nat) (c : Nat) (l : List Int) (e : TypeId) : KSt := (firstK [(.string ks), (.string vs), (.slice (some ⟨0, off, none⟩) n c)] 122 ⟨1, 1, [(0, 0, .tail off .u64 l e)]⟩)
noncomputable def LfhS1 (ks : ByteArray) (vs : ByteArray) (off : Nat) (n : Nat) (c : Nat) (l : List Int) (e : TypeId) : KSt := ⟨(frameL 122 [(0, (.string ks)), (1, (.string vs)), (2, (.slice (some ⟨0, off, none⟩) n c))]), ⟨1, 1, [(0, 0, .tail off .u64 l e)]⟩⟩
theorem LfhR1 (ks : ByteArray) (vs : ByteArray) (off : Nat) (n : Nat) (c : Nat) (l : List Int) (e : TypeId) : LfhEV boxW byteRV byteV headN isWb isWs kLen manyV sizeN textA textAt textR vLen withRV wordsA wordsR (codeAt [0] BLfh) (LfhS0 ks vs off n c l e) [0, 1, 2] =
  some (.normal, (LfhS1 ks vs off n c l e)) := by kernel_rfl
noncomputable def LfhS2 (ks : ByteArray) (vs : ByteArray) (off : Nat) (n : Nat) (c : Nat) (l : List Int) (e : TypeId) : KSt := ⟨(frameL 122 [(0, (.string ks)), (1, (.string vs)), (2, (.slice (some ⟨0, off, none⟩) n c)), (32, (.bool true))]), ⟨1, 1, [(0, 0, .tail off .u64 l e)]⟩⟩
noncomputable def LfhS3 (ks : ByteArray) (vs : ByteArray) (off : Nat) (n : Nat) (c : Nat) (l : List Int) (e : TypeId) : KSt := ⟨(frameL 122 [(0, (.string ks)), (1, (.string vs)), (2, (.slice (some ⟨0, off, none⟩) n c)), (32, (.bool (decide (((n : Nat) : Int) > 60))))]), ⟨1, 1, [(0, 0, .tail off .u64 l e)]⟩⟩
theorem LfhR2 (ks : ByteArray) (vs : ByteArray) (off : Nat) (n : Nat) (c : Nat) (l : List Int) (e : TypeId) : LfhEV boxW byteRV byteV headN isWb isWs kLen manyV sizeN textA textAt textR vLen withRV wordsA wordsR (codeAt [1, 0, 0] BLfh) (LfhS1 ks vs off n c l e) [0, 1, 2, 32] =
  bif (decide ((((ByteArray.size ks) : Nat) : Int) > 1000)) then
    some (.normal, (LfhS2 ks vs off n c l e))
  else
    bif (decide ((((ByteArray.size vs) : Nat) : Int) > 1000)) then
      some (.normal, (LfhS2 ks vs off n c l e))
    else
      some (.normal, (LfhS3 ks vs off n c l e)) := by kernel_rfl
theorem LfhR3 (ks : ByteArray) (vs : ByteArray) (off : Nat) (n : Nat) (c : Nat) (l : List Int) (e : TypeId) : LfhEV boxW byteRV byteV headN isWb isWs kLen manyV sizeN textA textAt textR vLen withRV wordsA wordsR (codeAt [1, 0, 1, 1] BLfh) (LfhS3 ks vs off n c l e) [0, 1, 2] =
  some (.normal, (LfhS1 ks vs off n c l e)) := by kernel_rfl
noncomputable def LfhS4 (ks : ByteArray) (vs : ByteArray) (off : Nat) (n : Nat) (c : Nat) (l : List Int) (e : TypeId) : KSt := ⟨(frameL 122 [(0, (.string ks)), (1, (.string vs)), (2, (.slice (some ⟨0, off, none⟩) n c)), (7, (.slice (some ⟨1, 0, none⟩) (List.length (boxW ks vs)) (List.length (boxW ks vs)))), (8, (.bool true))]), ⟨2, 1, [(1, 0, .ints .u64 (boxW ks vs) 30 true), (0, 0, .tail off .u64 l e)]⟩⟩
theorem LfhR4 (ks : ByteArray) (vs : ByteArray) (off : Nat) (n : Nat) (c : Nat) (l : List Int) (e : TypeId) : LfhEV boxW byteRV byteV headN isWb isWs kLen manyV sizeN textA textAt textR vLen withRV wordsA wordsR (codeAt [1, 1, 0] BLfh) (LfhS1 ks vs off n c l e) [0, 1, 2, 7, 8] =
  bif ((Nat.ble (ByteArray.size ks) 16) && (Nat.ble (ByteArray.size vs) 24)) then
    some (.normal, (LfhS4 boxW ks vs off n c l e))
  else
    none := by kernel_rfl
noncomputable def LfhS5 (ks : ByteArray) (vs : ByteArray) (off : Nat) (n : Nat) (c : Nat) (l : List Int) (e : TypeId) : KSt := ⟨(frameL 122 [(0, (.string ks)), (1, (.string vs)), (2, (.slice (some ⟨0, off, none⟩) n c)), (7, (.slice (some ⟨1, 0, none⟩) (List.length (boxW ks vs)) (List.length (boxW ks vs)))), (8, (.bool true)), (9, (.slice (some ⟨2, 0, none⟩) (List.length (boxW ks vs)) (List.length (boxW ks vs)))), (10, (.bool true))]), ⟨3, 1, [(2, 0, .ints .u64 (boxW ks vs) 30 true), (1, 0, .ints .u64 (boxW ks vs) 30 true), (0, 0, .tail off .u64 l e)]⟩⟩
theorem LfhR5 (ks : ByteArray) (vs : ByteArray) (off : Nat) (n : Nat) (c : Nat) (l : List Int) (e : TypeId) : LfhEV boxW byteRV byteV headN isWb isWs kLen manyV sizeN textA textAt textR vLen withRV wordsA wordsR (codeAt [1, 1, 1, 0] BLfh) (LfhS4 boxW ks vs off n c l e) [0, 1, 2, 7, 8, 9, 10] =
  bif ((Nat.ble (ByteArray.size ks) 16) && (Nat.ble (ByteArray.size vs) 24)) then
    some (.normal, (LfhS5 boxW ks vs off n c l e))
  else
    none := by kernel_rfl
noncomputable def LfhS6 (ks : ByteArray) (vs : ByteArray) (off : Nat) (n : Nat) (c : Nat) (l : List Int) (e : TypeId) : KSt := ⟨(frameL 122 [(0, (.string ks)), (1, (.string vs)), (2, (.slice (some ⟨0, off, none⟩) n c)), (7, (.slice (some ⟨1, 0, none⟩) (List.length (boxW ks vs)) (List.length (boxW ks vs)))), (8, (.bool true)), (9, (.slice (some ⟨2, 0, none⟩) (List.length (boxW ks vs)) (List.length (boxW ks vs)))), (10, (.bool true)), (11, (.string (textAt (List.take n (List.drop (off - off) l)) 1 (kLen (List.getD (List.take n (List.drop (off - off) l)) 0 0))))), (12, (.string (textAt (List.take n (List.drop (off - off) l)) (1 + manyV (kLen (List.getD (List.take n (List.drop (off - off) l)) 0 0))) (vLen (List.getD (List.take n (List.drop (off - off) l)) 0 0)))))]), ⟨3, 1, [(2, 0, .ints .u64 (boxW ks vs) 30 true), (1, 0, .ints .u64 (boxW ks vs) 30 true), (0, 0, .tail off .u64 l e)]⟩⟩
theorem LfhR6 (ks : ByteArray) (vs : ByteArray) (off : Nat) (n : Nat) (c : Nat) (l : List Int) (e : TypeId) : LfhEV boxW byteRV byteV headN isWb isWs kLen manyV sizeN textA textAt textR vLen withRV wordsA wordsR (codeAt [1, 1, 1, 1, 0] BLfh) (LfhS5 boxW ks vs off n c l e) [0, 1, 2, 7, 8, 9, 10, 11, 12] =
  bif (Nat.ble off off) then
    bif (Nat.ble ((off - off) + n) (List.length l)) then
      bif ((Nat.ble (List.length (List.take n (List.drop (off - off) l))) 1000) && (isWs (List.take n (List.drop (off - off) l)))) then
        some (.normal, (LfhS6 boxW kLen manyV textAt vLen ks vs off n c l e))
      else
        none
    else
      none
  else
    none := by kernel_rfl
noncomputable def LfhS7 (ks : ByteArray) (vs : ByteArray) (off : Nat) (n : Nat) (c : Nat) (l : List Int) (e : TypeId) : KSt := ⟨(frameL 122 [(0, (.string ks)), (1, (.string vs)), (2, (.slice (some ⟨0, off, none⟩) n c)), (7, (.slice (some ⟨1, 0, none⟩) (List.length (boxW ks vs)) (List.length (boxW ks vs)))), (8, (.bool true)), (9, (.slice (some ⟨2, 0, none⟩) (List.length (boxW ks vs)) (List.length (boxW ks vs)))), (10, (.bool true)), (11, (.string (textAt (List.take n (List.drop (off - off) l)) 1 (kLen (List.getD (List.take n (List.drop (off - off) l)) 0 0))))), (12, (.string (textAt (List.take n (List.drop (off - off) l)) (1 + manyV (kLen (List.getD (List.take n (List.drop (off - off) l)) 0 0))) (vLen (List.getD (List.take n (List.drop (off - off) l)) 0 0))))), (13, (.string (textAt (List.take n (List.drop (off - off) l)) 1 (kLen (List.getD (List.take n (List.drop (off - off) l)) 0 0))))), (14, (.string (textAt (List.take n (List.drop (off - off) l)) (1 + manyV (kLen (List.getD (List.take n (List.drop (off - off) l)) 0 0))) (vLen (List.getD (List.take n (List.drop (off - off) l)) 0 0)))))]), ⟨3, 1, [(2, 0, .ints .u64 (boxW ks vs) 30 true), (1, 0, .ints .u64 (boxW ks vs) 30 true), (0, 0, .tail off .u64 l e)]⟩⟩
theorem LfhR7 (ks : ByteArray) (vs : ByteArray) (off : Nat) (n : Nat) (c : Nat) (l : List Int) (e : TypeId) : LfhEV boxW byteRV byteV headN isWb isWs kLen manyV sizeN textA textAt textR vLen withRV wordsA wordsR (codeAt [1, 1, 1, 1, 1, 0] BLfh) (LfhS6 boxW kLen manyV textAt vLen ks vs off n c l e) [0, 1, 2, 7, 8, 9, 10, 11, 12, 13, 14] =
  bif (Nat.ble off off) then
    bif (Nat.ble ((off - off) + n) (List.length l)) then
      bif ((Nat.ble (List.length (List.take n (List.drop (off - off) l))) 1000) && (isWs (List.take n (List.drop (off - off) l)))) then
        some (.normal, (LfhS7 boxW kLen manyV textAt vLen ks vs off n c l e))
      else
        none
    else
      none
  else
    none := by kernel_rfl
noncomputable def LfhS8 (ks : ByteArray) (vs : ByteArray) (off : Nat) (n : Nat) (c : Nat) (l : List Int) (e : TypeId) : KSt := ⟨(frameL 122 [(0, (.string ks)), (1, (.string vs)), (2, (.slice (some ⟨0, off, none⟩) n c)), (7, (.slice (some ⟨1, 0, none⟩) (List.length (boxW ks vs)) (List.length (boxW ks vs)))), (8, (.bool true)), (9, (.slice (some ⟨2, 0, none⟩) (List.length (boxW ks vs)) (List.length (boxW ks vs)))), (10, (.bool true)), (11, (.string (textAt (List.take n (List.drop (off - off) l)) 1 (kLen (List.getD (List.take n (List.drop (off - off) l)) 0 0))))), (12, (.string (textAt (List.take n (List.drop (off - off) l)) (1 + manyV (kLen (List.getD (List.take n (List.drop (off - off) l)) 0 0))) (vLen (List.getD (List.take n (List.drop (off - off) l)) 0 0))))), (13, (.string (textAt (List.take n (List.drop (off - off) l)) 1 (kLen (List.getD (List.take n (List.drop (off - off) l)) 0 0))))), (14, (.string (textAt (List.take n (List.drop (off - off) l)) (1 + manyV (kLen (List.getD (List.take n (List.drop (off - off) l)) 0 0))) (vLen (List.getD (List.take n (List.drop (off - off) l)) 0 0))))), (15, (.int .u64 (headN ks vs)))]), ⟨3, 1, [(2, 0, .ints .u64 (boxW ks vs) 30 true), (1, 0, .ints .u64 (boxW ks vs) 30 true), (0, 0, .tail off .u64 l e)]⟩⟩
theorem LfhR8 (ks : ByteArray) (vs : ByteArray) (off : Nat) (n : Nat) (c : Nat) (l : List Int) (e : TypeId) : LfhEV boxW byteRV byteV headN isWb isWs kLen manyV sizeN textA textAt textR vLen withRV wordsA wordsR (codeAt [1, 1, 1, 1, 1, 1, 0] BLfh) (LfhS7 boxW kLen manyV textAt vLen ks vs off n c l e) [0, 1, 2, 7, 8, 9, 10, 11, 12, 13, 14, 15] =
  bif ((Nat.ble (ByteArray.size ks) 100000) && (Nat.ble (ByteArray.size vs) 100000)) then
    some (.normal, (LfhS8 boxW headN kLen manyV textAt vLen ks vs off n c l e))
  else
    none := by kernel_rfl
noncomputable def LfhS9 (ks : ByteArray) (vs : ByteArray) (off : Nat) (n : Nat) (c : Nat) (l : List Int) (e : TypeId) : KSt := ⟨(frameL 122 [(0, (.string ks)), (1, (.string vs)), (2, (.slice (some ⟨0, off, none⟩) n c)), (7, (.slice (some ⟨1, 0, none⟩) (List.length (boxW ks vs)) (List.length (boxW ks vs)))), (8, (.bool true)), (9, (.slice (some ⟨2, 0, none⟩) (List.length (boxW ks vs)) (List.length (boxW ks vs)))), (10, (.bool true)), (11, (.string (textAt (List.take n (List.drop (off - off) l)) 1 (kLen (List.getD (List.take n (List.drop (off - off) l)) 0 0))))), (12, (.string (textAt (List.take n (List.drop (off - off) l)) (1 + manyV (kLen (List.getD (List.take n (List.drop (off - off) l)) 0 0))) (vLen (List.getD (List.take n (List.drop (off - off) l)) 0 0))))), (13, (.string (textAt (List.take n (List.drop (off - off) l)) 1 (kLen (List.getD (List.take n (List.drop (off - off) l)) 0 0))))), (14, (.string (textAt (List.take n (List.drop (off - off) l)) (1 + manyV (kLen (List.getD (List.take n (List.drop (off - off) l)) 0 0))) (vLen (List.getD (List.take n (List.drop (off - off) l)) 0 0))))), (15, (.int .u64 (headN ks vs))), (61, (.bool (decide (((n : Nat) : Int) > 0))))]), ⟨3, 1, [(2, 0, .ints .u64 (boxW ks vs) 30 true), (1, 0, .ints .u64 (boxW ks vs) 30 true), (0, 0, .tail off .u64 l e)]⟩⟩
theorem LfhR9 (ks : ByteArray) (vs : ByteArray) (off : Nat) (n : Nat) (c : Nat) (l : List Int) (e : TypeId) : LfhEV boxW byteRV byteV headN isWb isWs kLen manyV sizeN textA textAt textR vLen withRV wordsA wordsR (codeAt [1, 1, 1, 1, 1, 1, 1, 0, 0] BLfh) (LfhS8 boxW headN kLen manyV textAt vLen ks vs off n c l e) [0, 1, 2, 7, 8, 9, 10, 11, 12, 13, 14, 15, 61] =
  some (.normal, (LfhS9 boxW headN kLen manyV textAt vLen ks vs off n c l e)) := by kernel_rfl
noncomputable def LfhS10 (ks : ByteArray) (vs : ByteArray) (n : Nat) (off : Nat) (l : List Int) (n1 : Int) (e : TypeId) : KSt := ⟨(frameL 122 [(0, (.string ks)), (1, (.string vs)), (7, (.slice (some ⟨1, 0, none⟩) (List.length (boxW ks vs)) (List.length (boxW ks vs)))), (8, (.bool true)), (9, (.slice (some ⟨2, 0, none⟩) (List.length (boxW ks vs)) (List.length (boxW ks vs)))), (10, (.bool true)), (11, (.string (textAt (List.take n (List.drop (off - off) l)) 1 (kLen (List.getD (List.take n (List.drop (off - off) l)) 0 0))))), (12, (.string (textAt (List.take n (List.drop (off - off) l)) (1 + manyV (kLen (List.getD (List.take n (List.drop (off - off) l)) 0 0))) (vLen (List.getD (List.take n (List.drop (off - off) l)) 0 0))))), (13, (.string (textAt (List.take n (List.drop (off - off) l)) 1 (kLen (List.getD (List.take n (List.drop (off - off) l)) 0 0))))), (14, (.string (textAt (List.take n (List.drop (off - off) l)) (1 + manyV (kLen (List.getD (List.take n (List.drop (off - off) l)) 0 0))) (vLen (List.getD (List.take n (List.drop (off - off) l)) 0 0))))), (15, (.int .u64 n1))]), ⟨3, 1, [(2, 0, .ints .u64 (boxW ks vs) 30 true), (1, 0, .ints .u64 (boxW ks vs) 30 true), (0, 0, .tail off .u64 l e)]⟩⟩
theorem LfhR10 (ks : ByteArray) (vs : ByteArray) (off : Nat) (n : Nat) (c : Nat) (l : List Int) (e : TypeId) : LfhEV boxW byteRV byteV headN isWb isWs kLen manyV sizeN textA textAt textR vLen withRV wordsA wordsR (codeAt [1, 1, 1, 1, 1, 1, 1, 0, 1, 0] BLfh) (LfhS9 boxW headN kLen manyV textAt vLen ks vs off n c l e) [0, 1, 7, 8, 9, 10, 11, 12, 13, 14, 15] =
  if (0 : Int) ≤ 0 ∧ 0 < ((n : Nat) : Int) then
    bif (Nat.ble off (off + 0)) then
      obind (l[((off + 0) - off)]?) fun n1 =>
        some (.normal, (LfhS10 boxW kLen manyV textAt vLen ks vs n off l n1 e))
    else
      none
  else
    none := by kernel_rfl
noncomputable def LfhS11 (ks : ByteArray) (vs : ByteArray) (n : Nat) (off : Nat) (l : List Int) (e : TypeId) : KSt := ⟨(frameL 122 [(0, (.string ks)), (1, (.string vs)), (7, (.slice (some ⟨1, 0, none⟩) (List.length (boxW ks vs)) (List.length (boxW ks vs)))), (8, (.bool true)), (9, (.slice (some ⟨2, 0, none⟩) (List.length (boxW ks vs)) (List.length (boxW ks vs)))), (10, (.bool true)), (11, (.string (textAt (List.take n (List.drop (off - off) l)) 1 (kLen (List.getD (List.take n (List.drop (off - off) l)) 0 0))))), (12, (.string (textAt (List.take n (List.drop (off - off) l)) (1 + manyV (kLen (List.getD (List.take n (List.drop (off - off) l)) 0 0))) (vLen (List.getD (List.take n (List.drop (off - off) l)) 0 0))))), (13, (.string (textAt (List.take n (List.drop (off - off) l)) 1 (kLen (List.getD (List.take n (List.drop (off - off) l)) 0 0))))), (14, (.string (textAt (List.take n (List.drop (off - off) l)) (1 + manyV (kLen (List.getD (List.take n (List.drop (off - off) l)) 0 0))) (vLen (List.getD (List.take n (List.drop (off - off) l)) 0 0))))), (15, (.int .u64 (l.getD 0 0)))]), ⟨3, 1, [(2, 0, .ints .u64 (boxW ks vs) 30 true), (1, 0, .ints .u64 (boxW ks vs) 30 true), (0, 0, .tail off .u64 l e)]⟩⟩
noncomputable def LfhS12 (ks : ByteArray) (vs : ByteArray) (n : Nat) (off : Nat) (l : List Int) (e : TypeId) : KSt := ⟨(frameL 122 [(0, (.string ks)), (1, (.string vs)), (7, (.slice (some ⟨1, 0, none⟩) (List.length (boxW ks vs)) (List.length (boxW ks vs)))), (8, (.bool true)), (9, (.slice (some ⟨2, 0, none⟩) (List.length (boxW ks vs)) (List.length (boxW ks vs)))), (10, (.bool true)), (11, (.string (textAt (List.take n (List.drop (off - off) l)) 1 (kLen (List.getD (List.take n (List.drop (off - off) l)) 0 0))))), (12, (.string (textAt (List.take n (List.drop (off - off) l)) (1 + manyV (kLen (List.getD (List.take n (List.drop (off - off) l)) 0 0))) (vLen (List.getD (List.take n (List.drop (off - off) l)) 0 0))))), (13, (.string (textAt (List.take n (List.drop (off - off) l)) 1 (kLen (List.getD (List.take n (List.drop (off - off) l)) 0 0))))), (14, (.string (textAt (List.take n (List.drop (off - off) l)) (1 + manyV (kLen (List.getD (List.take n (List.drop (off - off) l)) 0 0))) (vLen (List.getD (List.take n (List.drop (off - off) l)) 0 0))))), (15, (.int .u64 (l.getD 0 0))), (16, (.int .i64 (kLen (l.getD 0 0)))), (17, (.int .i64 (vLen (l.getD 0 0))))]), ⟨3, 1, [(2, 0, .ints .u64 (boxW ks vs) 30 true), (1, 0, .ints .u64 (boxW ks vs) 30 true), (0, 0, .tail off .u64 l e)]⟩⟩
theorem LfhR11 (ks : ByteArray) (vs : ByteArray) (n : Nat) (off : Nat) (l : List Int) (e : TypeId) : LfhEV boxW byteRV byteV headN isWb isWs kLen manyV sizeN textA textAt textR vLen withRV wordsA wordsR (codeAt [1, 1, 1, 1, 1, 1, 1, 1, 0] BLfh) (LfhS11 boxW kLen manyV textAt vLen ks vs n off l e) [0, 1, 7, 8, 9, 10, 11, 12, 13, 14, 15, 16, 17] =
  bif (isWb (l.getD 0 0)) then
    some (.normal, (LfhS12 boxW kLen manyV textAt vLen ks vs n off l e))
  else
    none := by kernel_rfl
noncomputable def LfhS13 (ks : ByteArray) (vs : ByteArray) (n : Nat) (off : Nat) (l : List Int) (e : TypeId) : KSt := ⟨(frameL 122 [(0, (.string ks)), (1, (.string vs)), (7, (.slice (some ⟨1, 0, none⟩) (List.length (boxW ks vs)) (List.length (boxW ks vs)))), (8, (.bool true)), (9, (.slice (some ⟨2, 0, none⟩) (List.length (boxW ks vs)) (List.length (boxW ks vs)))), (10, (.bool true)), (11, (.string (textAt (List.take n (List.drop (off - off) l)) 1 (kLen (List.getD (List.take n (List.drop (off - off) l)) 0 0))))), (12, (.string (textAt (List.take n (List.drop (off - off) l)) (1 + manyV (kLen (List.getD (List.take n (List.drop (off - off) l)) 0 0))) (vLen (List.getD (List.take n (List.drop (off - off) l)) 0 0))))), (13, (.string (textAt (List.take n (List.drop (off - off) l)) 1 (kLen (List.getD (List.take n (List.drop (off - off) l)) 0 0))))), (14, (.string (textAt (List.take n (List.drop (off - off) l)) (1 + manyV (kLen (List.getD (List.take n (List.drop (off - off) l)) 0 0))) (vLen (List.getD (List.take n (List.drop (off - off) l)) 0 0))))), (15, (.int .u64 (l.getD 0 0))), (16, (.int .i64 (kLen (l.getD 0 0)))), (17, (.int .i64 (vLen (l.getD 0 0)))), (18, (.int .i64 (kLen (l.getD 0 0)))), (19, (.int .i64 (vLen (l.getD 0 0))))]), ⟨3, 1, [(2, 0, .ints .u64 (boxW ks vs) 30 true), (1, 0, .ints .u64 (boxW ks vs) 30 true), (0, 0, .tail off .u64 l e)]⟩⟩
theorem LfhR12 (ks : ByteArray) (vs : ByteArray) (n : Nat) (off : Nat) (l : List Int) (e : TypeId) : LfhEV boxW byteRV byteV headN isWb isWs kLen manyV sizeN textA textAt textR vLen withRV wordsA wordsR (codeAt [1, 1, 1, 1, 1, 1, 1, 1, 1, 0] BLfh) (LfhS12 boxW kLen manyV textAt vLen ks vs n off l e) [0, 1, 7, 8, 9, 10, 11, 12, 13, 14, 15, 16, 17, 18, 19] =
  bif (isWb (l.getD 0 0)) then
    some (.normal, (LfhS13 boxW kLen manyV textAt vLen ks vs n off l e))
  else
    none := by kernel_rfl
noncomputable def LfhS14 (off : Nat) (l : List Int) (e : TypeId) : KSt := ⟨(frameL 122 [(6, (.bool true))]), ⟨1, 1, [(0, 0, .tail off .u64 l e)]⟩⟩
noncomputable def LfhS15 (off : Nat) (l : List Int) (e : TypeId) : KSt := ⟨(frameL 122 [(6, (.bool false))]), ⟨1, 1, [(0, 0, .tail off .u64 l e)]⟩⟩
theorem LfhR13 (ks : ByteArray) (vs : ByteArray) (n : Nat) (off : Nat) (l : List Int) (e : TypeId) : LfhEV boxW byteRV byteV headN isWb isWs kLen manyV sizeN textA textAt textR vLen withRV wordsA wordsR (codeAt [1, 1, 1, 1, 1, 1, 1, 1, 1, 1, 0] BLfh) (LfhS13 boxW kLen manyV textAt vLen ks vs n off l e) [6] =
  bif (Nat.ble (0 + (List.length (boxW ks vs))) (List.length (boxW ks vs))) then
    bif (Nat.ble (0 + (List.length (boxW ks vs))) (List.length (boxW ks vs))) then
      bif (Nat.ble (List.length (List.take (List.length (boxW ks vs)) (List.drop 0 (boxW ks vs)))) 100000) then
        bif (decide ((List.take (List.length (boxW ks vs)) (List.drop 0 (boxW ks vs))) = (List.take (List.length (boxW ks vs)) (List.drop 0 (boxW ks vs))))) then
          bif ((textAt (List.take n (List.drop (off - off) l)) 1 (kLen (List.getD (List.take n (List.drop (off - off) l)) 0 0))).toList == (textAt (List.take n (List.drop (off - off) l)) 1 (kLen (List.getD (List.take n (List.drop (off - off) l)) 0 0))).toList) then
            bif ((textAt (List.take n (List.drop (off - off) l)) (1 + manyV (kLen (List.getD (List.take n (List.drop (off - off) l)) 0 0))) (vLen (List.getD (List.take n (List.drop (off - off) l)) 0 0))).toList == (textAt (List.take n (List.drop (off - off) l)) (1 + manyV (kLen (List.getD (List.take n (List.drop (off - off) l)) 0 0))) (vLen (List.getD (List.take n (List.drop (off - off) l)) 0 0))).toList) then
              bif ((Nat.ble (ByteArray.size ks) 100000) && (Nat.ble (ByteArray.size vs) 100000)) then
                bif ((Nat.ble (ByteArray.size ks) 100000) && (Nat.ble (ByteArray.size vs) 100000)) then
                  bif ((headN ks vs) == (headN ks vs)) then
                    bif ((kLen (l.getD 0 0)) == (kLen (l.getD 0 0))) then
                      bif ((vLen (l.getD 0 0)) == (vLen (l.getD 0 0))) then
                        bif (isWb (l.getD 0 0)) then
                          bif (isWb (l.getD 0 0)) then
                            bif ((sizeN (l.getD 0 0)) == (sizeN (l.getD 0 0))) then
                              some (.normal, (LfhS14 off l e))
                            else
                              some (.normal, (LfhS15 off l e))
                          else
                            none
                        else
                          none
                      else
                        some (.normal, (LfhS15 off l e))
                    else
                      some (.normal, (LfhS15 off l e))
                  else
                    some (.normal, (LfhS15 off l e))
                else
                  none
              else
                none
            else
              some (.normal, (LfhS15 off l e))
          else
            some (.normal, (LfhS15 off l e))
        else
          some (.normal, (LfhS15 off l e))
      else
        none
    else
      none
  else
    none := by kernel_rfl
end
theorem Lfhm {ks : ByteArray} {vs : ByteArray} {n : Nat} {l : List Int} {c : Nat} {off : Nat} {e : TypeId} (hk : ks.size ≤ 1000) (hv : vs.size ≤ 1000) (hn : n ≤ 60) (hl : l.length = c) (hnc : n ≤ c) (hws : isWs (List.take n (List.drop (off - off) l)) = true) (h16 : ks.size ≤ 16) (h24 : vs.size ≤ 24) (hbl : (boxW ks vs).length ≤ 100) (hwh : isWb (headN ks vs) = true) (hn1 : 1 ≤ n) (hw : isWb (l.getD 0 0) = true)   {Q : Ex → St → Prop} (hq : Q .ret (KSt.low (LfhS14 off l e))) : Gets Try.prog (KH.low ⟨1, 1, [(0, 0, .tail off .u64 l e)]⟩) BLfh (KSt.low (LfhS0 ks vs off n c l e)) Q := by
  rw [LfhC]; refine Gets.seq ?_
  refine Lfhgo (LfhR1 boxW byteRV byteV headN isWb isWs kLen manyV sizeN textA textAt textR vLen withRV wordsA wordsR ks vs off n c l e) ?_
  rw [LfhC1]; refine Gets.seq ?_
  rw [LfhC1_0]; refine Gets.seq ?_
  refine Lfhgo (x := .normal) (s' := (LfhS3 ks vs off n c l e)) ((LfhR2 boxW byteRV byteV headN isWb isWs kLen manyV sizeN textA textAt textR vLen withRV wordsA wordsR ks vs off n c l e).trans (by rw [condF (decide_eq_false (by omega)), condF (decide_eq_false (by omega))])) ?_
  rw [LfhC1_0_1]; refine Gets.cond false (by kernel_rfl) (LfheX (b := (decide (((n : Nat) : Int) > 60))) (by kernel_rfl) ((show (decide (((n : Nat) : Int) > 60)) = false from decide_eq_false (by omega)))) ?_; show Gets _ _ (codeAt [1, 0, 1, 1] BLfh) _ _
  refine Lfhgo (LfhR3 boxW byteRV byteV headN isWb isWs kLen manyV sizeN textA textAt textR vLen withRV wordsA wordsR ks vs off n c l e) ?_
  rw [LfhC1_1]; refine Gets.seq ?_
  refine Lfhgo (x := .normal) (s' := (LfhS4 boxW ks vs off n c l e)) ((LfhR4 boxW byteRV byteV headN isWb isWs kLen manyV sizeN textA textAt textR vLen withRV wordsA wordsR ks vs off n c l e).trans (by rw [condT (and_t (ble_t (by omega)) (ble_t (by omega)))])) ?_
  rw [LfhC1_1_1]; refine Gets.seq ?_
  refine Lfhgo (x := .normal) (s' := (LfhS5 boxW ks vs off n c l e)) ((LfhR5 boxW byteRV byteV headN isWb isWs kLen manyV sizeN textA textAt textR vLen withRV wordsA wordsR ks vs off n c l e).trans (by rw [condT (and_t (ble_t (by omega)) (ble_t (by omega)))])) ?_
  rw [LfhC1_1_1_1]; refine Gets.seq ?_
  refine Lfhgo (x := .normal) (s' := (LfhS6 boxW kLen manyV textAt vLen ks vs off n c l e)) ((LfhR6 boxW byteRV byteV headN isWb isWs kLen manyV sizeN textA textAt textR vLen withRV wordsA wordsR ks vs off n c l e).trans (by rw [condT (ble_t (by omega)), condT (ble_t (by (first | omega | ((try simp (disch := omega) only [wrap_i64_id]) <;> omega)))), condT (and_t (Nat.ble_eq_true_of_le (by simp; omega)) (hws))])) ?_
  rw [LfhC1_1_1_1_1]; refine Gets.seq ?_
  refine Lfhgo (x := .normal) (s' := (LfhS7 boxW kLen manyV textAt vLen ks vs off n c l e)) ((LfhR7 boxW byteRV byteV headN isWb isWs kLen manyV sizeN textA textAt textR vLen withRV wordsA wordsR ks vs off n c l e).trans (by rw [condT (ble_t (by omega)), condT (ble_t (by (first | omega | ((try simp (disch := omega) only [wrap_i64_id]) <;> omega)))), condT (and_t (Nat.ble_eq_true_of_le (by simp; omega)) (hws))])) ?_
  rw [LfhC1_1_1_1_1_1]; refine Gets.seq ?_
  refine Lfhgo (x := .normal) (s' := (LfhS8 boxW headN kLen manyV textAt vLen ks vs off n c l e)) ((LfhR8 boxW byteRV byteV headN isWb isWs kLen manyV sizeN textA textAt textR vLen withRV wordsA wordsR ks vs off n c l e).trans (by rw [condT (and_t (ble_t (by omega)) (ble_t (by omega)))])) ?_
  rw [LfhC1_1_1_1_1_1_1]; refine Gets.seq ?_
  rw [LfhC1_1_1_1_1_1_1_0]; refine Gets.seq ?_
  refine Lfhgo (LfhR9 boxW byteRV byteV headN isWb isWs kLen manyV sizeN textA textAt textR vLen withRV wordsA wordsR ks vs off n c l e) ?_
  rw [LfhC1_1_1_1_1_1_1_0_1]; refine Gets.cond true (by kernel_rfl) (LfheX (b := (decide (((n : Nat) : Int) > 0))) (by kernel_rfl) ((show (decide (((n : Nat) : Int) > 0)) = true from decide_eq_true (by omega)))) ?_; show Gets _ _ (codeAt [1, 1, 1, 1, 1, 1, 1, 0, 1, 0] BLfh) _ _
  refine Lfhgo (x := .normal) (s' := (LfhS11 boxW kLen manyV textAt vLen ks vs n off l e)) ((LfhR10 boxW byteRV byteV headN isWb isWs kLen manyV sizeN textA textAt textR vLen withRV wordsA wordsR ks vs off n c l e).trans (by rw [if_pos (⟨by omega, by omega⟩), condT (ble_t (by omega)), obind_at (k := 0) (by omega) (by omega)] <;> rfl)) ?_
  rw [LfhC1_1_1_1_1_1_1_1]; refine Gets.seq ?_
  refine Lfhgo (x := .normal) (s' := (LfhS12 boxW kLen manyV textAt vLen ks vs n off l e)) ((LfhR11 boxW byteRV byteV headN isWb isWs kLen manyV sizeN textA textAt textR vLen withRV wordsA wordsR ks vs n off l e).trans (by rw [condT (hw)])) ?_
  rw [LfhC1_1_1_1_1_1_1_1_1]; refine Gets.seq ?_
  refine Lfhgo (x := .normal) (s' := (LfhS13 boxW kLen manyV textAt vLen ks vs n off l e)) ((LfhR12 boxW byteRV byteV headN isWb isWs kLen manyV sizeN textA textAt textR vLen withRV wordsA wordsR ks vs n off l e).trans (by rw [condT (hw)])) ?_
  rw [LfhC1_1_1_1_1_1_1_1_1_1]; refine Gets.seq ?_
  refine Lfhgo (x := .normal) (s' := (LfhS14 off l e)) ((LfhR13 boxW byteRV byteV headN isWb isWs kLen manyV sizeN textA textAt textR vLen withRV wordsA wordsR ks vs n off l e).trans (by rw [condT (Nat.ble_eq_true_of_le (by omega)), condT (Nat.ble_eq_true_of_le (by omega)), condT (Nat.ble_eq_true_of_le (by rw [List.drop_zero, List.take_length]; omega)), condT (decide_eq_true rfl), condT (beq_self_eq_true _), condT (beq_self_eq_true _), condT (and_t (ble_t (by omega)) (ble_t (by omega))), condT (and_t (ble_t (by omega)) (ble_t (by omega))), condT (beq_self_eq_true _), condT (beq_self_eq_true _), condT (beq_self_eq_true _), condT (hw), condT (hw), condT (beq_self_eq_true _)])) ?_
  rw [LfhC1_1_1_1_1_1_1_1_1_1_1]; refine Gets.ev fitL5.mix fitL5.cfg (fitL5.sound wbxy_sound 14 0) 14 rfl (s' := KSt.low (LfhS14 off l e)) (x := .ret) rfl ?_
  exact hq
noncomputable def BLf : Code := bodyOf Try.prog 6
theorem BLf_is : Try.f6.body = some BLf := by kernel_rfl
theorem BLf_ok : okCode Try.prog.globals.size BLf = true := by kernel_rfl
noncomputable abbrev LfEV (boxW : ByteArray → ByteArray → List Int) (byteRV : Int → Int → Int) (byteV : Int → Int → Int) (headN : ByteArray → ByteArray → Int) (isWb : Int → Bool) (isWs : List Int → Bool) (kLen : Int → Int) (manyV : Int → Int) (sizeN : Int → Int) (textA : List Int → Int → ByteArray × Bool) (textAt : List Int → Int → Int → ByteArray) (textR : List Int → Int → ByteArray × Bool) (vLen : Int → Int) (withRV : Int → Int → Int → Int) (wordsA : ByteArray → List Int) (wordsR : ByteArray → List Int) (c : Code) (s : KSt) (lv : List Nat) : Option (Ex × KSt) := evCK Try.prog cfgL5 (runK Try.prog cfgL5 fsL5 (conTk wbxyDom (rcK [] (wbxyT boxW byteRV byteV headN isWb isWs kLen manyV sizeN textA textAt textR vLen withRV wordsA wordsR))) 14 40) 14 c s (normC 1 lv)
theorem Lfgo {lv : List Nat} {c : Code} {s s' : KSt} {x : Ex} {Q : Ex → St → Prop} {off : Nat} {l : List Int} {e : TypeId} (h : LfEV boxW byteRV byteV headN isWb isWs kLen manyV sizeN textA textAt textR vLen withRV wordsA wordsR c s lv = some (x, s')) (hq : Q x s'.low) (hok : okCode Try.prog.globals.size c = true := by kernel_rfl) : Gets Try.prog (KH.low ⟨1, 1, [(0, 0, .tail off .u64 l e)]⟩) c s.low Q := Gets.ofN fitL5 wbxy_sound (rc_agree _ _ _) 14 40 hok h hq
theorem LfeX {v : Value} {b c : Bool} (h : v = .bool b) (hb : b = c) : v = .bool c := by rw [h, hb]
theorem LfC : BLf = .seq (codeAt [0] BLf) (codeAt [1] BLf) := by kernel_rfl
theorem LfC1 : (codeAt [1] BLf) = .seq (codeAt [1, 0] BLf) (codeAt [1, 1] BLf) := by kernel_rfl
theorem LfC1_0 : (codeAt [1, 0] BLf) = .seq (codeAt [1, 0, 0] BLf) (codeAt [1, 0, 1] BLf) := by kernel_rfl
theorem LfC1_0_1 : (codeAt [1, 0, 1] BLf) = .cond (.tmp 32) (codeAt [1, 0, 1, 0] BLf) (codeAt [1, 0, 1, 1] BLf) := by kernel_rfl
theorem LfC1_0_1_0 : (codeAt [1, 0, 1, 0] BLf) = .seq (codeAt [1, 0, 1, 0, 0] BLf) (codeAt [1, 0, 1, 0, 1] BLf) := by kernel_rfl
theorem LfC1_0_1_0_1 : (codeAt [1, 0, 1, 0, 1] BLf) = .ret := by kernel_rfl
theorem LfC1_1 : (codeAt [1, 1] BLf) = .seq (codeAt [1, 1, 0] BLf) (codeAt [1, 1, 1] BLf) := by kernel_rfl
theorem LfC1_1_1 : (codeAt [1, 1, 1] BLf) = .seq (codeAt [1, 1, 1, 0] BLf) (codeAt [1, 1, 1, 1] BLf) := by kernel_rfl
theorem LfC1_1_1_1 : (codeAt [1, 1, 1, 1] BLf) = .seq (codeAt [1, 1, 1, 1, 0] BLf) (codeAt [1, 1, 1, 1, 1] BLf) := by kernel_rfl
theorem LfC1_1_1_1_1 : (codeAt [1, 1, 1, 1, 1] BLf) = .seq (codeAt [1, 1, 1, 1, 1, 0] BLf) (codeAt [1, 1, 1, 1, 1, 1] BLf) := by kernel_rfl
theorem LfC1_1_1_1_1_1 : (codeAt [1, 1, 1, 1, 1, 1] BLf) = .seq (codeAt [1, 1, 1, 1, 1, 1, 0] BLf) (codeAt [1, 1, 1, 1, 1, 1, 1] BLf) := by kernel_rfl
theorem LfC1_1_1_1_1_1_1 : (codeAt [1, 1, 1, 1, 1, 1, 1] BLf) = .seq (codeAt [1, 1, 1, 1, 1, 1, 1, 0] BLf) (codeAt [1, 1, 1, 1, 1, 1, 1, 1] BLf) := by kernel_rfl
theorem LfC1_1_1_1_1_1_1_0 : (codeAt [1, 1, 1, 1, 1, 1, 1, 0] BLf) = .seq (codeAt [1, 1, 1, 1, 1, 1, 1, 0, 0] BLf) (codeAt [1, 1, 1, 1, 1, 1, 1, 0, 1] BLf) := by kernel_rfl
theorem LfC1_1_1_1_1_1_1_0_1 : (codeAt [1, 1, 1, 1, 1, 1, 1, 0, 1] BLf) = .cond (.tmp 61) (codeAt [1, 1, 1, 1, 1, 1, 1, 0, 1, 0] BLf) (codeAt [1, 1, 1, 1, 1, 1, 1, 0, 1, 1] BLf) := by kernel_rfl
theorem LfC1_1_1_1_1_1_1_1 : (codeAt [1, 1, 1, 1, 1, 1, 1, 1] BLf) = .seq (codeAt [1, 1, 1, 1, 1, 1, 1, 1, 0] BLf) (codeAt [1, 1, 1, 1, 1, 1, 1, 1, 1] BLf) := by kernel_rfl
theorem LfC1_1_1_1_1_1_1_1_1 : (codeAt [1, 1, 1, 1, 1, 1, 1, 1, 1] BLf) = .seq (codeAt [1, 1, 1, 1, 1, 1, 1, 1, 1, 0] BLf) (codeAt [1, 1, 1, 1, 1, 1, 1, 1, 1, 1] BLf) := by kernel_rfl
theorem LfC1_1_1_1_1_1_1_1_1_1 : (codeAt [1, 1, 1, 1, 1, 1, 1, 1, 1, 1] BLf) = .seq (codeAt [1, 1, 1, 1, 1, 1, 1, 1, 1, 1, 0] BLf) (codeAt [1, 1, 1, 1, 1, 1, 1, 1, 1, 1, 1] BLf) := by kernel_rfl
theorem LfC1_1_1_1_1_1_1_1_1_1_1 : (codeAt [1, 1, 1, 1, 1, 1, 1, 1, 1, 1, 1] BLf) = .ret := by kernel_rfl
section
variable (boxW : ByteArray → ByteArray → List Int) (byteRV : Int → Int → Int) (byteV : Int → Int → Int) (headN : ByteArray → ByteArray → Int) (isWb : Int → Bool) (isWs : List Int → Bool) (kLen : Int → Int) (manyV : Int → Int) (sizeN : Int → Int) (textA : List Int → Int → ByteArray × Bool) (textAt : List Int → Int → Int → ByteArray) (textR : List Int → Int → ByteArray × Bool) (vLen : Int → Int) (withRV : Int → Int → Int → Int) (wordsA : ByteArray → List Int) (wordsR : ByteArray → List Int)
noncomputable def LfS0 (ks : ByteArray) (vs : ByteArray) (off : Nat) (n : Nat) (c : Nat) (l : List Int) (e : TypeId) : KSt := (firstK [(.string ks), (.string vs), (.slice (some ⟨0, off, none⟩) n c)] 122 ⟨1, 1, [(0, 0, .tail off .u64 l e)]⟩)
noncomputable def LfS1 (ks : ByteArray) (vs : ByteArray) (off : Nat) (n : Nat) (c : Nat) (l : List Int) (e : TypeId) : KSt := ⟨(frameL 122 [(0, (.string ks)), (1, (.string vs)), (2, (.slice (some ⟨0, off, none⟩) n c))]), ⟨1, 1, [(0, 0, .tail off .u64 l e)]⟩⟩
theorem LfR1 (ks : ByteArray) (vs : ByteArray) (off : Nat) (n : Nat) (c : Nat) (l : List Int) (e : TypeId) : LfEV boxW byteRV byteV headN isWb isWs kLen manyV sizeN textA textAt textR vLen withRV wordsA wordsR (codeAt [0] BLf) (LfS0 ks vs off n c l e) [0, 1, 2] =
  some (.normal, (LfS1 ks vs off n c l e)) := by kernel_rfl
noncomputable def LfS2 (ks : ByteArray) (vs : ByteArray) (off : Nat) (n : Nat) (c : Nat) (l : List Int) (e : TypeId) : KSt := ⟨(frameL 122 [(0, (.string ks)), (1, (.string vs)), (2, (.slice (some ⟨0, off, none⟩) n c)), (32, (.bool true))]), ⟨1, 1, [(0, 0, .tail off .u64 l e)]⟩⟩
noncomputable def LfS3 (ks : ByteArray) (vs : ByteArray) (off : Nat) (n : Nat) (c : Nat) (l : List Int) (e : TypeId) : KSt := ⟨(frameL 122 [(0, (.string ks)), (1, (.string vs)), (2, (.slice (some ⟨0, off, none⟩) n c)), (32, (.bool (decide (((n : Nat) : Int) > 60))))]), ⟨1, 1, [(0, 0, .tail off .u64 l e)]⟩⟩
theorem LfR2 (ks : ByteArray) (vs : ByteArray) (off : Nat) (n : Nat) (c : Nat) (l : List Int) (e : TypeId) : LfEV boxW byteRV byteV headN isWb isWs kLen manyV sizeN textA textAt textR vLen withRV wordsA wordsR (codeAt [1, 0, 0] BLf) (LfS1 ks vs off n c l e) [0, 1, 2, 32] =
  bif (decide ((((ByteArray.size ks) : Nat) : Int) > 1000)) then
    some (.normal, (LfS2 ks vs off n c l e))
  else
    bif (decide ((((ByteArray.size vs) : Nat) : Int) > 1000)) then
      some (.normal, (LfS2 ks vs off n c l e))
    else
      some (.normal, (LfS3 ks vs off n c l e)) := by kernel_rfl
noncomputable def LfS4 (off : Nat) (l : List Int) (e : TypeId) : KSt := ⟨(frameL 122 [(6, (.bool true))]), ⟨1, 1, [(0, 0, .tail off .u64 l e)]⟩⟩
theorem LfR3 (ks : ByteArray) (vs : ByteArray) (off : Nat) (n : Nat) (c : Nat) (l : List Int) (e : TypeId) : LfEV boxW byteRV byteV headN isWb isWs kLen manyV sizeN textA textAt textR vLen withRV wordsA wordsR (codeAt [1, 0, 1, 0, 0] BLf) (LfS2 ks vs off n c l e) [6] =
  some (.normal, (LfS4 off l e)) := by kernel_rfl
theorem LfR4 (ks : ByteArray) (vs : ByteArray) (off : Nat) (n : Nat) (c : Nat) (l : List Int) (e : TypeId) : LfEV boxW byteRV byteV headN isWb isWs kLen manyV sizeN textA textAt textR vLen withRV wordsA wordsR (codeAt [1, 0, 1, 0, 0] BLf) (LfS3 ks vs off n c l e) [6] =
  some (.normal, (LfS4 off l e)) := by kernel_rfl
theorem LfR5 (ks : ByteArray) (vs : ByteArray) (off : Nat) (n : Nat) (c : Nat) (l : List Int) (e : TypeId) : LfEV boxW byteRV byteV headN isWb isWs kLen manyV sizeN textA textAt textR vLen withRV wordsA wordsR (codeAt [1, 0, 1, 1] BLf) (LfS3 ks vs off n c l e) [0, 1, 2] =
  some (.normal, (LfS1 ks vs off n c l e)) := by kernel_rfl
noncomputable def LfS5 (ks : ByteArray) (vs : ByteArray) (off : Nat) (n : Nat) (c : Nat) (l : List Int) (e : TypeId) : KSt := ⟨(frameL 122 [(0, (.string ks)), (1, (.string vs)), (2, (.slice (some ⟨0, off, none⟩) n c)), (7, (.slice (some ⟨1, 0, none⟩) (List.length (boxW ks vs)) (List.length (boxW ks vs)))), (8, (.bool true))]), ⟨2, 1, [(1, 0, .ints .u64 (boxW ks vs) 30 true), (0, 0, .tail off .u64 l e)]⟩⟩
theorem LfR6 (ks : ByteArray) (vs : ByteArray) (off : Nat) (n : Nat) (c : Nat) (l : List Int) (e : TypeId) : LfEV boxW byteRV byteV headN isWb isWs kLen manyV sizeN textA textAt textR vLen withRV wordsA wordsR (codeAt [1, 1, 0] BLf) (LfS1 ks vs off n c l e) [0, 1, 2, 7, 8] =
  bif ((Nat.ble (ByteArray.size ks) 16) && (Nat.ble (ByteArray.size vs) 24)) then
    some (.normal, (LfS5 boxW ks vs off n c l e))
  else
    none := by kernel_rfl
noncomputable def LfS6 (ks : ByteArray) (vs : ByteArray) (off : Nat) (n : Nat) (c : Nat) (l : List Int) (e : TypeId) : KSt := ⟨(frameL 122 [(0, (.string ks)), (1, (.string vs)), (2, (.slice (some ⟨0, off, none⟩) n c)), (7, (.slice (some ⟨1, 0, none⟩) (List.length (boxW ks vs)) (List.length (boxW ks vs)))), (8, (.bool true)), (9, (.slice (some ⟨2, 0, none⟩) (List.length (boxW ks vs)) (List.length (boxW ks vs)))), (10, (.bool true))]), ⟨3, 1, [(2, 0, .ints .u64 (boxW ks vs) 30 true), (1, 0, .ints .u64 (boxW ks vs) 30 true), (0, 0, .tail off .u64 l e)]⟩⟩
theorem LfR7 (ks : ByteArray) (vs : ByteArray) (off : Nat) (n : Nat) (c : Nat) (l : List Int) (e : TypeId) : LfEV boxW byteRV byteV headN isWb isWs kLen manyV sizeN textA textAt textR vLen withRV wordsA wordsR (codeAt [1, 1, 1, 0] BLf) (LfS5 boxW ks vs off n c l e) [0, 1, 2, 7, 8, 9, 10] =
  bif ((Nat.ble (ByteArray.size ks) 16) && (Nat.ble (ByteArray.size vs) 24)) then
    some (.normal, (LfS6 boxW ks vs off n c l e))
  else
    none := by kernel_rfl
noncomputable def LfS7 (ks : ByteArray) (vs : ByteArray) (off : Nat) (n : Nat) (c : Nat) (l : List Int) (e : TypeId) : KSt := ⟨(frameL 122 [(0, (.string ks)), (1, (.string vs)), (2, (.slice (some ⟨0, off, none⟩) n c)), (7, (.slice (some ⟨1, 0, none⟩) (List.length (boxW ks vs)) (List.length (boxW ks vs)))), (8, (.bool true)), (9, (.slice (some ⟨2, 0, none⟩) (List.length (boxW ks vs)) (List.length (boxW ks vs)))), (10, (.bool true)), (11, (.string (textAt (List.take n (List.drop (off - off) l)) 1 (kLen (List.getD (List.take n (List.drop (off - off) l)) 0 0))))), (12, (.string (textAt (List.take n (List.drop (off - off) l)) (1 + manyV (kLen (List.getD (List.take n (List.drop (off - off) l)) 0 0))) (vLen (List.getD (List.take n (List.drop (off - off) l)) 0 0)))))]), ⟨3, 1, [(2, 0, .ints .u64 (boxW ks vs) 30 true), (1, 0, .ints .u64 (boxW ks vs) 30 true), (0, 0, .tail off .u64 l e)]⟩⟩
theorem LfR8 (ks : ByteArray) (vs : ByteArray) (off : Nat) (n : Nat) (c : Nat) (l : List Int) (e : TypeId) : LfEV boxW byteRV byteV headN isWb isWs kLen manyV sizeN textA textAt textR vLen withRV wordsA wordsR (codeAt [1, 1, 1, 1, 0] BLf) (LfS6 boxW ks vs off n c l e) [0, 1, 2, 7, 8, 9, 10, 11, 12] =
  bif (Nat.ble off off) then
    bif (Nat.ble ((off - off) + n) (List.length l)) then
      bif ((Nat.ble (List.length (List.take n (List.drop (off - off) l))) 1000) && (isWs (List.take n (List.drop (off - off) l)))) then
        some (.normal, (LfS7 boxW kLen manyV textAt vLen ks vs off n c l e))
      else
        none
    else
      none
  else
    none := by kernel_rfl
noncomputable def LfS8 (ks : ByteArray) (vs : ByteArray) (off : Nat) (n : Nat) (c : Nat) (l : List Int) (e : TypeId) : KSt := ⟨(frameL 122 [(0, (.string ks)), (1, (.string vs)), (2, (.slice (some ⟨0, off, none⟩) n c)), (7, (.slice (some ⟨1, 0, none⟩) (List.length (boxW ks vs)) (List.length (boxW ks vs)))), (8, (.bool true)), (9, (.slice (some ⟨2, 0, none⟩) (List.length (boxW ks vs)) (List.length (boxW ks vs)))), (10, (.bool true)), (11, (.string (textAt (List.take n (List.drop (off - off) l)) 1 (kLen (List.getD (List.take n (List.drop (off - off) l)) 0 0))))), (12, (.string (textAt (List.take n (List.drop (off - off) l)) (1 + manyV (kLen (List.getD (List.take n (List.drop (off - off) l)) 0 0))) (vLen (List.getD (List.take n (List.drop (off - off) l)) 0 0))))), (13, (.string (textAt (List.take n (List.drop (off - off) l)) 1 (kLen (List.getD (List.take n (List.drop (off - off) l)) 0 0))))), (14, (.string (textAt (List.take n (List.drop (off - off) l)) (1 + manyV (kLen (List.getD (List.take n (List.drop (off - off) l)) 0 0))) (vLen (List.getD (List.take n (List.drop (off - off) l)) 0 0)))))]), ⟨3, 1, [(2, 0, .ints .u64 (boxW ks vs) 30 true), (1, 0, .ints .u64 (boxW ks vs) 30 true), (0, 0, .tail off .u64 l e)]⟩⟩
theorem LfR9 (ks : ByteArray) (vs : ByteArray) (off : Nat) (n : Nat) (c : Nat) (l : List Int) (e : TypeId) : LfEV boxW byteRV byteV headN isWb isWs kLen manyV sizeN textA textAt textR vLen withRV wordsA wordsR (codeAt [1, 1, 1, 1, 1, 0] BLf) (LfS7 boxW kLen manyV textAt vLen ks vs off n c l e) [0, 1, 2, 7, 8, 9, 10, 11, 12, 13, 14] =
  bif (Nat.ble off off) then
    bif (Nat.ble ((off - off) + n) (List.length l)) then
      bif ((Nat.ble (List.length (List.take n (List.drop (off - off) l))) 1000) && (isWs (List.take n (List.drop (off - off) l)))) then
        some (.normal, (LfS8 boxW kLen manyV textAt vLen ks vs off n c l e))
      else
        none
    else
      none
  else
    none := by kernel_rfl
noncomputable def LfS9 (ks : ByteArray) (vs : ByteArray) (off : Nat) (n : Nat) (c : Nat) (l : List Int) (e : TypeId) : KSt := ⟨(frameL 122 [(0, (.string ks)), (1, (.string vs)), (2, (.slice (some ⟨0, off, none⟩) n c)), (7, (.slice (some ⟨1, 0, none⟩) (List.length (boxW ks vs)) (List.length (boxW ks vs)))), (8, (.bool true)), (9, (.slice (some ⟨2, 0, none⟩) (List.length (boxW ks vs)) (List.length (boxW ks vs)))), (10, (.bool true)), (11, (.string (textAt (List.take n (List.drop (off - off) l)) 1 (kLen (List.getD (List.take n (List.drop (off - off) l)) 0 0))))), (12, (.string (textAt (List.take n (List.drop (off - off) l)) (1 + manyV (kLen (List.getD (List.take n (List.drop (off - off) l)) 0 0))) (vLen (List.getD (List.take n (List.drop (off - off) l)) 0 0))))), (13, (.string (textAt (List.take n (List.drop (off - off) l)) 1 (kLen (List.getD (List.take n (List.drop (off - off) l)) 0 0))))), (14, (.string (textAt (List.take n (List.drop (off - off) l)) (1 + manyV (kLen (List.getD (List.take n (List.drop (off - off) l)) 0 0))) (vLen (List.getD (List.take n (List.drop (off - off) l)) 0 0))))), (15, (.int .u64 (headN ks vs)))]), ⟨3, 1, [(2, 0, .ints .u64 (boxW ks vs) 30 true), (1, 0, .ints .u64 (boxW ks vs) 30 true), (0, 0, .tail off .u64 l e)]⟩⟩
theorem LfR10 (ks : ByteArray) (vs : ByteArray) (off : Nat) (n : Nat) (c : Nat) (l : List Int) (e : TypeId) : LfEV boxW byteRV byteV headN isWb isWs kLen manyV sizeN textA textAt textR vLen withRV wordsA wordsR (codeAt [1, 1, 1, 1, 1, 1, 0] BLf) (LfS8 boxW kLen manyV textAt vLen ks vs off n c l e) [0, 1, 2, 7, 8, 9, 10, 11, 12, 13, 14, 15] =
  bif ((Nat.ble (ByteArray.size ks) 100000) && (Nat.ble (ByteArray.size vs) 100000)) then
    some (.normal, (LfS9 boxW headN kLen manyV textAt vLen ks vs off n c l e))
  else
    none := by kernel_rfl
noncomputable def LfS10 (ks : ByteArray) (vs : ByteArray) (off : Nat) (n : Nat) (c : Nat) (l : List Int) (e : TypeId) : KSt := ⟨(frameL 122 [(0, (.string ks)), (1, (.string vs)), (2, (.slice (some ⟨0, off, none⟩) n c)), (7, (.slice (some ⟨1, 0, none⟩) (List.length (boxW ks vs)) (List.length (boxW ks vs)))), (8, (.bool true)), (9, (.slice (some ⟨2, 0, none⟩) (List.length (boxW ks vs)) (List.length (boxW ks vs)))), (10, (.bool true)), (11, (.string (textAt (List.take n (List.drop (off - off) l)) 1 (kLen (List.getD (List.take n (List.drop (off - off) l)) 0 0))))), (12, (.string (textAt (List.take n (List.drop (off - off) l)) (1 + manyV (kLen (List.getD (List.take n (List.drop (off - off) l)) 0 0))) (vLen (List.getD (List.take n (List.drop (off - off) l)) 0 0))))), (13, (.string (textAt (List.take n (List.drop (off - off) l)) 1 (kLen (List.getD (List.take n (List.drop (off - off) l)) 0 0))))), (14, (.string (textAt (List.take n (List.drop (off - off) l)) (1 + manyV (kLen (List.getD (List.take n (List.drop (off - off) l)) 0 0))) (vLen (List.getD (List.take n (List.drop (off - off) l)) 0 0))))), (15, (.int .u64 (headN ks vs))), (61, (.bool (decide (((n : Nat) : Int) > 0))))]), ⟨3, 1, [(2, 0, .ints .u64 (boxW ks vs) 30 true), (1, 0, .ints .u64 (boxW ks vs) 30 true), (0, 0, .tail off .u64 l e)]⟩⟩
theorem LfR11 (ks : ByteArray) (vs : ByteArray) (off : Nat) (n : Nat) (c : Nat) (l : List Int) (e : TypeId) : LfEV boxW byteRV byteV headN isWb isWs kLen manyV sizeN textA textAt textR vLen withRV wordsA wordsR (codeAt [1, 1, 1, 1, 1, 1, 1, 0, 0] BLf) (LfS9 boxW headN kLen manyV textAt vLen ks vs off n c l e) [0, 1, 2, 7, 8, 9, 10, 11, 12, 13, 14, 15, 61] =
  some (.normal, (LfS10 boxW headN kLen manyV textAt vLen ks vs off n c l e)) := by kernel_rfl
noncomputable def LfS11 (ks : ByteArray) (vs : ByteArray) (n : Nat) (off : Nat) (l : List Int) (e : TypeId) : KSt := ⟨(frameL 122 [(0, (.string ks)), (1, (.string vs)), (7, (.slice (some ⟨1, 0, none⟩) (List.length (boxW ks vs)) (List.length (boxW ks vs)))), (8, (.bool true)), (9, (.slice (some ⟨2, 0, none⟩) (List.length (boxW ks vs)) (List.length (boxW ks vs)))), (10, (.bool true)), (11, (.string (textAt (List.take n (List.drop (off - off) l)) 1 (kLen (List.getD (List.take n (List.drop (off - off) l)) 0 0))))), (12, (.string (textAt (List.take n (List.drop (off - off) l)) (1 + manyV (kLen (List.getD (List.take n (List.drop (off - off) l)) 0 0))) (vLen (List.getD (List.take n (List.drop (off - off) l)) 0 0))))), (13, (.string (textAt (List.take n (List.drop (off - off) l)) 1 (kLen (List.getD (List.take n (List.drop (off - off) l)) 0 0))))), (14, (.string (textAt (List.take n (List.drop (off - off) l)) (1 + manyV (kLen (List.getD (List.take n (List.drop (off - off) l)) 0 0))) (vLen (List.getD (List.take n (List.drop (off - off) l)) 0 0))))), (15, (.int .u64 (headN ks vs)))]), ⟨3, 1, [(2, 0, .ints .u64 (boxW ks vs) 30 true), (1, 0, .ints .u64 (boxW ks vs) 30 true), (0, 0, .tail off .u64 l e)]⟩⟩
theorem LfR12 (ks : ByteArray) (vs : ByteArray) (off : Nat) (n : Nat) (c : Nat) (l : List Int) (e : TypeId) : LfEV boxW byteRV byteV headN isWb isWs kLen manyV sizeN textA textAt textR vLen withRV wordsA wordsR (codeAt [1, 1, 1, 1, 1, 1, 1, 0, 1, 1] BLf) (LfS10 boxW headN kLen manyV textAt vLen ks vs off n c l e) [0, 1, 7, 8, 9, 10, 11, 12, 13, 14, 15] =
  some (.normal, (LfS11 boxW headN kLen manyV textAt vLen ks vs n off l e)) := by kernel_rfl
noncomputable def LfS12 (ks : ByteArray) (vs : ByteArray) (n : Nat) (off : Nat) (l : List Int) (e : TypeId) : KSt := ⟨(frameL 122 [(0, (.string ks)), (1, (.string vs)), (7, (.slice (some ⟨1, 0, none⟩) (List.length (boxW ks vs)) (List.length (boxW ks vs)))), (8, (.bool true)), (9, (.slice (some ⟨2, 0, none⟩) (List.length (boxW ks vs)) (List.length (boxW ks vs)))), (10, (.bool true)), (11, (.string (textAt (List.take n (List.drop (off - off) l)) 1 (kLen (List.getD (List.take n (List.drop (off - off) l)) 0 0))))), (12, (.string (textAt (List.take n (List.drop (off - off) l)) (1 + manyV (kLen (List.getD (List.take n (List.drop (off - off) l)) 0 0))) (vLen (List.getD (List.take n (List.drop (off - off) l)) 0 0))))), (13, (.string (textAt (List.take n (List.drop (off - off) l)) 1 (kLen (List.getD (List.take n (List.drop (off - off) l)) 0 0))))), (14, (.string (textAt (List.take n (List.drop (off - off) l)) (1 + manyV (kLen (List.getD (List.take n (List.drop (off - off) l)) 0 0))) (vLen (List.getD (List.take n (List.drop (off - off) l)) 0 0))))), (15, (.int .u64 (headN ks vs))), (16, (.int .i64 (kLen (headN ks vs)))), (17, (.int .i64 (vLen (headN ks vs))))]), ⟨3, 1, [(2, 0, .ints .u64 (boxW ks vs) 30 true), (1, 0, .ints .u64 (boxW ks vs) 30 true), (0, 0, .tail off .u64 l e)]⟩⟩
theorem LfR13 (ks : ByteArray) (vs : ByteArray) (n : Nat) (off : Nat) (l : List Int) (e : TypeId) : LfEV boxW byteRV byteV headN isWb isWs kLen manyV sizeN textA textAt textR vLen withRV wordsA wordsR (codeAt [1, 1, 1, 1, 1, 1, 1, 1, 0] BLf) (LfS11 boxW headN kLen manyV textAt vLen ks vs n off l e) [0, 1, 7, 8, 9, 10, 11, 12, 13, 14, 15, 16, 17] =
  bif (isWb (headN ks vs)) then
    some (.normal, (LfS12 boxW headN kLen manyV textAt vLen ks vs n off l e))
  else
    none := by kernel_rfl
noncomputable def LfS13 (ks : ByteArray) (vs : ByteArray) (n : Nat) (off : Nat) (l : List Int) (e : TypeId) : KSt := ⟨(frameL 122 [(0, (.string ks)), (1, (.string vs)), (7, (.slice (some ⟨1, 0, none⟩) (List.length (boxW ks vs)) (List.length (boxW ks vs)))), (8, (.bool true)), (9, (.slice (some ⟨2, 0, none⟩) (List.length (boxW ks vs)) (List.length (boxW ks vs)))), (10, (.bool true)), (11, (.string (textAt (List.take n (List.drop (off - off) l)) 1 (kLen (List.getD (List.take n (List.drop (off - off) l)) 0 0))))), (12, (.string (textAt (List.take n (List.drop (off - off) l)) (1 + manyV (kLen (List.getD (List.take n (List.drop (off - off) l)) 0 0))) (vLen (List.getD (List.take n (List.drop (off - off) l)) 0 0))))), (13, (.string (textAt (List.take n (List.drop (off - off) l)) 1 (kLen (List.getD (List.take n (List.drop (off - off) l)) 0 0))))), (14, (.string (textAt (List.take n (List.drop (off - off) l)) (1 + manyV (kLen (List.getD (List.take n (List.drop (off - off) l)) 0 0))) (vLen (List.getD (List.take n (List.drop (off - off) l)) 0 0))))), (15, (.int .u64 (headN ks vs))), (16, (.int .i64 (kLen (headN ks vs)))), (17, (.int .i64 (vLen (headN ks vs)))), (18, (.int .i64 (kLen (headN ks vs)))), (19, (.int .i64 (vLen (headN ks vs))))]), ⟨3, 1, [(2, 0, .ints .u64 (boxW ks vs) 30 true), (1, 0, .ints .u64 (boxW ks vs) 30 true), (0, 0, .tail off .u64 l e)]⟩⟩
theorem LfR14 (ks : ByteArray) (vs : ByteArray) (n : Nat) (off : Nat) (l : List Int) (e : TypeId) : LfEV boxW byteRV byteV headN isWb isWs kLen manyV sizeN textA textAt textR vLen withRV wordsA wordsR (codeAt [1, 1, 1, 1, 1, 1, 1, 1, 1, 0] BLf) (LfS12 boxW headN kLen manyV textAt vLen ks vs n off l e) [0, 1, 7, 8, 9, 10, 11, 12, 13, 14, 15, 16, 17, 18, 19] =
  bif (isWb (headN ks vs)) then
    some (.normal, (LfS13 boxW headN kLen manyV textAt vLen ks vs n off l e))
  else
    none := by kernel_rfl
noncomputable def LfS14 (off : Nat) (l : List Int) (e : TypeId) : KSt := ⟨(frameL 122 [(6, (.bool false))]), ⟨1, 1, [(0, 0, .tail off .u64 l e)]⟩⟩
theorem LfR15 (ks : ByteArray) (vs : ByteArray) (n : Nat) (off : Nat) (l : List Int) (e : TypeId) : LfEV boxW byteRV byteV headN isWb isWs kLen manyV sizeN textA textAt textR vLen withRV wordsA wordsR (codeAt [1, 1, 1, 1, 1, 1, 1, 1, 1, 1, 0] BLf) (LfS13 boxW headN kLen manyV textAt vLen ks vs n off l e) [6] =
  bif (Nat.ble (0 + (List.length (boxW ks vs))) (List.length (boxW ks vs))) then
    bif (Nat.ble (0 + (List.length (boxW ks vs))) (List.length (boxW ks vs))) then
      bif (Nat.ble (List.length (List.take (List.length (boxW ks vs)) (List.drop 0 (boxW ks vs)))) 100000) then
        bif (decide ((List.take (List.length (boxW ks vs)) (List.drop 0 (boxW ks vs))) = (List.take (List.length (boxW ks vs)) (List.drop 0 (boxW ks vs))))) then
          bif ((textAt (List.take n (List.drop (off - off) l)) 1 (kLen (List.getD (List.take n (List.drop (off - off) l)) 0 0))).toList == (textAt (List.take n (List.drop (off - off) l)) 1 (kLen (List.getD (List.take n (List.drop (off - off) l)) 0 0))).toList) then
            bif ((textAt (List.take n (List.drop (off - off) l)) (1 + manyV (kLen (List.getD (List.take n (List.drop (off - off) l)) 0 0))) (vLen (List.getD (List.take n (List.drop (off - off) l)) 0 0))).toList == (textAt (List.take n (List.drop (off - off) l)) (1 + manyV (kLen (List.getD (List.take n (List.drop (off - off) l)) 0 0))) (vLen (List.getD (List.take n (List.drop (off - off) l)) 0 0))).toList) then
              bif ((Nat.ble (ByteArray.size ks) 100000) && (Nat.ble (ByteArray.size vs) 100000)) then
                bif ((Nat.ble (ByteArray.size ks) 100000) && (Nat.ble (ByteArray.size vs) 100000)) then
                  bif ((headN ks vs) == (headN ks vs)) then
                    bif ((kLen (headN ks vs)) == (kLen (headN ks vs))) then
                      bif ((vLen (headN ks vs)) == (vLen (headN ks vs))) then
                        bif (isWb (headN ks vs)) then
                          bif (isWb (headN ks vs)) then
                            bif ((sizeN (headN ks vs)) == (sizeN (headN ks vs))) then
                              some (.normal, (LfS4 off l e))
                            else
                              some (.normal, (LfS14 off l e))
                          else
                            none
                        else
                          none
                      else
                        some (.normal, (LfS14 off l e))
                    else
                      some (.normal, (LfS14 off l e))
                  else
                    some (.normal, (LfS14 off l e))
                else
                  none
              else
                none
            else
              some (.normal, (LfS14 off l e))
          else
            some (.normal, (LfS14 off l e))
        else
          some (.normal, (LfS14 off l e))
      else
        none
    else
      none
  else
    none := by kernel_rfl
end
theorem Lfk {ks : ByteArray} {off : Nat} {l : List Int} {e : TypeId} {vs : ByteArray} {n : Nat} {c : Nat} (hk : 1000 < ks.size)   {Q : Ex → St → Prop} (hq : Q .ret (KSt.low (LfS4 off l e))) : Gets Try.prog (KH.low ⟨1, 1, [(0, 0, .tail off .u64 l e)]⟩) BLf (KSt.low (LfS0 ks vs off n c l e)) Q := by
  rw [LfC]; refine Gets.seq ?_
  refine Lfgo (LfR1 boxW byteRV byteV headN isWb isWs kLen manyV sizeN textA textAt textR vLen withRV wordsA wordsR ks vs off n c l e) ?_
  rw [LfC1]; refine Gets.seq ?_
  rw [LfC1_0]; refine Gets.seq ?_
  refine Lfgo (x := .normal) (s' := (LfS2 ks vs off n c l e)) ((LfR2 boxW byteRV byteV headN isWb isWs kLen manyV sizeN textA textAt textR vLen withRV wordsA wordsR ks vs off n c l e).trans (by rw [condT (decide_eq_true (by omega))])) ?_
  rw [LfC1_0_1]; refine Gets.cond true (by kernel_rfl) (by kernel_rfl) ?_; show Gets _ _ (codeAt [1, 0, 1, 0] BLf) _ _
  rw [LfC1_0_1_0]; refine Gets.seq ?_
  refine Lfgo (LfR3 boxW byteRV byteV headN isWb isWs kLen manyV sizeN textA textAt textR vLen withRV wordsA wordsR ks vs off n c l e) ?_
  rw [LfC1_0_1_0_1]; refine Gets.ev fitL5.mix fitL5.cfg (fitL5.sound wbxy_sound 14 0) 14 rfl (s' := KSt.low (LfS4 off l e)) (x := .ret) rfl ?_
  exact hq
theorem Lfv {ks : ByteArray} {vs : ByteArray} {off : Nat} {l : List Int} {e : TypeId} {n : Nat} {c : Nat} (hk : ks.size ≤ 1000) (hv : 1000 < vs.size)   {Q : Ex → St → Prop} (hq : Q .ret (KSt.low (LfS4 off l e))) : Gets Try.prog (KH.low ⟨1, 1, [(0, 0, .tail off .u64 l e)]⟩) BLf (KSt.low (LfS0 ks vs off n c l e)) Q := by
  rw [LfC]; refine Gets.seq ?_
  refine Lfgo (LfR1 boxW byteRV byteV headN isWb isWs kLen manyV sizeN textA textAt textR vLen withRV wordsA wordsR ks vs off n c l e) ?_
  rw [LfC1]; refine Gets.seq ?_
  rw [LfC1_0]; refine Gets.seq ?_
  refine Lfgo (x := .normal) (s' := (LfS2 ks vs off n c l e)) ((LfR2 boxW byteRV byteV headN isWb isWs kLen manyV sizeN textA textAt textR vLen withRV wordsA wordsR ks vs off n c l e).trans (by rw [condF (decide_eq_false (by omega)), condT (decide_eq_true (by omega))])) ?_
  rw [LfC1_0_1]; refine Gets.cond true (by kernel_rfl) (by kernel_rfl) ?_; show Gets _ _ (codeAt [1, 0, 1, 0] BLf) _ _
  rw [LfC1_0_1_0]; refine Gets.seq ?_
  refine Lfgo (LfR3 boxW byteRV byteV headN isWb isWs kLen manyV sizeN textA textAt textR vLen withRV wordsA wordsR ks vs off n c l e) ?_
  rw [LfC1_0_1_0_1]; refine Gets.ev fitL5.mix fitL5.cfg (fitL5.sound wbxy_sound 14 0) 14 rfl (s' := KSt.low (LfS4 off l e)) (x := .ret) rfl ?_
  exact hq
theorem Lfn {ks : ByteArray} {vs : ByteArray} {n : Nat} {off : Nat} {l : List Int} {e : TypeId} {c : Nat} (hk : ks.size ≤ 1000) (hv : vs.size ≤ 1000) (hn : 60 < n)   {Q : Ex → St → Prop} (hq : Q .ret (KSt.low (LfS4 off l e))) : Gets Try.prog (KH.low ⟨1, 1, [(0, 0, .tail off .u64 l e)]⟩) BLf (KSt.low (LfS0 ks vs off n c l e)) Q := by
  rw [LfC]; refine Gets.seq ?_
  refine Lfgo (LfR1 boxW byteRV byteV headN isWb isWs kLen manyV sizeN textA textAt textR vLen withRV wordsA wordsR ks vs off n c l e) ?_
  rw [LfC1]; refine Gets.seq ?_
  rw [LfC1_0]; refine Gets.seq ?_
  refine Lfgo (x := .normal) (s' := (LfS3 ks vs off n c l e)) ((LfR2 boxW byteRV byteV headN isWb isWs kLen manyV sizeN textA textAt textR vLen withRV wordsA wordsR ks vs off n c l e).trans (by rw [condF (decide_eq_false (by omega)), condF (decide_eq_false (by omega))])) ?_
  rw [LfC1_0_1]; refine Gets.cond true (by kernel_rfl) (LfeX (b := (decide (((n : Nat) : Int) > 60))) (by kernel_rfl) ((show (decide (((n : Nat) : Int) > 60)) = true from decide_eq_true (by omega)))) ?_; show Gets _ _ (codeAt [1, 0, 1, 0] BLf) _ _
  rw [LfC1_0_1_0]; refine Gets.seq ?_
  refine Lfgo (LfR4 boxW byteRV byteV headN isWb isWs kLen manyV sizeN textA textAt textR vLen withRV wordsA wordsR ks vs off n c l e) ?_
  rw [LfC1_0_1_0_1]; refine Gets.ev fitL5.mix fitL5.cfg (fitL5.sound wbxy_sound 14 0) 14 rfl (s' := KSt.low (LfS4 off l e)) (x := .ret) rfl ?_
  exact hq
theorem Lfm {ks : ByteArray} {vs : ByteArray} {n : Nat} {l : List Int} {c : Nat} {off : Nat} {e : TypeId} (hk : ks.size ≤ 1000) (hv : vs.size ≤ 1000) (hn : n ≤ 60) (hl : l.length = c) (hnc : n ≤ c) (hws : isWs (List.take n (List.drop (off - off) l)) = true) (h16 : ks.size ≤ 16) (h24 : vs.size ≤ 24) (hbl : (boxW ks vs).length ≤ 100) (hwh : isWb (headN ks vs) = true) (hn1 : n = 0)   {Q : Ex → St → Prop} (hq : Q .ret (KSt.low (LfS4 off l e))) : Gets Try.prog (KH.low ⟨1, 1, [(0, 0, .tail off .u64 l e)]⟩) BLf (KSt.low (LfS0 ks vs off n c l e)) Q := by
  rw [LfC]; refine Gets.seq ?_
  refine Lfgo (LfR1 boxW byteRV byteV headN isWb isWs kLen manyV sizeN textA textAt textR vLen withRV wordsA wordsR ks vs off n c l e) ?_
  rw [LfC1]; refine Gets.seq ?_
  rw [LfC1_0]; refine Gets.seq ?_
  refine Lfgo (x := .normal) (s' := (LfS3 ks vs off n c l e)) ((LfR2 boxW byteRV byteV headN isWb isWs kLen manyV sizeN textA textAt textR vLen withRV wordsA wordsR ks vs off n c l e).trans (by rw [condF (decide_eq_false (by omega)), condF (decide_eq_false (by omega))])) ?_
  rw [LfC1_0_1]; refine Gets.cond false (by kernel_rfl) (LfeX (b := (decide (((n : Nat) : Int) > 60))) (by kernel_rfl) ((show (decide (((n : Nat) : Int) > 60)) = false from decide_eq_false (by omega)))) ?_; show Gets _ _ (codeAt [1, 0, 1, 1] BLf) _ _
  refine Lfgo (LfR5 boxW byteRV byteV headN isWb isWs kLen manyV sizeN textA textAt textR vLen withRV wordsA wordsR ks vs off n c l e) ?_
  rw [LfC1_1]; refine Gets.seq ?_
  refine Lfgo (x := .normal) (s' := (LfS5 boxW ks vs off n c l e)) ((LfR6 boxW byteRV byteV headN isWb isWs kLen manyV sizeN textA textAt textR vLen withRV wordsA wordsR ks vs off n c l e).trans (by rw [condT (and_t (ble_t (by omega)) (ble_t (by omega)))])) ?_
  rw [LfC1_1_1]; refine Gets.seq ?_
  refine Lfgo (x := .normal) (s' := (LfS6 boxW ks vs off n c l e)) ((LfR7 boxW byteRV byteV headN isWb isWs kLen manyV sizeN textA textAt textR vLen withRV wordsA wordsR ks vs off n c l e).trans (by rw [condT (and_t (ble_t (by omega)) (ble_t (by omega)))])) ?_
  rw [LfC1_1_1_1]; refine Gets.seq ?_
  refine Lfgo (x := .normal) (s' := (LfS7 boxW kLen manyV textAt vLen ks vs off n c l e)) ((LfR8 boxW byteRV byteV headN isWb isWs kLen manyV sizeN textA textAt textR vLen withRV wordsA wordsR ks vs off n c l e).trans (by rw [condT (ble_t (by omega)), condT (ble_t (by (first | omega | ((try simp (disch := omega) only [wrap_i64_id]) <;> omega)))), condT (and_t (Nat.ble_eq_true_of_le (by simp; omega)) (hws))])) ?_
  rw [LfC1_1_1_1_1]; refine Gets.seq ?_
  refine Lfgo (x := .normal) (s' := (LfS8 boxW kLen manyV textAt vLen ks vs off n c l e)) ((LfR9 boxW byteRV byteV headN isWb isWs kLen manyV sizeN textA textAt textR vLen withRV wordsA wordsR ks vs off n c l e).trans (by rw [condT (ble_t (by omega)), condT (ble_t (by (first | omega | ((try simp (disch := omega) only [wrap_i64_id]) <;> omega)))), condT (and_t (Nat.ble_eq_true_of_le (by simp; omega)) (hws))])) ?_
  rw [LfC1_1_1_1_1_1]; refine Gets.seq ?_
  refine Lfgo (x := .normal) (s' := (LfS9 boxW headN kLen manyV textAt vLen ks vs off n c l e)) ((LfR10 boxW byteRV byteV headN isWb isWs kLen manyV sizeN textA textAt textR vLen withRV wordsA wordsR ks vs off n c l e).trans (by rw [condT (and_t (ble_t (by omega)) (ble_t (by omega)))])) ?_
  rw [LfC1_1_1_1_1_1_1]; refine Gets.seq ?_
  rw [LfC1_1_1_1_1_1_1_0]; refine Gets.seq ?_
  refine Lfgo (LfR11 boxW byteRV byteV headN isWb isWs kLen manyV sizeN textA textAt textR vLen withRV wordsA wordsR ks vs off n c l e) ?_
  rw [LfC1_1_1_1_1_1_1_0_1]; refine Gets.cond false (by kernel_rfl) (LfeX (b := (decide (((n : Nat) : Int) > 0))) (by kernel_rfl) ((show (decide (((n : Nat) : Int) > 0)) = false from decide_eq_false (by omega)))) ?_; show Gets _ _ (codeAt [1, 1, 1, 1, 1, 1, 1, 0, 1, 1] BLf) _ _
  refine Lfgo (LfR12 boxW byteRV byteV headN isWb isWs kLen manyV sizeN textA textAt textR vLen withRV wordsA wordsR ks vs off n c l e) ?_
  rw [LfC1_1_1_1_1_1_1_1]; refine Gets.seq ?_
  refine Lfgo (x := .normal) (s' := (LfS12 boxW headN kLen manyV textAt vLen ks vs n off l e)) ((LfR13 boxW byteRV byteV headN isWb isWs kLen manyV sizeN textA textAt textR vLen withRV wordsA wordsR ks vs n off l e).trans (by rw [condT (hwh)])) ?_
  rw [LfC1_1_1_1_1_1_1_1_1]; refine Gets.seq ?_
  refine Lfgo (x := .normal) (s' := (LfS13 boxW headN kLen manyV textAt vLen ks vs n off l e)) ((LfR14 boxW byteRV byteV headN isWb isWs kLen manyV sizeN textA textAt textR vLen withRV wordsA wordsR ks vs n off l e).trans (by rw [condT (hwh)])) ?_
  rw [LfC1_1_1_1_1_1_1_1_1_1]; refine Gets.seq ?_
  refine Lfgo (x := .normal) (s' := (LfS4 off l e)) ((LfR15 boxW byteRV byteV headN isWb isWs kLen manyV sizeN textA textAt textR vLen withRV wordsA wordsR ks vs n off l e).trans (by rw [condT (Nat.ble_eq_true_of_le (by omega)), condT (Nat.ble_eq_true_of_le (by omega)), condT (Nat.ble_eq_true_of_le (by rw [List.drop_zero, List.take_length]; omega)), condT (decide_eq_true rfl), condT (beq_self_eq_true _), condT (beq_self_eq_true _), condT (and_t (ble_t (by omega)) (ble_t (by omega))), condT (and_t (ble_t (by omega)) (ble_t (by omega))), condT (beq_self_eq_true _), condT (beq_self_eq_true _), condT (beq_self_eq_true _), condT (hwh), condT (hwh), condT (beq_self_eq_true _)])) ?_
  rw [LfC1_1_1_1_1_1_1_1_1_1_1]; refine Gets.ev fitL5.mix fitL5.cfg (fitL5.sound wbxy_sound 14 0) 14 rfl (s' := KSt.low (LfS4 off l e)) (x := .ret) rfl ?_
  exact hq
noncomputable def BLnh : Code := bodyOf Try.prog 6
theorem BLnh_is : Try.f6.body = some BLnh := by kernel_rfl
theorem BLnh_ok : okCode Try.prog.globals.size BLnh = true := by kernel_rfl
noncomputable abbrev LnhEV (byteRV : Int → Int → Int) (byteV : Int → Int → Int) (headN : ByteArray → ByteArray → Int) (isWb : Int → Bool) (isWs : List Int → Bool) (kLen : Int → Int) (manyV : Int → Int) (sizeN : Int → Int) (textA : List Int → Int → ByteArray × Bool) (textAt : List Int → Int → Int → ByteArray) (textR : List Int → Int → ByteArray × Bool) (vLen : Int → Int) (withRV : Int → Int → Int → Int) (wordsA : ByteArray → List Int) (wordsR : ByteArray → List Int) (c : Code) (s : KSt) (lv : List Nat) : Option (Ex × KSt) := evCK Try.prog cfgL5 (runK Try.prog cfgL5 fsL5 (conTk wbxnDom (rcK [] (wbxnT byteRV byteV headN isWb isWs kLen manyV sizeN textA textAt textR vLen withRV wordsA wordsR))) 14 40) 14 c s (normC 1 lv)
theorem Lnhgo {lv : List Nat} {c : Code} {s s' : KSt} {x : Ex} {Q : Ex → St → Prop} {off : Nat} {l : List Int} {e : TypeId} (h : LnhEV byteRV byteV headN isWb isWs kLen manyV sizeN textA textAt textR vLen withRV wordsA wordsR c s lv = some (x, s')) (hq : Q x s'.low) (hok : okCode Try.prog.globals.size c = true := by kernel_rfl) : Gets Try.prog (KH.low ⟨1, 1, [(0, 0, .tail off .u64 l e)]⟩) c s.low Q := Gets.ofN fitL5 wbxn_sound (rc_agree _ _ _) 14 40 hok h hq
theorem LnheX {v : Value} {b c : Bool} (h : v = .bool b) (hb : b = c) : v = .bool c := by rw [h, hb]
theorem LnhC : BLnh = .seq (codeAt [0] BLnh) (codeAt [1] BLnh) := by kernel_rfl
theorem LnhC1 : (codeAt [1] BLnh) = .seq (codeAt [1, 0] BLnh) (codeAt [1, 1] BLnh) := by kernel_rfl
theorem LnhC1_0 : (codeAt [1, 0] BLnh) = .seq (codeAt [1, 0, 0] BLnh) (codeAt [1, 0, 1] BLnh) := by kernel_rfl
theorem LnhC1_0_1 : (codeAt [1, 0, 1] BLnh) = .cond (.tmp 32) (codeAt [1, 0, 1, 0] BLnh) (codeAt [1, 0, 1, 1] BLnh) := by kernel_rfl
theorem LnhC1_1 : (codeAt [1, 1] BLnh) = .seq (codeAt [1, 1, 0] BLnh) (codeAt [1, 1, 1] BLnh) := by kernel_rfl
theorem LnhC1_1_1 : (codeAt [1, 1, 1] BLnh) = .seq (codeAt [1, 1, 1, 0] BLnh) (codeAt [1, 1, 1, 1] BLnh) := by kernel_rfl
theorem LnhC1_1_1_1 : (codeAt [1, 1, 1, 1] BLnh) = .seq (codeAt [1, 1, 1, 1, 0] BLnh) (codeAt [1, 1, 1, 1, 1] BLnh) := by kernel_rfl
theorem LnhC1_1_1_1_1 : (codeAt [1, 1, 1, 1, 1] BLnh) = .seq (codeAt [1, 1, 1, 1, 1, 0] BLnh) (codeAt [1, 1, 1, 1, 1, 1] BLnh) := by kernel_rfl
theorem LnhC1_1_1_1_1_1 : (codeAt [1, 1, 1, 1, 1, 1] BLnh) = .seq (codeAt [1, 1, 1, 1, 1, 1, 0] BLnh) (codeAt [1, 1, 1, 1, 1, 1, 1] BLnh) := by kernel_rfl
theorem LnhC1_1_1_1_1_1_1 : (codeAt [1, 1, 1, 1, 1, 1, 1] BLnh) = .seq (codeAt [1, 1, 1, 1, 1, 1, 1, 0] BLnh) (codeAt [1, 1, 1, 1, 1, 1, 1, 1] BLnh) := by kernel_rfl
theorem LnhC1_1_1_1_1_1_1_0 : (codeAt [1, 1, 1, 1, 1, 1, 1, 0] BLnh) = .seq (codeAt [1, 1, 1, 1, 1, 1, 1, 0, 0] BLnh) (codeAt [1, 1, 1, 1, 1, 1, 1, 0, 1] BLnh) := by kernel_rfl
theorem LnhC1_1_1_1_1_1_1_0_1 : (codeAt [1, 1, 1, 1, 1, 1, 1, 0, 1] BLnh) = .cond (.tmp 61) (codeAt [1, 1, 1, 1, 1, 1, 1, 0, 1, 0] BLnh) (codeAt [1, 1, 1, 1, 1, 1, 1, 0, 1, 1] BLnh) := by kernel_rfl
theorem LnhC1_1_1_1_1_1_1_1 : (codeAt [1, 1, 1, 1, 1, 1, 1, 1] BLnh) = .seq (codeAt [1, 1, 1, 1, 1, 1, 1, 1, 0] BLnh) (codeAt [1, 1, 1, 1, 1, 1, 1, 1, 1] BLnh) := by kernel_rfl
theorem LnhC1_1_1_1_1_1_1_1_1 : (codeAt [1, 1, 1, 1, 1, 1, 1, 1, 1] BLnh) = .seq (codeAt [1, 1, 1, 1, 1, 1, 1, 1, 1, 0] BLnh) (codeAt [1, 1, 1, 1, 1, 1, 1, 1, 1, 1] BLnh) := by kernel_rfl
theorem LnhC1_1_1_1_1_1_1_1_1_1 : (codeAt [1, 1, 1, 1, 1, 1, 1, 1, 1, 1] BLnh) = .seq (codeAt [1, 1, 1, 1, 1, 1, 1, 1, 1, 1, 0] BLnh) (codeAt [1, 1, 1, 1, 1, 1, 1, 1, 1, 1, 1] BLnh) := by kernel_rfl
theorem LnhC1_1_1_1_1_1_1_1_1_1_1 : (codeAt [1, 1, 1, 1, 1, 1, 1, 1, 1, 1, 1] BLnh) = .ret := by kernel_rfl
section
variable (byteRV : Int → Int → Int) (byteV : Int → Int → Int) (headN : ByteArray → ByteArray → Int) (isWb : Int → Bool) (isWs : List Int → Bool) (kLen : Int → Int) (manyV : Int → Int) (sizeN : Int → Int) (textA : List Int → Int → ByteArray × Bool) (textAt : List Int → Int → Int → ByteArray) (textR : List Int → Int → ByteArray × Bool) (vLen : Int → Int) (withRV : Int → Int → Int → Int) (wordsA : ByteArray → List Int) (wordsR : ByteArray → List Int)
noncomputable def LnhS0 (ks : ByteArray) (vs : ByteArray) (off : Nat) (n : Nat) (c : Nat) (l : List Int) (e : TypeId) : KSt := (firstK [(.string ks), (.string vs), (.slice (some ⟨0, off, none⟩) n c)] 122 ⟨1, 1, [(0, 0, .tail off .u64 l e)]⟩)
noncomputable def LnhS1 (ks : ByteArray) (vs : ByteArray) (off : Nat) (n : Nat) (c : Nat) (l : List Int) (e : TypeId) : KSt := ⟨(frameL 122 [(0, (.string ks)), (1, (.string vs)), (2, (.slice (some ⟨0, off, none⟩) n c))]), ⟨1, 1, [(0, 0, .tail off .u64 l e)]⟩⟩
theorem LnhR1 (ks : ByteArray) (vs : ByteArray) (off : Nat) (n : Nat) (c : Nat) (l : List Int) (e : TypeId) : LnhEV byteRV byteV headN isWb isWs kLen manyV sizeN textA textAt textR vLen withRV wordsA wordsR (codeAt [0] BLnh) (LnhS0 ks vs off n c l e) [0, 1, 2] =
  some (.normal, (LnhS1 ks vs off n c l e)) := by kernel_rfl
noncomputable def LnhS2 (ks : ByteArray) (vs : ByteArray) (off : Nat) (n : Nat) (c : Nat) (l : List Int) (e : TypeId) : KSt := ⟨(frameL 122 [(0, (.string ks)), (1, (.string vs)), (2, (.slice (some ⟨0, off, none⟩) n c)), (32, (.bool true))]), ⟨1, 1, [(0, 0, .tail off .u64 l e)]⟩⟩
noncomputable def LnhS3 (ks : ByteArray) (vs : ByteArray) (off : Nat) (n : Nat) (c : Nat) (l : List Int) (e : TypeId) : KSt := ⟨(frameL 122 [(0, (.string ks)), (1, (.string vs)), (2, (.slice (some ⟨0, off, none⟩) n c)), (32, (.bool (decide (((n : Nat) : Int) > 60))))]), ⟨1, 1, [(0, 0, .tail off .u64 l e)]⟩⟩
theorem LnhR2 (ks : ByteArray) (vs : ByteArray) (off : Nat) (n : Nat) (c : Nat) (l : List Int) (e : TypeId) : LnhEV byteRV byteV headN isWb isWs kLen manyV sizeN textA textAt textR vLen withRV wordsA wordsR (codeAt [1, 0, 0] BLnh) (LnhS1 ks vs off n c l e) [0, 1, 2, 32] =
  bif (decide ((((ByteArray.size ks) : Nat) : Int) > 1000)) then
    some (.normal, (LnhS2 ks vs off n c l e))
  else
    bif (decide ((((ByteArray.size vs) : Nat) : Int) > 1000)) then
      some (.normal, (LnhS2 ks vs off n c l e))
    else
      some (.normal, (LnhS3 ks vs off n c l e)) := by kernel_rfl
theorem LnhR3 (ks : ByteArray) (vs : ByteArray) (off : Nat) (n : Nat) (c : Nat) (l : List Int) (e : TypeId) : LnhEV byteRV byteV headN isWb isWs kLen manyV sizeN textA textAt textR vLen withRV wordsA wordsR (codeAt [1, 0, 1, 1] BLnh) (LnhS3 ks vs off n c l e) [0, 1, 2] =
  some (.normal, (LnhS1 ks vs off n c l e)) := by kernel_rfl
noncomputable def LnhS4 (ks : ByteArray) (vs : ByteArray) (off : Nat) (n : Nat) (c : Nat) (l : List Int) (e : TypeId) : KSt := ⟨(frameL 122 [(0, (.string ks)), (1, (.string vs)), (2, (.slice (some ⟨0, off, none⟩) n c)), (7, (.slice none 0 0)), (8, (.bool false))]), ⟨1, 1, [(0, 0, .tail off .u64 l e)]⟩⟩
theorem LnhR4 (ks : ByteArray) (vs : ByteArray) (off : Nat) (n : Nat) (c : Nat) (l : List Int) (e : TypeId) : LnhEV byteRV byteV headN isWb isWs kLen manyV sizeN textA textAt textR vLen withRV wordsA wordsR (codeAt [1, 1, 0] BLnh) (LnhS1 ks vs off n c l e) [0, 1, 2, 7, 8] =
  bif (!((Nat.ble (ByteArray.size ks) 16) && (Nat.ble (ByteArray.size vs) 24))) then
    some (.normal, (LnhS4 ks vs off n c l e))
  else
    none := by kernel_rfl
noncomputable def LnhS5 (ks : ByteArray) (vs : ByteArray) (off : Nat) (n : Nat) (c : Nat) (l : List Int) (e : TypeId) : KSt := ⟨(frameL 122 [(0, (.string ks)), (1, (.string vs)), (2, (.slice (some ⟨0, off, none⟩) n c)), (7, (.slice none 0 0)), (8, (.bool false)), (9, (.slice none 0 0)), (10, (.bool false))]), ⟨1, 1, [(0, 0, .tail off .u64 l e)]⟩⟩
theorem LnhR5 (ks : ByteArray) (vs : ByteArray) (off : Nat) (n : Nat) (c : Nat) (l : List Int) (e : TypeId) : LnhEV byteRV byteV headN isWb isWs kLen manyV sizeN textA textAt textR vLen withRV wordsA wordsR (codeAt [1, 1, 1, 0] BLnh) (LnhS4 ks vs off n c l e) [0, 1, 2, 7, 8, 9, 10] =
  bif (!((Nat.ble (ByteArray.size ks) 16) && (Nat.ble (ByteArray.size vs) 24))) then
    some (.normal, (LnhS5 ks vs off n c l e))
  else
    none := by kernel_rfl
noncomputable def LnhS6 (ks : ByteArray) (vs : ByteArray) (off : Nat) (n : Nat) (c : Nat) (l : List Int) (e : TypeId) : KSt := ⟨(frameL 122 [(0, (.string ks)), (1, (.string vs)), (2, (.slice (some ⟨0, off, none⟩) n c)), (7, (.slice none 0 0)), (8, (.bool false)), (9, (.slice none 0 0)), (10, (.bool false)), (11, (.string (textAt (List.take n (List.drop (off - off) l)) 1 (kLen (List.getD (List.take n (List.drop (off - off) l)) 0 0))))), (12, (.string (textAt (List.take n (List.drop (off - off) l)) (1 + manyV (kLen (List.getD (List.take n (List.drop (off - off) l)) 0 0))) (vLen (List.getD (List.take n (List.drop (off - off) l)) 0 0)))))]), ⟨1, 1, [(0, 0, .tail off .u64 l e)]⟩⟩
theorem LnhR6 (ks : ByteArray) (vs : ByteArray) (off : Nat) (n : Nat) (c : Nat) (l : List Int) (e : TypeId) : LnhEV byteRV byteV headN isWb isWs kLen manyV sizeN textA textAt textR vLen withRV wordsA wordsR (codeAt [1, 1, 1, 1, 0] BLnh) (LnhS5 ks vs off n c l e) [0, 1, 2, 7, 8, 9, 10, 11, 12] =
  bif (Nat.ble off off) then
    bif (Nat.ble ((off - off) + n) (List.length l)) then
      bif ((Nat.ble (List.length (List.take n (List.drop (off - off) l))) 1000) && (isWs (List.take n (List.drop (off - off) l)))) then
        some (.normal, (LnhS6 kLen manyV textAt vLen ks vs off n c l e))
      else
        none
    else
      none
  else
    none := by kernel_rfl
noncomputable def LnhS7 (ks : ByteArray) (vs : ByteArray) (off : Nat) (n : Nat) (c : Nat) (l : List Int) (e : TypeId) : KSt := ⟨(frameL 122 [(0, (.string ks)), (1, (.string vs)), (2, (.slice (some ⟨0, off, none⟩) n c)), (7, (.slice none 0 0)), (8, (.bool false)), (9, (.slice none 0 0)), (10, (.bool false)), (11, (.string (textAt (List.take n (List.drop (off - off) l)) 1 (kLen (List.getD (List.take n (List.drop (off - off) l)) 0 0))))), (12, (.string (textAt (List.take n (List.drop (off - off) l)) (1 + manyV (kLen (List.getD (List.take n (List.drop (off - off) l)) 0 0))) (vLen (List.getD (List.take n (List.drop (off - off) l)) 0 0))))), (13, (.string (textAt (List.take n (List.drop (off - off) l)) 1 (kLen (List.getD (List.take n (List.drop (off - off) l)) 0 0))))), (14, (.string (textAt (List.take n (List.drop (off - off) l)) (1 + manyV (kLen (List.getD (List.take n (List.drop (off - off) l)) 0 0))) (vLen (List.getD (List.take n (List.drop (off - off) l)) 0 0)))))]), ⟨1, 1, [(0, 0, .tail off .u64 l e)]⟩⟩
theorem LnhR7 (ks : ByteArray) (vs : ByteArray) (off : Nat) (n : Nat) (c : Nat) (l : List Int) (e : TypeId) : LnhEV byteRV byteV headN isWb isWs kLen manyV sizeN textA textAt textR vLen withRV wordsA wordsR (codeAt [1, 1, 1, 1, 1, 0] BLnh) (LnhS6 kLen manyV textAt vLen ks vs off n c l e) [0, 1, 2, 7, 8, 9, 10, 11, 12, 13, 14] =
  bif (Nat.ble off off) then
    bif (Nat.ble ((off - off) + n) (List.length l)) then
      bif ((Nat.ble (List.length (List.take n (List.drop (off - off) l))) 1000) && (isWs (List.take n (List.drop (off - off) l)))) then
        some (.normal, (LnhS7 kLen manyV textAt vLen ks vs off n c l e))
      else
        none
    else
      none
  else
    none := by kernel_rfl
noncomputable def LnhS8 (ks : ByteArray) (vs : ByteArray) (off : Nat) (n : Nat) (c : Nat) (l : List Int) (e : TypeId) : KSt := ⟨(frameL 122 [(0, (.string ks)), (1, (.string vs)), (2, (.slice (some ⟨0, off, none⟩) n c)), (7, (.slice none 0 0)), (8, (.bool false)), (9, (.slice none 0 0)), (10, (.bool false)), (11, (.string (textAt (List.take n (List.drop (off - off) l)) 1 (kLen (List.getD (List.take n (List.drop (off - off) l)) 0 0))))), (12, (.string (textAt (List.take n (List.drop (off - off) l)) (1 + manyV (kLen (List.getD (List.take n (List.drop (off - off) l)) 0 0))) (vLen (List.getD (List.take n (List.drop (off - off) l)) 0 0))))), (13, (.string (textAt (List.take n (List.drop (off - off) l)) 1 (kLen (List.getD (List.take n (List.drop (off - off) l)) 0 0))))), (14, (.string (textAt (List.take n (List.drop (off - off) l)) (1 + manyV (kLen (List.getD (List.take n (List.drop (off - off) l)) 0 0))) (vLen (List.getD (List.take n (List.drop (off - off) l)) 0 0))))), (15, (.int .u64 (headN ks vs)))]), ⟨1, 1, [(0, 0, .tail off .u64 l e)]⟩⟩
theorem LnhR8 (ks : ByteArray) (vs : ByteArray) (off : Nat) (n : Nat) (c : Nat) (l : List Int) (e : TypeId) : LnhEV byteRV byteV headN isWb isWs kLen manyV sizeN textA textAt textR vLen withRV wordsA wordsR (codeAt [1, 1, 1, 1, 1, 1, 0] BLnh) (LnhS7 kLen manyV textAt vLen ks vs off n c l e) [0, 1, 2, 7, 8, 9, 10, 11, 12, 13, 14, 15] =
  bif ((Nat.ble (ByteArray.size ks) 100000) && (Nat.ble (ByteArray.size vs) 100000)) then
    some (.normal, (LnhS8 headN kLen manyV textAt vLen ks vs off n c l e))
  else
    none := by kernel_rfl
noncomputable def LnhS9 (ks : ByteArray) (vs : ByteArray) (off : Nat) (n : Nat) (c : Nat) (l : List Int) (e : TypeId) : KSt := ⟨(frameL 122 [(0, (.string ks)), (1, (.string vs)), (2, (.slice (some ⟨0, off, none⟩) n c)), (7, (.slice none 0 0)), (8, (.bool false)), (9, (.slice none 0 0)), (10, (.bool false)), (11, (.string (textAt (List.take n (List.drop (off - off) l)) 1 (kLen (List.getD (List.take n (List.drop (off - off) l)) 0 0))))), (12, (.string (textAt (List.take n (List.drop (off - off) l)) (1 + manyV (kLen (List.getD (List.take n (List.drop (off - off) l)) 0 0))) (vLen (List.getD (List.take n (List.drop (off - off) l)) 0 0))))), (13, (.string (textAt (List.take n (List.drop (off - off) l)) 1 (kLen (List.getD (List.take n (List.drop (off - off) l)) 0 0))))), (14, (.string (textAt (List.take n (List.drop (off - off) l)) (1 + manyV (kLen (List.getD (List.take n (List.drop (off - off) l)) 0 0))) (vLen (List.getD (List.take n (List.drop (off - off) l)) 0 0))))), (15, (.int .u64 (headN ks vs))), (61, (.bool (decide (((n : Nat) : Int) > 0))))]), ⟨1, 1, [(0, 0, .tail off .u64 l e)]⟩⟩
theorem LnhR9 (ks : ByteArray) (vs : ByteArray) (off : Nat) (n : Nat) (c : Nat) (l : List Int) (e : TypeId) : LnhEV byteRV byteV headN isWb isWs kLen manyV sizeN textA textAt textR vLen withRV wordsA wordsR (codeAt [1, 1, 1, 1, 1, 1, 1, 0, 0] BLnh) (LnhS8 headN kLen manyV textAt vLen ks vs off n c l e) [0, 1, 2, 7, 8, 9, 10, 11, 12, 13, 14, 15, 61] =
  some (.normal, (LnhS9 headN kLen manyV textAt vLen ks vs off n c l e)) := by kernel_rfl
noncomputable def LnhS10 (ks : ByteArray) (vs : ByteArray) (n : Nat) (off : Nat) (l : List Int) (n1 : Int) (e : TypeId) : KSt := ⟨(frameL 122 [(0, (.string ks)), (1, (.string vs)), (7, (.slice none 0 0)), (8, (.bool false)), (9, (.slice none 0 0)), (10, (.bool false)), (11, (.string (textAt (List.take n (List.drop (off - off) l)) 1 (kLen (List.getD (List.take n (List.drop (off - off) l)) 0 0))))), (12, (.string (textAt (List.take n (List.drop (off - off) l)) (1 + manyV (kLen (List.getD (List.take n (List.drop (off - off) l)) 0 0))) (vLen (List.getD (List.take n (List.drop (off - off) l)) 0 0))))), (13, (.string (textAt (List.take n (List.drop (off - off) l)) 1 (kLen (List.getD (List.take n (List.drop (off - off) l)) 0 0))))), (14, (.string (textAt (List.take n (List.drop (off - off) l)) (1 + manyV (kLen (List.getD (List.take n (List.drop (off - off) l)) 0 0))) (vLen (List.getD (List.take n (List.drop (off - off) l)) 0 0))))), (15, (.int .u64 n1))]), ⟨1, 1, [(0, 0, .tail off .u64 l e)]⟩⟩
theorem LnhR10 (ks : ByteArray) (vs : ByteArray) (off : Nat) (n : Nat) (c : Nat) (l : List Int) (e : TypeId) : LnhEV byteRV byteV headN isWb isWs kLen manyV sizeN textA textAt textR vLen withRV wordsA wordsR (codeAt [1, 1, 1, 1, 1, 1, 1, 0, 1, 0] BLnh) (LnhS9 headN kLen manyV textAt vLen ks vs off n c l e) [0, 1, 7, 8, 9, 10, 11, 12, 13, 14, 15] =
  if (0 : Int) ≤ 0 ∧ 0 < ((n : Nat) : Int) then
    bif (Nat.ble off (off + 0)) then
      obind (l[((off + 0) - off)]?) fun n1 =>
        some (.normal, (LnhS10 kLen manyV textAt vLen ks vs n off l n1 e))
    else
      none
  else
    none := by kernel_rfl
noncomputable def LnhS11 (ks : ByteArray) (vs : ByteArray) (n : Nat) (off : Nat) (l : List Int) (e : TypeId) : KSt := ⟨(frameL 122 [(0, (.string ks)), (1, (.string vs)), (7, (.slice none 0 0)), (8, (.bool false)), (9, (.slice none 0 0)), (10, (.bool false)), (11, (.string (textAt (List.take n (List.drop (off - off) l)) 1 (kLen (List.getD (List.take n (List.drop (off - off) l)) 0 0))))), (12, (.string (textAt (List.take n (List.drop (off - off) l)) (1 + manyV (kLen (List.getD (List.take n (List.drop (off - off) l)) 0 0))) (vLen (List.getD (List.take n (List.drop (off - off) l)) 0 0))))), (13, (.string (textAt (List.take n (List.drop (off - off) l)) 1 (kLen (List.getD (List.take n (List.drop (off - off) l)) 0 0))))), (14, (.string (textAt (List.take n (List.drop (off - off) l)) (1 + manyV (kLen (List.getD (List.take n (List.drop (off - off) l)) 0 0))) (vLen (List.getD (List.take n (List.drop (off - off) l)) 0 0))))), (15, (.int .u64 (l.getD 0 0)))]), ⟨1, 1, [(0, 0, .tail off .u64 l e)]⟩⟩
noncomputable def LnhS12 (ks : ByteArray) (vs : ByteArray) (n : Nat) (off : Nat) (l : List Int) (e : TypeId) : KSt := ⟨(frameL 122 [(0, (.string ks)), (1, (.string vs)), (7, (.slice none 0 0)), (8, (.bool false)), (9, (.slice none 0 0)), (10, (.bool false)), (11, (.string (textAt (List.take n (List.drop (off - off) l)) 1 (kLen (List.getD (List.take n (List.drop (off - off) l)) 0 0))))), (12, (.string (textAt (List.take n (List.drop (off - off) l)) (1 + manyV (kLen (List.getD (List.take n (List.drop (off - off) l)) 0 0))) (vLen (List.getD (List.take n (List.drop (off - off) l)) 0 0))))), (13, (.string (textAt (List.take n (List.drop (off - off) l)) 1 (kLen (List.getD (List.take n (List.drop (off - off) l)) 0 0))))), (14, (.string (textAt (List.take n (List.drop (off - off) l)) (1 + manyV (kLen (List.getD (List.take n (List.drop (off - off) l)) 0 0))) (vLen (List.getD (List.take n (List.drop (off - off) l)) 0 0))))), (15, (.int .u64 (l.getD 0 0))), (16, (.int .i64 (kLen (l.getD 0 0)))), (17, (.int .i64 (vLen (l.getD 0 0))))]), ⟨1, 1, [(0, 0, .tail off .u64 l e)]⟩⟩
theorem LnhR11 (ks : ByteArray) (vs : ByteArray) (n : Nat) (off : Nat) (l : List Int) (e : TypeId) : LnhEV byteRV byteV headN isWb isWs kLen manyV sizeN textA textAt textR vLen withRV wordsA wordsR (codeAt [1, 1, 1, 1, 1, 1, 1, 1, 0] BLnh) (LnhS11 kLen manyV textAt vLen ks vs n off l e) [0, 1, 7, 8, 9, 10, 11, 12, 13, 14, 15, 16, 17] =
  bif (isWb (l.getD 0 0)) then
    some (.normal, (LnhS12 kLen manyV textAt vLen ks vs n off l e))
  else
    none := by kernel_rfl
noncomputable def LnhS13 (ks : ByteArray) (vs : ByteArray) (n : Nat) (off : Nat) (l : List Int) (e : TypeId) : KSt := ⟨(frameL 122 [(0, (.string ks)), (1, (.string vs)), (7, (.slice none 0 0)), (8, (.bool false)), (9, (.slice none 0 0)), (10, (.bool false)), (11, (.string (textAt (List.take n (List.drop (off - off) l)) 1 (kLen (List.getD (List.take n (List.drop (off - off) l)) 0 0))))), (12, (.string (textAt (List.take n (List.drop (off - off) l)) (1 + manyV (kLen (List.getD (List.take n (List.drop (off - off) l)) 0 0))) (vLen (List.getD (List.take n (List.drop (off - off) l)) 0 0))))), (13, (.string (textAt (List.take n (List.drop (off - off) l)) 1 (kLen (List.getD (List.take n (List.drop (off - off) l)) 0 0))))), (14, (.string (textAt (List.take n (List.drop (off - off) l)) (1 + manyV (kLen (List.getD (List.take n (List.drop (off - off) l)) 0 0))) (vLen (List.getD (List.take n (List.drop (off - off) l)) 0 0))))), (15, (.int .u64 (l.getD 0 0))), (16, (.int .i64 (kLen (l.getD 0 0)))), (17, (.int .i64 (vLen (l.getD 0 0)))), (18, (.int .i64 (kLen (l.getD 0 0)))), (19, (.int .i64 (vLen (l.getD 0 0))))]), ⟨1, 1, [(0, 0, .tail off .u64 l e)]⟩⟩
theorem LnhR12 (ks : ByteArray) (vs : ByteArray) (n : Nat) (off : Nat) (l : List Int) (e : TypeId) : LnhEV byteRV byteV headN isWb isWs kLen manyV sizeN textA textAt textR vLen withRV wordsA wordsR (codeAt [1, 1, 1, 1, 1, 1, 1, 1, 1, 0] BLnh) (LnhS12 kLen manyV textAt vLen ks vs n off l e) [0, 1, 7, 8, 9, 10, 11, 12, 13, 14, 15, 16, 17, 18, 19] =
  bif (isWb (l.getD 0 0)) then
    some (.normal, (LnhS13 kLen manyV textAt vLen ks vs n off l e))
  else
    none := by kernel_rfl
noncomputable def LnhS14 (off : Nat) (l : List Int) (e : TypeId) : KSt := ⟨(frameL 122 [(6, (.bool true))]), ⟨1, 1, [(0, 0, .tail off .u64 l e)]⟩⟩
noncomputable def LnhS15 (off : Nat) (l : List Int) (e : TypeId) : KSt := ⟨(frameL 122 [(6, (.bool false))]), ⟨1, 1, [(0, 0, .tail off .u64 l e)]⟩⟩
theorem LnhR13 (ks : ByteArray) (vs : ByteArray) (n : Nat) (off : Nat) (l : List Int) (e : TypeId) : LnhEV byteRV byteV headN isWb isWs kLen manyV sizeN textA textAt textR vLen withRV wordsA wordsR (codeAt [1, 1, 1, 1, 1, 1, 1, 1, 1, 1, 0] BLnh) (LnhS13 kLen manyV textAt vLen ks vs n off l e) [6] =
  bif (Nat.ble (List.length ([] : List Int)) 100000) then
    bif (decide (([] : List Int) = ([] : List Int))) then
      bif ((textAt (List.take n (List.drop (off - off) l)) 1 (kLen (List.getD (List.take n (List.drop (off - off) l)) 0 0))).toList == (textAt (List.take n (List.drop (off - off) l)) 1 (kLen (List.getD (List.take n (List.drop (off - off) l)) 0 0))).toList) then
        bif ((textAt (List.take n (List.drop (off - off) l)) (1 + manyV (kLen (List.getD (List.take n (List.drop (off - off) l)) 0 0))) (vLen (List.getD (List.take n (List.drop (off - off) l)) 0 0))).toList == (textAt (List.take n (List.drop (off - off) l)) (1 + manyV (kLen (List.getD (List.take n (List.drop (off - off) l)) 0 0))) (vLen (List.getD (List.take n (List.drop (off - off) l)) 0 0))).toList) then
          bif ((Nat.ble (ByteArray.size ks) 100000) && (Nat.ble (ByteArray.size vs) 100000)) then
            bif ((Nat.ble (ByteArray.size ks) 100000) && (Nat.ble (ByteArray.size vs) 100000)) then
              bif ((headN ks vs) == (headN ks vs)) then
                bif ((kLen (l.getD 0 0)) == (kLen (l.getD 0 0))) then
                  bif ((vLen (l.getD 0 0)) == (vLen (l.getD 0 0))) then
                    bif (isWb (l.getD 0 0)) then
                      bif (isWb (l.getD 0 0)) then
                        bif ((sizeN (l.getD 0 0)) == (sizeN (l.getD 0 0))) then
                          some (.normal, (LnhS14 off l e))
                        else
                          some (.normal, (LnhS15 off l e))
                      else
                        none
                    else
                      none
                  else
                    some (.normal, (LnhS15 off l e))
                else
                  some (.normal, (LnhS15 off l e))
              else
                some (.normal, (LnhS15 off l e))
            else
              none
          else
            none
        else
          some (.normal, (LnhS15 off l e))
      else
        some (.normal, (LnhS15 off l e))
    else
      some (.normal, (LnhS15 off l e))
  else
    none := by kernel_rfl
end
theorem Lnha {ks : ByteArray} {vs : ByteArray} {n : Nat} {l : List Int} {c : Nat} {off : Nat} {e : TypeId} (hk : ks.size ≤ 1000) (hv : vs.size ≤ 1000) (hn : n ≤ 60) (hl : l.length = c) (hnc : n ≤ c) (hws : isWs (List.take n (List.drop (off - off) l)) = true) (hwh : isWb (headN ks vs) = true) (hn1 : 1 ≤ n) (hw : isWb (l.getD 0 0) = true) (hno : 16 < ks.size)   {Q : Ex → St → Prop} (hq : Q .ret (KSt.low (LnhS14 off l e))) : Gets Try.prog (KH.low ⟨1, 1, [(0, 0, .tail off .u64 l e)]⟩) BLnh (KSt.low (LnhS0 ks vs off n c l e)) Q := by
  rw [LnhC]; refine Gets.seq ?_
  refine Lnhgo (LnhR1 byteRV byteV headN isWb isWs kLen manyV sizeN textA textAt textR vLen withRV wordsA wordsR ks vs off n c l e) ?_
  rw [LnhC1]; refine Gets.seq ?_
  rw [LnhC1_0]; refine Gets.seq ?_
  refine Lnhgo (x := .normal) (s' := (LnhS3 ks vs off n c l e)) ((LnhR2 byteRV byteV headN isWb isWs kLen manyV sizeN textA textAt textR vLen withRV wordsA wordsR ks vs off n c l e).trans (by rw [condF (decide_eq_false (by omega)), condF (decide_eq_false (by omega))])) ?_
  rw [LnhC1_0_1]; refine Gets.cond false (by kernel_rfl) (LnheX (b := (decide (((n : Nat) : Int) > 60))) (by kernel_rfl) ((show (decide (((n : Nat) : Int) > 60)) = false from decide_eq_false (by omega)))) ?_; show Gets _ _ (codeAt [1, 0, 1, 1] BLnh) _ _
  refine Lnhgo (LnhR3 byteRV byteV headN isWb isWs kLen manyV sizeN textA textAt textR vLen withRV wordsA wordsR ks vs off n c l e) ?_
  rw [LnhC1_1]; refine Gets.seq ?_
  refine Lnhgo (x := .normal) (s' := (LnhS4 ks vs off n c l e)) ((LnhR4 byteRV byteV headN isWb isWs kLen manyV sizeN textA textAt textR vLen withRV wordsA wordsR ks vs off n c l e).trans (by rw [condT (not_t (and_f1 (ble_f (by omega))))])) ?_
  rw [LnhC1_1_1]; refine Gets.seq ?_
  refine Lnhgo (x := .normal) (s' := (LnhS5 ks vs off n c l e)) ((LnhR5 byteRV byteV headN isWb isWs kLen manyV sizeN textA textAt textR vLen withRV wordsA wordsR ks vs off n c l e).trans (by rw [condT (not_t (and_f1 (ble_f (by omega))))])) ?_
  rw [LnhC1_1_1_1]; refine Gets.seq ?_
  refine Lnhgo (x := .normal) (s' := (LnhS6 kLen manyV textAt vLen ks vs off n c l e)) ((LnhR6 byteRV byteV headN isWb isWs kLen manyV sizeN textA textAt textR vLen withRV wordsA wordsR ks vs off n c l e).trans (by rw [condT (ble_t (by omega)), condT (ble_t (by (first | omega | ((try simp (disch := omega) only [wrap_i64_id]) <;> omega)))), condT (and_t (Nat.ble_eq_true_of_le (by simp; omega)) (hws))])) ?_
  rw [LnhC1_1_1_1_1]; refine Gets.seq ?_
  refine Lnhgo (x := .normal) (s' := (LnhS7 kLen manyV textAt vLen ks vs off n c l e)) ((LnhR7 byteRV byteV headN isWb isWs kLen manyV sizeN textA textAt textR vLen withRV wordsA wordsR ks vs off n c l e).trans (by rw [condT (ble_t (by omega)), condT (ble_t (by (first | omega | ((try simp (disch := omega) only [wrap_i64_id]) <;> omega)))), condT (and_t (Nat.ble_eq_true_of_le (by simp; omega)) (hws))])) ?_
  rw [LnhC1_1_1_1_1_1]; refine Gets.seq ?_
  refine Lnhgo (x := .normal) (s' := (LnhS8 headN kLen manyV textAt vLen ks vs off n c l e)) ((LnhR8 byteRV byteV headN isWb isWs kLen manyV sizeN textA textAt textR vLen withRV wordsA wordsR ks vs off n c l e).trans (by rw [condT (and_t (ble_t (by omega)) (ble_t (by omega)))])) ?_
  rw [LnhC1_1_1_1_1_1_1]; refine Gets.seq ?_
  rw [LnhC1_1_1_1_1_1_1_0]; refine Gets.seq ?_
  refine Lnhgo (LnhR9 byteRV byteV headN isWb isWs kLen manyV sizeN textA textAt textR vLen withRV wordsA wordsR ks vs off n c l e) ?_
  rw [LnhC1_1_1_1_1_1_1_0_1]; refine Gets.cond true (by kernel_rfl) (LnheX (b := (decide (((n : Nat) : Int) > 0))) (by kernel_rfl) ((show (decide (((n : Nat) : Int) > 0)) = true from decide_eq_true (by omega)))) ?_; show Gets _ _ (codeAt [1, 1, 1, 1, 1, 1, 1, 0, 1, 0] BLnh) _ _
  refine Lnhgo (x := .normal) (s' := (LnhS11 kLen manyV textAt vLen ks vs n off l e)) ((LnhR10 byteRV byteV headN isWb isWs kLen manyV sizeN textA textAt textR vLen withRV wordsA wordsR ks vs off n c l e).trans (by rw [if_pos (⟨by omega, by omega⟩), condT (ble_t (by omega)), obind_at (k := 0) (by omega) (by omega)] <;> rfl)) ?_
  rw [LnhC1_1_1_1_1_1_1_1]; refine Gets.seq ?_
  refine Lnhgo (x := .normal) (s' := (LnhS12 kLen manyV textAt vLen ks vs n off l e)) ((LnhR11 byteRV byteV headN isWb isWs kLen manyV sizeN textA textAt textR vLen withRV wordsA wordsR ks vs n off l e).trans (by rw [condT (hw)])) ?_
  rw [LnhC1_1_1_1_1_1_1_1_1]; refine Gets.seq ?_
  refine Lnhgo (x := .normal) (s' := (LnhS13 kLen manyV textAt vLen ks vs n off l e)) ((LnhR12 byteRV byteV headN isWb isWs kLen manyV sizeN textA textAt textR vLen withRV wordsA wordsR ks vs n off l e).trans (by rw [condT (hw)])) ?_
  rw [LnhC1_1_1_1_1_1_1_1_1_1]; refine Gets.seq ?_
  refine Lnhgo (x := .normal) (s' := (LnhS14 off l e)) ((LnhR13 byteRV byteV headN isWb isWs kLen manyV sizeN textA textAt textR vLen withRV wordsA wordsR ks vs n off l e).trans (by rw [condT (Nat.ble_eq_true_of_le (show List.length ([] : List Int) ≤ 100000 from Nat.zero_le _)), condT (decide_eq_true rfl), condT (beq_self_eq_true _), condT (beq_self_eq_true _), condT (and_t (ble_t (by omega)) (ble_t (by omega))), condT (and_t (ble_t (by omega)) (ble_t (by omega))), condT (beq_self_eq_true _), condT (beq_self_eq_true _), condT (beq_self_eq_true _), condT (hw), condT (hw), condT (beq_self_eq_true _)])) ?_
  rw [LnhC1_1_1_1_1_1_1_1_1_1_1]; refine Gets.ev fitL5.mix fitL5.cfg (fitL5.sound wbxn_sound 14 0) 14 rfl (s' := KSt.low (LnhS14 off l e)) (x := .ret) rfl ?_
  exact hq
theorem Lnhb {ks : ByteArray} {vs : ByteArray} {n : Nat} {l : List Int} {c : Nat} {off : Nat} {e : TypeId} (hk : ks.size ≤ 1000) (hv : vs.size ≤ 1000) (hn : n ≤ 60) (hl : l.length = c) (hnc : n ≤ c) (hws : isWs (List.take n (List.drop (off - off) l)) = true) (hwh : isWb (headN ks vs) = true) (hn1 : 1 ≤ n) (hw : isWb (l.getD 0 0) = true) (hno : ks.size ≤ 16) (hn2 : 24 < vs.size)   {Q : Ex → St → Prop} (hq : Q .ret (KSt.low (LnhS14 off l e))) : Gets Try.prog (KH.low ⟨1, 1, [(0, 0, .tail off .u64 l e)]⟩) BLnh (KSt.low (LnhS0 ks vs off n c l e)) Q := by
  rw [LnhC]; refine Gets.seq ?_
  refine Lnhgo (LnhR1 byteRV byteV headN isWb isWs kLen manyV sizeN textA textAt textR vLen withRV wordsA wordsR ks vs off n c l e) ?_
  rw [LnhC1]; refine Gets.seq ?_
  rw [LnhC1_0]; refine Gets.seq ?_
  refine Lnhgo (x := .normal) (s' := (LnhS3 ks vs off n c l e)) ((LnhR2 byteRV byteV headN isWb isWs kLen manyV sizeN textA textAt textR vLen withRV wordsA wordsR ks vs off n c l e).trans (by rw [condF (decide_eq_false (by omega)), condF (decide_eq_false (by omega))])) ?_
  rw [LnhC1_0_1]; refine Gets.cond false (by kernel_rfl) (LnheX (b := (decide (((n : Nat) : Int) > 60))) (by kernel_rfl) ((show (decide (((n : Nat) : Int) > 60)) = false from decide_eq_false (by omega)))) ?_; show Gets _ _ (codeAt [1, 0, 1, 1] BLnh) _ _
  refine Lnhgo (LnhR3 byteRV byteV headN isWb isWs kLen manyV sizeN textA textAt textR vLen withRV wordsA wordsR ks vs off n c l e) ?_
  rw [LnhC1_1]; refine Gets.seq ?_
  refine Lnhgo (x := .normal) (s' := (LnhS4 ks vs off n c l e)) ((LnhR4 byteRV byteV headN isWb isWs kLen manyV sizeN textA textAt textR vLen withRV wordsA wordsR ks vs off n c l e).trans (by rw [condT (not_t (and_f2 (ble_f (by omega))))])) ?_
  rw [LnhC1_1_1]; refine Gets.seq ?_
  refine Lnhgo (x := .normal) (s' := (LnhS5 ks vs off n c l e)) ((LnhR5 byteRV byteV headN isWb isWs kLen manyV sizeN textA textAt textR vLen withRV wordsA wordsR ks vs off n c l e).trans (by rw [condT (not_t (and_f2 (ble_f (by omega))))])) ?_
  rw [LnhC1_1_1_1]; refine Gets.seq ?_
  refine Lnhgo (x := .normal) (s' := (LnhS6 kLen manyV textAt vLen ks vs off n c l e)) ((LnhR6 byteRV byteV headN isWb isWs kLen manyV sizeN textA textAt textR vLen withRV wordsA wordsR ks vs off n c l e).trans (by rw [condT (ble_t (by omega)), condT (ble_t (by (first | omega | ((try simp (disch := omega) only [wrap_i64_id]) <;> omega)))), condT (and_t (Nat.ble_eq_true_of_le (by simp; omega)) (hws))])) ?_
  rw [LnhC1_1_1_1_1]; refine Gets.seq ?_
  refine Lnhgo (x := .normal) (s' := (LnhS7 kLen manyV textAt vLen ks vs off n c l e)) ((LnhR7 byteRV byteV headN isWb isWs kLen manyV sizeN textA textAt textR vLen withRV wordsA wordsR ks vs off n c l e).trans (by rw [condT (ble_t (by omega)), condT (ble_t (by (first | omega | ((try simp (disch := omega) only [wrap_i64_id]) <;> omega)))), condT (and_t (Nat.ble_eq_true_of_le (by simp; omega)) (hws))])) ?_
  rw [LnhC1_1_1_1_1_1]; refine Gets.seq ?_
  refine Lnhgo (x := .normal) (s' := (LnhS8 headN kLen manyV textAt vLen ks vs off n c l e)) ((LnhR8 byteRV byteV headN isWb isWs kLen manyV sizeN textA textAt textR vLen withRV wordsA wordsR ks vs off n c l e).trans (by rw [condT (and_t (ble_t (by omega)) (ble_t (by omega)))])) ?_
  rw [LnhC1_1_1_1_1_1_1]; refine Gets.seq ?_
  rw [LnhC1_1_1_1_1_1_1_0]; refine Gets.seq ?_
  refine Lnhgo (LnhR9 byteRV byteV headN isWb isWs kLen manyV sizeN textA textAt textR vLen withRV wordsA wordsR ks vs off n c l e) ?_
  rw [LnhC1_1_1_1_1_1_1_0_1]; refine Gets.cond true (by kernel_rfl) (LnheX (b := (decide (((n : Nat) : Int) > 0))) (by kernel_rfl) ((show (decide (((n : Nat) : Int) > 0)) = true from decide_eq_true (by omega)))) ?_; show Gets _ _ (codeAt [1, 1, 1, 1, 1, 1, 1, 0, 1, 0] BLnh) _ _
  refine Lnhgo (x := .normal) (s' := (LnhS11 kLen manyV textAt vLen ks vs n off l e)) ((LnhR10 byteRV byteV headN isWb isWs kLen manyV sizeN textA textAt textR vLen withRV wordsA wordsR ks vs off n c l e).trans (by rw [if_pos (⟨by omega, by omega⟩), condT (ble_t (by omega)), obind_at (k := 0) (by omega) (by omega)] <;> rfl)) ?_
  rw [LnhC1_1_1_1_1_1_1_1]; refine Gets.seq ?_
  refine Lnhgo (x := .normal) (s' := (LnhS12 kLen manyV textAt vLen ks vs n off l e)) ((LnhR11 byteRV byteV headN isWb isWs kLen manyV sizeN textA textAt textR vLen withRV wordsA wordsR ks vs n off l e).trans (by rw [condT (hw)])) ?_
  rw [LnhC1_1_1_1_1_1_1_1_1]; refine Gets.seq ?_
  refine Lnhgo (x := .normal) (s' := (LnhS13 kLen manyV textAt vLen ks vs n off l e)) ((LnhR12 byteRV byteV headN isWb isWs kLen manyV sizeN textA textAt textR vLen withRV wordsA wordsR ks vs n off l e).trans (by rw [condT (hw)])) ?_
  rw [LnhC1_1_1_1_1_1_1_1_1_1]; refine Gets.seq ?_
  refine Lnhgo (x := .normal) (s' := (LnhS14 off l e)) ((LnhR13 byteRV byteV headN isWb isWs kLen manyV sizeN textA textAt textR vLen withRV wordsA wordsR ks vs n off l e).trans (by rw [condT (Nat.ble_eq_true_of_le (show List.length ([] : List Int) ≤ 100000 from Nat.zero_le _)), condT (decide_eq_true rfl), condT (beq_self_eq_true _), condT (beq_self_eq_true _), condT (and_t (ble_t (by omega)) (ble_t (by omega))), condT (and_t (ble_t (by omega)) (ble_t (by omega))), condT (beq_self_eq_true _), condT (beq_self_eq_true _), condT (beq_self_eq_true _), condT (hw), condT (hw), condT (beq_self_eq_true _)])) ?_
  rw [LnhC1_1_1_1_1_1_1_1_1_1_1]; refine Gets.ev fitL5.mix fitL5.cfg (fitL5.sound wbxn_sound 14 0) 14 rfl (s' := KSt.low (LnhS14 off l e)) (x := .ret) rfl ?_
  exact hq
noncomputable def BLn : Code := bodyOf Try.prog 6
theorem BLn_is : Try.f6.body = some BLn := by kernel_rfl
theorem BLn_ok : okCode Try.prog.globals.size BLn = true := by kernel_rfl
noncomputable abbrev LnEV (byteRV : Int → Int → Int) (byteV : Int → Int → Int) (headN : ByteArray → ByteArray → Int) (isWb : Int → Bool) (isWs : List Int → Bool) (kLen : Int → Int) (manyV : Int → Int) (sizeN : Int → Int) (textA : List Int → Int → ByteArray × Bool) (textAt : List Int → Int → Int → ByteArray) (textR : List Int → Int → ByteArray × Bool) (vLen : Int → Int) (withRV : Int → Int → Int → Int) (wordsA : ByteArray → List Int) (wordsR : ByteArray → List Int) (c : Code) (s : KSt) (lv : List Nat) : Option (Ex × KSt) := evCK Try.prog cfgL5 (runK Try.prog cfgL5 fsL5 (conTk wbxnDom (rcK [] (wbxnT byteRV byteV headN isWb isWs kLen manyV sizeN textA textAt textR vLen withRV wordsA wordsR))) 14 40) 14 c s (normC 1 lv)
theorem Lngo {lv : List Nat} {c : Code} {s s' : KSt} {x : Ex} {Q : Ex → St → Prop} {off : Nat} {l : List Int} {e : TypeId} (h : LnEV byteRV byteV headN isWb isWs kLen manyV sizeN textA textAt textR vLen withRV wordsA wordsR c s lv = some (x, s')) (hq : Q x s'.low) (hok : okCode Try.prog.globals.size c = true := by kernel_rfl) : Gets Try.prog (KH.low ⟨1, 1, [(0, 0, .tail off .u64 l e)]⟩) c s.low Q := Gets.ofN fitL5 wbxn_sound (rc_agree _ _ _) 14 40 hok h hq
theorem LneX {v : Value} {b c : Bool} (h : v = .bool b) (hb : b = c) : v = .bool c := by rw [h, hb]
theorem LnC : BLn = .seq (codeAt [0] BLn) (codeAt [1] BLn) := by kernel_rfl
theorem LnC1 : (codeAt [1] BLn) = .seq (codeAt [1, 0] BLn) (codeAt [1, 1] BLn) := by kernel_rfl
theorem LnC1_0 : (codeAt [1, 0] BLn) = .seq (codeAt [1, 0, 0] BLn) (codeAt [1, 0, 1] BLn) := by kernel_rfl
theorem LnC1_0_1 : (codeAt [1, 0, 1] BLn) = .cond (.tmp 32) (codeAt [1, 0, 1, 0] BLn) (codeAt [1, 0, 1, 1] BLn) := by kernel_rfl
theorem LnC1_1 : (codeAt [1, 1] BLn) = .seq (codeAt [1, 1, 0] BLn) (codeAt [1, 1, 1] BLn) := by kernel_rfl
theorem LnC1_1_1 : (codeAt [1, 1, 1] BLn) = .seq (codeAt [1, 1, 1, 0] BLn) (codeAt [1, 1, 1, 1] BLn) := by kernel_rfl
theorem LnC1_1_1_1 : (codeAt [1, 1, 1, 1] BLn) = .seq (codeAt [1, 1, 1, 1, 0] BLn) (codeAt [1, 1, 1, 1, 1] BLn) := by kernel_rfl
theorem LnC1_1_1_1_1 : (codeAt [1, 1, 1, 1, 1] BLn) = .seq (codeAt [1, 1, 1, 1, 1, 0] BLn) (codeAt [1, 1, 1, 1, 1, 1] BLn) := by kernel_rfl
theorem LnC1_1_1_1_1_1 : (codeAt [1, 1, 1, 1, 1, 1] BLn) = .seq (codeAt [1, 1, 1, 1, 1, 1, 0] BLn) (codeAt [1, 1, 1, 1, 1, 1, 1] BLn) := by kernel_rfl
theorem LnC1_1_1_1_1_1_1 : (codeAt [1, 1, 1, 1, 1, 1, 1] BLn) = .seq (codeAt [1, 1, 1, 1, 1, 1, 1, 0] BLn) (codeAt [1, 1, 1, 1, 1, 1, 1, 1] BLn) := by kernel_rfl
theorem LnC1_1_1_1_1_1_1_0 : (codeAt [1, 1, 1, 1, 1, 1, 1, 0] BLn) = .seq (codeAt [1, 1, 1, 1, 1, 1, 1, 0, 0] BLn) (codeAt [1, 1, 1, 1, 1, 1, 1, 0, 1] BLn) := by kernel_rfl
theorem LnC1_1_1_1_1_1_1_0_1 : (codeAt [1, 1, 1, 1, 1, 1, 1, 0, 1] BLn) = .cond (.tmp 61) (codeAt [1, 1, 1, 1, 1, 1, 1, 0, 1, 0] BLn) (codeAt [1, 1, 1, 1, 1, 1, 1, 0, 1, 1] BLn) := by kernel_rfl
theorem LnC1_1_1_1_1_1_1_1 : (codeAt [1, 1, 1, 1, 1, 1, 1, 1] BLn) = .seq (codeAt [1, 1, 1, 1, 1, 1, 1, 1, 0] BLn) (codeAt [1, 1, 1, 1, 1, 1, 1, 1, 1] BLn) := by kernel_rfl
theorem LnC1_1_1_1_1_1_1_1_1 : (codeAt [1, 1, 1, 1, 1, 1, 1, 1, 1] BLn) = .seq (codeAt [1, 1, 1, 1, 1, 1, 1, 1, 1, 0] BLn) (codeAt [1, 1, 1, 1, 1, 1, 1, 1, 1, 1] BLn) := by kernel_rfl
theorem LnC1_1_1_1_1_1_1_1_1_1 : (codeAt [1, 1, 1, 1, 1, 1, 1, 1, 1, 1] BLn) = .seq (codeAt [1, 1, 1, 1, 1, 1, 1, 1, 1, 1, 0] BLn) (codeAt [1, 1, 1, 1, 1, 1, 1, 1, 1, 1, 1] BLn) := by kernel_rfl
theorem LnC1_1_1_1_1_1_1_1_1_1_1 : (codeAt [1, 1, 1, 1, 1, 1, 1, 1, 1, 1, 1] BLn) = .ret := by kernel_rfl
section
variable (byteRV : Int → Int → Int) (byteV : Int → Int → Int) (headN : ByteArray → ByteArray → Int) (isWb : Int → Bool) (isWs : List Int → Bool) (kLen : Int → Int) (manyV : Int → Int) (sizeN : Int → Int) (textA : List Int → Int → ByteArray × Bool) (textAt : List Int → Int → Int → ByteArray) (textR : List Int → Int → ByteArray × Bool) (vLen : Int → Int) (withRV : Int → Int → Int → Int) (wordsA : ByteArray → List Int) (wordsR : ByteArray → List Int)
noncomputable def LnS0 (ks : ByteArray) (vs : ByteArray) (off : Nat) (n : Nat) (c : Nat) (l : List Int) (e : TypeId) : KSt := (firstK [(.string ks), (.string vs), (.slice (some ⟨0, off, none⟩) n c)] 122 ⟨1, 1, [(0, 0, .tail off .u64 l e)]⟩)
noncomputable def LnS1 (ks : ByteArray) (vs : ByteArray) (off : Nat) (n : Nat) (c : Nat) (l : List Int) (e : TypeId) : KSt := ⟨(frameL 122 [(0, (.string ks)), (1, (.string vs)), (2, (.slice (some ⟨0, off, none⟩) n c))]), ⟨1, 1, [(0, 0, .tail off .u64 l e)]⟩⟩
theorem LnR1 (ks : ByteArray) (vs : ByteArray) (off : Nat) (n : Nat) (c : Nat) (l : List Int) (e : TypeId) : LnEV byteRV byteV headN isWb isWs kLen manyV sizeN textA textAt textR vLen withRV wordsA wordsR (codeAt [0] BLn) (LnS0 ks vs off n c l e) [0, 1, 2] =
  some (.normal, (LnS1 ks vs off n c l e)) := by kernel_rfl
noncomputable def LnS2 (ks : ByteArray) (vs : ByteArray) (off : Nat) (n : Nat) (c : Nat) (l : List Int) (e : TypeId) : KSt := ⟨(frameL 122 [(0, (.string ks)), (1, (.string vs)), (2, (.slice (some ⟨0, off, none⟩) n c)), (32, (.bool true))]), ⟨1, 1, [(0, 0, .tail off .u64 l e)]⟩⟩
noncomputable def LnS3 (ks : ByteArray) (vs : ByteArray) (off : Nat) (n : Nat) (c : Nat) (l : List Int) (e : TypeId) : KSt := ⟨(frameL 122 [(0, (.string ks)), (1, (.string vs)), (2, (.slice (some ⟨0, off, none⟩) n c)), (32, (.bool (decide (((n : Nat) : Int) > 60))))]), ⟨1, 1, [(0, 0, .tail off .u64 l e)]⟩⟩
theorem LnR2 (ks : ByteArray) (vs : ByteArray) (off : Nat) (n : Nat) (c : Nat) (l : List Int) (e : TypeId) : LnEV byteRV byteV headN isWb isWs kLen manyV sizeN textA textAt textR vLen withRV wordsA wordsR (codeAt [1, 0, 0] BLn) (LnS1 ks vs off n c l e) [0, 1, 2, 32] =
  bif (decide ((((ByteArray.size ks) : Nat) : Int) > 1000)) then
    some (.normal, (LnS2 ks vs off n c l e))
  else
    bif (decide ((((ByteArray.size vs) : Nat) : Int) > 1000)) then
      some (.normal, (LnS2 ks vs off n c l e))
    else
      some (.normal, (LnS3 ks vs off n c l e)) := by kernel_rfl
theorem LnR3 (ks : ByteArray) (vs : ByteArray) (off : Nat) (n : Nat) (c : Nat) (l : List Int) (e : TypeId) : LnEV byteRV byteV headN isWb isWs kLen manyV sizeN textA textAt textR vLen withRV wordsA wordsR (codeAt [1, 0, 1, 1] BLn) (LnS3 ks vs off n c l e) [0, 1, 2] =
  some (.normal, (LnS1 ks vs off n c l e)) := by kernel_rfl
noncomputable def LnS4 (ks : ByteArray) (vs : ByteArray) (off : Nat) (n : Nat) (c : Nat) (l : List Int) (e : TypeId) : KSt := ⟨(frameL 122 [(0, (.string ks)), (1, (.string vs)), (2, (.slice (some ⟨0, off, none⟩) n c)), (7, (.slice none 0 0)), (8, (.bool false))]), ⟨1, 1, [(0, 0, .tail off .u64 l e)]⟩⟩
theorem LnR4 (ks : ByteArray) (vs : ByteArray) (off : Nat) (n : Nat) (c : Nat) (l : List Int) (e : TypeId) : LnEV byteRV byteV headN isWb isWs kLen manyV sizeN textA textAt textR vLen withRV wordsA wordsR (codeAt [1, 1, 0] BLn) (LnS1 ks vs off n c l e) [0, 1, 2, 7, 8] =
  bif (!((Nat.ble (ByteArray.size ks) 16) && (Nat.ble (ByteArray.size vs) 24))) then
    some (.normal, (LnS4 ks vs off n c l e))
  else
    none := by kernel_rfl
noncomputable def LnS5 (ks : ByteArray) (vs : ByteArray) (off : Nat) (n : Nat) (c : Nat) (l : List Int) (e : TypeId) : KSt := ⟨(frameL 122 [(0, (.string ks)), (1, (.string vs)), (2, (.slice (some ⟨0, off, none⟩) n c)), (7, (.slice none 0 0)), (8, (.bool false)), (9, (.slice none 0 0)), (10, (.bool false))]), ⟨1, 1, [(0, 0, .tail off .u64 l e)]⟩⟩
theorem LnR5 (ks : ByteArray) (vs : ByteArray) (off : Nat) (n : Nat) (c : Nat) (l : List Int) (e : TypeId) : LnEV byteRV byteV headN isWb isWs kLen manyV sizeN textA textAt textR vLen withRV wordsA wordsR (codeAt [1, 1, 1, 0] BLn) (LnS4 ks vs off n c l e) [0, 1, 2, 7, 8, 9, 10] =
  bif (!((Nat.ble (ByteArray.size ks) 16) && (Nat.ble (ByteArray.size vs) 24))) then
    some (.normal, (LnS5 ks vs off n c l e))
  else
    none := by kernel_rfl
noncomputable def LnS6 (ks : ByteArray) (vs : ByteArray) (off : Nat) (n : Nat) (c : Nat) (l : List Int) (e : TypeId) : KSt := ⟨(frameL 122 [(0, (.string ks)), (1, (.string vs)), (2, (.slice (some ⟨0, off, none⟩) n c)), (7, (.slice none 0 0)), (8, (.bool false)), (9, (.slice none 0 0)), (10, (.bool false)), (11, (.string (textAt (List.take n (List.drop (off - off) l)) 1 (kLen (List.getD (List.take n (List.drop (off - off) l)) 0 0))))), (12, (.string (textAt (List.take n (List.drop (off - off) l)) (1 + manyV (kLen (List.getD (List.take n (List.drop (off - off) l)) 0 0))) (vLen (List.getD (List.take n (List.drop (off - off) l)) 0 0)))))]), ⟨1, 1, [(0, 0, .tail off .u64 l e)]⟩⟩
theorem LnR6 (ks : ByteArray) (vs : ByteArray) (off : Nat) (n : Nat) (c : Nat) (l : List Int) (e : TypeId) : LnEV byteRV byteV headN isWb isWs kLen manyV sizeN textA textAt textR vLen withRV wordsA wordsR (codeAt [1, 1, 1, 1, 0] BLn) (LnS5 ks vs off n c l e) [0, 1, 2, 7, 8, 9, 10, 11, 12] =
  bif (Nat.ble off off) then
    bif (Nat.ble ((off - off) + n) (List.length l)) then
      bif ((Nat.ble (List.length (List.take n (List.drop (off - off) l))) 1000) && (isWs (List.take n (List.drop (off - off) l)))) then
        some (.normal, (LnS6 kLen manyV textAt vLen ks vs off n c l e))
      else
        none
    else
      none
  else
    none := by kernel_rfl
noncomputable def LnS7 (ks : ByteArray) (vs : ByteArray) (off : Nat) (n : Nat) (c : Nat) (l : List Int) (e : TypeId) : KSt := ⟨(frameL 122 [(0, (.string ks)), (1, (.string vs)), (2, (.slice (some ⟨0, off, none⟩) n c)), (7, (.slice none 0 0)), (8, (.bool false)), (9, (.slice none 0 0)), (10, (.bool false)), (11, (.string (textAt (List.take n (List.drop (off - off) l)) 1 (kLen (List.getD (List.take n (List.drop (off - off) l)) 0 0))))), (12, (.string (textAt (List.take n (List.drop (off - off) l)) (1 + manyV (kLen (List.getD (List.take n (List.drop (off - off) l)) 0 0))) (vLen (List.getD (List.take n (List.drop (off - off) l)) 0 0))))), (13, (.string (textAt (List.take n (List.drop (off - off) l)) 1 (kLen (List.getD (List.take n (List.drop (off - off) l)) 0 0))))), (14, (.string (textAt (List.take n (List.drop (off - off) l)) (1 + manyV (kLen (List.getD (List.take n (List.drop (off - off) l)) 0 0))) (vLen (List.getD (List.take n (List.drop (off - off) l)) 0 0)))))]), ⟨1, 1, [(0, 0, .tail off .u64 l e)]⟩⟩
theorem LnR7 (ks : ByteArray) (vs : ByteArray) (off : Nat) (n : Nat) (c : Nat) (l : List Int) (e : TypeId) : LnEV byteRV byteV headN isWb isWs kLen manyV sizeN textA textAt textR vLen withRV wordsA wordsR (codeAt [1, 1, 1, 1, 1, 0] BLn) (LnS6 kLen manyV textAt vLen ks vs off n c l e) [0, 1, 2, 7, 8, 9, 10, 11, 12, 13, 14] =
  bif (Nat.ble off off) then
    bif (Nat.ble ((off - off) + n) (List.length l)) then
      bif ((Nat.ble (List.length (List.take n (List.drop (off - off) l))) 1000) && (isWs (List.take n (List.drop (off - off) l)))) then
        some (.normal, (LnS7 kLen manyV textAt vLen ks vs off n c l e))
      else
        none
    else
      none
  else
    none := by kernel_rfl
noncomputable def LnS8 (ks : ByteArray) (vs : ByteArray) (off : Nat) (n : Nat) (c : Nat) (l : List Int) (e : TypeId) : KSt := ⟨(frameL 122 [(0, (.string ks)), (1, (.string vs)), (2, (.slice (some ⟨0, off, none⟩) n c)), (7, (.slice none 0 0)), (8, (.bool false)), (9, (.slice none 0 0)), (10, (.bool false)), (11, (.string (textAt (List.take n (List.drop (off - off) l)) 1 (kLen (List.getD (List.take n (List.drop (off - off) l)) 0 0))))), (12, (.string (textAt (List.take n (List.drop (off - off) l)) (1 + manyV (kLen (List.getD (List.take n (List.drop (off - off) l)) 0 0))) (vLen (List.getD (List.take n (List.drop (off - off) l)) 0 0))))), (13, (.string (textAt (List.take n (List.drop (off - off) l)) 1 (kLen (List.getD (List.take n (List.drop (off - off) l)) 0 0))))), (14, (.string (textAt (List.take n (List.drop (off - off) l)) (1 + manyV (kLen (List.getD (List.take n (List.drop (off - off) l)) 0 0))) (vLen (List.getD (List.take n (List.drop (off - off) l)) 0 0))))), (15, (.int .u64 (headN ks vs)))]), ⟨1, 1, [(0, 0, .tail off .u64 l e)]⟩⟩
theorem LnR8 (ks : ByteArray) (vs : ByteArray) (off : Nat) (n : Nat) (c : Nat) (l : List Int) (e : TypeId) : LnEV byteRV byteV headN isWb isWs kLen manyV sizeN textA textAt textR vLen withRV wordsA wordsR (codeAt [1, 1, 1, 1, 1, 1, 0] BLn) (LnS7 kLen manyV textAt vLen ks vs off n c l e) [0, 1, 2, 7, 8, 9, 10, 11, 12, 13, 14, 15] =
  bif ((Nat.ble (ByteArray.size ks) 100000) && (Nat.ble (ByteArray.size vs) 100000)) then
    some (.normal, (LnS8 headN kLen manyV textAt vLen ks vs off n c l e))
  else
    none := by kernel_rfl
noncomputable def LnS9 (ks : ByteArray) (vs : ByteArray) (off : Nat) (n : Nat) (c : Nat) (l : List Int) (e : TypeId) : KSt := ⟨(frameL 122 [(0, (.string ks)), (1, (.string vs)), (2, (.slice (some ⟨0, off, none⟩) n c)), (7, (.slice none 0 0)), (8, (.bool false)), (9, (.slice none 0 0)), (10, (.bool false)), (11, (.string (textAt (List.take n (List.drop (off - off) l)) 1 (kLen (List.getD (List.take n (List.drop (off - off) l)) 0 0))))), (12, (.string (textAt (List.take n (List.drop (off - off) l)) (1 + manyV (kLen (List.getD (List.take n (List.drop (off - off) l)) 0 0))) (vLen (List.getD (List.take n (List.drop (off - off) l)) 0 0))))), (13, (.string (textAt (List.take n (List.drop (off - off) l)) 1 (kLen (List.getD (List.take n (List.drop (off - off) l)) 0 0))))), (14, (.string (textAt (List.take n (List.drop (off - off) l)) (1 + manyV (kLen (List.getD (List.take n (List.drop (off - off) l)) 0 0))) (vLen (List.getD (List.take n (List.drop (off - off) l)) 0 0))))), (15, (.int .u64 (headN ks vs))), (61, (.bool (decide (((n : Nat) : Int) > 0))))]), ⟨1, 1, [(0, 0, .tail off .u64 l e)]⟩⟩
theorem LnR9 (ks : ByteArray) (vs : ByteArray) (off : Nat) (n : Nat) (c : Nat) (l : List Int) (e : TypeId) : LnEV byteRV byteV headN isWb isWs kLen manyV sizeN textA textAt textR vLen withRV wordsA wordsR (codeAt [1, 1, 1, 1, 1, 1, 1, 0, 0] BLn) (LnS8 headN kLen manyV textAt vLen ks vs off n c l e) [0, 1, 2, 7, 8, 9, 10, 11, 12, 13, 14, 15, 61] =
  some (.normal, (LnS9 headN kLen manyV textAt vLen ks vs off n c l e)) := by kernel_rfl
noncomputable def LnS10 (ks : ByteArray) (vs : ByteArray) (n : Nat) (off : Nat) (l : List Int) (e : TypeId) : KSt := ⟨(frameL 122 [(0, (.string ks)), (1, (.string vs)), (7, (.slice none 0 0)), (8, (.bool false)), (9, (.slice none 0 0)), (10, (.bool false)), (11, (.string (textAt (List.take n (List.drop (off - off) l)) 1 (kLen (List.getD (List.take n (List.drop (off - off) l)) 0 0))))), (12, (.string (textAt (List.take n (List.drop (off - off) l)) (1 + manyV (kLen (List.getD (List.take n (List.drop (off - off) l)) 0 0))) (vLen (List.getD (List.take n (List.drop (off - off) l)) 0 0))))), (13, (.string (textAt (List.take n (List.drop (off - off) l)) 1 (kLen (List.getD (List.take n (List.drop (off - off) l)) 0 0))))), (14, (.string (textAt (List.take n (List.drop (off - off) l)) (1 + manyV (kLen (List.getD (List.take n (List.drop (off - off) l)) 0 0))) (vLen (List.getD (List.take n (List.drop (off - off) l)) 0 0))))), (15, (.int .u64 (headN ks vs)))]), ⟨1, 1, [(0, 0, .tail off .u64 l e)]⟩⟩
theorem LnR10 (ks : ByteArray) (vs : ByteArray) (off : Nat) (n : Nat) (c : Nat) (l : List Int) (e : TypeId) : LnEV byteRV byteV headN isWb isWs kLen manyV sizeN textA textAt textR vLen withRV wordsA wordsR (codeAt [1, 1, 1, 1, 1, 1, 1, 0, 1, 1] BLn) (LnS9 headN kLen manyV textAt vLen ks vs off n c l e) [0, 1, 7, 8, 9, 10, 11, 12, 13, 14, 15] =
  some (.normal, (LnS10 headN kLen manyV textAt vLen ks vs n off l e)) := by kernel_rfl
noncomputable def LnS11 (ks : ByteArray) (vs : ByteArray) (n : Nat) (off : Nat) (l : List Int) (e : TypeId) : KSt := ⟨(frameL 122 [(0, (.string ks)), (1, (.string vs)), (7, (.slice none 0 0)), (8, (.bool false)), (9, (.slice none 0 0)), (10, (.bool false)), (11, (.string (textAt (List.take n (List.drop (off - off) l)) 1 (kLen (List.getD (List.take n (List.drop (off - off) l)) 0 0))))), (12, (.string (textAt (List.take n (List.drop (off - off) l)) (1 + manyV (kLen (List.getD (List.take n (List.drop (off - off) l)) 0 0))) (vLen (List.getD (List.take n (List.drop (off - off) l)) 0 0))))), (13, (.string (textAt (List.take n (List.drop (off - off) l)) 1 (kLen (List.getD (List.take n (List.drop (off - off) l)) 0 0))))), (14, (.string (textAt (List.take n (List.drop (off - off) l)) (1 + manyV (kLen (List.getD (List.take n (List.drop (off - off) l)) 0 0))) (vLen (List.getD (List.take n (List.drop (off - off) l)) 0 0))))), (15, (.int .u64 (headN ks vs))), (16, (.int .i64 (kLen (headN ks vs)))), (17, (.int .i64 (vLen (headN ks vs))))]), ⟨1, 1, [(0, 0, .tail off .u64 l e)]⟩⟩
theorem LnR11 (ks : ByteArray) (vs : ByteArray) (n : Nat) (off : Nat) (l : List Int) (e : TypeId) : LnEV byteRV byteV headN isWb isWs kLen manyV sizeN textA textAt textR vLen withRV wordsA wordsR (codeAt [1, 1, 1, 1, 1, 1, 1, 1, 0] BLn) (LnS10 headN kLen manyV textAt vLen ks vs n off l e) [0, 1, 7, 8, 9, 10, 11, 12, 13, 14, 15, 16, 17] =
  bif (isWb (headN ks vs)) then
    some (.normal, (LnS11 headN kLen manyV textAt vLen ks vs n off l e))
  else
    none := by kernel_rfl
noncomputable def LnS12 (ks : ByteArray) (vs : ByteArray) (n : Nat) (off : Nat) (l : List Int) (e : TypeId) : KSt := ⟨(frameL 122 [(0, (.string ks)), (1, (.string vs)), (7, (.slice none 0 0)), (8, (.bool false)), (9, (.slice none 0 0)), (10, (.bool false)), (11, (.string (textAt (List.take n (List.drop (off - off) l)) 1 (kLen (List.getD (List.take n (List.drop (off - off) l)) 0 0))))), (12, (.string (textAt (List.take n (List.drop (off - off) l)) (1 + manyV (kLen (List.getD (List.take n (List.drop (off - off) l)) 0 0))) (vLen (List.getD (List.take n (List.drop (off - off) l)) 0 0))))), (13, (.string (textAt (List.take n (List.drop (off - off) l)) 1 (kLen (List.getD (List.take n (List.drop (off - off) l)) 0 0))))), (14, (.string (textAt (List.take n (List.drop (off - off) l)) (1 + manyV (kLen (List.getD (List.take n (List.drop (off - off) l)) 0 0))) (vLen (List.getD (List.take n (List.drop (off - off) l)) 0 0))))), (15, (.int .u64 (headN ks vs))), (16, (.int .i64 (kLen (headN ks vs)))), (17, (.int .i64 (vLen (headN ks vs)))), (18, (.int .i64 (kLen (headN ks vs)))), (19, (.int .i64 (vLen (headN ks vs))))]), ⟨1, 1, [(0, 0, .tail off .u64 l e)]⟩⟩
theorem LnR12 (ks : ByteArray) (vs : ByteArray) (n : Nat) (off : Nat) (l : List Int) (e : TypeId) : LnEV byteRV byteV headN isWb isWs kLen manyV sizeN textA textAt textR vLen withRV wordsA wordsR (codeAt [1, 1, 1, 1, 1, 1, 1, 1, 1, 0] BLn) (LnS11 headN kLen manyV textAt vLen ks vs n off l e) [0, 1, 7, 8, 9, 10, 11, 12, 13, 14, 15, 16, 17, 18, 19] =
  bif (isWb (headN ks vs)) then
    some (.normal, (LnS12 headN kLen manyV textAt vLen ks vs n off l e))
  else
    none := by kernel_rfl
noncomputable def LnS13 (off : Nat) (l : List Int) (e : TypeId) : KSt := ⟨(frameL 122 [(6, (.bool true))]), ⟨1, 1, [(0, 0, .tail off .u64 l e)]⟩⟩
noncomputable def LnS14 (off : Nat) (l : List Int) (e : TypeId) : KSt := ⟨(frameL 122 [(6, (.bool false))]), ⟨1, 1, [(0, 0, .tail off .u64 l e)]⟩⟩
theorem LnR13 (ks : ByteArray) (vs : ByteArray) (n : Nat) (off : Nat) (l : List Int) (e : TypeId) : LnEV byteRV byteV headN isWb isWs kLen manyV sizeN textA textAt textR vLen withRV wordsA wordsR (codeAt [1, 1, 1, 1, 1, 1, 1, 1, 1, 1, 0] BLn) (LnS12 headN kLen manyV textAt vLen ks vs n off l e) [6] =
  bif (Nat.ble (List.length ([] : List Int)) 100000) then
    bif (decide (([] : List Int) = ([] : List Int))) then
      bif ((textAt (List.take n (List.drop (off - off) l)) 1 (kLen (List.getD (List.take n (List.drop (off - off) l)) 0 0))).toList == (textAt (List.take n (List.drop (off - off) l)) 1 (kLen (List.getD (List.take n (List.drop (off - off) l)) 0 0))).toList) then
        bif ((textAt (List.take n (List.drop (off - off) l)) (1 + manyV (kLen (List.getD (List.take n (List.drop (off - off) l)) 0 0))) (vLen (List.getD (List.take n (List.drop (off - off) l)) 0 0))).toList == (textAt (List.take n (List.drop (off - off) l)) (1 + manyV (kLen (List.getD (List.take n (List.drop (off - off) l)) 0 0))) (vLen (List.getD (List.take n (List.drop (off - off) l)) 0 0))).toList) then
          bif ((Nat.ble (ByteArray.size ks) 100000) && (Nat.ble (ByteArray.size vs) 100000)) then
            bif ((Nat.ble (ByteArray.size ks) 100000) && (Nat.ble (ByteArray.size vs) 100000)) then
              bif ((headN ks vs) == (headN ks vs)) then
                bif ((kLen (headN ks vs)) == (kLen (headN ks vs))) then
                  bif ((vLen (headN ks vs)) == (vLen (headN ks vs))) then
                    bif (isWb (headN ks vs)) then
                      bif (isWb (headN ks vs)) then
                        bif ((sizeN (headN ks vs)) == (sizeN (headN ks vs))) then
                          some (.normal, (LnS13 off l e))
                        else
                          some (.normal, (LnS14 off l e))
                      else
                        none
                    else
                      none
                  else
                    some (.normal, (LnS14 off l e))
                else
                  some (.normal, (LnS14 off l e))
              else
                some (.normal, (LnS14 off l e))
            else
              none
          else
            none
        else
          some (.normal, (LnS14 off l e))
      else
        some (.normal, (LnS14 off l e))
    else
      some (.normal, (LnS14 off l e))
  else
    none := by kernel_rfl
end
theorem Lna {ks : ByteArray} {vs : ByteArray} {n : Nat} {l : List Int} {c : Nat} {off : Nat} {e : TypeId} (hk : ks.size ≤ 1000) (hv : vs.size ≤ 1000) (hn : n ≤ 60) (hl : l.length = c) (hnc : n ≤ c) (hws : isWs (List.take n (List.drop (off - off) l)) = true) (hwh : isWb (headN ks vs) = true) (hn1 : n = 0) (hno : 16 < ks.size)   {Q : Ex → St → Prop} (hq : Q .ret (KSt.low (LnS13 off l e))) : Gets Try.prog (KH.low ⟨1, 1, [(0, 0, .tail off .u64 l e)]⟩) BLn (KSt.low (LnS0 ks vs off n c l e)) Q := by
  rw [LnC]; refine Gets.seq ?_
  refine Lngo (LnR1 byteRV byteV headN isWb isWs kLen manyV sizeN textA textAt textR vLen withRV wordsA wordsR ks vs off n c l e) ?_
  rw [LnC1]; refine Gets.seq ?_
  rw [LnC1_0]; refine Gets.seq ?_
  refine Lngo (x := .normal) (s' := (LnS3 ks vs off n c l e)) ((LnR2 byteRV byteV headN isWb isWs kLen manyV sizeN textA textAt textR vLen withRV wordsA wordsR ks vs off n c l e).trans (by rw [condF (decide_eq_false (by omega)), condF (decide_eq_false (by omega))])) ?_
  rw [LnC1_0_1]; refine Gets.cond false (by kernel_rfl) (LneX (b := (decide (((n : Nat) : Int) > 60))) (by kernel_rfl) ((show (decide (((n : Nat) : Int) > 60)) = false from decide_eq_false (by omega)))) ?_; show Gets _ _ (codeAt [1, 0, 1, 1] BLn) _ _
  refine Lngo (LnR3 byteRV byteV headN isWb isWs kLen manyV sizeN textA textAt textR vLen withRV wordsA wordsR ks vs off n c l e) ?_
  rw [LnC1_1]; refine Gets.seq ?_
  refine Lngo (x := .normal) (s' := (LnS4 ks vs off n c l e)) ((LnR4 byteRV byteV headN isWb isWs kLen manyV sizeN textA textAt textR vLen withRV wordsA wordsR ks vs off n c l e).trans (by rw [condT (not_t (and_f1 (ble_f (by omega))))])) ?_
  rw [LnC1_1_1]; refine Gets.seq ?_
  refine Lngo (x := .normal) (s' := (LnS5 ks vs off n c l e)) ((LnR5 byteRV byteV headN isWb isWs kLen manyV sizeN textA textAt textR vLen withRV wordsA wordsR ks vs off n c l e).trans (by rw [condT (not_t (and_f1 (ble_f (by omega))))])) ?_
  rw [LnC1_1_1_1]; refine Gets.seq ?_
  refine Lngo (x := .normal) (s' := (LnS6 kLen manyV textAt vLen ks vs off n c l e)) ((LnR6 byteRV byteV headN isWb isWs kLen manyV sizeN textA textAt textR vLen withRV wordsA wordsR ks vs off n c l e).trans (by rw [condT (ble_t (by omega)), condT (ble_t (by (first | omega | ((try simp (disch := omega) only [wrap_i64_id]) <;> omega)))), condT (and_t (Nat.ble_eq_true_of_le (by simp; omega)) (hws))])) ?_
  rw [LnC1_1_1_1_1]; refine Gets.seq ?_
  refine Lngo (x := .normal) (s' := (LnS7 kLen manyV textAt vLen ks vs off n c l e)) ((LnR7 byteRV byteV headN isWb isWs kLen manyV sizeN textA textAt textR vLen withRV wordsA wordsR ks vs off n c l e).trans (by rw [condT (ble_t (by omega)), condT (ble_t (by (first | omega | ((try simp (disch := omega) only [wrap_i64_id]) <;> omega)))), condT (and_t (Nat.ble_eq_true_of_le (by simp; omega)) (hws))])) ?_
  rw [LnC1_1_1_1_1_1]; refine Gets.seq ?_
  refine Lngo (x := .normal) (s' := (LnS8 headN kLen manyV textAt vLen ks vs off n c l e)) ((LnR8 byteRV byteV headN isWb isWs kLen manyV sizeN textA textAt textR vLen withRV wordsA wordsR ks vs off n c l e).trans (by rw [condT (and_t (ble_t (by omega)) (ble_t (by omega)))])) ?_
  rw [LnC1_1_1_1_1_1_1]; refine Gets.seq ?_
  rw [LnC1_1_1_1_1_1_1_0]; refine Gets.seq ?_
  refine Lngo (LnR9 byteRV byteV headN isWb isWs kLen manyV sizeN textA textAt textR vLen withRV wordsA wordsR ks vs off n c l e) ?_
  rw [LnC1_1_1_1_1_1_1_0_1]; refine Gets.cond false (by kernel_rfl) (LneX (b := (decide (((n : Nat) : Int) > 0))) (by kernel_rfl) ((show (decide (((n : Nat) : Int) > 0)) = false from decide_eq_false (by omega)))) ?_; show Gets _ _ (codeAt [1, 1, 1, 1, 1, 1, 1, 0, 1, 1] BLn) _ _
  refine Lngo (LnR10 byteRV byteV headN isWb isWs kLen manyV sizeN textA textAt textR vLen withRV wordsA wordsR ks vs off n c l e) ?_
  rw [LnC1_1_1_1_1_1_1_1]; refine Gets.seq ?_
  refine Lngo (x := .normal) (s' := (LnS11 headN kLen manyV textAt vLen ks vs n off l e)) ((LnR11 byteRV byteV headN isWb isWs kLen manyV sizeN textA textAt textR vLen withRV wordsA wordsR ks vs n off l e).trans (by rw [condT (hwh)])) ?_
  rw [LnC1_1_1_1_1_1_1_1_1]; refine Gets.seq ?_
  refine Lngo (x := .normal) (s' := (LnS12 headN kLen manyV textAt vLen ks vs n off l e)) ((LnR12 byteRV byteV headN isWb isWs kLen manyV sizeN textA textAt textR vLen withRV wordsA wordsR ks vs n off l e).trans (by rw [condT (hwh)])) ?_
  rw [LnC1_1_1_1_1_1_1_1_1_1]; refine Gets.seq ?_
  refine Lngo (x := .normal) (s' := (LnS13 off l e)) ((LnR13 byteRV byteV headN isWb isWs kLen manyV sizeN textA textAt textR vLen withRV wordsA wordsR ks vs n off l e).trans (by rw [condT (Nat.ble_eq_true_of_le (show List.length ([] : List Int) ≤ 100000 from Nat.zero_le _)), condT (decide_eq_true rfl), condT (beq_self_eq_true _), condT (beq_self_eq_true _), condT (and_t (ble_t (by omega)) (ble_t (by omega))), condT (and_t (ble_t (by omega)) (ble_t (by omega))), condT (beq_self_eq_true _), condT (beq_self_eq_true _), condT (beq_self_eq_true _), condT (hwh), condT (hwh), condT (beq_self_eq_true _)])) ?_
  rw [LnC1_1_1_1_1_1_1_1_1_1_1]; refine Gets.ev fitL5.mix fitL5.cfg (fitL5.sound wbxn_sound 14 0) 14 rfl (s' := KSt.low (LnS13 off l e)) (x := .ret) rfl ?_
  exact hq
theorem Lnb {ks : ByteArray} {vs : ByteArray} {n : Nat} {l : List Int} {c : Nat} {off : Nat} {e : TypeId} (hk : ks.size ≤ 1000) (hv : vs.size ≤ 1000) (hn : n ≤ 60) (hl : l.length = c) (hnc : n ≤ c) (hws : isWs (List.take n (List.drop (off - off) l)) = true) (hwh : isWb (headN ks vs) = true) (hn1 : n = 0) (hno : ks.size ≤ 16) (hn2 : 24 < vs.size)   {Q : Ex → St → Prop} (hq : Q .ret (KSt.low (LnS13 off l e))) : Gets Try.prog (KH.low ⟨1, 1, [(0, 0, .tail off .u64 l e)]⟩) BLn (KSt.low (LnS0 ks vs off n c l e)) Q := by
  rw [LnC]; refine Gets.seq ?_
  refine Lngo (LnR1 byteRV byteV headN isWb isWs kLen manyV sizeN textA textAt textR vLen withRV wordsA wordsR ks vs off n c l e) ?_
  rw [LnC1]; refine Gets.seq ?_
  rw [LnC1_0]; refine Gets.seq ?_
  refine Lngo (x := .normal) (s' := (LnS3 ks vs off n c l e)) ((LnR2 byteRV byteV headN isWb isWs kLen manyV sizeN textA textAt textR vLen withRV wordsA wordsR ks vs off n c l e).trans (by rw [condF (decide_eq_false (by omega)), condF (decide_eq_false (by omega))])) ?_
  rw [LnC1_0_1]; refine Gets.cond false (by kernel_rfl) (LneX (b := (decide (((n : Nat) : Int) > 60))) (by kernel_rfl) ((show (decide (((n : Nat) : Int) > 60)) = false from decide_eq_false (by omega)))) ?_; show Gets _ _ (codeAt [1, 0, 1, 1] BLn) _ _
  refine Lngo (LnR3 byteRV byteV headN isWb isWs kLen manyV sizeN textA textAt textR vLen withRV wordsA wordsR ks vs off n c l e) ?_
  rw [LnC1_1]; refine Gets.seq ?_
  refine Lngo (x := .normal) (s' := (LnS4 ks vs off n c l e)) ((LnR4 byteRV byteV headN isWb isWs kLen manyV sizeN textA textAt textR vLen withRV wordsA wordsR ks vs off n c l e).trans (by rw [condT (not_t (and_f2 (ble_f (by omega))))])) ?_
  rw [LnC1_1_1]; refine Gets.seq ?_
  refine Lngo (x := .normal) (s' := (LnS5 ks vs off n c l e)) ((LnR5 byteRV byteV headN isWb isWs kLen manyV sizeN textA textAt textR vLen withRV wordsA wordsR ks vs off n c l e).trans (by rw [condT (not_t (and_f2 (ble_f (by omega))))])) ?_
  rw [LnC1_1_1_1]; refine Gets.seq ?_
  refine Lngo (x := .normal) (s' := (LnS6 kLen manyV textAt vLen ks vs off n c l e)) ((LnR6 byteRV byteV headN isWb isWs kLen manyV sizeN textA textAt textR vLen withRV wordsA wordsR ks vs off n c l e).trans (by rw [condT (ble_t (by omega)), condT (ble_t (by (first | omega | ((try simp (disch := omega) only [wrap_i64_id]) <;> omega)))), condT (and_t (Nat.ble_eq_true_of_le (by simp; omega)) (hws))])) ?_
  rw [LnC1_1_1_1_1]; refine Gets.seq ?_
  refine Lngo (x := .normal) (s' := (LnS7 kLen manyV textAt vLen ks vs off n c l e)) ((LnR7 byteRV byteV headN isWb isWs kLen manyV sizeN textA textAt textR vLen withRV wordsA wordsR ks vs off n c l e).trans (by rw [condT (ble_t (by omega)), condT (ble_t (by (first | omega | ((try simp (disch := omega) only [wrap_i64_id]) <;> omega)))), condT (and_t (Nat.ble_eq_true_of_le (by simp; omega)) (hws))])) ?_
  rw [LnC1_1_1_1_1_1]; refine Gets.seq ?_
  refine Lngo (x := .normal) (s' := (LnS8 headN kLen manyV textAt vLen ks vs off n c l e)) ((LnR8 byteRV byteV headN isWb isWs kLen manyV sizeN textA textAt textR vLen withRV wordsA wordsR ks vs off n c l e).trans (by rw [condT (and_t (ble_t (by omega)) (ble_t (by omega)))])) ?_
  rw [LnC1_1_1_1_1_1_1]; refine Gets.seq ?_
  rw [LnC1_1_1_1_1_1_1_0]; refine Gets.seq ?_
  refine Lngo (LnR9 byteRV byteV headN isWb isWs kLen manyV sizeN textA textAt textR vLen withRV wordsA wordsR ks vs off n c l e) ?_
  rw [LnC1_1_1_1_1_1_1_0_1]; refine Gets.cond false (by kernel_rfl) (LneX (b := (decide (((n : Nat) : Int) > 0))) (by kernel_rfl) ((show (decide (((n : Nat) : Int) > 0)) = false from decide_eq_false (by omega)))) ?_; show Gets _ _ (codeAt [1, 1, 1, 1, 1, 1, 1, 0, 1, 1] BLn) _ _
  refine Lngo (LnR10 byteRV byteV headN isWb isWs kLen manyV sizeN textA textAt textR vLen withRV wordsA wordsR ks vs off n c l e) ?_
  rw [LnC1_1_1_1_1_1_1_1]; refine Gets.seq ?_
  refine Lngo (x := .normal) (s' := (LnS11 headN kLen manyV textAt vLen ks vs n off l e)) ((LnR11 byteRV byteV headN isWb isWs kLen manyV sizeN textA textAt textR vLen withRV wordsA wordsR ks vs n off l e).trans (by rw [condT (hwh)])) ?_
  rw [LnC1_1_1_1_1_1_1_1_1]; refine Gets.seq ?_
  refine Lngo (x := .normal) (s' := (LnS12 headN kLen manyV textAt vLen ks vs n off l e)) ((LnR12 byteRV byteV headN isWb isWs kLen manyV sizeN textA textAt textR vLen withRV wordsA wordsR ks vs n off l e).trans (by rw [condT (hwh)])) ?_
  rw [LnC1_1_1_1_1_1_1_1_1_1]; refine Gets.seq ?_
  refine Lngo (x := .normal) (s' := (LnS13 off l e)) ((LnR13 byteRV byteV headN isWb isWs kLen manyV sizeN textA textAt textR vLen withRV wordsA wordsR ks vs n off l e).trans (by rw [condT (Nat.ble_eq_true_of_le (show List.length ([] : List Int) ≤ 100000 from Nat.zero_le _)), condT (decide_eq_true rfl), condT (beq_self_eq_true _), condT (beq_self_eq_true _), condT (and_t (ble_t (by omega)) (ble_t (by omega))), condT (and_t (ble_t (by omega)) (ble_t (by omega))), condT (beq_self_eq_true _), condT (beq_self_eq_true _), condT (beq_self_eq_true _), condT (hwh), condT (hwh), condT (beq_self_eq_true _)])) ?_
  rw [LnC1_1_1_1_1_1_1_1_1_1_1]; refine Gets.ev fitL5.mix fitL5.cfg (fitL5.sound wbxn_sound 14 0) 14 rfl (s' := KSt.low (LnS13 off l e)) (x := .ret) rfl ?_
  exact hq
noncomputable def BKf : Code := bodyOf Try.prog 6
theorem BKf_is : Try.f6.body = some BKf := by kernel_rfl
theorem BKf_ok : okCode Try.prog.globals.size BKf = true := by kernel_rfl
noncomputable abbrev KfEV (boxW : ByteArray → ByteArray → List Int) (byteRV : Int → Int → Int) (byteV : Int → Int → Int) (headN : ByteArray → ByteArray → Int) (isWb : Int → Bool) (isWs : List Int → Bool) (kLen : Int → Int) (manyV : Int → Int) (sizeN : Int → Int) (textA : List Int → Int → ByteArray × Bool) (textAt : List Int → Int → Int → ByteArray) (textR : List Int → Int → ByteArray × Bool) (vLen : Int → Int) (withRV : Int → Int → Int → Int) (wordsA : ByteArray → List Int) (wordsR : ByteArray → List Int) (c : Code) (s : KSt) (lv : List Nat) : Option (Ex × KSt) := evCK Try.prog cfgL5 (runK Try.prog cfgL5 fsL5 (conTk wbxyDom (rcK [] (wbxyT boxW byteRV byteV headN isWb isWs kLen manyV sizeN textA textAt textR vLen withRV wordsA wordsR))) 14 40) 14 c s (normC 0 lv)
theorem Kfgo {lv : List Nat} {c : Code} {s s' : KSt} {x : Ex} {Q : Ex → St → Prop} (h : KfEV boxW byteRV byteV headN isWb isWs kLen manyV sizeN textA textAt textR vLen withRV wordsA wordsR c s lv = some (x, s')) (hq : Q x s'.low) (hok : okCode Try.prog.globals.size c = true := by kernel_rfl) : Gets Try.prog (KH.low ⟨0, 1, []⟩) c s.low Q := Gets.ofN fitL5 wbxy_sound (rc_agree _ _ _) 14 40 hok h hq
theorem KfeX {v : Value} {b c : Bool} (h : v = .bool b) (hb : b = c) : v = .bool c := by rw [h, hb]
theorem KfC : BKf = .seq (codeAt [0] BKf) (codeAt [1] BKf) := by kernel_rfl
theorem KfC1 : (codeAt [1] BKf) = .seq (codeAt [1, 0] BKf) (codeAt [1, 1] BKf) := by kernel_rfl
theorem KfC1_0 : (codeAt [1, 0] BKf) = .seq (codeAt [1, 0, 0] BKf) (codeAt [1, 0, 1] BKf) := by kernel_rfl
theorem KfC1_0_1 : (codeAt [1, 0, 1] BKf) = .cond (.tmp 32) (codeAt [1, 0, 1, 0] BKf) (codeAt [1, 0, 1, 1] BKf) := by kernel_rfl
theorem KfC1_0_1_0 : (codeAt [1, 0, 1, 0] BKf) = .seq (codeAt [1, 0, 1, 0, 0] BKf) (codeAt [1, 0, 1, 0, 1] BKf) := by kernel_rfl
theorem KfC1_0_1_0_1 : (codeAt [1, 0, 1, 0, 1] BKf) = .ret := by kernel_rfl
theorem KfC1_1 : (codeAt [1, 1] BKf) = .seq (codeAt [1, 1, 0] BKf) (codeAt [1, 1, 1] BKf) := by kernel_rfl
theorem KfC1_1_1 : (codeAt [1, 1, 1] BKf) = .seq (codeAt [1, 1, 1, 0] BKf) (codeAt [1, 1, 1, 1] BKf) := by kernel_rfl
theorem KfC1_1_1_1 : (codeAt [1, 1, 1, 1] BKf) = .seq (codeAt [1, 1, 1, 1, 0] BKf) (codeAt [1, 1, 1, 1, 1] BKf) := by kernel_rfl
theorem KfC1_1_1_1_1 : (codeAt [1, 1, 1, 1, 1] BKf) = .seq (codeAt [1, 1, 1, 1, 1, 0] BKf) (codeAt [1, 1, 1, 1, 1, 1] BKf) := by kernel_rfl
theorem KfC1_1_1_1_1_1 : (codeAt [1, 1, 1, 1, 1, 1] BKf) = .seq (codeAt [1, 1, 1, 1, 1, 1, 0] BKf) (codeAt [1, 1, 1, 1, 1, 1, 1] BKf) := by kernel_rfl
theorem KfC1_1_1_1_1_1_1 : (codeAt [1, 1, 1, 1, 1, 1, 1] BKf) = .seq (codeAt [1, 1, 1, 1, 1, 1, 1, 0] BKf) (codeAt [1, 1, 1, 1, 1, 1, 1, 1] BKf) := by kernel_rfl
theorem KfC1_1_1_1_1_1_1_0 : (codeAt [1, 1, 1, 1, 1, 1, 1, 0] BKf) = .seq (codeAt [1, 1, 1, 1, 1, 1, 1, 0, 0] BKf) (codeAt [1, 1, 1, 1, 1, 1, 1, 0, 1] BKf) := by kernel_rfl
theorem KfC1_1_1_1_1_1_1_0_1 : (codeAt [1, 1, 1, 1, 1, 1, 1, 0, 1] BKf) = .cond (.tmp 61) (codeAt [1, 1, 1, 1, 1, 1, 1, 0, 1, 0] BKf) (codeAt [1, 1, 1, 1, 1, 1, 1, 0, 1, 1] BKf) := by kernel_rfl
theorem KfC1_1_1_1_1_1_1_1 : (codeAt [1, 1, 1, 1, 1, 1, 1, 1] BKf) = .seq (codeAt [1, 1, 1, 1, 1, 1, 1, 1, 0] BKf) (codeAt [1, 1, 1, 1, 1, 1, 1, 1, 1] BKf) := by kernel_rfl
theorem KfC1_1_1_1_1_1_1_1_1 : (codeAt [1, 1, 1, 1, 1, 1, 1, 1, 1] BKf) = .seq (codeAt [1, 1, 1, 1, 1, 1, 1, 1, 1, 0] BKf) (codeAt [1, 1, 1, 1, 1, 1, 1, 1, 1, 1] BKf) := by kernel_rfl
theorem KfC1_1_1_1_1_1_1_1_1_1 : (codeAt [1, 1, 1, 1, 1, 1, 1, 1, 1, 1] BKf) = .seq (codeAt [1, 1, 1, 1, 1, 1, 1, 1, 1, 1, 0] BKf) (codeAt [1, 1, 1, 1, 1, 1, 1, 1, 1, 1, 1] BKf) := by kernel_rfl
theorem KfC1_1_1_1_1_1_1_1_1_1_1 : (codeAt [1, 1, 1, 1, 1, 1, 1, 1, 1, 1, 1] BKf) = .ret := by kernel_rfl
section
variable (boxW : ByteArray → ByteArray → List Int) (byteRV : Int → Int → Int) (byteV : Int → Int → Int) (headN : ByteArray → ByteArray → Int) (isWb : Int → Bool) (isWs : List Int → Bool) (kLen : Int → Int) (manyV : Int → Int) (sizeN : Int → Int) (textA : List Int → Int → ByteArray × Bool) (textAt : List Int → Int → Int → ByteArray) (textR : List Int → Int → ByteArray × Bool) (vLen : Int → Int) (withRV : Int → Int → Int → Int) (wordsA : ByteArray → List Int) (wordsR : ByteArray → List Int)
noncomputable def KfS0 (ks : ByteArray) (vs : ByteArray) : KSt := (firstK [(.string ks), (.string vs), (.slice (some ⟨0, 0, some 0⟩) 0 0)] 122 ⟨0, 1, []⟩)
noncomputable def KfS1 (ks : ByteArray) (vs : ByteArray) : KSt := ⟨(frameL 122 [(0, (.string ks)), (1, (.string vs)), (2, (.slice (some ⟨0, 0, some 0⟩) 0 0))]), ⟨0, 1, []⟩⟩
theorem KfR1 (ks : ByteArray) (vs : ByteArray) : KfEV boxW byteRV byteV headN isWb isWs kLen manyV sizeN textA textAt textR vLen withRV wordsA wordsR (codeAt [0] BKf) (KfS0 ks vs) [0, 1, 2] =
  some (.normal, (KfS1 ks vs)) := by kernel_rfl
noncomputable def KfS2 (ks : ByteArray) (vs : ByteArray) : KSt := ⟨(frameL 122 [(0, (.string ks)), (1, (.string vs)), (2, (.slice (some ⟨0, 0, some 0⟩) 0 0)), (32, (.bool true))]), ⟨0, 1, []⟩⟩
noncomputable def KfS3 (ks : ByteArray) (vs : ByteArray) : KSt := ⟨(frameL 122 [(0, (.string ks)), (1, (.string vs)), (2, (.slice (some ⟨0, 0, some 0⟩) 0 0)), (32, (.bool false))]), ⟨0, 1, []⟩⟩
theorem KfR2 (ks : ByteArray) (vs : ByteArray) : KfEV boxW byteRV byteV headN isWb isWs kLen manyV sizeN textA textAt textR vLen withRV wordsA wordsR (codeAt [1, 0, 0] BKf) (KfS1 ks vs) [0, 1, 2, 32] =
  bif (decide ((((ByteArray.size ks) : Nat) : Int) > 1000)) then
    some (.normal, (KfS2 ks vs))
  else
    bif (decide ((((ByteArray.size vs) : Nat) : Int) > 1000)) then
      some (.normal, (KfS2 ks vs))
    else
      some (.normal, (KfS3 ks vs)) := by kernel_rfl
noncomputable def KfS4  : KSt := ⟨(frameL 122 [(6, (.bool true))]), ⟨0, 1, []⟩⟩
theorem KfR3 (ks : ByteArray) (vs : ByteArray) : KfEV boxW byteRV byteV headN isWb isWs kLen manyV sizeN textA textAt textR vLen withRV wordsA wordsR (codeAt [1, 0, 1, 0, 0] BKf) (KfS2 ks vs) [6] =
  some (.normal, KfS4) := by kernel_rfl
theorem KfR4 (ks : ByteArray) (vs : ByteArray) : KfEV boxW byteRV byteV headN isWb isWs kLen manyV sizeN textA textAt textR vLen withRV wordsA wordsR (codeAt [1, 0, 1, 1] BKf) (KfS3 ks vs) [0, 1, 2] =
  some (.normal, (KfS1 ks vs)) := by kernel_rfl
noncomputable def KfS5 (ks : ByteArray) (vs : ByteArray) : KSt := ⟨(frameL 122 [(0, (.string ks)), (1, (.string vs)), (2, (.slice (some ⟨0, 0, some 0⟩) 0 0)), (7, (.slice (some ⟨0, 0, none⟩) (List.length (boxW ks vs)) (List.length (boxW ks vs)))), (8, (.bool true))]), ⟨1, 1, [(0, 0, .ints .u64 (boxW ks vs) 30 true)]⟩⟩
theorem KfR5 (ks : ByteArray) (vs : ByteArray) : KfEV boxW byteRV byteV headN isWb isWs kLen manyV sizeN textA textAt textR vLen withRV wordsA wordsR (codeAt [1, 1, 0] BKf) (KfS1 ks vs) [0, 1, 2, 7, 8] =
  bif ((Nat.ble (ByteArray.size ks) 16) && (Nat.ble (ByteArray.size vs) 24)) then
    some (.normal, (KfS5 boxW ks vs))
  else
    none := by kernel_rfl
noncomputable def KfS6 (ks : ByteArray) (vs : ByteArray) : KSt := ⟨(frameL 122 [(0, (.string ks)), (1, (.string vs)), (2, (.slice (some ⟨0, 0, some 0⟩) 0 0)), (7, (.slice (some ⟨0, 0, none⟩) (List.length (boxW ks vs)) (List.length (boxW ks vs)))), (8, (.bool true)), (9, (.slice (some ⟨1, 0, none⟩) (List.length (boxW ks vs)) (List.length (boxW ks vs)))), (10, (.bool true))]), ⟨2, 1, [(1, 0, .ints .u64 (boxW ks vs) 30 true), (0, 0, .ints .u64 (boxW ks vs) 30 true)]⟩⟩
theorem KfR6 (ks : ByteArray) (vs : ByteArray) : KfEV boxW byteRV byteV headN isWb isWs kLen manyV sizeN textA textAt textR vLen withRV wordsA wordsR (codeAt [1, 1, 1, 0] BKf) (KfS5 boxW ks vs) [0, 1, 2, 7, 8, 9, 10] =
  bif ((Nat.ble (ByteArray.size ks) 16) && (Nat.ble (ByteArray.size vs) 24)) then
    some (.normal, (KfS6 boxW ks vs))
  else
    none := by kernel_rfl
noncomputable def KfS7 (ks : ByteArray) (vs : ByteArray) : KSt := ⟨(frameL 122 [(0, (.string ks)), (1, (.string vs)), (2, (.slice (some ⟨0, 0, some 0⟩) 0 0)), (7, (.slice (some ⟨0, 0, none⟩) (List.length (boxW ks vs)) (List.length (boxW ks vs)))), (8, (.bool true)), (9, (.slice (some ⟨1, 0, none⟩) (List.length (boxW ks vs)) (List.length (boxW ks vs)))), (10, (.bool true)), (11, (.string (textAt ([] : List Int) 1 (kLen (List.getD ([] : List Int) 0 0))))), (12, (.string (textAt ([] : List Int) (1 + manyV (kLen (List.getD ([] : List Int) 0 0))) (vLen (List.getD ([] : List Int) 0 0)))))]), ⟨2, 1, [(1, 0, .ints .u64 (boxW ks vs) 30 true), (0, 0, .ints .u64 (boxW ks vs) 30 true)]⟩⟩
theorem KfR7 (ks : ByteArray) (vs : ByteArray) : KfEV boxW byteRV byteV headN isWb isWs kLen manyV sizeN textA textAt textR vLen withRV wordsA wordsR (codeAt [1, 1, 1, 1, 0] BKf) (KfS6 boxW ks vs) [0, 1, 2, 7, 8, 9, 10, 11, 12] =
  bif ((Nat.ble (List.length ([] : List Int)) 1000) && (isWs ([] : List Int))) then
    some (.normal, (KfS7 boxW kLen manyV textAt vLen ks vs))
  else
    none := by kernel_rfl
noncomputable def KfS8 (ks : ByteArray) (vs : ByteArray) : KSt := ⟨(frameL 122 [(0, (.string ks)), (1, (.string vs)), (2, (.slice (some ⟨0, 0, some 0⟩) 0 0)), (7, (.slice (some ⟨0, 0, none⟩) (List.length (boxW ks vs)) (List.length (boxW ks vs)))), (8, (.bool true)), (9, (.slice (some ⟨1, 0, none⟩) (List.length (boxW ks vs)) (List.length (boxW ks vs)))), (10, (.bool true)), (11, (.string (textAt ([] : List Int) 1 (kLen (List.getD ([] : List Int) 0 0))))), (12, (.string (textAt ([] : List Int) (1 + manyV (kLen (List.getD ([] : List Int) 0 0))) (vLen (List.getD ([] : List Int) 0 0))))), (13, (.string (textAt ([] : List Int) 1 (kLen (List.getD ([] : List Int) 0 0))))), (14, (.string (textAt ([] : List Int) (1 + manyV (kLen (List.getD ([] : List Int) 0 0))) (vLen (List.getD ([] : List Int) 0 0)))))]), ⟨2, 1, [(1, 0, .ints .u64 (boxW ks vs) 30 true), (0, 0, .ints .u64 (boxW ks vs) 30 true)]⟩⟩
theorem KfR8 (ks : ByteArray) (vs : ByteArray) : KfEV boxW byteRV byteV headN isWb isWs kLen manyV sizeN textA textAt textR vLen withRV wordsA wordsR (codeAt [1, 1, 1, 1, 1, 0] BKf) (KfS7 boxW kLen manyV textAt vLen ks vs) [0, 1, 2, 7, 8, 9, 10, 11, 12, 13, 14] =
  bif ((Nat.ble (List.length ([] : List Int)) 1000) && (isWs ([] : List Int))) then
    some (.normal, (KfS8 boxW kLen manyV textAt vLen ks vs))
  else
    none := by kernel_rfl
noncomputable def KfS9 (ks : ByteArray) (vs : ByteArray) : KSt := ⟨(frameL 122 [(0, (.string ks)), (1, (.string vs)), (2, (.slice (some ⟨0, 0, some 0⟩) 0 0)), (7, (.slice (some ⟨0, 0, none⟩) (List.length (boxW ks vs)) (List.length (boxW ks vs)))), (8, (.bool true)), (9, (.slice (some ⟨1, 0, none⟩) (List.length (boxW ks vs)) (List.length (boxW ks vs)))), (10, (.bool true)), (11, (.string (textAt ([] : List Int) 1 (kLen (List.getD ([] : List Int) 0 0))))), (12, (.string (textAt ([] : List Int) (1 + manyV (kLen (List.getD ([] : List Int) 0 0))) (vLen (List.getD ([] : List Int) 0 0))))), (13, (.string (textAt ([] : List Int) 1 (kLen (List.getD ([] : List Int) 0 0))))), (14, (.string (textAt ([] : List Int) (1 + manyV (kLen (List.getD ([] : List Int) 0 0))) (vLen (List.getD ([] : List Int) 0 0))))), (15, (.int .u64 (headN ks vs)))]), ⟨2, 1, [(1, 0, .ints .u64 (boxW ks vs) 30 true), (0, 0, .ints .u64 (boxW ks vs) 30 true)]⟩⟩
theorem KfR9 (ks : ByteArray) (vs : ByteArray) : KfEV boxW byteRV byteV headN isWb isWs kLen manyV sizeN textA textAt textR vLen withRV wordsA wordsR (codeAt [1, 1, 1, 1, 1, 1, 0] BKf) (KfS8 boxW kLen manyV textAt vLen ks vs) [0, 1, 2, 7, 8, 9, 10, 11, 12, 13, 14, 15] =
  bif ((Nat.ble (ByteArray.size ks) 100000) && (Nat.ble (ByteArray.size vs) 100000)) then
    some (.normal, (KfS9 boxW headN kLen manyV textAt vLen ks vs))
  else
    none := by kernel_rfl
noncomputable def KfS10 (ks : ByteArray) (vs : ByteArray) : KSt := ⟨(frameL 122 [(0, (.string ks)), (1, (.string vs)), (2, (.slice (some ⟨0, 0, some 0⟩) 0 0)), (7, (.slice (some ⟨0, 0, none⟩) (List.length (boxW ks vs)) (List.length (boxW ks vs)))), (8, (.bool true)), (9, (.slice (some ⟨1, 0, none⟩) (List.length (boxW ks vs)) (List.length (boxW ks vs)))), (10, (.bool true)), (11, (.string (textAt ([] : List Int) 1 (kLen (List.getD ([] : List Int) 0 0))))), (12, (.string (textAt ([] : List Int) (1 + manyV (kLen (List.getD ([] : List Int) 0 0))) (vLen (List.getD ([] : List Int) 0 0))))), (13, (.string (textAt ([] : List Int) 1 (kLen (List.getD ([] : List Int) 0 0))))), (14, (.string (textAt ([] : List Int) (1 + manyV (kLen (List.getD ([] : List Int) 0 0))) (vLen (List.getD ([] : List Int) 0 0))))), (15, (.int .u64 (headN ks vs))), (61, (.bool false))]), ⟨2, 1, [(1, 0, .ints .u64 (boxW ks vs) 30 true), (0, 0, .ints .u64 (boxW ks vs) 30 true)]⟩⟩
theorem KfR10 (ks : ByteArray) (vs : ByteArray) : KfEV boxW byteRV byteV headN isWb isWs kLen manyV sizeN textA textAt textR vLen withRV wordsA wordsR (codeAt [1, 1, 1, 1, 1, 1, 1, 0, 0] BKf) (KfS9 boxW headN kLen manyV textAt vLen ks vs) [0, 1, 2, 7, 8, 9, 10, 11, 12, 13, 14, 15, 61] =
  some (.normal, (KfS10 boxW headN kLen manyV textAt vLen ks vs)) := by kernel_rfl
noncomputable def KfS11 (ks : ByteArray) (vs : ByteArray) : KSt := ⟨(frameL 122 [(0, (.string ks)), (1, (.string vs)), (7, (.slice (some ⟨0, 0, none⟩) (List.length (boxW ks vs)) (List.length (boxW ks vs)))), (8, (.bool true)), (9, (.slice (some ⟨1, 0, none⟩) (List.length (boxW ks vs)) (List.length (boxW ks vs)))), (10, (.bool true)), (11, (.string (textAt ([] : List Int) 1 (kLen (List.getD ([] : List Int) 0 0))))), (12, (.string (textAt ([] : List Int) (1 + manyV (kLen (List.getD ([] : List Int) 0 0))) (vLen (List.getD ([] : List Int) 0 0))))), (13, (.string (textAt ([] : List Int) 1 (kLen (List.getD ([] : List Int) 0 0))))), (14, (.string (textAt ([] : List Int) (1 + manyV (kLen (List.getD ([] : List Int) 0 0))) (vLen (List.getD ([] : List Int) 0 0))))), (15, (.int .u64 (headN ks vs)))]), ⟨2, 1, [(1, 0, .ints .u64 (boxW ks vs) 30 true), (0, 0, .ints .u64 (boxW ks vs) 30 true)]⟩⟩
theorem KfR11 (ks : ByteArray) (vs : ByteArray) : KfEV boxW byteRV byteV headN isWb isWs kLen manyV sizeN textA textAt textR vLen withRV wordsA wordsR (codeAt [1, 1, 1, 1, 1, 1, 1, 0, 1, 1] BKf) (KfS10 boxW headN kLen manyV textAt vLen ks vs) [0, 1, 7, 8, 9, 10, 11, 12, 13, 14, 15] =
  some (.normal, (KfS11 boxW headN kLen manyV textAt vLen ks vs)) := by kernel_rfl
noncomputable def KfS12 (ks : ByteArray) (vs : ByteArray) : KSt := ⟨(frameL 122 [(0, (.string ks)), (1, (.string vs)), (7, (.slice (some ⟨0, 0, none⟩) (List.length (boxW ks vs)) (List.length (boxW ks vs)))), (8, (.bool true)), (9, (.slice (some ⟨1, 0, none⟩) (List.length (boxW ks vs)) (List.length (boxW ks vs)))), (10, (.bool true)), (11, (.string (textAt ([] : List Int) 1 (kLen (List.getD ([] : List Int) 0 0))))), (12, (.string (textAt ([] : List Int) (1 + manyV (kLen (List.getD ([] : List Int) 0 0))) (vLen (List.getD ([] : List Int) 0 0))))), (13, (.string (textAt ([] : List Int) 1 (kLen (List.getD ([] : List Int) 0 0))))), (14, (.string (textAt ([] : List Int) (1 + manyV (kLen (List.getD ([] : List Int) 0 0))) (vLen (List.getD ([] : List Int) 0 0))))), (15, (.int .u64 (headN ks vs))), (16, (.int .i64 (kLen (headN ks vs)))), (17, (.int .i64 (vLen (headN ks vs))))]), ⟨2, 1, [(1, 0, .ints .u64 (boxW ks vs) 30 true), (0, 0, .ints .u64 (boxW ks vs) 30 true)]⟩⟩
theorem KfR12 (ks : ByteArray) (vs : ByteArray) : KfEV boxW byteRV byteV headN isWb isWs kLen manyV sizeN textA textAt textR vLen withRV wordsA wordsR (codeAt [1, 1, 1, 1, 1, 1, 1, 1, 0] BKf) (KfS11 boxW headN kLen manyV textAt vLen ks vs) [0, 1, 7, 8, 9, 10, 11, 12, 13, 14, 15, 16, 17] =
  bif (isWb (headN ks vs)) then
    some (.normal, (KfS12 boxW headN kLen manyV textAt vLen ks vs))
  else
    none := by kernel_rfl
noncomputable def KfS13 (ks : ByteArray) (vs : ByteArray) : KSt := ⟨(frameL 122 [(0, (.string ks)), (1, (.string vs)), (7, (.slice (some ⟨0, 0, none⟩) (List.length (boxW ks vs)) (List.length (boxW ks vs)))), (8, (.bool true)), (9, (.slice (some ⟨1, 0, none⟩) (List.length (boxW ks vs)) (List.length (boxW ks vs)))), (10, (.bool true)), (11, (.string (textAt ([] : List Int) 1 (kLen (List.getD ([] : List Int) 0 0))))), (12, (.string (textAt ([] : List Int) (1 + manyV (kLen (List.getD ([] : List Int) 0 0))) (vLen (List.getD ([] : List Int) 0 0))))), (13, (.string (textAt ([] : List Int) 1 (kLen (List.getD ([] : List Int) 0 0))))), (14, (.string (textAt ([] : List Int) (1 + manyV (kLen (List.getD ([] : List Int) 0 0))) (vLen (List.getD ([] : List Int) 0 0))))), (15, (.int .u64 (headN ks vs))), (16, (.int .i64 (kLen (headN ks vs)))), (17, (.int .i64 (vLen (headN ks vs)))), (18, (.int .i64 (kLen (headN ks vs)))), (19, (.int .i64 (vLen (headN ks vs))))]), ⟨2, 1, [(1, 0, .ints .u64 (boxW ks vs) 30 true), (0, 0, .ints .u64 (boxW ks vs) 30 true)]⟩⟩
theorem KfR13 (ks : ByteArray) (vs : ByteArray) : KfEV boxW byteRV byteV headN isWb isWs kLen manyV sizeN textA textAt textR vLen withRV wordsA wordsR (codeAt [1, 1, 1, 1, 1, 1, 1, 1, 1, 0] BKf) (KfS12 boxW headN kLen manyV textAt vLen ks vs) [0, 1, 7, 8, 9, 10, 11, 12, 13, 14, 15, 16, 17, 18, 19] =
  bif (isWb (headN ks vs)) then
    some (.normal, (KfS13 boxW headN kLen manyV textAt vLen ks vs))
  else
    none := by kernel_rfl
noncomputable def KfS14  : KSt := ⟨(frameL 122 [(6, (.bool false))]), ⟨0, 1, []⟩⟩
theorem KfR14 (ks : ByteArray) (vs : ByteArray) : KfEV boxW byteRV byteV headN isWb isWs kLen manyV sizeN textA textAt textR vLen withRV wordsA wordsR (codeAt [1, 1, 1, 1, 1, 1, 1, 1, 1, 1, 0] BKf) (KfS13 boxW headN kLen manyV textAt vLen ks vs) [6] =
  bif (Nat.ble (0 + (List.length (boxW ks vs))) (List.length (boxW ks vs))) then
    bif (Nat.ble (0 + (List.length (boxW ks vs))) (List.length (boxW ks vs))) then
      bif (Nat.ble (List.length (List.take (List.length (boxW ks vs)) (List.drop 0 (boxW ks vs)))) 100000) then
        bif (decide ((List.take (List.length (boxW ks vs)) (List.drop 0 (boxW ks vs))) = (List.take (List.length (boxW ks vs)) (List.drop 0 (boxW ks vs))))) then
          bif ((textAt ([] : List Int) 1 (kLen (List.getD ([] : List Int) 0 0))).toList == (textAt ([] : List Int) 1 (kLen (List.getD ([] : List Int) 0 0))).toList) then
            bif ((textAt ([] : List Int) (1 + manyV (kLen (List.getD ([] : List Int) 0 0))) (vLen (List.getD ([] : List Int) 0 0))).toList == (textAt ([] : List Int) (1 + manyV (kLen (List.getD ([] : List Int) 0 0))) (vLen (List.getD ([] : List Int) 0 0))).toList) then
              bif ((Nat.ble (ByteArray.size ks) 100000) && (Nat.ble (ByteArray.size vs) 100000)) then
                bif ((Nat.ble (ByteArray.size ks) 100000) && (Nat.ble (ByteArray.size vs) 100000)) then
                  bif ((headN ks vs) == (headN ks vs)) then
                    bif ((kLen (headN ks vs)) == (kLen (headN ks vs))) then
                      bif ((vLen (headN ks vs)) == (vLen (headN ks vs))) then
                        bif (isWb (headN ks vs)) then
                          bif (isWb (headN ks vs)) then
                            bif ((sizeN (headN ks vs)) == (sizeN (headN ks vs))) then
                              some (.normal, KfS4)
                            else
                              some (.normal, KfS14)
                          else
                            none
                        else
                          none
                      else
                        some (.normal, KfS14)
                    else
                      some (.normal, KfS14)
                  else
                    some (.normal, KfS14)
                else
                  none
              else
                none
            else
              some (.normal, KfS14)
          else
            some (.normal, KfS14)
        else
          some (.normal, KfS14)
      else
        none
    else
      none
  else
    none := by kernel_rfl
end
theorem Kfk {ks : ByteArray} {vs : ByteArray} (hk : 1000 < ks.size)   {Q : Ex → St → Prop} (hq : Q .ret (KSt.low KfS4)) : Gets Try.prog (KH.low ⟨0, 1, []⟩) BKf (KSt.low (KfS0 ks vs)) Q := by
  rw [KfC]; refine Gets.seq ?_
  refine Kfgo (KfR1 boxW byteRV byteV headN isWb isWs kLen manyV sizeN textA textAt textR vLen withRV wordsA wordsR ks vs) ?_
  rw [KfC1]; refine Gets.seq ?_
  rw [KfC1_0]; refine Gets.seq ?_
  refine Kfgo (x := .normal) (s' := (KfS2 ks vs)) ((KfR2 boxW byteRV byteV headN isWb isWs kLen manyV sizeN textA textAt textR vLen withRV wordsA wordsR ks vs).trans (by rw [condT (decide_eq_true (by omega))])) ?_
  rw [KfC1_0_1]; refine Gets.cond true (by kernel_rfl) (by kernel_rfl) ?_; show Gets _ _ (codeAt [1, 0, 1, 0] BKf) _ _
  rw [KfC1_0_1_0]; refine Gets.seq ?_
  refine Kfgo (KfR3 boxW byteRV byteV headN isWb isWs kLen manyV sizeN textA textAt textR vLen withRV wordsA wordsR ks vs) ?_
  rw [KfC1_0_1_0_1]; refine Gets.ev fitL5.mix fitL5.cfg (fitL5.sound wbxy_sound 14 0) 14 rfl (s' := KSt.low KfS4) (x := .ret) rfl ?_
  exact hq
theorem Kfv {ks : ByteArray} {vs : ByteArray} (hk : ks.size ≤ 1000) (hv : 1000 < vs.size)   {Q : Ex → St → Prop} (hq : Q .ret (KSt.low KfS4)) : Gets Try.prog (KH.low ⟨0, 1, []⟩) BKf (KSt.low (KfS0 ks vs)) Q := by
  rw [KfC]; refine Gets.seq ?_
  refine Kfgo (KfR1 boxW byteRV byteV headN isWb isWs kLen manyV sizeN textA textAt textR vLen withRV wordsA wordsR ks vs) ?_
  rw [KfC1]; refine Gets.seq ?_
  rw [KfC1_0]; refine Gets.seq ?_
  refine Kfgo (x := .normal) (s' := (KfS2 ks vs)) ((KfR2 boxW byteRV byteV headN isWb isWs kLen manyV sizeN textA textAt textR vLen withRV wordsA wordsR ks vs).trans (by rw [condF (decide_eq_false (by omega)), condT (decide_eq_true (by omega))])) ?_
  rw [KfC1_0_1]; refine Gets.cond true (by kernel_rfl) (by kernel_rfl) ?_; show Gets _ _ (codeAt [1, 0, 1, 0] BKf) _ _
  rw [KfC1_0_1_0]; refine Gets.seq ?_
  refine Kfgo (KfR3 boxW byteRV byteV headN isWb isWs kLen manyV sizeN textA textAt textR vLen withRV wordsA wordsR ks vs) ?_
  rw [KfC1_0_1_0_1]; refine Gets.ev fitL5.mix fitL5.cfg (fitL5.sound wbxy_sound 14 0) 14 rfl (s' := KSt.low KfS4) (x := .ret) rfl ?_
  exact hq
theorem Kfm {ks : ByteArray} {vs : ByteArray} (hk : ks.size ≤ 1000) (hv : vs.size ≤ 1000) (h16 : ks.size ≤ 16) (h24 : vs.size ≤ 24) (hbl : (boxW ks vs).length ≤ 100) (hwh : isWb (headN ks vs) = true)   {Q : Ex → St → Prop} (hq : Q .ret (KSt.low KfS4)) : Gets Try.prog (KH.low ⟨0, 1, []⟩) BKf (KSt.low (KfS0 ks vs)) Q := by
  rw [KfC]; refine Gets.seq ?_
  refine Kfgo (KfR1 boxW byteRV byteV headN isWb isWs kLen manyV sizeN textA textAt textR vLen withRV wordsA wordsR ks vs) ?_
  rw [KfC1]; refine Gets.seq ?_
  rw [KfC1_0]; refine Gets.seq ?_
  refine Kfgo (x := .normal) (s' := (KfS3 ks vs)) ((KfR2 boxW byteRV byteV headN isWb isWs kLen manyV sizeN textA textAt textR vLen withRV wordsA wordsR ks vs).trans (by rw [condF (decide_eq_false (by omega)), condF (decide_eq_false (by omega))])) ?_
  rw [KfC1_0_1]; refine Gets.cond false (by kernel_rfl) (by kernel_rfl) ?_; show Gets _ _ (codeAt [1, 0, 1, 1] BKf) _ _
  refine Kfgo (KfR4 boxW byteRV byteV headN isWb isWs kLen manyV sizeN textA textAt textR vLen withRV wordsA wordsR ks vs) ?_
  rw [KfC1_1]; refine Gets.seq ?_
  refine Kfgo (x := .normal) (s' := (KfS5 boxW ks vs)) ((KfR5 boxW byteRV byteV headN isWb isWs kLen manyV sizeN textA textAt textR vLen withRV wordsA wordsR ks vs).trans (by rw [condT (and_t (ble_t (by omega)) (ble_t (by omega)))])) ?_
  rw [KfC1_1_1]; refine Gets.seq ?_
  refine Kfgo (x := .normal) (s' := (KfS6 boxW ks vs)) ((KfR6 boxW byteRV byteV headN isWb isWs kLen manyV sizeN textA textAt textR vLen withRV wordsA wordsR ks vs).trans (by rw [condT (and_t (ble_t (by omega)) (ble_t (by omega)))])) ?_
  rw [KfC1_1_1_1]; refine Gets.seq ?_
  refine Kfgo (x := .normal) (s' := (KfS7 boxW kLen manyV textAt vLen ks vs)) ((KfR7 boxW byteRV byteV headN isWb isWs kLen manyV sizeN textA textAt textR vLen withRV wordsA wordsR ks vs).trans (by rw [condT (and_t (Nat.ble_eq_true_of_le (show List.length ([] : List Int) ≤ 1000 from Nat.zero_le _)) (show isWs ([] : List Int) = true from rfl))])) ?_
  rw [KfC1_1_1_1_1]; refine Gets.seq ?_
  refine Kfgo (x := .normal) (s' := (KfS8 boxW kLen manyV textAt vLen ks vs)) ((KfR8 boxW byteRV byteV headN isWb isWs kLen manyV sizeN textA textAt textR vLen withRV wordsA wordsR ks vs).trans (by rw [condT (and_t (Nat.ble_eq_true_of_le (show List.length ([] : List Int) ≤ 1000 from Nat.zero_le _)) (show isWs ([] : List Int) = true from rfl))])) ?_
  rw [KfC1_1_1_1_1_1]; refine Gets.seq ?_
  refine Kfgo (x := .normal) (s' := (KfS9 boxW headN kLen manyV textAt vLen ks vs)) ((KfR9 boxW byteRV byteV headN isWb isWs kLen manyV sizeN textA textAt textR vLen withRV wordsA wordsR ks vs).trans (by rw [condT (and_t (ble_t (by omega)) (ble_t (by omega)))])) ?_
  rw [KfC1_1_1_1_1_1_1]; refine Gets.seq ?_
  rw [KfC1_1_1_1_1_1_1_0]; refine Gets.seq ?_
  refine Kfgo (KfR10 boxW byteRV byteV headN isWb isWs kLen manyV sizeN textA textAt textR vLen withRV wordsA wordsR ks vs) ?_
  rw [KfC1_1_1_1_1_1_1_0_1]; refine Gets.cond false (by kernel_rfl) (by kernel_rfl) ?_; show Gets _ _ (codeAt [1, 1, 1, 1, 1, 1, 1, 0, 1, 1] BKf) _ _
  refine Kfgo (KfR11 boxW byteRV byteV headN isWb isWs kLen manyV sizeN textA textAt textR vLen withRV wordsA wordsR ks vs) ?_
  rw [KfC1_1_1_1_1_1_1_1]; refine Gets.seq ?_
  refine Kfgo (x := .normal) (s' := (KfS12 boxW headN kLen manyV textAt vLen ks vs)) ((KfR12 boxW byteRV byteV headN isWb isWs kLen manyV sizeN textA textAt textR vLen withRV wordsA wordsR ks vs).trans (by rw [condT (hwh)])) ?_
  rw [KfC1_1_1_1_1_1_1_1_1]; refine Gets.seq ?_
  refine Kfgo (x := .normal) (s' := (KfS13 boxW headN kLen manyV textAt vLen ks vs)) ((KfR13 boxW byteRV byteV headN isWb isWs kLen manyV sizeN textA textAt textR vLen withRV wordsA wordsR ks vs).trans (by rw [condT (hwh)])) ?_
  rw [KfC1_1_1_1_1_1_1_1_1_1]; refine Gets.seq ?_
  refine Kfgo (x := .normal) (s' := KfS4) ((KfR14 boxW byteRV byteV headN isWb isWs kLen manyV sizeN textA textAt textR vLen withRV wordsA wordsR ks vs).trans (by rw [condT (Nat.ble_eq_true_of_le (by omega)), condT (Nat.ble_eq_true_of_le (by omega)), condT (Nat.ble_eq_true_of_le (by rw [List.drop_zero, List.take_length]; omega)), condT (decide_eq_true rfl), condT (beq_self_eq_true _), condT (beq_self_eq_true _), condT (and_t (ble_t (by omega)) (ble_t (by omega))), condT (and_t (ble_t (by omega)) (ble_t (by omega))), condT (beq_self_eq_true _), condT (beq_self_eq_true _), condT (beq_self_eq_true _), condT (hwh), condT (hwh), condT (beq_self_eq_true _)])) ?_
  rw [KfC1_1_1_1_1_1_1_1_1_1_1]; refine Gets.ev fitL5.mix fitL5.cfg (fitL5.sound wbxy_sound 14 0) 14 rfl (s' := KSt.low KfS4) (x := .ret) rfl ?_
  exact hq
noncomputable def BKn : Code := bodyOf Try.prog 6
theorem BKn_is : Try.f6.body = some BKn := by kernel_rfl
theorem BKn_ok : okCode Try.prog.globals.size BKn = true := by kernel_rfl
noncomputable abbrev KnEV (byteRV : Int → Int → Int) (byteV : Int → Int → Int) (headN : ByteArray → ByteArray → Int) (isWb : Int → Bool) (isWs : List Int → Bool) (kLen : Int → Int) (manyV : Int → Int) (sizeN : Int → Int) (textA : List Int → Int → ByteArray × Bool) (textAt : List Int → Int → Int → ByteArray) (textR : List Int → Int → ByteArray × Bool) (vLen : Int → Int) (withRV : Int → Int → Int → Int) (wordsA : ByteArray → List Int) (wordsR : ByteArray → List Int) (c : Code) (s : KSt) (lv : List Nat) : Option (Ex × KSt) := evCK Try.prog cfgL5 (runK Try.prog cfgL5 fsL5 (conTk wbxnDom (rcK [] (wbxnT byteRV byteV headN isWb isWs kLen manyV sizeN textA textAt textR vLen withRV wordsA wordsR))) 14 40) 14 c s (normC 0 lv)
theorem Kngo {lv : List Nat} {c : Code} {s s' : KSt} {x : Ex} {Q : Ex → St → Prop} (h : KnEV byteRV byteV headN isWb isWs kLen manyV sizeN textA textAt textR vLen withRV wordsA wordsR c s lv = some (x, s')) (hq : Q x s'.low) (hok : okCode Try.prog.globals.size c = true := by kernel_rfl) : Gets Try.prog (KH.low ⟨0, 1, []⟩) c s.low Q := Gets.ofN fitL5 wbxn_sound (rc_agree _ _ _) 14 40 hok h hq
theorem KneX {v : Value} {b c : Bool} (h : v = .bool b) (hb : b = c) : v = .bool c := by rw [h, hb]
theorem KnC : BKn = .seq (codeAt [0] BKn) (codeAt [1] BKn) := by kernel_rfl
theorem KnC1 : (codeAt [1] BKn) = .seq (codeAt [1, 0] BKn) (codeAt [1, 1] BKn) := by kernel_rfl
theorem KnC1_0 : (codeAt [1, 0] BKn) = .seq (codeAt [1, 0, 0] BKn) (codeAt [1, 0, 1] BKn) := by kernel_rfl
theorem KnC1_0_1 : (codeAt [1, 0, 1] BKn) = .cond (.tmp 32) (codeAt [1, 0, 1, 0] BKn) (codeAt [1, 0, 1, 1] BKn) := by kernel_rfl
theorem KnC1_1 : (codeAt [1, 1] BKn) = .seq (codeAt [1, 1, 0] BKn) (codeAt [1, 1, 1] BKn) := by kernel_rfl
theorem KnC1_1_1 : (codeAt [1, 1, 1] BKn) = .seq (codeAt [1, 1, 1, 0] BKn) (codeAt [1, 1, 1, 1] BKn) := by kernel_rfl
theorem KnC1_1_1_1 : (codeAt [1, 1, 1, 1] BKn) = .seq (codeAt [1, 1, 1, 1, 0] BKn) (codeAt [1, 1, 1, 1, 1] BKn) := by kernel_rfl
theorem KnC1_1_1_1_1 : (codeAt [1, 1, 1, 1, 1] BKn) = .seq (codeAt [1, 1, 1, 1, 1, 0] BKn) (codeAt [1, 1, 1, 1, 1, 1] BKn) := by kernel_rfl
theorem KnC1_1_1_1_1_1 : (codeAt [1, 1, 1, 1, 1, 1] BKn) = .seq (codeAt [1, 1, 1, 1, 1, 1, 0] BKn) (codeAt [1, 1, 1, 1, 1, 1, 1] BKn) := by kernel_rfl
theorem KnC1_1_1_1_1_1_1 : (codeAt [1, 1, 1, 1, 1, 1, 1] BKn) = .seq (codeAt [1, 1, 1, 1, 1, 1, 1, 0] BKn) (codeAt [1, 1, 1, 1, 1, 1, 1, 1] BKn) := by kernel_rfl
theorem KnC1_1_1_1_1_1_1_0 : (codeAt [1, 1, 1, 1, 1, 1, 1, 0] BKn) = .seq (codeAt [1, 1, 1, 1, 1, 1, 1, 0, 0] BKn) (codeAt [1, 1, 1, 1, 1, 1, 1, 0, 1] BKn) := by kernel_rfl
theorem KnC1_1_1_1_1_1_1_0_1 : (codeAt [1, 1, 1, 1, 1, 1, 1, 0, 1] BKn) = .cond (.tmp 61) (codeAt [1, 1, 1, 1, 1, 1, 1, 0, 1, 0] BKn) (codeAt [1, 1, 1, 1, 1, 1, 1, 0, 1, 1] BKn) := by kernel_rfl
theorem KnC1_1_1_1_1_1_1_1 : (codeAt [1, 1, 1, 1, 1, 1, 1, 1] BKn) = .seq (codeAt [1, 1, 1, 1, 1, 1, 1, 1, 0] BKn) (codeAt [1, 1, 1, 1, 1, 1, 1, 1, 1] BKn) := by kernel_rfl
theorem KnC1_1_1_1_1_1_1_1_1 : (codeAt [1, 1, 1, 1, 1, 1, 1, 1, 1] BKn) = .seq (codeAt [1, 1, 1, 1, 1, 1, 1, 1, 1, 0] BKn) (codeAt [1, 1, 1, 1, 1, 1, 1, 1, 1, 1] BKn) := by kernel_rfl
theorem KnC1_1_1_1_1_1_1_1_1_1 : (codeAt [1, 1, 1, 1, 1, 1, 1, 1, 1, 1] BKn) = .seq (codeAt [1, 1, 1, 1, 1, 1, 1, 1, 1, 1, 0] BKn) (codeAt [1, 1, 1, 1, 1, 1, 1, 1, 1, 1, 1] BKn) := by kernel_rfl
theorem KnC1_1_1_1_1_1_1_1_1_1_1 : (codeAt [1, 1, 1, 1, 1, 1, 1, 1, 1, 1, 1] BKn) = .ret := by kernel_rfl
section
variable (byteRV : Int → Int → Int) (byteV : Int → Int → Int) (headN : ByteArray → ByteArray → Int) (isWb : Int → Bool) (isWs : List Int → Bool) (kLen : Int → Int) (manyV : Int → Int) (sizeN : Int → Int) (textA : List Int → Int → ByteArray × Bool) (textAt : List Int → Int → Int → ByteArray) (textR : List Int → Int → ByteArray × Bool) (vLen : Int → Int) (withRV : Int → Int → Int → Int) (wordsA : ByteArray → List Int) (wordsR : ByteArray → List Int)
noncomputable def KnS0 (ks : ByteArray) (vs : ByteArray) : KSt := (firstK [(.string ks), (.string vs), (.slice (some ⟨0, 0, some 0⟩) 0 0)] 122 ⟨0, 1, []⟩)
noncomputable def KnS1 (ks : ByteArray) (vs : ByteArray) : KSt := ⟨(frameL 122 [(0, (.string ks)), (1, (.string vs)), (2, (.slice (some ⟨0, 0, some 0⟩) 0 0))]), ⟨0, 1, []⟩⟩
theorem KnR1 (ks : ByteArray) (vs : ByteArray) : KnEV byteRV byteV headN isWb isWs kLen manyV sizeN textA textAt textR vLen withRV wordsA wordsR (codeAt [0] BKn) (KnS0 ks vs) [0, 1, 2] =
  some (.normal, (KnS1 ks vs)) := by kernel_rfl
noncomputable def KnS2 (ks : ByteArray) (vs : ByteArray) : KSt := ⟨(frameL 122 [(0, (.string ks)), (1, (.string vs)), (2, (.slice (some ⟨0, 0, some 0⟩) 0 0)), (32, (.bool true))]), ⟨0, 1, []⟩⟩
noncomputable def KnS3 (ks : ByteArray) (vs : ByteArray) : KSt := ⟨(frameL 122 [(0, (.string ks)), (1, (.string vs)), (2, (.slice (some ⟨0, 0, some 0⟩) 0 0)), (32, (.bool false))]), ⟨0, 1, []⟩⟩
theorem KnR2 (ks : ByteArray) (vs : ByteArray) : KnEV byteRV byteV headN isWb isWs kLen manyV sizeN textA textAt textR vLen withRV wordsA wordsR (codeAt [1, 0, 0] BKn) (KnS1 ks vs) [0, 1, 2, 32] =
  bif (decide ((((ByteArray.size ks) : Nat) : Int) > 1000)) then
    some (.normal, (KnS2 ks vs))
  else
    bif (decide ((((ByteArray.size vs) : Nat) : Int) > 1000)) then
      some (.normal, (KnS2 ks vs))
    else
      some (.normal, (KnS3 ks vs)) := by kernel_rfl
theorem KnR3 (ks : ByteArray) (vs : ByteArray) : KnEV byteRV byteV headN isWb isWs kLen manyV sizeN textA textAt textR vLen withRV wordsA wordsR (codeAt [1, 0, 1, 1] BKn) (KnS3 ks vs) [0, 1, 2] =
  some (.normal, (KnS1 ks vs)) := by kernel_rfl
noncomputable def KnS4 (ks : ByteArray) (vs : ByteArray) : KSt := ⟨(frameL 122 [(0, (.string ks)), (1, (.string vs)), (2, (.slice (some ⟨0, 0, some 0⟩) 0 0)), (7, (.slice none 0 0)), (8, (.bool false))]), ⟨0, 1, []⟩⟩
theorem KnR4 (ks : ByteArray) (vs : ByteArray) : KnEV byteRV byteV headN isWb isWs kLen manyV sizeN textA textAt textR vLen withRV wordsA wordsR (codeAt [1, 1, 0] BKn) (KnS1 ks vs) [0, 1, 2, 7, 8] =
  bif (!((Nat.ble (ByteArray.size ks) 16) && (Nat.ble (ByteArray.size vs) 24))) then
    some (.normal, (KnS4 ks vs))
  else
    none := by kernel_rfl
noncomputable def KnS5 (ks : ByteArray) (vs : ByteArray) : KSt := ⟨(frameL 122 [(0, (.string ks)), (1, (.string vs)), (2, (.slice (some ⟨0, 0, some 0⟩) 0 0)), (7, (.slice none 0 0)), (8, (.bool false)), (9, (.slice none 0 0)), (10, (.bool false))]), ⟨0, 1, []⟩⟩
theorem KnR5 (ks : ByteArray) (vs : ByteArray) : KnEV byteRV byteV headN isWb isWs kLen manyV sizeN textA textAt textR vLen withRV wordsA wordsR (codeAt [1, 1, 1, 0] BKn) (KnS4 ks vs) [0, 1, 2, 7, 8, 9, 10] =
  bif (!((Nat.ble (ByteArray.size ks) 16) && (Nat.ble (ByteArray.size vs) 24))) then
    some (.normal, (KnS5 ks vs))
  else
    none := by kernel_rfl
noncomputable def KnS6 (ks : ByteArray) (vs : ByteArray) : KSt := ⟨(frameL 122 [(0, (.string ks)), (1, (.string vs)), (2, (.slice (some ⟨0, 0, some 0⟩) 0 0)), (7, (.slice none 0 0)), (8, (.bool false)), (9, (.slice none 0 0)), (10, (.bool false)), (11, (.string (textAt ([] : List Int) 1 (kLen (List.getD ([] : List Int) 0 0))))), (12, (.string (textAt ([] : List Int) (1 + manyV (kLen (List.getD ([] : List Int) 0 0))) (vLen (List.getD ([] : List Int) 0 0)))))]), ⟨0, 1, []⟩⟩
theorem KnR6 (ks : ByteArray) (vs : ByteArray) : KnEV byteRV byteV headN isWb isWs kLen manyV sizeN textA textAt textR vLen withRV wordsA wordsR (codeAt [1, 1, 1, 1, 0] BKn) (KnS5 ks vs) [0, 1, 2, 7, 8, 9, 10, 11, 12] =
  bif ((Nat.ble (List.length ([] : List Int)) 1000) && (isWs ([] : List Int))) then
    some (.normal, (KnS6 kLen manyV textAt vLen ks vs))
  else
    none := by kernel_rfl
noncomputable def KnS7 (ks : ByteArray) (vs : ByteArray) : KSt := ⟨(frameL 122 [(0, (.string ks)), (1, (.string vs)), (2, (.slice (some ⟨0, 0, some 0⟩) 0 0)), (7, (.slice none 0 0)), (8, (.bool false)), (9, (.slice none 0 0)), (10, (.bool false)), (11, (.string (textAt ([] : List Int) 1 (kLen (List.getD ([] : List Int) 0 0))))), (12, (.string (textAt ([] : List Int) (1 + manyV (kLen (List.getD ([] : List Int) 0 0))) (vLen (List.getD ([] : List Int) 0 0))))), (13, (.string (textAt ([] : List Int) 1 (kLen (List.getD ([] : List Int) 0 0))))), (14, (.string (textAt ([] : List Int) (1 + manyV (kLen (List.getD ([] : List Int) 0 0))) (vLen (List.getD ([] : List Int) 0 0)))))]), ⟨0, 1, []⟩⟩
theorem KnR7 (ks : ByteArray) (vs : ByteArray) : KnEV byteRV byteV headN isWb isWs kLen manyV sizeN textA textAt textR vLen withRV wordsA wordsR (codeAt [1, 1, 1, 1, 1, 0] BKn) (KnS6 kLen manyV textAt vLen ks vs) [0, 1, 2, 7, 8, 9, 10, 11, 12, 13, 14] =
  bif ((Nat.ble (List.length ([] : List Int)) 1000) && (isWs ([] : List Int))) then
    some (.normal, (KnS7 kLen manyV textAt vLen ks vs))
  else
    none := by kernel_rfl
noncomputable def KnS8 (ks : ByteArray) (vs : ByteArray) : KSt := ⟨(frameL 122 [(0, (.string ks)), (1, (.string vs)), (2, (.slice (some ⟨0, 0, some 0⟩) 0 0)), (7, (.slice none 0 0)), (8, (.bool false)), (9, (.slice none 0 0)), (10, (.bool false)), (11, (.string (textAt ([] : List Int) 1 (kLen (List.getD ([] : List Int) 0 0))))), (12, (.string (textAt ([] : List Int) (1 + manyV (kLen (List.getD ([] : List Int) 0 0))) (vLen (List.getD ([] : List Int) 0 0))))), (13, (.string (textAt ([] : List Int) 1 (kLen (List.getD ([] : List Int) 0 0))))), (14, (.string (textAt ([] : List Int) (1 + manyV (kLen (List.getD ([] : List Int) 0 0))) (vLen (List.getD ([] : List Int) 0 0))))), (15, (.int .u64 (headN ks vs)))]), ⟨0, 1, []⟩⟩
theorem KnR8 (ks : ByteArray) (vs : ByteArray) : KnEV byteRV byteV headN isWb isWs kLen manyV sizeN textA textAt textR vLen withRV wordsA wordsR (codeAt [1, 1, 1, 1, 1, 1, 0] BKn) (KnS7 kLen manyV textAt vLen ks vs) [0, 1, 2, 7, 8, 9, 10, 11, 12, 13, 14, 15] =
  bif ((Nat.ble (ByteArray.size ks) 100000) && (Nat.ble (ByteArray.size vs) 100000)) then
    some (.normal, (KnS8 headN kLen manyV textAt vLen ks vs))
  else
    none := by kernel_rfl
noncomputable def KnS9 (ks : ByteArray) (vs : ByteArray) : KSt := ⟨(frameL 122 [(0, (.string ks)), (1, (.string vs)), (2, (.slice (some ⟨0, 0, some 0⟩) 0 0)), (7, (.slice none 0 0)), (8, (.bool false)), (9, (.slice none 0 0)), (10, (.bool false)), (11, (.string (textAt ([] : List Int) 1 (kLen (List.getD ([] : List Int) 0 0))))), (12, (.string (textAt ([] : List Int) (1 + manyV (kLen (List.getD ([] : List Int) 0 0))) (vLen (List.getD ([] : List Int) 0 0))))), (13, (.string (textAt ([] : List Int) 1 (kLen (List.getD ([] : List Int) 0 0))))), (14, (.string (textAt ([] : List Int) (1 + manyV (kLen (List.getD ([] : List Int) 0 0))) (vLen (List.getD ([] : List Int) 0 0))))), (15, (.int .u64 (headN ks vs))), (61, (.bool false))]), ⟨0, 1, []⟩⟩
theorem KnR9 (ks : ByteArray) (vs : ByteArray) : KnEV byteRV byteV headN isWb isWs kLen manyV sizeN textA textAt textR vLen withRV wordsA wordsR (codeAt [1, 1, 1, 1, 1, 1, 1, 0, 0] BKn) (KnS8 headN kLen manyV textAt vLen ks vs) [0, 1, 2, 7, 8, 9, 10, 11, 12, 13, 14, 15, 61] =
  some (.normal, (KnS9 headN kLen manyV textAt vLen ks vs)) := by kernel_rfl
noncomputable def KnS10 (ks : ByteArray) (vs : ByteArray) : KSt := ⟨(frameL 122 [(0, (.string ks)), (1, (.string vs)), (7, (.slice none 0 0)), (8, (.bool false)), (9, (.slice none 0 0)), (10, (.bool false)), (11, (.string (textAt ([] : List Int) 1 (kLen (List.getD ([] : List Int) 0 0))))), (12, (.string (textAt ([] : List Int) (1 + manyV (kLen (List.getD ([] : List Int) 0 0))) (vLen (List.getD ([] : List Int) 0 0))))), (13, (.string (textAt ([] : List Int) 1 (kLen (List.getD ([] : List Int) 0 0))))), (14, (.string (textAt ([] : List Int) (1 + manyV (kLen (List.getD ([] : List Int) 0 0))) (vLen (List.getD ([] : List Int) 0 0))))), (15, (.int .u64 (headN ks vs)))]), ⟨0, 1, []⟩⟩
theorem KnR10 (ks : ByteArray) (vs : ByteArray) : KnEV byteRV byteV headN isWb isWs kLen manyV sizeN textA textAt textR vLen withRV wordsA wordsR (codeAt [1, 1, 1, 1, 1, 1, 1, 0, 1, 1] BKn) (KnS9 headN kLen manyV textAt vLen ks vs) [0, 1, 7, 8, 9, 10, 11, 12, 13, 14, 15] =
  some (.normal, (KnS10 headN kLen manyV textAt vLen ks vs)) := by kernel_rfl
noncomputable def KnS11 (ks : ByteArray) (vs : ByteArray) : KSt := ⟨(frameL 122 [(0, (.string ks)), (1, (.string vs)), (7, (.slice none 0 0)), (8, (.bool false)), (9, (.slice none 0 0)), (10, (.bool false)), (11, (.string (textAt ([] : List Int) 1 (kLen (List.getD ([] : List Int) 0 0))))), (12, (.string (textAt ([] : List Int) (1 + manyV (kLen (List.getD ([] : List Int) 0 0))) (vLen (List.getD ([] : List Int) 0 0))))), (13, (.string (textAt ([] : List Int) 1 (kLen (List.getD ([] : List Int) 0 0))))), (14, (.string (textAt ([] : List Int) (1 + manyV (kLen (List.getD ([] : List Int) 0 0))) (vLen (List.getD ([] : List Int) 0 0))))), (15, (.int .u64 (headN ks vs))), (16, (.int .i64 (kLen (headN ks vs)))), (17, (.int .i64 (vLen (headN ks vs))))]), ⟨0, 1, []⟩⟩
theorem KnR11 (ks : ByteArray) (vs : ByteArray) : KnEV byteRV byteV headN isWb isWs kLen manyV sizeN textA textAt textR vLen withRV wordsA wordsR (codeAt [1, 1, 1, 1, 1, 1, 1, 1, 0] BKn) (KnS10 headN kLen manyV textAt vLen ks vs) [0, 1, 7, 8, 9, 10, 11, 12, 13, 14, 15, 16, 17] =
  bif (isWb (headN ks vs)) then
    some (.normal, (KnS11 headN kLen manyV textAt vLen ks vs))
  else
    none := by kernel_rfl
noncomputable def KnS12 (ks : ByteArray) (vs : ByteArray) : KSt := ⟨(frameL 122 [(0, (.string ks)), (1, (.string vs)), (7, (.slice none 0 0)), (8, (.bool false)), (9, (.slice none 0 0)), (10, (.bool false)), (11, (.string (textAt ([] : List Int) 1 (kLen (List.getD ([] : List Int) 0 0))))), (12, (.string (textAt ([] : List Int) (1 + manyV (kLen (List.getD ([] : List Int) 0 0))) (vLen (List.getD ([] : List Int) 0 0))))), (13, (.string (textAt ([] : List Int) 1 (kLen (List.getD ([] : List Int) 0 0))))), (14, (.string (textAt ([] : List Int) (1 + manyV (kLen (List.getD ([] : List Int) 0 0))) (vLen (List.getD ([] : List Int) 0 0))))), (15, (.int .u64 (headN ks vs))), (16, (.int .i64 (kLen (headN ks vs)))), (17, (.int .i64 (vLen (headN ks vs)))), (18, (.int .i64 (kLen (headN ks vs)))), (19, (.int .i64 (vLen (headN ks vs))))]), ⟨0, 1, []⟩⟩
theorem KnR12 (ks : ByteArray) (vs : ByteArray) : KnEV byteRV byteV headN isWb isWs kLen manyV sizeN textA textAt textR vLen withRV wordsA wordsR (codeAt [1, 1, 1, 1, 1, 1, 1, 1, 1, 0] BKn) (KnS11 headN kLen manyV textAt vLen ks vs) [0, 1, 7, 8, 9, 10, 11, 12, 13, 14, 15, 16, 17, 18, 19] =
  bif (isWb (headN ks vs)) then
    some (.normal, (KnS12 headN kLen manyV textAt vLen ks vs))
  else
    none := by kernel_rfl
noncomputable def KnS13  : KSt := ⟨(frameL 122 [(6, (.bool true))]), ⟨0, 1, []⟩⟩
noncomputable def KnS14  : KSt := ⟨(frameL 122 [(6, (.bool false))]), ⟨0, 1, []⟩⟩
theorem KnR13 (ks : ByteArray) (vs : ByteArray) : KnEV byteRV byteV headN isWb isWs kLen manyV sizeN textA textAt textR vLen withRV wordsA wordsR (codeAt [1, 1, 1, 1, 1, 1, 1, 1, 1, 1, 0] BKn) (KnS12 headN kLen manyV textAt vLen ks vs) [6] =
  bif (Nat.ble (List.length ([] : List Int)) 100000) then
    bif (decide (([] : List Int) = ([] : List Int))) then
      bif ((textAt ([] : List Int) 1 (kLen (List.getD ([] : List Int) 0 0))).toList == (textAt ([] : List Int) 1 (kLen (List.getD ([] : List Int) 0 0))).toList) then
        bif ((textAt ([] : List Int) (1 + manyV (kLen (List.getD ([] : List Int) 0 0))) (vLen (List.getD ([] : List Int) 0 0))).toList == (textAt ([] : List Int) (1 + manyV (kLen (List.getD ([] : List Int) 0 0))) (vLen (List.getD ([] : List Int) 0 0))).toList) then
          bif ((Nat.ble (ByteArray.size ks) 100000) && (Nat.ble (ByteArray.size vs) 100000)) then
            bif ((Nat.ble (ByteArray.size ks) 100000) && (Nat.ble (ByteArray.size vs) 100000)) then
              bif ((headN ks vs) == (headN ks vs)) then
                bif ((kLen (headN ks vs)) == (kLen (headN ks vs))) then
                  bif ((vLen (headN ks vs)) == (vLen (headN ks vs))) then
                    bif (isWb (headN ks vs)) then
                      bif (isWb (headN ks vs)) then
                        bif ((sizeN (headN ks vs)) == (sizeN (headN ks vs))) then
                          some (.normal, KnS13)
                        else
                          some (.normal, KnS14)
                      else
                        none
                    else
                      none
                  else
                    some (.normal, KnS14)
                else
                  some (.normal, KnS14)
              else
                some (.normal, KnS14)
            else
              none
          else
            none
        else
          some (.normal, KnS14)
      else
        some (.normal, KnS14)
    else
      some (.normal, KnS14)
  else
    none := by kernel_rfl
end
theorem Kna {ks : ByteArray} {vs : ByteArray} (hk : ks.size ≤ 1000) (hv : vs.size ≤ 1000) (hwh : isWb (headN ks vs) = true) (hno : 16 < ks.size)   {Q : Ex → St → Prop} (hq : Q .ret (KSt.low KnS13)) : Gets Try.prog (KH.low ⟨0, 1, []⟩) BKn (KSt.low (KnS0 ks vs)) Q := by
  rw [KnC]; refine Gets.seq ?_
  refine Kngo (KnR1 byteRV byteV headN isWb isWs kLen manyV sizeN textA textAt textR vLen withRV wordsA wordsR ks vs) ?_
  rw [KnC1]; refine Gets.seq ?_
  rw [KnC1_0]; refine Gets.seq ?_
  refine Kngo (x := .normal) (s' := (KnS3 ks vs)) ((KnR2 byteRV byteV headN isWb isWs kLen manyV sizeN textA textAt textR vLen withRV wordsA wordsR ks vs).trans (by rw [condF (decide_eq_false (by omega)), condF (decide_eq_false (by omega))])) ?_
  rw [KnC1_0_1]; refine Gets.cond false (by kernel_rfl) (by kernel_rfl) ?_; show Gets _ _ (codeAt [1, 0, 1, 1] BKn) _ _
  refine Kngo (KnR3 byteRV byteV headN isWb isWs kLen manyV sizeN textA textAt textR vLen withRV wordsA wordsR ks vs) ?_
  rw [KnC1_1]; refine Gets.seq ?_
  refine Kngo (x := .normal) (s' := (KnS4 ks vs)) ((KnR4 byteRV byteV headN isWb isWs kLen manyV sizeN textA textAt textR vLen withRV wordsA wordsR ks vs).trans (by rw [condT (not_t (and_f1 (ble_f (by omega))))])) ?_
  rw [KnC1_1_1]; refine Gets.seq ?_
  refine Kngo (x := .normal) (s' := (KnS5 ks vs)) ((KnR5 byteRV byteV headN isWb isWs kLen manyV sizeN textA textAt textR vLen withRV wordsA wordsR ks vs).trans (by rw [condT (not_t (and_f1 (ble_f (by omega))))])) ?_
  rw [KnC1_1_1_1]; refine Gets.seq ?_
  refine Kngo (x := .normal) (s' := (KnS6 kLen manyV textAt vLen ks vs)) ((KnR6 byteRV byteV headN isWb isWs kLen manyV sizeN textA textAt textR vLen withRV wordsA wordsR ks vs).trans (by rw [condT (and_t (Nat.ble_eq_true_of_le (show List.length ([] : List Int) ≤ 1000 from Nat.zero_le _)) (show isWs ([] : List Int) = true from rfl))])) ?_
  rw [KnC1_1_1_1_1]; refine Gets.seq ?_
  refine Kngo (x := .normal) (s' := (KnS7 kLen manyV textAt vLen ks vs)) ((KnR7 byteRV byteV headN isWb isWs kLen manyV sizeN textA textAt textR vLen withRV wordsA wordsR ks vs).trans (by rw [condT (and_t (Nat.ble_eq_true_of_le (show List.length ([] : List Int) ≤ 1000 from Nat.zero_le _)) (show isWs ([] : List Int) = true from rfl))])) ?_
  rw [KnC1_1_1_1_1_1]; refine Gets.seq ?_
  refine Kngo (x := .normal) (s' := (KnS8 headN kLen manyV textAt vLen ks vs)) ((KnR8 byteRV byteV headN isWb isWs kLen manyV sizeN textA textAt textR vLen withRV wordsA wordsR ks vs).trans (by rw [condT (and_t (ble_t (by omega)) (ble_t (by omega)))])) ?_
  rw [KnC1_1_1_1_1_1_1]; refine Gets.seq ?_
  rw [KnC1_1_1_1_1_1_1_0]; refine Gets.seq ?_
  refine Kngo (KnR9 byteRV byteV headN isWb isWs kLen manyV sizeN textA textAt textR vLen withRV wordsA wordsR ks vs) ?_
  rw [KnC1_1_1_1_1_1_1_0_1]; refine Gets.cond false (by kernel_rfl) (by kernel_rfl) ?_; show Gets _ _ (codeAt [1, 1, 1, 1, 1, 1, 1, 0, 1, 1] BKn) _ _
  refine Kngo (KnR10 byteRV byteV headN isWb isWs kLen manyV sizeN textA textAt textR vLen withRV wordsA wordsR ks vs) ?_
  rw [KnC1_1_1_1_1_1_1_1]; refine Gets.seq ?_
  refine Kngo (x := .normal) (s' := (KnS11 headN kLen manyV textAt vLen ks vs)) ((KnR11 byteRV byteV headN isWb isWs kLen manyV sizeN textA textAt textR vLen withRV wordsA wordsR ks vs).trans (by rw [condT (hwh)])) ?_
  rw [KnC1_1_1_1_1_1_1_1_1]; refine Gets.seq ?_
  refine Kngo (x := .normal) (s' := (KnS12 headN kLen manyV textAt vLen ks vs)) ((KnR12 byteRV byteV headN isWb isWs kLen manyV sizeN textA textAt textR vLen withRV wordsA wordsR ks vs).trans (by rw [condT (hwh)])) ?_
  rw [KnC1_1_1_1_1_1_1_1_1_1]; refine Gets.seq ?_
  refine Kngo (x := .normal) (s' := KnS13) ((KnR13 byteRV byteV headN isWb isWs kLen manyV sizeN textA textAt textR vLen withRV wordsA wordsR ks vs).trans (by rw [condT (Nat.ble_eq_true_of_le (show List.length ([] : List Int) ≤ 100000 from Nat.zero_le _)), condT (decide_eq_true rfl), condT (beq_self_eq_true _), condT (beq_self_eq_true _), condT (and_t (ble_t (by omega)) (ble_t (by omega))), condT (and_t (ble_t (by omega)) (ble_t (by omega))), condT (beq_self_eq_true _), condT (beq_self_eq_true _), condT (beq_self_eq_true _), condT (hwh), condT (hwh), condT (beq_self_eq_true _)])) ?_
  rw [KnC1_1_1_1_1_1_1_1_1_1_1]; refine Gets.ev fitL5.mix fitL5.cfg (fitL5.sound wbxn_sound 14 0) 14 rfl (s' := KSt.low KnS13) (x := .ret) rfl ?_
  exact hq
theorem Knb {ks : ByteArray} {vs : ByteArray} (hk : ks.size ≤ 1000) (hv : vs.size ≤ 1000) (hwh : isWb (headN ks vs) = true) (hno : ks.size ≤ 16) (hn2 : 24 < vs.size)   {Q : Ex → St → Prop} (hq : Q .ret (KSt.low KnS13)) : Gets Try.prog (KH.low ⟨0, 1, []⟩) BKn (KSt.low (KnS0 ks vs)) Q := by
  rw [KnC]; refine Gets.seq ?_
  refine Kngo (KnR1 byteRV byteV headN isWb isWs kLen manyV sizeN textA textAt textR vLen withRV wordsA wordsR ks vs) ?_
  rw [KnC1]; refine Gets.seq ?_
  rw [KnC1_0]; refine Gets.seq ?_
  refine Kngo (x := .normal) (s' := (KnS3 ks vs)) ((KnR2 byteRV byteV headN isWb isWs kLen manyV sizeN textA textAt textR vLen withRV wordsA wordsR ks vs).trans (by rw [condF (decide_eq_false (by omega)), condF (decide_eq_false (by omega))])) ?_
  rw [KnC1_0_1]; refine Gets.cond false (by kernel_rfl) (by kernel_rfl) ?_; show Gets _ _ (codeAt [1, 0, 1, 1] BKn) _ _
  refine Kngo (KnR3 byteRV byteV headN isWb isWs kLen manyV sizeN textA textAt textR vLen withRV wordsA wordsR ks vs) ?_
  rw [KnC1_1]; refine Gets.seq ?_
  refine Kngo (x := .normal) (s' := (KnS4 ks vs)) ((KnR4 byteRV byteV headN isWb isWs kLen manyV sizeN textA textAt textR vLen withRV wordsA wordsR ks vs).trans (by rw [condT (not_t (and_f2 (ble_f (by omega))))])) ?_
  rw [KnC1_1_1]; refine Gets.seq ?_
  refine Kngo (x := .normal) (s' := (KnS5 ks vs)) ((KnR5 byteRV byteV headN isWb isWs kLen manyV sizeN textA textAt textR vLen withRV wordsA wordsR ks vs).trans (by rw [condT (not_t (and_f2 (ble_f (by omega))))])) ?_
  rw [KnC1_1_1_1]; refine Gets.seq ?_
  refine Kngo (x := .normal) (s' := (KnS6 kLen manyV textAt vLen ks vs)) ((KnR6 byteRV byteV headN isWb isWs kLen manyV sizeN textA textAt textR vLen withRV wordsA wordsR ks vs).trans (by rw [condT (and_t (Nat.ble_eq_true_of_le (show List.length ([] : List Int) ≤ 1000 from Nat.zero_le _)) (show isWs ([] : List Int) = true from rfl))])) ?_
  rw [KnC1_1_1_1_1]; refine Gets.seq ?_
  refine Kngo (x := .normal) (s' := (KnS7 kLen manyV textAt vLen ks vs)) ((KnR7 byteRV byteV headN isWb isWs kLen manyV sizeN textA textAt textR vLen withRV wordsA wordsR ks vs).trans (by rw [condT (and_t (Nat.ble_eq_true_of_le (show List.length ([] : List Int) ≤ 1000 from Nat.zero_le _)) (show isWs ([] : List Int) = true from rfl))])) ?_
  rw [KnC1_1_1_1_1_1]; refine Gets.seq ?_
  refine Kngo (x := .normal) (s' := (KnS8 headN kLen manyV textAt vLen ks vs)) ((KnR8 byteRV byteV headN isWb isWs kLen manyV sizeN textA textAt textR vLen withRV wordsA wordsR ks vs).trans (by rw [condT (and_t (ble_t (by omega)) (ble_t (by omega)))])) ?_
  rw [KnC1_1_1_1_1_1_1]; refine Gets.seq ?_
  rw [KnC1_1_1_1_1_1_1_0]; refine Gets.seq ?_
  refine Kngo (KnR9 byteRV byteV headN isWb isWs kLen manyV sizeN textA textAt textR vLen withRV wordsA wordsR ks vs) ?_
  rw [KnC1_1_1_1_1_1_1_0_1]; refine Gets.cond false (by kernel_rfl) (by kernel_rfl) ?_; show Gets _ _ (codeAt [1, 1, 1, 1, 1, 1, 1, 0, 1, 1] BKn) _ _
  refine Kngo (KnR10 byteRV byteV headN isWb isWs kLen manyV sizeN textA textAt textR vLen withRV wordsA wordsR ks vs) ?_
  rw [KnC1_1_1_1_1_1_1_1]; refine Gets.seq ?_
  refine Kngo (x := .normal) (s' := (KnS11 headN kLen manyV textAt vLen ks vs)) ((KnR11 byteRV byteV headN isWb isWs kLen manyV sizeN textA textAt textR vLen withRV wordsA wordsR ks vs).trans (by rw [condT (hwh)])) ?_
  rw [KnC1_1_1_1_1_1_1_1_1]; refine Gets.seq ?_
  refine Kngo (x := .normal) (s' := (KnS12 headN kLen manyV textAt vLen ks vs)) ((KnR12 byteRV byteV headN isWb isWs kLen manyV sizeN textA textAt textR vLen withRV wordsA wordsR ks vs).trans (by rw [condT (hwh)])) ?_
  rw [KnC1_1_1_1_1_1_1_1_1_1]; refine Gets.seq ?_
  refine Kngo (x := .normal) (s' := KnS13) ((KnR13 byteRV byteV headN isWb isWs kLen manyV sizeN textA textAt textR vLen withRV wordsA wordsR ks vs).trans (by rw [condT (Nat.ble_eq_true_of_le (show List.length ([] : List Int) ≤ 100000 from Nat.zero_le _)), condT (decide_eq_true rfl), condT (beq_self_eq_true _), condT (beq_self_eq_true _), condT (and_t (ble_t (by omega)) (ble_t (by omega))), condT (and_t (ble_t (by omega)) (ble_t (by omega))), condT (beq_self_eq_true _), condT (beq_self_eq_true _), condT (beq_self_eq_true _), condT (hwh), condT (hwh), condT (beq_self_eq_true _)])) ?_
  rw [KnC1_1_1_1_1_1_1_1_1_1_1]; refine Gets.ev fitL5.mix fitL5.cfg (fitL5.sound wbxn_sound 14 0) 14 rfl (s' := KSt.low KnS13) (x := .ret) rfl ?_
  exact hq
noncomputable def QL : Ex → St → Prop := Eng.Ends Try.prog Try.f6.results.toList fun r _ => r = .bool true
theorem qL {s : KSt} (h : resL Try.prog s.low Try.f6.results.toList = some [.bool true]) : QL .ret s.low := Ends.of h rfl
theorem ro1 {off : Nat} {l : List Int} {e : TypeId} : Ro (mkH [.tail off .u64 l e]).low := fun a o ho => by
  obtain ⟨_, rfl⟩ := mkH1_get ho; rfl
theorem ro0 : Ro (mkH []).low := fun a o ho => by cases ho
theorem told (ks vs : ByteArray) (off n c : Nat) (l : List Int) (e : TypeId) (hl : l.length = c) (hnc : n ≤ c) (hww : ∀ x ∈ l, word64 x) : Tells Try.prog 6 [(.string ks), (.string vs), (.slice (some ⟨0, off, none⟩) n c)] (mkH [.tail off .u64 l e]).low (.bool true) := by
  by_cases hk : 1000 < ks.size
  · refine Gets.tells Try.func6 BLf_is (by rw [noVars]; exact Nat.zero_le _) rfl ?_ ro1
    show Gets Try.prog (KH.low ⟨1, 1, [(0, 0, .tail off .u64 l e)]⟩) BLf (KSt.low (LfS0 ks vs off n c l e)) QL
    exact Lfk hk (qL (by kernel_rfl))
  by_cases hv : 1000 < vs.size
  · refine Gets.tells Try.func6 BLf_is (by rw [noVars]; exact Nat.zero_le _) rfl ?_ ro1
    show Gets Try.prog (KH.low ⟨1, 1, [(0, 0, .tail off .u64 l e)]⟩) BLf (KSt.low (LfS0 ks vs off n c l e)) QL
    exact Lfv (by omega) hv (qL (by kernel_rfl))
  by_cases hn : 60 < n
  · refine Gets.tells Try.func6 BLf_is (by rw [noVars]; exact Nat.zero_le _) rfl ?_ ro1
    show Gets Try.prog (KH.low ⟨1, 1, [(0, 0, .tail off .u64 l e)]⟩) BLf (KSt.low (LfS0 ks vs off n c l e)) QL
    exact Lfn (by omega) (by omega) hn (qL (by kernel_rfl))
  have hws : isWs (List.take n (List.drop (off - off) l)) = true := isWs_of fun x hx => hww x (List.mem_of_mem_drop (List.mem_of_mem_take hx))
  have hw : isWb (l.getD 0 0) = true := isWb_of (getD_word hww 0)
  have hwh := isWb_of (headN_word ks vs)
  have hbl : (ks.size ≤ 16 ∧ vs.size ≤ 24) → (boxW ks vs).length ≤ 100 := fun h => by rw [boxW_len]; unfold manyN; omega
  by_cases hf : ks.size ≤ 16 ∧ vs.size ≤ 24
  · by_cases hn1 : 1 ≤ n
    · refine Gets.tells Try.func6 BLfh_is (by rw [noVars]; exact Nat.zero_le _) rfl ?_ ro1
      show Gets Try.prog (KH.low ⟨1, 1, [(0, 0, .tail off .u64 l e)]⟩) BLfh (KSt.low (LfhS0 ks vs off n c l e)) QL
      exact Lfhm (by omega) (by omega) (by omega) hl hnc hws (by omega) (by omega) (hbl hf) hwh hn1 hw (qL (by kernel_rfl))
    · refine Gets.tells Try.func6 BLf_is (by rw [noVars]; exact Nat.zero_le _) rfl ?_ ro1
      show Gets Try.prog (KH.low ⟨1, 1, [(0, 0, .tail off .u64 l e)]⟩) BLf (KSt.low (LfS0 ks vs off n c l e)) QL
      exact Lfm (by omega) (by omega) (by omega) hl hnc hws (by omega) (by omega) (hbl hf) hwh (by omega) (qL (by kernel_rfl))
  · by_cases hn1 : 1 ≤ n
    · refine Gets.tells Try.func6 BLnh_is (by rw [noVars]; exact Nat.zero_le _) rfl ?_ ro1
      show Gets Try.prog (KH.low ⟨1, 1, [(0, 0, .tail off .u64 l e)]⟩) BLnh (KSt.low (LnhS0 ks vs off n c l e)) QL
      by_cases h16 : 16 < ks.size
      · exact Lnha (by omega) (by omega) (by omega) hl hnc hws hwh hn1 hw h16 (qL (by kernel_rfl))
      · exact Lnhb (by omega) (by omega) (by omega) hl hnc hws hwh hn1 hw (by omega) (by omega) (qL (by kernel_rfl))
    · refine Gets.tells Try.func6 BLn_is (by rw [noVars]; exact Nat.zero_le _) rfl ?_ ro1
      show Gets Try.prog (KH.low ⟨1, 1, [(0, 0, .tail off .u64 l e)]⟩) BLn (KSt.low (LnS0 ks vs off n c l e)) QL
      by_cases h16 : 16 < ks.size
      · exact Lna (by omega) (by omega) (by omega) hl hnc hws hwh (by omega) h16 (qL (by kernel_rfl))
      · exact Lnb (by omega) (by omega) (by omega) hl hnc hws hwh (by omega) (by omega) (by omega) (qL (by kernel_rfl))
theorem toldV (ks vs : ByteArray) : Tells Try.prog 6 [(.string ks), (.string vs), (.slice (some ⟨0, 0, some 0⟩) 0 0)] (mkH []).low (.bool true) := by
  by_cases hk : 1000 < ks.size
  · refine Gets.tells Try.func6 BKf_is (by rw [noVars]; exact Nat.zero_le _) rfl ?_ ro0
    show Gets Try.prog (KH.low ⟨0, 1, []⟩) BKf (KSt.low (KfS0 ks vs)) QL
    exact Kfk hk (qL (by kernel_rfl))
  by_cases hv : 1000 < vs.size
  · refine Gets.tells Try.func6 BKf_is (by rw [noVars]; exact Nat.zero_le _) rfl ?_ ro0
    show Gets Try.prog (KH.low ⟨0, 1, []⟩) BKf (KSt.low (KfS0 ks vs)) QL
    exact Kfv (by omega) hv (qL (by kernel_rfl))
  have hwh := isWb_of (headN_word ks vs)
  have hbl : (ks.size ≤ 16 ∧ vs.size ≤ 24) → (boxW ks vs).length ≤ 100 := fun h => by rw [boxW_len]; unfold manyN; omega
  by_cases hf : ks.size ≤ 16 ∧ vs.size ≤ 24
  · refine Gets.tells Try.func6 BKf_is (by rw [noVars]; exact Nat.zero_le _) rfl ?_ ro0
    show Gets Try.prog (KH.low ⟨0, 1, []⟩) BKf (KSt.low (KfS0 ks vs)) QL
    exact Kfm (by omega) (by omega) (by omega) (by omega) (hbl hf) hwh (qL (by kernel_rfl))
  · refine Gets.tells Try.func6 BKn_is (by rw [noVars]; exact Nat.zero_le _) rfl ?_ ro0
    show Gets Try.prog (KH.low ⟨0, 1, []⟩) BKn (KSt.low (KnS0 ks vs)) QL
    by_cases h16 : 16 < ks.size
    · exact Kna (by omega) (by omega) hwh h16 (qL (by kernel_rfl))
    · exact Knb (by omega) (by omega) hwh (by omega) (by omega) (qL (by kernel_rfl))
theorem own : ownKnob Try.prog.godebug = none := by kernel_rfl
theorem lifted (os : Os) (started : os.Started) (H : Type) (enc : TypeId × Value → H) :
    ReturnsInHanded {} Try.checked os 6 .any (Rows.boxTellsSpec.pre6 enc Try.prog Try.f6 Rows.boxTellsRow.domain false) (Rows.boxTellsSpec.post enc Try.prog Try.f6 false true false false) := by
  refine returnsInHanded_of_change_sized (C := Try.checked) own started (by kernel_rfl) Try.func6
    (ChangeSpec.witness6 (enc := enc) (C := Try.checked) false ⟨#[], #[.string ⟨#[]⟩, .string ⟨#[]⟩, .slice none 0 0], []⟩ 8 (by kernel_rfl) (by kernel_rfl) (by kernel_rfl) (by kernel_rfl)) ?_
  intro W base args ds gs before hval0 hW hcnd hsz0 _
  have hval : ∀ (j : Nat) t v, Try.f6.params[j]? = some t → args[j]? = some v → Value.okWide Try.prog W .any base t v := hval0
  have hW' := hW
  obtain ⟨p, q, hA0, hV, rfl, hfz, hnd⟩ := hW
  have hA : DataW.TrodAll enc Try.prog W 0 (fun _ => true) true Try.f6.params.toList args.toList ds p := hA0
  rw [Try.params6] at hA hval
  have hS := hA
  obtain ⟨v0, vs0, d0, ds0, p0, q0, hargs, rfl, rfl, h0, r0⟩ := trodAll_cons hA
  obtain ⟨v1, vs1, d1, ds1, p1, q1, rfl, rfl, rfl, h1, r1⟩ := trodAll_cons r0
  obtain ⟨v2, vs2, d2, ds2, p2, q2, rfl, rfl, rfl, h2, r2⟩ := trodAll_cons r1
  obtain ⟨rfl, rfl, rfl⟩ := trodAll_nil r2
  obtain rfl : args = #[v0, v1, v2] := by cases args; simp_all
  obtain ⟨rfl, rfl⟩ := trodVars_none hV
  suffices hc : Calls Try.prog 6 #[v0, v1, v2] W fun e W' => e = .returned (.bool true) ∧ Below W.heap.size W W' by
    refine hc.mono fun e W' ⟨he, bel⟩ => ?_
    subst he
    exact ⟨_, rfl, _, _, _, [], _, [], hW', trodAll_mk1 (shut_bool Try.underlying4 _), trodAll_stays fineA bel (by decide +kernel) hS, rfl, bel.frame _, fun h => by cases h⟩
  clear hS hW' hfz hnd
  obtain ⟨a0, rfl, rfl, rfl, w0⟩ := Go.ChangeMaps.open_string Try.underlying9 (hval 0 9 v0 rfl rfl) h0
  obtain ⟨a1, rfl, rfl, rfl, w1⟩ := Go.ChangeMaps.open_string Try.underlying9 (hval 1 9 v1 rfl rfl) h1
  have o2 := Go.Eng.open_row Try.underlying22 Try.underlying30 (by kernel_rfl) (hval 2 22 v2 rfl rfl) h2
  rcases o2 with ⟨x, rfl⟩ | ⟨a, len, cap, zs, rfl, h0, hle, hmx, hz, hcell, hwf⟩
  · exact toldV a0 a1 _ W _ (.cons (.of_plain rfl) (.cons (.of_plain rfl) (.cons (.slice0 _ _) (.nil _)))) (Sim.none noVars W _ _)
  · obtain ⟨e, hS, hsp⟩ := Sim.oneRow noVars (by omega) hcell
    obtain ⟨blk, off, spot⟩ := a
    simp only at hsp
    subst hsp
    exact told a0 a1 off len cap zs e hz hle (fun x hx => wf_u64 (hwf x hx)) _ W _ (.cons (.of_plain rfl) (.cons (.of_plain rfl) (.cons (R.slice_row rfl) (.nil _)))) hS
theorem over : Rows.boxTellsRow.holds Try.pinned (OpenSpec.ofChange Rows.boxTellsSpec) :=
  OpenClaim.holds_of_wide 6 Try.f6 rfl rfl rfl rfl rfl rfl rfl ⟨rfl, rfl, rfl, rfl, rfl⟩ rfl rfl rfl rfl rfl (by kernel_rfl) Try.func6 (by kernel_rfl)
    (of_decide_eq_true (by kernel_rfl)) (by unfold Func.isWrapper; first | (rw [if_pos (by decide +kernel)]; kernel_rfl) | (rw [if_neg (by decide +kernel)]; exact ⟨rfl, rfl⟩))
    (fun os started H enc _ => lifted os started H enc)
end Go.Proofs.Ytnhdjmpbmecnoaa.boxTells
namespace Go.Proofs.Ytnhdjmpbmecnoaa
/-- The row, under a short name, for the claim. -/
theorem boxTells_holds : Rows.BoxTellsSaid := boxTells.over
#print axioms boxTells_holds
end Go.Proofs.Ytnhdjmpbmecnoaa
