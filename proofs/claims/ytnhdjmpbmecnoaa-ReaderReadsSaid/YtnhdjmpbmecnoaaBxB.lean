/- Boxes' cells, and what they tell. -/
import Derived.Test.YtnhdjmpbmecnoaaBxA
import Derived.WalkKit
import Derived.ProofKit
import Derived.OpenShut
import Derived.ChangeOld
import Derived.Below
import Derived.SizedLaws
namespace Go.Proofs.Ytnhdjmpbmecnoaa
open Go.Eng
open Go.ChangeShapes Go.WideShapes Go.ChangeAt Go.RowKit
set_option linter.unusedVariables false
set_option linter.unusedSimpArgs false
set_option maxRecDepth 100000
noncomputable def cfgY : Cfg := ⟨[]⟩
noncomputable def fsY : List FuncId := [11, 12, 13, 14, 15, 16, 17, 18, 26, 27, 28, 29, 30, 31, 32, 33, 34, 35, 48, 49, 50, 54, 55, 56]
theorem fitY : Fit Try.prog cfgY fsY := ⟨by kernel_rfl, Cfg.ok_of (by kernel_rfl), by kernel_rfl⟩
noncomputable def Bb : Code := bodyOf Try.prog 56
theorem Bb_is : Try.f56.body = some Bb := by kernel_rfl
theorem Bb_ok : okCode Try.prog.globals.size Bb = true := by kernel_rfl
noncomputable abbrev bEV (byteRV : Int → Int → Int) (byteV : Int → Int → Int) (headN : ByteArray → ByteArray → Int) (isWb : Int → Bool) (kLen : Int → Int) (manyV : Int → Int) (sizeN : Int → Int) (textA : List Int → Int → ByteArray × Bool) (textAt : List Int → Int → Int → ByteArray) (textR : List Int → Int → ByteArray × Bool) (vLen : Int → Int) (withRV : Int → Int → Int → Int) (wordsA : ByteArray → List Int) (wordsR : ByteArray → List Int) (c : Code) (s : KSt) (lv : List Nat) : Option (Ex × KSt) := evCK Try.prog cfgY (runK Try.prog cfgY fsY (conTk bxaDom (rcK [] (bxaT byteRV byteV headN isWb kLen manyV sizeN textA textAt textR vLen withRV wordsA wordsR))) 14 40) 14 c s (normC 1 lv)
theorem bgo {lv_ : List Nat} {co_ : Code} {st_ s' : KSt} {x : Ex} {Q : Ex → St → Prop} {off : Nat} {l : List Int} {e : TypeId} (hE_ : bEV byteRV byteV headN isWb kLen manyV sizeN textA textAt textR vLen withRV wordsA wordsR co_ st_ lv_ = some (x, s')) (hq_ : Q x s'.low) (hok_ : okCode Try.prog.globals.size co_ = true := by kernel_rfl) : Gets Try.prog (KH.low ⟨1, 1, [(0, 0, .tail off .u64 l e)]⟩) co_ st_.low Q := Gets.ofN fitY bxa_sound (rc_agree _ _ _) 14 40 hok_ hE_ hq_
theorem beX {v : Value} {b c : Bool} (h : v = .bool b) (hb : b = c) : v = .bool c := by rw [h, hb]
theorem bC : Bb = .seq (codeAt [0] Bb) (codeAt [1] Bb) := by kernel_rfl
theorem bC1 : (codeAt [1] Bb) = .seq (codeAt [1, 0] Bb) (codeAt [1, 1] Bb) := by kernel_rfl
theorem bC1_1 : (codeAt [1, 1] Bb) = .seq (codeAt [1, 1, 0] Bb) (codeAt [1, 1, 1] Bb) := by kernel_rfl
theorem bC1_1_0 : (codeAt [1, 1, 0] Bb) = .seq (codeAt [1, 1, 0, 0] Bb) (codeAt [1, 1, 0, 1] Bb) := by kernel_rfl
theorem bC1_1_0_1_0_0 : (codeAt [1, 1, 0, 1, 0, 0] Bb) = .seq (codeAt [1, 1, 0, 1, 0, 0, 0] Bb) (codeAt [1, 1, 0, 1, 0, 0, 1] Bb) := by kernel_rfl
theorem bC1_1_0_1_0_0_0 : (codeAt [1, 1, 0, 1, 0, 0, 0] Bb) = .seq (codeAt [1, 1, 0, 1, 0, 0, 0, 0] Bb) (codeAt [1, 1, 0, 1, 0, 0, 0, 1] Bb) := by kernel_rfl
theorem bC1_1_0_1_0_0_0_1 : (codeAt [1, 1, 0, 1, 0, 0, 0, 1] Bb) = .cond (.tmp 12) (codeAt [1, 1, 0, 1, 0, 0, 0, 1, 0] Bb) (codeAt [1, 1, 0, 1, 0, 0, 0, 1, 1] Bb) := by kernel_rfl
theorem bC1_1_0_1_0_0_0_1_1 : (codeAt [1, 1, 0, 1, 0, 0, 0, 1, 1] Bb) = .exit 0 := by kernel_rfl
theorem bC1_1_0_1_0_0_1 : (codeAt [1, 1, 0, 1, 0, 0, 1] Bb) = .seq (codeAt [1, 1, 0, 1, 0, 0, 1, 0] Bb) (codeAt [1, 1, 0, 1, 0, 0, 1, 1] Bb) := by kernel_rfl
theorem bC1_1_0_1_0_0_1_0 : (codeAt [1, 1, 0, 1, 0, 0, 1, 0] Bb) = .block 1 (codeAt [1, 1, 0, 1, 0, 0, 1, 0, 0] Bb) := by kernel_rfl
theorem bC1_1_1 : (codeAt [1, 1, 1] Bb) = .seq (codeAt [1, 1, 1, 0] Bb) (codeAt [1, 1, 1, 1] Bb) := by kernel_rfl
theorem bC1_1_1_1 : (codeAt [1, 1, 1, 1] Bb) = .ret := by kernel_rfl
theorem bC1_1_0_1 : (codeAt [1, 1, 0, 1] Bb) = .block 0 (codeAt [1, 1, 0, 1, 0] Bb) := by kernel_rfl
theorem bC1_1_0_1_0 : (codeAt [1, 1, 0, 1, 0] Bb) = .loop (codeAt [1, 1, 0, 1, 0, 0] Bb) := by kernel_rfl
section
variable (byteRV : Int → Int → Int) (byteV : Int → Int → Int) (headN : ByteArray → ByteArray → Int) (isWb : Int → Bool) (kLen : Int → Int) (manyV : Int → Int) (sizeN : Int → Int) (textA : List Int → Int → ByteArray × Bool) (textAt : List Int → Int → Int → ByteArray) (textR : List Int → Int → ByteArray × Bool) (vLen : Int → Int) (withRV : Int → Int → Int → Int) (wordsA : ByteArray → List Int) (wordsR : ByteArray → List Int)
noncomputable def bS0 (off : Nat) (n : Nat) (c : Nat) (a : Int) (k : Int) (l : List Int) (e : TypeId) : KSt := (firstK [(.slice (some ⟨0, off, none⟩) n c), (.int .i64 a), (.int .i64 k)] 30 ⟨1, 1, [(0, 0, .tail off .u64 l e)]⟩)
noncomputable def bS1 (off : Nat) (n : Nat) (c : Nat) (a : Int) (k : Int) (l : List Int) (e : TypeId) : KSt := ⟨(frameL 30 [(0, (.slice (some ⟨0, off, none⟩) n c)), (1, (.int .i64 a)), (2, (.int .i64 k))]), ⟨1, 1, [(0, 0, .tail off .u64 l e)]⟩⟩
theorem bR1 (off : Nat) (n : Nat) (c : Nat) (a : Int) (k : Int) (l : List Int) (e : TypeId) : bEV byteRV byteV headN isWb kLen manyV sizeN textA textAt textR vLen withRV wordsA wordsR (codeAt [0] Bb) (bS0 off n c a k l e) [0, 1, 2] =
  some (.normal, (bS1 off n c a k l e)) := by kernel_rfl
noncomputable def bS2 (off : Nat) (n : Nat) (c : Nat) (a : Int) (k : Int) (l : List Int) (e : TypeId) : KSt := ⟨(frameL 30 [(0, (.slice (some ⟨0, off, none⟩) n c)), (1, (.int .i64 a)), (2, (.int .i64 k)), (7, (.slice (some ⟨1, 0, none⟩) 0 0))]), ⟨2, 1, [(1, 0, .cells [] 5 true), (0, 0, .tail off .u64 l e)]⟩⟩
theorem bR2 (off : Nat) (n : Nat) (c : Nat) (a : Int) (k : Int) (l : List Int) (e : TypeId) : bEV byteRV byteV headN isWb kLen manyV sizeN textA textAt textR vLen withRV wordsA wordsR (codeAt [1, 0] Bb) (bS1 off n c a k l e) [0, 1, 2, 7] =
  some (.normal, (bS2 off n c a k l e)) := by kernel_rfl
noncomputable def bS3 (off : Nat) (n : Nat) (c : Nat) (a : Int) (k : Int) (l : List Int) (e : TypeId) : KSt := ⟨(frameL 30 [(0, (.slice (some ⟨0, off, none⟩) n c)), (1, (.int .i64 a)), (2, (.int .i64 k)), (7, (.slice (some ⟨1, 0, none⟩) 0 0)), (8, (.int .i64 0))]), ⟨2, 1, [(1, 0, .cells [] 5 true), (0, 0, .tail off .u64 l e)]⟩⟩
theorem bR3 (off : Nat) (n : Nat) (c : Nat) (a : Int) (k : Int) (l : List Int) (e : TypeId) : bEV byteRV byteV headN isWb kLen manyV sizeN textA textAt textR vLen withRV wordsA wordsR (codeAt [1, 1, 0, 0] Bb) (bS2 off n c a k l e) [0, 1, 2, 7, 8] =
  some (.normal, (bS3 off n c a k l e)) := by kernel_rfl
noncomputable def bS4 (off : Nat) (n : Nat) (c : Nat) (a : Int) (k : Int) (q : Nat) (i : Int) (A : List Int) (l : List Int) (e : TypeId) : KSt := ⟨(frameL 30 [(0, (.slice (some ⟨0, off, none⟩) n c)), (1, (.int .i64 a)), (2, (.int .i64 k)), (7, (.slice (some ⟨1, 0, none⟩) q q)), (8, (.int .i64 i))]), ⟨2, 1, [(1, 0, .ints .u8 A 5 true), (0, 0, .tail off .u64 l e)]⟩⟩
noncomputable def bS5 (off : Nat) (n : Nat) (c : Nat) (a : Int) (k : Int) (q : Nat) (i : Int) (A : List Int) (l : List Int) (e : TypeId) : KSt := ⟨(frameL 30 [(0, (.slice (some ⟨0, off, none⟩) n c)), (1, (.int .i64 a)), (2, (.int .i64 k)), (7, (.slice (some ⟨1, 0, none⟩) q q)), (8, (.int .i64 i)), (12, (.bool (decide (i < k))))]), ⟨2, 1, [(1, 0, .ints .u8 A 5 true), (0, 0, .tail off .u64 l e)]⟩⟩
theorem bR4 (off : Nat) (n : Nat) (c : Nat) (a : Int) (k : Int) (q : Nat) (i : Int) (A : List Int) (l : List Int) (e : TypeId) : bEV byteRV byteV headN isWb kLen manyV sizeN textA textAt textR vLen withRV wordsA wordsR (codeAt [1, 1, 0, 1, 0, 0, 0, 0] Bb) (bS4 off n c a k q i A l e) [0, 1, 2, 7, 8, 12] =
  some (.normal, (bS5 off n c a k q i A l e)) := by kernel_rfl
noncomputable def bS6 (off : Nat) (n : Nat) (c : Nat) (a : Int) (k : Int) (i : Int) (l : List Int) (e : TypeId) : KSt := ⟨(frameL 30 [(0, (.slice (some ⟨0, off, none⟩) n c)), (1, (.int .i64 a)), (2, (.int .i64 k)), (7, (.slice (some ⟨1, 0, none⟩) 0 0)), (8, (.int .i64 i))]), ⟨2, 1, [(1, 0, .cells [] 5 true), (0, 0, .tail off .u64 l e)]⟩⟩
noncomputable def bS7 (off : Nat) (n : Nat) (c : Nat) (a : Int) (k : Int) (i : Int) (l : List Int) (e : TypeId) : KSt := ⟨(frameL 30 [(0, (.slice (some ⟨0, off, none⟩) n c)), (1, (.int .i64 a)), (2, (.int .i64 k)), (7, (.slice (some ⟨1, 0, none⟩) 0 0)), (8, (.int .i64 i)), (12, (.bool (decide (i < k))))]), ⟨2, 1, [(1, 0, .cells [] 5 true), (0, 0, .tail off .u64 l e)]⟩⟩
theorem bR5 (off : Nat) (n : Nat) (c : Nat) (a : Int) (k : Int) (i : Int) (l : List Int) (e : TypeId) : bEV byteRV byteV headN isWb kLen manyV sizeN textA textAt textR vLen withRV wordsA wordsR (codeAt [1, 1, 0, 1, 0, 0, 0, 0] Bb) (bS6 off n c a k i l e) [0, 1, 2, 7, 8, 12] =
  some (.normal, (bS7 off n c a k i l e)) := by kernel_rfl
theorem bR6 (off : Nat) (n : Nat) (c : Nat) (a : Int) (k : Int) (q : Nat) (i : Int) (A : List Int) (l : List Int) (e : TypeId) : bEV byteRV byteV headN isWb kLen manyV sizeN textA textAt textR vLen withRV wordsA wordsR (codeAt [1, 1, 0, 1, 0, 0, 0, 1, 0] Bb) (bS5 off n c a k q i A l e) [0, 1, 2, 7, 8] =
  some (.normal, (bS4 off n c a k q i A l e)) := by kernel_rfl
noncomputable def bS8 (off : Nat) (n : Nat) (c : Nat) (a : Int) (k : Int) (q : Nat) (i : Int) (A : List Int) (l : List Int) (e : TypeId) : KSt := ⟨(frameL 30 [(0, (.slice (some ⟨0, off, none⟩) n c)), (1, (.int .i64 a)), (2, (.int .i64 k)), (7, (.slice (some ⟨1, 0, none⟩) (q + 1) q)), (8, (.int .i64 i))]), ⟨2, 1, [(1, 0, .ints .u8 (List.take (0 + q) A ++ [(IntKind.wrap .u8 (byteRV (List.getD (List.take n (List.drop (off - off) l)) (Int.toNat (IntKind.wrap .i64 (a + (IntKind.wrap .i64 (Int.tdiv i 8))))) 0) (Int.tmod i 8)))] ++ List.drop ((0 + q) + (List.length [(IntKind.wrap .u8 (byteRV (List.getD (List.take n (List.drop (off - off) l)) (Int.toNat (IntKind.wrap .i64 (a + (IntKind.wrap .i64 (Int.tdiv i 8))))) 0) (Int.tmod i 8)))])) A) 5 true), (0, 0, .tail off .u64 l e)]⟩⟩
noncomputable def bS9 (off : Nat) (n : Nat) (c : Nat) (a : Int) (k : Int) (i : Int) (l : List Int) (e : TypeId) : KSt := ⟨(frameL 30 [(0, (.slice (some ⟨0, off, none⟩) n c)), (1, (.int .i64 a)), (2, (.int .i64 k)), (7, (.slice (some ⟨1, 0, none⟩) 1 1)), (8, (.int .i64 i))]), ⟨2, 1, [(1, 0, .cells [(.int .u8 (IntKind.wrap .u8 (byteRV (List.getD (List.take n (List.drop (off - off) l)) (Int.toNat (IntKind.wrap .i64 (a + (IntKind.wrap .i64 (Int.tdiv i 8))))) 0) (Int.tmod i 8))))] 5 true), (0, 0, .tail off .u64 l e)]⟩⟩
noncomputable def bS10 (off : Nat) (n : Nat) (c : Nat) (a : Int) (k : Int) (q : Nat) (i : Int) (A : List Int) (l : List Int) (e : TypeId) : KSt := ⟨(frameL 30 [(0, (.slice (some ⟨0, off, none⟩) n c)), (1, (.int .i64 a)), (2, (.int .i64 k)), (7, (.slice (some ⟨1, 0, none⟩) (q + 1) (q + 1))), (8, (.int .i64 i))]), ⟨2, 1, [(1, 0, .ints .u8 (List.take q A ++ [(IntKind.wrap .u8 (byteRV (List.getD (List.take n (List.drop (off - off) l)) (Int.toNat (IntKind.wrap .i64 (a + (IntKind.wrap .i64 (Int.tdiv i 8))))) 0) (Int.tmod i 8)))]) 5 true), (0, 0, .tail off .u64 l e)]⟩⟩
theorem bR7 (off : Nat) (n : Nat) (c : Nat) (a : Int) (k : Int) (q : Nat) (i : Int) (A : List Int) (l : List Int) (e : TypeId) : bEV byteRV byteV headN isWb kLen manyV sizeN textA textAt textR vLen withRV wordsA wordsR (codeAt [1, 1, 0, 1, 0, 0, 1, 0, 0] Bb) (bS4 off n c a k q i A l e) [0, 1, 2, 7, 8] =
  bif (Nat.ble off off) then
    bif (Nat.ble ((off - off) + n) (List.length l)) then
      bif ((decide (0 ≤ (IntKind.wrap .i64 (a + (IntKind.wrap .i64 (Int.tdiv i 8)))))) && (Nat.ble (List.length (List.take n (List.drop (off - off) l))) 1000000)) then
        bif (Nat.ble ((q + 1) * 2) 1099511627776) then
          bif (Nat.ble (q + 1) q) then
            bif (Nat.ble (0 + (q + 1)) (List.length A)) then
              some (.normal, (bS8 byteRV off n c a k q i A l e))
            else
              none
          else
            bif ((Nat.beq q 0) && (Nat.beq q 0)) then
              some (.normal, (bS9 byteRV off n c a k i l e))
            else
              bif ((Nat.ble q (List.length A)) && (Nat.ble 1 q)) then
                some (.normal, (bS10 byteRV off n c a k q i A l e))
              else
                none
        else
          none
      else
        none
    else
      none
  else
    none := by kernel_rfl
noncomputable def bS11 (off : Nat) (n : Nat) (c : Nat) (a : Int) (k : Int) (q : Nat) (i : Int) (A : List Int) (l : List Int) (e : TypeId) : KSt := ⟨(frameL 30 [(0, (.slice (some ⟨0, off, none⟩) n c)), (1, (.int .i64 a)), (2, (.int .i64 k)), (7, (.slice (some ⟨1, 0, none⟩) (q + 1) (q + 1))), (8, (.int .i64 i))]), ⟨2, 1, [(1, 0, .ints .u8 (List.take q A ++ [(IntKind.wrap .u8 (byteRV (List.getD (List.take n (List.drop (off - off) l)) (Int.toNat (a + (i / 8))) 0) (i % 8)))]) 5 true), (0, 0, .tail off .u64 l e)]⟩⟩
noncomputable def bS12 (off : Nat) (n : Nat) (c : Nat) (a : Int) (k : Int) (q : Nat) (i : Int) (A : List Int) (l : List Int) (e : TypeId) : KSt := ⟨(frameL 30 [(0, (.slice (some ⟨0, off, none⟩) n c)), (1, (.int .i64 a)), (2, (.int .i64 k)), (7, (.slice (some ⟨1, 0, none⟩) (q + 1) (q + 1))), (8, (.int .i64 (IntKind.wrap .i64 (i + 1))))]), ⟨2, 1, [(1, 0, .ints .u8 (List.take q A ++ [(IntKind.wrap .u8 (byteRV (List.getD (List.take n (List.drop (off - off) l)) (Int.toNat (a + (i / 8))) 0) (i % 8)))]) 5 true), (0, 0, .tail off .u64 l e)]⟩⟩
theorem bR8 (off : Nat) (n : Nat) (c : Nat) (a : Int) (k : Int) (q : Nat) (i : Int) (A : List Int) (l : List Int) (e : TypeId) : bEV byteRV byteV headN isWb kLen manyV sizeN textA textAt textR vLen withRV wordsA wordsR (codeAt [1, 1, 0, 1, 0, 0, 1, 1] Bb) (bS11 byteRV off n c a k q i A l e) [0, 1, 2, 7, 8] =
  some (.normal, (bS12 byteRV off n c a k q i A l e)) := by kernel_rfl
noncomputable def bS13 (off : Nat) (n : Nat) (c : Nat) (a : Int) (k : Int) (q : Nat) (i : Int) (A : List Int) (l : List Int) (e : TypeId) : KSt := ⟨(frameL 30 [(0, (.slice (some ⟨0, off, none⟩) n c)), (1, (.int .i64 a)), (2, (.int .i64 k)), (7, (.slice (some ⟨1, 0, none⟩) (q + 1) (q + 1))), (8, (.int .i64 (i + 1)))]), ⟨2, 1, [(1, 0, .ints .u8 (List.take q A ++ [(IntKind.wrap .u8 (byteRV (List.getD (List.take n (List.drop (off - off) l)) (Int.toNat (a + (i / 8))) 0) (i % 8)))]) 5 true), (0, 0, .tail off .u64 l e)]⟩⟩
theorem bR9 (off : Nat) (n : Nat) (c : Nat) (a : Int) (k : Int) (i : Int) (l : List Int) (e : TypeId) : bEV byteRV byteV headN isWb kLen manyV sizeN textA textAt textR vLen withRV wordsA wordsR (codeAt [1, 1, 0, 1, 0, 0, 0, 1, 0] Bb) (bS7 off n c a k i l e) [0, 1, 2, 7, 8] =
  some (.normal, (bS6 off n c a k i l e)) := by kernel_rfl
theorem bR10 (off : Nat) (n : Nat) (c : Nat) (a : Int) (k : Int) (i : Int) (l : List Int) (e : TypeId) : bEV byteRV byteV headN isWb kLen manyV sizeN textA textAt textR vLen withRV wordsA wordsR (codeAt [1, 1, 0, 1, 0, 0, 1, 0, 0] Bb) (bS6 off n c a k i l e) [0, 1, 2, 7, 8] =
  bif (Nat.ble off off) then
    bif (Nat.ble ((off - off) + n) (List.length l)) then
      bif ((decide (0 ≤ (IntKind.wrap .i64 (a + (IntKind.wrap .i64 (Int.tdiv i 8)))))) && (Nat.ble (List.length (List.take n (List.drop (off - off) l))) 1000000)) then
        some (.normal, (bS9 byteRV off n c a k i l e))
      else
        none
    else
      none
  else
    none := by kernel_rfl
noncomputable def bS14 (off : Nat) (n : Nat) (c : Nat) (a : Int) (k : Int) (i : Int) (l : List Int) (e : TypeId) : KSt := ⟨(frameL 30 [(0, (.slice (some ⟨0, off, none⟩) n c)), (1, (.int .i64 a)), (2, (.int .i64 k)), (7, (.slice (some ⟨1, 0, none⟩) 1 1)), (8, (.int .i64 i))]), ⟨2, 1, [(1, 0, .cells [(.int .u8 (IntKind.wrap .u8 (byteRV (List.getD (List.take n (List.drop (off - off) l)) (Int.toNat (a + (i / 8))) 0) (i % 8))))] 5 true), (0, 0, .tail off .u64 l e)]⟩⟩
noncomputable def bS15 (off : Nat) (n : Nat) (c : Nat) (a : Int) (k : Int) (i : Int) (l : List Int) (e : TypeId) : KSt := ⟨(frameL 30 [(0, (.slice (some ⟨0, off, none⟩) n c)), (1, (.int .i64 a)), (2, (.int .i64 k)), (7, (.slice (some ⟨1, 0, none⟩) 1 1)), (8, (.int .i64 (IntKind.wrap .i64 (i + 1))))]), ⟨2, 1, [(1, 0, .cells [(.int .u8 (IntKind.wrap .u8 (byteRV (List.getD (List.take n (List.drop (off - off) l)) (Int.toNat (a + (i / 8))) 0) (i % 8))))] 5 true), (0, 0, .tail off .u64 l e)]⟩⟩
theorem bR11 (off : Nat) (n : Nat) (c : Nat) (a : Int) (k : Int) (i : Int) (l : List Int) (e : TypeId) : bEV byteRV byteV headN isWb kLen manyV sizeN textA textAt textR vLen withRV wordsA wordsR (codeAt [1, 1, 0, 1, 0, 0, 1, 1] Bb) (bS14 byteRV off n c a k i l e) [0, 1, 2, 7, 8] =
  some (.normal, (bS15 byteRV off n c a k i l e)) := by kernel_rfl
noncomputable def bS16 (off : Nat) (n : Nat) (c : Nat) (a : Int) (k : Int) (i : Int) (l : List Int) (e : TypeId) : KSt := ⟨(frameL 30 [(0, (.slice (some ⟨0, off, none⟩) n c)), (1, (.int .i64 a)), (2, (.int .i64 k)), (7, (.slice (some ⟨1, 0, none⟩) 1 1)), (8, (.int .i64 (i + 1)))]), ⟨2, 1, [(1, 0, .cells [(.int .u8 (IntKind.wrap .u8 (byteRV (List.getD (List.take n (List.drop (off - off) l)) (Int.toNat (a + (i / 8))) 0) (i % 8))))] 5 true), (0, 0, .tail off .u64 l e)]⟩⟩
noncomputable def bS17 (q : Nat) (A : List Int) (off : Nat) (l : List Int) (e : TypeId) : KSt := ⟨(frameL 30 [(6, (.string (bytesOfNums (List.take q (List.drop 0 A)))))]), ⟨1, 1, [(0, 0, .tail off .u64 l e)]⟩⟩
theorem bR12 (off : Nat) (n : Nat) (c : Nat) (a : Int) (k : Int) (q : Nat) (i : Int) (A : List Int) (l : List Int) (e : TypeId) : bEV byteRV byteV headN isWb kLen manyV sizeN textA textAt textR vLen withRV wordsA wordsR (codeAt [1, 1, 1, 0] Bb) (bS5 off n c a k q i A l e) [6] =
  bif (Nat.ble (0 + q) (List.length A)) then
    some (.normal, (bS17 q A off l e))
  else
    none := by kernel_rfl
noncomputable def bS18 (off : Nat) (l : List Int) (e : TypeId) : KSt := ⟨(frameL 30 [(6, (.string ⟨#[]⟩))]), ⟨1, 1, [(0, 0, .tail off .u64 l e)]⟩⟩
theorem bR13 (off : Nat) (n : Nat) (c : Nat) (a : Int) (k : Int) (i : Int) (l : List Int) (e : TypeId) : bEV byteRV byteV headN isWb kLen manyV sizeN textA textAt textR vLen withRV wordsA wordsR (codeAt [1, 1, 1, 0] Bb) (bS7 off n c a k i l e) [6] =
  some (.normal, (bS18 off l e)) := by kernel_rfl
end
theorem bpre {off : Nat} {l : List Int} {e : TypeId} {n : Nat} {c : Nat} {a : Int} {k : Int}   {Q : Ex → St → Prop} (hq : Gets Try.prog (KH.low ⟨1, 1, [(0, 0, .tail off .u64 l e)]⟩) (codeAt [1, 1, 0, 1] Bb) (KSt.low (bS3 off n c a k l e)) (onN (fun s => Gets Try.prog (KH.low ⟨1, 1, [(0, 0, .tail off .u64 l e)]⟩) (codeAt [1, 1, 1] Bb) s (Q)) (Q))) : Gets Try.prog (KH.low ⟨1, 1, [(0, 0, .tail off .u64 l e)]⟩) Bb (KSt.low (bS0 off n c a k l e)) Q := by
  rw [bC]; refine Gets.seq ?_
  refine bgo (bR1 byteRV byteV headN isWb kLen manyV sizeN textA textAt textR vLen withRV wordsA wordsR off n c a k l e) ?_
  rw [bC1]; refine Gets.seq ?_
  refine bgo (bR2 byteRV byteV headN isWb kLen manyV sizeN textA textAt textR vLen withRV wordsA wordsR off n c a k l e) ?_
  rw [bC1_1]; refine Gets.seq ?_
  rw [bC1_1_0]; refine Gets.seq ?_
  refine bgo (bR3 byteRV byteV headN isWb kLen manyV sizeN textA textAt textR vLen withRV wordsA wordsR off n c a k l e) ?_
  exact hq
theorem bx {k : Int} {i : Int} {off : Nat} {n : Nat} {c : Nat} {a : Int} {q : Nat} {A : List Int} {l : List Int} {e : TypeId} (hi : k ≤ i)   {Q : Ex → St → Prop} (hq : Q (.exit 0) (KSt.low (bS5 off n c a k q i A l e))) : Gets Try.prog (KH.low ⟨1, 1, [(0, 0, .tail off .u64 l e)]⟩) (codeAt [1, 1, 0, 1, 0, 0] Bb) (KSt.low (bS4 off n c a k q i A l e)) Q := by
  rw [bC1_1_0_1_0_0]; refine Gets.seq ?_
  rw [bC1_1_0_1_0_0_0]; refine Gets.seq ?_
  refine bgo (bR4 byteRV byteV headN isWb kLen manyV sizeN textA textAt textR vLen withRV wordsA wordsR off n c a k q i A l e) ?_
  rw [bC1_1_0_1_0_0_0_1]; refine Gets.cond false (by kernel_rfl) (beX (b := (decide (i < k))) (by kernel_rfl) ((show (decide (i < k)) = false from decide_eq_false (by omega)))) ?_; show Gets _ _ (codeAt [1, 1, 0, 1, 0, 0, 0, 1, 1] Bb) _ _
  rw [bC1_1_0_1_0_0_0_1_1]; refine Gets.ev fitY.mix fitY.cfg (fitY.sound bxa_sound 14 0) 14 rfl (s' := KSt.low (bS5 off n c a k q i A l e)) (x := (.exit 0)) rfl ?_
  exact hq
theorem bx0 {k : Int} {i : Int} {off : Nat} {n : Nat} {c : Nat} {a : Int} {l : List Int} {e : TypeId} (hi : k ≤ i)   {Q : Ex → St → Prop} (hq : Q (.exit 0) (KSt.low (bS7 off n c a k i l e))) : Gets Try.prog (KH.low ⟨1, 1, [(0, 0, .tail off .u64 l e)]⟩) (codeAt [1, 1, 0, 1, 0, 0] Bb) (KSt.low (bS6 off n c a k i l e)) Q := by
  rw [bC1_1_0_1_0_0]; refine Gets.seq ?_
  rw [bC1_1_0_1_0_0_0]; refine Gets.seq ?_
  refine bgo (bR5 byteRV byteV headN isWb kLen manyV sizeN textA textAt textR vLen withRV wordsA wordsR off n c a k i l e) ?_
  rw [bC1_1_0_1_0_0_0_1]; refine Gets.cond false (by kernel_rfl) (beX (b := (decide (i < k))) (by kernel_rfl) ((show (decide (i < k)) = false from decide_eq_false (by omega)))) ?_; show Gets _ _ (codeAt [1, 1, 0, 1, 0, 0, 0, 1, 1] Bb) _ _
  rw [bC1_1_0_1_0_0_0_1_1]; refine Gets.ev fitY.mix fitY.cfg (fitY.sound bxa_sound 14 0) 14 rfl (s' := KSt.low (bS7 off n c a k i l e)) (x := (.exit 0)) rfl ?_
  exact hq
theorem brd {a : Int} {i : Int} {k : Int} {l : List Int} {n : Nat} {A : List Int} {q : Nat} {off : Nat} {c : Nat} {e : TypeId} (ha : 0 ≤ a) (ha2 : a ≤ 1000) (hi : 0 ≤ i) (hik : i < k) (hk : k ≤ 1000) (hl : l.length = n) (hn : n ≤ 1000000) (hA : A.length = q) (hq : 1 ≤ q) (hq2 : q ≤ 1000)   {Q : Ex → St → Prop} (hq : Q .normal (KSt.low (bS13 byteRV off n c a k q i A l e))) : Gets Try.prog (KH.low ⟨1, 1, [(0, 0, .tail off .u64 l e)]⟩) (codeAt [1, 1, 0, 1, 0, 0] Bb) (KSt.low (bS4 off n c a k q i A l e)) Q := by
  rw [bC1_1_0_1_0_0]; refine Gets.seq ?_
  rw [bC1_1_0_1_0_0_0]; refine Gets.seq ?_
  refine bgo (bR4 byteRV byteV headN isWb kLen manyV sizeN textA textAt textR vLen withRV wordsA wordsR off n c a k q i A l e) ?_
  rw [bC1_1_0_1_0_0_0_1]; refine Gets.cond true (by kernel_rfl) (beX (b := (decide (i < k))) (by kernel_rfl) ((show (decide (i < k)) = true from decide_eq_true (by omega)))) ?_; show Gets _ _ (codeAt [1, 1, 0, 1, 0, 0, 0, 1, 0] Bb) _ _
  refine bgo (bR6 byteRV byteV headN isWb kLen manyV sizeN textA textAt textR vLen withRV wordsA wordsR off n c a k q i A l e) ?_
  rw [bC1_1_0_1_0_0_1]; refine Gets.seq ?_
  rw [bC1_1_0_1_0_0_1_0]; refine Gets.block ?_
  refine bgo (x := .normal) (s' := (bS11 byteRV off n c a k q i A l e)) ((bR7 byteRV byteV headN isWb kLen manyV sizeN textA textAt textR vLen withRV wordsA wordsR off n c a k q i A l e).trans (by rw [condT (ble_t (by omega)), condT (ble_t (by (first | omega | ((try simp (disch := omega) only [wrap_i64_id]) <;> omega) | (simp only [Int.tdiv_eq_ediv_of_nonneg hi, Int.tmod_eq_emod_of_nonneg hi]; (try simp (disch := omega) only [wrap_i64_id]) <;> omega)))), condT (and_t (decide_eq_true (by (first | omega | ((try simp (disch := omega) only [wrap_i64_id]) <;> omega) | (simp only [Int.tdiv_eq_ediv_of_nonneg hi, Int.tmod_eq_emod_of_nonneg hi]; (try simp (disch := omega) only [wrap_i64_id]) <;> omega)))) (Nat.ble_eq_true_of_le (by simp; omega))), condT (ble_t (by omega)), condF (ble_f (by omega)), condF (and_f1 (nbeq_f (by omega))), condT (and_t (ble_t (by (first | omega | ((try simp (disch := omega) only [wrap_i64_id]) <;> omega) | (simp only [Int.tdiv_eq_ediv_of_nonneg hi, Int.tmod_eq_emod_of_nonneg hi]; (try simp (disch := omega) only [wrap_i64_id]) <;> omega)))) (ble_t (by omega)))] <;> (show some (Ex.normal, (bS10 byteRV off n c a k q i A l e)) = some (Ex.normal, (bS11 byteRV off n c a k q i A l e)); unfold bS10 bS11; rw [(show (Int.tdiv i 8) = (i / 8) from Int.tdiv_eq_ediv_of_nonneg (by omega)), (show (Int.tmod i 8) = (i % 8) from Int.tmod_eq_emod_of_nonneg (by omega)), (show (IntKind.wrap .i64 (i / 8)) = (i / 8) from wrap_i64_id (by omega) (by omega)), (show (IntKind.wrap .i64 (a + (i / 8))) = (a + (i / 8)) from wrap_i64_id (by omega) (by omega))]))) ?_
  refine bgo (x := .normal) (s' := (bS13 byteRV off n c a k q i A l e)) ((bR8 byteRV byteV headN isWb kLen manyV sizeN textA textAt textR vLen withRV wordsA wordsR off n c a k q i A l e).trans (by (show some (Ex.normal, (bS12 byteRV off n c a k q i A l e)) = some (Ex.normal, (bS13 byteRV off n c a k q i A l e)); unfold bS12 bS13; rw [(show (IntKind.wrap .i64 (i + 1)) = (i + 1) from wrap_i64_id (by omega) (by omega))]))) ?_
  exact hq
theorem brd0 {a : Int} {i : Int} {k : Int} {l : List Int} {n : Nat} {off : Nat} {c : Nat} {e : TypeId} (ha : 0 ≤ a) (ha2 : a ≤ 1000) (hi : 0 ≤ i) (hik : i < k) (hk : k ≤ 1000) (hl : l.length = n) (hn : n ≤ 1000000)   {Q : Ex → St → Prop} (hq : Q .normal (KSt.low (bS16 byteRV off n c a k i l e))) : Gets Try.prog (KH.low ⟨1, 1, [(0, 0, .tail off .u64 l e)]⟩) (codeAt [1, 1, 0, 1, 0, 0] Bb) (KSt.low (bS6 off n c a k i l e)) Q := by
  rw [bC1_1_0_1_0_0]; refine Gets.seq ?_
  rw [bC1_1_0_1_0_0_0]; refine Gets.seq ?_
  refine bgo (bR5 byteRV byteV headN isWb kLen manyV sizeN textA textAt textR vLen withRV wordsA wordsR off n c a k i l e) ?_
  rw [bC1_1_0_1_0_0_0_1]; refine Gets.cond true (by kernel_rfl) (beX (b := (decide (i < k))) (by kernel_rfl) ((show (decide (i < k)) = true from decide_eq_true (by omega)))) ?_; show Gets _ _ (codeAt [1, 1, 0, 1, 0, 0, 0, 1, 0] Bb) _ _
  refine bgo (bR9 byteRV byteV headN isWb kLen manyV sizeN textA textAt textR vLen withRV wordsA wordsR off n c a k i l e) ?_
  rw [bC1_1_0_1_0_0_1]; refine Gets.seq ?_
  rw [bC1_1_0_1_0_0_1_0]; refine Gets.block ?_
  refine bgo (x := .normal) (s' := (bS14 byteRV off n c a k i l e)) ((bR10 byteRV byteV headN isWb kLen manyV sizeN textA textAt textR vLen withRV wordsA wordsR off n c a k i l e).trans (by rw [condT (ble_t (by omega)), condT (ble_t (by (first | omega | ((try simp (disch := omega) only [wrap_i64_id]) <;> omega) | (simp only [Int.tdiv_eq_ediv_of_nonneg hi, Int.tmod_eq_emod_of_nonneg hi]; (try simp (disch := omega) only [wrap_i64_id]) <;> omega)))), condT (and_t (decide_eq_true (by (first | omega | ((try simp (disch := omega) only [wrap_i64_id]) <;> omega) | (simp only [Int.tdiv_eq_ediv_of_nonneg hi, Int.tmod_eq_emod_of_nonneg hi]; (try simp (disch := omega) only [wrap_i64_id]) <;> omega)))) (Nat.ble_eq_true_of_le (by simp; omega)))] <;> (show some (Ex.normal, (bS9 byteRV off n c a k i l e)) = some (Ex.normal, (bS14 byteRV off n c a k i l e)); unfold bS9 bS14; rw [(show (Int.tdiv i 8) = (i / 8) from Int.tdiv_eq_ediv_of_nonneg (by omega)), (show (Int.tmod i 8) = (i % 8) from Int.tmod_eq_emod_of_nonneg (by omega)), (show (IntKind.wrap .i64 (i / 8)) = (i / 8) from wrap_i64_id (by omega) (by omega)), (show (IntKind.wrap .i64 (a + (i / 8))) = (a + (i / 8)) from wrap_i64_id (by omega) (by omega))]))) ?_
  refine bgo (x := .normal) (s' := (bS16 byteRV off n c a k i l e)) ((bR11 byteRV byteV headN isWb kLen manyV sizeN textA textAt textR vLen withRV wordsA wordsR off n c a k i l e).trans (by (show some (Ex.normal, (bS15 byteRV off n c a k i l e)) = some (Ex.normal, (bS16 byteRV off n c a k i l e)); unfold bS15 bS16; rw [(show (IntKind.wrap .i64 (i + 1)) = (i + 1) from wrap_i64_id (by omega) (by omega))]))) ?_
  exact hq
theorem bfi {A : List Int} {q : Nat} {off : Nat} {l : List Int} {e : TypeId} {n : Nat} {c : Nat} {a : Int} {k : Int} {i : Int} (hA : A.length = q) (hq : 1 ≤ q)   {Q : Ex → St → Prop} (hq : Q .ret (KSt.low (bS17 q A off l e))) : Gets Try.prog (KH.low ⟨1, 1, [(0, 0, .tail off .u64 l e)]⟩) (codeAt [1, 1, 1] Bb) (KSt.low (bS5 off n c a k q i A l e)) Q := by
  rw [bC1_1_1]; refine Gets.seq ?_
  refine bgo (x := .normal) (s' := (bS17 q A off l e)) ((bR12 byteRV byteV headN isWb kLen manyV sizeN textA textAt textR vLen withRV wordsA wordsR off n c a k q i A l e).trans (by rw [condT (ble_t (by (first | omega | ((try simp (disch := omega) only [wrap_i64_id]) <;> omega))))])) ?_
  rw [bC1_1_1_1]; refine Gets.ev fitY.mix fitY.cfg (fitY.sound bxa_sound 14 0) 14 rfl (s' := KSt.low (bS17 q A off l e)) (x := .ret) rfl ?_
  exact hq
theorem bfi0 {off : Nat} {l : List Int} {e : TypeId} {n : Nat} {c : Nat} {a : Int} {k : Int} {i : Int}   {Q : Ex → St → Prop} (hq : Q .ret (KSt.low (bS18 off l e))) : Gets Try.prog (KH.low ⟨1, 1, [(0, 0, .tail off .u64 l e)]⟩) (codeAt [1, 1, 1] Bb) (KSt.low (bS7 off n c a k i l e)) Q := by
  rw [bC1_1_1]; refine Gets.seq ?_
  refine bgo (bR13 byteRV byteV headN isWb kLen manyV sizeN textA textAt textR vLen withRV wordsA wordsR off n c a k i l e) ?_
  rw [bC1_1_1_1]; refine Gets.ev fitY.mix fitY.cfg (fitY.sound bxa_sound 14 0) 14 rfl (s' := KSt.low (bS18 off l e)) (x := .ret) rfl ?_
  exact hq
noncomputable def Bg : Code := bodyOf Try.prog 56
theorem Bg_is : Try.f56.body = some Bg := by kernel_rfl
theorem Bg_ok : okCode Try.prog.globals.size Bg = true := by kernel_rfl
noncomputable abbrev gEV (byteRV : Int → Int → Int) (byteV : Int → Int → Int) (headN : ByteArray → ByteArray → Int) (isWb : Int → Bool) (kLen : Int → Int) (manyV : Int → Int) (sizeN : Int → Int) (textA : List Int → Int → ByteArray × Bool) (textAt : List Int → Int → Int → ByteArray) (textR : List Int → Int → ByteArray × Bool) (vLen : Int → Int) (withRV : Int → Int → Int → Int) (wordsA : ByteArray → List Int) (wordsR : ByteArray → List Int) (c : Code) (s : KSt) (lv : List Nat) : Option (Ex × KSt) := evCK Try.prog cfgY (runK Try.prog cfgY fsY (conTk bxaDom (rcK [] (bxaT byteRV byteV headN isWb kLen manyV sizeN textA textAt textR vLen withRV wordsA wordsR))) 14 40) 14 c s (normC 0 lv)
theorem ggo {lv_ : List Nat} {co_ : Code} {st_ s' : KSt} {x : Ex} {Q : Ex → St → Prop} (hE_ : gEV byteRV byteV headN isWb kLen manyV sizeN textA textAt textR vLen withRV wordsA wordsR co_ st_ lv_ = some (x, s')) (hq_ : Q x s'.low) (hok_ : okCode Try.prog.globals.size co_ = true := by kernel_rfl) : Gets Try.prog (KH.low ⟨0, 1, []⟩) co_ st_.low Q := Gets.ofN fitY bxa_sound (rc_agree _ _ _) 14 40 hok_ hE_ hq_
theorem geX {v : Value} {b c : Bool} (h : v = .bool b) (hb : b = c) : v = .bool c := by rw [h, hb]
theorem gC : Bg = .seq (codeAt [0] Bg) (codeAt [1] Bg) := by kernel_rfl
theorem gC1 : (codeAt [1] Bg) = .seq (codeAt [1, 0] Bg) (codeAt [1, 1] Bg) := by kernel_rfl
theorem gC1_1 : (codeAt [1, 1] Bg) = .seq (codeAt [1, 1, 0] Bg) (codeAt [1, 1, 1] Bg) := by kernel_rfl
theorem gC1_1_0 : (codeAt [1, 1, 0] Bg) = .seq (codeAt [1, 1, 0, 0] Bg) (codeAt [1, 1, 0, 1] Bg) := by kernel_rfl
theorem gC1_1_0_1_0_0 : (codeAt [1, 1, 0, 1, 0, 0] Bg) = .seq (codeAt [1, 1, 0, 1, 0, 0, 0] Bg) (codeAt [1, 1, 0, 1, 0, 0, 1] Bg) := by kernel_rfl
theorem gC1_1_0_1_0_0_0 : (codeAt [1, 1, 0, 1, 0, 0, 0] Bg) = .seq (codeAt [1, 1, 0, 1, 0, 0, 0, 0] Bg) (codeAt [1, 1, 0, 1, 0, 0, 0, 1] Bg) := by kernel_rfl
theorem gC1_1_0_1_0_0_0_1 : (codeAt [1, 1, 0, 1, 0, 0, 0, 1] Bg) = .cond (.tmp 12) (codeAt [1, 1, 0, 1, 0, 0, 0, 1, 0] Bg) (codeAt [1, 1, 0, 1, 0, 0, 0, 1, 1] Bg) := by kernel_rfl
theorem gC1_1_0_1_0_0_0_1_1 : (codeAt [1, 1, 0, 1, 0, 0, 0, 1, 1] Bg) = .exit 0 := by kernel_rfl
theorem gC1_1_0_1_0_0_1 : (codeAt [1, 1, 0, 1, 0, 0, 1] Bg) = .seq (codeAt [1, 1, 0, 1, 0, 0, 1, 0] Bg) (codeAt [1, 1, 0, 1, 0, 0, 1, 1] Bg) := by kernel_rfl
theorem gC1_1_0_1_0_0_1_0 : (codeAt [1, 1, 0, 1, 0, 0, 1, 0] Bg) = .block 1 (codeAt [1, 1, 0, 1, 0, 0, 1, 0, 0] Bg) := by kernel_rfl
theorem gC1_1_1 : (codeAt [1, 1, 1] Bg) = .seq (codeAt [1, 1, 1, 0] Bg) (codeAt [1, 1, 1, 1] Bg) := by kernel_rfl
theorem gC1_1_1_1 : (codeAt [1, 1, 1, 1] Bg) = .ret := by kernel_rfl
theorem gC1_1_0_1 : (codeAt [1, 1, 0, 1] Bg) = .block 0 (codeAt [1, 1, 0, 1, 0] Bg) := by kernel_rfl
theorem gC1_1_0_1_0 : (codeAt [1, 1, 0, 1, 0] Bg) = .loop (codeAt [1, 1, 0, 1, 0, 0] Bg) := by kernel_rfl
section
variable (byteRV : Int → Int → Int) (byteV : Int → Int → Int) (headN : ByteArray → ByteArray → Int) (isWb : Int → Bool) (kLen : Int → Int) (manyV : Int → Int) (sizeN : Int → Int) (textA : List Int → Int → ByteArray × Bool) (textAt : List Int → Int → Int → ByteArray) (textR : List Int → Int → ByteArray × Bool) (vLen : Int → Int) (withRV : Int → Int → Int → Int) (wordsA : ByteArray → List Int) (wordsR : ByteArray → List Int)
noncomputable def gS0 (a : Int) (k : Int) : KSt := (firstK [(.slice (some ⟨0, 0, some 0⟩) 0 0), (.int .i64 a), (.int .i64 k)] 30 ⟨0, 1, []⟩)
noncomputable def gS1 (a : Int) (k : Int) : KSt := ⟨(frameL 30 [(0, (.slice (some ⟨0, 0, some 0⟩) 0 0)), (1, (.int .i64 a)), (2, (.int .i64 k))]), ⟨0, 1, []⟩⟩
theorem gR1 (a : Int) (k : Int) : gEV byteRV byteV headN isWb kLen manyV sizeN textA textAt textR vLen withRV wordsA wordsR (codeAt [0] Bg) (gS0 a k) [0, 1, 2] =
  some (.normal, (gS1 a k)) := by kernel_rfl
noncomputable def gS2 (a : Int) (k : Int) : KSt := ⟨(frameL 30 [(0, (.slice (some ⟨0, 0, some 0⟩) 0 0)), (1, (.int .i64 a)), (2, (.int .i64 k)), (7, (.slice (some ⟨0, 0, none⟩) 0 0))]), ⟨1, 1, [(0, 0, .cells [] 5 true)]⟩⟩
theorem gR2 (a : Int) (k : Int) : gEV byteRV byteV headN isWb kLen manyV sizeN textA textAt textR vLen withRV wordsA wordsR (codeAt [1, 0] Bg) (gS1 a k) [0, 1, 2, 7] =
  some (.normal, (gS2 a k)) := by kernel_rfl
noncomputable def gS3 (a : Int) (k : Int) : KSt := ⟨(frameL 30 [(0, (.slice (some ⟨0, 0, some 0⟩) 0 0)), (1, (.int .i64 a)), (2, (.int .i64 k)), (7, (.slice (some ⟨0, 0, none⟩) 0 0)), (8, (.int .i64 0))]), ⟨1, 1, [(0, 0, .cells [] 5 true)]⟩⟩
theorem gR3 (a : Int) (k : Int) : gEV byteRV byteV headN isWb kLen manyV sizeN textA textAt textR vLen withRV wordsA wordsR (codeAt [1, 1, 0, 0] Bg) (gS2 a k) [0, 1, 2, 7, 8] =
  some (.normal, (gS3 a k)) := by kernel_rfl
noncomputable def gS4 (a : Int) (k : Int) (q : Nat) (i : Int) (A : List Int) : KSt := ⟨(frameL 30 [(0, (.slice (some ⟨0, 0, some 0⟩) 0 0)), (1, (.int .i64 a)), (2, (.int .i64 k)), (7, (.slice (some ⟨0, 0, none⟩) q q)), (8, (.int .i64 i))]), ⟨1, 1, [(0, 0, .ints .u8 A 5 true)]⟩⟩
noncomputable def gS5 (a : Int) (k : Int) (q : Nat) (i : Int) (A : List Int) : KSt := ⟨(frameL 30 [(0, (.slice (some ⟨0, 0, some 0⟩) 0 0)), (1, (.int .i64 a)), (2, (.int .i64 k)), (7, (.slice (some ⟨0, 0, none⟩) q q)), (8, (.int .i64 i)), (12, (.bool (decide (i < k))))]), ⟨1, 1, [(0, 0, .ints .u8 A 5 true)]⟩⟩
theorem gR4 (a : Int) (k : Int) (q : Nat) (i : Int) (A : List Int) : gEV byteRV byteV headN isWb kLen manyV sizeN textA textAt textR vLen withRV wordsA wordsR (codeAt [1, 1, 0, 1, 0, 0, 0, 0] Bg) (gS4 a k q i A) [0, 1, 2, 7, 8, 12] =
  some (.normal, (gS5 a k q i A)) := by kernel_rfl
noncomputable def gS6 (a : Int) (k : Int) (i : Int) : KSt := ⟨(frameL 30 [(0, (.slice (some ⟨0, 0, some 0⟩) 0 0)), (1, (.int .i64 a)), (2, (.int .i64 k)), (7, (.slice (some ⟨0, 0, none⟩) 0 0)), (8, (.int .i64 i))]), ⟨1, 1, [(0, 0, .cells [] 5 true)]⟩⟩
noncomputable def gS7 (a : Int) (k : Int) (i : Int) : KSt := ⟨(frameL 30 [(0, (.slice (some ⟨0, 0, some 0⟩) 0 0)), (1, (.int .i64 a)), (2, (.int .i64 k)), (7, (.slice (some ⟨0, 0, none⟩) 0 0)), (8, (.int .i64 i)), (12, (.bool (decide (i < k))))]), ⟨1, 1, [(0, 0, .cells [] 5 true)]⟩⟩
theorem gR5 (a : Int) (k : Int) (i : Int) : gEV byteRV byteV headN isWb kLen manyV sizeN textA textAt textR vLen withRV wordsA wordsR (codeAt [1, 1, 0, 1, 0, 0, 0, 0] Bg) (gS6 a k i) [0, 1, 2, 7, 8, 12] =
  some (.normal, (gS7 a k i)) := by kernel_rfl
theorem gR6 (a : Int) (k : Int) (q : Nat) (i : Int) (A : List Int) : gEV byteRV byteV headN isWb kLen manyV sizeN textA textAt textR vLen withRV wordsA wordsR (codeAt [1, 1, 0, 1, 0, 0, 0, 1, 0] Bg) (gS5 a k q i A) [0, 1, 2, 7, 8] =
  some (.normal, (gS4 a k q i A)) := by kernel_rfl
noncomputable def gS8 (a : Int) (k : Int) (q : Nat) (i : Int) (A : List Int) : KSt := ⟨(frameL 30 [(0, (.slice (some ⟨0, 0, some 0⟩) 0 0)), (1, (.int .i64 a)), (2, (.int .i64 k)), (7, (.slice (some ⟨0, 0, none⟩) (q + 1) q)), (8, (.int .i64 i))]), ⟨1, 1, [(0, 0, .ints .u8 (List.take (0 + q) A ++ [(IntKind.wrap .u8 (byteRV (List.getD ([] : List Int) (Int.toNat (IntKind.wrap .i64 (a + (IntKind.wrap .i64 (Int.tdiv i 8))))) 0) (Int.tmod i 8)))] ++ List.drop ((0 + q) + (List.length [(IntKind.wrap .u8 (byteRV (List.getD ([] : List Int) (Int.toNat (IntKind.wrap .i64 (a + (IntKind.wrap .i64 (Int.tdiv i 8))))) 0) (Int.tmod i 8)))])) A) 5 true)]⟩⟩
noncomputable def gS9 (a : Int) (k : Int) (i : Int) : KSt := ⟨(frameL 30 [(0, (.slice (some ⟨0, 0, some 0⟩) 0 0)), (1, (.int .i64 a)), (2, (.int .i64 k)), (7, (.slice (some ⟨0, 0, none⟩) 1 1)), (8, (.int .i64 i))]), ⟨1, 1, [(0, 0, .cells [(.int .u8 (IntKind.wrap .u8 (byteRV (List.getD ([] : List Int) (Int.toNat (IntKind.wrap .i64 (a + (IntKind.wrap .i64 (Int.tdiv i 8))))) 0) (Int.tmod i 8))))] 5 true)]⟩⟩
noncomputable def gS10 (a : Int) (k : Int) (q : Nat) (i : Int) (A : List Int) : KSt := ⟨(frameL 30 [(0, (.slice (some ⟨0, 0, some 0⟩) 0 0)), (1, (.int .i64 a)), (2, (.int .i64 k)), (7, (.slice (some ⟨0, 0, none⟩) (q + 1) (q + 1))), (8, (.int .i64 i))]), ⟨1, 1, [(0, 0, .ints .u8 (List.take q A ++ [(IntKind.wrap .u8 (byteRV (List.getD ([] : List Int) (Int.toNat (IntKind.wrap .i64 (a + (IntKind.wrap .i64 (Int.tdiv i 8))))) 0) (Int.tmod i 8)))]) 5 true)]⟩⟩
theorem gR7 (a : Int) (k : Int) (q : Nat) (i : Int) (A : List Int) : gEV byteRV byteV headN isWb kLen manyV sizeN textA textAt textR vLen withRV wordsA wordsR (codeAt [1, 1, 0, 1, 0, 0, 1, 0, 0] Bg) (gS4 a k q i A) [0, 1, 2, 7, 8] =
  bif ((decide (0 ≤ (IntKind.wrap .i64 (a + (IntKind.wrap .i64 (Int.tdiv i 8)))))) && (Nat.ble (List.length ([] : List Int)) 1000000)) then
    bif (Nat.ble ((q + 1) * 2) 1099511627776) then
      bif (Nat.ble (q + 1) q) then
        bif (Nat.ble (0 + (q + 1)) (List.length A)) then
          some (.normal, (gS8 byteRV a k q i A))
        else
          none
      else
        bif ((Nat.beq q 0) && (Nat.beq q 0)) then
          some (.normal, (gS9 byteRV a k i))
        else
          bif ((Nat.ble q (List.length A)) && (Nat.ble 1 q)) then
            some (.normal, (gS10 byteRV a k q i A))
          else
            none
    else
      none
  else
    none := by kernel_rfl
noncomputable def gS11 (a : Int) (k : Int) (q : Nat) (i : Int) (A : List Int) : KSt := ⟨(frameL 30 [(0, (.slice (some ⟨0, 0, some 0⟩) 0 0)), (1, (.int .i64 a)), (2, (.int .i64 k)), (7, (.slice (some ⟨0, 0, none⟩) (q + 1) (q + 1))), (8, (.int .i64 i))]), ⟨1, 1, [(0, 0, .ints .u8 (List.take q A ++ [(IntKind.wrap .u8 (byteRV (List.getD ([] : List Int) (Int.toNat (a + (i / 8))) 0) (i % 8)))]) 5 true)]⟩⟩
noncomputable def gS12 (a : Int) (k : Int) (q : Nat) (i : Int) (A : List Int) : KSt := ⟨(frameL 30 [(0, (.slice (some ⟨0, 0, some 0⟩) 0 0)), (1, (.int .i64 a)), (2, (.int .i64 k)), (7, (.slice (some ⟨0, 0, none⟩) (q + 1) (q + 1))), (8, (.int .i64 (IntKind.wrap .i64 (i + 1))))]), ⟨1, 1, [(0, 0, .ints .u8 (List.take q A ++ [(IntKind.wrap .u8 (byteRV (List.getD ([] : List Int) (Int.toNat (a + (i / 8))) 0) (i % 8)))]) 5 true)]⟩⟩
theorem gR8 (a : Int) (k : Int) (q : Nat) (i : Int) (A : List Int) : gEV byteRV byteV headN isWb kLen manyV sizeN textA textAt textR vLen withRV wordsA wordsR (codeAt [1, 1, 0, 1, 0, 0, 1, 1] Bg) (gS11 byteRV a k q i A) [0, 1, 2, 7, 8] =
  some (.normal, (gS12 byteRV a k q i A)) := by kernel_rfl
noncomputable def gS13 (a : Int) (k : Int) (q : Nat) (i : Int) (A : List Int) : KSt := ⟨(frameL 30 [(0, (.slice (some ⟨0, 0, some 0⟩) 0 0)), (1, (.int .i64 a)), (2, (.int .i64 k)), (7, (.slice (some ⟨0, 0, none⟩) (q + 1) (q + 1))), (8, (.int .i64 (i + 1)))]), ⟨1, 1, [(0, 0, .ints .u8 (List.take q A ++ [(IntKind.wrap .u8 (byteRV (List.getD ([] : List Int) (Int.toNat (a + (i / 8))) 0) (i % 8)))]) 5 true)]⟩⟩
theorem gR9 (a : Int) (k : Int) (i : Int) : gEV byteRV byteV headN isWb kLen manyV sizeN textA textAt textR vLen withRV wordsA wordsR (codeAt [1, 1, 0, 1, 0, 0, 0, 1, 0] Bg) (gS7 a k i) [0, 1, 2, 7, 8] =
  some (.normal, (gS6 a k i)) := by kernel_rfl
theorem gR10 (a : Int) (k : Int) (i : Int) : gEV byteRV byteV headN isWb kLen manyV sizeN textA textAt textR vLen withRV wordsA wordsR (codeAt [1, 1, 0, 1, 0, 0, 1, 0, 0] Bg) (gS6 a k i) [0, 1, 2, 7, 8] =
  bif ((decide (0 ≤ (IntKind.wrap .i64 (a + (IntKind.wrap .i64 (Int.tdiv i 8)))))) && (Nat.ble (List.length ([] : List Int)) 1000000)) then
    some (.normal, (gS9 byteRV a k i))
  else
    none := by kernel_rfl
noncomputable def gS14 (a : Int) (k : Int) (i : Int) : KSt := ⟨(frameL 30 [(0, (.slice (some ⟨0, 0, some 0⟩) 0 0)), (1, (.int .i64 a)), (2, (.int .i64 k)), (7, (.slice (some ⟨0, 0, none⟩) 1 1)), (8, (.int .i64 i))]), ⟨1, 1, [(0, 0, .cells [(.int .u8 (IntKind.wrap .u8 (byteRV (List.getD ([] : List Int) (Int.toNat (a + (i / 8))) 0) (i % 8))))] 5 true)]⟩⟩
noncomputable def gS15 (a : Int) (k : Int) (i : Int) : KSt := ⟨(frameL 30 [(0, (.slice (some ⟨0, 0, some 0⟩) 0 0)), (1, (.int .i64 a)), (2, (.int .i64 k)), (7, (.slice (some ⟨0, 0, none⟩) 1 1)), (8, (.int .i64 (IntKind.wrap .i64 (i + 1))))]), ⟨1, 1, [(0, 0, .cells [(.int .u8 (IntKind.wrap .u8 (byteRV (List.getD ([] : List Int) (Int.toNat (a + (i / 8))) 0) (i % 8))))] 5 true)]⟩⟩
theorem gR11 (a : Int) (k : Int) (i : Int) : gEV byteRV byteV headN isWb kLen manyV sizeN textA textAt textR vLen withRV wordsA wordsR (codeAt [1, 1, 0, 1, 0, 0, 1, 1] Bg) (gS14 byteRV a k i) [0, 1, 2, 7, 8] =
  some (.normal, (gS15 byteRV a k i)) := by kernel_rfl
noncomputable def gS16 (a : Int) (k : Int) (i : Int) : KSt := ⟨(frameL 30 [(0, (.slice (some ⟨0, 0, some 0⟩) 0 0)), (1, (.int .i64 a)), (2, (.int .i64 k)), (7, (.slice (some ⟨0, 0, none⟩) 1 1)), (8, (.int .i64 (i + 1)))]), ⟨1, 1, [(0, 0, .cells [(.int .u8 (IntKind.wrap .u8 (byteRV (List.getD ([] : List Int) (Int.toNat (a + (i / 8))) 0) (i % 8))))] 5 true)]⟩⟩
noncomputable def gS17 (q : Nat) (A : List Int) : KSt := ⟨(frameL 30 [(6, (.string (bytesOfNums (List.take q (List.drop 0 A)))))]), ⟨0, 1, []⟩⟩
theorem gR12 (a : Int) (k : Int) (q : Nat) (i : Int) (A : List Int) : gEV byteRV byteV headN isWb kLen manyV sizeN textA textAt textR vLen withRV wordsA wordsR (codeAt [1, 1, 1, 0] Bg) (gS5 a k q i A) [6] =
  bif (Nat.ble (0 + q) (List.length A)) then
    some (.normal, (gS17 q A))
  else
    none := by kernel_rfl
noncomputable def gS18  : KSt := ⟨(frameL 30 [(6, (.string ⟨#[]⟩))]), ⟨0, 1, []⟩⟩
theorem gR13 (a : Int) (k : Int) (i : Int) : gEV byteRV byteV headN isWb kLen manyV sizeN textA textAt textR vLen withRV wordsA wordsR (codeAt [1, 1, 1, 0] Bg) (gS7 a k i) [6] =
  some (.normal, gS18) := by kernel_rfl
end
theorem gpre {a : Int} {k : Int}   {Q : Ex → St → Prop} (hq : Gets Try.prog (KH.low ⟨0, 1, []⟩) (codeAt [1, 1, 0, 1] Bg) (KSt.low (gS3 a k)) (onN (fun s => Gets Try.prog (KH.low ⟨0, 1, []⟩) (codeAt [1, 1, 1] Bg) s (Q)) (Q))) : Gets Try.prog (KH.low ⟨0, 1, []⟩) Bg (KSt.low (gS0 a k)) Q := by
  rw [gC]; refine Gets.seq ?_
  refine ggo (gR1 byteRV byteV headN isWb kLen manyV sizeN textA textAt textR vLen withRV wordsA wordsR a k) ?_
  rw [gC1]; refine Gets.seq ?_
  refine ggo (gR2 byteRV byteV headN isWb kLen manyV sizeN textA textAt textR vLen withRV wordsA wordsR a k) ?_
  rw [gC1_1]; refine Gets.seq ?_
  rw [gC1_1_0]; refine Gets.seq ?_
  refine ggo (gR3 byteRV byteV headN isWb kLen manyV sizeN textA textAt textR vLen withRV wordsA wordsR a k) ?_
  exact hq
theorem gx {k : Int} {i : Int} {a : Int} {q : Nat} {A : List Int} (hi : k ≤ i)   {Q : Ex → St → Prop} (hq : Q (.exit 0) (KSt.low (gS5 a k q i A))) : Gets Try.prog (KH.low ⟨0, 1, []⟩) (codeAt [1, 1, 0, 1, 0, 0] Bg) (KSt.low (gS4 a k q i A)) Q := by
  rw [gC1_1_0_1_0_0]; refine Gets.seq ?_
  rw [gC1_1_0_1_0_0_0]; refine Gets.seq ?_
  refine ggo (gR4 byteRV byteV headN isWb kLen manyV sizeN textA textAt textR vLen withRV wordsA wordsR a k q i A) ?_
  rw [gC1_1_0_1_0_0_0_1]; refine Gets.cond false (by kernel_rfl) (geX (b := (decide (i < k))) (by kernel_rfl) ((show (decide (i < k)) = false from decide_eq_false (by omega)))) ?_; show Gets _ _ (codeAt [1, 1, 0, 1, 0, 0, 0, 1, 1] Bg) _ _
  rw [gC1_1_0_1_0_0_0_1_1]; refine Gets.ev fitY.mix fitY.cfg (fitY.sound bxa_sound 14 0) 14 rfl (s' := KSt.low (gS5 a k q i A)) (x := (.exit 0)) rfl ?_
  exact hq
theorem gx0 {k : Int} {i : Int} {a : Int} (hi : k ≤ i)   {Q : Ex → St → Prop} (hq : Q (.exit 0) (KSt.low (gS7 a k i))) : Gets Try.prog (KH.low ⟨0, 1, []⟩) (codeAt [1, 1, 0, 1, 0, 0] Bg) (KSt.low (gS6 a k i)) Q := by
  rw [gC1_1_0_1_0_0]; refine Gets.seq ?_
  rw [gC1_1_0_1_0_0_0]; refine Gets.seq ?_
  refine ggo (gR5 byteRV byteV headN isWb kLen manyV sizeN textA textAt textR vLen withRV wordsA wordsR a k i) ?_
  rw [gC1_1_0_1_0_0_0_1]; refine Gets.cond false (by kernel_rfl) (geX (b := (decide (i < k))) (by kernel_rfl) ((show (decide (i < k)) = false from decide_eq_false (by omega)))) ?_; show Gets _ _ (codeAt [1, 1, 0, 1, 0, 0, 0, 1, 1] Bg) _ _
  rw [gC1_1_0_1_0_0_0_1_1]; refine Gets.ev fitY.mix fitY.cfg (fitY.sound bxa_sound 14 0) 14 rfl (s' := KSt.low (gS7 a k i)) (x := (.exit 0)) rfl ?_
  exact hq
theorem grd {a : Int} {i : Int} {k : Int} {A : List Int} {q : Nat} (ha : 0 ≤ a) (ha2 : a ≤ 1000) (hi : 0 ≤ i) (hik : i < k) (hk : k ≤ 1000) (hA : A.length = q) (hq : 1 ≤ q) (hq2 : q ≤ 1000)   {Q : Ex → St → Prop} (hq : Q .normal (KSt.low (gS13 byteRV a k q i A))) : Gets Try.prog (KH.low ⟨0, 1, []⟩) (codeAt [1, 1, 0, 1, 0, 0] Bg) (KSt.low (gS4 a k q i A)) Q := by
  rw [gC1_1_0_1_0_0]; refine Gets.seq ?_
  rw [gC1_1_0_1_0_0_0]; refine Gets.seq ?_
  refine ggo (gR4 byteRV byteV headN isWb kLen manyV sizeN textA textAt textR vLen withRV wordsA wordsR a k q i A) ?_
  rw [gC1_1_0_1_0_0_0_1]; refine Gets.cond true (by kernel_rfl) (geX (b := (decide (i < k))) (by kernel_rfl) ((show (decide (i < k)) = true from decide_eq_true (by omega)))) ?_; show Gets _ _ (codeAt [1, 1, 0, 1, 0, 0, 0, 1, 0] Bg) _ _
  refine ggo (gR6 byteRV byteV headN isWb kLen manyV sizeN textA textAt textR vLen withRV wordsA wordsR a k q i A) ?_
  rw [gC1_1_0_1_0_0_1]; refine Gets.seq ?_
  rw [gC1_1_0_1_0_0_1_0]; refine Gets.block ?_
  refine ggo (x := .normal) (s' := (gS11 byteRV a k q i A)) ((gR7 byteRV byteV headN isWb kLen manyV sizeN textA textAt textR vLen withRV wordsA wordsR a k q i A).trans (by rw [condT (and_t (decide_eq_true (by (first | omega | ((try simp (disch := omega) only [wrap_i64_id]) <;> omega) | (simp only [Int.tdiv_eq_ediv_of_nonneg hi, Int.tmod_eq_emod_of_nonneg hi]; (try simp (disch := omega) only [wrap_i64_id]) <;> omega)))) (Nat.ble_eq_true_of_le (show List.length ([] : List Int) ≤ 1000000 from Nat.zero_le _))), condT (ble_t (by omega)), condF (ble_f (by omega)), condF (and_f1 (nbeq_f (by omega))), condT (and_t (ble_t (by (first | omega | ((try simp (disch := omega) only [wrap_i64_id]) <;> omega) | (simp only [Int.tdiv_eq_ediv_of_nonneg hi, Int.tmod_eq_emod_of_nonneg hi]; (try simp (disch := omega) only [wrap_i64_id]) <;> omega)))) (ble_t (by omega)))] <;> (show some (Ex.normal, (gS10 byteRV a k q i A)) = some (Ex.normal, (gS11 byteRV a k q i A)); unfold gS10 gS11; rw [(show (Int.tdiv i 8) = (i / 8) from Int.tdiv_eq_ediv_of_nonneg (by omega)), (show (Int.tmod i 8) = (i % 8) from Int.tmod_eq_emod_of_nonneg (by omega)), (show (IntKind.wrap .i64 (i / 8)) = (i / 8) from wrap_i64_id (by omega) (by omega)), (show (IntKind.wrap .i64 (a + (i / 8))) = (a + (i / 8)) from wrap_i64_id (by omega) (by omega))]))) ?_
  refine ggo (x := .normal) (s' := (gS13 byteRV a k q i A)) ((gR8 byteRV byteV headN isWb kLen manyV sizeN textA textAt textR vLen withRV wordsA wordsR a k q i A).trans (by (show some (Ex.normal, (gS12 byteRV a k q i A)) = some (Ex.normal, (gS13 byteRV a k q i A)); unfold gS12 gS13; rw [(show (IntKind.wrap .i64 (i + 1)) = (i + 1) from wrap_i64_id (by omega) (by omega))]))) ?_
  exact hq
theorem grd0 {a : Int} {i : Int} {k : Int} (ha : 0 ≤ a) (ha2 : a ≤ 1000) (hi : 0 ≤ i) (hik : i < k) (hk : k ≤ 1000)   {Q : Ex → St → Prop} (hq : Q .normal (KSt.low (gS16 byteRV a k i))) : Gets Try.prog (KH.low ⟨0, 1, []⟩) (codeAt [1, 1, 0, 1, 0, 0] Bg) (KSt.low (gS6 a k i)) Q := by
  rw [gC1_1_0_1_0_0]; refine Gets.seq ?_
  rw [gC1_1_0_1_0_0_0]; refine Gets.seq ?_
  refine ggo (gR5 byteRV byteV headN isWb kLen manyV sizeN textA textAt textR vLen withRV wordsA wordsR a k i) ?_
  rw [gC1_1_0_1_0_0_0_1]; refine Gets.cond true (by kernel_rfl) (geX (b := (decide (i < k))) (by kernel_rfl) ((show (decide (i < k)) = true from decide_eq_true (by omega)))) ?_; show Gets _ _ (codeAt [1, 1, 0, 1, 0, 0, 0, 1, 0] Bg) _ _
  refine ggo (gR9 byteRV byteV headN isWb kLen manyV sizeN textA textAt textR vLen withRV wordsA wordsR a k i) ?_
  rw [gC1_1_0_1_0_0_1]; refine Gets.seq ?_
  rw [gC1_1_0_1_0_0_1_0]; refine Gets.block ?_
  refine ggo (x := .normal) (s' := (gS14 byteRV a k i)) ((gR10 byteRV byteV headN isWb kLen manyV sizeN textA textAt textR vLen withRV wordsA wordsR a k i).trans (by rw [condT (and_t (decide_eq_true (by (first | omega | ((try simp (disch := omega) only [wrap_i64_id]) <;> omega) | (simp only [Int.tdiv_eq_ediv_of_nonneg hi, Int.tmod_eq_emod_of_nonneg hi]; (try simp (disch := omega) only [wrap_i64_id]) <;> omega)))) (Nat.ble_eq_true_of_le (show List.length ([] : List Int) ≤ 1000000 from Nat.zero_le _)))] <;> (show some (Ex.normal, (gS9 byteRV a k i)) = some (Ex.normal, (gS14 byteRV a k i)); unfold gS9 gS14; rw [(show (Int.tdiv i 8) = (i / 8) from Int.tdiv_eq_ediv_of_nonneg (by omega)), (show (Int.tmod i 8) = (i % 8) from Int.tmod_eq_emod_of_nonneg (by omega)), (show (IntKind.wrap .i64 (i / 8)) = (i / 8) from wrap_i64_id (by omega) (by omega)), (show (IntKind.wrap .i64 (a + (i / 8))) = (a + (i / 8)) from wrap_i64_id (by omega) (by omega))]))) ?_
  refine ggo (x := .normal) (s' := (gS16 byteRV a k i)) ((gR11 byteRV byteV headN isWb kLen manyV sizeN textA textAt textR vLen withRV wordsA wordsR a k i).trans (by (show some (Ex.normal, (gS15 byteRV a k i)) = some (Ex.normal, (gS16 byteRV a k i)); unfold gS15 gS16; rw [(show (IntKind.wrap .i64 (i + 1)) = (i + 1) from wrap_i64_id (by omega) (by omega))]))) ?_
  exact hq
theorem gfi {A : List Int} {q : Nat} {a : Int} {k : Int} {i : Int} (hA : A.length = q) (hq : 1 ≤ q)   {Q : Ex → St → Prop} (hq : Q .ret (KSt.low (gS17 q A))) : Gets Try.prog (KH.low ⟨0, 1, []⟩) (codeAt [1, 1, 1] Bg) (KSt.low (gS5 a k q i A)) Q := by
  rw [gC1_1_1]; refine Gets.seq ?_
  refine ggo (x := .normal) (s' := (gS17 q A)) ((gR12 byteRV byteV headN isWb kLen manyV sizeN textA textAt textR vLen withRV wordsA wordsR a k q i A).trans (by rw [condT (ble_t (by (first | omega | ((try simp (disch := omega) only [wrap_i64_id]) <;> omega))))])) ?_
  rw [gC1_1_1_1]; refine Gets.ev fitY.mix fitY.cfg (fitY.sound bxa_sound 14 0) 14 rfl (s' := KSt.low (gS17 q A)) (x := .ret) rfl ?_
  exact hq
theorem gfi0 {a : Int} {k : Int} {i : Int}   {Q : Ex → St → Prop} (hq : Q .ret (KSt.low gS18)) : Gets Try.prog (KH.low ⟨0, 1, []⟩) (codeAt [1, 1, 1] Bg) (KSt.low (gS7 a k i)) Q := by
  rw [gC1_1_1]; refine Gets.seq ?_
  refine ggo (gR13 byteRV byteV headN isWb kLen manyV sizeN textA textAt textR vLen withRV wordsA wordsR a k i) ?_
  rw [gC1_1_1_1]; refine Gets.ev fitY.mix fitY.cfg (fitY.sound bxa_sound 14 0) 14 rfl (s' := KSt.low gS18) (x := .ret) rfl ?_
  exact hq
inductive bInv (l : List Int) (a k : Int) (n off c : Nat) (e : TypeId) : Nat → KSt → Prop
  | z (hk : 0 ≤ k) : bInv l a k n off c e k.toNat (bS6 off n c a k (0) l e)
  | at_ (i : Int) (q : Nat) (A : List Int) (hi : 1 ≤ i) (hik : i ≤ k) (hq : q = i.toNat) (hA : A = (List.range q).map (byteAt l a)) : bInv l a k n off c e (k - i).toNat (bS4 off n c a k q i A l e)
theorem loopb (l : List Int) (a k : Int) (n off c : Nat) (e : TypeId) (hl : l.length = n) (hn : n ≤ 1000000) (hw : isWs l = true) (ha : 0 ≤ a) (ha2 : a ≤ 1000) (hk2 : k ≤ 1000) (z : Nat) (t : KSt) (hI : bInv l a k n off c e z t) : Gets Try.prog (KH.low ⟨1, 1, [(0, 0, .tail off .u64 l e)]⟩) (codeAt [1, 1, 0, 1] Bb) t.low (onN (fun s => Gets Try.prog (KH.low ⟨1, 1, [(0, 0, .tail off .u64 l e)]⟩) (codeAt [1, 1, 1] Bb) s ((EndsR Try.prog Try.f56 (.string (textAt l a k)) [.tail off .u64 l e] [] []))) ((EndsR Try.prog Try.f56 (.string (textAt l a k)) [.tail off .u64 l e] [] []))) := by
  have hby : ∀ i : Int, 0 ≤ i → IntKind.wrap .u8 (byteRV (List.getD (List.take n (List.drop (off - off) l)) (Int.toNat (a + (i / 8))) 0) (i % 8)) = byteAt l a i.toNat := fun i hi => by
    unfold byteAt
    rw [Nat.sub_self, List.drop_zero, List.take_of_length_le (by omega), byteV_eq (getD_word (isWs_word hw) _), show Int.toNat (a + (i / 8)) = a.toNat + i.toNat / 8 by omega, show i % 8 = ((i.toNat % 8 : Nat) : Int) by omega]
  rw [bC1_1_0_1, bC1_1_0_1_0]
  refine Gets.loopG (fun z t => bInv l a k n off c e z t) ?_ _ _ hI
  clear hI z t
  intro z t hI
  cases hI with
  | z hk =>
    by_cases hx : k ≤ 0
    · refine bx0 hx ?_
      refine ⟨fun _ => ?_, fun h => by cases h⟩
      have hk0 : k = 0 := by omega
      exact bfi0 (EndsR.ret (l := [.string (⟨#[]⟩ : ByteArray)]) (by kernel_rfl) (by rw [hk0, textAt_eq]; rfl) (Fits.n0 rfl rfl (show (1 : Nat) ≤ 1 by decide)))
    · refine brd0 ha ha2 (by omega) (by omega) hk2 hl hn ?_
      refine ⟨(k - (0 + 1)).toNat, (bS4 off n c a k (0 + 1) (0 + 1) ([byteAt l a 0]) l e), by omega, ?_, .at_ (0 + 1) (0 + 1) [byteAt l a 0] (by omega) (by omega) (by omega) rfl⟩
      rw [show byteAt l a 0 = _ from (hby 0 (by omega)).symm]
      rfl
  | at_ i q A hi hik hq hA =>
    have hlen : A.length = q := by rw [hA]; simp
    by_cases hx : k ≤ i
    · refine bx hx ?_
      refine ⟨fun _ => ?_, fun h => by cases h⟩
      have hT : textAt l a k = bytesOfNums A := by rw [textAt_eq, hA, show k.toNat = q by omega]
      exact bfi hlen (by omega) (EndsR.ret (l := [.string (bytesOfNums (List.take q (List.drop 0 A)))]) (by kernel_rfl) (by rw [hT, List.drop_zero, List.take_of_length_le (show A.length ≤ q by omega)]; rfl) (Fits.n0 rfl rfl (show (1 : Nat) ≤ 1 by decide)))
    · refine brd ha ha2 (by omega) (by omega) hk2 hl hn hlen (by omega) (by omega) ?_
      refine ⟨_, _, by omega, rfl, .at_ (i + 1) (q + 1) _ (by omega) (by omega) (by omega) ?_⟩
      rw [hby i (by omega), range_step, List.take_of_length_le (by omega), ← hA, hq]
inductive gInv (a k : Int) : Nat → KSt → Prop
  | z (hk : 0 ≤ k) : gInv a k k.toNat (gS6 a k (0))
  | at_ (i : Int) (q : Nat) (A : List Int) (hi : 1 ≤ i) (hik : i ≤ k) (hq : q = i.toNat) (hA : A = (List.range q).map (byteAt [] a)) : gInv a k (k - i).toNat (gS4 a k q i A)
theorem loopg (a k : Int) (ha : 0 ≤ a) (ha2 : a ≤ 1000) (hk2 : k ≤ 1000) (z : Nat) (t : KSt) (hI : gInv a k z t) : Gets Try.prog (KH.low ⟨0, 1, []⟩) (codeAt [1, 1, 0, 1] Bg) t.low (onN (fun s => Gets Try.prog (KH.low ⟨0, 1, []⟩) (codeAt [1, 1, 1] Bg) s ((EndsR Try.prog Try.f56 (.string (textAt [] a k)) [] [] []))) ((EndsR Try.prog Try.f56 (.string (textAt [] a k)) [] [] []))) := by
  have hby : ∀ i : Int, 0 ≤ i → IntKind.wrap .u8 (byteRV (List.getD ([] : List Int) (Int.toNat (a + (i / 8))) 0) (i % 8)) = byteAt [] a i.toNat := fun i hi => by
    unfold byteAt
    rw [byteV_eq (getD_word (fun _ h => by cases h) _), show Int.toNat (a + (i / 8)) = a.toNat + i.toNat / 8 by omega, show i % 8 = ((i.toNat % 8 : Nat) : Int) by omega]
  rw [gC1_1_0_1, gC1_1_0_1_0]
  refine Gets.loopG (fun z t => gInv a k z t) ?_ _ _ hI
  clear hI z t
  intro z t hI
  cases hI with
  | z hk =>
    by_cases hx : k ≤ 0
    · refine gx0 hx ?_
      refine ⟨fun _ => ?_, fun h => by cases h⟩
      have hk0 : k = 0 := by omega
      exact gfi0 (EndsR.ret (l := [.string (⟨#[]⟩ : ByteArray)]) (by kernel_rfl) (by rw [hk0, textAt_eq]; rfl) (Fits.n0 rfl rfl (show (0 : Nat) ≤ 0 by decide)))
    · refine grd0 ha ha2 (by omega) (by omega) hk2  ?_
      refine ⟨(k - (0 + 1)).toNat, (gS4 a k (0 + 1) (0 + 1) ([byteAt [] a 0])), by omega, ?_, .at_ (0 + 1) (0 + 1) [byteAt [] a 0] (by omega) (by omega) (by omega) rfl⟩
      rw [show byteAt [] a 0 = _ from (hby 0 (by omega)).symm]
      rfl
  | at_ i q A hi hik hq hA =>
    have hlen : A.length = q := by rw [hA]; simp
    by_cases hx : k ≤ i
    · refine gx hx ?_
      refine ⟨fun _ => ?_, fun h => by cases h⟩
      have hT : textAt [] a k = bytesOfNums A := by rw [textAt_eq, hA, show k.toNat = q by omega]
      exact gfi hlen (by omega) (EndsR.ret (l := [.string (bytesOfNums (List.take q (List.drop 0 A)))]) (by kernel_rfl) (by rw [hT, List.drop_zero, List.take_of_length_le (show A.length ≤ q by omega)]; rfl) (Fits.n0 rfl rfl (show (0 : Nat) ≤ 0 by decide)))
    · refine grd ha ha2 (by omega) (by omega) hk2  hlen (by omega) (by omega) ?_
      refine ⟨_, _, by omega, rfl, .at_ (i + 1) (q + 1) _ (by omega) (by omega) (by omega) ?_⟩
      rw [hby i (by omega), range_step, List.take_of_length_le (by omega), ← hA, hq]
theorem bytes_does (l : List Int) (a k : Int) (n off c : Nat) (e : TypeId) (hl : l.length = n) (hn : n ≤ 1000000) (hw : isWs l = true) (ha : 0 ≤ a) (ha2 : a ≤ 1000) (hk : 0 ≤ k) (hk2 : k ≤ 1000) : DoesC Try.prog 56 [(.slice (some ⟨0, off, none⟩) n c), (.int .i64 a), (.int .i64 k)] (mkH [.tail off .u64 l e]).low (.string (textAt l a k)) (effK (mkH [.tail off .u64 l e]) [] []).low := by
  refine EndsR.does Try.func56 Bb_is (by rw [noVars]; exact Nat.zero_le _) ?_
  show Gets Try.prog (KH.low ⟨1, 1, [(0, 0, .tail off .u64 l e)]⟩) Bb (KSt.low (bS0 off n c a k l e)) _
  refine bpre ?_
  exact loopb l a k n off c e hl hn hw ha ha2 hk2 k.toNat (bS6 off n c a k (0) l e) (.z hk)
theorem bytes0_does (a k : Int) (ha : 0 ≤ a) (ha2 : a ≤ 1000) (hk : 0 ≤ k) (hk2 : k ≤ 1000) : DoesC Try.prog 56 [(.slice (some ⟨0, 0, some 0⟩) 0 0), (.int .i64 a), (.int .i64 k)] (mkH []).low (.string (textAt [] a k)) (effK (mkH []) [] []).low := by
  refine EndsR.does Try.func56 Bg_is (by rw [noVars]; exact Nat.zero_le _) ?_
  show Gets Try.prog (KH.low ⟨0, 1, []⟩) Bg (KSt.low (gS0 a k)) _
  refine gpre ?_
  exact loopg a k ha ha2 hk2 k.toNat (gS6 a k (0)) (.z hk)
/-- A box's cells. -/
def boxW (ks vs : ByteArray) : List Int := stayS ks (headN ks vs :: (wordsN ks ++ wordsN vs))
theorem boxW_eq (ks vs : ByteArray) : boxW ks vs = headN ks vs :: (wordsN ks ++ wordsN vs) := stayS_eq _ _
noncomputable def Bo : Code := bodyOf Try.prog 26
theorem Bo_is : Try.f26.body = some Bo := by kernel_rfl
theorem Bo_ok : okCode Try.prog.globals.size Bo = true := by kernel_rfl
noncomputable abbrev oEV (byteRV : Int → Int → Int) (byteV : Int → Int → Int) (headN : ByteArray → ByteArray → Int) (isWb : Int → Bool) (kLen : Int → Int) (manyV : Int → Int) (sizeN : Int → Int) (textA : List Int → Int → ByteArray × Bool) (textAt : List Int → Int → Int → ByteArray) (textR : List Int → Int → ByteArray × Bool) (vLen : Int → Int) (withRV : Int → Int → Int → Int) (wordsA : ByteArray → List Int) (wordsR : ByteArray → List Int) (c : Code) (s : KSt) (lv : List Nat) : Option (Ex × KSt) := evCK Try.prog cfgY (runK Try.prog cfgY fsY (conTk bxaDom (rcK [] (bxaT byteRV byteV headN isWb kLen manyV sizeN textA textAt textR vLen withRV wordsA wordsR))) 14 40) 14 c s (normC 0 lv)
theorem ogo {lv_ : List Nat} {co_ : Code} {st_ s' : KSt} {x : Ex} {Q : Ex → St → Prop} (hE_ : oEV byteRV byteV headN isWb kLen manyV sizeN textA textAt textR vLen withRV wordsA wordsR co_ st_ lv_ = some (x, s')) (hq_ : Q x s'.low) (hok_ : okCode Try.prog.globals.size co_ = true := by kernel_rfl) : Gets Try.prog (KH.low ⟨0, 1, []⟩) co_ st_.low Q := Gets.ofN fitY bxa_sound (rc_agree _ _ _) 14 40 hok_ hE_ hq_
theorem oeX {v : Value} {b c : Bool} (h : v = .bool b) (hb : b = c) : v = .bool c := by rw [h, hb]
theorem oC : Bo = .seq (codeAt [0] Bo) (codeAt [1] Bo) := by kernel_rfl
theorem oC1 : (codeAt [1] Bo) = .seq (codeAt [1, 0] Bo) (codeAt [1, 1] Bo) := by kernel_rfl
theorem oC1_0 : (codeAt [1, 0] Bo) = .seq (codeAt [1, 0, 0] Bo) (codeAt [1, 0, 1] Bo) := by kernel_rfl
theorem oC1_0_1 : (codeAt [1, 0, 1] Bo) = .cond (.tmp 14) (codeAt [1, 0, 1, 0] Bo) (codeAt [1, 0, 1, 1] Bo) := by kernel_rfl
theorem oC1_1 : (codeAt [1, 1] Bo) = .seq (codeAt [1, 1, 0] Bo) (codeAt [1, 1, 1] Bo) := by kernel_rfl
theorem oC1_1_1 : (codeAt [1, 1, 1] Bo) = .seq (codeAt [1, 1, 1, 0] Bo) (codeAt [1, 1, 1, 1] Bo) := by kernel_rfl
theorem oC1_1_1_1 : (codeAt [1, 1, 1, 1] Bo) = .ret := by kernel_rfl
section
variable (byteRV : Int → Int → Int) (byteV : Int → Int → Int) (headN : ByteArray → ByteArray → Int) (isWb : Int → Bool) (kLen : Int → Int) (manyV : Int → Int) (sizeN : Int → Int) (textA : List Int → Int → ByteArray × Bool) (textAt : List Int → Int → Int → ByteArray) (textR : List Int → Int → ByteArray × Bool) (vLen : Int → Int) (withRV : Int → Int → Int → Int) (wordsA : ByteArray → List Int) (wordsR : ByteArray → List Int)
noncomputable def oS0 (ks : ByteArray) (vs : ByteArray) : KSt := (firstK [(.string ks), (.string vs)] 26 ⟨0, 1, []⟩)
noncomputable def oS1 (ks : ByteArray) (vs : ByteArray) : KSt := ⟨(frameL 26 [(0, (.string ks)), (1, (.string vs))]), ⟨0, 1, []⟩⟩
theorem oR1 (ks : ByteArray) (vs : ByteArray) : oEV byteRV byteV headN isWb kLen manyV sizeN textA textAt textR vLen withRV wordsA wordsR (codeAt [0] Bo) (oS0 ks vs) [0, 1] =
  some (.normal, (oS1 ks vs)) := by kernel_rfl
noncomputable def oS2 (ks : ByteArray) (vs : ByteArray) : KSt := ⟨(frameL 26 [(0, (.string ks)), (1, (.string vs)), (14, (.bool true))]), ⟨0, 1, []⟩⟩
noncomputable def oS3 (ks : ByteArray) (vs : ByteArray) : KSt := ⟨(frameL 26 [(0, (.string ks)), (1, (.string vs)), (14, (.bool (decide ((((ByteArray.size vs) : Nat) : Int) > 24))))]), ⟨0, 1, []⟩⟩
theorem oR2 (ks : ByteArray) (vs : ByteArray) : oEV byteRV byteV headN isWb kLen manyV sizeN textA textAt textR vLen withRV wordsA wordsR (codeAt [1, 0, 0] Bo) (oS1 ks vs) [0, 1, 14] =
  bif (decide ((((ByteArray.size ks) : Nat) : Int) > 16)) then
    some (.normal, (oS2 ks vs))
  else
    some (.normal, (oS3 ks vs)) := by kernel_rfl
theorem oR3 (ks : ByteArray) (vs : ByteArray) : oEV byteRV byteV headN isWb kLen manyV sizeN textA textAt textR vLen withRV wordsA wordsR (codeAt [1, 0, 1, 1] Bo) (oS3 ks vs) [0, 1] =
  some (.normal, (oS1 ks vs)) := by kernel_rfl
noncomputable def oS4 (vs : ByteArray) (ks : ByteArray) : KSt := ⟨(frameL 26 [(1, (.string vs)), (6, (.slice (some ⟨0, 0, none⟩) 1 1))]), ⟨1, 1, [(0, 0, .ints .u64 ([(headN ks vs)]) 30 true)]⟩⟩
noncomputable def oS5 (vs : ByteArray) (ks : ByteArray) : KSt := ⟨(frameL 26 [(1, (.string vs)), (6, (.slice (some ⟨0, 0, none⟩) (1 + (List.length (wordsA ks))) 1))]), ⟨1, 1, [(0, 0, .ints .u64 (List.take 1 ([(headN ks vs)]) ++ (List.take (List.length (wordsA ks)) (List.drop 0 (wordsA ks))) ++ List.drop (1 + (List.length (List.take (List.length (wordsA ks)) (List.drop 0 (wordsA ks))))) ([(headN ks vs)])) 30 true)]⟩⟩
noncomputable def oS6 (vs : ByteArray) (ks : ByteArray) : KSt := ⟨(frameL 26 [(1, (.string vs)), (6, (.slice (some ⟨0, 0, none⟩) (1 + (List.length (wordsA ks))) (1 + (List.length (wordsA ks)))))]), ⟨1, 1, [(0, 0, .ints .u64 (List.take 1 ([(headN ks vs)]) ++ (List.take (List.length (wordsA ks)) (List.drop 0 (wordsA ks)))) 30 true)]⟩⟩
theorem oR4 (ks : ByteArray) (vs : ByteArray) : oEV byteRV byteV headN isWb kLen manyV sizeN textA textAt textR vLen withRV wordsA wordsR (codeAt [1, 1, 0] Bo) (oS1 ks vs) [1, 6] =
  bif ((Nat.ble (ByteArray.size ks) 100000) && (Nat.ble (ByteArray.size vs) 100000)) then
    bif (Nat.ble (ByteArray.size ks) 2000) then
      bif (Nat.beq (List.length (wordsA ks)) 0) then
        some (.normal, (oS4 headN vs ks))
      else
        bif (Nat.ble (0 + (List.length (wordsA ks))) (List.length (wordsA ks))) then
          bif (Nat.ble ((1 + (List.length (wordsA ks))) * 9) 1099511627776) then
            bif (Nat.ble (1 + (List.length (wordsA ks))) 1) then
              bif (Nat.ble (0 + (1 + (List.length (wordsA ks)))) (List.length ([(headN ks vs)]))) then
                some (.normal, (oS5 headN wordsA vs ks))
              else
                none
            else
              bif ((Nat.ble 1 (List.length ([(headN ks vs)]))) && true) then
                some (.normal, (oS6 headN wordsA vs ks))
              else
                none
          else
            none
        else
          none
    else
      none
  else
    none := by kernel_rfl
noncomputable def oS7 (ks : ByteArray) (vs : ByteArray) : KSt := ⟨(frameL 26 [(4, (.slice (some ⟨0, 0, none⟩) 1 1)), (5, (.bool true))]), ⟨1, 1, [(0, 0, .ints .u64 ([(headN ks vs)]) 30 true)]⟩⟩
noncomputable def oS8 (vs : ByteArray) (ks : ByteArray) : KSt := ⟨(frameL 26 [(4, (.slice (some ⟨0, 0, none⟩) (1 + (List.length (wordsA vs))) 1)), (5, (.bool true))]), ⟨1, 1, [(0, 0, .ints .u64 (List.take 1 ([(headN ks vs)]) ++ (List.take (List.length (wordsA vs)) (List.drop 0 (wordsA vs))) ++ List.drop (1 + (List.length (List.take (List.length (wordsA vs)) (List.drop 0 (wordsA vs))))) ([(headN ks vs)])) 30 true)]⟩⟩
noncomputable def oS9 (vs : ByteArray) (ks : ByteArray) : KSt := ⟨(frameL 26 [(4, (.slice (some ⟨0, 0, none⟩) (1 + (List.length (wordsA vs))) (1 + (List.length (wordsA vs))))), (5, (.bool true))]), ⟨1, 1, [(0, 0, .ints .u64 (List.take 1 ([(headN ks vs)]) ++ (List.take (List.length (wordsA vs)) (List.drop 0 (wordsA vs)))) 30 true)]⟩⟩
theorem oR5 (vs : ByteArray) (ks : ByteArray) : oEV byteRV byteV headN isWb kLen manyV sizeN textA textAt textR vLen withRV wordsA wordsR (codeAt [1, 1, 1, 0] Bo) (oS4 headN vs ks) [4, 5] =
  bif (Nat.ble (ByteArray.size vs) 2000) then
    bif (Nat.beq (List.length (wordsA vs)) 0) then
      some (.normal, (oS7 headN ks vs))
    else
      bif (Nat.ble (0 + (List.length (wordsA vs))) (List.length (wordsA vs))) then
        bif (Nat.ble ((1 + (List.length (wordsA vs))) * 9) 1099511627776) then
          bif (Nat.ble (1 + (List.length (wordsA vs))) 1) then
            bif (Nat.ble (0 + (1 + (List.length (wordsA vs)))) (List.length ([(headN ks vs)]))) then
              some (.normal, (oS8 headN wordsA vs ks))
            else
              none
          else
            bif ((Nat.ble 1 (List.length ([(headN ks vs)]))) && true) then
              some (.normal, (oS9 headN wordsA vs ks))
            else
              none
        else
          none
      else
        none
  else
    none := by kernel_rfl
noncomputable def oS10 (ks : ByteArray) (vs : ByteArray) : KSt := ⟨(frameL 26 [(4, (.slice (some ⟨0, 0, none⟩) (1 + (List.length (wordsA ks))) (1 + (List.length (wordsA ks))))), (5, (.bool true))]), ⟨1, 1, [(0, 0, .ints .u64 (List.take 1 ([(headN ks vs)]) ++ (List.take (List.length (wordsA ks)) (List.drop 0 (wordsA ks)))) 30 true)]⟩⟩
noncomputable def oS11 (ks : ByteArray) (vs : ByteArray) : KSt := ⟨(frameL 26 [(4, (.slice (some ⟨0, 0, none⟩) ((1 + (List.length (wordsA ks))) + (List.length (wordsA vs))) (1 + (List.length (wordsA ks))))), (5, (.bool true))]), ⟨1, 1, [(0, 0, .ints .u64 (List.take (0 + (1 + (List.length (wordsA ks)))) (List.take 1 ([(headN ks vs)]) ++ (List.take (List.length (wordsA ks)) (List.drop 0 (wordsA ks)))) ++ (List.take (List.length (wordsA vs)) (List.drop 0 (wordsA vs))) ++ List.drop ((0 + (1 + (List.length (wordsA ks)))) + (List.length (List.take (List.length (wordsA vs)) (List.drop 0 (wordsA vs))))) (List.take 1 ([(headN ks vs)]) ++ (List.take (List.length (wordsA ks)) (List.drop 0 (wordsA ks))))) 30 true)]⟩⟩
noncomputable def oS12 (vs : ByteArray) : KSt := ⟨(frameL 26 [(4, (.slice (some ⟨0, 0, none⟩) (List.length (wordsA vs)) (List.length (wordsA vs)))), (5, (.bool true))]), ⟨1, 1, [(0, 0, .ints .u64 (List.take (List.length (wordsA vs)) (List.drop 0 (wordsA vs))) 30 true)]⟩⟩
noncomputable def oS13 (ks : ByteArray) (vs : ByteArray) : KSt := ⟨(frameL 26 [(4, (.slice (some ⟨0, 0, none⟩) ((1 + (List.length (wordsA ks))) + (List.length (wordsA vs))) ((1 + (List.length (wordsA ks))) + (List.length (wordsA vs))))), (5, (.bool true))]), ⟨1, 1, [(0, 0, .ints .u64 (List.take (1 + (List.length (wordsA ks))) (List.take 1 ([(headN ks vs)]) ++ (List.take (List.length (wordsA ks)) (List.drop 0 (wordsA ks)))) ++ (List.take (List.length (wordsA vs)) (List.drop 0 (wordsA vs)))) 30 true)]⟩⟩
theorem oR6 (vs : ByteArray) (ks : ByteArray) : oEV byteRV byteV headN isWb kLen manyV sizeN textA textAt textR vLen withRV wordsA wordsR (codeAt [1, 1, 1, 0] Bo) (oS6 headN wordsA vs ks) [4, 5] =
  bif (Nat.ble (ByteArray.size vs) 2000) then
    bif (Nat.beq (List.length (wordsA vs)) 0) then
      bif (Nat.ble (1 + (List.length (wordsA ks))) (1 + (List.length (wordsA ks)))) then
        some (.normal, (oS10 headN wordsA ks vs))
      else
        none
    else
      bif (Nat.ble (0 + (List.length (wordsA vs))) (List.length (wordsA vs))) then
        bif (Nat.ble (((1 + (List.length (wordsA ks))) + (List.length (wordsA vs))) * 9) 1099511627776) then
          bif (Nat.ble ((1 + (List.length (wordsA ks))) + (List.length (wordsA vs))) (1 + (List.length (wordsA ks)))) then
            bif (Nat.ble (0 + ((1 + (List.length (wordsA ks))) + (List.length (wordsA vs)))) (List.length (List.take 1 ([(headN ks vs)]) ++ (List.take (List.length (wordsA ks)) (List.drop 0 (wordsA ks)))))) then
              some (.normal, (oS11 headN wordsA ks vs))
            else
              none
          else
            bif ((Nat.beq (1 + (List.length (wordsA ks))) 0) && (Nat.beq (1 + (List.length (wordsA ks))) 0)) then
              some (.normal, (oS12 wordsA vs))
            else
              bif ((Nat.ble (1 + (List.length (wordsA ks))) (List.length (List.take 1 ([(headN ks vs)]) ++ (List.take (List.length (wordsA ks)) (List.drop 0 (wordsA ks)))))) && (Nat.ble 1 (1 + (List.length (wordsA ks))))) then
                some (.normal, (oS13 headN wordsA ks vs))
              else
                none
        else
          none
      else
        none
  else
    none := by kernel_rfl
end
theorem or00 {ks : ByteArray} {vs : ByteArray} {n : Nat} {m : Nat} (hk : ks.size ≤ 16) (hv : vs.size ≤ 24) (hlk : (wordsA ks).length = n) (hlv : (wordsA vs).length = m) (hn : n ≤ 10) (hm : m ≤ 10) (hna : n = 0) (hmb : m = 0)   {Q : Ex → St → Prop} (hq : Q .ret (KSt.low (oS7 headN ks vs))) : Gets Try.prog (KH.low ⟨0, 1, []⟩) Bo (KSt.low (oS0 ks vs)) Q := by
  rw [oC]; refine Gets.seq ?_
  refine ogo (oR1 byteRV byteV headN isWb kLen manyV sizeN textA textAt textR vLen withRV wordsA wordsR ks vs) ?_
  rw [oC1]; refine Gets.seq ?_
  rw [oC1_0]; refine Gets.seq ?_
  refine ogo (x := .normal) (s' := (oS3 ks vs)) ((oR2 byteRV byteV headN isWb kLen manyV sizeN textA textAt textR vLen withRV wordsA wordsR ks vs).trans (by rw [condF (decide_eq_false (by omega))])) ?_
  rw [oC1_0_1]; refine Gets.cond false (by kernel_rfl) (oeX (b := (decide ((((ByteArray.size vs) : Nat) : Int) > 24))) (by kernel_rfl) ((show (decide ((((ByteArray.size vs) : Nat) : Int) > 24)) = false from decide_eq_false (by omega)))) ?_; show Gets _ _ (codeAt [1, 0, 1, 1] Bo) _ _
  refine ogo (oR3 byteRV byteV headN isWb kLen manyV sizeN textA textAt textR vLen withRV wordsA wordsR ks vs) ?_
  rw [oC1_1]; refine Gets.seq ?_
  refine ogo (x := .normal) (s' := (oS4 headN vs ks)) ((oR4 byteRV byteV headN isWb kLen manyV sizeN textA textAt textR vLen withRV wordsA wordsR ks vs).trans (by rw [condT (and_t (ble_t (by omega)) (ble_t (by omega))), condT (ble_t (by omega)), condT (nbeq_t (by (first | omega | (simp <;> omega) | (simp [hlk, hlv] <;> omega))))])) ?_
  rw [oC1_1_1]; refine Gets.seq ?_
  refine ogo (x := .normal) (s' := (oS7 headN ks vs)) ((oR5 byteRV byteV headN isWb kLen manyV sizeN textA textAt textR vLen withRV wordsA wordsR vs ks).trans (by rw [condT (ble_t (by omega)), condT (nbeq_t (by (first | omega | (simp <;> omega) | (simp [hlk, hlv] <;> omega))))])) ?_
  rw [oC1_1_1_1]; refine Gets.ev fitY.mix fitY.cfg (fitY.sound bxa_sound 14 0) 14 rfl (s' := KSt.low (oS7 headN ks vs)) (x := .ret) rfl ?_
  exact hq
theorem or01 {ks : ByteArray} {vs : ByteArray} {n : Nat} {m : Nat} (hk : ks.size ≤ 16) (hv : vs.size ≤ 24) (hlk : (wordsA ks).length = n) (hlv : (wordsA vs).length = m) (hn : n ≤ 10) (hm : m ≤ 10) (hna : n = 0) (hmb : 1 ≤ m)   {Q : Ex → St → Prop} (hq : Q .ret (KSt.low (oS9 headN wordsA vs ks))) : Gets Try.prog (KH.low ⟨0, 1, []⟩) Bo (KSt.low (oS0 ks vs)) Q := by
  rw [oC]; refine Gets.seq ?_
  refine ogo (oR1 byteRV byteV headN isWb kLen manyV sizeN textA textAt textR vLen withRV wordsA wordsR ks vs) ?_
  rw [oC1]; refine Gets.seq ?_
  rw [oC1_0]; refine Gets.seq ?_
  refine ogo (x := .normal) (s' := (oS3 ks vs)) ((oR2 byteRV byteV headN isWb kLen manyV sizeN textA textAt textR vLen withRV wordsA wordsR ks vs).trans (by rw [condF (decide_eq_false (by omega))])) ?_
  rw [oC1_0_1]; refine Gets.cond false (by kernel_rfl) (oeX (b := (decide ((((ByteArray.size vs) : Nat) : Int) > 24))) (by kernel_rfl) ((show (decide ((((ByteArray.size vs) : Nat) : Int) > 24)) = false from decide_eq_false (by omega)))) ?_; show Gets _ _ (codeAt [1, 0, 1, 1] Bo) _ _
  refine ogo (oR3 byteRV byteV headN isWb kLen manyV sizeN textA textAt textR vLen withRV wordsA wordsR ks vs) ?_
  rw [oC1_1]; refine Gets.seq ?_
  refine ogo (x := .normal) (s' := (oS4 headN vs ks)) ((oR4 byteRV byteV headN isWb kLen manyV sizeN textA textAt textR vLen withRV wordsA wordsR ks vs).trans (by rw [condT (and_t (ble_t (by omega)) (ble_t (by omega))), condT (ble_t (by omega)), condT (nbeq_t (by (first | omega | (simp <;> omega) | (simp [hlk, hlv] <;> omega))))])) ?_
  rw [oC1_1_1]; refine Gets.seq ?_
  refine ogo (x := .normal) (s' := (oS9 headN wordsA vs ks)) ((oR5 byteRV byteV headN isWb kLen manyV sizeN textA textAt textR vLen withRV wordsA wordsR vs ks).trans (by rw [condT (ble_t (by omega)), condF (nbeq_f (by (first | omega | (simp <;> omega) | (simp [hlk, hlv] <;> omega)))), condT (ble_t (by (first | omega | (simp <;> omega) | (simp [hlk, hlv] <;> omega)))), condT (ble_t (by (first | omega | (simp <;> omega) | (simp [hlk, hlv] <;> omega)))), condF (ble_f (by (first | omega | (simp <;> omega) | (simp [hlk, hlv] <;> omega)))), condT (and_t (ble_t (by (first | omega | (simp <;> omega) | (simp [hlk, hlv] <;> omega)))) (rfl))])) ?_
  rw [oC1_1_1_1]; refine Gets.ev fitY.mix fitY.cfg (fitY.sound bxa_sound 14 0) 14 rfl (s' := KSt.low (oS9 headN wordsA vs ks)) (x := .ret) rfl ?_
  exact hq
theorem or10 {ks : ByteArray} {vs : ByteArray} {n : Nat} {m : Nat} (hk : ks.size ≤ 16) (hv : vs.size ≤ 24) (hlk : (wordsA ks).length = n) (hlv : (wordsA vs).length = m) (hn : n ≤ 10) (hm : m ≤ 10) (hna : 1 ≤ n) (hmb : m = 0)   {Q : Ex → St → Prop} (hq : Q .ret (KSt.low (oS10 headN wordsA ks vs))) : Gets Try.prog (KH.low ⟨0, 1, []⟩) Bo (KSt.low (oS0 ks vs)) Q := by
  rw [oC]; refine Gets.seq ?_
  refine ogo (oR1 byteRV byteV headN isWb kLen manyV sizeN textA textAt textR vLen withRV wordsA wordsR ks vs) ?_
  rw [oC1]; refine Gets.seq ?_
  rw [oC1_0]; refine Gets.seq ?_
  refine ogo (x := .normal) (s' := (oS3 ks vs)) ((oR2 byteRV byteV headN isWb kLen manyV sizeN textA textAt textR vLen withRV wordsA wordsR ks vs).trans (by rw [condF (decide_eq_false (by omega))])) ?_
  rw [oC1_0_1]; refine Gets.cond false (by kernel_rfl) (oeX (b := (decide ((((ByteArray.size vs) : Nat) : Int) > 24))) (by kernel_rfl) ((show (decide ((((ByteArray.size vs) : Nat) : Int) > 24)) = false from decide_eq_false (by omega)))) ?_; show Gets _ _ (codeAt [1, 0, 1, 1] Bo) _ _
  refine ogo (oR3 byteRV byteV headN isWb kLen manyV sizeN textA textAt textR vLen withRV wordsA wordsR ks vs) ?_
  rw [oC1_1]; refine Gets.seq ?_
  refine ogo (x := .normal) (s' := (oS6 headN wordsA vs ks)) ((oR4 byteRV byteV headN isWb kLen manyV sizeN textA textAt textR vLen withRV wordsA wordsR ks vs).trans (by rw [condT (and_t (ble_t (by omega)) (ble_t (by omega))), condT (ble_t (by omega)), condF (nbeq_f (by (first | omega | (simp <;> omega) | (simp [hlk, hlv] <;> omega)))), condT (ble_t (by (first | omega | (simp <;> omega) | (simp [hlk, hlv] <;> omega)))), condT (ble_t (by (first | omega | (simp <;> omega) | (simp [hlk, hlv] <;> omega)))), condF (ble_f (by (first | omega | (simp <;> omega) | (simp [hlk, hlv] <;> omega)))), condT (and_t (ble_t (by (first | omega | (simp <;> omega) | (simp [hlk, hlv] <;> omega)))) (rfl))])) ?_
  rw [oC1_1_1]; refine Gets.seq ?_
  refine ogo (x := .normal) (s' := (oS10 headN wordsA ks vs)) ((oR6 byteRV byteV headN isWb kLen manyV sizeN textA textAt textR vLen withRV wordsA wordsR vs ks).trans (by rw [condT (ble_t (by omega)), condT (nbeq_t (by (first | omega | (simp <;> omega) | (simp [hlk, hlv] <;> omega)))), condT (ble_t (by (first | omega | (simp <;> omega) | (simp [hlk, hlv] <;> omega))))])) ?_
  rw [oC1_1_1_1]; refine Gets.ev fitY.mix fitY.cfg (fitY.sound bxa_sound 14 0) 14 rfl (s' := KSt.low (oS10 headN wordsA ks vs)) (x := .ret) rfl ?_
  exact hq
theorem or11 {ks : ByteArray} {vs : ByteArray} {n : Nat} {m : Nat} (hk : ks.size ≤ 16) (hv : vs.size ≤ 24) (hlk : (wordsA ks).length = n) (hlv : (wordsA vs).length = m) (hn : n ≤ 10) (hm : m ≤ 10) (hna : 1 ≤ n) (hmb : 1 ≤ m)   {Q : Ex → St → Prop} (hq : Q .ret (KSt.low (oS13 headN wordsA ks vs))) : Gets Try.prog (KH.low ⟨0, 1, []⟩) Bo (KSt.low (oS0 ks vs)) Q := by
  rw [oC]; refine Gets.seq ?_
  refine ogo (oR1 byteRV byteV headN isWb kLen manyV sizeN textA textAt textR vLen withRV wordsA wordsR ks vs) ?_
  rw [oC1]; refine Gets.seq ?_
  rw [oC1_0]; refine Gets.seq ?_
  refine ogo (x := .normal) (s' := (oS3 ks vs)) ((oR2 byteRV byteV headN isWb kLen manyV sizeN textA textAt textR vLen withRV wordsA wordsR ks vs).trans (by rw [condF (decide_eq_false (by omega))])) ?_
  rw [oC1_0_1]; refine Gets.cond false (by kernel_rfl) (oeX (b := (decide ((((ByteArray.size vs) : Nat) : Int) > 24))) (by kernel_rfl) ((show (decide ((((ByteArray.size vs) : Nat) : Int) > 24)) = false from decide_eq_false (by omega)))) ?_; show Gets _ _ (codeAt [1, 0, 1, 1] Bo) _ _
  refine ogo (oR3 byteRV byteV headN isWb kLen manyV sizeN textA textAt textR vLen withRV wordsA wordsR ks vs) ?_
  rw [oC1_1]; refine Gets.seq ?_
  refine ogo (x := .normal) (s' := (oS6 headN wordsA vs ks)) ((oR4 byteRV byteV headN isWb kLen manyV sizeN textA textAt textR vLen withRV wordsA wordsR ks vs).trans (by rw [condT (and_t (ble_t (by omega)) (ble_t (by omega))), condT (ble_t (by omega)), condF (nbeq_f (by (first | omega | (simp <;> omega) | (simp [hlk, hlv] <;> omega)))), condT (ble_t (by (first | omega | (simp <;> omega) | (simp [hlk, hlv] <;> omega)))), condT (ble_t (by (first | omega | (simp <;> omega) | (simp [hlk, hlv] <;> omega)))), condF (ble_f (by (first | omega | (simp <;> omega) | (simp [hlk, hlv] <;> omega)))), condT (and_t (ble_t (by (first | omega | (simp <;> omega) | (simp [hlk, hlv] <;> omega)))) (rfl))])) ?_
  rw [oC1_1_1]; refine Gets.seq ?_
  refine ogo (x := .normal) (s' := (oS13 headN wordsA ks vs)) ((oR6 byteRV byteV headN isWb kLen manyV sizeN textA textAt textR vLen withRV wordsA wordsR vs ks).trans (by rw [condT (ble_t (by omega)), condF (nbeq_f (by (first | omega | (simp <;> omega) | (simp [hlk, hlv] <;> omega)))), condT (ble_t (by (first | omega | (simp <;> omega) | (simp [hlk, hlv] <;> omega)))), condT (ble_t (by (first | omega | (simp <;> omega) | (simp [hlk, hlv] <;> omega)))), condF (ble_f (by (first | omega | (simp <;> omega) | (simp [hlk, hlv] <;> omega)))), condF (and_f1 (nbeq_f (by (first | omega | (simp <;> omega) | (simp [hlk, hlv] <;> omega))))), condT (and_t (ble_t (by (first | omega | (simp <;> omega) | (simp [hlk, hlv] <;> omega)))) (ble_t (by (first | omega | (simp <;> omega) | (simp [hlk, hlv] <;> omega)))))])) ?_
  rw [oC1_1_1_1]; refine Gets.ev fitY.mix fitY.cfg (fitY.sound bxa_sound 14 0) 14 rfl (s' := KSt.low (oS13 headN wordsA ks vs)) (x := .ret) rfl ?_
  exact hq
noncomputable def Bp : Code := bodyOf Try.prog 27
theorem Bp_is : Try.f27.body = some Bp := by kernel_rfl
theorem Bp_ok : okCode Try.prog.globals.size Bp = true := by kernel_rfl
noncomputable abbrev pEV (byteRV : Int → Int → Int) (byteV : Int → Int → Int) (headN : ByteArray → ByteArray → Int) (isWb : Int → Bool) (kLen : Int → Int) (manyV : Int → Int) (sizeN : Int → Int) (textA : List Int → Int → ByteArray × Bool) (textAt : List Int → Int → Int → ByteArray) (textR : List Int → Int → ByteArray × Bool) (vLen : Int → Int) (withRV : Int → Int → Int → Int) (wordsA : ByteArray → List Int) (wordsR : ByteArray → List Int) (c : Code) (s : KSt) (lv : List Nat) : Option (Ex × KSt) := evCK Try.prog cfgY (runK Try.prog cfgY fsY (conTk bxaDom (rcK [] (bxaT byteRV byteV headN isWb kLen manyV sizeN textA textAt textR vLen withRV wordsA wordsR))) 14 40) 14 c s (normC 0 lv)
theorem pgo {lv_ : List Nat} {co_ : Code} {st_ s' : KSt} {x : Ex} {Q : Ex → St → Prop} (hE_ : pEV byteRV byteV headN isWb kLen manyV sizeN textA textAt textR vLen withRV wordsA wordsR co_ st_ lv_ = some (x, s')) (hq_ : Q x s'.low) (hok_ : okCode Try.prog.globals.size co_ = true := by kernel_rfl) : Gets Try.prog (KH.low ⟨0, 1, []⟩) co_ st_.low Q := Gets.ofN fitY bxa_sound (rc_agree _ _ _) 14 40 hok_ hE_ hq_
theorem peX {v : Value} {b c : Bool} (h : v = .bool b) (hb : b = c) : v = .bool c := by rw [h, hb]
theorem pC : Bp = .seq (codeAt [0] Bp) (codeAt [1] Bp) := by kernel_rfl
theorem pC1 : (codeAt [1] Bp) = .seq (codeAt [1, 0] Bp) (codeAt [1, 1] Bp) := by kernel_rfl
theorem pC1_0 : (codeAt [1, 0] Bp) = .seq (codeAt [1, 0, 0] Bp) (codeAt [1, 0, 1] Bp) := by kernel_rfl
theorem pC1_0_1 : (codeAt [1, 0, 1] Bp) = .cond (.tmp 14) (codeAt [1, 0, 1, 0] Bp) (codeAt [1, 0, 1, 1] Bp) := by kernel_rfl
theorem pC1_1 : (codeAt [1, 1] Bp) = .seq (codeAt [1, 1, 0] Bp) (codeAt [1, 1, 1] Bp) := by kernel_rfl
theorem pC1_1_1 : (codeAt [1, 1, 1] Bp) = .seq (codeAt [1, 1, 1, 0] Bp) (codeAt [1, 1, 1, 1] Bp) := by kernel_rfl
theorem pC1_1_1_1 : (codeAt [1, 1, 1, 1] Bp) = .seq (codeAt [1, 1, 1, 1, 0] Bp) (codeAt [1, 1, 1, 1, 1] Bp) := by kernel_rfl
theorem pC1_1_1_1_1 : (codeAt [1, 1, 1, 1, 1] Bp) = .ret := by kernel_rfl
section
variable (byteRV : Int → Int → Int) (byteV : Int → Int → Int) (headN : ByteArray → ByteArray → Int) (isWb : Int → Bool) (kLen : Int → Int) (manyV : Int → Int) (sizeN : Int → Int) (textA : List Int → Int → ByteArray × Bool) (textAt : List Int → Int → Int → ByteArray) (textR : List Int → Int → ByteArray × Bool) (vLen : Int → Int) (withRV : Int → Int → Int → Int) (wordsA : ByteArray → List Int) (wordsR : ByteArray → List Int)
noncomputable def pS0 (ks : ByteArray) (vs : ByteArray) : KSt := (firstK [(.string ks), (.string vs)] 27 ⟨0, 1, []⟩)
noncomputable def pS1 (ks : ByteArray) (vs : ByteArray) : KSt := ⟨(frameL 27 [(0, (.string ks)), (1, (.string vs))]), ⟨0, 1, []⟩⟩
theorem pR1 (ks : ByteArray) (vs : ByteArray) : pEV byteRV byteV headN isWb kLen manyV sizeN textA textAt textR vLen withRV wordsA wordsR (codeAt [0] Bp) (pS0 ks vs) [0, 1] =
  some (.normal, (pS1 ks vs)) := by kernel_rfl
noncomputable def pS2 (ks : ByteArray) (vs : ByteArray) : KSt := ⟨(frameL 27 [(0, (.string ks)), (1, (.string vs)), (14, (.bool true))]), ⟨0, 1, []⟩⟩
noncomputable def pS3 (ks : ByteArray) (vs : ByteArray) : KSt := ⟨(frameL 27 [(0, (.string ks)), (1, (.string vs)), (14, (.bool (decide ((((ByteArray.size vs) : Nat) : Int) > 24))))]), ⟨0, 1, []⟩⟩
theorem pR2 (ks : ByteArray) (vs : ByteArray) : pEV byteRV byteV headN isWb kLen manyV sizeN textA textAt textR vLen withRV wordsA wordsR (codeAt [1, 0, 0] Bp) (pS1 ks vs) [0, 1, 14] =
  bif (decide ((((ByteArray.size ks) : Nat) : Int) > 16)) then
    some (.normal, (pS2 ks vs))
  else
    some (.normal, (pS3 ks vs)) := by kernel_rfl
theorem pR3 (ks : ByteArray) (vs : ByteArray) : pEV byteRV byteV headN isWb kLen manyV sizeN textA textAt textR vLen withRV wordsA wordsR (codeAt [1, 0, 1, 1] Bp) (pS3 ks vs) [0, 1] =
  some (.normal, (pS1 ks vs)) := by kernel_rfl
noncomputable def pS4 (ks : ByteArray) (vs : ByteArray) : KSt := ⟨(frameL 27 [(0, (.string ks)), (1, (.string vs)), (6, (.slice (some ⟨0, 0, none⟩) 1 1))]), ⟨1, 1, [(0, 0, .cells [(.int .u64 (headN ks vs))] 30 true)]⟩⟩
theorem pR4 (ks : ByteArray) (vs : ByteArray) : pEV byteRV byteV headN isWb kLen manyV sizeN textA textAt textR vLen withRV wordsA wordsR (codeAt [1, 1, 0] Bp) (pS1 ks vs) [0, 1, 6] =
  bif ((Nat.ble (ByteArray.size ks) 100000) && (Nat.ble (ByteArray.size vs) 100000)) then
    some (.normal, (pS4 headN ks vs))
  else
    none := by kernel_rfl
noncomputable def pS5 (vs : ByteArray) (ks : ByteArray) : KSt := ⟨(frameL 27 [(1, (.string vs)), (6, (.slice (some ⟨0, 0, none⟩) 1 1))]), ⟨1, 1, [(0, 0, .ints .u64 ([(headN ks vs)]) 30 true)]⟩⟩
noncomputable def pS6 (vs : ByteArray) (ks : ByteArray) : KSt := ⟨(frameL 27 [(1, (.string vs)), (6, (.slice (some ⟨0, 0, none⟩) (1 + (List.length (wordsR ks))) 1))]), ⟨1, 1, [(0, 0, .ints .u64 (List.take 1 ([(headN ks vs)]) ++ (List.take (List.length (wordsR ks)) (List.drop 0 (wordsR ks))) ++ List.drop (1 + (List.length (List.take (List.length (wordsR ks)) (List.drop 0 (wordsR ks))))) ([(headN ks vs)])) 30 true)]⟩⟩
noncomputable def pS7 (vs : ByteArray) (ks : ByteArray) : KSt := ⟨(frameL 27 [(1, (.string vs)), (6, (.slice (some ⟨0, 0, none⟩) (1 + (List.length (wordsR ks))) (1 + (List.length (wordsR ks)))))]), ⟨1, 1, [(0, 0, .ints .u64 (List.take 1 ([(headN ks vs)]) ++ (List.take (List.length (wordsR ks)) (List.drop 0 (wordsR ks)))) 30 true)]⟩⟩
theorem pR5 (ks : ByteArray) (vs : ByteArray) : pEV byteRV byteV headN isWb kLen manyV sizeN textA textAt textR vLen withRV wordsA wordsR (codeAt [1, 1, 1, 0] Bp) (pS4 headN ks vs) [1, 6] =
  bif (Nat.ble (ByteArray.size ks) 2000) then
    bif (Nat.beq (List.length (wordsR ks)) 0) then
      some (.normal, (pS5 headN vs ks))
    else
      bif (Nat.ble (0 + (List.length (wordsR ks))) (List.length (wordsR ks))) then
        bif (Nat.ble ((1 + (List.length (wordsR ks))) * 9) 1099511627776) then
          bif (Nat.ble (1 + (List.length (wordsR ks))) 1) then
            bif (Nat.ble (0 + (1 + (List.length (wordsR ks)))) (List.length ([(headN ks vs)]))) then
              some (.normal, (pS6 headN wordsR vs ks))
            else
              none
          else
            bif ((Nat.ble 1 (List.length ([(headN ks vs)]))) && true) then
              some (.normal, (pS7 headN wordsR vs ks))
            else
              none
        else
          none
      else
        none
  else
    none := by kernel_rfl
noncomputable def pS8 (ks : ByteArray) (vs : ByteArray) : KSt := ⟨(frameL 27 [(4, (.slice (some ⟨0, 0, none⟩) 1 1)), (5, (.bool true))]), ⟨1, 1, [(0, 0, .ints .u64 ([(headN ks vs)]) 30 true)]⟩⟩
noncomputable def pS9 (vs : ByteArray) (ks : ByteArray) : KSt := ⟨(frameL 27 [(4, (.slice (some ⟨0, 0, none⟩) (1 + (List.length (wordsR vs))) 1)), (5, (.bool true))]), ⟨1, 1, [(0, 0, .ints .u64 (List.take 1 ([(headN ks vs)]) ++ (List.take (List.length (wordsR vs)) (List.drop 0 (wordsR vs))) ++ List.drop (1 + (List.length (List.take (List.length (wordsR vs)) (List.drop 0 (wordsR vs))))) ([(headN ks vs)])) 30 true)]⟩⟩
noncomputable def pS10 (vs : ByteArray) (ks : ByteArray) : KSt := ⟨(frameL 27 [(4, (.slice (some ⟨0, 0, none⟩) (1 + (List.length (wordsR vs))) (1 + (List.length (wordsR vs))))), (5, (.bool true))]), ⟨1, 1, [(0, 0, .ints .u64 (List.take 1 ([(headN ks vs)]) ++ (List.take (List.length (wordsR vs)) (List.drop 0 (wordsR vs)))) 30 true)]⟩⟩
theorem pR6 (vs : ByteArray) (ks : ByteArray) : pEV byteRV byteV headN isWb kLen manyV sizeN textA textAt textR vLen withRV wordsA wordsR (codeAt [1, 1, 1, 1, 0] Bp) (pS5 headN vs ks) [4, 5] =
  bif (Nat.ble (ByteArray.size vs) 2000) then
    bif (Nat.beq (List.length (wordsR vs)) 0) then
      some (.normal, (pS8 headN ks vs))
    else
      bif (Nat.ble (0 + (List.length (wordsR vs))) (List.length (wordsR vs))) then
        bif (Nat.ble ((1 + (List.length (wordsR vs))) * 9) 1099511627776) then
          bif (Nat.ble (1 + (List.length (wordsR vs))) 1) then
            bif (Nat.ble (0 + (1 + (List.length (wordsR vs)))) (List.length ([(headN ks vs)]))) then
              some (.normal, (pS9 headN wordsR vs ks))
            else
              none
          else
            bif ((Nat.ble 1 (List.length ([(headN ks vs)]))) && true) then
              some (.normal, (pS10 headN wordsR vs ks))
            else
              none
        else
          none
      else
        none
  else
    none := by kernel_rfl
noncomputable def pS11 (ks : ByteArray) (vs : ByteArray) : KSt := ⟨(frameL 27 [(4, (.slice (some ⟨0, 0, none⟩) (1 + (List.length (wordsR ks))) (1 + (List.length (wordsR ks))))), (5, (.bool true))]), ⟨1, 1, [(0, 0, .ints .u64 (List.take 1 ([(headN ks vs)]) ++ (List.take (List.length (wordsR ks)) (List.drop 0 (wordsR ks)))) 30 true)]⟩⟩
noncomputable def pS12 (ks : ByteArray) (vs : ByteArray) : KSt := ⟨(frameL 27 [(4, (.slice (some ⟨0, 0, none⟩) ((1 + (List.length (wordsR ks))) + (List.length (wordsR vs))) (1 + (List.length (wordsR ks))))), (5, (.bool true))]), ⟨1, 1, [(0, 0, .ints .u64 (List.take (0 + (1 + (List.length (wordsR ks)))) (List.take 1 ([(headN ks vs)]) ++ (List.take (List.length (wordsR ks)) (List.drop 0 (wordsR ks)))) ++ (List.take (List.length (wordsR vs)) (List.drop 0 (wordsR vs))) ++ List.drop ((0 + (1 + (List.length (wordsR ks)))) + (List.length (List.take (List.length (wordsR vs)) (List.drop 0 (wordsR vs))))) (List.take 1 ([(headN ks vs)]) ++ (List.take (List.length (wordsR ks)) (List.drop 0 (wordsR ks))))) 30 true)]⟩⟩
noncomputable def pS13 (vs : ByteArray) : KSt := ⟨(frameL 27 [(4, (.slice (some ⟨0, 0, none⟩) (List.length (wordsR vs)) (List.length (wordsR vs)))), (5, (.bool true))]), ⟨1, 1, [(0, 0, .ints .u64 (List.take (List.length (wordsR vs)) (List.drop 0 (wordsR vs))) 30 true)]⟩⟩
noncomputable def pS14 (ks : ByteArray) (vs : ByteArray) : KSt := ⟨(frameL 27 [(4, (.slice (some ⟨0, 0, none⟩) ((1 + (List.length (wordsR ks))) + (List.length (wordsR vs))) ((1 + (List.length (wordsR ks))) + (List.length (wordsR vs))))), (5, (.bool true))]), ⟨1, 1, [(0, 0, .ints .u64 (List.take (1 + (List.length (wordsR ks))) (List.take 1 ([(headN ks vs)]) ++ (List.take (List.length (wordsR ks)) (List.drop 0 (wordsR ks)))) ++ (List.take (List.length (wordsR vs)) (List.drop 0 (wordsR vs)))) 30 true)]⟩⟩
theorem pR7 (vs : ByteArray) (ks : ByteArray) : pEV byteRV byteV headN isWb kLen manyV sizeN textA textAt textR vLen withRV wordsA wordsR (codeAt [1, 1, 1, 1, 0] Bp) (pS7 headN wordsR vs ks) [4, 5] =
  bif (Nat.ble (ByteArray.size vs) 2000) then
    bif (Nat.beq (List.length (wordsR vs)) 0) then
      bif (Nat.ble (1 + (List.length (wordsR ks))) (1 + (List.length (wordsR ks)))) then
        some (.normal, (pS11 headN wordsR ks vs))
      else
        none
    else
      bif (Nat.ble (0 + (List.length (wordsR vs))) (List.length (wordsR vs))) then
        bif (Nat.ble (((1 + (List.length (wordsR ks))) + (List.length (wordsR vs))) * 9) 1099511627776) then
          bif (Nat.ble ((1 + (List.length (wordsR ks))) + (List.length (wordsR vs))) (1 + (List.length (wordsR ks)))) then
            bif (Nat.ble (0 + ((1 + (List.length (wordsR ks))) + (List.length (wordsR vs)))) (List.length (List.take 1 ([(headN ks vs)]) ++ (List.take (List.length (wordsR ks)) (List.drop 0 (wordsR ks)))))) then
              some (.normal, (pS12 headN wordsR ks vs))
            else
              none
          else
            bif ((Nat.beq (1 + (List.length (wordsR ks))) 0) && (Nat.beq (1 + (List.length (wordsR ks))) 0)) then
              some (.normal, (pS13 wordsR vs))
            else
              bif ((Nat.ble (1 + (List.length (wordsR ks))) (List.length (List.take 1 ([(headN ks vs)]) ++ (List.take (List.length (wordsR ks)) (List.drop 0 (wordsR ks)))))) && (Nat.ble 1 (1 + (List.length (wordsR ks))))) then
                some (.normal, (pS14 headN wordsR ks vs))
              else
                none
        else
          none
      else
        none
  else
    none := by kernel_rfl
end
theorem pr00 {ks : ByteArray} {vs : ByteArray} {n : Nat} {m : Nat} (hk : ks.size ≤ 16) (hv : vs.size ≤ 24) (hlk : (wordsR ks).length = n) (hlv : (wordsR vs).length = m) (hn : n ≤ 10) (hm : m ≤ 10) (hna : n = 0) (hmb : m = 0)   {Q : Ex → St → Prop} (hq : Q .ret (KSt.low (pS8 headN ks vs))) : Gets Try.prog (KH.low ⟨0, 1, []⟩) Bp (KSt.low (pS0 ks vs)) Q := by
  rw [pC]; refine Gets.seq ?_
  refine pgo (pR1 byteRV byteV headN isWb kLen manyV sizeN textA textAt textR vLen withRV wordsA wordsR ks vs) ?_
  rw [pC1]; refine Gets.seq ?_
  rw [pC1_0]; refine Gets.seq ?_
  refine pgo (x := .normal) (s' := (pS3 ks vs)) ((pR2 byteRV byteV headN isWb kLen manyV sizeN textA textAt textR vLen withRV wordsA wordsR ks vs).trans (by rw [condF (decide_eq_false (by omega))])) ?_
  rw [pC1_0_1]; refine Gets.cond false (by kernel_rfl) (peX (b := (decide ((((ByteArray.size vs) : Nat) : Int) > 24))) (by kernel_rfl) ((show (decide ((((ByteArray.size vs) : Nat) : Int) > 24)) = false from decide_eq_false (by omega)))) ?_; show Gets _ _ (codeAt [1, 0, 1, 1] Bp) _ _
  refine pgo (pR3 byteRV byteV headN isWb kLen manyV sizeN textA textAt textR vLen withRV wordsA wordsR ks vs) ?_
  rw [pC1_1]; refine Gets.seq ?_
  refine pgo (x := .normal) (s' := (pS4 headN ks vs)) ((pR4 byteRV byteV headN isWb kLen manyV sizeN textA textAt textR vLen withRV wordsA wordsR ks vs).trans (by rw [condT (and_t (ble_t (by omega)) (ble_t (by omega)))])) ?_
  rw [pC1_1_1]; refine Gets.seq ?_
  refine pgo (x := .normal) (s' := (pS5 headN vs ks)) ((pR5 byteRV byteV headN isWb kLen manyV sizeN textA textAt textR vLen withRV wordsA wordsR ks vs).trans (by rw [condT (ble_t (by omega)), condT (nbeq_t (by (first | omega | (simp <;> omega) | (simp [hlk, hlv] <;> omega))))])) ?_
  rw [pC1_1_1_1]; refine Gets.seq ?_
  refine pgo (x := .normal) (s' := (pS8 headN ks vs)) ((pR6 byteRV byteV headN isWb kLen manyV sizeN textA textAt textR vLen withRV wordsA wordsR vs ks).trans (by rw [condT (ble_t (by omega)), condT (nbeq_t (by (first | omega | (simp <;> omega) | (simp [hlk, hlv] <;> omega))))])) ?_
  rw [pC1_1_1_1_1]; refine Gets.ev fitY.mix fitY.cfg (fitY.sound bxa_sound 14 0) 14 rfl (s' := KSt.low (pS8 headN ks vs)) (x := .ret) rfl ?_
  exact hq
theorem pr01 {ks : ByteArray} {vs : ByteArray} {n : Nat} {m : Nat} (hk : ks.size ≤ 16) (hv : vs.size ≤ 24) (hlk : (wordsR ks).length = n) (hlv : (wordsR vs).length = m) (hn : n ≤ 10) (hm : m ≤ 10) (hna : n = 0) (hmb : 1 ≤ m)   {Q : Ex → St → Prop} (hq : Q .ret (KSt.low (pS10 headN wordsR vs ks))) : Gets Try.prog (KH.low ⟨0, 1, []⟩) Bp (KSt.low (pS0 ks vs)) Q := by
  rw [pC]; refine Gets.seq ?_
  refine pgo (pR1 byteRV byteV headN isWb kLen manyV sizeN textA textAt textR vLen withRV wordsA wordsR ks vs) ?_
  rw [pC1]; refine Gets.seq ?_
  rw [pC1_0]; refine Gets.seq ?_
  refine pgo (x := .normal) (s' := (pS3 ks vs)) ((pR2 byteRV byteV headN isWb kLen manyV sizeN textA textAt textR vLen withRV wordsA wordsR ks vs).trans (by rw [condF (decide_eq_false (by omega))])) ?_
  rw [pC1_0_1]; refine Gets.cond false (by kernel_rfl) (peX (b := (decide ((((ByteArray.size vs) : Nat) : Int) > 24))) (by kernel_rfl) ((show (decide ((((ByteArray.size vs) : Nat) : Int) > 24)) = false from decide_eq_false (by omega)))) ?_; show Gets _ _ (codeAt [1, 0, 1, 1] Bp) _ _
  refine pgo (pR3 byteRV byteV headN isWb kLen manyV sizeN textA textAt textR vLen withRV wordsA wordsR ks vs) ?_
  rw [pC1_1]; refine Gets.seq ?_
  refine pgo (x := .normal) (s' := (pS4 headN ks vs)) ((pR4 byteRV byteV headN isWb kLen manyV sizeN textA textAt textR vLen withRV wordsA wordsR ks vs).trans (by rw [condT (and_t (ble_t (by omega)) (ble_t (by omega)))])) ?_
  rw [pC1_1_1]; refine Gets.seq ?_
  refine pgo (x := .normal) (s' := (pS5 headN vs ks)) ((pR5 byteRV byteV headN isWb kLen manyV sizeN textA textAt textR vLen withRV wordsA wordsR ks vs).trans (by rw [condT (ble_t (by omega)), condT (nbeq_t (by (first | omega | (simp <;> omega) | (simp [hlk, hlv] <;> omega))))])) ?_
  rw [pC1_1_1_1]; refine Gets.seq ?_
  refine pgo (x := .normal) (s' := (pS10 headN wordsR vs ks)) ((pR6 byteRV byteV headN isWb kLen manyV sizeN textA textAt textR vLen withRV wordsA wordsR vs ks).trans (by rw [condT (ble_t (by omega)), condF (nbeq_f (by (first | omega | (simp <;> omega) | (simp [hlk, hlv] <;> omega)))), condT (ble_t (by (first | omega | (simp <;> omega) | (simp [hlk, hlv] <;> omega)))), condT (ble_t (by (first | omega | (simp <;> omega) | (simp [hlk, hlv] <;> omega)))), condF (ble_f (by (first | omega | (simp <;> omega) | (simp [hlk, hlv] <;> omega)))), condT (and_t (ble_t (by (first | omega | (simp <;> omega) | (simp [hlk, hlv] <;> omega)))) (rfl))])) ?_
  rw [pC1_1_1_1_1]; refine Gets.ev fitY.mix fitY.cfg (fitY.sound bxa_sound 14 0) 14 rfl (s' := KSt.low (pS10 headN wordsR vs ks)) (x := .ret) rfl ?_
  exact hq
theorem pr10 {ks : ByteArray} {vs : ByteArray} {n : Nat} {m : Nat} (hk : ks.size ≤ 16) (hv : vs.size ≤ 24) (hlk : (wordsR ks).length = n) (hlv : (wordsR vs).length = m) (hn : n ≤ 10) (hm : m ≤ 10) (hna : 1 ≤ n) (hmb : m = 0)   {Q : Ex → St → Prop} (hq : Q .ret (KSt.low (pS11 headN wordsR ks vs))) : Gets Try.prog (KH.low ⟨0, 1, []⟩) Bp (KSt.low (pS0 ks vs)) Q := by
  rw [pC]; refine Gets.seq ?_
  refine pgo (pR1 byteRV byteV headN isWb kLen manyV sizeN textA textAt textR vLen withRV wordsA wordsR ks vs) ?_
  rw [pC1]; refine Gets.seq ?_
  rw [pC1_0]; refine Gets.seq ?_
  refine pgo (x := .normal) (s' := (pS3 ks vs)) ((pR2 byteRV byteV headN isWb kLen manyV sizeN textA textAt textR vLen withRV wordsA wordsR ks vs).trans (by rw [condF (decide_eq_false (by omega))])) ?_
  rw [pC1_0_1]; refine Gets.cond false (by kernel_rfl) (peX (b := (decide ((((ByteArray.size vs) : Nat) : Int) > 24))) (by kernel_rfl) ((show (decide ((((ByteArray.size vs) : Nat) : Int) > 24)) = false from decide_eq_false (by omega)))) ?_; show Gets _ _ (codeAt [1, 0, 1, 1] Bp) _ _
  refine pgo (pR3 byteRV byteV headN isWb kLen manyV sizeN textA textAt textR vLen withRV wordsA wordsR ks vs) ?_
  rw [pC1_1]; refine Gets.seq ?_
  refine pgo (x := .normal) (s' := (pS4 headN ks vs)) ((pR4 byteRV byteV headN isWb kLen manyV sizeN textA textAt textR vLen withRV wordsA wordsR ks vs).trans (by rw [condT (and_t (ble_t (by omega)) (ble_t (by omega)))])) ?_
  rw [pC1_1_1]; refine Gets.seq ?_
  refine pgo (x := .normal) (s' := (pS7 headN wordsR vs ks)) ((pR5 byteRV byteV headN isWb kLen manyV sizeN textA textAt textR vLen withRV wordsA wordsR ks vs).trans (by rw [condT (ble_t (by omega)), condF (nbeq_f (by (first | omega | (simp <;> omega) | (simp [hlk, hlv] <;> omega)))), condT (ble_t (by (first | omega | (simp <;> omega) | (simp [hlk, hlv] <;> omega)))), condT (ble_t (by (first | omega | (simp <;> omega) | (simp [hlk, hlv] <;> omega)))), condF (ble_f (by (first | omega | (simp <;> omega) | (simp [hlk, hlv] <;> omega)))), condT (and_t (ble_t (by (first | omega | (simp <;> omega) | (simp [hlk, hlv] <;> omega)))) (rfl))])) ?_
  rw [pC1_1_1_1]; refine Gets.seq ?_
  refine pgo (x := .normal) (s' := (pS11 headN wordsR ks vs)) ((pR7 byteRV byteV headN isWb kLen manyV sizeN textA textAt textR vLen withRV wordsA wordsR vs ks).trans (by rw [condT (ble_t (by omega)), condT (nbeq_t (by (first | omega | (simp <;> omega) | (simp [hlk, hlv] <;> omega)))), condT (ble_t (by (first | omega | (simp <;> omega) | (simp [hlk, hlv] <;> omega))))])) ?_
  rw [pC1_1_1_1_1]; refine Gets.ev fitY.mix fitY.cfg (fitY.sound bxa_sound 14 0) 14 rfl (s' := KSt.low (pS11 headN wordsR ks vs)) (x := .ret) rfl ?_
  exact hq
theorem pr11 {ks : ByteArray} {vs : ByteArray} {n : Nat} {m : Nat} (hk : ks.size ≤ 16) (hv : vs.size ≤ 24) (hlk : (wordsR ks).length = n) (hlv : (wordsR vs).length = m) (hn : n ≤ 10) (hm : m ≤ 10) (hna : 1 ≤ n) (hmb : 1 ≤ m)   {Q : Ex → St → Prop} (hq : Q .ret (KSt.low (pS14 headN wordsR ks vs))) : Gets Try.prog (KH.low ⟨0, 1, []⟩) Bp (KSt.low (pS0 ks vs)) Q := by
  rw [pC]; refine Gets.seq ?_
  refine pgo (pR1 byteRV byteV headN isWb kLen manyV sizeN textA textAt textR vLen withRV wordsA wordsR ks vs) ?_
  rw [pC1]; refine Gets.seq ?_
  rw [pC1_0]; refine Gets.seq ?_
  refine pgo (x := .normal) (s' := (pS3 ks vs)) ((pR2 byteRV byteV headN isWb kLen manyV sizeN textA textAt textR vLen withRV wordsA wordsR ks vs).trans (by rw [condF (decide_eq_false (by omega))])) ?_
  rw [pC1_0_1]; refine Gets.cond false (by kernel_rfl) (peX (b := (decide ((((ByteArray.size vs) : Nat) : Int) > 24))) (by kernel_rfl) ((show (decide ((((ByteArray.size vs) : Nat) : Int) > 24)) = false from decide_eq_false (by omega)))) ?_; show Gets _ _ (codeAt [1, 0, 1, 1] Bp) _ _
  refine pgo (pR3 byteRV byteV headN isWb kLen manyV sizeN textA textAt textR vLen withRV wordsA wordsR ks vs) ?_
  rw [pC1_1]; refine Gets.seq ?_
  refine pgo (x := .normal) (s' := (pS4 headN ks vs)) ((pR4 byteRV byteV headN isWb kLen manyV sizeN textA textAt textR vLen withRV wordsA wordsR ks vs).trans (by rw [condT (and_t (ble_t (by omega)) (ble_t (by omega)))])) ?_
  rw [pC1_1_1]; refine Gets.seq ?_
  refine pgo (x := .normal) (s' := (pS7 headN wordsR vs ks)) ((pR5 byteRV byteV headN isWb kLen manyV sizeN textA textAt textR vLen withRV wordsA wordsR ks vs).trans (by rw [condT (ble_t (by omega)), condF (nbeq_f (by (first | omega | (simp <;> omega) | (simp [hlk, hlv] <;> omega)))), condT (ble_t (by (first | omega | (simp <;> omega) | (simp [hlk, hlv] <;> omega)))), condT (ble_t (by (first | omega | (simp <;> omega) | (simp [hlk, hlv] <;> omega)))), condF (ble_f (by (first | omega | (simp <;> omega) | (simp [hlk, hlv] <;> omega)))), condT (and_t (ble_t (by (first | omega | (simp <;> omega) | (simp [hlk, hlv] <;> omega)))) (rfl))])) ?_
  rw [pC1_1_1_1]; refine Gets.seq ?_
  refine pgo (x := .normal) (s' := (pS14 headN wordsR ks vs)) ((pR7 byteRV byteV headN isWb kLen manyV sizeN textA textAt textR vLen withRV wordsA wordsR vs ks).trans (by rw [condT (ble_t (by omega)), condF (nbeq_f (by (first | omega | (simp <;> omega) | (simp [hlk, hlv] <;> omega)))), condT (ble_t (by (first | omega | (simp <;> omega) | (simp [hlk, hlv] <;> omega)))), condT (ble_t (by (first | omega | (simp <;> omega) | (simp [hlk, hlv] <;> omega)))), condF (ble_f (by (first | omega | (simp <;> omega) | (simp [hlk, hlv] <;> omega)))), condF (and_f1 (nbeq_f (by (first | omega | (simp <;> omega) | (simp [hlk, hlv] <;> omega))))), condT (and_t (ble_t (by (first | omega | (simp <;> omega) | (simp [hlk, hlv] <;> omega)))) (ble_t (by (first | omega | (simp <;> omega) | (simp [hlk, hlv] <;> omega)))))])) ?_
  rw [pC1_1_1_1_1]; refine Gets.ev fitY.mix fitY.cfg (fitY.sound bxa_sound 14 0) 14 rfl (s' := KSt.low (pS14 headN wordsR ks vs)) (x := .ret) rfl ?_
  exact hq
theorem boxWords_does (ks vs : ByteArray) (hk : ks.size ≤ 16) (hv : vs.size ≤ 24) : DoesC Try.prog 26 [(.string ks), (.string vs)] (mkH []).low (.tuple #[.slice (some ⟨0, 0, none⟩) (List.length (boxW ks vs)) (List.length (boxW ks vs)), .bool true]) (effK (mkH []) [] [.ints .u64 (boxW ks vs) 30 true]).low := by
  refine EndsR.does Try.func26 Bo_is (by rw [noVars]; exact Nat.zero_le _) ?_
  show Gets Try.prog (KH.low ⟨0, 1, []⟩) Bo (KSt.low (oS0 ks vs)) _
  have hn : (wordsA ks).length ≤ 10 := by rw [wordsA_n, wordsN_len]; unfold manyN; omega
  have hm : (wordsA vs).length ≤ 10 := by rw [wordsA_n, wordsN_len]; unfold manyN; omega
  by_cases h1 : (wordsA ks).length = 0
  · by_cases h2 : (wordsA vs).length = 0
    · have e1 : wordsN ks = [] := List.eq_nil_of_length_eq_zero (by rw [← wordsA_n]; exact h1)
      have e2 : wordsN vs = [] := List.eq_nil_of_length_eq_zero (by rw [← wordsA_n]; exact h2)
      exact or00 hk hv rfl rfl hn hm h1 h2 (EndsR.ret (l := [.slice (some ⟨0, 0, none⟩) 1 1, .bool true]) (by kernel_rfl) (by
        have hN : (boxW ks vs).length = 1 := by simp [boxW_eq, wordsA_n, e1, e2] <;> omega
        rw [hN]; rfl) (Fits.n1 rfl (by kernel_rfl) (by
        refine (show _ = some (KObj.ints .u64 _ 30 true).low from rfl).trans (congrArg (fun L => some (KObj.ints .u64 L 30 true).low) (?_ : _ = boxW ks vs))
        simp [boxW_eq, wordsA_n, e1, e2, Nat.add_comm 1]) (show (1 : Nat) ≤ 0 + 1 by decide)))
    · have e1 : wordsN ks = [] := List.eq_nil_of_length_eq_zero (by rw [← wordsA_n]; exact h1)
      exact or01 hk hv rfl rfl hn hm h1 (by omega) (EndsR.ret (l := [.slice (some ⟨0, 0, none⟩) (1 + (wordsA vs).length) (1 + (wordsA vs).length), .bool true]) (by kernel_rfl) (by
        have hN : (boxW ks vs).length = (1 + (wordsA vs).length) := by simp [boxW_eq, wordsA_n, e1] <;> omega
        rw [hN]; rfl) (Fits.n1 rfl (by kernel_rfl) (by
        refine (show _ = some (KObj.ints .u64 _ 30 true).low from rfl).trans (congrArg (fun L => some (KObj.ints .u64 L 30 true).low) (?_ : _ = boxW ks vs))
        simp [boxW_eq, wordsA_n, e1, Nat.add_comm 1]) (show (1 : Nat) ≤ 0 + 1 by decide)))
  · by_cases h2 : (wordsA vs).length = 0
    · have e2 : wordsN vs = [] := List.eq_nil_of_length_eq_zero (by rw [← wordsA_n]; exact h2)
      exact or10 hk hv rfl rfl hn hm (by omega) h2 (EndsR.ret (l := [.slice (some ⟨0, 0, none⟩) (1 + (wordsA ks).length) (1 + (wordsA ks).length), .bool true]) (by kernel_rfl) (by
        have hN : (boxW ks vs).length = (1 + (wordsA ks).length) := by simp [boxW_eq, wordsA_n, e2] <;> omega
        rw [hN]; rfl) (Fits.n1 rfl (by kernel_rfl) (by
        refine (show _ = some (KObj.ints .u64 _ 30 true).low from rfl).trans (congrArg (fun L => some (KObj.ints .u64 L 30 true).low) (?_ : _ = boxW ks vs))
        simp [boxW_eq, wordsA_n, e2, Nat.add_comm 1]) (show (1 : Nat) ≤ 0 + 1 by decide)))
    · exact or11 hk hv rfl rfl hn hm (by omega) (by omega) (EndsR.ret (l := [.slice (some ⟨0, 0, none⟩) (1 + (wordsA ks).length + (wordsA vs).length) (1 + (wordsA ks).length + (wordsA vs).length), .bool true]) (by kernel_rfl) (by
        have hN : (boxW ks vs).length = (1 + (wordsA ks).length + (wordsA vs).length) := by simp [boxW_eq, wordsA_n] <;> omega
        rw [hN]; rfl) (Fits.n1 rfl (by kernel_rfl) (by
        refine (show _ = some (KObj.ints .u64 _ 30 true).low from rfl).trans (congrArg (fun L => some (KObj.ints .u64 L 30 true).low) (?_ : _ = boxW ks vs))
        simp [boxW_eq, wordsA_n, Nat.add_comm 1]) (show (1 : Nat) ≤ 0 + 1 by decide)))
theorem boxWordsR_does (ks vs : ByteArray) (hk : ks.size ≤ 16) (hv : vs.size ≤ 24) : DoesC Try.prog 27 [(.string ks), (.string vs)] (mkH []).low (.tuple #[.slice (some ⟨0, 0, none⟩) (List.length (boxW ks vs)) (List.length (boxW ks vs)), .bool true]) (effK (mkH []) [] [.ints .u64 (boxW ks vs) 30 true]).low := by
  refine EndsR.does Try.func27 Bp_is (by rw [noVars]; exact Nat.zero_le _) ?_
  show Gets Try.prog (KH.low ⟨0, 1, []⟩) Bp (KSt.low (pS0 ks vs)) _
  have hn : (wordsR ks).length ≤ 10 := by rw [wordsR_n, wordsN_len]; unfold manyN; omega
  have hm : (wordsR vs).length ≤ 10 := by rw [wordsR_n, wordsN_len]; unfold manyN; omega
  by_cases h1 : (wordsR ks).length = 0
  · by_cases h2 : (wordsR vs).length = 0
    · have e1 : wordsN ks = [] := List.eq_nil_of_length_eq_zero (by rw [← wordsR_n]; exact h1)
      have e2 : wordsN vs = [] := List.eq_nil_of_length_eq_zero (by rw [← wordsR_n]; exact h2)
      exact pr00 hk hv rfl rfl hn hm h1 h2 (EndsR.ret (l := [.slice (some ⟨0, 0, none⟩) 1 1, .bool true]) (by kernel_rfl) (by
        have hN : (boxW ks vs).length = 1 := by simp [boxW_eq, wordsR_n, e1, e2] <;> omega
        rw [hN]; rfl) (Fits.n1 rfl (by kernel_rfl) (by
        refine (show _ = some (KObj.ints .u64 _ 30 true).low from rfl).trans (congrArg (fun L => some (KObj.ints .u64 L 30 true).low) (?_ : _ = boxW ks vs))
        simp [boxW_eq, wordsR_n, e1, e2, Nat.add_comm 1]) (show (1 : Nat) ≤ 0 + 1 by decide)))
    · have e1 : wordsN ks = [] := List.eq_nil_of_length_eq_zero (by rw [← wordsR_n]; exact h1)
      exact pr01 hk hv rfl rfl hn hm h1 (by omega) (EndsR.ret (l := [.slice (some ⟨0, 0, none⟩) (1 + (wordsR vs).length) (1 + (wordsR vs).length), .bool true]) (by kernel_rfl) (by
        have hN : (boxW ks vs).length = (1 + (wordsR vs).length) := by simp [boxW_eq, wordsR_n, e1] <;> omega
        rw [hN]; rfl) (Fits.n1 rfl (by kernel_rfl) (by
        refine (show _ = some (KObj.ints .u64 _ 30 true).low from rfl).trans (congrArg (fun L => some (KObj.ints .u64 L 30 true).low) (?_ : _ = boxW ks vs))
        simp [boxW_eq, wordsR_n, e1, Nat.add_comm 1]) (show (1 : Nat) ≤ 0 + 1 by decide)))
  · by_cases h2 : (wordsR vs).length = 0
    · have e2 : wordsN vs = [] := List.eq_nil_of_length_eq_zero (by rw [← wordsR_n]; exact h2)
      exact pr10 hk hv rfl rfl hn hm (by omega) h2 (EndsR.ret (l := [.slice (some ⟨0, 0, none⟩) (1 + (wordsR ks).length) (1 + (wordsR ks).length), .bool true]) (by kernel_rfl) (by
        have hN : (boxW ks vs).length = (1 + (wordsR ks).length) := by simp [boxW_eq, wordsR_n, e2] <;> omega
        rw [hN]; rfl) (Fits.n1 rfl (by kernel_rfl) (by
        refine (show _ = some (KObj.ints .u64 _ 30 true).low from rfl).trans (congrArg (fun L => some (KObj.ints .u64 L 30 true).low) (?_ : _ = boxW ks vs))
        simp [boxW_eq, wordsR_n, e2, Nat.add_comm 1]) (show (1 : Nat) ≤ 0 + 1 by decide)))
    · exact pr11 hk hv rfl rfl hn hm (by omega) (by omega) (EndsR.ret (l := [.slice (some ⟨0, 0, none⟩) (1 + (wordsR ks).length + (wordsR vs).length) (1 + (wordsR ks).length + (wordsR vs).length), .bool true]) (by kernel_rfl) (by
        have hN : (boxW ks vs).length = (1 + (wordsR ks).length + (wordsR vs).length) := by simp [boxW_eq, wordsR_n] <;> omega
        rw [hN]; rfl) (Fits.n1 rfl (by kernel_rfl) (by
        refine (show _ = some (KObj.ints .u64 _ 30 true).low from rfl).trans (congrArg (fun L => some (KObj.ints .u64 L 30 true).low) (?_ : _ = boxW ks vs))
        simp [boxW_eq, wordsR_n, Nat.add_comm 1]) (show (1 : Nat) ≤ 0 + 1 by decide)))
theorem textAt_sub {A l : List Int} {d t : Nat} {k : Int} (hA : ∀ i, i < 6 → A.getD i 0 = l.getD i 0) (h : k ≤ 8 * (t : Int)) (hd : d + t ≤ 6) : textAt (List.take t (List.drop d A)) 0 k = textAt l (d : Int) k := by
  rw [textAt_eq, textAt_eq]
  congr 1
  refine List.map_congr_left fun i hi => ?_
  have hi := List.mem_range.1 hi
  unfold byteAt
  rw [Int.toNat_natCast, show Int.toNat 0 + i / 8 = i / 8 by omega, ← hA (d + i / 8) (by omega)]
  congr 2
  rw [List.getD_eq_getElem?_getD, List.getElem?_take, if_pos (by omega), List.getElem?_drop, ← List.getD_eq_getElem?_getD]
noncomputable def BRd : Code := bodyOf Try.prog 28
theorem BRd_is : Try.f28.body = some BRd := by kernel_rfl
theorem BRd_ok : okCode Try.prog.globals.size BRd = true := by kernel_rfl
noncomputable abbrev RdEV (byteRV : Int → Int → Int) (byteV : Int → Int → Int) (headN : ByteArray → ByteArray → Int) (isWb : Int → Bool) (kLen : Int → Int) (manyV : Int → Int) (sizeN : Int → Int) (textA : List Int → Int → ByteArray × Bool) (textAt : List Int → Int → Int → ByteArray) (textR : List Int → Int → ByteArray × Bool) (vLen : Int → Int) (withRV : Int → Int → Int → Int) (wordsA : ByteArray → List Int) (wordsR : ByteArray → List Int) (c : Code) (s : KSt) (lv : List Nat) : Option (Ex × KSt) := evCK Try.prog cfgY (runK Try.prog cfgY fsY (conTk bxaDom (rcK [] (bxaT byteRV byteV headN isWb kLen manyV sizeN textA textAt textR vLen withRV wordsA wordsR))) 14 40) 14 c s (normC 1 lv)
theorem Rdgo {lv_ : List Nat} {co_ : Code} {st_ s' : KSt} {x : Ex} {Q : Ex → St → Prop} {off : Nat} {l : List Int} {e : TypeId} (hE_ : RdEV byteRV byteV headN isWb kLen manyV sizeN textA textAt textR vLen withRV wordsA wordsR co_ st_ lv_ = some (x, s')) (hq_ : Q x s'.low) (hok_ : okCode Try.prog.globals.size co_ = true := by kernel_rfl) : Gets Try.prog (KH.low ⟨1, 1, [(0, 0, .tail off .u64 l e)]⟩) co_ st_.low Q := Gets.ofN fitY bxa_sound (rc_agree _ _ _) 14 40 hok_ hE_ hq_
theorem RdeX {v : Value} {b c : Bool} (h : v = .bool b) (hb : b = c) : v = .bool c := by rw [h, hb]
theorem RdC : BRd = .seq (codeAt [0] BRd) (codeAt [1] BRd) := by kernel_rfl
theorem RdC1 : (codeAt [1] BRd) = .seq (codeAt [1, 0] BRd) (codeAt [1, 1] BRd) := by kernel_rfl
theorem RdC1_1 : (codeAt [1, 1] BRd) = .seq (codeAt [1, 1, 0] BRd) (codeAt [1, 1, 1] BRd) := by kernel_rfl
theorem RdC1_1_1 : (codeAt [1, 1, 1] BRd) = .seq (codeAt [1, 1, 1, 0] BRd) (codeAt [1, 1, 1, 1] BRd) := by kernel_rfl
theorem RdC1_1_1_1 : (codeAt [1, 1, 1, 1] BRd) = .seq (codeAt [1, 1, 1, 1, 0] BRd) (codeAt [1, 1, 1, 1, 1] BRd) := by kernel_rfl
theorem RdC1_1_1_1_1 : (codeAt [1, 1, 1, 1, 1] BRd) = .seq (codeAt [1, 1, 1, 1, 1, 0] BRd) (codeAt [1, 1, 1, 1, 1, 1] BRd) := by kernel_rfl
theorem RdC1_1_1_1_1_1 : (codeAt [1, 1, 1, 1, 1, 1] BRd) = .ret := by kernel_rfl
section
variable (byteRV : Int → Int → Int) (byteV : Int → Int → Int) (headN : ByteArray → ByteArray → Int) (isWb : Int → Bool) (kLen : Int → Int) (manyV : Int → Int) (sizeN : Int → Int) (textA : List Int → Int → ByteArray × Bool) (textAt : List Int → Int → Int → ByteArray) (textR : List Int → Int → ByteArray × Bool) (vLen : Int → Int) (withRV : Int → Int → Int → Int) (wordsA : ByteArray → List Int) (wordsR : ByteArray → List Int)
noncomputable def RdS0 (off : Nat) (n : Nat) (c : Nat) (l : List Int) (e : TypeId) : KSt := (firstK [(.slice (some ⟨0, off, none⟩) n c)] 28 ⟨1, 1, [(0, 0, .tail off .u64 l e)]⟩)
noncomputable def RdS1 (off : Nat) (n : Nat) (c : Nat) (l : List Int) (e : TypeId) : KSt := ⟨(frameL 28 [(0, (.slice (some ⟨0, off, none⟩) n c))]), ⟨1, 1, [(0, 0, .tail off .u64 l e)]⟩⟩
theorem RdR1 (off : Nat) (n : Nat) (c : Nat) (l : List Int) (e : TypeId) : RdEV byteRV byteV headN isWb kLen manyV sizeN textA textAt textR vLen withRV wordsA wordsR (codeAt [0] BRd) (RdS0 off n c l e) [0] =
  some (.normal, (RdS1 off n c l e)) := by kernel_rfl
noncomputable def RdS2 (off : Nat) (n : Nat) (c : Nat) (l : List Int) (e : TypeId) : KSt := ⟨(frameL 28 [(0, (.slice (some ⟨0, off, none⟩) n c)), (4, (.pointer (some ⟨1, 0, none⟩)))]), ⟨2, 1, [(1, 0, .cells [(.int .u64 0), (.int .u64 0), (.int .u64 0), (.int .u64 0), (.int .u64 0), (.int .u64 0)] 81 true), (0, 0, .tail off .u64 l e)]⟩⟩
theorem RdR2 (off : Nat) (n : Nat) (c : Nat) (l : List Int) (e : TypeId) : RdEV byteRV byteV headN isWb kLen manyV sizeN textA textAt textR vLen withRV wordsA wordsR (codeAt [1, 0] BRd) (RdS1 off n c l e) [0, 4] =
  some (.normal, (RdS2 off n c l e)) := by kernel_rfl
noncomputable def RdS3 (off : Nat) (l : List Int) (e : TypeId) : KSt := ⟨(frameL 28 [(4, (.pointer (some ⟨1, 0, none⟩)))]), ⟨2, 1, [(1, 0, .ints .u64 ([0, 0, 0, 0, 0, 0]) 81 true), (0, 0, .tail off .u64 l e)]⟩⟩
noncomputable def RdS4 (n : Nat) (off : Nat) (l : List Int) (e : TypeId) : KSt := ⟨(frameL 28 [(4, (.pointer (some ⟨1, 0, none⟩)))]), ⟨2, 1, [(1, 0, .ints .u64 (List.take 0 ([0, 0, 0, 0, 0, 0]) ++ (List.take (min n 6) (List.drop (off - off) l)) ++ List.drop (0 + (List.length (List.take (min n 6) (List.drop (off - off) l)))) ([0, 0, 0, 0, 0, 0])) 81 true), (0, 0, .tail off .u64 l e)]⟩⟩
theorem RdR3 (off : Nat) (n : Nat) (c : Nat) (l : List Int) (e : TypeId) : RdEV byteRV byteV headN isWb kLen manyV sizeN textA textAt textR vLen withRV wordsA wordsR (codeAt [1, 1, 0] BRd) (RdS2 off n c l e) [4] =
  bif (Nat.beq (min n 6) 0) then
    some (.normal, (RdS3 off l e))
  else
    bif ((Nat.ble off off) && (Nat.ble ((off - off) + (min n 6)) (List.length l))) then
      bif ((Nat.ble (0 + (List.length (List.take (min n 6) (List.drop (off - off) l)))) (List.length ([0, 0, 0, 0, 0, 0]))) && (Nat.beq (List.length (List.take (min n 6) (List.drop (off - off) l))) (min n 6))) then
        some (.normal, (RdS4 n off l e))
      else
        none
    else
      none := by kernel_rfl
noncomputable def RdS5 (A : List Int) (off : Nat) (l : List Int) (e : TypeId) : KSt := ⟨(frameL 28 [(4, (.pointer (some ⟨1, 0, none⟩)))]), ⟨2, 1, [(1, 0, .ints .u64 A 81 true), (0, 0, .tail off .u64 l e)]⟩⟩
noncomputable def RdS6 (n1 : Int) (A : List Int) (off : Nat) (l : List Int) (e : TypeId) : KSt := ⟨(frameL 28 [(4, (.pointer (some ⟨1, 0, none⟩))), (5, (.int .i64 (kLen n1))), (6, (.int .i64 (vLen n1)))]), ⟨2, 1, [(1, 0, .ints .u64 A 81 true), (0, 0, .tail off .u64 l e)]⟩⟩
theorem RdR4 (A : List Int) (off : Nat) (l : List Int) (e : TypeId) : RdEV byteRV byteV headN isWb kLen manyV sizeN textA textAt textR vLen withRV wordsA wordsR (codeAt [1, 1, 1, 0] BRd) (RdS5 A off l e) [4, 5, 6] =
  obind (A[0]?) fun n1 =>
    bif (isWb n1) then
      some (.normal, (RdS6 kLen vLen n1 A off l e))
    else
      none := by kernel_rfl
noncomputable def RdS7 (A : List Int) (off : Nat) (l : List Int) (e : TypeId) : KSt := ⟨(frameL 28 [(4, (.pointer (some ⟨1, 0, none⟩))), (5, (.int .i64 (kLen (A.getD 0 0)))), (6, (.int .i64 (vLen (A.getD 0 0))))]), ⟨2, 1, [(1, 0, .ints .u64 A 81 true), (0, 0, .tail off .u64 l e)]⟩⟩
noncomputable def RdS8 (A : List Int) (off : Nat) (l : List Int) (e : TypeId) : KSt := ⟨(frameL 28 [(4, (.pointer (some ⟨1, 0, none⟩))), (5, (.int .i64 (kLen (A.getD 0 0)))), (6, (.int .i64 (vLen (A.getD 0 0)))), (7, (.int .i64 (IntKind.wrap .i64 (1 + (manyV (kLen (A.getD 0 0)))))))]), ⟨2, 1, [(1, 0, .ints .u64 A 81 true), (0, 0, .tail off .u64 l e)]⟩⟩
theorem RdR5 (A : List Int) (off : Nat) (l : List Int) (e : TypeId) : RdEV byteRV byteV headN isWb kLen manyV sizeN textA textAt textR vLen withRV wordsA wordsR (codeAt [1, 1, 1, 1, 0] BRd) (RdS7 kLen vLen A off l e) [4, 5, 6, 7] =
  bif (decide ((kLen (A.getD 0 0)) ≤ 9223372036854775807)) then
    some (.normal, (RdS8 kLen manyV vLen A off l e))
  else
    none := by kernel_rfl
noncomputable def RdS9 (A : List Int) (off : Nat) (l : List Int) (e : TypeId) : KSt := ⟨(frameL 28 [(4, (.pointer (some ⟨1, 0, none⟩))), (5, (.int .i64 (kLen (A.getD 0 0)))), (6, (.int .i64 (vLen (A.getD 0 0)))), (7, (.int .i64 1))]), ⟨2, 1, [(1, 0, .ints .u64 A 81 true), (0, 0, .tail off .u64 l e)]⟩⟩
noncomputable def RdS10 (A : List Int) (off : Nat) (l : List Int) (e : TypeId) : KSt := ⟨(frameL 28 [(2, (.string (textAt (List.take 0 (List.drop 1 A)) 0 (kLen (A.getD 0 0))))), (3, (.string (textAt (List.take 5 (List.drop 1 A)) 0 (vLen (A.getD 0 0)))))]), ⟨1, 1, [(0, 0, .tail off .u64 l e)]⟩⟩
theorem RdR6 (A : List Int) (off : Nat) (l : List Int) (e : TypeId) : RdEV byteRV byteV headN isWb kLen manyV sizeN textA textAt textR vLen withRV wordsA wordsR (codeAt [1, 1, 1, 1, 1, 0] BRd) (RdS9 kLen vLen A off l e) [2, 3] =
  bif (Nat.ble 1 (List.length A)) then
    bif ((decide (0 ≤ (kLen (A.getD 0 0)))) && ((decide ((kLen (A.getD 0 0)) ≤ 1000)) && (decide ((kLen (A.getD 0 0)) ≤ 8 * ((List.length (List.take 0 (List.drop 1 A)) : Nat) : Int))))) then
      bif (Nat.ble 6 (List.length A)) then
        bif ((decide (0 ≤ (vLen (A.getD 0 0)))) && ((decide ((vLen (A.getD 0 0)) ≤ 1000)) && (decide ((vLen (A.getD 0 0)) ≤ 8 * ((List.length (List.take 5 (List.drop 1 A)) : Nat) : Int))))) then
          some (.normal, (RdS10 kLen textAt vLen A off l e))
        else
          none
      else
        none
    else
      none
  else
    none := by kernel_rfl
noncomputable def RdS11 (A : List Int) (off : Nat) (l : List Int) (e : TypeId) : KSt := ⟨(frameL 28 [(4, (.pointer (some ⟨1, 0, none⟩))), (5, (.int .i64 (kLen (A.getD 0 0)))), (6, (.int .i64 (vLen (A.getD 0 0)))), (7, (.int .i64 2))]), ⟨2, 1, [(1, 0, .ints .u64 A 81 true), (0, 0, .tail off .u64 l e)]⟩⟩
noncomputable def RdS12 (A : List Int) (off : Nat) (l : List Int) (e : TypeId) : KSt := ⟨(frameL 28 [(2, (.string (textAt (List.take 1 (List.drop 1 A)) 0 (kLen (A.getD 0 0))))), (3, (.string (textAt (List.take 4 (List.drop 2 A)) 0 (vLen (A.getD 0 0)))))]), ⟨1, 1, [(0, 0, .tail off .u64 l e)]⟩⟩
theorem RdR7 (A : List Int) (off : Nat) (l : List Int) (e : TypeId) : RdEV byteRV byteV headN isWb kLen manyV sizeN textA textAt textR vLen withRV wordsA wordsR (codeAt [1, 1, 1, 1, 1, 0] BRd) (RdS11 kLen vLen A off l e) [2, 3] =
  bif (Nat.ble 2 (List.length A)) then
    bif ((decide (0 ≤ (kLen (A.getD 0 0)))) && ((decide ((kLen (A.getD 0 0)) ≤ 1000)) && (decide ((kLen (A.getD 0 0)) ≤ 8 * ((List.length (List.take 1 (List.drop 1 A)) : Nat) : Int))))) then
      bif (Nat.ble 6 (List.length A)) then
        bif ((decide (0 ≤ (vLen (A.getD 0 0)))) && ((decide ((vLen (A.getD 0 0)) ≤ 1000)) && (decide ((vLen (A.getD 0 0)) ≤ 8 * ((List.length (List.take 4 (List.drop 2 A)) : Nat) : Int))))) then
          some (.normal, (RdS12 kLen textAt vLen A off l e))
        else
          none
      else
        none
    else
      none
  else
    none := by kernel_rfl
noncomputable def RdS13 (A : List Int) (off : Nat) (l : List Int) (e : TypeId) : KSt := ⟨(frameL 28 [(4, (.pointer (some ⟨1, 0, none⟩))), (5, (.int .i64 (kLen (A.getD 0 0)))), (6, (.int .i64 (vLen (A.getD 0 0)))), (7, (.int .i64 3))]), ⟨2, 1, [(1, 0, .ints .u64 A 81 true), (0, 0, .tail off .u64 l e)]⟩⟩
noncomputable def RdS14 (A : List Int) (off : Nat) (l : List Int) (e : TypeId) : KSt := ⟨(frameL 28 [(2, (.string (textAt (List.take 2 (List.drop 1 A)) 0 (kLen (A.getD 0 0))))), (3, (.string (textAt (List.take 3 (List.drop 3 A)) 0 (vLen (A.getD 0 0)))))]), ⟨1, 1, [(0, 0, .tail off .u64 l e)]⟩⟩
theorem RdR8 (A : List Int) (off : Nat) (l : List Int) (e : TypeId) : RdEV byteRV byteV headN isWb kLen manyV sizeN textA textAt textR vLen withRV wordsA wordsR (codeAt [1, 1, 1, 1, 1, 0] BRd) (RdS13 kLen vLen A off l e) [2, 3] =
  bif (Nat.ble 3 (List.length A)) then
    bif ((decide (0 ≤ (kLen (A.getD 0 0)))) && ((decide ((kLen (A.getD 0 0)) ≤ 1000)) && (decide ((kLen (A.getD 0 0)) ≤ 8 * ((List.length (List.take 2 (List.drop 1 A)) : Nat) : Int))))) then
      bif (Nat.ble 6 (List.length A)) then
        bif ((decide (0 ≤ (vLen (A.getD 0 0)))) && ((decide ((vLen (A.getD 0 0)) ≤ 1000)) && (decide ((vLen (A.getD 0 0)) ≤ 8 * ((List.length (List.take 3 (List.drop 3 A)) : Nat) : Int))))) then
          some (.normal, (RdS14 kLen textAt vLen A off l e))
        else
          none
      else
        none
    else
      none
  else
    none := by kernel_rfl
end
theorem Rdcp {n : Nat} {l : List Int} {off : Nat} {A : List Int} {e : TypeId} {c : Nat} (hn : 1 ≤ n) (hl : l.length = n) (hA : (List.take 0 ([0, 0, 0, 0, 0, 0]) ++ (List.take (min n 6) (List.drop (off - off) l)) ++ List.drop (0 + (List.length (List.take (min n 6) (List.drop (off - off) l)))) ([0, 0, 0, 0, 0, 0])) = A)   {Q : Ex → St → Prop} (hq : Gets Try.prog (KH.low ⟨1, 1, [(0, 0, .tail off .u64 l e)]⟩) (codeAt [1, 1, 1] BRd) (KSt.low (RdS5 A off l e)) (Q)) : Gets Try.prog (KH.low ⟨1, 1, [(0, 0, .tail off .u64 l e)]⟩) BRd (KSt.low (RdS0 off n c l e)) Q := by
  rw [RdC]; refine Gets.seq ?_
  refine Rdgo (RdR1 byteRV byteV headN isWb kLen manyV sizeN textA textAt textR vLen withRV wordsA wordsR off n c l e) ?_
  rw [RdC1]; refine Gets.seq ?_
  refine Rdgo (RdR2 byteRV byteV headN isWb kLen manyV sizeN textA textAt textR vLen withRV wordsA wordsR off n c l e) ?_
  rw [RdC1_1]; refine Gets.seq ?_
  refine Rdgo (x := .normal) (s' := (RdS5 A off l e)) ((RdR3 byteRV byteV headN isWb kLen manyV sizeN textA textAt textR vLen withRV wordsA wordsR off n c l e).trans (by rw [condF (nbeq_f (by omega)), condT (and_t (ble_t (by omega)) (by first | exact Nat.ble_eq_true_of_le (by simp <;> omega) | exact nbeq_t (by simp <;> omega))), condT (and_t (by first | exact Nat.ble_eq_true_of_le (by simp <;> omega) | exact nbeq_t (by simp <;> omega)) (by first | exact Nat.ble_eq_true_of_le (by simp <;> omega) | exact nbeq_t (by simp <;> omega)))] <;> (show some (Ex.normal, (RdS4 n off l e)) = some (Ex.normal, (RdS5 A off l e)); unfold RdS4 RdS5; rw [(show (List.take 0 ([0, 0, 0, 0, 0, 0]) ++ (List.take (min n 6) (List.drop (off - off) l)) ++ List.drop (0 + (List.length (List.take (min n 6) (List.drop (off - off) l)))) ([0, 0, 0, 0, 0, 0])) = A from hA)]))) ?_
  exact hq
theorem Rdc0 {n : Nat} {off : Nat} {l : List Int} {e : TypeId} {c : Nat} (hn : n = 0)   {Q : Ex → St → Prop} (hq : Gets Try.prog (KH.low ⟨1, 1, [(0, 0, .tail off .u64 l e)]⟩) (codeAt [1, 1, 1] BRd) (KSt.low (RdS3 off l e)) (Q)) : Gets Try.prog (KH.low ⟨1, 1, [(0, 0, .tail off .u64 l e)]⟩) BRd (KSt.low (RdS0 off n c l e)) Q := by
  rw [RdC]; refine Gets.seq ?_
  refine Rdgo (RdR1 byteRV byteV headN isWb kLen manyV sizeN textA textAt textR vLen withRV wordsA wordsR off n c l e) ?_
  rw [RdC1]; refine Gets.seq ?_
  refine Rdgo (RdR2 byteRV byteV headN isWb kLen manyV sizeN textA textAt textR vLen withRV wordsA wordsR off n c l e) ?_
  rw [RdC1_1]; refine Gets.seq ?_
  refine Rdgo (x := .normal) (s' := (RdS3 off l e)) ((RdR3 byteRV byteV headN isWb kLen manyV sizeN textA textAt textR vLen withRV wordsA wordsR off n c l e).trans (by rw [condT (nbeq_t (by omega))])) ?_
  exact hq
theorem Rdt1 {A : List Int} {off : Nat} {l : List Int} {e : TypeId} (hAl : A.length = 6) (hw : isWb (A.getD 0 0) = true) (hat : (IntKind.wrap .i64 (1 + (manyV (kLen (A.getD 0 0))))) = 1) (hk0 : 0 ≤ kLen (A.getD 0 0)) (hk1 : kLen (A.getD 0 0) ≤ 0) (hv0 : 0 ≤ vLen (A.getD 0 0)) (hv1 : vLen (A.getD 0 0) ≤ 24)   {Q : Ex → St → Prop} (hq : Q .ret (KSt.low (RdS10 kLen textAt vLen A off l e))) : Gets Try.prog (KH.low ⟨1, 1, [(0, 0, .tail off .u64 l e)]⟩) (codeAt [1, 1, 1] BRd) (KSt.low (RdS5 A off l e)) Q := by
  rw [RdC1_1_1]; refine Gets.seq ?_
  refine Rdgo (x := .normal) (s' := (RdS7 kLen vLen A off l e)) ((RdR4 byteRV byteV headN isWb kLen manyV sizeN textA textAt textR vLen withRV wordsA wordsR A off l e).trans (by rw [obind_at (k := 0) (by omega) (by omega), condT (hw)] <;> rfl)) ?_
  rw [RdC1_1_1_1]; refine Gets.seq ?_
  refine Rdgo (x := .normal) (s' := (RdS9 kLen vLen A off l e)) ((RdR5 byteRV byteV headN isWb kLen manyV sizeN textA textAt textR vLen withRV wordsA wordsR A off l e).trans (by rw [condT (decide_eq_true (by omega))] <;> (show some (Ex.normal, (RdS8 kLen manyV vLen A off l e)) = some (Ex.normal, (RdS9 kLen vLen A off l e)); unfold RdS8 RdS9; rw [(show (IntKind.wrap .i64 (1 + (manyV (kLen (A.getD 0 0))))) = 1 from hat)]))) ?_
  rw [RdC1_1_1_1_1]; refine Gets.seq ?_
  refine Rdgo (x := .normal) (s' := (RdS10 kLen textAt vLen A off l e)) ((RdR6 byteRV byteV headN isWb kLen manyV sizeN textA textAt textR vLen withRV wordsA wordsR A off l e).trans (by rw [condT (ble_t (by (first | omega | (simp only [List.length_take, List.length_drop, hAl]; omega)))), condT (and_t (decide_eq_true (by omega)) (and_t (decide_eq_true (by omega)) (decide_eq_true (by (first | omega | (simp only [List.length_take, List.length_drop, hAl]; omega)))))), condT (ble_t (by (first | omega | (simp only [List.length_take, List.length_drop, hAl]; omega)))), condT (and_t (decide_eq_true (by omega)) (and_t (decide_eq_true (by omega)) (decide_eq_true (by (first | omega | (simp only [List.length_take, List.length_drop, hAl]; omega))))))])) ?_
  rw [RdC1_1_1_1_1_1]; refine Gets.ev fitY.mix fitY.cfg (fitY.sound bxa_sound 14 0) 14 rfl (s' := KSt.low (RdS10 kLen textAt vLen A off l e)) (x := .ret) rfl ?_
  exact hq
theorem Rdt2 {A : List Int} {off : Nat} {l : List Int} {e : TypeId} (hAl : A.length = 6) (hw : isWb (A.getD 0 0) = true) (hat : (IntKind.wrap .i64 (1 + (manyV (kLen (A.getD 0 0))))) = 2) (hk0 : 0 ≤ kLen (A.getD 0 0)) (hk1 : kLen (A.getD 0 0) ≤ 8) (hv0 : 0 ≤ vLen (A.getD 0 0)) (hv1 : vLen (A.getD 0 0) ≤ 24)   {Q : Ex → St → Prop} (hq : Q .ret (KSt.low (RdS12 kLen textAt vLen A off l e))) : Gets Try.prog (KH.low ⟨1, 1, [(0, 0, .tail off .u64 l e)]⟩) (codeAt [1, 1, 1] BRd) (KSt.low (RdS5 A off l e)) Q := by
  rw [RdC1_1_1]; refine Gets.seq ?_
  refine Rdgo (x := .normal) (s' := (RdS7 kLen vLen A off l e)) ((RdR4 byteRV byteV headN isWb kLen manyV sizeN textA textAt textR vLen withRV wordsA wordsR A off l e).trans (by rw [obind_at (k := 0) (by omega) (by omega), condT (hw)] <;> rfl)) ?_
  rw [RdC1_1_1_1]; refine Gets.seq ?_
  refine Rdgo (x := .normal) (s' := (RdS11 kLen vLen A off l e)) ((RdR5 byteRV byteV headN isWb kLen manyV sizeN textA textAt textR vLen withRV wordsA wordsR A off l e).trans (by rw [condT (decide_eq_true (by omega))] <;> (show some (Ex.normal, (RdS8 kLen manyV vLen A off l e)) = some (Ex.normal, (RdS11 kLen vLen A off l e)); unfold RdS8 RdS11; rw [(show (IntKind.wrap .i64 (1 + (manyV (kLen (A.getD 0 0))))) = 2 from hat)]))) ?_
  rw [RdC1_1_1_1_1]; refine Gets.seq ?_
  refine Rdgo (x := .normal) (s' := (RdS12 kLen textAt vLen A off l e)) ((RdR7 byteRV byteV headN isWb kLen manyV sizeN textA textAt textR vLen withRV wordsA wordsR A off l e).trans (by rw [condT (ble_t (by (first | omega | (simp only [List.length_take, List.length_drop, hAl]; omega)))), condT (and_t (decide_eq_true (by omega)) (and_t (decide_eq_true (by omega)) (decide_eq_true (by (first | omega | (simp only [List.length_take, List.length_drop, hAl]; omega)))))), condT (ble_t (by (first | omega | (simp only [List.length_take, List.length_drop, hAl]; omega)))), condT (and_t (decide_eq_true (by omega)) (and_t (decide_eq_true (by omega)) (decide_eq_true (by (first | omega | (simp only [List.length_take, List.length_drop, hAl]; omega))))))])) ?_
  rw [RdC1_1_1_1_1_1]; refine Gets.ev fitY.mix fitY.cfg (fitY.sound bxa_sound 14 0) 14 rfl (s' := KSt.low (RdS12 kLen textAt vLen A off l e)) (x := .ret) rfl ?_
  exact hq
theorem Rdt3 {A : List Int} {off : Nat} {l : List Int} {e : TypeId} (hAl : A.length = 6) (hw : isWb (A.getD 0 0) = true) (hat : (IntKind.wrap .i64 (1 + (manyV (kLen (A.getD 0 0))))) = 3) (hk0 : 0 ≤ kLen (A.getD 0 0)) (hk1 : kLen (A.getD 0 0) ≤ 16) (hv0 : 0 ≤ vLen (A.getD 0 0)) (hv1 : vLen (A.getD 0 0) ≤ 24)   {Q : Ex → St → Prop} (hq : Q .ret (KSt.low (RdS14 kLen textAt vLen A off l e))) : Gets Try.prog (KH.low ⟨1, 1, [(0, 0, .tail off .u64 l e)]⟩) (codeAt [1, 1, 1] BRd) (KSt.low (RdS5 A off l e)) Q := by
  rw [RdC1_1_1]; refine Gets.seq ?_
  refine Rdgo (x := .normal) (s' := (RdS7 kLen vLen A off l e)) ((RdR4 byteRV byteV headN isWb kLen manyV sizeN textA textAt textR vLen withRV wordsA wordsR A off l e).trans (by rw [obind_at (k := 0) (by omega) (by omega), condT (hw)] <;> rfl)) ?_
  rw [RdC1_1_1_1]; refine Gets.seq ?_
  refine Rdgo (x := .normal) (s' := (RdS13 kLen vLen A off l e)) ((RdR5 byteRV byteV headN isWb kLen manyV sizeN textA textAt textR vLen withRV wordsA wordsR A off l e).trans (by rw [condT (decide_eq_true (by omega))] <;> (show some (Ex.normal, (RdS8 kLen manyV vLen A off l e)) = some (Ex.normal, (RdS13 kLen vLen A off l e)); unfold RdS8 RdS13; rw [(show (IntKind.wrap .i64 (1 + (manyV (kLen (A.getD 0 0))))) = 3 from hat)]))) ?_
  rw [RdC1_1_1_1_1]; refine Gets.seq ?_
  refine Rdgo (x := .normal) (s' := (RdS14 kLen textAt vLen A off l e)) ((RdR8 byteRV byteV headN isWb kLen manyV sizeN textA textAt textR vLen withRV wordsA wordsR A off l e).trans (by rw [condT (ble_t (by (first | omega | (simp only [List.length_take, List.length_drop, hAl]; omega)))), condT (and_t (decide_eq_true (by omega)) (and_t (decide_eq_true (by omega)) (decide_eq_true (by (first | omega | (simp only [List.length_take, List.length_drop, hAl]; omega)))))), condT (ble_t (by (first | omega | (simp only [List.length_take, List.length_drop, hAl]; omega)))), condT (and_t (decide_eq_true (by omega)) (and_t (decide_eq_true (by omega)) (decide_eq_true (by (first | omega | (simp only [List.length_take, List.length_drop, hAl]; omega))))))])) ?_
  rw [RdC1_1_1_1_1_1]; refine Gets.ev fitY.mix fitY.cfg (fitY.sound bxa_sound 14 0) 14 rfl (s' := KSt.low (RdS14 kLen textAt vLen A off l e)) (x := .ret) rfl ?_
  exact hq
noncomputable def BQd : Code := bodyOf Try.prog 28
theorem BQd_is : Try.f28.body = some BQd := by kernel_rfl
theorem BQd_ok : okCode Try.prog.globals.size BQd = true := by kernel_rfl
noncomputable abbrev QdEV (byteRV : Int → Int → Int) (byteV : Int → Int → Int) (headN : ByteArray → ByteArray → Int) (isWb : Int → Bool) (kLen : Int → Int) (manyV : Int → Int) (sizeN : Int → Int) (textA : List Int → Int → ByteArray × Bool) (textAt : List Int → Int → Int → ByteArray) (textR : List Int → Int → ByteArray × Bool) (vLen : Int → Int) (withRV : Int → Int → Int → Int) (wordsA : ByteArray → List Int) (wordsR : ByteArray → List Int) (c : Code) (s : KSt) (lv : List Nat) : Option (Ex × KSt) := evCK Try.prog cfgY (runK Try.prog cfgY fsY (conTk bxaDom (rcK [] (bxaT byteRV byteV headN isWb kLen manyV sizeN textA textAt textR vLen withRV wordsA wordsR))) 14 40) 14 c s (normC 0 lv)
theorem Qdgo {lv_ : List Nat} {co_ : Code} {st_ s' : KSt} {x : Ex} {Q : Ex → St → Prop} (hE_ : QdEV byteRV byteV headN isWb kLen manyV sizeN textA textAt textR vLen withRV wordsA wordsR co_ st_ lv_ = some (x, s')) (hq_ : Q x s'.low) (hok_ : okCode Try.prog.globals.size co_ = true := by kernel_rfl) : Gets Try.prog (KH.low ⟨0, 1, []⟩) co_ st_.low Q := Gets.ofN fitY bxa_sound (rc_agree _ _ _) 14 40 hok_ hE_ hq_
theorem QdeX {v : Value} {b c : Bool} (h : v = .bool b) (hb : b = c) : v = .bool c := by rw [h, hb]
theorem QdC : BQd = .seq (codeAt [0] BQd) (codeAt [1] BQd) := by kernel_rfl
theorem QdC1 : (codeAt [1] BQd) = .seq (codeAt [1, 0] BQd) (codeAt [1, 1] BQd) := by kernel_rfl
theorem QdC1_1 : (codeAt [1, 1] BQd) = .seq (codeAt [1, 1, 0] BQd) (codeAt [1, 1, 1] BQd) := by kernel_rfl
theorem QdC1_1_1 : (codeAt [1, 1, 1] BQd) = .seq (codeAt [1, 1, 1, 0] BQd) (codeAt [1, 1, 1, 1] BQd) := by kernel_rfl
theorem QdC1_1_1_1 : (codeAt [1, 1, 1, 1] BQd) = .seq (codeAt [1, 1, 1, 1, 0] BQd) (codeAt [1, 1, 1, 1, 1] BQd) := by kernel_rfl
theorem QdC1_1_1_1_1 : (codeAt [1, 1, 1, 1, 1] BQd) = .seq (codeAt [1, 1, 1, 1, 1, 0] BQd) (codeAt [1, 1, 1, 1, 1, 1] BQd) := by kernel_rfl
theorem QdC1_1_1_1_1_1 : (codeAt [1, 1, 1, 1, 1, 1] BQd) = .ret := by kernel_rfl
section
variable (byteRV : Int → Int → Int) (byteV : Int → Int → Int) (headN : ByteArray → ByteArray → Int) (isWb : Int → Bool) (kLen : Int → Int) (manyV : Int → Int) (sizeN : Int → Int) (textA : List Int → Int → ByteArray × Bool) (textAt : List Int → Int → Int → ByteArray) (textR : List Int → Int → ByteArray × Bool) (vLen : Int → Int) (withRV : Int → Int → Int → Int) (wordsA : ByteArray → List Int) (wordsR : ByteArray → List Int)
noncomputable def QdS0  : KSt := (firstK [(.slice (some ⟨0, 0, some 0⟩) 0 0)] 28 ⟨0, 1, []⟩)
noncomputable def QdS1  : KSt := ⟨(frameL 28 [(0, (.slice (some ⟨0, 0, some 0⟩) 0 0))]), ⟨0, 1, []⟩⟩
theorem QdR1  : QdEV byteRV byteV headN isWb kLen manyV sizeN textA textAt textR vLen withRV wordsA wordsR (codeAt [0] BQd) QdS0 [0] =
  some (.normal, QdS1) := by kernel_rfl
noncomputable def QdS2  : KSt := ⟨(frameL 28 [(0, (.slice (some ⟨0, 0, some 0⟩) 0 0)), (4, (.pointer (some ⟨0, 0, none⟩)))]), ⟨1, 1, [(0, 0, .cells [(.int .u64 0), (.int .u64 0), (.int .u64 0), (.int .u64 0), (.int .u64 0), (.int .u64 0)] 81 true)]⟩⟩
theorem QdR2  : QdEV byteRV byteV headN isWb kLen manyV sizeN textA textAt textR vLen withRV wordsA wordsR (codeAt [1, 0] BQd) QdS1 [0, 4] =
  some (.normal, QdS2) := by kernel_rfl
noncomputable def QdS3  : KSt := ⟨(frameL 28 [(4, (.pointer (some ⟨0, 0, none⟩)))]), ⟨1, 1, [(0, 0, .cells [(.int .u64 0), (.int .u64 0), (.int .u64 0), (.int .u64 0), (.int .u64 0), (.int .u64 0)] 81 true)]⟩⟩
theorem QdR3  : QdEV byteRV byteV headN isWb kLen manyV sizeN textA textAt textR vLen withRV wordsA wordsR (codeAt [1, 1, 0] BQd) QdS2 [4] =
  some (.normal, QdS3) := by kernel_rfl
noncomputable def QdS4 (A : List Int) : KSt := ⟨(frameL 28 [(4, (.pointer (some ⟨0, 0, none⟩)))]), ⟨1, 1, [(0, 0, .ints .u64 A 81 true)]⟩⟩
noncomputable def QdS5 (n1 : Int) (A : List Int) : KSt := ⟨(frameL 28 [(4, (.pointer (some ⟨0, 0, none⟩))), (5, (.int .i64 (kLen n1))), (6, (.int .i64 (vLen n1)))]), ⟨1, 1, [(0, 0, .ints .u64 A 81 true)]⟩⟩
theorem QdR4 (A : List Int) : QdEV byteRV byteV headN isWb kLen manyV sizeN textA textAt textR vLen withRV wordsA wordsR (codeAt [1, 1, 1, 0] BQd) (QdS4 A) [4, 5, 6] =
  obind (A[0]?) fun n1 =>
    bif (isWb n1) then
      some (.normal, (QdS5 kLen vLen n1 A))
    else
      none := by kernel_rfl
noncomputable def QdS6 (A : List Int) : KSt := ⟨(frameL 28 [(4, (.pointer (some ⟨0, 0, none⟩))), (5, (.int .i64 (kLen (A.getD 0 0)))), (6, (.int .i64 (vLen (A.getD 0 0))))]), ⟨1, 1, [(0, 0, .ints .u64 A 81 true)]⟩⟩
noncomputable def QdS7 (A : List Int) : KSt := ⟨(frameL 28 [(4, (.pointer (some ⟨0, 0, none⟩))), (5, (.int .i64 (kLen (A.getD 0 0)))), (6, (.int .i64 (vLen (A.getD 0 0)))), (7, (.int .i64 (IntKind.wrap .i64 (1 + (manyV (kLen (A.getD 0 0)))))))]), ⟨1, 1, [(0, 0, .ints .u64 A 81 true)]⟩⟩
theorem QdR5 (A : List Int) : QdEV byteRV byteV headN isWb kLen manyV sizeN textA textAt textR vLen withRV wordsA wordsR (codeAt [1, 1, 1, 1, 0] BQd) (QdS6 kLen vLen A) [4, 5, 6, 7] =
  bif (decide ((kLen (A.getD 0 0)) ≤ 9223372036854775807)) then
    some (.normal, (QdS7 kLen manyV vLen A))
  else
    none := by kernel_rfl
noncomputable def QdS8 (A : List Int) : KSt := ⟨(frameL 28 [(4, (.pointer (some ⟨0, 0, none⟩))), (5, (.int .i64 (kLen (A.getD 0 0)))), (6, (.int .i64 (vLen (A.getD 0 0)))), (7, (.int .i64 1))]), ⟨1, 1, [(0, 0, .ints .u64 A 81 true)]⟩⟩
noncomputable def QdS9 (A : List Int) : KSt := ⟨(frameL 28 [(2, (.string (textAt (List.take 0 (List.drop 1 A)) 0 (kLen (A.getD 0 0))))), (3, (.string (textAt (List.take 5 (List.drop 1 A)) 0 (vLen (A.getD 0 0)))))]), ⟨0, 1, []⟩⟩
theorem QdR6 (A : List Int) : QdEV byteRV byteV headN isWb kLen manyV sizeN textA textAt textR vLen withRV wordsA wordsR (codeAt [1, 1, 1, 1, 1, 0] BQd) (QdS8 kLen vLen A) [2, 3] =
  bif (Nat.ble 1 (List.length A)) then
    bif ((decide (0 ≤ (kLen (A.getD 0 0)))) && ((decide ((kLen (A.getD 0 0)) ≤ 1000)) && (decide ((kLen (A.getD 0 0)) ≤ 8 * ((List.length (List.take 0 (List.drop 1 A)) : Nat) : Int))))) then
      bif (Nat.ble 6 (List.length A)) then
        bif ((decide (0 ≤ (vLen (A.getD 0 0)))) && ((decide ((vLen (A.getD 0 0)) ≤ 1000)) && (decide ((vLen (A.getD 0 0)) ≤ 8 * ((List.length (List.take 5 (List.drop 1 A)) : Nat) : Int))))) then
          some (.normal, (QdS9 kLen textAt vLen A))
        else
          none
      else
        none
    else
      none
  else
    none := by kernel_rfl
noncomputable def QdS10 (A : List Int) : KSt := ⟨(frameL 28 [(4, (.pointer (some ⟨0, 0, none⟩))), (5, (.int .i64 (kLen (A.getD 0 0)))), (6, (.int .i64 (vLen (A.getD 0 0)))), (7, (.int .i64 2))]), ⟨1, 1, [(0, 0, .ints .u64 A 81 true)]⟩⟩
noncomputable def QdS11 (A : List Int) : KSt := ⟨(frameL 28 [(2, (.string (textAt (List.take 1 (List.drop 1 A)) 0 (kLen (A.getD 0 0))))), (3, (.string (textAt (List.take 4 (List.drop 2 A)) 0 (vLen (A.getD 0 0)))))]), ⟨0, 1, []⟩⟩
theorem QdR7 (A : List Int) : QdEV byteRV byteV headN isWb kLen manyV sizeN textA textAt textR vLen withRV wordsA wordsR (codeAt [1, 1, 1, 1, 1, 0] BQd) (QdS10 kLen vLen A) [2, 3] =
  bif (Nat.ble 2 (List.length A)) then
    bif ((decide (0 ≤ (kLen (A.getD 0 0)))) && ((decide ((kLen (A.getD 0 0)) ≤ 1000)) && (decide ((kLen (A.getD 0 0)) ≤ 8 * ((List.length (List.take 1 (List.drop 1 A)) : Nat) : Int))))) then
      bif (Nat.ble 6 (List.length A)) then
        bif ((decide (0 ≤ (vLen (A.getD 0 0)))) && ((decide ((vLen (A.getD 0 0)) ≤ 1000)) && (decide ((vLen (A.getD 0 0)) ≤ 8 * ((List.length (List.take 4 (List.drop 2 A)) : Nat) : Int))))) then
          some (.normal, (QdS11 kLen textAt vLen A))
        else
          none
      else
        none
    else
      none
  else
    none := by kernel_rfl
noncomputable def QdS12 (A : List Int) : KSt := ⟨(frameL 28 [(4, (.pointer (some ⟨0, 0, none⟩))), (5, (.int .i64 (kLen (A.getD 0 0)))), (6, (.int .i64 (vLen (A.getD 0 0)))), (7, (.int .i64 3))]), ⟨1, 1, [(0, 0, .ints .u64 A 81 true)]⟩⟩
noncomputable def QdS13 (A : List Int) : KSt := ⟨(frameL 28 [(2, (.string (textAt (List.take 2 (List.drop 1 A)) 0 (kLen (A.getD 0 0))))), (3, (.string (textAt (List.take 3 (List.drop 3 A)) 0 (vLen (A.getD 0 0)))))]), ⟨0, 1, []⟩⟩
theorem QdR8 (A : List Int) : QdEV byteRV byteV headN isWb kLen manyV sizeN textA textAt textR vLen withRV wordsA wordsR (codeAt [1, 1, 1, 1, 1, 0] BQd) (QdS12 kLen vLen A) [2, 3] =
  bif (Nat.ble 3 (List.length A)) then
    bif ((decide (0 ≤ (kLen (A.getD 0 0)))) && ((decide ((kLen (A.getD 0 0)) ≤ 1000)) && (decide ((kLen (A.getD 0 0)) ≤ 8 * ((List.length (List.take 2 (List.drop 1 A)) : Nat) : Int))))) then
      bif (Nat.ble 6 (List.length A)) then
        bif ((decide (0 ≤ (vLen (A.getD 0 0)))) && ((decide ((vLen (A.getD 0 0)) ≤ 1000)) && (decide ((vLen (A.getD 0 0)) ≤ 8 * ((List.length (List.take 3 (List.drop 3 A)) : Nat) : Int))))) then
          some (.normal, (QdS13 kLen textAt vLen A))
        else
          none
      else
        none
    else
      none
  else
    none := by kernel_rfl
end
theorem Qdc0    {Q : Ex → St → Prop} (hq : Gets Try.prog (KH.low ⟨0, 1, []⟩) (codeAt [1, 1, 1] BQd) (KSt.low QdS3) (Q)) : Gets Try.prog (KH.low ⟨0, 1, []⟩) BQd (KSt.low QdS0) Q := by
  rw [QdC]; refine Gets.seq ?_
  refine Qdgo (QdR1 byteRV byteV headN isWb kLen manyV sizeN textA textAt textR vLen withRV wordsA wordsR) ?_
  rw [QdC1]; refine Gets.seq ?_
  refine Qdgo (QdR2 byteRV byteV headN isWb kLen manyV sizeN textA textAt textR vLen withRV wordsA wordsR) ?_
  rw [QdC1_1]; refine Gets.seq ?_
  refine Qdgo (QdR3 byteRV byteV headN isWb kLen manyV sizeN textA textAt textR vLen withRV wordsA wordsR) ?_
  exact hq
theorem Qdt1 {A : List Int} (hAl : A.length = 6) (hw : isWb (A.getD 0 0) = true) (hat : (IntKind.wrap .i64 (1 + (manyV (kLen (A.getD 0 0))))) = 1) (hk0 : 0 ≤ kLen (A.getD 0 0)) (hk1 : kLen (A.getD 0 0) ≤ 0) (hv0 : 0 ≤ vLen (A.getD 0 0)) (hv1 : vLen (A.getD 0 0) ≤ 24)   {Q : Ex → St → Prop} (hq : Q .ret (KSt.low (QdS9 kLen textAt vLen A))) : Gets Try.prog (KH.low ⟨0, 1, []⟩) (codeAt [1, 1, 1] BQd) (KSt.low (QdS4 A)) Q := by
  rw [QdC1_1_1]; refine Gets.seq ?_
  refine Qdgo (x := .normal) (s' := (QdS6 kLen vLen A)) ((QdR4 byteRV byteV headN isWb kLen manyV sizeN textA textAt textR vLen withRV wordsA wordsR A).trans (by rw [obind_at (k := 0) (by omega) (by omega), condT (hw)] <;> rfl)) ?_
  rw [QdC1_1_1_1]; refine Gets.seq ?_
  refine Qdgo (x := .normal) (s' := (QdS8 kLen vLen A)) ((QdR5 byteRV byteV headN isWb kLen manyV sizeN textA textAt textR vLen withRV wordsA wordsR A).trans (by rw [condT (decide_eq_true (by omega))] <;> (show some (Ex.normal, (QdS7 kLen manyV vLen A)) = some (Ex.normal, (QdS8 kLen vLen A)); unfold QdS7 QdS8; rw [(show (IntKind.wrap .i64 (1 + (manyV (kLen (A.getD 0 0))))) = 1 from hat)]))) ?_
  rw [QdC1_1_1_1_1]; refine Gets.seq ?_
  refine Qdgo (x := .normal) (s' := (QdS9 kLen textAt vLen A)) ((QdR6 byteRV byteV headN isWb kLen manyV sizeN textA textAt textR vLen withRV wordsA wordsR A).trans (by rw [condT (ble_t (by (first | omega | (simp only [List.length_take, List.length_drop, hAl]; omega)))), condT (and_t (decide_eq_true (by omega)) (and_t (decide_eq_true (by omega)) (decide_eq_true (by (first | omega | (simp only [List.length_take, List.length_drop, hAl]; omega)))))), condT (ble_t (by (first | omega | (simp only [List.length_take, List.length_drop, hAl]; omega)))), condT (and_t (decide_eq_true (by omega)) (and_t (decide_eq_true (by omega)) (decide_eq_true (by (first | omega | (simp only [List.length_take, List.length_drop, hAl]; omega))))))])) ?_
  rw [QdC1_1_1_1_1_1]; refine Gets.ev fitY.mix fitY.cfg (fitY.sound bxa_sound 14 0) 14 rfl (s' := KSt.low (QdS9 kLen textAt vLen A)) (x := .ret) rfl ?_
  exact hq
theorem Qdt2 {A : List Int} (hAl : A.length = 6) (hw : isWb (A.getD 0 0) = true) (hat : (IntKind.wrap .i64 (1 + (manyV (kLen (A.getD 0 0))))) = 2) (hk0 : 0 ≤ kLen (A.getD 0 0)) (hk1 : kLen (A.getD 0 0) ≤ 8) (hv0 : 0 ≤ vLen (A.getD 0 0)) (hv1 : vLen (A.getD 0 0) ≤ 24)   {Q : Ex → St → Prop} (hq : Q .ret (KSt.low (QdS11 kLen textAt vLen A))) : Gets Try.prog (KH.low ⟨0, 1, []⟩) (codeAt [1, 1, 1] BQd) (KSt.low (QdS4 A)) Q := by
  rw [QdC1_1_1]; refine Gets.seq ?_
  refine Qdgo (x := .normal) (s' := (QdS6 kLen vLen A)) ((QdR4 byteRV byteV headN isWb kLen manyV sizeN textA textAt textR vLen withRV wordsA wordsR A).trans (by rw [obind_at (k := 0) (by omega) (by omega), condT (hw)] <;> rfl)) ?_
  rw [QdC1_1_1_1]; refine Gets.seq ?_
  refine Qdgo (x := .normal) (s' := (QdS10 kLen vLen A)) ((QdR5 byteRV byteV headN isWb kLen manyV sizeN textA textAt textR vLen withRV wordsA wordsR A).trans (by rw [condT (decide_eq_true (by omega))] <;> (show some (Ex.normal, (QdS7 kLen manyV vLen A)) = some (Ex.normal, (QdS10 kLen vLen A)); unfold QdS7 QdS10; rw [(show (IntKind.wrap .i64 (1 + (manyV (kLen (A.getD 0 0))))) = 2 from hat)]))) ?_
  rw [QdC1_1_1_1_1]; refine Gets.seq ?_
  refine Qdgo (x := .normal) (s' := (QdS11 kLen textAt vLen A)) ((QdR7 byteRV byteV headN isWb kLen manyV sizeN textA textAt textR vLen withRV wordsA wordsR A).trans (by rw [condT (ble_t (by (first | omega | (simp only [List.length_take, List.length_drop, hAl]; omega)))), condT (and_t (decide_eq_true (by omega)) (and_t (decide_eq_true (by omega)) (decide_eq_true (by (first | omega | (simp only [List.length_take, List.length_drop, hAl]; omega)))))), condT (ble_t (by (first | omega | (simp only [List.length_take, List.length_drop, hAl]; omega)))), condT (and_t (decide_eq_true (by omega)) (and_t (decide_eq_true (by omega)) (decide_eq_true (by (first | omega | (simp only [List.length_take, List.length_drop, hAl]; omega))))))])) ?_
  rw [QdC1_1_1_1_1_1]; refine Gets.ev fitY.mix fitY.cfg (fitY.sound bxa_sound 14 0) 14 rfl (s' := KSt.low (QdS11 kLen textAt vLen A)) (x := .ret) rfl ?_
  exact hq
theorem Qdt3 {A : List Int} (hAl : A.length = 6) (hw : isWb (A.getD 0 0) = true) (hat : (IntKind.wrap .i64 (1 + (manyV (kLen (A.getD 0 0))))) = 3) (hk0 : 0 ≤ kLen (A.getD 0 0)) (hk1 : kLen (A.getD 0 0) ≤ 16) (hv0 : 0 ≤ vLen (A.getD 0 0)) (hv1 : vLen (A.getD 0 0) ≤ 24)   {Q : Ex → St → Prop} (hq : Q .ret (KSt.low (QdS13 kLen textAt vLen A))) : Gets Try.prog (KH.low ⟨0, 1, []⟩) (codeAt [1, 1, 1] BQd) (KSt.low (QdS4 A)) Q := by
  rw [QdC1_1_1]; refine Gets.seq ?_
  refine Qdgo (x := .normal) (s' := (QdS6 kLen vLen A)) ((QdR4 byteRV byteV headN isWb kLen manyV sizeN textA textAt textR vLen withRV wordsA wordsR A).trans (by rw [obind_at (k := 0) (by omega) (by omega), condT (hw)] <;> rfl)) ?_
  rw [QdC1_1_1_1]; refine Gets.seq ?_
  refine Qdgo (x := .normal) (s' := (QdS12 kLen vLen A)) ((QdR5 byteRV byteV headN isWb kLen manyV sizeN textA textAt textR vLen withRV wordsA wordsR A).trans (by rw [condT (decide_eq_true (by omega))] <;> (show some (Ex.normal, (QdS7 kLen manyV vLen A)) = some (Ex.normal, (QdS12 kLen vLen A)); unfold QdS7 QdS12; rw [(show (IntKind.wrap .i64 (1 + (manyV (kLen (A.getD 0 0))))) = 3 from hat)]))) ?_
  rw [QdC1_1_1_1_1]; refine Gets.seq ?_
  refine Qdgo (x := .normal) (s' := (QdS13 kLen textAt vLen A)) ((QdR8 byteRV byteV headN isWb kLen manyV sizeN textA textAt textR vLen withRV wordsA wordsR A).trans (by rw [condT (ble_t (by (first | omega | (simp only [List.length_take, List.length_drop, hAl]; omega)))), condT (and_t (decide_eq_true (by omega)) (and_t (decide_eq_true (by omega)) (decide_eq_true (by (first | omega | (simp only [List.length_take, List.length_drop, hAl]; omega)))))), condT (ble_t (by (first | omega | (simp only [List.length_take, List.length_drop, hAl]; omega)))), condT (and_t (decide_eq_true (by omega)) (and_t (decide_eq_true (by omega)) (decide_eq_true (by (first | omega | (simp only [List.length_take, List.length_drop, hAl]; omega))))))])) ?_
  rw [QdC1_1_1_1_1_1]; refine Gets.ev fitY.mix fitY.cfg (fitY.sound bxa_sound 14 0) 14 rfl (s' := KSt.low (QdS13 kLen textAt vLen A)) (x := .ret) rfl ?_
  exact hq
theorem read_end (l : List Int) (n off c : Nat) (e : TypeId) (A : List Int) (hAl : A.length = 6) (hA6 : ∀ i, i < 6 → A.getD i 0 = List.getD l i 0) (hw : word64 (List.getD l 0 0)) : Gets Try.prog (KH.low ⟨1, 1, [(0, 0, .tail off .u64 l e)]⟩) (codeAt [1, 1, 1] BRd) (KSt.low (RdS5 A off l e)) (EndsR Try.prog Try.f28 (.tuple #[.string (textAt l 1 (kLen (List.getD l 0 0))), .string (textAt l (1 + manyV (kLen (List.getD l 0 0))) (vLen (List.getD l 0 0)))]) [.tail off .u64 l e] [] []) := by
  have hW : A.getD 0 0 = List.getD l 0 0 := hA6 0 (by omega)
  obtain ⟨k0, k1, v0, v1⟩ := kLen_le _ hw
  rw [← hW] at k0 k1 v0 v1
  have hwb : isWb (A.getD 0 0) = true := isWb_of (by rw [hW]; exact hw)
  have hm := many_le k0 (n := manyV (kLen (A.getD 0 0))) rfl
  by_cases h1 : manyV (kLen (A.getD 0 0)) = 0
  · refine Rdt1 hAl hwb (by rw [wrap_i64_id (by omega) (by omega)]; omega) k0 (by omega) v0 v1 ?_
    refine EndsR.ret (l := [.string (textAt (List.take 0 (List.drop 1 A)) 0 (kLen (A.getD 0 0))), .string (textAt (List.take 5 (List.drop 1 A)) 0 (vLen (A.getD 0 0)))]) (by kernel_rfl) ?_ (Fits.n0 rfl rfl (show (1 : Nat) ≤ 1 by decide))
    rw [textAt_sub hA6 (d := 1) (t := 0) (by omega) (by omega), textAt_sub hA6 (d := 1) (t := 5) (by omega) (by omega), ← hW, show 1 + manyV (kLen (A.getD 0 0)) = ((1 : Nat) : Int) by omega]
    rfl
  by_cases h2 : manyV (kLen (A.getD 0 0)) = 1
  · refine Rdt2 hAl hwb (by rw [wrap_i64_id (by omega) (by omega)]; omega) k0 (by omega) v0 v1 ?_
    refine EndsR.ret (l := [.string (textAt (List.take 1 (List.drop 1 A)) 0 (kLen (A.getD 0 0))), .string (textAt (List.take 4 (List.drop 2 A)) 0 (vLen (A.getD 0 0)))]) (by kernel_rfl) ?_ (Fits.n0 rfl rfl (show (1 : Nat) ≤ 1 by decide))
    rw [textAt_sub hA6 (d := 1) (t := 1) (by omega) (by omega), textAt_sub hA6 (d := 2) (t := 4) (by omega) (by omega), ← hW, show 1 + manyV (kLen (A.getD 0 0)) = ((2 : Nat) : Int) by omega]
    rfl
  refine Rdt3 hAl hwb (by rw [wrap_i64_id (by omega) (by omega)]; omega) k0 (by omega) v0 v1 ?_
  refine EndsR.ret (l := [.string (textAt (List.take 2 (List.drop 1 A)) 0 (kLen (A.getD 0 0))), .string (textAt (List.take 3 (List.drop 3 A)) 0 (vLen (A.getD 0 0)))]) (by kernel_rfl) ?_ (Fits.n0 rfl rfl (show (1 : Nat) ≤ 1 by decide))
  rw [textAt_sub hA6 (d := 1) (t := 2) (by omega) (by omega), textAt_sub hA6 (d := 3) (t := 3) (by omega) (by omega), ← hW, show 1 + manyV (kLen (A.getD 0 0)) = ((3 : Nat) : Int) by omega]
  rfl
theorem read0_end (A : List Int) (hAl : A.length = 6) (hA6 : ∀ i, i < 6 → A.getD i 0 = List.getD ([] : List Int) i 0) (hw : word64 (List.getD ([] : List Int) 0 0)) : Gets Try.prog (KH.low ⟨0, 1, []⟩) (codeAt [1, 1, 1] BQd) (KSt.low (QdS4 A)) (EndsR Try.prog Try.f28 (.tuple #[.string (textAt ([] : List Int) 1 (kLen (List.getD ([] : List Int) 0 0))), .string (textAt ([] : List Int) (1 + manyV (kLen (List.getD ([] : List Int) 0 0))) (vLen (List.getD ([] : List Int) 0 0)))]) [] [] []) := by
  have hW : A.getD 0 0 = List.getD ([] : List Int) 0 0 := hA6 0 (by omega)
  obtain ⟨k0, k1, v0, v1⟩ := kLen_le _ hw
  rw [← hW] at k0 k1 v0 v1
  have hwb : isWb (A.getD 0 0) = true := isWb_of (by rw [hW]; exact hw)
  have hm := many_le k0 (n := manyV (kLen (A.getD 0 0))) rfl
  by_cases h1 : manyV (kLen (A.getD 0 0)) = 0
  · refine Qdt1 hAl hwb (by rw [wrap_i64_id (by omega) (by omega)]; omega) k0 (by omega) v0 v1 ?_
    refine EndsR.ret (l := [.string (textAt (List.take 0 (List.drop 1 A)) 0 (kLen (A.getD 0 0))), .string (textAt (List.take 5 (List.drop 1 A)) 0 (vLen (A.getD 0 0)))]) (by kernel_rfl) ?_ (Fits.n0 rfl rfl (show (0 : Nat) ≤ 0 by decide))
    rw [textAt_sub hA6 (d := 1) (t := 0) (by omega) (by omega), textAt_sub hA6 (d := 1) (t := 5) (by omega) (by omega), ← hW, show 1 + manyV (kLen (A.getD 0 0)) = ((1 : Nat) : Int) by omega]
    rfl
  by_cases h2 : manyV (kLen (A.getD 0 0)) = 1
  · refine Qdt2 hAl hwb (by rw [wrap_i64_id (by omega) (by omega)]; omega) k0 (by omega) v0 v1 ?_
    refine EndsR.ret (l := [.string (textAt (List.take 1 (List.drop 1 A)) 0 (kLen (A.getD 0 0))), .string (textAt (List.take 4 (List.drop 2 A)) 0 (vLen (A.getD 0 0)))]) (by kernel_rfl) ?_ (Fits.n0 rfl rfl (show (0 : Nat) ≤ 0 by decide))
    rw [textAt_sub hA6 (d := 1) (t := 1) (by omega) (by omega), textAt_sub hA6 (d := 2) (t := 4) (by omega) (by omega), ← hW, show 1 + manyV (kLen (A.getD 0 0)) = ((2 : Nat) : Int) by omega]
    rfl
  refine Qdt3 hAl hwb (by rw [wrap_i64_id (by omega) (by omega)]; omega) k0 (by omega) v0 v1 ?_
  refine EndsR.ret (l := [.string (textAt (List.take 2 (List.drop 1 A)) 0 (kLen (A.getD 0 0))), .string (textAt (List.take 3 (List.drop 3 A)) 0 (vLen (A.getD 0 0)))]) (by kernel_rfl) ?_ (Fits.n0 rfl rfl (show (0 : Nat) ≤ 0 by decide))
  rw [textAt_sub hA6 (d := 1) (t := 2) (by omega) (by omega), textAt_sub hA6 (d := 3) (t := 3) (by omega) (by omega), ← hW, show 1 + manyV (kLen (A.getD 0 0)) = ((3 : Nat) : Int) by omega]
  rfl
theorem pad6 {l : List Int} {n off : Nat} (hl : l.length = n) (A : List Int) (hA : (List.take 0 ([0, 0, 0, 0, 0, 0]) ++ (List.take (min n 6) (List.drop (off - off) l)) ++ List.drop (0 + (List.length (List.take (min n 6) (List.drop (off - off) l)))) ([0, 0, 0, 0, 0, 0])) = A) : A.length = 6 ∧ ∀ i, i < 6 → A.getD i 0 = l.getD i 0 := by
  subst hA
  rw [Nat.sub_self, List.drop_zero, List.take_zero, List.nil_append, Nat.zero_add, List.length_take]
  have h1 : min (min n 6) l.length = min n 6 := by omega
  rw [h1]
  refine ⟨by simp; omega, fun i hi => ?_⟩
  rw [List.getD_eq_getElem?_getD, List.getElem?_append, List.length_take, h1]
  split
  · rw [List.getElem?_take, if_pos (by omega), ← List.getD_eq_getElem?_getD]
  · rw [List.getElem?_drop, List.getD_eq_getElem?_getD, List.getElem?_eq_none (l := l) (by omega), show min n 6 + (i - min n 6) = i by omega]
    match i, hi with
    | 0, _ => rfl
    | 1, _ => rfl
    | 2, _ => rfl
    | 3, _ => rfl
    | 4, _ => rfl
    | 5, _ => rfl
theorem boxRead_does (l : List Int) (n off c : Nat) (e : TypeId) (hl : l.length = n) (hw : isWs l = true) : DoesC Try.prog 28 [(.slice (some ⟨0, off, none⟩) n c)] (mkH [.tail off .u64 l e]).low (.tuple #[.string (textAt l 1 (kLen (List.getD l 0 0))), .string (textAt l (1 + manyV (kLen (List.getD l 0 0))) (vLen (List.getD l 0 0)))]) (effK (mkH [.tail off .u64 l e]) [] []).low := by
  refine EndsR.does Try.func28 BRd_is (by rw [noVars]; exact Nat.zero_le _) ?_
  show Gets Try.prog (KH.low ⟨1, 1, [(0, 0, .tail off .u64 l e)]⟩) BRd (KSt.low (RdS0 off n c l e)) _
  have hw0 : word64 (List.getD l 0 0) := getD_word (isWs_word hw) 0
  by_cases hn : n = 0
  · refine Rdc0 hn ?_
    obtain rfl : l = [] := List.eq_nil_of_length_eq_zero (by omega)
    exact read_end [] n off c e [0, 0, 0, 0, 0, 0] rfl (fun i hi => by
      match i, hi with
      | 0, _ => rfl
      | 1, _ => rfl
      | 2, _ => rfl
      | 3, _ => rfl
      | 4, _ => rfl
      | 5, _ => rfl) hw0
  · refine Rdcp (by omega) hl rfl ?_
    obtain ⟨h1, h2⟩ := pad6 (off := off) hl _ rfl
    exact read_end l n off c e _ h1 h2 hw0
theorem boxRead0_does : DoesC Try.prog 28 [(.slice (some ⟨0, 0, some 0⟩) 0 0)] (mkH []).low (.tuple #[.string (textAt ([] : List Int) 1 (kLen (List.getD ([] : List Int) 0 0))), .string (textAt ([] : List Int) (1 + manyV (kLen (List.getD ([] : List Int) 0 0))) (vLen (List.getD ([] : List Int) 0 0)))]) (effK (mkH []) [] []).low := by
  refine EndsR.does Try.func28 BQd_is (by rw [noVars]; exact Nat.zero_le _) ?_
  show Gets Try.prog (KH.low ⟨0, 1, []⟩) BQd (KSt.low QdS0) _
  refine Qdc0 ?_
  show Gets _ _ (codeAt [1, 1, 1] BQd) (KSt.low (QdS4 ([0, 0, 0, 0, 0, 0]))) _
  exact read0_end [0, 0, 0, 0, 0, 0] rfl (fun i hi => by
      match i, hi with
      | 0, _ => rfl
      | 1, _ => rfl
      | 2, _ => rfl
      | 3, _ => rfl
      | 4, _ => rfl
      | 5, _ => rfl) ⟨by decide, by decide⟩
noncomputable def rc_r16_bytes (isWs : List Int → Bool) (textAt : List Int → Int → Int → ByteArray) : RC := ⟨[.row .u64, .int .i64, .int .i64], fun avs => match avs with | [.row l, .int i, .int k] => ((decide (0 ≤ i)) && ((decide (i ≤ 1000)) && ((decide (0 ≤ k)) && ((decide (k ≤ 1000)) && ((Nat.ble (List.length l) 1000000) && (isWs l)))))) | _ => false,
  fun N avs => match avs with | [.row l, .int i, .int k] => ((.string (textAt l i k)), [], []) | _ => (.bool false, [], [])⟩
theorem rc_r16_bytes_does : RcDoes Try.prog [] 56 (rc_r16_bytes isWs textAt) := by
  intro vb avs args blks hv hs hp
  cases hv
  cases hs with
  | row0 hs =>
    cases hs with
    | int i hs =>
      cases hs with
      | int k hs =>
        cases hs
        have hp : (decide (0 ≤ i) && (decide (i ≤ 1000) && (decide (0 ≤ k) && (decide (k ≤ 1000) && (Nat.ble (List.length ([] : List Int)) 1000000 && isWs ([] : List Int)))))) = true := hp
        simp only [Bool.and_eq_true, decide_eq_true_eq] at hp
        obtain ⟨h1, h2, h3, h4, h5, h6⟩ := hp
        exact bytes0_does i k h1 h2 h3 h4
  | row off_l n_l c_l l e_l hl_l hs =>
    cases hs with
    | int i hs =>
      cases hs with
      | int k hs =>
        cases hs
        have hp : (decide (0 ≤ i) && (decide (i ≤ 1000) && (decide (0 ≤ k) && (decide (k ≤ 1000) && (Nat.ble (List.length l) 1000000 && isWs l))))) = true := hp
        simp only [Bool.and_eq_true, decide_eq_true_eq] at hp
        obtain ⟨h1, h2, h3, h4, h5, h6⟩ := hp
        exact bytes_does l i k n_l off_l c_l e_l hl_l (by have := Nat.le_of_ble_eq_true h5; omega) h6 h1 h2 h3 h4
noncomputable def bxqT (byteRV : Int → Int → Int) (byteV : Int → Int → Int) (headN : ByteArray → ByteArray → Int) (isWb : Int → Bool) (isWs : List Int → Bool) (kLen : Int → Int) (manyV : Int → Int) (sizeN : Int → Int) (textA : List Int → Int → ByteArray × Bool) (textAt : List Int → Int → Int → ByteArray) (textR : List Int → Int → ByteArray × Bool) (vLen : Int → Int) (withRV : Int → Int → Int → Int) (wordsA : ByteArray → List Int) (wordsR : ByteArray → List Int) : RTab := fun f => match f with
  | 11 => some rc_sprocketlaw04_awake
  | 48 => some (rc_lane_Byte byteV)
  | 49 => some (rc_r02_Byte byteRV)
  | 50 => some (rc_r02_With withRV)
  | 17 => some (rc_pack_Many manyV)
  | 18 => some (rc_r04_Many manyV)
  | 15 => some (rc_pack_Words wordsA)
  | 16 => some (rc_r04_Words wordsR)
  | 12 => some (rc_pack_Text textA)
  | 13 => some (rc_r04_Text textR)
  | 14 => some rc_r02_Words
  | 33 => some (rc_box_Head headN)
  | 30 => some (rc_r16_Head headN)
  | 31 => some (rc_box_Lens isWb kLen vLen)
  | 32 => some (rc_r16_Lens isWb kLen vLen)
  | 34 => some (rc_box_Size isWb sizeN)
  | 35 => some (rc_r16_Size isWb sizeN)
  | 55 => some rc_r16_word
  | 54 => some (rc_box_cut textAt)
  | 56 => some (rc_r16_bytes isWs textAt)
  | _ => none
def bxqDom : List FuncId := [11, 48, 49, 50, 17, 18, 15, 16, 12, 13, 14, 33, 30, 31, 32, 34, 35, 55, 54, 56]
theorem bxq_does : ∀ f rc, f ∈ bxqDom → (bxqT byteRV byteV headN isWb isWs kLen manyV sizeN textA textAt textR vLen withRV wordsA wordsR) f = some rc → RcDoes Try.prog [] f rc := by
  intro f rc hf hT
  simp only [bxqDom, List.mem_cons, List.not_mem_nil, or_false] at hf
  rcases hf with rfl | rfl | rfl | rfl | rfl | rfl | rfl | rfl | rfl | rfl | rfl | rfl | rfl | rfl | rfl | rfl | rfl | rfl | rfl | rfl
  · cases hT; exact rc_sprocketlaw04_awake_does
  · cases hT; exact rc_lane_Byte_does
  · cases hT; exact rc_r02_Byte_does
  · cases hT; exact rc_r02_With_does
  · cases hT; exact rc_pack_Many_does
  · cases hT; exact rc_r04_Many_does
  · cases hT; exact rc_pack_Words_does
  · cases hT; exact rc_r04_Words_does
  · cases hT; exact rc_pack_Text_does
  · cases hT; exact rc_r04_Text_does
  · cases hT; exact rc_r02_Words_does
  · cases hT; exact rc_box_Head_does
  · cases hT; exact rc_r16_Head_does
  · cases hT; exact rc_box_Lens_does
  · cases hT; exact rc_r16_Lens_does
  · cases hT; exact rc_box_Size_does
  · cases hT; exact rc_r16_Size_does
  · cases hT; exact rc_r16_word_does
  · cases hT; exact rc_box_cut_does
  · cases hT; exact rc_r16_bytes_does
theorem bxq_fn : ∀ f ∈ bxqDom, FnOk Try.prog f := fun f hf => fitY.fnOk f (by
    have h0 : (bxqDom.all fun f => fsY.contains f) = true := by kernel_rfl
    simpa using List.all_eq_true.1 h0 f hf)
theorem bxq_sound : SoundC Try.prog (conC bxqDom (rcE [] (bxqT byteRV byteV headN isWb isWs kLen manyV sizeN textA textAt textR vLen withRV wordsA wordsR))) := rc_sound noVars bxq_fn bxq_does
noncomputable def BVe : Code := bodyOf Try.prog 29
theorem BVe_is : Try.f29.body = some BVe := by kernel_rfl
theorem BVe_ok : okCode Try.prog.globals.size BVe = true := by kernel_rfl
noncomputable abbrev VeEV (byteRV : Int → Int → Int) (byteV : Int → Int → Int) (headN : ByteArray → ByteArray → Int) (isWb : Int → Bool) (isWs : List Int → Bool) (kLen : Int → Int) (manyV : Int → Int) (sizeN : Int → Int) (textA : List Int → Int → ByteArray × Bool) (textAt : List Int → Int → Int → ByteArray) (textR : List Int → Int → ByteArray × Bool) (vLen : Int → Int) (withRV : Int → Int → Int → Int) (wordsA : ByteArray → List Int) (wordsR : ByteArray → List Int) (c : Code) (s : KSt) (lv : List Nat) : Option (Ex × KSt) := evCK Try.prog cfgY (runK Try.prog cfgY fsY (conTk bxqDom (rcK [] (bxqT byteRV byteV headN isWb isWs kLen manyV sizeN textA textAt textR vLen withRV wordsA wordsR))) 14 40) 14 c s (normC 1 lv)
theorem Vego {lv_ : List Nat} {co_ : Code} {st_ s' : KSt} {x : Ex} {Q : Ex → St → Prop} {off : Nat} {l : List Int} {e : TypeId} (hE_ : VeEV byteRV byteV headN isWb isWs kLen manyV sizeN textA textAt textR vLen withRV wordsA wordsR co_ st_ lv_ = some (x, s')) (hq_ : Q x s'.low) (hok_ : okCode Try.prog.globals.size co_ = true := by kernel_rfl) : Gets Try.prog (KH.low ⟨1, 1, [(0, 0, .tail off .u64 l e)]⟩) co_ st_.low Q := Gets.ofN fitY bxq_sound (rc_agree _ _ _) 14 40 hok_ hE_ hq_
theorem VeeX {v : Value} {b c : Bool} (h : v = .bool b) (hb : b = c) : v = .bool c := by rw [h, hb]
theorem VeC : BVe = .seq (codeAt [0] BVe) (codeAt [1] BVe) := by kernel_rfl
theorem VeC1 : (codeAt [1] BVe) = .seq (codeAt [1, 0] BVe) (codeAt [1, 1] BVe) := by kernel_rfl
theorem VeC1_1 : (codeAt [1, 1] BVe) = .seq (codeAt [1, 1, 0] BVe) (codeAt [1, 1, 1] BVe) := by kernel_rfl
theorem VeC1_1_1 : (codeAt [1, 1, 1] BVe) = .ret := by kernel_rfl
section
variable (byteRV : Int → Int → Int) (byteV : Int → Int → Int) (headN : ByteArray → ByteArray → Int) (isWb : Int → Bool) (isWs : List Int → Bool) (kLen : Int → Int) (manyV : Int → Int) (sizeN : Int → Int) (textA : List Int → Int → ByteArray × Bool) (textAt : List Int → Int → Int → ByteArray) (textR : List Int → Int → ByteArray × Bool) (vLen : Int → Int) (withRV : Int → Int → Int → Int) (wordsA : ByteArray → List Int) (wordsR : ByteArray → List Int)
noncomputable def VeS0 (off : Nat) (n : Nat) (c : Nat) (l : List Int) (e : TypeId) : KSt := (firstK [(.slice (some ⟨0, off, none⟩) n c)] 21 ⟨1, 1, [(0, 0, .tail off .u64 l e)]⟩)
noncomputable def VeS1 (off : Nat) (n : Nat) (c : Nat) (l : List Int) (e : TypeId) : KSt := ⟨(frameL 21 [(0, (.slice (some ⟨0, off, none⟩) n c))]), ⟨1, 1, [(0, 0, .tail off .u64 l e)]⟩⟩
theorem VeR1 (off : Nat) (n : Nat) (c : Nat) (l : List Int) (e : TypeId) : VeEV byteRV byteV headN isWb isWs kLen manyV sizeN textA textAt textR vLen withRV wordsA wordsR (codeAt [0] BVe) (VeS0 off n c l e) [0] =
  some (.normal, (VeS1 off n c l e)) := by kernel_rfl
noncomputable def VeS2 (off : Nat) (n : Nat) (c : Nat) (l : List Int) (e : TypeId) : KSt := ⟨(frameL 21 [(0, (.slice (some ⟨0, off, none⟩) n c)), (4, (.int .i64 (kLen (List.getD (List.take n (List.drop (off - off) l)) (Int.toNat 0) 0)))), (5, (.int .i64 (vLen (List.getD (List.take n (List.drop (off - off) l)) (Int.toNat 0) 0))))]), ⟨1, 1, [(0, 0, .tail off .u64 l e)]⟩⟩
theorem VeR2 (off : Nat) (n : Nat) (c : Nat) (l : List Int) (e : TypeId) : VeEV byteRV byteV headN isWb isWs kLen manyV sizeN textA textAt textR vLen withRV wordsA wordsR (codeAt [1, 0] BVe) (VeS1 off n c l e) [0, 4, 5] =
  bif (Nat.ble off off) then
    bif (Nat.ble ((off - off) + n) (List.length l)) then
      bif ((decide (0 ≤ 0)) && (Nat.ble (List.length (List.take n (List.drop (off - off) l))) 1000000)) then
        bif (isWb (List.getD (List.take n (List.drop (off - off) l)) (Int.toNat 0) 0)) then
          some (.normal, (VeS2 kLen vLen off n c l e))
        else
          none
      else
        none
    else
      none
  else
    none := by kernel_rfl
noncomputable def VeS3 (n : Nat) (off : Nat) (l : List Int) (e : TypeId) : KSt := ⟨(frameL 21 [(2, (.string (textAt (List.take n (List.drop (off - off) l)) 1 (kLen (List.getD (List.take n (List.drop (off - off) l)) (Int.toNat 0) 0))))), (3, (.string (textAt (List.take n (List.drop (off - off) l)) (IntKind.wrap .i64 (1 + (manyV (kLen (List.getD (List.take n (List.drop (off - off) l)) (Int.toNat 0) 0))))) (vLen (List.getD (List.take n (List.drop (off - off) l)) (Int.toNat 0) 0)))))]), ⟨1, 1, [(0, 0, .tail off .u64 l e)]⟩⟩
theorem VeR3 (off : Nat) (n : Nat) (c : Nat) (l : List Int) (e : TypeId) : VeEV byteRV byteV headN isWb isWs kLen manyV sizeN textA textAt textR vLen withRV wordsA wordsR (codeAt [1, 1, 0] BVe) (VeS2 kLen vLen off n c l e) [2, 3] =
  bif (Nat.ble off off) then
    bif (Nat.ble ((off - off) + n) (List.length l)) then
      bif ((decide (0 ≤ 1)) && ((decide (1 ≤ 1000)) && ((decide (0 ≤ (kLen (List.getD (List.take n (List.drop (off - off) l)) (Int.toNat 0) 0)))) && ((decide ((kLen (List.getD (List.take n (List.drop (off - off) l)) (Int.toNat 0) 0)) ≤ 1000)) && ((Nat.ble (List.length (List.take n (List.drop (off - off) l))) 1000000) && (isWs (List.take n (List.drop (off - off) l)))))))) then
        bif (decide ((kLen (List.getD (List.take n (List.drop (off - off) l)) (Int.toNat 0) 0)) ≤ 100000)) then
          bif (Nat.ble off off) then
            bif (Nat.ble ((off - off) + n) (List.length l)) then
              bif ((decide (0 ≤ (IntKind.wrap .i64 (1 + (manyV (kLen (List.getD (List.take n (List.drop (off - off) l)) (Int.toNat 0) 0))))))) && ((decide ((IntKind.wrap .i64 (1 + (manyV (kLen (List.getD (List.take n (List.drop (off - off) l)) (Int.toNat 0) 0))))) ≤ 1000)) && ((decide (0 ≤ (vLen (List.getD (List.take n (List.drop (off - off) l)) (Int.toNat 0) 0)))) && ((decide ((vLen (List.getD (List.take n (List.drop (off - off) l)) (Int.toNat 0) 0)) ≤ 1000)) && ((Nat.ble (List.length (List.take n (List.drop (off - off) l))) 1000000) && (isWs (List.take n (List.drop (off - off) l)))))))) then
                some (.normal, (VeS3 kLen manyV textAt vLen n off l e))
              else
                none
            else
              none
          else
            none
        else
          none
      else
        none
    else
      none
  else
    none := by kernel_rfl
noncomputable def VeS4 (n : Nat) (off : Nat) (l : List Int) (e : TypeId) : KSt := ⟨(frameL 21 [(2, (.string (textAt (List.take n (List.drop (off - off) l)) 1 (kLen (List.getD (List.take n (List.drop (off - off) l)) (Int.toNat 0) 0))))), (3, (.string (textAt (List.take n (List.drop (off - off) l)) (1 + (manyV (kLen (List.getD (List.take n (List.drop (off - off) l)) (Int.toNat 0) 0)))) (vLen (List.getD (List.take n (List.drop (off - off) l)) (Int.toNat 0) 0)))))]), ⟨1, 1, [(0, 0, .tail off .u64 l e)]⟩⟩
end
theorem Vem {l : List Int} {n : Nat} {off : Nat} {e : TypeId} {c : Nat} (hl : l.length = n) (hn : n ≤ 1000) (hws : isWs (List.take n (List.drop (off - off) l)) = true) (hw : isWb (List.getD (List.take n (List.drop (off - off) l)) (Int.toNat 0) 0) = true) (hk0 : 0 ≤ kLen (List.getD (List.take n (List.drop (off - off) l)) (Int.toNat 0) 0)) (hk1 : kLen (List.getD (List.take n (List.drop (off - off) l)) (Int.toNat 0) 0) ≤ 16) (hv0 : 0 ≤ vLen (List.getD (List.take n (List.drop (off - off) l)) (Int.toNat 0) 0)) (hv1 : vLen (List.getD (List.take n (List.drop (off - off) l)) (Int.toNat 0) 0) ≤ 24) (hm0 : 0 ≤ manyV (kLen (List.getD (List.take n (List.drop (off - off) l)) (Int.toNat 0) 0))) (hm1 : manyV (kLen (List.getD (List.take n (List.drop (off - off) l)) (Int.toNat 0) 0)) ≤ 3)   {Q : Ex → St → Prop} (hq : Q .ret (KSt.low (VeS4 kLen manyV textAt vLen n off l e))) : Gets Try.prog (KH.low ⟨1, 1, [(0, 0, .tail off .u64 l e)]⟩) BVe (KSt.low (VeS0 off n c l e)) Q := by
  rw [VeC]; refine Gets.seq ?_
  refine Vego (VeR1 byteRV byteV headN isWb isWs kLen manyV sizeN textA textAt textR vLen withRV wordsA wordsR off n c l e) ?_
  rw [VeC1]; refine Gets.seq ?_
  refine Vego (x := .normal) (s' := (VeS2 kLen vLen off n c l e)) ((VeR2 byteRV byteV headN isWb isWs kLen manyV sizeN textA textAt textR vLen withRV wordsA wordsR off n c l e).trans (by rw [condT (ble_t (by omega)), condT (ble_t (by (first | omega | ((try simp (disch := omega) only [wrap_i64_id]) <;> omega)))), condT (and_t (decide_eq_true (by omega)) (Nat.ble_eq_true_of_le (by simp; omega))), condT (hw)])) ?_
  rw [VeC1_1]; refine Gets.seq ?_
  refine Vego (x := .normal) (s' := (VeS4 kLen manyV textAt vLen n off l e)) ((VeR3 byteRV byteV headN isWb isWs kLen manyV sizeN textA textAt textR vLen withRV wordsA wordsR off n c l e).trans (by rw [condT (ble_t (by omega)), condT (ble_t (by (first | omega | ((try simp (disch := omega) only [wrap_i64_id]) <;> omega)))), condT (and_t (decide_eq_true (by omega)) (and_t (decide_eq_true (by omega)) (and_t (decide_eq_true (by (first | omega | ((try simp (disch := omega) only [wrap_i64_id]) <;> omega)))) (and_t (decide_eq_true (by (first | omega | ((try simp (disch := omega) only [wrap_i64_id]) <;> omega)))) (and_t (Nat.ble_eq_true_of_le (by simp; omega)) (hws)))))), condT (decide_eq_true (by (first | omega | ((try simp (disch := omega) only [wrap_i64_id]) <;> omega)))), condT (ble_t (by omega)), condT (ble_t (by (first | omega | ((try simp (disch := omega) only [wrap_i64_id]) <;> omega)))), condT (and_t (decide_eq_true (by (first | omega | ((try simp (disch := omega) only [wrap_i64_id]) <;> omega)))) (and_t (decide_eq_true (by (first | omega | ((try simp (disch := omega) only [wrap_i64_id]) <;> omega)))) (and_t (decide_eq_true (by (first | omega | ((try simp (disch := omega) only [wrap_i64_id]) <;> omega)))) (and_t (decide_eq_true (by (first | omega | ((try simp (disch := omega) only [wrap_i64_id]) <;> omega)))) (and_t (Nat.ble_eq_true_of_le (by simp; omega)) (hws))))))] <;> (show some (Ex.normal, (VeS3 kLen manyV textAt vLen n off l e)) = some (Ex.normal, (VeS4 kLen manyV textAt vLen n off l e)); unfold VeS3 VeS4; rw [(show (IntKind.wrap .i64 (1 + (manyV (kLen (List.getD (List.take n (List.drop (off - off) l)) (Int.toNat 0) 0))))) = (1 + (manyV (kLen (List.getD (List.take n (List.drop (off - off) l)) (Int.toNat 0) 0)))) from wrap_i64_id (by omega) (by omega))]))) ?_
  rw [VeC1_1_1]; refine Gets.ev fitY.mix fitY.cfg (fitY.sound bxq_sound 14 0) 14 rfl (s' := KSt.low (VeS4 kLen manyV textAt vLen n off l e)) (x := .ret) rfl ?_
  exact hq
noncomputable def BUe : Code := bodyOf Try.prog 29
theorem BUe_is : Try.f29.body = some BUe := by kernel_rfl
theorem BUe_ok : okCode Try.prog.globals.size BUe = true := by kernel_rfl
noncomputable abbrev UeEV (byteRV : Int → Int → Int) (byteV : Int → Int → Int) (headN : ByteArray → ByteArray → Int) (isWb : Int → Bool) (isWs : List Int → Bool) (kLen : Int → Int) (manyV : Int → Int) (sizeN : Int → Int) (textA : List Int → Int → ByteArray × Bool) (textAt : List Int → Int → Int → ByteArray) (textR : List Int → Int → ByteArray × Bool) (vLen : Int → Int) (withRV : Int → Int → Int → Int) (wordsA : ByteArray → List Int) (wordsR : ByteArray → List Int) (c : Code) (s : KSt) (lv : List Nat) : Option (Ex × KSt) := evCK Try.prog cfgY (runK Try.prog cfgY fsY (conTk bxqDom (rcK [] (bxqT byteRV byteV headN isWb isWs kLen manyV sizeN textA textAt textR vLen withRV wordsA wordsR))) 14 40) 14 c s (normC 0 lv)
theorem Uego {lv_ : List Nat} {co_ : Code} {st_ s' : KSt} {x : Ex} {Q : Ex → St → Prop} (hE_ : UeEV byteRV byteV headN isWb isWs kLen manyV sizeN textA textAt textR vLen withRV wordsA wordsR co_ st_ lv_ = some (x, s')) (hq_ : Q x s'.low) (hok_ : okCode Try.prog.globals.size co_ = true := by kernel_rfl) : Gets Try.prog (KH.low ⟨0, 1, []⟩) co_ st_.low Q := Gets.ofN fitY bxq_sound (rc_agree _ _ _) 14 40 hok_ hE_ hq_
theorem UeeX {v : Value} {b c : Bool} (h : v = .bool b) (hb : b = c) : v = .bool c := by rw [h, hb]
theorem UeC : BUe = .seq (codeAt [0] BUe) (codeAt [1] BUe) := by kernel_rfl
theorem UeC1 : (codeAt [1] BUe) = .seq (codeAt [1, 0] BUe) (codeAt [1, 1] BUe) := by kernel_rfl
theorem UeC1_1 : (codeAt [1, 1] BUe) = .seq (codeAt [1, 1, 0] BUe) (codeAt [1, 1, 1] BUe) := by kernel_rfl
theorem UeC1_1_1 : (codeAt [1, 1, 1] BUe) = .ret := by kernel_rfl
section
variable (byteRV : Int → Int → Int) (byteV : Int → Int → Int) (headN : ByteArray → ByteArray → Int) (isWb : Int → Bool) (isWs : List Int → Bool) (kLen : Int → Int) (manyV : Int → Int) (sizeN : Int → Int) (textA : List Int → Int → ByteArray × Bool) (textAt : List Int → Int → Int → ByteArray) (textR : List Int → Int → ByteArray × Bool) (vLen : Int → Int) (withRV : Int → Int → Int → Int) (wordsA : ByteArray → List Int) (wordsR : ByteArray → List Int)
noncomputable def UeS0  : KSt := (firstK [(.slice (some ⟨0, 0, some 0⟩) 0 0)] 21 ⟨0, 1, []⟩)
noncomputable def UeS1  : KSt := ⟨(frameL 21 [(0, (.slice (some ⟨0, 0, some 0⟩) 0 0))]), ⟨0, 1, []⟩⟩
theorem UeR1  : UeEV byteRV byteV headN isWb isWs kLen manyV sizeN textA textAt textR vLen withRV wordsA wordsR (codeAt [0] BUe) UeS0 [0] =
  some (.normal, UeS1) := by kernel_rfl
noncomputable def UeS2  : KSt := ⟨(frameL 21 [(0, (.slice (some ⟨0, 0, some 0⟩) 0 0)), (4, (.int .i64 (kLen (List.getD ([] : List Int) (Int.toNat 0) 0)))), (5, (.int .i64 (vLen (List.getD ([] : List Int) (Int.toNat 0) 0))))]), ⟨0, 1, []⟩⟩
theorem UeR2  : UeEV byteRV byteV headN isWb isWs kLen manyV sizeN textA textAt textR vLen withRV wordsA wordsR (codeAt [1, 0] BUe) UeS1 [0, 4, 5] =
  bif ((decide (0 ≤ 0)) && (Nat.ble (List.length ([] : List Int)) 1000000)) then
    bif (isWb (List.getD ([] : List Int) (Int.toNat 0) 0)) then
      some (.normal, (UeS2 kLen vLen))
    else
      none
  else
    none := by kernel_rfl
noncomputable def UeS3  : KSt := ⟨(frameL 21 [(2, (.string (textAt ([] : List Int) 1 (kLen (List.getD ([] : List Int) (Int.toNat 0) 0))))), (3, (.string (textAt ([] : List Int) (IntKind.wrap .i64 (1 + (manyV (kLen (List.getD ([] : List Int) (Int.toNat 0) 0))))) (vLen (List.getD ([] : List Int) (Int.toNat 0) 0)))))]), ⟨0, 1, []⟩⟩
theorem UeR3  : UeEV byteRV byteV headN isWb isWs kLen manyV sizeN textA textAt textR vLen withRV wordsA wordsR (codeAt [1, 1, 0] BUe) (UeS2 kLen vLen) [2, 3] =
  bif ((decide (0 ≤ 1)) && ((decide (1 ≤ 1000)) && ((decide (0 ≤ (kLen (List.getD ([] : List Int) (Int.toNat 0) 0)))) && ((decide ((kLen (List.getD ([] : List Int) (Int.toNat 0) 0)) ≤ 1000)) && ((Nat.ble (List.length ([] : List Int)) 1000000) && (isWs ([] : List Int))))))) then
    bif (decide ((kLen (List.getD ([] : List Int) (Int.toNat 0) 0)) ≤ 100000)) then
      bif ((decide (0 ≤ (IntKind.wrap .i64 (1 + (manyV (kLen (List.getD ([] : List Int) (Int.toNat 0) 0))))))) && ((decide ((IntKind.wrap .i64 (1 + (manyV (kLen (List.getD ([] : List Int) (Int.toNat 0) 0))))) ≤ 1000)) && ((decide (0 ≤ (vLen (List.getD ([] : List Int) (Int.toNat 0) 0)))) && ((decide ((vLen (List.getD ([] : List Int) (Int.toNat 0) 0)) ≤ 1000)) && ((Nat.ble (List.length ([] : List Int)) 1000000) && (isWs ([] : List Int))))))) then
        some (.normal, (UeS3 kLen manyV textAt vLen))
      else
        none
    else
      none
  else
    none := by kernel_rfl
noncomputable def UeS4  : KSt := ⟨(frameL 21 [(2, (.string (textAt ([] : List Int) 1 (kLen (List.getD ([] : List Int) (Int.toNat 0) 0))))), (3, (.string (textAt ([] : List Int) (1 + (manyV (kLen (List.getD ([] : List Int) (Int.toNat 0) 0)))) (vLen (List.getD ([] : List Int) (Int.toNat 0) 0)))))]), ⟨0, 1, []⟩⟩
end
theorem Uem  (hws : isWs ([] : List Int) = true) (hw : isWb (List.getD ([] : List Int) (Int.toNat 0) 0) = true) (hk0 : 0 ≤ kLen (List.getD ([] : List Int) (Int.toNat 0) 0)) (hk1 : kLen (List.getD ([] : List Int) (Int.toNat 0) 0) ≤ 16) (hv0 : 0 ≤ vLen (List.getD ([] : List Int) (Int.toNat 0) 0)) (hv1 : vLen (List.getD ([] : List Int) (Int.toNat 0) 0) ≤ 24) (hm0 : 0 ≤ manyV (kLen (List.getD ([] : List Int) (Int.toNat 0) 0))) (hm1 : manyV (kLen (List.getD ([] : List Int) (Int.toNat 0) 0)) ≤ 3)   {Q : Ex → St → Prop} (hq : Q .ret (KSt.low (UeS4 kLen manyV textAt vLen))) : Gets Try.prog (KH.low ⟨0, 1, []⟩) BUe (KSt.low UeS0) Q := by
  rw [UeC]; refine Gets.seq ?_
  refine Uego (UeR1 byteRV byteV headN isWb isWs kLen manyV sizeN textA textAt textR vLen withRV wordsA wordsR) ?_
  rw [UeC1]; refine Gets.seq ?_
  refine Uego (x := .normal) (s' := (UeS2 kLen vLen)) ((UeR2 byteRV byteV headN isWb isWs kLen manyV sizeN textA textAt textR vLen withRV wordsA wordsR).trans (by rw [condT (and_t (decide_eq_true (by omega)) (Nat.ble_eq_true_of_le (show List.length ([] : List Int) ≤ 1000000 from Nat.zero_le _))), condT (hw)])) ?_
  rw [UeC1_1]; refine Gets.seq ?_
  refine Uego (x := .normal) (s' := (UeS4 kLen manyV textAt vLen)) ((UeR3 byteRV byteV headN isWb isWs kLen manyV sizeN textA textAt textR vLen withRV wordsA wordsR).trans (by rw [condT (and_t (decide_eq_true (by omega)) (and_t (decide_eq_true (by omega)) (and_t (decide_eq_true (by (first | omega | ((try simp (disch := omega) only [wrap_i64_id]) <;> omega)))) (and_t (decide_eq_true (by (first | omega | ((try simp (disch := omega) only [wrap_i64_id]) <;> omega)))) (and_t (Nat.ble_eq_true_of_le (show List.length ([] : List Int) ≤ 1000000 from Nat.zero_le _)) (hws)))))), condT (decide_eq_true (by (first | omega | ((try simp (disch := omega) only [wrap_i64_id]) <;> omega)))), condT (and_t (decide_eq_true (by (first | omega | ((try simp (disch := omega) only [wrap_i64_id]) <;> omega)))) (and_t (decide_eq_true (by (first | omega | ((try simp (disch := omega) only [wrap_i64_id]) <;> omega)))) (and_t (decide_eq_true (by (first | omega | ((try simp (disch := omega) only [wrap_i64_id]) <;> omega)))) (and_t (decide_eq_true (by (first | omega | ((try simp (disch := omega) only [wrap_i64_id]) <;> omega)))) (and_t (Nat.ble_eq_true_of_le (show List.length ([] : List Int) ≤ 1000000 from Nat.zero_le _)) (hws))))))] <;> (show some (Ex.normal, (UeS3 kLen manyV textAt vLen)) = some (Ex.normal, (UeS4 kLen manyV textAt vLen)); unfold UeS3 UeS4; rw [(show (IntKind.wrap .i64 (1 + (manyV (kLen (List.getD ([] : List Int) (Int.toNat 0) 0))))) = (1 + (manyV (kLen (List.getD ([] : List Int) (Int.toNat 0) 0)))) from wrap_i64_id (by omega) (by omega))]))) ?_
  rw [UeC1_1_1]; refine Gets.ev fitY.mix fitY.cfg (fitY.sound bxq_sound 14 0) 14 rfl (s' := KSt.low (UeS4 kLen manyV textAt vLen)) (x := .ret) rfl ?_
  exact hq
theorem boxReadR_does (l : List Int) (n off c : Nat) (e : TypeId) (hl : l.length = n) (hn : n ≤ 1000) (hw : isWs l = true) : DoesC Try.prog 29 [(.slice (some ⟨0, off, none⟩) n c)] (mkH [.tail off .u64 l e]).low (.tuple #[.string (textAt l 1 (kLen (List.getD l 0 0))), .string (textAt l (1 + manyV (kLen (List.getD l 0 0))) (vLen (List.getD l 0 0)))]) (effK (mkH [.tail off .u64 l e]) [] []).low := by
  refine EndsR.does Try.func29 BVe_is (by rw [noVars]; exact Nat.zero_le _) ?_
  show Gets Try.prog (KH.low ⟨1, 1, [(0, 0, .tail off .u64 l e)]⟩) BVe (KSt.low (VeS0 off n c l e)) _
  have hL : (List.take n (List.drop (off - off) l)) = l := by rw [Nat.sub_self, List.drop_zero, List.take_of_length_le (by omega)]
  have hw0 : word64 (List.getD (List.take n (List.drop (off - off) l)) (Int.toNat 0) 0) := by rw [hL]; exact getD_word (isWs_word hw) 0
  obtain ⟨k0, k1, v0, v1⟩ := kLen_le _ hw0
  have hm := many16 k0 (by omega)
  refine Vem hl hn (by rw [hL]; exact hw) (isWb_of hw0) k0 k1 v0 v1 hm.1 hm.2 ?_
  refine EndsR.ret (l := [.string (textAt (List.take n (List.drop (off - off) l)) 1 (kLen (List.getD (List.take n (List.drop (off - off) l)) (Int.toNat 0) 0))), .string (textAt (List.take n (List.drop (off - off) l)) (1 + (manyV (kLen (List.getD (List.take n (List.drop (off - off) l)) (Int.toNat 0) 0)))) (vLen (List.getD (List.take n (List.drop (off - off) l)) (Int.toNat 0) 0)))]) (by kernel_rfl) ?_ (Fits.n0 rfl rfl (show (1 : Nat) ≤ 1 by decide))
  rw [hL]; rfl
theorem boxReadR0_does  : DoesC Try.prog 29 [(.slice (some ⟨0, 0, some 0⟩) 0 0)] (mkH []).low (.tuple #[.string (textAt ([] : List Int) 1 (kLen (List.getD ([] : List Int) 0 0))), .string (textAt ([] : List Int) (1 + manyV (kLen (List.getD ([] : List Int) 0 0))) (vLen (List.getD ([] : List Int) 0 0)))]) (effK (mkH []) [] []).low := by
  refine EndsR.does Try.func29 BUe_is (by rw [noVars]; exact Nat.zero_le _) ?_
  show Gets Try.prog (KH.low ⟨0, 1, []⟩) BUe (KSt.low UeS0) _
  have hL : ([] : List Int) = ([] : List Int) := rfl
  have hw0 : word64 (List.getD ([] : List Int) (Int.toNat 0) 0) := ⟨by decide, by decide⟩
  obtain ⟨k0, k1, v0, v1⟩ := kLen_le _ hw0
  have hm := many16 k0 (by omega)
  refine Uem rfl (isWb_of hw0) k0 k1 v0 v1 hm.1 hm.2 ?_
  refine EndsR.ret (l := [.string (textAt ([] : List Int) 1 (kLen (List.getD ([] : List Int) (Int.toNat 0) 0))), .string (textAt ([] : List Int) (1 + (manyV (kLen (List.getD ([] : List Int) (Int.toNat 0) 0)))) (vLen (List.getD ([] : List Int) (Int.toNat 0) 0)))]) (by kernel_rfl) ?_ (Fits.n0 rfl rfl (show (0 : Nat) ≤ 0 by decide))
  rfl
noncomputable def rc_box_Words (boxW : ByteArray → ByteArray → List Int) : RC := ⟨[.str, .str], fun avs => match avs with | [.str ks, .str vs] => ((Nat.ble (ByteArray.size ks) 16) && (Nat.ble (ByteArray.size vs) 24)) | _ => false,
  fun N avs => match avs with | [.str ks, .str vs] => ((.tuple #[(.slice (some ⟨N, 0, none⟩) (List.length (boxW ks vs)) (List.length (boxW ks vs))), (.bool true)]), [], [.ints .u64 (boxW ks vs) 30 true]) | _ => (.bool false, [], [])⟩
theorem rc_box_Words_does : RcDoes Try.prog [] 26 (rc_box_Words boxW) := by
  intro vb avs args blks hv hs hp
  cases hv
  cases hs with
  | str ks hs =>
    cases hs with
    | str vs hs =>
      cases hs
      have hp : (Nat.ble (ByteArray.size ks) 16 && Nat.ble (ByteArray.size vs) 24) = true := hp
      rw [Bool.and_eq_true] at hp
      exact boxWords_does ks vs (Nat.le_of_ble_eq_true hp.1) (Nat.le_of_ble_eq_true hp.2)
noncomputable def rc_r16_Words (boxW : ByteArray → ByteArray → List Int) : RC := ⟨[.str, .str], fun avs => match avs with | [.str ks, .str vs] => ((Nat.ble (ByteArray.size ks) 16) && (Nat.ble (ByteArray.size vs) 24)) | _ => false,
  fun N avs => match avs with | [.str ks, .str vs] => ((.tuple #[(.slice (some ⟨N, 0, none⟩) (List.length (boxW ks vs)) (List.length (boxW ks vs))), (.bool true)]), [], [.ints .u64 (boxW ks vs) 30 true]) | _ => (.bool false, [], [])⟩
theorem rc_r16_Words_does : RcDoes Try.prog [] 27 (rc_r16_Words boxW) := by
  intro vb avs args blks hv hs hp
  cases hv
  cases hs with
  | str ks hs =>
    cases hs with
    | str vs hs =>
      cases hs
      have hp : (Nat.ble (ByteArray.size ks) 16 && Nat.ble (ByteArray.size vs) 24) = true := hp
      rw [Bool.and_eq_true] at hp
      exact boxWordsR_does ks vs (Nat.le_of_ble_eq_true hp.1) (Nat.le_of_ble_eq_true hp.2)
noncomputable def rc_box_Read (isWs : List Int → Bool) (kLen : Int → Int) (manyV : Int → Int) (textAt : List Int → Int → Int → ByteArray) (vLen : Int → Int) : RC := ⟨[.row .u64], fun avs => match avs with | [.row l] => ((Nat.ble (List.length l) 1000) && (isWs l)) | _ => false,
  fun N avs => match avs with | [.row l] => ((.tuple #[(.string (textAt l 1 (kLen (List.getD l 0 0)))), (.string (textAt l (1 + manyV (kLen (List.getD l 0 0))) (vLen (List.getD l 0 0))))]), [], []) | _ => (.bool false, [], [])⟩
theorem rc_box_Read_does : RcDoes Try.prog [] 28 (rc_box_Read isWs kLen manyV textAt vLen) := by
  intro vb avs args blks hv hs hp
  cases hv
  cases hs with
  | row0 hs =>
    cases hs
    have hp : (Nat.ble (List.length ([] : List Int)) 1000 && isWs ([] : List Int)) = true := hp
    rw [Bool.and_eq_true] at hp
    exact boxRead0_does
  | row off_l n_l c_l l e_l hl_l hs =>
    cases hs
    have hp : (Nat.ble (List.length l) 1000 && isWs l) = true := hp
    rw [Bool.and_eq_true] at hp
    exact boxRead_does l n_l off_l c_l e_l hl_l hp.2
noncomputable def rc_r16_Read (isWs : List Int → Bool) (kLen : Int → Int) (manyV : Int → Int) (textAt : List Int → Int → Int → ByteArray) (vLen : Int → Int) : RC := ⟨[.row .u64], fun avs => match avs with | [.row l] => ((Nat.ble (List.length l) 1000) && (isWs l)) | _ => false,
  fun N avs => match avs with | [.row l] => ((.tuple #[(.string (textAt l 1 (kLen (List.getD l 0 0)))), (.string (textAt l (1 + manyV (kLen (List.getD l 0 0))) (vLen (List.getD l 0 0))))]), [], []) | _ => (.bool false, [], [])⟩
theorem rc_r16_Read_does : RcDoes Try.prog [] 29 (rc_r16_Read isWs kLen manyV textAt vLen) := by
  intro vb avs args blks hv hs hp
  cases hv
  cases hs with
  | row0 hs =>
    cases hs
    have hp : (Nat.ble (List.length ([] : List Int)) 1000 && isWs ([] : List Int)) = true := hp
    rw [Bool.and_eq_true] at hp
    exact boxReadR0_does
  | row off_l n_l c_l l e_l hl_l hs =>
    cases hs
    have hp : (Nat.ble (List.length l) 1000 && isWs l) = true := hp
    rw [Bool.and_eq_true] at hp
    exact boxReadR_does l n_l off_l c_l e_l hl_l (by have := Nat.le_of_ble_eq_true hp.1; omega) hp.2
noncomputable def bxyT (boxW : ByteArray → ByteArray → List Int) (byteRV : Int → Int → Int) (byteV : Int → Int → Int) (headN : ByteArray → ByteArray → Int) (isWb : Int → Bool) (isWs : List Int → Bool) (kLen : Int → Int) (manyV : Int → Int) (sizeN : Int → Int) (textA : List Int → Int → ByteArray × Bool) (textAt : List Int → Int → Int → ByteArray) (textR : List Int → Int → ByteArray × Bool) (vLen : Int → Int) (withRV : Int → Int → Int → Int) (wordsA : ByteArray → List Int) (wordsR : ByteArray → List Int) : RTab := fun f => match f with
  | 11 => some rc_sprocketlaw04_awake
  | 48 => some (rc_lane_Byte byteV)
  | 49 => some (rc_r02_Byte byteRV)
  | 50 => some (rc_r02_With withRV)
  | 17 => some (rc_pack_Many manyV)
  | 18 => some (rc_r04_Many manyV)
  | 15 => some (rc_pack_Words wordsA)
  | 16 => some (rc_r04_Words wordsR)
  | 12 => some (rc_pack_Text textA)
  | 13 => some (rc_r04_Text textR)
  | 14 => some rc_r02_Words
  | 33 => some (rc_box_Head headN)
  | 30 => some (rc_r16_Head headN)
  | 31 => some (rc_box_Lens isWb kLen vLen)
  | 32 => some (rc_r16_Lens isWb kLen vLen)
  | 34 => some (rc_box_Size isWb sizeN)
  | 35 => some (rc_r16_Size isWb sizeN)
  | 55 => some rc_r16_word
  | 54 => some (rc_box_cut textAt)
  | 56 => some (rc_r16_bytes isWs textAt)
  | 26 => some (rc_box_Words boxW)
  | 27 => some (rc_r16_Words boxW)
  | 28 => some (rc_box_Read isWs kLen manyV textAt vLen)
  | 29 => some (rc_r16_Read isWs kLen manyV textAt vLen)
  | _ => none
def bxyDom : List FuncId := [11, 48, 49, 50, 17, 18, 15, 16, 12, 13, 14, 33, 30, 31, 32, 34, 35, 55, 54, 56, 26, 27, 28, 29]
theorem bxy_does : ∀ f rc, f ∈ bxyDom → (bxyT boxW byteRV byteV headN isWb isWs kLen manyV sizeN textA textAt textR vLen withRV wordsA wordsR) f = some rc → RcDoes Try.prog [] f rc := by
  intro f rc hf hT
  simp only [bxyDom, List.mem_cons, List.not_mem_nil, or_false] at hf
  rcases hf with rfl | rfl | rfl | rfl | rfl | rfl | rfl | rfl | rfl | rfl | rfl | rfl | rfl | rfl | rfl | rfl | rfl | rfl | rfl | rfl | rfl | rfl | rfl | rfl
  · cases hT; exact rc_sprocketlaw04_awake_does
  · cases hT; exact rc_lane_Byte_does
  · cases hT; exact rc_r02_Byte_does
  · cases hT; exact rc_r02_With_does
  · cases hT; exact rc_pack_Many_does
  · cases hT; exact rc_r04_Many_does
  · cases hT; exact rc_pack_Words_does
  · cases hT; exact rc_r04_Words_does
  · cases hT; exact rc_pack_Text_does
  · cases hT; exact rc_r04_Text_does
  · cases hT; exact rc_r02_Words_does
  · cases hT; exact rc_box_Head_does
  · cases hT; exact rc_r16_Head_does
  · cases hT; exact rc_box_Lens_does
  · cases hT; exact rc_r16_Lens_does
  · cases hT; exact rc_box_Size_does
  · cases hT; exact rc_r16_Size_does
  · cases hT; exact rc_r16_word_does
  · cases hT; exact rc_box_cut_does
  · cases hT; exact rc_r16_bytes_does
  · cases hT; exact rc_box_Words_does
  · cases hT; exact rc_r16_Words_does
  · cases hT; exact rc_box_Read_does
  · cases hT; exact rc_r16_Read_does
theorem bxy_fn : ∀ f ∈ bxyDom, FnOk Try.prog f := fun f hf => fitY.fnOk f (by
    have h0 : (bxyDom.all fun f => fsY.contains f) = true := by kernel_rfl
    simpa using List.all_eq_true.1 h0 f hf)
theorem bxy_sound : SoundC Try.prog (conC bxyDom (rcE [] (bxyT boxW byteRV byteV headN isWb isWs kLen manyV sizeN textA textAt textR vLen withRV wordsA wordsR))) := rc_sound noVars bxy_fn bxy_does

end Go.Proofs.Ytnhdjmpbmecnoaa
