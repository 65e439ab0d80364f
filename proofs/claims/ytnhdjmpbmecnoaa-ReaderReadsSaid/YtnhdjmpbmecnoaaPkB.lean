/- A text's words: roads and contracts. -/
import Derived.Test.YtnhdjmpbmecnoaaPkA
import Derived.WalkKit
import Derived.ProofKit
import Derived.OpenShut
import Derived.ChangeOld
import Derived.Below
import Derived.SizedLaws
namespace Go.Proofs.Ytnhdjmpbmecnoaa
open Go.Eng
open Go.ChangeShapes Go.WideShapes Go.ChangeAt Go.RowKit
set_option linter.unusedVariables false
set_option linter.unusedSimpArgs false
set_option maxRecDepth 100000
noncomputable def cfgB : Cfg := ⟨[]⟩
noncomputable def fsB : List FuncId := [11, 15, 16, 17, 18, 48, 49, 50]
theorem fitB : Fit Try.prog cfgB fsB := ⟨by kernel_rfl, Cfg.ok_of (by kernel_rfl), by kernel_rfl⟩
/-- A text's bytes, and 0 behind them. -/
def padA (tx : ByteArray) (m : Nat) : List Int := (List.take 0 (List.replicate (8 * m) (0 : Int)) ++ (List.map (fun (b : UInt8) => (b.toNat : Int)) (List.take (8 * m) tx.data.toList)) ++ List.drop (0 + (List.length (List.map (fun (b : UInt8) => (b.toNat : Int)) (List.take (8 * m) tx.data.toList)))) (List.replicate (8 * m) (0 : Int)))
def wordA (A : List Int) (p : Nat) : Int := (bits .or .u64 (bits .or .u64 (bits .or .u64 (bits .or .u64 (bits .or .u64 (bits .or .u64 (bits .or .u64 (bits .or .u64 0 (IntKind.wrap .u64 ((IntKind.wrap .u64 (A.getD ((p + 0) + 0) 0)) * (2 ^ 0)))) (IntKind.wrap .u64 ((IntKind.wrap .u64 (A.getD ((p + 0) + 1) 0)) * (2 ^ 8)))) (IntKind.wrap .u64 ((IntKind.wrap .u64 (A.getD ((p + 0) + 2) 0)) * (2 ^ 16)))) (IntKind.wrap .u64 ((IntKind.wrap .u64 (A.getD ((p + 0) + 3) 0)) * (2 ^ 24)))) (IntKind.wrap .u64 ((IntKind.wrap .u64 (A.getD ((p + 0) + 4) 0)) * (2 ^ 32)))) (IntKind.wrap .u64 ((IntKind.wrap .u64 (A.getD ((p + 0) + 5) 0)) * (2 ^ 40)))) (IntKind.wrap .u64 ((IntKind.wrap .u64 (A.getD ((p + 0) + 6) 0)) * (2 ^ 48)))) (IntKind.wrap .u64 ((IntKind.wrap .u64 (A.getD ((p + 0) + 7) 0)) * (2 ^ 56))))
def manyN (tx : ByteArray) : Nat := (tx.size + 7) / 8
def wordsA (tx : ByteArray) : List Int := (List.range (manyN tx)).map fun j => wordA (padA tx (manyN tx)) (8 * j)
def partR (tx : ByteArray) (p : Nat) : Nat → Int
  | 0 => 0
  | k + 1 => withRV (partR tx p k) (k : Int) (IntKind.wrap .i64 (((tx.data.toList.getD (p + k) 0).toNat : Nat) : Int))
def wordR (tx : ByteArray) (p : Nat) : Int := partR tx p (min 8 (tx.size - p))
def wordsR (tx : ByteArray) : List Int := (List.range (manyN tx)).map fun j => wordR tx (8 * j)
theorem padA_len (tx : ByteArray) (m : Nat) (h : tx.size ≤ 8 * m) : (padA tx m).length = 8 * m := by
  have : tx.data.toList.length = tx.size := by simp
  unfold padA
  simp
  omega
theorem range_step (f : Nat → Int) (j : Nat) : (List.range (j + 1)).map f = (List.range j).map f ++ [f j] := by
  rw [List.range_succ, List.map_append]; rfl
theorem partR_step {tx : ByteArray} {p : Nat} {k : Int} (hk : 0 ≤ k) : partR tx p (Int.toNat (k + 1)) = withRV (partR tx p (Int.toNat k)) k (IntKind.wrap .i64 (((tx.data.toList.getD (p + Int.toNat k) 0).toNat : Nat) : Int)) := by
  rw [show Int.toNat (k + 1) = Int.toNat k + 1 by omega]
  show withRV _ ((Int.toNat k : Nat) : Int) _ = _
  rw [Int.toNat_of_nonneg hk]
theorem take_put {j : Nat} {q : List Int} {x : Int} (h : j < q.length) : List.take (j + 1) (List.take (0 + j) q ++ [x] ++ List.drop (0 + j + List.length [x]) q) = List.take j q ++ [x] := by
  have h1 : (List.take j q ++ [x]).length = j + 1 := by simp; omega
  rw [Nat.zero_add, List.take_append_of_le_length (by omega), List.take_of_length_le (by omega)]
theorem take_all {j m : Nat} {q : List Int} {x : Int} (hq : q.length = m) (h : j + 1 = m) : List.take (0 + j) q ++ [x] ++ List.drop (0 + j + List.length [x]) q = List.take j q ++ [x] := by
  rw [Nat.zero_add, List.drop_of_length_le (by simp; omega), List.append_nil]
noncomputable def BW : Code := bodyOf Try.prog 15
theorem BW_is : Try.f15.body = some BW := by kernel_rfl
theorem BW_ok : okCode Try.prog.globals.size BW = true := by kernel_rfl
noncomputable abbrev WEV (byteRV : Int → Int → Int) (byteV : Int → Int → Int) (manyV : Int → Int) (withRV : Int → Int → Int → Int) (c : Code) (s : KSt) (lv : List Nat) : Option (Ex × KSt) := evCK Try.prog cfgB (runK Try.prog cfgB fsB (conTk pkaDom (rcK [] (pkaT byteRV byteV manyV withRV))) 14 40) 14 c s (normC 0 lv)
theorem Wgo {lv_ : List Nat} {co_ : Code} {st_ s' : KSt} {x : Ex} {Q : Ex → St → Prop} (hE_ : WEV byteRV byteV manyV withRV co_ st_ lv_ = some (x, s')) (hq_ : Q x s'.low) (hok_ : okCode Try.prog.globals.size co_ = true := by kernel_rfl) : Gets Try.prog (KH.low ⟨0, 1, []⟩) co_ st_.low Q := Gets.ofN fitB pka_sound (rc_agree _ _ _) 14 40 hok_ hE_ hq_
theorem WeX {v : Value} {b c : Bool} (h : v = .bool b) (hb : b = c) : v = .bool c := by rw [h, hb]
theorem WC : BW = .seq (codeAt [0] BW) (codeAt [1] BW) := by kernel_rfl
theorem WC1 : (codeAt [1] BW) = .seq (codeAt [1, 0] BW) (codeAt [1, 1] BW) := by kernel_rfl
theorem WC1_1 : (codeAt [1, 1] BW) = .seq (codeAt [1, 1, 0] BW) (codeAt [1, 1, 1] BW) := by kernel_rfl
theorem WC1_1_1 : (codeAt [1, 1, 1] BW) = .seq (codeAt [1, 1, 1, 0] BW) (codeAt [1, 1, 1, 1] BW) := by kernel_rfl
theorem WC1_1_1_1 : (codeAt [1, 1, 1, 1] BW) = .seq (codeAt [1, 1, 1, 1, 0] BW) (codeAt [1, 1, 1, 1, 1] BW) := by kernel_rfl
theorem WC1_1_1_1_0_0_0 : (codeAt [1, 1, 1, 1, 0, 0, 0] BW) = .seq (codeAt [1, 1, 1, 1, 0, 0, 0, 0] BW) (codeAt [1, 1, 1, 1, 0, 0, 0, 1] BW) := by kernel_rfl
theorem WC1_1_1_1_0_0_0_0 : (codeAt [1, 1, 1, 1, 0, 0, 0, 0] BW) = .seq (codeAt [1, 1, 1, 1, 0, 0, 0, 0, 0] BW) (codeAt [1, 1, 1, 1, 0, 0, 0, 0, 1] BW) := by kernel_rfl
theorem WC1_1_1_1_0_0_0_0_1 : (codeAt [1, 1, 1, 1, 0, 0, 0, 0, 1] BW) = .cond (.tmp 23) (codeAt [1, 1, 1, 1, 0, 0, 0, 0, 1, 0] BW) (codeAt [1, 1, 1, 1, 0, 0, 0, 0, 1, 1] BW) := by kernel_rfl
theorem WC1_1_1_1_0_0_0_1 : (codeAt [1, 1, 1, 1, 0, 0, 0, 1] BW) = .block 1 (codeAt [1, 1, 1, 1, 0, 0, 0, 1, 0] BW) := by kernel_rfl
theorem WC1_1_1_1_0_0_0_1_0 : (codeAt [1, 1, 1, 1, 0, 0, 0, 1, 0] BW) = .seq (codeAt [1, 1, 1, 1, 0, 0, 0, 1, 0, 0] BW) (codeAt [1, 1, 1, 1, 0, 0, 0, 1, 0, 1] BW) := by kernel_rfl
theorem WC1_1_1_1_0_0_0_1_0_1 : (codeAt [1, 1, 1, 1, 0, 0, 0, 1, 0, 1] BW) = .seq (codeAt [1, 1, 1, 1, 0, 0, 0, 1, 0, 1, 0] BW) (codeAt [1, 1, 1, 1, 0, 0, 0, 1, 0, 1, 1] BW) := by kernel_rfl
theorem WC1_1_1_1_0_0_0_1_0_1_1 : (codeAt [1, 1, 1, 1, 0, 0, 0, 1, 0, 1, 1] BW) = .seq (codeAt [1, 1, 1, 1, 0, 0, 0, 1, 0, 1, 1, 0] BW) (codeAt [1, 1, 1, 1, 0, 0, 0, 1, 0, 1, 1, 1] BW) := by kernel_rfl
theorem WC1_1_1_1_0_0_0_1_0_1_1_0 : (codeAt [1, 1, 1, 1, 0, 0, 0, 1, 0, 1, 1, 0] BW) = .seq (codeAt [1, 1, 1, 1, 0, 0, 0, 1, 0, 1, 1, 0, 0] BW) (codeAt [1, 1, 1, 1, 0, 0, 0, 1, 0, 1, 1, 0, 1] BW) := by kernel_rfl
theorem WC1_1_1_1_0_0_0_1_0_1_1_1 : (codeAt [1, 1, 1, 1, 0, 0, 0, 1, 0, 1, 1, 1] BW) = .seq (codeAt [1, 1, 1, 1, 0, 0, 0, 1, 0, 1, 1, 1, 0] BW) (codeAt [1, 1, 1, 1, 0, 0, 0, 1, 0, 1, 1, 1, 1] BW) := by kernel_rfl
theorem WC1_1_1_1_0_0_0_0_1_1 : (codeAt [1, 1, 1, 1, 0, 0, 0, 0, 1, 1] BW) = .exit 0 := by kernel_rfl
theorem WC1_1_1_1_1 : (codeAt [1, 1, 1, 1, 1] BW) = .seq (codeAt [1, 1, 1, 1, 1, 0] BW) (codeAt [1, 1, 1, 1, 1, 1] BW) := by kernel_rfl
theorem WC1_1_1_1_1_1 : (codeAt [1, 1, 1, 1, 1, 1] BW) = .ret := by kernel_rfl
theorem WC1_1_1_1_0 : (codeAt [1, 1, 1, 1, 0] BW) = .block 0 (codeAt [1, 1, 1, 1, 0, 0] BW) := by kernel_rfl
theorem WC1_1_1_1_0_0 : (codeAt [1, 1, 1, 1, 0, 0] BW) = .loop (codeAt [1, 1, 1, 1, 0, 0, 0] BW) := by kernel_rfl
section
variable (byteRV : Int → Int → Int) (byteV : Int → Int → Int) (manyV : Int → Int) (withRV : Int → Int → Int → Int)
noncomputable def WS0 (tx : ByteArray) : KSt := (firstK [(.string tx)] 48 ⟨0, 1, []⟩)
noncomputable def WS1 (tx : ByteArray) : KSt := ⟨(frameL 48 [(0, (.string tx))]), ⟨0, 1, []⟩⟩
theorem WR1 (tx : ByteArray) : WEV byteRV byteV manyV withRV (codeAt [0] BW) (WS0 tx) [0] =
  some (.normal, (WS1 tx)) := by kernel_rfl
noncomputable def WS2 (tx : ByteArray) : KSt := ⟨(frameL 48 [(0, (.string tx)), (3, (.slice (some ⟨0, 0, none⟩) (Int.toNat (IntKind.wrap .i64 (8 * (manyV (((ByteArray.size tx) : Nat) : Int))))) (Int.toNat (IntKind.wrap .i64 (8 * (manyV (((ByteArray.size tx) : Nat) : Int)))))))]), ⟨1, 1, [(0, 0, .ints .u8 (List.replicate (Int.toNat (IntKind.wrap .i64 (8 * (manyV (((ByteArray.size tx) : Nat) : Int))))) (0 : Int)) 5 true)]⟩⟩
theorem WR2 (tx : ByteArray) : WEV byteRV byteV manyV withRV (codeAt [1, 0] BW) (WS1 tx) [0, 3] =
  bif (decide ((((ByteArray.size tx) : Nat) : Int) ≤ 9223372036854775807)) then
    if 0 ≤ (IntKind.wrap .i64 (8 * (manyV (((ByteArray.size tx) : Nat) : Int)))) ∧ (IntKind.wrap .i64 (8 * (manyV (((ByteArray.size tx) : Nat) : Int)))) ≤ (IntKind.wrap .i64 (8 * (manyV (((ByteArray.size tx) : Nat) : Int)))) ∧ ((1 : Int) * (IntKind.wrap .i64 (8 * (manyV (((ByteArray.size tx) : Nat) : Int))))) ≤ 1099511627776 ∧ (IntKind.wrap .i64 (8 * (manyV (((ByteArray.size tx) : Nat) : Int)))) ≤ 1099511627776 then
      some (.normal, (WS2 manyV tx))
    else
      none
  else
    none := by kernel_rfl
noncomputable def WS3 (tx : ByteArray) (m : Nat) : KSt := ⟨(frameL 48 [(0, (.string tx)), (3, (.slice (some ⟨0, 0, none⟩) (8 * m) (8 * m)))]), ⟨1, 1, [(0, 0, .ints .u8 (List.replicate (8 * m) (0 : Int)) 5 true)]⟩⟩
noncomputable def WS4 (m : Nat) : KSt := ⟨(frameL 48 [(3, (.slice (some ⟨0, 0, none⟩) (8 * m) (8 * m)))]), ⟨1, 1, [(0, 0, .ints .u8 (List.replicate (8 * m) (0 : Int)) 5 true)]⟩⟩
noncomputable def WS5 (m : Nat) (tx : ByteArray) : KSt := ⟨(frameL 48 [(3, (.slice (some ⟨0, 0, none⟩) (8 * m) (8 * m)))]), ⟨1, 1, [(0, 0, .ints .u8 (List.take 0 (List.replicate (8 * m) (0 : Int)) ++ (List.map (fun (b : UInt8) => (b.toNat : Int)) (List.take (8 * m) tx.data.toList)) ++ List.drop (0 + (List.length (List.map (fun (b : UInt8) => (b.toNat : Int)) (List.take (8 * m) tx.data.toList)))) (List.replicate (8 * m) (0 : Int))) 5 true)]⟩⟩
theorem WR3 (tx : ByteArray) (m : Nat) : WEV byteRV byteV manyV withRV (codeAt [1, 1, 0] BW) (WS3 tx m) [3] =
  bif (Nat.beq (min (ByteArray.size tx) (8 * m)) 0) then
    some (.normal, (WS4 m))
  else
    bif ((Nat.ble (0 + (List.length (List.map (fun (b : UInt8) => (b.toNat : Int)) (List.take (8 * m) tx.data.toList)))) (List.length (List.replicate (8 * m) (0 : Int)))) && (Nat.beq (List.length (List.map (fun (b : UInt8) => (b.toNat : Int)) (List.take (8 * m) tx.data.toList))) (min (ByteArray.size tx) (8 * m)))) then
      some (.normal, (WS5 m tx))
    else
      none := by kernel_rfl
noncomputable def WS6 (m : Nat) (A : List Int) : KSt := ⟨(frameL 48 [(3, (.slice (some ⟨0, 0, none⟩) (8 * m) (8 * m)))]), ⟨1, 1, [(0, 0, .ints .u8 A 5 true)]⟩⟩
noncomputable def WS7 (m : Nat) (A : List Int) : KSt := ⟨(frameL 48 [(3, (.slice (some ⟨0, 0, none⟩) (8 * m) (8 * m))), (4, (.slice (some ⟨1, 0, none⟩) 0 (Int.toNat (IntKind.wrap .i64 (Int.tdiv (((8 * m) : Nat) : Int) 8)))))]), ⟨2, 1, [(1, 0, .ints .u64 (List.replicate (Int.toNat (IntKind.wrap .i64 (Int.tdiv (((8 * m) : Nat) : Int) 8))) (0 : Int)) 30 true), (0, 0, .ints .u8 A 5 true)]⟩⟩
theorem WR4 (m : Nat) (A : List Int) : WEV byteRV byteV manyV withRV (codeAt [1, 1, 1, 0] BW) (WS6 m A) [3, 4] =
  if (0 : Int) ≤ 0 ∧ 0 ≤ (IntKind.wrap .i64 (Int.tdiv (((8 * m) : Nat) : Int) 8)) ∧ ((8 : Int) * (IntKind.wrap .i64 (Int.tdiv (((8 * m) : Nat) : Int) 8))) ≤ 1099511627776 ∧ (IntKind.wrap .i64 (Int.tdiv (((8 * m) : Nat) : Int) 8)) ≤ 1099511627776 then
    some (.normal, (WS7 m A))
  else
    none := by kernel_rfl
noncomputable def WS8 (m : Nat) (A : List Int) : KSt := ⟨(frameL 48 [(3, (.slice (some ⟨0, 0, none⟩) (8 * m) (8 * m))), (4, (.slice (some ⟨1, 0, none⟩) 0 m))]), ⟨2, 1, [(1, 0, .ints .u64 (List.replicate m (0 : Int)) 30 true), (0, 0, .ints .u8 A 5 true)]⟩⟩
noncomputable def WS9 (p : Nat) (r : Nat) (j : Nat) (m : Nat) (q : List Int) (A : List Int) : KSt := ⟨(frameL 48 [(3, (.slice (some ⟨0, p, none⟩) r r)), (4, (.slice (some ⟨1, 0, none⟩) j m))]), ⟨2, 1, [(1, 0, .ints .u64 q 30 true), (0, 0, .ints .u8 A 5 true)]⟩⟩
noncomputable def WS10 (p : Nat) (r : Nat) (j : Nat) (m : Nat) (q : List Int) (A : List Int) : KSt := ⟨(frameL 48 [(3, (.slice (some ⟨0, p, none⟩) r r)), (4, (.slice (some ⟨1, 0, none⟩) j m)), (23, (.bool (decide (((r : Nat) : Int) > 0))))]), ⟨2, 1, [(1, 0, .ints .u64 q 30 true), (0, 0, .ints .u8 A 5 true)]⟩⟩
theorem WR5 (p : Nat) (r : Nat) (j : Nat) (m : Nat) (q : List Int) (A : List Int) : WEV byteRV byteV manyV withRV (codeAt [1, 1, 1, 1, 0, 0, 0, 0, 0] BW) (WS9 p r j m q A) [3, 4, 23] =
  some (.normal, (WS10 p r j m q A)) := by kernel_rfl
theorem WR6 (p : Nat) (r : Nat) (j : Nat) (m : Nat) (q : List Int) (A : List Int) : WEV byteRV byteV manyV withRV (codeAt [1, 1, 1, 1, 0, 0, 0, 0, 1, 0] BW) (WS10 p r j m q A) [3, 4] =
  some (.normal, (WS9 p r j m q A)) := by kernel_rfl
noncomputable def WS11 (p : Nat) (r : Nat) (j : Nat) (m : Nat) (q : List Int) (A : List Int) : KSt := ⟨(frameL 48 [(3, (.slice (some ⟨0, p, none⟩) r r)), (4, (.slice (some ⟨1, 0, none⟩) j m)), (5, (.slice (some ⟨0, (p + 0), none⟩) 8 8))]), ⟨2, 1, [(1, 0, .ints .u64 q 30 true), (0, 0, .ints .u8 A 5 true)]⟩⟩
theorem WR7 (p : Nat) (r : Nat) (j : Nat) (m : Nat) (q : List Int) (A : List Int) : WEV byteRV byteV manyV withRV (codeAt [1, 1, 1, 1, 0, 0, 0, 1, 0, 0] BW) (WS9 p r j m q A) [3, 4, 5] =
  if (0 : Int) ≤ 8 ∧ 8 ≤ ((r : Nat) : Int) then
    some (.normal, (WS11 p r j m q A))
  else
    none := by kernel_rfl
noncomputable def WS12 (p : Nat) (r : Nat) (j : Nat) (m : Nat) (q : List Int) (A : List Int) : KSt := ⟨(frameL 48 [(3, (.slice (some ⟨0, p, none⟩) r r)), (4, (.slice (some ⟨1, 0, none⟩) j m)), (5, (.slice (some ⟨0, (p + 0), none⟩) 8 8)), (6, (.int .u64 0))]), ⟨2, 1, [(1, 0, .ints .u64 q 30 true), (0, 0, .ints .u8 A 5 true)]⟩⟩
theorem WR8 (p : Nat) (r : Nat) (j : Nat) (m : Nat) (q : List Int) (A : List Int) : WEV byteRV byteV manyV withRV (codeAt [1, 1, 1, 1, 0, 0, 0, 1, 0, 1, 0] BW) (WS11 p r j m q A) [3, 4, 5, 6] =
  some (.normal, (WS12 p r j m q A)) := by kernel_rfl
noncomputable def WS13 (p : Nat) (r : Nat) (j : Nat) (m : Nat) (q : List Int) (A : List Int) : KSt := ⟨(frameL 48 [(3, (.slice (some ⟨0, p, none⟩) r r)), (4, (.slice (some ⟨1, 0, none⟩) j m)), (6, (.int .u64 0)), (26, (.slice (some ⟨0, (p + 0), none⟩) 8 8)), (27, (.int .i64 8)), (28, (.int .i64 0))]), ⟨2, 1, [(1, 0, .ints .u64 q 30 true), (0, 0, .ints .u8 A 5 true)]⟩⟩
theorem WR9 (p : Nat) (r : Nat) (j : Nat) (m : Nat) (q : List Int) (A : List Int) : WEV byteRV byteV manyV withRV (codeAt [1, 1, 1, 1, 0, 0, 0, 1, 0, 1, 1, 0, 0] BW) (WS12 p r j m q A) [3, 4, 6, 26, 27, 28] =
  some (.normal, (WS13 p r j m q A)) := by kernel_rfl
noncomputable def WS14 (p : Nat) (r : Nat) (j : Nat) (m : Nat) (n1 : Int) (n2 : Int) (n3 : Int) (n4 : Int) (n5 : Int) (n6 : Int) (n7 : Int) (n8 : Int) (q : List Int) (A : List Int) : KSt := ⟨(frameL 48 [(3, (.slice (some ⟨0, p, none⟩) r r)), (4, (.slice (some ⟨1, 0, none⟩) j m)), (6, (.int .u64 (bits .or .u64 (bits .or .u64 (bits .or .u64 (bits .or .u64 (bits .or .u64 (bits .or .u64 (bits .or .u64 (bits .or .u64 0 (IntKind.wrap .u64 ((IntKind.wrap .u64 n1) * (2 ^ 0)))) (IntKind.wrap .u64 ((IntKind.wrap .u64 n2) * (2 ^ 8)))) (IntKind.wrap .u64 ((IntKind.wrap .u64 n3) * (2 ^ 16)))) (IntKind.wrap .u64 ((IntKind.wrap .u64 n4) * (2 ^ 24)))) (IntKind.wrap .u64 ((IntKind.wrap .u64 n5) * (2 ^ 32)))) (IntKind.wrap .u64 ((IntKind.wrap .u64 n6) * (2 ^ 40)))) (IntKind.wrap .u64 ((IntKind.wrap .u64 n7) * (2 ^ 48)))) (IntKind.wrap .u64 ((IntKind.wrap .u64 n8) * (2 ^ 56))))))]), ⟨2, 1, [(1, 0, .ints .u64 q 30 true), (0, 0, .ints .u8 A 5 true)]⟩⟩
theorem WR10 (p : Nat) (r : Nat) (j : Nat) (m : Nat) (q : List Int) (A : List Int) : WEV byteRV byteV manyV withRV (codeAt [1, 1, 1, 1, 0, 0, 0, 1, 0, 1, 1, 0, 1] BW) (WS13 p r j m q A) [3, 4, 6] =
  obind (A[((p + 0) + 0)]?) fun n1 =>
    obind (A[((p + 0) + 1)]?) fun n2 =>
      obind (A[((p + 0) + 2)]?) fun n3 =>
        obind (A[((p + 0) + 3)]?) fun n4 =>
          obind (A[((p + 0) + 4)]?) fun n5 =>
            obind (A[((p + 0) + 5)]?) fun n6 =>
              obind (A[((p + 0) + 6)]?) fun n7 =>
                obind (A[((p + 0) + 7)]?) fun n8 =>
                  some (.normal, (WS14 p r j m n1 n2 n3 n4 n5 n6 n7 n8 q A)) := by kernel_rfl
noncomputable def WS15 (p : Nat) (r : Nat) (j : Nat) (m : Nat) (A : List Int) (q : List Int) : KSt := ⟨(frameL 48 [(3, (.slice (some ⟨0, p, none⟩) r r)), (4, (.slice (some ⟨1, 0, none⟩) j m)), (6, (.int .u64 (bits .or .u64 (bits .or .u64 (bits .or .u64 (bits .or .u64 (bits .or .u64 (bits .or .u64 (bits .or .u64 (bits .or .u64 0 (IntKind.wrap .u64 ((IntKind.wrap .u64 (A.getD ((p + 0) + 0) 0)) * (2 ^ 0)))) (IntKind.wrap .u64 ((IntKind.wrap .u64 (A.getD ((p + 0) + 1) 0)) * (2 ^ 8)))) (IntKind.wrap .u64 ((IntKind.wrap .u64 (A.getD ((p + 0) + 2) 0)) * (2 ^ 16)))) (IntKind.wrap .u64 ((IntKind.wrap .u64 (A.getD ((p + 0) + 3) 0)) * (2 ^ 24)))) (IntKind.wrap .u64 ((IntKind.wrap .u64 (A.getD ((p + 0) + 4) 0)) * (2 ^ 32)))) (IntKind.wrap .u64 ((IntKind.wrap .u64 (A.getD ((p + 0) + 5) 0)) * (2 ^ 40)))) (IntKind.wrap .u64 ((IntKind.wrap .u64 (A.getD ((p + 0) + 6) 0)) * (2 ^ 48)))) (IntKind.wrap .u64 ((IntKind.wrap .u64 (A.getD ((p + 0) + 7) 0)) * (2 ^ 56))))))]), ⟨2, 1, [(1, 0, .ints .u64 q 30 true), (0, 0, .ints .u8 A 5 true)]⟩⟩
noncomputable def WS16 (p : Nat) (r : Nat) (j : Nat) (m : Nat) (q : List Int) (A : List Int) : KSt := ⟨(frameL 48 [(3, (.slice (some ⟨0, p, none⟩) r r)), (4, (.slice (some ⟨1, 0, none⟩) (j + 1) m))]), ⟨2, 1, [(1, 0, .ints .u64 (List.take (0 + j) q ++ [(bits .or .u64 (bits .or .u64 (bits .or .u64 (bits .or .u64 (bits .or .u64 (bits .or .u64 (bits .or .u64 (bits .or .u64 0 (IntKind.wrap .u64 ((IntKind.wrap .u64 (A.getD ((p + 0) + 0) 0)) * (2 ^ 0)))) (IntKind.wrap .u64 ((IntKind.wrap .u64 (A.getD ((p + 0) + 1) 0)) * (2 ^ 8)))) (IntKind.wrap .u64 ((IntKind.wrap .u64 (A.getD ((p + 0) + 2) 0)) * (2 ^ 16)))) (IntKind.wrap .u64 ((IntKind.wrap .u64 (A.getD ((p + 0) + 3) 0)) * (2 ^ 24)))) (IntKind.wrap .u64 ((IntKind.wrap .u64 (A.getD ((p + 0) + 4) 0)) * (2 ^ 32)))) (IntKind.wrap .u64 ((IntKind.wrap .u64 (A.getD ((p + 0) + 5) 0)) * (2 ^ 40)))) (IntKind.wrap .u64 ((IntKind.wrap .u64 (A.getD ((p + 0) + 6) 0)) * (2 ^ 48)))) (IntKind.wrap .u64 ((IntKind.wrap .u64 (A.getD ((p + 0) + 7) 0)) * (2 ^ 56))))] ++ List.drop ((0 + j) + (List.length [(bits .or .u64 (bits .or .u64 (bits .or .u64 (bits .or .u64 (bits .or .u64 (bits .or .u64 (bits .or .u64 (bits .or .u64 0 (IntKind.wrap .u64 ((IntKind.wrap .u64 (A.getD ((p + 0) + 0) 0)) * (2 ^ 0)))) (IntKind.wrap .u64 ((IntKind.wrap .u64 (A.getD ((p + 0) + 1) 0)) * (2 ^ 8)))) (IntKind.wrap .u64 ((IntKind.wrap .u64 (A.getD ((p + 0) + 2) 0)) * (2 ^ 16)))) (IntKind.wrap .u64 ((IntKind.wrap .u64 (A.getD ((p + 0) + 3) 0)) * (2 ^ 24)))) (IntKind.wrap .u64 ((IntKind.wrap .u64 (A.getD ((p + 0) + 4) 0)) * (2 ^ 32)))) (IntKind.wrap .u64 ((IntKind.wrap .u64 (A.getD ((p + 0) + 5) 0)) * (2 ^ 40)))) (IntKind.wrap .u64 ((IntKind.wrap .u64 (A.getD ((p + 0) + 6) 0)) * (2 ^ 48)))) (IntKind.wrap .u64 ((IntKind.wrap .u64 (A.getD ((p + 0) + 7) 0)) * (2 ^ 56))))])) q) 30 true), (0, 0, .ints .u8 A 5 true)]⟩⟩
noncomputable def WS17 (p : Nat) (r : Nat) (A : List Int) : KSt := ⟨(frameL 48 [(3, (.slice (some ⟨0, p, none⟩) r r)), (4, (.slice (some ⟨1, 0, none⟩) 1 1))]), ⟨2, 1, [(1, 0, .cells [(.int .u64 (bits .or .u64 (bits .or .u64 (bits .or .u64 (bits .or .u64 (bits .or .u64 (bits .or .u64 (bits .or .u64 (bits .or .u64 0 (IntKind.wrap .u64 ((IntKind.wrap .u64 (A.getD ((p + 0) + 0) 0)) * (2 ^ 0)))) (IntKind.wrap .u64 ((IntKind.wrap .u64 (A.getD ((p + 0) + 1) 0)) * (2 ^ 8)))) (IntKind.wrap .u64 ((IntKind.wrap .u64 (A.getD ((p + 0) + 2) 0)) * (2 ^ 16)))) (IntKind.wrap .u64 ((IntKind.wrap .u64 (A.getD ((p + 0) + 3) 0)) * (2 ^ 24)))) (IntKind.wrap .u64 ((IntKind.wrap .u64 (A.getD ((p + 0) + 4) 0)) * (2 ^ 32)))) (IntKind.wrap .u64 ((IntKind.wrap .u64 (A.getD ((p + 0) + 5) 0)) * (2 ^ 40)))) (IntKind.wrap .u64 ((IntKind.wrap .u64 (A.getD ((p + 0) + 6) 0)) * (2 ^ 48)))) (IntKind.wrap .u64 ((IntKind.wrap .u64 (A.getD ((p + 0) + 7) 0)) * (2 ^ 56)))))] 30 true), (0, 0, .ints .u8 A 5 true)]⟩⟩
noncomputable def WS18 (p : Nat) (r : Nat) (j : Nat) (q : List Int) (A : List Int) : KSt := ⟨(frameL 48 [(3, (.slice (some ⟨0, p, none⟩) r r)), (4, (.slice (some ⟨1, 0, none⟩) (j + 1) (j + 1)))]), ⟨2, 1, [(1, 0, .ints .u64 (List.take j q ++ [(bits .or .u64 (bits .or .u64 (bits .or .u64 (bits .or .u64 (bits .or .u64 (bits .or .u64 (bits .or .u64 (bits .or .u64 0 (IntKind.wrap .u64 ((IntKind.wrap .u64 (A.getD ((p + 0) + 0) 0)) * (2 ^ 0)))) (IntKind.wrap .u64 ((IntKind.wrap .u64 (A.getD ((p + 0) + 1) 0)) * (2 ^ 8)))) (IntKind.wrap .u64 ((IntKind.wrap .u64 (A.getD ((p + 0) + 2) 0)) * (2 ^ 16)))) (IntKind.wrap .u64 ((IntKind.wrap .u64 (A.getD ((p + 0) + 3) 0)) * (2 ^ 24)))) (IntKind.wrap .u64 ((IntKind.wrap .u64 (A.getD ((p + 0) + 4) 0)) * (2 ^ 32)))) (IntKind.wrap .u64 ((IntKind.wrap .u64 (A.getD ((p + 0) + 5) 0)) * (2 ^ 40)))) (IntKind.wrap .u64 ((IntKind.wrap .u64 (A.getD ((p + 0) + 6) 0)) * (2 ^ 48)))) (IntKind.wrap .u64 ((IntKind.wrap .u64 (A.getD ((p + 0) + 7) 0)) * (2 ^ 56))))]) 30 true), (0, 0, .ints .u8 A 5 true)]⟩⟩
theorem WR11 (p : Nat) (r : Nat) (j : Nat) (m : Nat) (A : List Int) (q : List Int) : WEV byteRV byteV manyV withRV (codeAt [1, 1, 1, 1, 0, 0, 0, 1, 0, 1, 1, 1, 0] BW) (WS15 p r j m A q) [3, 4] =
  bif (Nat.ble ((j + 1) * 9) 1099511627776) then
    bif (Nat.ble (j + 1) m) then
      bif (Nat.ble (0 + (j + 1)) (List.length q)) then
        some (.normal, (WS16 p r j m q A))
      else
        none
    else
      bif ((Nat.beq j 0) && (Nat.beq m 0)) then
        some (.normal, (WS17 p r A))
      else
        bif ((Nat.ble j (List.length q)) && (Nat.ble 1 m)) then
          some (.normal, (WS18 p r j q A))
        else
          none
  else
    none := by kernel_rfl
noncomputable def WS19 (j : Nat) (m : Nat) (q : List Int) (A : List Int) (p : Nat) : KSt := ⟨(frameL 48 [(3, (.slice (some ⟨0, 0, some 0⟩) 0 0)), (4, (.slice (some ⟨0, 0, none⟩) (j + 1) m))]), ⟨1, 1, [(0, 0, .ints .u64 (List.take (0 + j) q ++ [(bits .or .u64 (bits .or .u64 (bits .or .u64 (bits .or .u64 (bits .or .u64 (bits .or .u64 (bits .or .u64 (bits .or .u64 0 (IntKind.wrap .u64 ((IntKind.wrap .u64 (A.getD ((p + 0) + 0) 0)) * (2 ^ 0)))) (IntKind.wrap .u64 ((IntKind.wrap .u64 (A.getD ((p + 0) + 1) 0)) * (2 ^ 8)))) (IntKind.wrap .u64 ((IntKind.wrap .u64 (A.getD ((p + 0) + 2) 0)) * (2 ^ 16)))) (IntKind.wrap .u64 ((IntKind.wrap .u64 (A.getD ((p + 0) + 3) 0)) * (2 ^ 24)))) (IntKind.wrap .u64 ((IntKind.wrap .u64 (A.getD ((p + 0) + 4) 0)) * (2 ^ 32)))) (IntKind.wrap .u64 ((IntKind.wrap .u64 (A.getD ((p + 0) + 5) 0)) * (2 ^ 40)))) (IntKind.wrap .u64 ((IntKind.wrap .u64 (A.getD ((p + 0) + 6) 0)) * (2 ^ 48)))) (IntKind.wrap .u64 ((IntKind.wrap .u64 (A.getD ((p + 0) + 7) 0)) * (2 ^ 56))))] ++ List.drop ((0 + j) + (List.length [(bits .or .u64 (bits .or .u64 (bits .or .u64 (bits .or .u64 (bits .or .u64 (bits .or .u64 (bits .or .u64 (bits .or .u64 0 (IntKind.wrap .u64 ((IntKind.wrap .u64 (A.getD ((p + 0) + 0) 0)) * (2 ^ 0)))) (IntKind.wrap .u64 ((IntKind.wrap .u64 (A.getD ((p + 0) + 1) 0)) * (2 ^ 8)))) (IntKind.wrap .u64 ((IntKind.wrap .u64 (A.getD ((p + 0) + 2) 0)) * (2 ^ 16)))) (IntKind.wrap .u64 ((IntKind.wrap .u64 (A.getD ((p + 0) + 3) 0)) * (2 ^ 24)))) (IntKind.wrap .u64 ((IntKind.wrap .u64 (A.getD ((p + 0) + 4) 0)) * (2 ^ 32)))) (IntKind.wrap .u64 ((IntKind.wrap .u64 (A.getD ((p + 0) + 5) 0)) * (2 ^ 40)))) (IntKind.wrap .u64 ((IntKind.wrap .u64 (A.getD ((p + 0) + 6) 0)) * (2 ^ 48)))) (IntKind.wrap .u64 ((IntKind.wrap .u64 (A.getD ((p + 0) + 7) 0)) * (2 ^ 56))))])) q) 30 true)]⟩⟩
noncomputable def WS20 (p : Nat) (r : Nat) (j : Nat) (m : Nat) (q : List Int) (A : List Int) : KSt := ⟨(frameL 48 [(3, (.slice (some ⟨0, (p + 8), none⟩) (r - 8) (r - 8))), (4, (.slice (some ⟨1, 0, none⟩) (j + 1) m))]), ⟨2, 1, [(1, 0, .ints .u64 (List.take (0 + j) q ++ [(bits .or .u64 (bits .or .u64 (bits .or .u64 (bits .or .u64 (bits .or .u64 (bits .or .u64 (bits .or .u64 (bits .or .u64 0 (IntKind.wrap .u64 ((IntKind.wrap .u64 (A.getD ((p + 0) + 0) 0)) * (2 ^ 0)))) (IntKind.wrap .u64 ((IntKind.wrap .u64 (A.getD ((p + 0) + 1) 0)) * (2 ^ 8)))) (IntKind.wrap .u64 ((IntKind.wrap .u64 (A.getD ((p + 0) + 2) 0)) * (2 ^ 16)))) (IntKind.wrap .u64 ((IntKind.wrap .u64 (A.getD ((p + 0) + 3) 0)) * (2 ^ 24)))) (IntKind.wrap .u64 ((IntKind.wrap .u64 (A.getD ((p + 0) + 4) 0)) * (2 ^ 32)))) (IntKind.wrap .u64 ((IntKind.wrap .u64 (A.getD ((p + 0) + 5) 0)) * (2 ^ 40)))) (IntKind.wrap .u64 ((IntKind.wrap .u64 (A.getD ((p + 0) + 6) 0)) * (2 ^ 48)))) (IntKind.wrap .u64 ((IntKind.wrap .u64 (A.getD ((p + 0) + 7) 0)) * (2 ^ 56))))] ++ List.drop ((0 + j) + (List.length [(bits .or .u64 (bits .or .u64 (bits .or .u64 (bits .or .u64 (bits .or .u64 (bits .or .u64 (bits .or .u64 (bits .or .u64 0 (IntKind.wrap .u64 ((IntKind.wrap .u64 (A.getD ((p + 0) + 0) 0)) * (2 ^ 0)))) (IntKind.wrap .u64 ((IntKind.wrap .u64 (A.getD ((p + 0) + 1) 0)) * (2 ^ 8)))) (IntKind.wrap .u64 ((IntKind.wrap .u64 (A.getD ((p + 0) + 2) 0)) * (2 ^ 16)))) (IntKind.wrap .u64 ((IntKind.wrap .u64 (A.getD ((p + 0) + 3) 0)) * (2 ^ 24)))) (IntKind.wrap .u64 ((IntKind.wrap .u64 (A.getD ((p + 0) + 4) 0)) * (2 ^ 32)))) (IntKind.wrap .u64 ((IntKind.wrap .u64 (A.getD ((p + 0) + 5) 0)) * (2 ^ 40)))) (IntKind.wrap .u64 ((IntKind.wrap .u64 (A.getD ((p + 0) + 6) 0)) * (2 ^ 48)))) (IntKind.wrap .u64 ((IntKind.wrap .u64 (A.getD ((p + 0) + 7) 0)) * (2 ^ 56))))])) q) 30 true), (0, 0, .ints .u8 A 5 true)]⟩⟩
theorem WR12 (p : Nat) (r : Nat) (j : Nat) (m : Nat) (q : List Int) (A : List Int) : WEV byteRV byteV manyV withRV (codeAt [1, 1, 1, 1, 0, 0, 0, 1, 0, 1, 1, 1, 1] BW) (WS16 p r j m q A) [3, 4] =
  if (0 : Int) ≤ 8 ∧ 8 ≤ ((r : Nat) : Int) then
    bif ((Nat.ble 8 r) && (Nat.ble r r)) then
      bif (Nat.beq r 8) then
        some (.normal, (WS19 j m q A p))
      else
        some (.normal, (WS20 p r j m q A))
    else
      none
  else
    none := by kernel_rfl
noncomputable def WS21 (j : Nat) (m : Nat) (q : List Int) : KSt := ⟨(frameL 48 [(2, (.slice (some ⟨0, 0, none⟩) j m))]), ⟨1, 1, [(0, 0, .ints .u64 q 30 true)]⟩⟩
theorem WR13 (p : Nat) (r : Nat) (j : Nat) (m : Nat) (q : List Int) (A : List Int) : WEV byteRV byteV manyV withRV (codeAt [1, 1, 1, 1, 1, 0] BW) (WS10 p r j m q A) [2] =
  some (.normal, (WS21 j m q)) := by kernel_rfl
noncomputable def WS22 (j : Nat) (m : Nat) (q : List Int) : KSt := ⟨(frameL 48 [(3, (.slice (some ⟨0, 0, some 0⟩) 0 0)), (4, (.slice (some ⟨0, 0, none⟩) (j + 1) m))]), ⟨1, 1, [(0, 0, .ints .u64 q 30 true)]⟩⟩
noncomputable def WS23 (j : Nat) (m : Nat) (q : List Int) : KSt := ⟨(frameL 48 [(3, (.slice (some ⟨0, 0, some 0⟩) 0 0)), (4, (.slice (some ⟨0, 0, none⟩) (j + 1) m)), (23, (.bool false))]), ⟨1, 1, [(0, 0, .ints .u64 q 30 true)]⟩⟩
theorem WR14 (j : Nat) (m : Nat) (q : List Int) : WEV byteRV byteV manyV withRV (codeAt [1, 1, 1, 1, 0, 0, 0, 0, 0] BW) (WS22 j m q) [3, 4, 23] =
  some (.normal, (WS23 j m q)) := by kernel_rfl
noncomputable def WS24 (j : Nat) (m : Nat) (q : List Int) : KSt := ⟨(frameL 48 [(2, (.slice (some ⟨0, 0, none⟩) (j + 1) m))]), ⟨1, 1, [(0, 0, .ints .u64 q 30 true)]⟩⟩
theorem WR15 (j : Nat) (m : Nat) (q : List Int) : WEV byteRV byteV manyV withRV (codeAt [1, 1, 1, 1, 1, 0] BW) (WS23 j m q) [2] =
  some (.normal, (WS24 j m q)) := by kernel_rfl
end
theorem Wp1 {tx : ByteArray} {n : Nat} {m : Nat} (hs : tx.size = n) (hs2 : n ≤ 2000) (hM : (IntKind.wrap .i64 (8 * (manyV (((ByteArray.size tx) : Nat) : Int)))) = 8 * (m : Int)) (hm : n ≤ 8 * m) (hm2 : 8 * m < n + 8)   {Q : Ex → St → Prop} (hq : Gets Try.prog (KH.low ⟨0, 1, []⟩) (codeAt [1, 1] BW) (KSt.low (WS3 tx m)) (Q)) : Gets Try.prog (KH.low ⟨0, 1, []⟩) BW (KSt.low (WS0 tx)) Q := by
  rw [WC]; refine Gets.seq ?_
  refine Wgo (WR1 byteRV byteV manyV withRV tx) ?_
  rw [WC1]; refine Gets.seq ?_
  refine Wgo (x := .normal) (s' := (WS3 tx m)) ((WR2 byteRV byteV manyV withRV tx).trans (by rw [condT (decide_eq_true (by omega)), if_pos (by refine ⟨?_, ?_, ?_, ?_⟩ <;> (first | omega | ((try simp (disch := omega) only [wrap_i64_id]) <;> omega)))] <;> (show some (Ex.normal, (WS2 manyV tx)) = some (Ex.normal, (WS3 tx m)); unfold WS2 WS3; rw [(show (Int.toNat (IntKind.wrap .i64 (8 * (manyV (((ByteArray.size tx) : Nat) : Int))))) = (8 * m) from by omega)]))) ?_
  exact hq
theorem Wp2 {tx : ByteArray} {n : Nat} {m : Nat} {A : List Int} (hs : tx.size = n) (hn : 1 ≤ n) (hm : n ≤ 8 * m) (hA : (List.take 0 (List.replicate (8 * m) (0 : Int)) ++ (List.map (fun (b : UInt8) => (b.toNat : Int)) (List.take (8 * m) tx.data.toList)) ++ List.drop (0 + (List.length (List.map (fun (b : UInt8) => (b.toNat : Int)) (List.take (8 * m) tx.data.toList)))) (List.replicate (8 * m) (0 : Int))) = A)   {Q : Ex → St → Prop} (hq : Gets Try.prog (KH.low ⟨0, 1, []⟩) (codeAt [1, 1, 1] BW) (KSt.low (WS6 m A)) (Q)) : Gets Try.prog (KH.low ⟨0, 1, []⟩) (codeAt [1, 1] BW) (KSt.low (WS3 tx m)) Q := by
  rw [WC1_1]; refine Gets.seq ?_
  refine Wgo (x := .normal) (s' := (WS6 m A)) ((WR3 byteRV byteV manyV withRV tx m).trans (by rw [condF (nbeq_f (by omega)), condT (and_t (by first | exact Nat.ble_eq_true_of_le (by simp; omega) | exact nbeq_t (by simp; omega)) (by first | exact Nat.ble_eq_true_of_le (by simp; omega) | exact nbeq_t (by simp; omega)))] <;> (show some (Ex.normal, (WS5 m tx)) = some (Ex.normal, (WS6 m A)); unfold WS5 WS6; rw [(show (List.take 0 (List.replicate (8 * m) (0 : Int)) ++ (List.map (fun (b : UInt8) => (b.toNat : Int)) (List.take (8 * m) tx.data.toList)) ++ List.drop (0 + (List.length (List.map (fun (b : UInt8) => (b.toNat : Int)) (List.take (8 * m) tx.data.toList)))) (List.replicate (8 * m) (0 : Int))) = A from hA)]))) ?_
  exact hq
theorem Wp20 {tx : ByteArray} {n : Nat} {m : Nat} {A : List Int} (hs : tx.size = n) (hn : n = 0) (hA : (List.replicate (8 * m) (0 : Int)) = A)   {Q : Ex → St → Prop} (hq : Gets Try.prog (KH.low ⟨0, 1, []⟩) (codeAt [1, 1, 1] BW) (KSt.low (WS6 m A)) (Q)) : Gets Try.prog (KH.low ⟨0, 1, []⟩) (codeAt [1, 1] BW) (KSt.low (WS3 tx m)) Q := by
  rw [WC1_1]; refine Gets.seq ?_
  refine Wgo (x := .normal) (s' := (WS6 m A)) ((WR3 byteRV byteV manyV withRV tx m).trans (by rw [condT (nbeq_t (by omega))] <;> (show some (Ex.normal, (WS4 m)) = some (Ex.normal, (WS6 m A)); unfold WS4 WS6; rw [(show (List.replicate (8 * m) (0 : Int)) = A from hA)]))) ?_
  exact hq
theorem Wp3 {m : Nat} {A : List Int} (hm2 : m ≤ 1000) (hQ : (IntKind.wrap .i64 (Int.tdiv (((8 * m) : Nat) : Int) 8)) = (m : Int))   {Q : Ex → St → Prop} (hq : Gets Try.prog (KH.low ⟨0, 1, []⟩) (codeAt [1, 1, 1, 1, 0] BW) (KSt.low (WS8 m A)) (onN (fun s => Gets Try.prog (KH.low ⟨0, 1, []⟩) (codeAt [1, 1, 1, 1, 1] BW) s (Q)) (Q))) : Gets Try.prog (KH.low ⟨0, 1, []⟩) (codeAt [1, 1, 1] BW) (KSt.low (WS6 m A)) Q := by
  rw [WC1_1_1]; refine Gets.seq ?_
  refine Wgo (x := .normal) (s' := (WS8 m A)) ((WR4 byteRV byteV manyV withRV m A).trans (by rw [if_pos (by refine ⟨?_, ?_, ?_, ?_⟩ <;> (first | omega | ((try simp (disch := omega) only [wrap_i64_id]) <;> omega)))] <;> (show some (Ex.normal, (WS7 m A)) = some (Ex.normal, (WS8 m A)); unfold WS7 WS8; rw [(show (Int.toNat (IntKind.wrap .i64 (Int.tdiv (((8 * m) : Nat) : Int) 8))) = m from by omega)]))) ?_
  rw [WC1_1_1_1]; refine Gets.seq ?_
  exact hq
theorem Wl1 {A : List Int} {m : Nat} {q : List Int} {p : Nat} {j : Nat} {r : Nat} (hA : A.length = 8 * m) (hq : q.length = m) (hp : p = 8 * j) (hr : r + p = 8 * m) (hm2 : m ≤ 1000) (h8 : r = 8)   {Q : Ex → St → Prop} (hq : Q .normal (KSt.low (WS19 j m q A p))) : Gets Try.prog (KH.low ⟨0, 1, []⟩) (codeAt [1, 1, 1, 1, 0, 0, 0] BW) (KSt.low (WS9 p r j m q A)) Q := by
  rw [WC1_1_1_1_0_0_0]; refine Gets.seq ?_
  rw [WC1_1_1_1_0_0_0_0]; refine Gets.seq ?_
  refine Wgo (WR5 byteRV byteV manyV withRV p r j m q A) ?_
  rw [WC1_1_1_1_0_0_0_0_1]; refine Gets.cond true (by kernel_rfl) (WeX (b := (decide (((r : Nat) : Int) > 0))) (by kernel_rfl) ((show (decide (((r : Nat) : Int) > 0)) = true from decide_eq_true (by omega)))) ?_; show Gets _ _ (codeAt [1, 1, 1, 1, 0, 0, 0, 0, 1, 0] BW) _ _
  refine Wgo (WR6 byteRV byteV manyV withRV p r j m q A) ?_
  rw [WC1_1_1_1_0_0_0_1]; refine Gets.block ?_
  rw [WC1_1_1_1_0_0_0_1_0]; refine Gets.seq ?_
  refine Wgo (x := .normal) (s' := (WS11 p r j m q A)) ((WR7 byteRV byteV manyV withRV p r j m q A).trans (by rw [if_pos (⟨by omega, by omega⟩)])) ?_
  rw [WC1_1_1_1_0_0_0_1_0_1]; refine Gets.seq ?_
  refine Wgo (WR8 byteRV byteV manyV withRV p r j m q A) ?_
  rw [WC1_1_1_1_0_0_0_1_0_1_1]; refine Gets.seq ?_
  rw [WC1_1_1_1_0_0_0_1_0_1_1_0]; refine Gets.seq ?_
  refine Wgo (WR9 byteRV byteV manyV withRV p r j m q A) ?_
  refine Wgo (x := .normal) (s' := (WS15 p r j m A q)) ((WR10 byteRV byteV manyV withRV p r j m q A).trans (by rw [obind_at (k := (p + 0) + 0) (by omega) (by omega), obind_at (k := (p + 0) + 1) (by omega) (by omega), obind_at (k := (p + 0) + 2) (by omega) (by omega), obind_at (k := (p + 0) + 3) (by omega) (by omega), obind_at (k := (p + 0) + 4) (by omega) (by omega), obind_at (k := (p + 0) + 5) (by omega) (by omega), obind_at (k := (p + 0) + 6) (by omega) (by omega), obind_at (k := (p + 0) + 7) (by omega) (by omega)] <;> rfl)) ?_
  rw [WC1_1_1_1_0_0_0_1_0_1_1_1]; refine Gets.seq ?_
  refine Wgo (x := .normal) (s' := (WS16 p r j m q A)) ((WR11 byteRV byteV manyV withRV p r j m A q).trans (by rw [condT (ble_t (by omega)), condT (ble_t (by omega)), condT (ble_t (by (first | omega | ((try simp (disch := omega) only [wrap_i64_id]) <;> omega))))])) ?_
  refine Wgo (x := .normal) (s' := (WS19 j m q A p)) ((WR12 byteRV byteV manyV withRV p r j m q A).trans (by rw [if_pos (⟨by omega, by omega⟩), condT (and_t (ble_t (by omega)) (ble_t (by omega))), condT (nbeq_t (by omega))])) ?_
  exact hq
theorem Wl2 {A : List Int} {m : Nat} {q : List Int} {p : Nat} {j : Nat} {r : Nat} (hA : A.length = 8 * m) (hq : q.length = m) (hp : p = 8 * j) (hr : r + p = 8 * m) (hm2 : m ≤ 1000) (h8 : 8 < r)   {Q : Ex → St → Prop} (hq : Q .normal (KSt.low (WS20 p r j m q A))) : Gets Try.prog (KH.low ⟨0, 1, []⟩) (codeAt [1, 1, 1, 1, 0, 0, 0] BW) (KSt.low (WS9 p r j m q A)) Q := by
  rw [WC1_1_1_1_0_0_0]; refine Gets.seq ?_
  rw [WC1_1_1_1_0_0_0_0]; refine Gets.seq ?_
  refine Wgo (WR5 byteRV byteV manyV withRV p r j m q A) ?_
  rw [WC1_1_1_1_0_0_0_0_1]; refine Gets.cond true (by kernel_rfl) (WeX (b := (decide (((r : Nat) : Int) > 0))) (by kernel_rfl) ((show (decide (((r : Nat) : Int) > 0)) = true from decide_eq_true (by omega)))) ?_; show Gets _ _ (codeAt [1, 1, 1, 1, 0, 0, 0, 0, 1, 0] BW) _ _
  refine Wgo (WR6 byteRV byteV manyV withRV p r j m q A) ?_
  rw [WC1_1_1_1_0_0_0_1]; refine Gets.block ?_
  rw [WC1_1_1_1_0_0_0_1_0]; refine Gets.seq ?_
  refine Wgo (x := .normal) (s' := (WS11 p r j m q A)) ((WR7 byteRV byteV manyV withRV p r j m q A).trans (by rw [if_pos (⟨by omega, by omega⟩)])) ?_
  rw [WC1_1_1_1_0_0_0_1_0_1]; refine Gets.seq ?_
  refine Wgo (WR8 byteRV byteV manyV withRV p r j m q A) ?_
  rw [WC1_1_1_1_0_0_0_1_0_1_1]; refine Gets.seq ?_
  rw [WC1_1_1_1_0_0_0_1_0_1_1_0]; refine Gets.seq ?_
  refine Wgo (WR9 byteRV byteV manyV withRV p r j m q A) ?_
  refine Wgo (x := .normal) (s' := (WS15 p r j m A q)) ((WR10 byteRV byteV manyV withRV p r j m q A).trans (by rw [obind_at (k := (p + 0) + 0) (by omega) (by omega), obind_at (k := (p + 0) + 1) (by omega) (by omega), obind_at (k := (p + 0) + 2) (by omega) (by omega), obind_at (k := (p + 0) + 3) (by omega) (by omega), obind_at (k := (p + 0) + 4) (by omega) (by omega), obind_at (k := (p + 0) + 5) (by omega) (by omega), obind_at (k := (p + 0) + 6) (by omega) (by omega), obind_at (k := (p + 0) + 7) (by omega) (by omega)] <;> rfl)) ?_
  rw [WC1_1_1_1_0_0_0_1_0_1_1_1]; refine Gets.seq ?_
  refine Wgo (x := .normal) (s' := (WS16 p r j m q A)) ((WR11 byteRV byteV manyV withRV p r j m A q).trans (by rw [condT (ble_t (by omega)), condT (ble_t (by omega)), condT (ble_t (by (first | omega | ((try simp (disch := omega) only [wrap_i64_id]) <;> omega))))])) ?_
  refine Wgo (x := .normal) (s' := (WS20 p r j m q A)) ((WR12 byteRV byteV manyV withRV p r j m q A).trans (by rw [if_pos (⟨by omega, by omega⟩), condT (and_t (ble_t (by omega)) (ble_t (by omega))), condF (nbeq_f (by omega))])) ?_
  exact hq
theorem Wx0 {r : Nat} {p : Nat} {j : Nat} {m : Nat} {q : List Int} {A : List Int} (h0 : r = 0)   {Q : Ex → St → Prop} (hq : Q (.exit 0) (KSt.low (WS10 p r j m q A))) : Gets Try.prog (KH.low ⟨0, 1, []⟩) (codeAt [1, 1, 1, 1, 0, 0, 0] BW) (KSt.low (WS9 p r j m q A)) Q := by
  rw [WC1_1_1_1_0_0_0]; refine Gets.seq ?_
  rw [WC1_1_1_1_0_0_0_0]; refine Gets.seq ?_
  refine Wgo (WR5 byteRV byteV manyV withRV p r j m q A) ?_
  rw [WC1_1_1_1_0_0_0_0_1]; refine Gets.cond false (by kernel_rfl) (WeX (b := (decide (((r : Nat) : Int) > 0))) (by kernel_rfl) ((show (decide (((r : Nat) : Int) > 0)) = false from decide_eq_false (by omega)))) ?_; show Gets _ _ (codeAt [1, 1, 1, 1, 0, 0, 0, 0, 1, 1] BW) _ _
  rw [WC1_1_1_1_0_0_0_0_1_1]; refine Gets.ev fitB.mix fitB.cfg (fitB.sound pka_sound 14 0) 14 rfl (s' := KSt.low (WS10 p r j m q A)) (x := (.exit 0)) rfl ?_
  exact hq
theorem Wfi0 {j : Nat} {m : Nat} {q : List Int} {p : Nat} {r : Nat} {A : List Int}   {Q : Ex → St → Prop} (hq : Q .ret (KSt.low (WS21 j m q))) : Gets Try.prog (KH.low ⟨0, 1, []⟩) (codeAt [1, 1, 1, 1, 1] BW) (KSt.low (WS10 p r j m q A)) Q := by
  rw [WC1_1_1_1_1]; refine Gets.seq ?_
  refine Wgo (WR13 byteRV byteV manyV withRV p r j m q A) ?_
  rw [WC1_1_1_1_1_1]; refine Gets.ev fitB.mix fitB.cfg (fitB.sound pka_sound 14 0) 14 rfl (s' := KSt.low (WS21 j m q)) (x := .ret) rfl ?_
  exact hq
theorem Wx {j : Nat} {m : Nat} {q : List Int}   {Q : Ex → St → Prop} (hq : Q (.exit 0) (KSt.low (WS23 j m q))) : Gets Try.prog (KH.low ⟨0, 1, []⟩) (codeAt [1, 1, 1, 1, 0, 0, 0] BW) (KSt.low (WS22 j m q)) Q := by
  rw [WC1_1_1_1_0_0_0]; refine Gets.seq ?_
  rw [WC1_1_1_1_0_0_0_0]; refine Gets.seq ?_
  refine Wgo (WR14 byteRV byteV manyV withRV j m q) ?_
  rw [WC1_1_1_1_0_0_0_0_1]; refine Gets.cond false (by kernel_rfl) (by kernel_rfl) ?_; show Gets _ _ (codeAt [1, 1, 1, 1, 0, 0, 0, 0, 1, 1] BW) _ _
  rw [WC1_1_1_1_0_0_0_0_1_1]; refine Gets.ev fitB.mix fitB.cfg (fitB.sound pka_sound 14 0) 14 rfl (s' := KSt.low (WS23 j m q)) (x := (.exit 0)) rfl ?_
  exact hq
theorem Wfi {j : Nat} {m : Nat} {q : List Int}   {Q : Ex → St → Prop} (hq : Q .ret (KSt.low (WS24 j m q))) : Gets Try.prog (KH.low ⟨0, 1, []⟩) (codeAt [1, 1, 1, 1, 1] BW) (KSt.low (WS23 j m q)) Q := by
  rw [WC1_1_1_1_1]; refine Gets.seq ?_
  refine Wgo (WR15 byteRV byteV manyV withRV j m q) ?_
  rw [WC1_1_1_1_1_1]; refine Gets.ev fitB.mix fitB.cfg (fitB.sound pka_sound 14 0) 14 rfl (s' := KSt.low (WS24 j m q)) (x := .ret) rfl ?_
  exact hq
noncomputable def Br : Code := bodyOf Try.prog 16
theorem Br_is : Try.f16.body = some Br := by kernel_rfl
theorem Br_ok : okCode Try.prog.globals.size Br = true := by kernel_rfl
noncomputable abbrev rEV (byteRV : Int → Int → Int) (byteV : Int → Int → Int) (manyV : Int → Int) (withRV : Int → Int → Int → Int) (c : Code) (s : KSt) (lv : List Nat) : Option (Ex × KSt) := evCK Try.prog cfgB (runK Try.prog cfgB fsB (conTk pkaDom (rcK [] (pkaT byteRV byteV manyV withRV))) 14 40) 14 c s (normC 0 lv)
theorem rgo {lv_ : List Nat} {co_ : Code} {st_ s' : KSt} {x : Ex} {Q : Ex → St → Prop} (hE_ : rEV byteRV byteV manyV withRV co_ st_ lv_ = some (x, s')) (hq_ : Q x s'.low) (hok_ : okCode Try.prog.globals.size co_ = true := by kernel_rfl) : Gets Try.prog (KH.low ⟨0, 1, []⟩) co_ st_.low Q := Gets.ofN fitB pka_sound (rc_agree _ _ _) 14 40 hok_ hE_ hq_
theorem reX {v : Value} {b c : Bool} (h : v = .bool b) (hb : b = c) : v = .bool c := by rw [h, hb]
theorem rC : Br = .seq (codeAt [0] Br) (codeAt [1] Br) := by kernel_rfl
theorem rC1 : (codeAt [1] Br) = .seq (codeAt [1, 0] Br) (codeAt [1, 1] Br) := by kernel_rfl
theorem rC1_1 : (codeAt [1, 1] Br) = .seq (codeAt [1, 1, 0] Br) (codeAt [1, 1, 1] Br) := by kernel_rfl
theorem rC1_1_0 : (codeAt [1, 1, 0] Br) = .seq (codeAt [1, 1, 0, 0] Br) (codeAt [1, 1, 0, 1] Br) := by kernel_rfl
theorem rC1_1_0_1_0_0 : (codeAt [1, 1, 0, 1, 0, 0] Br) = .seq (codeAt [1, 1, 0, 1, 0, 0, 0] Br) (codeAt [1, 1, 0, 1, 0, 0, 1] Br) := by kernel_rfl
theorem rC1_1_0_1_0_0_0 : (codeAt [1, 1, 0, 1, 0, 0, 0] Br) = .seq (codeAt [1, 1, 0, 1, 0, 0, 0, 0] Br) (codeAt [1, 1, 0, 1, 0, 0, 0, 1] Br) := by kernel_rfl
theorem rC1_1_0_1_0_0_0_1 : (codeAt [1, 1, 0, 1, 0, 0, 0, 1] Br) = .cond (.tmp 11) (codeAt [1, 1, 0, 1, 0, 0, 0, 1, 0] Br) (codeAt [1, 1, 0, 1, 0, 0, 0, 1, 1] Br) := by kernel_rfl
theorem rC1_1_0_1_0_0_0_1_1 : (codeAt [1, 1, 0, 1, 0, 0, 0, 1, 1] Br) = .exit 0 := by kernel_rfl
theorem rC1_1_1 : (codeAt [1, 1, 1] Br) = .seq (codeAt [1, 1, 1, 0] Br) (codeAt [1, 1, 1, 1] Br) := by kernel_rfl
theorem rC1_1_1_1 : (codeAt [1, 1, 1, 1] Br) = .ret := by kernel_rfl
theorem rC1_1_0_1_0_0_1 : (codeAt [1, 1, 0, 1, 0, 0, 1] Br) = .seq (codeAt [1, 1, 0, 1, 0, 0, 1, 0] Br) (codeAt [1, 1, 0, 1, 0, 0, 1, 1] Br) := by kernel_rfl
theorem rC1_1_0_1_0_0_1_0 : (codeAt [1, 1, 0, 1, 0, 0, 1, 0] Br) = .block 1 (codeAt [1, 1, 0, 1, 0, 0, 1, 0, 0] Br) := by kernel_rfl
theorem rC1_1_0_1_0_0_1_0_0 : (codeAt [1, 1, 0, 1, 0, 0, 1, 0, 0] Br) = .seq (codeAt [1, 1, 0, 1, 0, 0, 1, 0, 0, 0] Br) (codeAt [1, 1, 0, 1, 0, 0, 1, 0, 0, 1] Br) := by kernel_rfl
theorem rC1_1_0_1_0_0_1_0_0_1 : (codeAt [1, 1, 0, 1, 0, 0, 1, 0, 0, 1] Br) = .seq (codeAt [1, 1, 0, 1, 0, 0, 1, 0, 0, 1, 0] Br) (codeAt [1, 1, 0, 1, 0, 0, 1, 0, 0, 1, 1] Br) := by kernel_rfl
theorem rC1_1_0_1_0_0_1_0_0_1_0 : (codeAt [1, 1, 0, 1, 0, 0, 1, 0, 0, 1, 0] Br) = .seq (codeAt [1, 1, 0, 1, 0, 0, 1, 0, 0, 1, 0, 0] Br) (codeAt [1, 1, 0, 1, 0, 0, 1, 0, 0, 1, 0, 1] Br) := by kernel_rfl
theorem rC1_1_0_1_0_0_1_0_0_1_0_1_0_0 : (codeAt [1, 1, 0, 1, 0, 0, 1, 0, 0, 1, 0, 1, 0, 0] Br) = .seq (codeAt [1, 1, 0, 1, 0, 0, 1, 0, 0, 1, 0, 1, 0, 0, 0] Br) (codeAt [1, 1, 0, 1, 0, 0, 1, 0, 0, 1, 0, 1, 0, 0, 1] Br) := by kernel_rfl
theorem rC1_1_0_1_0_0_1_0_0_1_0_1_0_0_0 : (codeAt [1, 1, 0, 1, 0, 0, 1, 0, 0, 1, 0, 1, 0, 0, 0] Br) = .seq (codeAt [1, 1, 0, 1, 0, 0, 1, 0, 0, 1, 0, 1, 0, 0, 0, 0] Br) (codeAt [1, 1, 0, 1, 0, 0, 1, 0, 0, 1, 0, 1, 0, 0, 0, 1] Br) := by kernel_rfl
theorem rC1_1_0_1_0_0_1_0_0_1_0_1_0_0_0_1 : (codeAt [1, 1, 0, 1, 0, 0, 1, 0, 0, 1, 0, 1, 0, 0, 0, 1] Br) = .cond (.tmp 23) (codeAt [1, 1, 0, 1, 0, 0, 1, 0, 0, 1, 0, 1, 0, 0, 0, 1, 0] Br) (codeAt [1, 1, 0, 1, 0, 0, 1, 0, 0, 1, 0, 1, 0, 0, 0, 1, 1] Br) := by kernel_rfl
theorem rC1_1_0_1_0_0_1_0_0_1_0_1_0_0_0_1_1 : (codeAt [1, 1, 0, 1, 0, 0, 1, 0, 0, 1, 0, 1, 0, 0, 0, 1, 1] Br) = .exit 2 := by kernel_rfl
theorem rC1_1_0_1_0_0_1_0_0_1_0_1_0_0_1 : (codeAt [1, 1, 0, 1, 0, 0, 1, 0, 0, 1, 0, 1, 0, 0, 1] Br) = .seq (codeAt [1, 1, 0, 1, 0, 0, 1, 0, 0, 1, 0, 1, 0, 0, 1, 0] Br) (codeAt [1, 1, 0, 1, 0, 0, 1, 0, 0, 1, 0, 1, 0, 0, 1, 1] Br) := by kernel_rfl
theorem rC1_1_0_1_0_0_1_0_0_1_0_1_0_0_1_0 : (codeAt [1, 1, 0, 1, 0, 0, 1, 0, 0, 1, 0, 1, 0, 0, 1, 0] Br) = .block 3 (codeAt [1, 1, 0, 1, 0, 0, 1, 0, 0, 1, 0, 1, 0, 0, 1, 0, 0] Br) := by kernel_rfl
theorem rC1_1_0_1 : (codeAt [1, 1, 0, 1] Br) = .block 0 (codeAt [1, 1, 0, 1, 0] Br) := by kernel_rfl
theorem rC1_1_0_1_0 : (codeAt [1, 1, 0, 1, 0] Br) = .loop (codeAt [1, 1, 0, 1, 0, 0] Br) := by kernel_rfl
theorem rC1_1_0_1_0_0_1_0_0_1_0_1 : (codeAt [1, 1, 0, 1, 0, 0, 1, 0, 0, 1, 0, 1] Br) = .block 2 (codeAt [1, 1, 0, 1, 0, 0, 1, 0, 0, 1, 0, 1, 0] Br) := by kernel_rfl
theorem rC1_1_0_1_0_0_1_0_0_1_0_1_0 : (codeAt [1, 1, 0, 1, 0, 0, 1, 0, 0, 1, 0, 1, 0] Br) = .loop (codeAt [1, 1, 0, 1, 0, 0, 1, 0, 0, 1, 0, 1, 0, 0] Br) := by kernel_rfl
section
variable (byteRV : Int → Int → Int) (byteV : Int → Int → Int) (manyV : Int → Int) (withRV : Int → Int → Int → Int)
noncomputable def rS0 (tx : ByteArray) : KSt := (firstK [(.string tx)] 40 ⟨0, 1, []⟩)
noncomputable def rS1 (tx : ByteArray) : KSt := ⟨(frameL 40 [(0, (.string tx))]), ⟨0, 1, []⟩⟩
theorem rR1 (tx : ByteArray) : rEV byteRV byteV manyV withRV (codeAt [0] Br) (rS0 tx) [0] =
  some (.normal, (rS1 tx)) := by kernel_rfl
noncomputable def rS2 (tx : ByteArray) : KSt := ⟨(frameL 40 [(0, (.string tx)), (3, (.slice (some ⟨0, 0, none⟩) 0 0))]), ⟨1, 1, [(0, 0, .cells [] 30 true)]⟩⟩
theorem rR2 (tx : ByteArray) : rEV byteRV byteV manyV withRV (codeAt [1, 0] Br) (rS1 tx) [0, 3] =
  some (.normal, (rS2 tx)) := by kernel_rfl
noncomputable def rS3 (tx : ByteArray) : KSt := ⟨(frameL 40 [(0, (.string tx)), (3, (.slice (some ⟨0, 0, none⟩) 0 0)), (4, (.int .i64 0))]), ⟨1, 1, [(0, 0, .cells [] 30 true)]⟩⟩
theorem rR3 (tx : ByteArray) : rEV byteRV byteV manyV withRV (codeAt [1, 1, 0, 0] Br) (rS2 tx) [0, 3, 4] =
  some (.normal, (rS3 tx)) := by kernel_rfl
noncomputable def rS4 (tx : ByteArray) (j : Nat) (i : Int) (q : List Int) : KSt := ⟨(frameL 40 [(0, (.string tx)), (3, (.slice (some ⟨0, 0, none⟩) j j)), (4, (.int .i64 i))]), ⟨1, 1, [(0, 0, .ints .u64 q 30 true)]⟩⟩
noncomputable def rS5 (tx : ByteArray) (j : Nat) (i : Int) (q : List Int) : KSt := ⟨(frameL 40 [(0, (.string tx)), (3, (.slice (some ⟨0, 0, none⟩) j j)), (4, (.int .i64 i)), (11, (.bool (decide (i < (((ByteArray.size tx) : Nat) : Int)))))]), ⟨1, 1, [(0, 0, .ints .u64 q 30 true)]⟩⟩
theorem rR4 (tx : ByteArray) (j : Nat) (i : Int) (q : List Int) : rEV byteRV byteV manyV withRV (codeAt [1, 1, 0, 1, 0, 0, 0, 0] Br) (rS4 tx j i q) [0, 3, 4, 11] =
  some (.normal, (rS5 tx j i q)) := by kernel_rfl
noncomputable def rS6 (j : Nat) (q : List Int) : KSt := ⟨(frameL 40 [(2, (.slice (some ⟨0, 0, none⟩) j j))]), ⟨1, 1, [(0, 0, .ints .u64 q 30 true)]⟩⟩
theorem rR5 (tx : ByteArray) (j : Nat) (i : Int) (q : List Int) : rEV byteRV byteV manyV withRV (codeAt [1, 1, 1, 0] Br) (rS5 tx j i q) [2] =
  some (.normal, (rS6 j q)) := by kernel_rfl
theorem rR6 (tx : ByteArray) (j : Nat) (i : Int) (q : List Int) : rEV byteRV byteV manyV withRV (codeAt [1, 1, 0, 1, 0, 0, 0, 1, 0] Br) (rS5 tx j i q) [0, 3, 4] =
  some (.normal, (rS4 tx j i q)) := by kernel_rfl
noncomputable def rS7 (tx : ByteArray) (j : Nat) (i : Int) (q : List Int) : KSt := ⟨(frameL 40 [(0, (.string tx)), (3, (.slice (some ⟨0, 0, none⟩) j j)), (4, (.int .i64 i)), (5, (.int .u64 0))]), ⟨1, 1, [(0, 0, .ints .u64 q 30 true)]⟩⟩
theorem rR7 (tx : ByteArray) (j : Nat) (i : Int) (q : List Int) : rEV byteRV byteV manyV withRV (codeAt [1, 1, 0, 1, 0, 0, 1, 0, 0, 0] Br) (rS4 tx j i q) [0, 3, 4, 5] =
  some (.normal, (rS7 tx j i q)) := by kernel_rfl
noncomputable def rS8 (tx : ByteArray) (j : Nat) (i : Int) (q : List Int) : KSt := ⟨(frameL 40 [(0, (.string tx)), (3, (.slice (some ⟨0, 0, none⟩) j j)), (4, (.int .i64 i)), (5, (.int .u64 0)), (6, (.int .i64 0))]), ⟨1, 1, [(0, 0, .ints .u64 q 30 true)]⟩⟩
theorem rR8 (tx : ByteArray) (j : Nat) (i : Int) (q : List Int) : rEV byteRV byteV manyV withRV (codeAt [1, 1, 0, 1, 0, 0, 1, 0, 0, 1, 0, 0] Br) (rS7 tx j i q) [0, 3, 4, 5, 6] =
  some (.normal, (rS8 tx j i q)) := by kernel_rfl
noncomputable def rS9 (tx : ByteArray) (j : Nat) (i : Int) (w : Int) (k : Int) (q : List Int) : KSt := ⟨(frameL 40 [(0, (.string tx)), (3, (.slice (some ⟨0, 0, none⟩) j j)), (4, (.int .i64 i)), (5, (.int .u64 w)), (6, (.int .i64 k))]), ⟨1, 1, [(0, 0, .ints .u64 q 30 true)]⟩⟩
noncomputable def rS10 (tx : ByteArray) (j : Nat) (i : Int) (w : Int) (k : Int) (q : List Int) : KSt := ⟨(frameL 40 [(0, (.string tx)), (3, (.slice (some ⟨0, 0, none⟩) j j)), (4, (.int .i64 i)), (5, (.int .u64 w)), (6, (.int .i64 k)), (23, (.bool (decide ((IntKind.wrap .i64 (i + k)) < (((ByteArray.size tx) : Nat) : Int)))))]), ⟨1, 1, [(0, 0, .ints .u64 q 30 true)]⟩⟩
noncomputable def rS11 (tx : ByteArray) (j : Nat) (i : Int) (w : Int) (k : Int) (q : List Int) : KSt := ⟨(frameL 40 [(0, (.string tx)), (3, (.slice (some ⟨0, 0, none⟩) j j)), (4, (.int .i64 i)), (5, (.int .u64 w)), (6, (.int .i64 k)), (23, (.bool false))]), ⟨1, 1, [(0, 0, .ints .u64 q 30 true)]⟩⟩
theorem rR9 (tx : ByteArray) (j : Nat) (i : Int) (w : Int) (k : Int) (q : List Int) : rEV byteRV byteV manyV withRV (codeAt [1, 1, 0, 1, 0, 0, 1, 0, 0, 1, 0, 1, 0, 0, 0, 0] Br) (rS9 tx j i w k q) [0, 3, 4, 5, 6, 23] =
  bif (decide (k < 8)) then
    some (.normal, (rS10 tx j i w k q))
  else
    some (.normal, (rS11 tx j i w k q)) := by kernel_rfl
noncomputable def rS12 (tx : ByteArray) (j : Nat) (i : Int) (w : Int) (k : Int) (q : List Int) : KSt := ⟨(frameL 40 [(0, (.string tx)), (3, (.slice (some ⟨0, 0, none⟩) j j)), (4, (.int .i64 i)), (5, (.int .u64 w)), (6, (.int .i64 k)), (23, (.bool (decide ((i + k) < (((ByteArray.size tx) : Nat) : Int)))))]), ⟨1, 1, [(0, 0, .ints .u64 q 30 true)]⟩⟩
theorem rR10 (tx : ByteArray) (j : Nat) (i : Int) (w : Int) (k : Int) (q : List Int) : rEV byteRV byteV manyV withRV (codeAt [1, 1, 0, 1, 0, 0, 1, 0, 0, 1, 0, 1, 0, 0, 0, 1, 0] Br) (rS12 tx j i w k q) [0, 3, 4, 5, 6] =
  some (.normal, (rS9 tx j i w k q)) := by kernel_rfl
noncomputable def rS13 (tx : ByteArray) (j : Nat) (i : Int) (w : Int) (k : Int) (b1 : UInt8) (q : List Int) : KSt := ⟨(frameL 40 [(0, (.string tx)), (3, (.slice (some ⟨0, 0, none⟩) j j)), (4, (.int .i64 i)), (5, (.int .u64 (withRV w k (IntKind.wrap .i64 ((b1.toNat : Nat) : Int))))), (6, (.int .i64 k))]), ⟨1, 1, [(0, 0, .ints .u64 q 30 true)]⟩⟩
theorem rR11 (tx : ByteArray) (j : Nat) (i : Int) (w : Int) (k : Int) (q : List Int) : rEV byteRV byteV manyV withRV (codeAt [1, 1, 0, 1, 0, 0, 1, 0, 0, 1, 0, 1, 0, 0, 1, 0, 0] Br) (rS9 tx j i w k q) [0, 3, 4, 5, 6] =
  if 0 ≤ (IntKind.wrap .i64 (i + k)) then
    obind (tx.data.toList[(Int.toNat (IntKind.wrap .i64 (i + k)))]?) fun b1 =>
      some (.normal, (rS13 withRV tx j i w k b1 q))
  else
    none := by kernel_rfl
noncomputable def rS14 (tx : ByteArray) (j : Nat) (i : Int) (w : Int) (k : Int) (q : List Int) : KSt := ⟨(frameL 40 [(0, (.string tx)), (3, (.slice (some ⟨0, 0, none⟩) j j)), (4, (.int .i64 i)), (5, (.int .u64 (withRV w k (IntKind.wrap .i64 (((tx.data.toList.getD (Int.toNat (i + k)) 0).toNat : Nat) : Int))))), (6, (.int .i64 k))]), ⟨1, 1, [(0, 0, .ints .u64 q 30 true)]⟩⟩
noncomputable def rS15 (tx : ByteArray) (j : Nat) (i : Int) (w : Int) (k : Int) (q : List Int) : KSt := ⟨(frameL 40 [(0, (.string tx)), (3, (.slice (some ⟨0, 0, none⟩) j j)), (4, (.int .i64 i)), (5, (.int .u64 (withRV w k (IntKind.wrap .i64 (((tx.data.toList.getD (Int.toNat (IntKind.wrap .i64 (i + k))) 0).toNat : Nat) : Int))))), (6, (.int .i64 k))]), ⟨1, 1, [(0, 0, .ints .u64 q 30 true)]⟩⟩
noncomputable def rS16 (tx : ByteArray) (j : Nat) (i : Int) (w : Int) (k : Int) (q : List Int) : KSt := ⟨(frameL 40 [(0, (.string tx)), (3, (.slice (some ⟨0, 0, none⟩) j j)), (4, (.int .i64 i)), (5, (.int .u64 (withRV w k (IntKind.wrap .i64 (((tx.data.toList.getD (Int.toNat (i + k)) 0).toNat : Nat) : Int))))), (6, (.int .i64 (IntKind.wrap .i64 (k + 1))))]), ⟨1, 1, [(0, 0, .ints .u64 q 30 true)]⟩⟩
theorem rR12 (tx : ByteArray) (j : Nat) (i : Int) (w : Int) (k : Int) (q : List Int) : rEV byteRV byteV manyV withRV (codeAt [1, 1, 0, 1, 0, 0, 1, 0, 0, 1, 0, 1, 0, 0, 1, 1] Br) (rS14 withRV tx j i w k q) [0, 3, 4, 5, 6] =
  some (.normal, (rS16 withRV tx j i w k q)) := by kernel_rfl
noncomputable def rS17 (tx : ByteArray) (j : Nat) (i : Int) (w : Int) (k : Int) (q : List Int) : KSt := ⟨(frameL 40 [(0, (.string tx)), (3, (.slice (some ⟨0, 0, none⟩) j j)), (4, (.int .i64 i)), (5, (.int .u64 (withRV w k (IntKind.wrap .i64 (((tx.data.toList.getD (Int.toNat (i + k)) 0).toNat : Nat) : Int))))), (6, (.int .i64 (k + 1)))]), ⟨1, 1, [(0, 0, .ints .u64 q 30 true)]⟩⟩
noncomputable def rS18 (tx : ByteArray) (j : Nat) (i : Int) (q : List Int) (w : Int) : KSt := ⟨(frameL 40 [(0, (.string tx)), (3, (.slice (some ⟨0, 0, none⟩) (j + 1) j)), (4, (.int .i64 i))]), ⟨1, 1, [(0, 0, .ints .u64 (List.take (0 + j) q ++ [w] ++ List.drop ((0 + j) + (List.length [w])) q) 30 true)]⟩⟩
noncomputable def rS19 (tx : ByteArray) (i : Int) (w : Int) : KSt := ⟨(frameL 40 [(0, (.string tx)), (3, (.slice (some ⟨0, 0, none⟩) 1 1)), (4, (.int .i64 i))]), ⟨1, 1, [(0, 0, .cells [(.int .u64 w)] 30 true)]⟩⟩
noncomputable def rS20 (tx : ByteArray) (j : Nat) (i : Int) (q : List Int) (w : Int) : KSt := ⟨(frameL 40 [(0, (.string tx)), (3, (.slice (some ⟨0, 0, none⟩) (j + 1) (j + 1))), (4, (.int .i64 i))]), ⟨1, 1, [(0, 0, .ints .u64 (List.take j q ++ [w]) 30 true)]⟩⟩
theorem rR13 (tx : ByteArray) (j : Nat) (i : Int) (w : Int) (k : Int) (q : List Int) : rEV byteRV byteV manyV withRV (codeAt [1, 1, 0, 1, 0, 0, 1, 0, 0, 1, 1] Br) (rS11 tx j i w k q) [0, 3, 4] =
  bif (Nat.ble ((j + 1) * 9) 1099511627776) then
    bif (Nat.ble (j + 1) j) then
      bif (Nat.ble (0 + (j + 1)) (List.length q)) then
        some (.normal, (rS18 tx j i q w))
      else
        none
    else
      bif ((Nat.beq j 0) && (Nat.beq j 0)) then
        some (.normal, (rS19 tx i w))
      else
        bif ((Nat.ble j (List.length q)) && (Nat.ble 1 j)) then
          some (.normal, (rS20 tx j i q w))
        else
          none
  else
    none := by kernel_rfl
noncomputable def rS21 (tx : ByteArray) (i : Int) (w : Int) (k : Int) : KSt := ⟨(frameL 40 [(0, (.string tx)), (3, (.slice (some ⟨0, 0, none⟩) 0 0)), (4, (.int .i64 i)), (5, (.int .u64 w)), (6, (.int .i64 k)), (23, (.bool false))]), ⟨1, 1, [(0, 0, .cells [] 30 true)]⟩⟩
theorem rR14 (tx : ByteArray) (i : Int) (w : Int) (k : Int) : rEV byteRV byteV manyV withRV (codeAt [1, 1, 0, 1, 0, 0, 1, 0, 0, 1, 1] Br) (rS21 tx i w k) [0, 3, 4] =
  some (.normal, (rS19 tx i w)) := by kernel_rfl
theorem rR15 (tx : ByteArray) (j : Nat) (i : Int) (w : Int) (k : Int) (q : List Int) : rEV byteRV byteV manyV withRV (codeAt [1, 1, 0, 1, 0, 0, 1, 0, 0, 1, 1] Br) (rS12 tx j i w k q) [0, 3, 4] =
  bif (Nat.ble ((j + 1) * 9) 1099511627776) then
    bif (Nat.ble (j + 1) j) then
      bif (Nat.ble (0 + (j + 1)) (List.length q)) then
        some (.normal, (rS18 tx j i q w))
      else
        none
    else
      bif ((Nat.beq j 0) && (Nat.beq j 0)) then
        some (.normal, (rS19 tx i w))
      else
        bif ((Nat.ble j (List.length q)) && (Nat.ble 1 j)) then
          some (.normal, (rS20 tx j i q w))
        else
          none
  else
    none := by kernel_rfl
noncomputable def rS22 (tx : ByteArray) (i : Int) (w : Int) (k : Int) : KSt := ⟨(frameL 40 [(0, (.string tx)), (3, (.slice (some ⟨0, 0, none⟩) 0 0)), (4, (.int .i64 i)), (5, (.int .u64 w)), (6, (.int .i64 k)), (23, (.bool (decide ((i + k) < (((ByteArray.size tx) : Nat) : Int)))))]), ⟨1, 1, [(0, 0, .cells [] 30 true)]⟩⟩
theorem rR16 (tx : ByteArray) (i : Int) (w : Int) (k : Int) : rEV byteRV byteV manyV withRV (codeAt [1, 1, 0, 1, 0, 0, 1, 0, 0, 1, 1] Br) (rS22 tx i w k) [0, 3, 4] =
  some (.normal, (rS19 tx i w)) := by kernel_rfl
noncomputable def rS23 (tx : ByteArray) (j : Nat) (i : Int) (q : List Int) : KSt := ⟨(frameL 40 [(0, (.string tx)), (3, (.slice (some ⟨0, 0, none⟩) (j + 1) (j + 1))), (4, (.int .i64 i))]), ⟨1, 1, [(0, 0, .ints .u64 q 30 true)]⟩⟩
noncomputable def rS24 (tx : ByteArray) (j : Nat) (i : Int) (q : List Int) : KSt := ⟨(frameL 40 [(0, (.string tx)), (3, (.slice (some ⟨0, 0, none⟩) (j + 1) (j + 1))), (4, (.int .i64 (IntKind.wrap .i64 (i + 8))))]), ⟨1, 1, [(0, 0, .ints .u64 q 30 true)]⟩⟩
theorem rR17 (tx : ByteArray) (j : Nat) (i : Int) (q : List Int) : rEV byteRV byteV manyV withRV (codeAt [1, 1, 0, 1, 0, 0, 1, 1] Br) (rS23 tx j i q) [0, 3, 4] =
  some (.normal, (rS24 tx j i q)) := by kernel_rfl
noncomputable def rS25 (tx : ByteArray) (j : Nat) (i : Int) (q : List Int) : KSt := ⟨(frameL 40 [(0, (.string tx)), (3, (.slice (some ⟨0, 0, none⟩) (j + 1) (j + 1))), (4, (.int .i64 (i + 8)))]), ⟨1, 1, [(0, 0, .ints .u64 q 30 true)]⟩⟩
end
theorem rpre {tx : ByteArray}   {Q : Ex → St → Prop} (hq : Gets Try.prog (KH.low ⟨0, 1, []⟩) (codeAt [1, 1, 0, 1] Br) (KSt.low (rS3 tx)) (onN (fun s => Gets Try.prog (KH.low ⟨0, 1, []⟩) (codeAt [1, 1, 1] Br) s (Q)) (Q))) : Gets Try.prog (KH.low ⟨0, 1, []⟩) Br (KSt.low (rS0 tx)) Q := by
  rw [rC]; refine Gets.seq ?_
  refine rgo (rR1 byteRV byteV manyV withRV tx) ?_
  rw [rC1]; refine Gets.seq ?_
  refine rgo (rR2 byteRV byteV manyV withRV tx) ?_
  rw [rC1_1]; refine Gets.seq ?_
  rw [rC1_1_0]; refine Gets.seq ?_
  refine rgo (rR3 byteRV byteV manyV withRV tx) ?_
  exact hq
theorem rx {tx : ByteArray} {n : Nat} {i : Int} {j : Nat} {q : List Int} (hs : tx.size = n) (hs2 : n ≤ 2000) (hi : (n : Int) ≤ i)   {Q : Ex → St → Prop} (hq : Q (.exit 0) (KSt.low (rS5 tx j i q))) : Gets Try.prog (KH.low ⟨0, 1, []⟩) (codeAt [1, 1, 0, 1, 0, 0] Br) (KSt.low (rS4 tx j i q)) Q := by
  rw [rC1_1_0_1_0_0]; refine Gets.seq ?_
  rw [rC1_1_0_1_0_0_0]; refine Gets.seq ?_
  refine rgo (rR4 byteRV byteV manyV withRV tx j i q) ?_
  rw [rC1_1_0_1_0_0_0_1]; refine Gets.cond false (by kernel_rfl) (reX (b := (decide (i < (((ByteArray.size tx) : Nat) : Int)))) (by kernel_rfl) ((show (decide (i < (((ByteArray.size tx) : Nat) : Int))) = false from decide_eq_false (by omega)))) ?_; show Gets _ _ (codeAt [1, 1, 0, 1, 0, 0, 0, 1, 1] Br) _ _
  rw [rC1_1_0_1_0_0_0_1_1]; refine Gets.ev fitB.mix fitB.cfg (fitB.sound pka_sound 14 0) 14 rfl (s' := KSt.low (rS5 tx j i q)) (x := (.exit 0)) rfl ?_
  exact hq
theorem rfi {j : Nat} {q : List Int} {tx : ByteArray} {i : Int}   {Q : Ex → St → Prop} (hq : Q .ret (KSt.low (rS6 j q))) : Gets Try.prog (KH.low ⟨0, 1, []⟩) (codeAt [1, 1, 1] Br) (KSt.low (rS5 tx j i q)) Q := by
  rw [rC1_1_1]; refine Gets.seq ?_
  refine rgo (rR5 byteRV byteV manyV withRV tx j i q) ?_
  rw [rC1_1_1_1]; refine Gets.ev fitB.mix fitB.cfg (fitB.sound pka_sound 14 0) 14 rfl (s' := KSt.low (rS6 j q)) (x := .ret) rfl ?_
  exact hq
theorem ren {tx : ByteArray} {n : Nat} {i : Int} {j : Nat} {q : List Int} (hs : tx.size = n) (hs2 : n ≤ 2000) (hi : 0 ≤ i) (hin : i < (n : Int))   {Q : Ex → St → Prop} (hq : Gets Try.prog (KH.low ⟨0, 1, []⟩) (codeAt [1, 1, 0, 1, 0, 0, 1, 0, 0, 1, 0, 1] Br) (KSt.low (rS8 tx j i q)) (onN (fun s => Gets Try.prog (KH.low ⟨0, 1, []⟩) (codeAt [1, 1, 0, 1, 0, 0, 1, 0, 0, 1, 1] Br) s (onB 1 (onN (fun s => Gets Try.prog (KH.low ⟨0, 1, []⟩) (codeAt [1, 1, 0, 1, 0, 0, 1, 1] Br) s (Q)) (Q)))) (onB 1 (onN (fun s => Gets Try.prog (KH.low ⟨0, 1, []⟩) (codeAt [1, 1, 0, 1, 0, 0, 1, 1] Br) s (Q)) (Q))))) : Gets Try.prog (KH.low ⟨0, 1, []⟩) (codeAt [1, 1, 0, 1, 0, 0] Br) (KSt.low (rS4 tx j i q)) Q := by
  rw [rC1_1_0_1_0_0]; refine Gets.seq ?_
  rw [rC1_1_0_1_0_0_0]; refine Gets.seq ?_
  refine rgo (rR4 byteRV byteV manyV withRV tx j i q) ?_
  rw [rC1_1_0_1_0_0_0_1]; refine Gets.cond true (by kernel_rfl) (reX (b := (decide (i < (((ByteArray.size tx) : Nat) : Int)))) (by kernel_rfl) ((show (decide (i < (((ByteArray.size tx) : Nat) : Int))) = true from decide_eq_true (by omega)))) ?_; show Gets _ _ (codeAt [1, 1, 0, 1, 0, 0, 0, 1, 0] Br) _ _
  refine rgo (rR6 byteRV byteV manyV withRV tx j i q) ?_
  rw [rC1_1_0_1_0_0_1]; refine Gets.seq ?_
  rw [rC1_1_0_1_0_0_1_0]; refine Gets.block ?_
  rw [rC1_1_0_1_0_0_1_0_0]; refine Gets.seq ?_
  refine rgo (rR7 byteRV byteV manyV withRV tx j i q) ?_
  rw [rC1_1_0_1_0_0_1_0_0_1]; refine Gets.seq ?_
  rw [rC1_1_0_1_0_0_1_0_0_1_0]; refine Gets.seq ?_
  refine rgo (rR8 byteRV byteV manyV withRV tx j i q) ?_
  exact hq
theorem rk8 {k : Int} {tx : ByteArray} {j : Nat} {i : Int} {w : Int} {q : List Int} (hk : k = 8)   {Q : Ex → St → Prop} (hq : Q (.exit 2) (KSt.low (rS11 tx j i w k q))) : Gets Try.prog (KH.low ⟨0, 1, []⟩) (codeAt [1, 1, 0, 1, 0, 0, 1, 0, 0, 1, 0, 1, 0, 0] Br) (KSt.low (rS9 tx j i w k q)) Q := by
  rw [rC1_1_0_1_0_0_1_0_0_1_0_1_0_0]; refine Gets.seq ?_
  rw [rC1_1_0_1_0_0_1_0_0_1_0_1_0_0_0]; refine Gets.seq ?_
  refine rgo (x := .normal) (s' := (rS11 tx j i w k q)) ((rR9 byteRV byteV manyV withRV tx j i w k q).trans (by rw [condF (decide_eq_false (by omega))])) ?_
  rw [rC1_1_0_1_0_0_1_0_0_1_0_1_0_0_0_1]; refine Gets.cond false (by kernel_rfl) (by kernel_rfl) ?_; show Gets _ _ (codeAt [1, 1, 0, 1, 0, 0, 1, 0, 0, 1, 0, 1, 0, 0, 0, 1, 1] Br) _ _
  rw [rC1_1_0_1_0_0_1_0_0_1_0_1_0_0_0_1_1]; refine Gets.ev fitB.mix fitB.cfg (fitB.sound pka_sound 14 0) 14 rfl (s' := KSt.low (rS11 tx j i w k q)) (x := (.exit 2)) rfl ?_
  exact hq
theorem rke {tx : ByteArray} {n : Nat} {i : Int} {k : Int} {j : Nat} {w : Int} {q : List Int} (hs : tx.size = n) (hs2 : n ≤ 2000) (hi : 0 ≤ i) (hk : 0 ≤ k) (hk8 : k < 8) (hik : i + k = (n : Int))   {Q : Ex → St → Prop} (hq : Q (.exit 2) (KSt.low (rS12 tx j i w k q))) : Gets Try.prog (KH.low ⟨0, 1, []⟩) (codeAt [1, 1, 0, 1, 0, 0, 1, 0, 0, 1, 0, 1, 0, 0] Br) (KSt.low (rS9 tx j i w k q)) Q := by
  rw [rC1_1_0_1_0_0_1_0_0_1_0_1_0_0]; refine Gets.seq ?_
  rw [rC1_1_0_1_0_0_1_0_0_1_0_1_0_0_0]; refine Gets.seq ?_
  refine rgo (x := .normal) (s' := (rS12 tx j i w k q)) ((rR9 byteRV byteV manyV withRV tx j i w k q).trans (by rw [condT (decide_eq_true (by omega))] <;> (show some (Ex.normal, (rS10 tx j i w k q)) = some (Ex.normal, (rS12 tx j i w k q)); unfold rS10 rS12; rw [(show (IntKind.wrap .i64 (i + k)) = (i + k) from wrap_i64_id (by omega) (by omega))]))) ?_
  rw [rC1_1_0_1_0_0_1_0_0_1_0_1_0_0_0_1]; refine Gets.cond false (by kernel_rfl) (reX (b := (decide ((i + k) < (((ByteArray.size tx) : Nat) : Int)))) (by kernel_rfl) ((show (decide ((i + k) < (((ByteArray.size tx) : Nat) : Int))) = false from decide_eq_false (by omega)))) ?_; show Gets _ _ (codeAt [1, 1, 0, 1, 0, 0, 1, 0, 0, 1, 0, 1, 0, 0, 0, 1, 1] Br) _ _
  rw [rC1_1_0_1_0_0_1_0_0_1_0_1_0_0_0_1_1]; refine Gets.ev fitB.mix fitB.cfg (fitB.sound pka_sound 14 0) 14 rfl (s' := KSt.low (rS12 tx j i w k q)) (x := (.exit 2)) rfl ?_
  exact hq
theorem rkc {tx : ByteArray} {n : Nat} {i : Int} {k : Int} {j : Nat} {w : Int} {q : List Int} (hs : tx.size = n) (hs2 : n ≤ 2000) (hi : 0 ≤ i) (hk : 0 ≤ k) (hk8 : k < 8) (hik : i + k < (n : Int))   {Q : Ex → St → Prop} (hq : Q .normal (KSt.low (rS17 withRV tx j i w k q))) : Gets Try.prog (KH.low ⟨0, 1, []⟩) (codeAt [1, 1, 0, 1, 0, 0, 1, 0, 0, 1, 0, 1, 0, 0] Br) (KSt.low (rS9 tx j i w k q)) Q := by
  rw [rC1_1_0_1_0_0_1_0_0_1_0_1_0_0]; refine Gets.seq ?_
  rw [rC1_1_0_1_0_0_1_0_0_1_0_1_0_0_0]; refine Gets.seq ?_
  refine rgo (x := .normal) (s' := (rS12 tx j i w k q)) ((rR9 byteRV byteV manyV withRV tx j i w k q).trans (by rw [condT (decide_eq_true (by omega))] <;> (show some (Ex.normal, (rS10 tx j i w k q)) = some (Ex.normal, (rS12 tx j i w k q)); unfold rS10 rS12; rw [(show (IntKind.wrap .i64 (i + k)) = (i + k) from wrap_i64_id (by omega) (by omega))]))) ?_
  rw [rC1_1_0_1_0_0_1_0_0_1_0_1_0_0_0_1]; refine Gets.cond true (by kernel_rfl) (reX (b := (decide ((i + k) < (((ByteArray.size tx) : Nat) : Int)))) (by kernel_rfl) ((show (decide ((i + k) < (((ByteArray.size tx) : Nat) : Int))) = true from decide_eq_true (by omega)))) ?_; show Gets _ _ (codeAt [1, 1, 0, 1, 0, 0, 1, 0, 0, 1, 0, 1, 0, 0, 0, 1, 0] Br) _ _
  refine rgo (rR10 byteRV byteV manyV withRV tx j i w k q) ?_
  rw [rC1_1_0_1_0_0_1_0_0_1_0_1_0_0_1]; refine Gets.seq ?_
  rw [rC1_1_0_1_0_0_1_0_0_1_0_1_0_0_1_0]; refine Gets.block ?_
  refine rgo (x := .normal) (s' := (rS14 withRV tx j i w k q)) ((rR11 byteRV byteV manyV withRV tx j i w k q).trans (by rw [if_pos (by (first | omega | ((try simp (disch := omega) only [wrap_i64_id]) <;> omega))), obind_atU (k := Int.toNat (IntKind.wrap .i64 (i + k))) (by (first | omega | ((try simp (disch := omega) only [wrap_i64_id]) <;> omega))) (by (simp; (first | omega | ((try simp (disch := omega) only [wrap_i64_id]) <;> omega))))] <;> (show some (Ex.normal, (rS15 withRV tx j i w k q)) = some (Ex.normal, (rS14 withRV tx j i w k q)); unfold rS15 rS14; rw [(show (IntKind.wrap .i64 (i + k)) = (i + k) from wrap_i64_id (by omega) (by omega))]))) ?_
  refine rgo (x := .normal) (s' := (rS17 withRV tx j i w k q)) ((rR12 byteRV byteV manyV withRV tx j i w k q).trans (by (show some (Ex.normal, (rS16 withRV tx j i w k q)) = some (Ex.normal, (rS17 withRV tx j i w k q)); unfold rS16 rS17; rw [(show (IntKind.wrap .i64 (k + 1)) = (k + 1) from wrap_i64_id (by omega) (by omega))]))) ?_
  exact hq
theorem rap8 {q : List Int} {j : Nat} {i : Int} {tx : ByteArray} {w : Int} {k : Int} (hq : q.length = j) (hj1 : 1 ≤ j) (hj : j ≤ 1000) (hi : 0 ≤ i) (hi2 : i ≤ 2000)   {Q : Ex → St → Prop} (hq : Q .normal (KSt.low (rS20 tx j i q w))) : Gets Try.prog (KH.low ⟨0, 1, []⟩) (codeAt [1, 1, 0, 1, 0, 0, 1, 0, 0, 1, 1] Br) (KSt.low (rS11 tx j i w k q)) Q := by
  refine rgo (x := .normal) (s' := (rS20 tx j i q w)) ((rR13 byteRV byteV manyV withRV tx j i w k q).trans (by rw [condT (ble_t (by omega)), condF (ble_f (by omega)), condF (and_f1 (nbeq_f (by omega))), condT (and_t (ble_t (by (first | omega | ((try simp (disch := omega) only [wrap_i64_id]) <;> omega)))) (ble_t (by omega)))])) ?_
  exact hq
theorem rap08 {i : Int} {tx : ByteArray} {w : Int} {k : Int} (hi : 0 ≤ i) (hi2 : i ≤ 2000)   {Q : Ex → St → Prop} (hq : Q .normal (KSt.low (rS19 tx i w))) : Gets Try.prog (KH.low ⟨0, 1, []⟩) (codeAt [1, 1, 0, 1, 0, 0, 1, 0, 0, 1, 1] Br) (KSt.low (rS21 tx i w k)) Q := by
  refine rgo (rR14 byteRV byteV manyV withRV tx i w k) ?_
  exact hq
theorem rape {q : List Int} {j : Nat} {i : Int} {tx : ByteArray} {w : Int} {k : Int} (hq : q.length = j) (hj1 : 1 ≤ j) (hj : j ≤ 1000) (hi : 0 ≤ i) (hi2 : i ≤ 2000)   {Q : Ex → St → Prop} (hq : Q .normal (KSt.low (rS20 tx j i q w))) : Gets Try.prog (KH.low ⟨0, 1, []⟩) (codeAt [1, 1, 0, 1, 0, 0, 1, 0, 0, 1, 1] Br) (KSt.low (rS12 tx j i w k q)) Q := by
  refine rgo (x := .normal) (s' := (rS20 tx j i q w)) ((rR15 byteRV byteV manyV withRV tx j i w k q).trans (by rw [condT (ble_t (by omega)), condF (ble_f (by omega)), condF (and_f1 (nbeq_f (by omega))), condT (and_t (ble_t (by (first | omega | ((try simp (disch := omega) only [wrap_i64_id]) <;> omega)))) (ble_t (by omega)))])) ?_
  exact hq
theorem rap0e {i : Int} {tx : ByteArray} {w : Int} {k : Int} (hi : 0 ≤ i) (hi2 : i ≤ 2000)   {Q : Ex → St → Prop} (hq : Q .normal (KSt.low (rS19 tx i w))) : Gets Try.prog (KH.low ⟨0, 1, []⟩) (codeAt [1, 1, 0, 1, 0, 0, 1, 0, 0, 1, 1] Br) (KSt.low (rS22 tx i w k)) Q := by
  refine rgo (rR16 byteRV byteV manyV withRV tx i w k) ?_
  exact hq
theorem ri8 {i : Int} {tx : ByteArray} {j : Nat} {q : List Int} (hi : 0 ≤ i) (hi2 : i ≤ 2000)   {Q : Ex → St → Prop} (hq : Q .normal (KSt.low (rS25 tx j i q))) : Gets Try.prog (KH.low ⟨0, 1, []⟩) (codeAt [1, 1, 0, 1, 0, 0, 1, 1] Br) (KSt.low (rS23 tx j i q)) Q := by
  refine rgo (x := .normal) (s' := (rS25 tx j i q)) ((rR17 byteRV byteV manyV withRV tx j i q).trans (by (show some (Ex.normal, (rS24 tx j i q)) = some (Ex.normal, (rS25 tx j i q)); unfold rS24 rS25; rw [(show (IntKind.wrap .i64 (i + 8)) = (i + 8) from wrap_i64_id (by omega) (by omega))]))) ?_
  exact hq
inductive WInv (tx : ByteArray) (m : Nat) (A : List Int) : Nat → KSt → Prop
  | go (j p r : Nat) (q : List Int) (hp : p = 8 * j) (hr : r + p = 8 * m) (h8 : m = 0 ∨ 8 ≤ r) (hq : q.length = m) (hL : q.take j = (List.range j).map fun j => wordA A (8 * j)) : WInv tx m A (m - j) (WS9 p r j m q A)
  | en (j : Nat) (q : List Int) (hj : j + 1 = m) (hL : q = (List.range m).map fun j => wordA A (8 * j)) : WInv tx m A 0 (WS22 j m q)
theorem loopW (tx : ByteArray) (m : Nat) (A : List Int) (hA : A.length = 8 * m) (hm2 : m ≤ 1000) (hW : wordsA tx = (List.range m).map fun j => wordA A (8 * j)) (z : Nat) (t : KSt) (hI : WInv tx m A z t) :
    Gets Try.prog (KH.low ⟨0, 1, []⟩) (codeAt [1, 1, 1, 1, 0] BW) t.low (onN (fun s => Gets Try.prog (KH.low ⟨0, 1, []⟩) (codeAt [1, 1, 1, 1, 1] BW) s ((EndsR Try.prog Try.f15 (.slice (some ⟨0, 0, none⟩) (List.length (wordsA tx)) (List.length (wordsA tx))) [] [] [.ints .u64 (wordsA tx) 30 true]))) ((EndsR Try.prog Try.f15 (.slice (some ⟨0, 0, none⟩) (List.length (wordsA tx)) (List.length (wordsA tx))) [] [] [.ints .u64 (wordsA tx) 30 true]))) := by
  rw [WC1_1_1_1_0, WC1_1_1_1_0_0]
  refine Gets.loopG (fun z t => WInv tx m A z t) ?_ _ _ hI
  clear hI z t
  intro z t hI
  cases hI with
  | en j q hj hL =>
    refine Wx ?_
    refine ⟨fun _ => ?_, fun h => by cases h⟩
    subst hj
    have hq : wordsA tx = q := by rw [hW, ← hL]
    have hl : q.length = j + 1 := by rw [hL]; simp
    refine Wfi (EndsR.ret (l := [.slice (some ⟨0, 0, none⟩) (j + 1) (j + 1)]) (by kernel_rfl) (by rw [hq, hl]; rfl) (Fits.n1 rfl (by kernel_rfl) (by rw [hq]; kernel_rfl) (show (1 : Nat) ≤ 0 + 1 by decide)))
  | go j p r q hp hr h8 hq hL =>
    by_cases h0 : r = 0
    · obtain rfl : m = 0 := by omega
      refine Wx0 h0 ?_
      refine ⟨fun _ => ?_, fun h => by cases h⟩
      have hq' : wordsA tx = q := by rw [hW, List.eq_nil_of_length_eq_zero hq]; rfl
      obtain rfl : j = 0 := by omega
      refine Wfi0 (EndsR.ret (l := [.slice (some ⟨0, 0, none⟩) 0 0]) (by kernel_rfl) (by rw [hq', hq]; rfl) (Fits.n1 rfl (by kernel_rfl) (by rw [hq']; kernel_rfl) (show (1 : Nat) ≤ 0 + 1 by decide)))
    by_cases h : r = 8
    · refine Wl1 hA hq hp hr hm2 h ?_
      refine ⟨_, _, by omega, rfl, .en j _ (by omega) ?_⟩
      refine (take_all hq (by omega)).trans ?_
      rw [hL, show m = j + 1 by omega, range_step, hp]
      rfl
    · refine Wl2 hA hq hp hr hm2 (by omega) ?_
      refine ⟨_, _, by omega, rfl, .go (j + 1) (p + 8) (r - 8) _ (by omega) (by omega) (by omega) (by simp; omega) ?_⟩
      refine (take_put (by omega)).trans ?_
      rw [hL, range_step, hp]
      rfl
theorem many_size (tx : ByteArray) : manyV ((tx.size : Nat) : Int) = ((manyN tx : Nat) : Int) := by unfold manyV manyN; split <;> omega
theorem words_does (tx : ByteArray) (hs2 : tx.size ≤ 2000) : DoesC Try.prog 15 [(.string tx)] (mkH []).low (.slice (some ⟨0, 0, none⟩) (List.length (wordsA tx)) (List.length (wordsA tx))) (effK (mkH []) [] [.ints .u64 (wordsA tx) 30 true]).low := by
  refine EndsR.does Try.func15 BW_is (by rw [noVars]; exact Nat.zero_le _) ?_
  show Gets Try.prog (KH.low ⟨0, 1, []⟩) BW (KSt.low (WS0 tx)) _
  have hM := many_size tx
  have hm1 : tx.size ≤ 8 * manyN tx := by unfold manyN; omega
  have hm2 : 8 * manyN tx < tx.size + 8 := by unfold manyN; omega
  have hR : (IntKind.wrap .i64 (8 * (manyV (((ByteArray.size tx) : Nat) : Int)))) = 8 * ((manyN tx : Nat) : Int) := by rw [hM]; exact wrap_i64_id (by omega) (by omega)
  have hQ : (IntKind.wrap .i64 (Int.tdiv (((8 * manyN tx) : Nat) : Int) 8)) = ((manyN tx : Nat) : Int) := by
    rw [Int.tdiv_eq_ediv_of_nonneg (by omega), wrap_i64_id (by omega) (by omega)]; omega
  refine Wp1 rfl hs2 hR hm1 hm2 ?_
  show Gets _ _ (codeAt [1, 1] BW) _ _
  by_cases h0 : tx.size = 0
  · have h00 : manyN tx = 0 := by unfold manyN; omega
    refine Wp20 (A := padA tx (manyN tx)) rfl h0 (by rw [h00]; unfold padA; rfl) ?_
    show Gets _ _ (codeAt [1, 1, 1] BW) _ _
    refine Wp3 (by omega) hQ ?_
    exact loopW tx (manyN tx) (padA tx (manyN tx)) (padA_len _ _ hm1) (by omega) rfl (manyN tx - 0) (WS9 (0) (8 * manyN tx) (0) (manyN tx) (List.replicate (manyN tx) 0) (padA tx (manyN tx))) (.go 0 0 (8 * manyN tx) (List.replicate (manyN tx) 0) (by omega) (by omega) (by omega) (by simp) (by rfl))
  · refine Wp2 rfl (by omega) hm1 rfl ?_
    show Gets _ _ (codeAt [1, 1, 1] BW) _ _
    refine Wp3 (by omega) hQ ?_
    exact loopW tx (manyN tx) (padA tx (manyN tx)) (padA_len _ _ hm1) (by omega) rfl (manyN tx - 0) (WS9 (0) (8 * manyN tx) (0) (manyN tx) (List.replicate (manyN tx) 0) (padA tx (manyN tx))) (.go 0 0 (8 * manyN tx) (List.replicate (manyN tx) 0) (by omega) (by omega) (by omega) (by simp) (by rfl))
inductive RInv (tx : ByteArray) : Nat → KSt → Prop
  | at_ (i : Int) (j : Nat) (q : List Int) (hij : i = 8 * (j : Int)) (hj : 8 * j < tx.size + 8) (hq : q.length = j) (hL : q = (List.range j).map fun j => wordR tx (8 * j)) : RInv tx (2008 - i).toNat (rS4 tx j i q)
inductive KInv (tx : ByteArray) (i : Int) (j : Nat) (q : List Int) : Nat → KSt → Prop
  | at_ (k w : Int) (hk : 0 ≤ k) (hk8 : k ≤ 8) (hik : i + k ≤ (tx.size : Int)) (hw : w = partR tx (8 * j) (Int.toNat k)) : KInv tx i j q (8 - k).toNat (rS9 tx j i w k q)
theorem loopR (tx : ByteArray) (hs2 : tx.size ≤ 2000) (z : Nat) (t : KSt) (hI : RInv tx z t) :
    Gets Try.prog (KH.low ⟨0, 1, []⟩) (codeAt [1, 1, 0, 1] Br) t.low (onN (fun s => Gets Try.prog (KH.low ⟨0, 1, []⟩) (codeAt [1, 1, 1] Br) s ((EndsR Try.prog Try.f16 (.slice (some ⟨0, 0, none⟩) (List.length (wordsR tx)) (List.length (wordsR tx))) [] [] [.ints .u64 (wordsR tx) 30 true]))) ((EndsR Try.prog Try.f16 (.slice (some ⟨0, 0, none⟩) (List.length (wordsR tx)) (List.length (wordsR tx))) [] [] [.ints .u64 (wordsR tx) 30 true]))) := by
  rw [rC1_1_0_1, rC1_1_0_1_0]
  refine Gets.loopG (fun z t => RInv tx z t) ?_ _ _ hI
  clear hI z t
  intro z t hI
  cases hI with
  | at_ i j q hij hj hq hL =>
    have hi : 0 ≤ i := by omega
    by_cases hx : (tx.size : Int) ≤ i
    · refine rx rfl hs2 hx ?_
      refine ⟨fun _ => ?_, fun h => by cases h⟩
      have hm : manyN tx = j := by unfold manyN; omega
      have hW : wordsR tx = q := by unfold wordsR; rw [hm, hL]
      exact rfi (EndsR.ret (l := [.slice (some ⟨0, 0, none⟩) j j]) (by kernel_rfl) (by rw [hW, hq]; rfl) (Fits.n1 rfl (by kernel_rfl) (by rw [hW]; kernel_rfl) (show (1 : Nat) ≤ 0 + 1 by decide)))
    refine ren rfl hs2 hi (by omega) ?_
    rw [rC1_1_0_1_0_0_1_0_0_1_0_1, rC1_1_0_1_0_0_1_0_0_1_0_1_0]
    refine Gets.loopG (fun z t => KInv tx i j q z t) ?_ _ _ (KInv.at_ 0 0 (by omega) (by omega) (by omega) rfl)
    intro z t hK
    cases hK with
    | at_ k w hk hk8 hik hw =>
      by_cases h8 : k = 8
      · refine rk8 h8 ?_
        refine ⟨fun _ => ?_, fun h => by cases h⟩
        have hwr : wordR tx (8 * j) = w := by
          unfold wordR; rw [hw, h8, show min 8 (tx.size - 8 * j) = Int.toNat 8 by omega]
        show Gets _ _ (codeAt [1, 1, 0, 1, 0, 0, 1, 0, 0, 1, 1] Br) _ _
        by_cases hj0 : j = 0
        · subst hj0
          obtain rfl : q = [] := List.eq_nil_of_length_eq_zero hq
          refine rap08 hi (by omega) ?_
          show Gets _ _ (codeAt [1, 1, 0, 1, 0, 0, 1, 1] Br) (KSt.low (rS23 tx (0) i ([w]))) _
          refine ri8 hi (by omega) ?_
          exact ⟨_, _, by omega, rfl, .at_ (i + 8) 1 [w] (by omega) (by omega) rfl (hwr ▸ rfl)⟩
        · refine rap8 hq (by omega) (by omega) hi (by omega) ?_
          show Gets _ _ (codeAt [1, 1, 0, 1, 0, 0, 1, 1] Br) (KSt.low (rS23 tx j i (List.take j q ++ [w]))) _
          refine ri8 hi (by omega) ?_
          exact ⟨_, _, by omega, rfl, .at_ (i + 8) (j + 1) _ (by omega) (by omega) (by simp; omega) (by rw [range_step, ← hL, hwr, List.take_of_length_le (by omega)])⟩
      by_cases he : i + k = (tx.size : Int)
      · refine rke rfl hs2 hi hk (by omega) he ?_
        refine ⟨fun _ => ?_, fun h => by cases h⟩
        have hwr : wordR tx (8 * j) = w := by
          unfold wordR; rw [hw, show min 8 (tx.size - 8 * j) = Int.toNat k by omega]
        show Gets _ _ (codeAt [1, 1, 0, 1, 0, 0, 1, 0, 0, 1, 1] Br) _ _
        by_cases hj0 : j = 0
        · subst hj0
          obtain rfl : q = [] := List.eq_nil_of_length_eq_zero hq
          refine rap0e hi (by omega) ?_
          show Gets _ _ (codeAt [1, 1, 0, 1, 0, 0, 1, 1] Br) (KSt.low (rS23 tx (0) i ([w]))) _
          refine ri8 hi (by omega) ?_
          exact ⟨_, _, by omega, rfl, .at_ (i + 8) 1 [w] (by omega) (by omega) rfl (hwr ▸ rfl)⟩
        · refine rape hq (by omega) (by omega) hi (by omega) ?_
          show Gets _ _ (codeAt [1, 1, 0, 1, 0, 0, 1, 1] Br) (KSt.low (rS23 tx j i (List.take j q ++ [w]))) _
          refine ri8 hi (by omega) ?_
          exact ⟨_, _, by omega, rfl, .at_ (i + 8) (j + 1) _ (by omega) (by omega) (by simp; omega) (by rw [range_step, ← hL, hwr, List.take_of_length_le (by omega)])⟩
      · refine rkc rfl hs2 hi hk (by omega) (by omega) ?_
        refine ⟨_, _, by omega, rfl, .at_ (k + 1) _ (by omega) (by omega) (by omega) ?_⟩
        rw [partR_step hk, ← hw, show 8 * j + Int.toNat k = Int.toNat (i + k) by omega]
theorem wordsR_does (tx : ByteArray) (hs2 : tx.size ≤ 2000) : DoesC Try.prog 16 [(.string tx)] (mkH []).low (.slice (some ⟨0, 0, none⟩) (List.length (wordsR tx)) (List.length (wordsR tx))) (effK (mkH []) [] [.ints .u64 (wordsR tx) 30 true]).low := by
  refine EndsR.does Try.func16 Br_is (by rw [noVars]; exact Nat.zero_le _) ?_
  show Gets Try.prog (KH.low ⟨0, 1, []⟩) Br (KSt.low (rS0 tx)) _
  refine rpre ?_
  exact loopR tx hs2 (2008 - 0 : Int).toNat (rS4 tx (0) (0) ([])) (RInv.at_ 0 0 [] rfl (by omega) rfl rfl)
noncomputable def rc_pack_Words (wordsA : ByteArray → List Int) : RC := ⟨[.str], fun avs => match avs with | [.str tx] => (Nat.ble (ByteArray.size tx) 2000) | _ => false,
  fun N avs => match avs with | [.str tx] => ((.slice (some ⟨N, 0, none⟩) (List.length (wordsA tx)) (List.length (wordsA tx))), [], [.ints .u64 (wordsA tx) 30 true]) | _ => (.bool false, [], [])⟩
theorem rc_pack_Words_does : RcDoes Try.prog [] 15 (rc_pack_Words wordsA) := by
  intro vb avs args blks hv hs hp
  cases hv
  cases hs with
  | str tx hs =>
    cases hs
    exact words_does tx (Nat.le_of_ble_eq_true hp)
noncomputable def rc_r04_Words (wordsR : ByteArray → List Int) : RC := ⟨[.str], fun avs => match avs with | [.str tx] => (Nat.ble (ByteArray.size tx) 2000) | _ => false,
  fun N avs => match avs with | [.str tx] => ((.slice (some ⟨N, 0, none⟩) (List.length (wordsR tx)) (List.length (wordsR tx))), [], [.ints .u64 (wordsR tx) 30 true]) | _ => (.bool false, [], [])⟩
theorem rc_r04_Words_does : RcDoes Try.prog [] 16 (rc_r04_Words wordsR) := by
  intro vb avs args blks hv hs hp
  cases hv
  cases hs with
  | str tx hs =>
    cases hs
    exact wordsR_does tx (Nat.le_of_ble_eq_true hp)

end Go.Proofs.Ytnhdjmpbmecnoaa
