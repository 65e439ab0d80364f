/- A box's head, its lengths, the bytes of its cells. -/
import Derived.Test.YtnhdjmpbmecnoaaPkPl
import Derived.WalkKit
import Derived.ProofKit
import Derived.OpenShut
import Derived.ChangeOld
import Derived.Below
import Derived.SizedLaws
namespace Go.Proofs.Ytnhdjmpbmecnoaa
open Go.Eng
open Go.ChangeShapes Go.WideShapes Go.ChangeAt Go.RowKit
set_option linter.unusedVariables false
set_option linter.unusedSimpArgs false
set_option maxRecDepth 100000
noncomputable def cfgX : Cfg := ⟨[]⟩
noncomputable def fsX : List FuncId := [11, 12, 13, 14, 15, 16, 17, 18, 30, 31, 32, 33, 34, 35, 48, 49, 50, 54, 55, 56, 57]
theorem fitX : Fit Try.prog cfgX fsX := ⟨by kernel_rfl, Cfg.ok_of (by kernel_rfl), by kernel_rfl⟩
def stayL {α : Type} (l : List Int) (x : α) : α := match l with
  | [] => x
  | _ :: _ => x
theorem stayL_eq {α : Type} (l : List Int) (x : α) : stayL l x = x := by cases l <;> rfl
def stayS {α : Type} (s : ByteArray) (x : α) : α := match s with
  | ⟨_⟩ => x
theorem stayS_eq {α : Type} (s : ByteArray) (x : α) : stayS s x = x := by cases s; rfl
/-- The head of a box. -/
def headN (ks vs : ByteArray) : Int := stayS ks ((min ks.size 255 + 256 * min vs.size 255 : Nat) : Int)
theorem headN_eq (ks vs : ByteArray) : headN ks vs = ((min ks.size 255 + 256 * min vs.size 255 : Nat) : Int) := stayS_eq _ _
def kLen (w : Int) : Int := if 16 < w % 256 then 16 else w % 256
def vLen (w : Int) : Int := if 24 < w / 256 % 256 then 24 else w / 256 % 256
def sizeN (w : Int) : Int := 1 + manyV (kLen w) + manyV (vLen w)
def isWb (w : Int) : Bool := decide (0 ≤ w) && decide (w < 18446744073709551616)
def isWs (l : List Int) : Bool := l.all isWb
theorem isWb_word {w : Int} (h : isWb w = true) : word64 w := by
  unfold isWb at h
  rw [Bool.and_eq_true, decide_eq_true_eq, decide_eq_true_eq] at h
  exact h
theorem isWb_of {w : Int} (h : word64 w) : isWb w = true := by
  unfold isWb
  rw [Bool.and_eq_true, decide_eq_true_eq, decide_eq_true_eq]
  exact h
theorem isWs_word {l : List Int} (h : isWs l = true) : ∀ n ∈ l, word64 n := fun n hn => isWb_word (List.all_eq_true.1 h n hn)
theorem isWs_of {l : List Int} (h : ∀ n ∈ l, word64 n) : isWs l = true := List.all_eq_true.2 fun n hn => isWb_of (h n hn)
theorem byte01 {w : Int} (h : word64 w) : byteV w 0 = w % 256 ∧ byteV w 1 = w / 256 % 256 := by
  obtain ⟨n, rfl⟩ := Int.eq_ofNat_of_zero_le h.1
  obtain ⟨h0, h1, _⟩ := cast_bytes n
  exact ⟨by rw [h0]; omega, by rw [h1]; omega⟩
theorem kLen_le (w : Int) (h : word64 w) : 0 ≤ kLen w ∧ kLen w ≤ 16 ∧ 0 ≤ vLen w ∧ vLen w ≤ 24 := by unfold kLen vLen; split <;> split <;> omega
theorem many16 {k : Int} (h : 0 ≤ k) (h2 : k ≤ 24) : 0 ≤ manyV k ∧ manyV k ≤ 3 := by unfold manyV; split <;> omega
theorem head_tree (ks vs : ByteArray) : runK Try.prog cfgX fsX (conTk pkcDom (rcK [] (pkcT byteRV byteV manyV textA textR withRV wordsA wordsR))) 5 40 33 [(.string ks), (.string vs)] (bareK Try.prog) valK =
  some (.int .u64 (bits .or .u64 (IntKind.wrap .u64 (if 255 < (((ByteArray.size ks) : Nat) : Int) then 255 else (((ByteArray.size ks) : Nat) : Int))) (IntKind.wrap .u64 ((IntKind.wrap .u64 (if 255 < (((ByteArray.size vs) : Nat) : Int) then 255 else (((ByteArray.size vs) : Nat) : Int))) * (2 ^ 8))))) := by kernel_rfl
theorem headR_tree (ks vs : ByteArray) : runK Try.prog cfgX fsX (conTk pkcDom (rcK [] (pkcT byteRV byteV manyV textA textR withRV wordsA wordsR))) 5 40 30 [(.string ks), (.string vs)] (bareK Try.prog) valK =
  bif (decide ((((ByteArray.size ks) : Nat) : Int) > 255)) then
    bif (decide ((((ByteArray.size vs) : Nat) : Int) > 255)) then
      some (.int .u64 65535)
    else
      some (.int .u64 (IntKind.wrap .u64 (255 + (IntKind.wrap .u64 (256 * (IntKind.wrap .u64 (((ByteArray.size vs) : Nat) : Int)))))))
  else
    bif (decide ((((ByteArray.size vs) : Nat) : Int) > 255)) then
      some (.int .u64 (IntKind.wrap .u64 ((IntKind.wrap .u64 (((ByteArray.size ks) : Nat) : Int)) + 65280)))
    else
      some (.int .u64 (IntKind.wrap .u64 ((IntKind.wrap .u64 (((ByteArray.size ks) : Nat) : Int)) + (IntKind.wrap .u64 (256 * (IntKind.wrap .u64 (((ByteArray.size vs) : Nat) : Int))))))) := by kernel_rfl
theorem lens_tree (w : Int) : runK Try.prog cfgX fsX (conTk pkcDom (rcK [] (pkcT byteRV byteV manyV textA textR withRV wordsA wordsR))) 5 40 31 [(.int .u64 w)] (bareK Try.prog) valK =
  some (.tuple #[(.int .i64 (if 16 < (byteV w 0) then 16 else (byteV w 0))), (.int .i64 (if 24 < (byteV w 1) then 24 else (byteV w 1)))]) := by kernel_rfl
theorem lensR_tree (w : Int) : runK Try.prog cfgX fsX (conTk pkcDom (rcK [] (pkcT byteRV byteV manyV textA textR withRV wordsA wordsR))) 5 40 32 [(.int .u64 w)] (bareK Try.prog) valK =
  bif (decide ((IntKind.wrap .i64 (Int.tmod w 256)) > 16)) then
    bif (decide ((IntKind.wrap .i64 (Int.tmod (IntKind.wrap .u64 (Int.tdiv w 256)) 256)) > 24)) then
      some (.tuple #[(.int .i64 16), (.int .i64 24)])
    else
      some (.tuple #[(.int .i64 16), (.int .i64 (IntKind.wrap .i64 (Int.tmod (IntKind.wrap .u64 (Int.tdiv w 256)) 256)))])
  else
    bif (decide ((IntKind.wrap .i64 (Int.tmod (IntKind.wrap .u64 (Int.tdiv w 256)) 256)) > 24)) then
      some (.tuple #[(.int .i64 (IntKind.wrap .i64 (Int.tmod w 256))), (.int .i64 24)])
    else
      some (.tuple #[(.int .i64 (IntKind.wrap .i64 (Int.tmod w 256))), (.int .i64 (IntKind.wrap .i64 (Int.tmod (IntKind.wrap .u64 (Int.tdiv w 256)) 256)))]) := by kernel_rfl
theorem size_tree (w : Int) : runK Try.prog cfgX fsX (conTk pkcDom (rcK [] (pkcT byteRV byteV manyV textA textR withRV wordsA wordsR))) 5 40 34 [(.int .u64 w)] (bareK Try.prog) valK =
  bif (decide ((if 16 < (byteV w 0) then 16 else (byteV w 0)) ≤ 9223372036854775807)) then
    bif (decide ((if 24 < (byteV w 1) then 24 else (byteV w 1)) ≤ 9223372036854775807)) then
      some (.int .i64 (IntKind.wrap .i64 ((IntKind.wrap .i64 (1 + (manyV (if 16 < (byteV w 0) then 16 else (byteV w 0))))) + (manyV (if 24 < (byteV w 1) then 24 else (byteV w 1))))))
    else
      none
  else
    none := by kernel_rfl
theorem sizeR_tree (w : Int) : runK Try.prog cfgX fsX (conTk pkcDom (rcK [] (pkcT byteRV byteV manyV textA textR withRV wordsA wordsR))) 5 40 35 [(.int .u64 w)] (bareK Try.prog) valK =
  bif (decide ((IntKind.wrap .i64 (Int.tmod w 256)) > 16)) then
    bif (decide ((IntKind.wrap .i64 (Int.tmod (IntKind.wrap .u64 (Int.tdiv w 256)) 256)) > 24)) then
      bif (decide (16 ≤ 100000)) then
        bif (decide (24 ≤ 100000)) then
          some (.int .i64 (IntKind.wrap .i64 ((IntKind.wrap .i64 (1 + (manyV 16))) + (manyV 24))))
        else
          none
      else
        none
    else
      bif (decide (16 ≤ 100000)) then
        bif (decide ((IntKind.wrap .i64 (Int.tmod (IntKind.wrap .u64 (Int.tdiv w 256)) 256)) ≤ 100000)) then
          some (.int .i64 (IntKind.wrap .i64 ((IntKind.wrap .i64 (1 + (manyV 16))) + (manyV (IntKind.wrap .i64 (Int.tmod (IntKind.wrap .u64 (Int.tdiv w 256)) 256))))))
        else
          none
      else
        none
  else
    bif (decide ((IntKind.wrap .i64 (Int.tmod (IntKind.wrap .u64 (Int.tdiv w 256)) 256)) > 24)) then
      bif (decide ((IntKind.wrap .i64 (Int.tmod w 256)) ≤ 100000)) then
        bif (decide (24 ≤ 100000)) then
          some (.int .i64 (IntKind.wrap .i64 ((IntKind.wrap .i64 (1 + (manyV (IntKind.wrap .i64 (Int.tmod w 256))))) + (manyV 24))))
        else
          none
      else
        none
    else
      bif (decide ((IntKind.wrap .i64 (Int.tmod w 256)) ≤ 100000)) then
        bif (decide ((IntKind.wrap .i64 (Int.tmod (IntKind.wrap .u64 (Int.tdiv w 256)) 256)) ≤ 100000)) then
          some (.int .i64 (IntKind.wrap .i64 ((IntKind.wrap .i64 (1 + (manyV (IntKind.wrap .i64 (Int.tmod w 256))))) + (manyV (IntKind.wrap .i64 (Int.tmod (IntKind.wrap .u64 (Int.tdiv w 256)) 256))))))
        else
          none
      else
        none := by kernel_rfl
theorem head_told (ks vs : ByteArray) (hk : ks.size ≤ 100000) (hv : vs.size ≤ 100000) : Tells Try.prog 33 [(.string ks), (.string vs)] (bare Try.prog) (.int .u64 (headN ks vs)) := by
  refine Tells.of_tree (h := (bareK Try.prog)) fitX pkc_sound (rc_agree _ _ _) (by kernel_rfl) rfl (show Ro (bare Try.prog) from Ro.bare) (n := 5) (d := 40) ?_
  rw [head_tree]
  have e1 : (if 255 < ((ks.size : Nat) : Int) then 255 else ((ks.size : Nat) : Int)) = ((min ks.size 255 : Nat) : Int) := by split <;> omega
  have e2 : (if 255 < ((vs.size : Nat) : Int) then 255 else ((vs.size : Nat) : Int)) = ((min vs.size 255 : Nat) : Int) := by split <;> omega
  rw [e1, e2, wrap_u64_id (n := ((min ks.size 255 : Nat) : Int)) (by omega) (by omega), or_put (a := min ks.size 255) (b := min vs.size 255) (i := 8) (by omega) (by omega) (by omega)]
  rw [headN_eq]
  congr 3
  omega
theorem headR_told (ks vs : ByteArray) (hk : ks.size ≤ 100000) (hv : vs.size ≤ 100000) : Tells Try.prog 30 [(.string ks), (.string vs)] (bare Try.prog) (.int .u64 (headN ks vs)) := by
  refine Tells.of_tree (h := (bareK Try.prog)) fitX pkc_sound (rc_agree _ _ _) (by kernel_rfl) rfl (show Ro (bare Try.prog) from Ro.bare) (n := 5) (d := 40) ?_
  rw [headR_tree]
  rw [headN_eq]
  by_cases h1 : ((ks.size : Nat) : Int) > 255 <;> by_cases h2 : ((vs.size : Nat) : Int) > 255
  · rw [condT (decide_eq_true h1), condT (decide_eq_true h2), Nat.min_eq_right (by omega), Nat.min_eq_right (by omega)]; rfl
  · rw [condT (decide_eq_true h1), condF (decide_eq_false h2), Nat.min_eq_right (by omega), Nat.min_eq_left (by omega), wrap_u64_id (n := ((vs.size : Nat) : Int)) (by omega) (by omega), wrap_u64_id (n := 256 * ((vs.size : Nat) : Int)) (by omega) (by omega), wrap_u64_id (by omega) (by omega)]
    congr 2
  · rw [condF (decide_eq_false h1), condT (decide_eq_true h2), Nat.min_eq_left (by omega), Nat.min_eq_right (by omega), wrap_u64_id (n := ((ks.size : Nat) : Int)) (by omega) (by omega), wrap_u64_id (by omega) (by omega)]
    congr 2
  · rw [condF (decide_eq_false h1), condF (decide_eq_false h2), Nat.min_eq_left (by omega), Nat.min_eq_left (by omega), wrap_u64_id (n := ((vs.size : Nat) : Int)) (by omega) (by omega), wrap_u64_id (n := ((ks.size : Nat) : Int)) (by omega) (by omega), wrap_u64_id (n := 256 * ((vs.size : Nat) : Int)) (by omega) (by omega), wrap_u64_id (by omega) (by omega)]
    congr 2
theorem lens_told (w : Int) (h : word64 w) : Tells Try.prog 31 [(.int .u64 w)] (bare Try.prog) (.tuple #[.int .i64 (kLen w), .int .i64 (vLen w)]) := by
  refine Tells.of_tree (h := (bareK Try.prog)) fitX pkc_sound (rc_agree _ _ _) (by kernel_rfl) rfl (show Ro (bare Try.prog) from Ro.bare) (n := 5) (d := 40) ?_
  rw [lens_tree, (byte01 h).1, (byte01 h).2]
  rfl
theorem mod01 {w : Int} (h : word64 w) : IntKind.wrap .i64 (Int.tmod w 256) = w % 256 ∧ IntKind.wrap .i64 (Int.tmod (IntKind.wrap .u64 (Int.tdiv w 256)) 256) = w / 256 % 256 := by
  obtain ⟨h1, h2⟩ := h
  rw [Int.tmod_eq_emod_of_nonneg h1, Int.tdiv_eq_ediv_of_nonneg h1, wrap_u64_id (by omega) (by omega), Int.tmod_eq_emod_of_nonneg (by omega), wrap_i64_id (by omega) (by omega), wrap_i64_id (by omega) (by omega)]
  exact ⟨rfl, rfl⟩
theorem lensR_told (w : Int) (h : word64 w) : Tells Try.prog 32 [(.int .u64 w)] (bare Try.prog) (.tuple #[.int .i64 (kLen w), .int .i64 (vLen w)]) := by
  refine Tells.of_tree (h := (bareK Try.prog)) fitX pkc_sound (rc_agree _ _ _) (by kernel_rfl) rfl (show Ro (bare Try.prog) from Ro.bare) (n := 5) (d := 40) ?_
  rw [lensR_tree, (mod01 h).1, (mod01 h).2]
  unfold kLen vLen
  by_cases h1 : w % 256 > 16 <;> by_cases h2 : w / 256 % 256 > 24
  · rw [condT (decide_eq_true h1), condT (decide_eq_true h2), if_pos h1, if_pos h2]
  · rw [condT (decide_eq_true h1), condF (decide_eq_false h2), if_pos h1, if_neg h2]
  · rw [condF (decide_eq_false h1), condT (decide_eq_true h2), if_neg h1, if_pos h2]
  · rw [condF (decide_eq_false h1), condF (decide_eq_false h2), if_neg h1, if_neg h2]
theorem size_told (w : Int) (h : word64 w) : Tells Try.prog 34 [(.int .u64 w)] (bare Try.prog) (.int .i64 (sizeN w)) := by
  refine Tells.of_tree (h := (bareK Try.prog)) fitX pkc_sound (rc_agree _ _ _) (by kernel_rfl) rfl (show Ro (bare Try.prog) from Ro.bare) (n := 5) (d := 40) ?_
  obtain ⟨k1, k2, k3, k4⟩ := kLen_le w h
  have m1 := many16 k1 (by omega); have m2 := many16 k3 (by omega)
  rw [size_tree, (byte01 h).1, (byte01 h).2]
  show (bif decide (kLen w ≤ _) then bif decide (vLen w ≤ _) then some (Value.int .i64 (IntKind.wrap .i64 (IntKind.wrap .i64 (1 + manyV (kLen w)) + manyV (vLen w)))) else none else none) = _
  rw [condT (decide_eq_true (by omega)), condT (decide_eq_true (by omega)), wrap_i64_id (n := 1 + manyV (kLen w)) (by omega) (by omega), wrap_i64_id (by omega) (by omega)]
  rfl
theorem sizeR_told (w : Int) (h : word64 w) : Tells Try.prog 35 [(.int .u64 w)] (bare Try.prog) (.int .i64 (sizeN w)) := by
  refine Tells.of_tree (h := (bareK Try.prog)) fitX pkc_sound (rc_agree _ _ _) (by kernel_rfl) rfl (show Ro (bare Try.prog) from Ro.bare) (n := 5) (d := 40) ?_
  obtain ⟨k1, k2, k3, k4⟩ := kLen_le w h
  have m1 := many16 k1 (by omega); have m2 := many16 k3 (by omega)
  rw [sizeR_tree, (mod01 h).1, (mod01 h).2]
  unfold sizeN
  unfold kLen at m1 k1 k2 ⊢
  unfold vLen at m2 k3 k4 ⊢
  by_cases h1 : w % 256 > 16 <;> by_cases h2 : w / 256 % 256 > 24 <;> simp only [h1, h2, if_true, if_false, gt_iff_lt, decide_true, decide_false, cond_true, cond_false] at m1 m2 k1 k2 k3 k4 ⊢
  · rfl
  · rw [condT (by rfl), condT (decide_eq_true (by omega)), wrap_i64_id (n := 1 + manyV 16) (by omega) (by omega), wrap_i64_id (by omega) (by omega)]
  · rw [condT (decide_eq_true (by omega)), condT (by rfl), wrap_i64_id (n := 1 + manyV (w % 256)) (by omega) (by omega), wrap_i64_id (by omega) (by omega)]
  · rw [condT (decide_eq_true (by omega)), condT (decide_eq_true (by omega)), wrap_i64_id (n := 1 + manyV (w % 256)) (by omega) (by omega), wrap_i64_id (by omega) (by omega)]
/-- So many bytes of words, from a cell on. -/
def byteAt (l : List Int) (a : Int) (i : Nat) : Int := IntKind.wrap .u8 (byteV (l.getD (a.toNat + i / 8) 0) ((i % 8 : Nat) : Int))
def textAt (l : List Int) (a k : Int) : ByteArray := stayL l (bytesOfNums ((List.range k.toNat).map (byteAt l a)))
theorem textAt_eq (l : List Int) (a k : Int) : textAt l a k = bytesOfNums ((List.range k.toNat).map (byteAt l a)) := stayL_eq _ _
theorem set_rep (X : List Int) (m : Nat) (v : Int) : (X ++ List.replicate (m + 1) 0).set X.length v = (X ++ [v]) ++ List.replicate m 0 := by
  rw [List.set_append_right _ _ (Nat.le_refl _), Nat.sub_self, List.replicate_succ, List.set_cons_zero, List.append_assoc]; rfl
noncomputable def Bc : Code := bodyOf Try.prog 54
theorem Bc_is : Try.f54.body = some Bc := by kernel_rfl
theorem Bc_ok : okCode Try.prog.globals.size Bc = true := by kernel_rfl
noncomputable abbrev cEV (byteRV : Int → Int → Int) (byteV : Int → Int → Int) (manyV : Int → Int) (textA : List Int → Int → ByteArray × Bool) (textR : List Int → Int → ByteArray × Bool) (withRV : Int → Int → Int → Int) (wordsA : ByteArray → List Int) (wordsR : ByteArray → List Int) (c : Code) (s : KSt) (lv : List Nat) : Option (Ex × KSt) := evCK Try.prog cfgX (runK Try.prog cfgX fsX (conTk pkcDom (rcK [] (pkcT byteRV byteV manyV textA textR withRV wordsA wordsR))) 14 40) 14 c s (normC 1 lv)
theorem cgo {lv_ : List Nat} {co_ : Code} {st_ s' : KSt} {x : Ex} {Q : Ex → St → Prop} {off : Nat} {l : List Int} {e : TypeId} (hE_ : cEV byteRV byteV manyV textA textR withRV wordsA wordsR co_ st_ lv_ = some (x, s')) (hq_ : Q x s'.low) (hok_ : okCode Try.prog.globals.size co_ = true := by kernel_rfl) : Gets Try.prog (KH.low ⟨1, 1, [(0, 0, .tail off .u64 l e)]⟩) co_ st_.low Q := Gets.ofN fitX pkc_sound (rc_agree _ _ _) 14 40 hok_ hE_ hq_
theorem ceX {v : Value} {b c : Bool} (h : v = .bool b) (hb : b = c) : v = .bool c := by rw [h, hb]
theorem cC : Bc = .seq (codeAt [0] Bc) (codeAt [1] Bc) := by kernel_rfl
theorem cC1 : (codeAt [1] Bc) = .seq (codeAt [1, 0] Bc) (codeAt [1, 1] Bc) := by kernel_rfl
theorem cC1_1 : (codeAt [1, 1] Bc) = .seq (codeAt [1, 1, 0] Bc) (codeAt [1, 1, 1] Bc) := by kernel_rfl
theorem cC1_1_0 : (codeAt [1, 1, 0] Bc) = .seq (codeAt [1, 1, 0, 0] Bc) (codeAt [1, 1, 0, 1] Bc) := by kernel_rfl
theorem cC1_1_0_1_0_0 : (codeAt [1, 1, 0, 1, 0, 0] Bc) = .seq (codeAt [1, 1, 0, 1, 0, 0, 0] Bc) (codeAt [1, 1, 0, 1, 0, 0, 1] Bc) := by kernel_rfl
theorem cC1_1_0_1_0_0_1 : (codeAt [1, 1, 0, 1, 0, 0, 1] Bc) = .seq (codeAt [1, 1, 0, 1, 0, 0, 1, 0] Bc) (codeAt [1, 1, 0, 1, 0, 0, 1, 1] Bc) := by kernel_rfl
theorem cC1_1_0_1_0_0_1_0 : (codeAt [1, 1, 0, 1, 0, 0, 1, 0] Bc) = .cond (.tmp 12) (codeAt [1, 1, 0, 1, 0, 0, 1, 0, 0] Bc) (codeAt [1, 1, 0, 1, 0, 0, 1, 0, 1] Bc) := by kernel_rfl
theorem cC1_1_0_1_0_0_1_0_1 : (codeAt [1, 1, 0, 1, 0, 0, 1, 0, 1] Bc) = .exit 0 := by kernel_rfl
theorem cC1_1_0_1_0_0_1_1 : (codeAt [1, 1, 0, 1, 0, 0, 1, 1] Bc) = .seq (codeAt [1, 1, 0, 1, 0, 0, 1, 1, 0] Bc) (codeAt [1, 1, 0, 1, 0, 0, 1, 1, 1] Bc) := by kernel_rfl
theorem cC1_1_0_1_0_0_1_1_0 : (codeAt [1, 1, 0, 1, 0, 0, 1, 1, 0] Bc) = .block 1 (codeAt [1, 1, 0, 1, 0, 0, 1, 1, 0, 0] Bc) := by kernel_rfl
theorem cC1_1_0_1_0_0_1_1_0_0 : (codeAt [1, 1, 0, 1, 0, 0, 1, 1, 0, 0] Bc) = .seq (codeAt [1, 1, 0, 1, 0, 0, 1, 1, 0, 0, 0] Bc) (codeAt [1, 1, 0, 1, 0, 0, 1, 1, 0, 0, 1] Bc) := by kernel_rfl
theorem cC1_1_1 : (codeAt [1, 1, 1] Bc) = .seq (codeAt [1, 1, 1, 0] Bc) (codeAt [1, 1, 1, 1] Bc) := by kernel_rfl
theorem cC1_1_1_1 : (codeAt [1, 1, 1, 1] Bc) = .ret := by kernel_rfl
theorem cC1_1_0_1 : (codeAt [1, 1, 0, 1] Bc) = .block 0 (codeAt [1, 1, 0, 1, 0] Bc) := by kernel_rfl
theorem cC1_1_0_1_0 : (codeAt [1, 1, 0, 1, 0] Bc) = .loop (codeAt [1, 1, 0, 1, 0, 0] Bc) := by kernel_rfl
section
variable (byteRV : Int → Int → Int) (byteV : Int → Int → Int) (manyV : Int → Int) (textA : List Int → Int → ByteArray × Bool) (textR : List Int → Int → ByteArray × Bool) (withRV : Int → Int → Int → Int) (wordsA : ByteArray → List Int) (wordsR : ByteArray → List Int)
noncomputable def cS0 (off : Nat) (n : Nat) (c : Nat) (r : Nat) (l : List Int) (e : TypeId) : KSt := (firstK [(.slice (some ⟨0, off, none⟩) n c), (.int .i64 ((r : Nat) : Int))] 29 ⟨1, 1, [(0, 0, .tail off .u64 l e)]⟩)
noncomputable def cS1 (off : Nat) (n : Nat) (c : Nat) (r : Nat) (l : List Int) (e : TypeId) : KSt := ⟨(frameL 29 [(0, (.slice (some ⟨0, off, none⟩) n c)), (1, (.int .i64 ((r : Nat) : Int)))]), ⟨1, 1, [(0, 0, .tail off .u64 l e)]⟩⟩
theorem cR1 (off : Nat) (n : Nat) (c : Nat) (r : Nat) (l : List Int) (e : TypeId) : cEV byteRV byteV manyV textA textR withRV wordsA wordsR (codeAt [0] Bc) (cS0 off n c r l e) [0, 1] =
  some (.normal, (cS1 off n c r l e)) := by kernel_rfl
noncomputable def cS2 (off : Nat) (n : Nat) (c : Nat) (r : Nat) (l : List Int) (e : TypeId) : KSt := ⟨(frameL 29 [(0, (.slice (some ⟨0, off, none⟩) n c)), (5, (.slice (some ⟨1, 0, none⟩) (Int.toNat ((r : Nat) : Int)) (Int.toNat ((r : Nat) : Int))))]), ⟨2, 1, [(1, 0, .ints .u8 (List.replicate (Int.toNat ((r : Nat) : Int)) (0 : Int)) 5 true), (0, 0, .tail off .u64 l e)]⟩⟩
theorem cR2 (off : Nat) (n : Nat) (c : Nat) (r : Nat) (l : List Int) (e : TypeId) : cEV byteRV byteV manyV textA textR withRV wordsA wordsR (codeAt [1, 0] Bc) (cS1 off n c r l e) [0, 5] =
  if 0 ≤ ((r : Nat) : Int) ∧ ((r : Nat) : Int) ≤ ((r : Nat) : Int) ∧ ((1 : Int) * ((r : Nat) : Int)) ≤ 1099511627776 ∧ ((r : Nat) : Int) ≤ 1099511627776 then
    some (.normal, (cS2 off n c r l e))
  else
    none := by kernel_rfl
noncomputable def cS3 (off : Nat) (n : Nat) (c : Nat) (r : Nat) (l : List Int) (e : TypeId) : KSt := ⟨(frameL 29 [(0, (.slice (some ⟨0, off, none⟩) n c)), (5, (.slice (some ⟨1, 0, none⟩) r r))]), ⟨2, 1, [(1, 0, .ints .u8 (List.replicate r (0 : Int)) 5 true), (0, 0, .tail off .u64 l e)]⟩⟩
noncomputable def cS4 (off : Nat) (n : Nat) (c : Nat) (r : Nat) (l : List Int) (e : TypeId) : KSt := ⟨(frameL 29 [(0, (.slice (some ⟨0, off, none⟩) n c)), (5, (.slice (some ⟨1, 0, none⟩) r r)), (10, (.int .i64 ((r : Nat) : Int))), (11, (.int .i64 0))]), ⟨2, 1, [(1, 0, .ints .u8 (List.replicate r (0 : Int)) 5 true), (0, 0, .tail off .u64 l e)]⟩⟩
theorem cR3 (off : Nat) (n : Nat) (c : Nat) (r : Nat) (l : List Int) (e : TypeId) : cEV byteRV byteV manyV textA textR withRV wordsA wordsR (codeAt [1, 1, 0, 0] Bc) (cS3 off n c r l e) [0, 5, 10, 11] =
  some (.normal, (cS4 off n c r l e)) := by kernel_rfl
noncomputable def cS5 (off : Nat) (n : Nat) (c : Nat) (r : Nat) (j : Int) (A : List Int) (l : List Int) (e : TypeId) : KSt := ⟨(frameL 29 [(0, (.slice (some ⟨0, off, none⟩) n c)), (5, (.slice (some ⟨1, 0, none⟩) r r)), (10, (.int .i64 ((r : Nat) : Int))), (11, (.int .i64 j))]), ⟨2, 1, [(1, 0, .ints .u8 A 5 true), (0, 0, .tail off .u64 l e)]⟩⟩
noncomputable def cS6 (off : Nat) (n : Nat) (c : Nat) (r : Nat) (j : Int) (A : List Int) (l : List Int) (e : TypeId) : KSt := ⟨(frameL 29 [(0, (.slice (some ⟨0, off, none⟩) n c)), (5, (.slice (some ⟨1, 0, none⟩) r r)), (10, (.int .i64 ((r : Nat) : Int))), (11, (.int .i64 j)), (12, (.bool (decide (j < ((r : Nat) : Int)))))]), ⟨2, 1, [(1, 0, .ints .u8 A 5 true), (0, 0, .tail off .u64 l e)]⟩⟩
theorem cR4 (off : Nat) (n : Nat) (c : Nat) (r : Nat) (j : Int) (A : List Int) (l : List Int) (e : TypeId) : cEV byteRV byteV manyV textA textR withRV wordsA wordsR (codeAt [1, 1, 0, 1, 0, 0, 0] Bc) (cS5 off n c r j A l e) [0, 5, 10, 11, 12] =
  some (.normal, (cS6 off n c r j A l e)) := by kernel_rfl
theorem cR5 (off : Nat) (n : Nat) (c : Nat) (r : Nat) (j : Int) (A : List Int) (l : List Int) (e : TypeId) : cEV byteRV byteV manyV textA textR withRV wordsA wordsR (codeAt [1, 1, 0, 1, 0, 0, 1, 0, 0] Bc) (cS6 off n c r j A l e) [0, 5, 10, 11] =
  some (.normal, (cS5 off n c r j A l e)) := by kernel_rfl
noncomputable def cS7 (off : Nat) (n : Nat) (c : Nat) (r : Nat) (j : Int) (A : List Int) (l : List Int) (e : TypeId) : KSt := ⟨(frameL 29 [(0, (.slice (some ⟨0, off, none⟩) n c)), (5, (.slice (some ⟨1, 0, none⟩) r r)), (6, (.int .i64 j)), (10, (.int .i64 ((r : Nat) : Int))), (11, (.int .i64 j))]), ⟨2, 1, [(1, 0, .ints .u8 A 5 true), (0, 0, .tail off .u64 l e)]⟩⟩
theorem cR6 (off : Nat) (n : Nat) (c : Nat) (r : Nat) (j : Int) (A : List Int) (l : List Int) (e : TypeId) : cEV byteRV byteV manyV textA textR withRV wordsA wordsR (codeAt [1, 1, 0, 1, 0, 0, 1, 1, 0, 0, 0] Bc) (cS5 off n c r j A l e) [0, 5, 6, 10, 11] =
  some (.normal, (cS7 off n c r j A l e)) := by kernel_rfl
noncomputable def cS8 (off : Nat) (n : Nat) (c : Nat) (r : Nat) (j : Int) (A : List Int) (n1 : Int) (l : List Int) (e : TypeId) : KSt := ⟨(frameL 29 [(0, (.slice (some ⟨0, off, none⟩) n c)), (5, (.slice (some ⟨1, 0, none⟩) r r)), (10, (.int .i64 ((r : Nat) : Int))), (11, (.int .i64 j))]), ⟨2, 1, [(1, 0, .ints .u8 (List.set A (0 + ((Int.toNat j) * 1)) (IntKind.wrap .u8 (byteV n1 (Int.tmod j 8)))) 5 true), (0, 0, .tail off .u64 l e)]⟩⟩
theorem cR7 (off : Nat) (n : Nat) (c : Nat) (r : Nat) (j : Int) (A : List Int) (l : List Int) (e : TypeId) : cEV byteRV byteV manyV textA textR withRV wordsA wordsR (codeAt [1, 1, 0, 1, 0, 0, 1, 1, 0, 0, 1] Bc) (cS7 off n c r j A l e) [0, 5, 10, 11] =
  if 0 ≤ (IntKind.wrap .i64 (Int.tdiv j 8)) ∧ (IntKind.wrap .i64 (Int.tdiv j 8)) < ((n : Nat) : Int) then
    bif (Nat.ble off (off + ((Int.toNat (IntKind.wrap .i64 (Int.tdiv j 8))) * 1))) then
      obind (l[((off + ((Int.toNat (IntKind.wrap .i64 (Int.tdiv j 8))) * 1)) - off)]?) fun n1 =>
        if 0 ≤ j ∧ j < ((r : Nat) : Int) then
          bif (Nat.ble ((0 + ((Int.toNat j) * 1)) + 1) (List.length A)) then
            some (.normal, (cS8 byteV off n c r j A n1 l e))
          else
            none
        else
          none
    else
      none
  else
    none := by kernel_rfl
noncomputable def cS9 (off : Nat) (n : Nat) (c : Nat) (r : Nat) (j : Int) (A : List Int) (l : List Int) (e : TypeId) : KSt := ⟨(frameL 29 [(0, (.slice (some ⟨0, off, none⟩) n c)), (5, (.slice (some ⟨1, 0, none⟩) r r)), (10, (.int .i64 ((r : Nat) : Int))), (11, (.int .i64 j))]), ⟨2, 1, [(1, 0, .ints .u8 (List.set A (0 + ((Int.toNat j) * 1)) (IntKind.wrap .u8 (byteV (l.getD ((Int.toNat (j / 8)) * 1) 0) (j % 8)))) 5 true), (0, 0, .tail off .u64 l e)]⟩⟩
noncomputable def cS10 (off : Nat) (n : Nat) (c : Nat) (r : Nat) (j : Int) (A : List Int) (l : List Int) (e : TypeId) : KSt := ⟨(frameL 29 [(0, (.slice (some ⟨0, off, none⟩) n c)), (5, (.slice (some ⟨1, 0, none⟩) r r)), (10, (.int .i64 ((r : Nat) : Int))), (11, (.int .i64 j))]), ⟨2, 1, [(1, 0, .ints .u8 (List.set A (0 + ((Int.toNat j) * 1)) (IntKind.wrap .u8 (byteV (l.getD ((Int.toNat (IntKind.wrap .i64 (Int.tdiv j 8))) * 1) 0) (Int.tmod j 8)))) 5 true), (0, 0, .tail off .u64 l e)]⟩⟩
noncomputable def cS11 (off : Nat) (n : Nat) (c : Nat) (r : Nat) (j : Int) (A : List Int) (l : List Int) (e : TypeId) : KSt := ⟨(frameL 29 [(0, (.slice (some ⟨0, off, none⟩) n c)), (5, (.slice (some ⟨1, 0, none⟩) r r)), (10, (.int .i64 ((r : Nat) : Int))), (11, (.int .i64 (IntKind.wrap .i64 (j + 1))))]), ⟨2, 1, [(1, 0, .ints .u8 (List.set A (0 + ((Int.toNat j) * 1)) (IntKind.wrap .u8 (byteV (l.getD ((Int.toNat (j / 8)) * 1) 0) (j % 8)))) 5 true), (0, 0, .tail off .u64 l e)]⟩⟩
theorem cR8 (off : Nat) (n : Nat) (c : Nat) (r : Nat) (j : Int) (A : List Int) (l : List Int) (e : TypeId) : cEV byteRV byteV manyV textA textR withRV wordsA wordsR (codeAt [1, 1, 0, 1, 0, 0, 1, 1, 1] Bc) (cS9 byteV off n c r j A l e) [0, 5, 10, 11] =
  some (.normal, (cS11 byteV off n c r j A l e)) := by kernel_rfl
noncomputable def cS12 (off : Nat) (n : Nat) (c : Nat) (r : Nat) (j : Int) (A : List Int) (l : List Int) (e : TypeId) : KSt := ⟨(frameL 29 [(0, (.slice (some ⟨0, off, none⟩) n c)), (5, (.slice (some ⟨1, 0, none⟩) r r)), (10, (.int .i64 ((r : Nat) : Int))), (11, (.int .i64 (j + 1)))]), ⟨2, 1, [(1, 0, .ints .u8 (List.set A (0 + ((Int.toNat j) * 1)) (IntKind.wrap .u8 (byteV (l.getD ((Int.toNat (j / 8)) * 1) 0) (j % 8)))) 5 true), (0, 0, .tail off .u64 l e)]⟩⟩
noncomputable def cS13 (r : Nat) (A : List Int) (off : Nat) (l : List Int) (e : TypeId) : KSt := ⟨(frameL 29 [(4, (.string (bytesOfNums (List.take r (List.drop 0 A)))))]), ⟨1, 1, [(0, 0, .tail off .u64 l e)]⟩⟩
theorem cR9 (off : Nat) (n : Nat) (c : Nat) (r : Nat) (j : Int) (A : List Int) (l : List Int) (e : TypeId) : cEV byteRV byteV manyV textA textR withRV wordsA wordsR (codeAt [1, 1, 1, 0] Bc) (cS6 off n c r j A l e) [4] =
  bif (Nat.ble (0 + r) (List.length A)) then
    some (.normal, (cS13 r A off l e))
  else
    none := by kernel_rfl
end
theorem cpre {r : Nat} {off : Nat} {l : List Int} {e : TypeId} {n : Nat} {c : Nat} (hr : r ≤ 1000)   {Q : Ex → St → Prop} (hq : Gets Try.prog (KH.low ⟨1, 1, [(0, 0, .tail off .u64 l e)]⟩) (codeAt [1, 1, 0, 1] Bc) (KSt.low (cS4 off n c r l e)) (onN (fun s => Gets Try.prog (KH.low ⟨1, 1, [(0, 0, .tail off .u64 l e)]⟩) (codeAt [1, 1, 1] Bc) s (Q)) (Q))) : Gets Try.prog (KH.low ⟨1, 1, [(0, 0, .tail off .u64 l e)]⟩) Bc (KSt.low (cS0 off n c r l e)) Q := by
  rw [cC]; refine Gets.seq ?_
  refine cgo (cR1 byteRV byteV manyV textA textR withRV wordsA wordsR off n c r l e) ?_
  rw [cC1]; refine Gets.seq ?_
  refine cgo (x := .normal) (s' := (cS3 off n c r l e)) ((cR2 byteRV byteV manyV textA textR withRV wordsA wordsR off n c r l e).trans (by rw [if_pos (by refine ⟨?_, ?_, ?_, ?_⟩ <;> (first | omega | ((try simp (disch := omega) only [wrap_i64_id]) <;> omega)))] <;> (show some (Ex.normal, (cS2 off n c r l e)) = some (Ex.normal, (cS3 off n c r l e)); unfold cS2 cS3; rw [(show (Int.toNat ((r : Nat) : Int)) = r from Int.toNat_natCast r)]))) ?_
  rw [cC1_1]; refine Gets.seq ?_
  rw [cC1_1_0]; refine Gets.seq ?_
  refine cgo (cR3 byteRV byteV manyV textA textR withRV wordsA wordsR off n c r l e) ?_
  exact hq
theorem cx {j : Int} {r : Nat} {off : Nat} {n : Nat} {c : Nat} {A : List Int} {l : List Int} {e : TypeId} (hj : j = (r : Int))   {Q : Ex → St → Prop} (hq : Q (.exit 0) (KSt.low (cS6 off n c r j A l e))) : Gets Try.prog (KH.low ⟨1, 1, [(0, 0, .tail off .u64 l e)]⟩) (codeAt [1, 1, 0, 1, 0, 0] Bc) (KSt.low (cS5 off n c r j A l e)) Q := by
  rw [cC1_1_0_1_0_0]; refine Gets.seq ?_
  refine cgo (cR4 byteRV byteV manyV textA textR withRV wordsA wordsR off n c r j A l e) ?_
  rw [cC1_1_0_1_0_0_1]; refine Gets.seq ?_
  rw [cC1_1_0_1_0_0_1_0]; refine Gets.cond false (by kernel_rfl) (ceX (b := (decide (j < ((r : Nat) : Int)))) (by kernel_rfl) ((show (decide (j < ((r : Nat) : Int))) = false from decide_eq_false (by omega)))) ?_; show Gets _ _ (codeAt [1, 1, 0, 1, 0, 0, 1, 0, 1] Bc) _ _
  rw [cC1_1_0_1_0_0_1_0_1]; refine Gets.ev fitX.mix fitX.cfg (fitX.sound pkc_sound 14 0) 14 rfl (s' := KSt.low (cS6 off n c r j A l e)) (x := (.exit 0)) rfl ?_
  exact hq
theorem crd {j : Int} {r : Nat} {n : Nat} {l : List Int} {A : List Int} {off : Nat} {c : Nat} {e : TypeId} (hj : 0 ≤ j) (hjr : j < (r : Int)) (hr : r ≤ 1000) (hr2 : (r : Int) ≤ 8 * (n : Int)) (hl : l.length = n) (hA : A.length = r)   {Q : Ex → St → Prop} (hq : Q .normal (KSt.low (cS12 byteV off n c r j A l e))) : Gets Try.prog (KH.low ⟨1, 1, [(0, 0, .tail off .u64 l e)]⟩) (codeAt [1, 1, 0, 1, 0, 0] Bc) (KSt.low (cS5 off n c r j A l e)) Q := by
  rw [cC1_1_0_1_0_0]; refine Gets.seq ?_
  refine cgo (cR4 byteRV byteV manyV textA textR withRV wordsA wordsR off n c r j A l e) ?_
  rw [cC1_1_0_1_0_0_1]; refine Gets.seq ?_
  rw [cC1_1_0_1_0_0_1_0]; refine Gets.cond true (by kernel_rfl) (ceX (b := (decide (j < ((r : Nat) : Int)))) (by kernel_rfl) ((show (decide (j < ((r : Nat) : Int))) = true from decide_eq_true (by omega)))) ?_; show Gets _ _ (codeAt [1, 1, 0, 1, 0, 0, 1, 0, 0] Bc) _ _
  refine cgo (cR5 byteRV byteV manyV textA textR withRV wordsA wordsR off n c r j A l e) ?_
  rw [cC1_1_0_1_0_0_1_1]; refine Gets.seq ?_
  rw [cC1_1_0_1_0_0_1_1_0]; refine Gets.block ?_
  rw [cC1_1_0_1_0_0_1_1_0_0]; refine Gets.seq ?_
  refine cgo (cR6 byteRV byteV manyV textA textR withRV wordsA wordsR off n c r j A l e) ?_
  refine cgo (x := .normal) (s' := (cS9 byteV off n c r j A l e)) ((cR7 byteRV byteV manyV textA textR withRV wordsA wordsR off n c r j A l e).trans (by rw [if_pos (⟨by (first | omega | ((try simp (disch := omega) only [wrap_i64_id]) <;> omega) | (simp only [Int.tdiv_eq_ediv_of_nonneg hj, Int.tmod_eq_emod_of_nonneg hj]; (try simp (disch := omega) only [wrap_i64_id]) <;> omega)), by (first | omega | ((try simp (disch := omega) only [wrap_i64_id]) <;> omega) | (simp only [Int.tdiv_eq_ediv_of_nonneg hj, Int.tmod_eq_emod_of_nonneg hj]; (try simp (disch := omega) only [wrap_i64_id]) <;> omega))⟩), condT (ble_t (by (first | omega | ((try simp (disch := omega) only [wrap_i64_id]) <;> omega) | (simp only [Int.tdiv_eq_ediv_of_nonneg hj, Int.tmod_eq_emod_of_nonneg hj]; (try simp (disch := omega) only [wrap_i64_id]) <;> omega)))), obind_at (k := ((Int.toNat (IntKind.wrap .i64 (Int.tdiv j 8))) * 1)) (by (first | omega | ((try simp (disch := omega) only [wrap_i64_id]) <;> omega) | (simp only [Int.tdiv_eq_ediv_of_nonneg hj, Int.tmod_eq_emod_of_nonneg hj]; (try simp (disch := omega) only [wrap_i64_id]) <;> omega))) (by (first | omega | ((try simp (disch := omega) only [wrap_i64_id]) <;> omega) | (simp only [Int.tdiv_eq_ediv_of_nonneg hj, Int.tmod_eq_emod_of_nonneg hj]; (try simp (disch := omega) only [wrap_i64_id]) <;> omega))), if_pos (⟨by omega, by omega⟩), condT (ble_t (by (first | omega | ((try simp (disch := omega) only [wrap_i64_id]) <;> omega) | (simp only [Int.tdiv_eq_ediv_of_nonneg hj, Int.tmod_eq_emod_of_nonneg hj]; (try simp (disch := omega) only [wrap_i64_id]) <;> omega))))] <;> (show some (Ex.normal, (cS10 byteV off n c r j A l e)) = some (Ex.normal, (cS9 byteV off n c r j A l e)); unfold cS10 cS9; rw [(show (Int.tdiv j 8) = (j / 8) from Int.tdiv_eq_ediv_of_nonneg (by omega)), (show (Int.tmod j 8) = (j % 8) from Int.tmod_eq_emod_of_nonneg (by omega)), (show (IntKind.wrap .i64 (j / 8)) = (j / 8) from wrap_i64_id (by omega) (by omega))]))) ?_
  refine cgo (x := .normal) (s' := (cS12 byteV off n c r j A l e)) ((cR8 byteRV byteV manyV textA textR withRV wordsA wordsR off n c r j A l e).trans (by (show some (Ex.normal, (cS11 byteV off n c r j A l e)) = some (Ex.normal, (cS12 byteV off n c r j A l e)); unfold cS11 cS12; rw [(show (IntKind.wrap .i64 (j + 1)) = (j + 1) from wrap_i64_id (by omega) (by omega))]))) ?_
  exact hq
theorem cfi {A : List Int} {r : Nat} {off : Nat} {l : List Int} {e : TypeId} {n : Nat} {c : Nat} {j : Int} (hA : A.length = r)   {Q : Ex → St → Prop} (hq : Q .ret (KSt.low (cS13 r A off l e))) : Gets Try.prog (KH.low ⟨1, 1, [(0, 0, .tail off .u64 l e)]⟩) (codeAt [1, 1, 1] Bc) (KSt.low (cS6 off n c r j A l e)) Q := by
  rw [cC1_1_1]; refine Gets.seq ?_
  refine cgo (x := .normal) (s' := (cS13 r A off l e)) ((cR9 byteRV byteV manyV textA textR withRV wordsA wordsR off n c r j A l e).trans (by rw [condT (ble_t (by (first | omega | ((try simp (disch := omega) only [wrap_i64_id]) <;> omega))))])) ?_
  rw [cC1_1_1_1]; refine Gets.ev fitX.mix fitX.cfg (fitX.sound pkc_sound 14 0) 14 rfl (s' := KSt.low (cS13 r A off l e)) (x := .ret) rfl ?_
  exact hq
noncomputable def Bd : Code := bodyOf Try.prog 54
theorem Bd_is : Try.f54.body = some Bd := by kernel_rfl
theorem Bd_ok : okCode Try.prog.globals.size Bd = true := by kernel_rfl
noncomputable abbrev dEV (byteRV : Int → Int → Int) (byteV : Int → Int → Int) (manyV : Int → Int) (textA : List Int → Int → ByteArray × Bool) (textR : List Int → Int → ByteArray × Bool) (withRV : Int → Int → Int → Int) (wordsA : ByteArray → List Int) (wordsR : ByteArray → List Int) (c : Code) (s : KSt) (lv : List Nat) : Option (Ex × KSt) := evCK Try.prog cfgX (runK Try.prog cfgX fsX (conTk pkcDom (rcK [] (pkcT byteRV byteV manyV textA textR withRV wordsA wordsR))) 14 40) 14 c s (normC 0 lv)
theorem dgo {lv_ : List Nat} {co_ : Code} {st_ s' : KSt} {x : Ex} {Q : Ex → St → Prop} (hE_ : dEV byteRV byteV manyV textA textR withRV wordsA wordsR co_ st_ lv_ = some (x, s')) (hq_ : Q x s'.low) (hok_ : okCode Try.prog.globals.size co_ = true := by kernel_rfl) : Gets Try.prog (KH.low ⟨0, 1, []⟩) co_ st_.low Q := Gets.ofN fitX pkc_sound (rc_agree _ _ _) 14 40 hok_ hE_ hq_
theorem deX {v : Value} {b c : Bool} (h : v = .bool b) (hb : b = c) : v = .bool c := by rw [h, hb]
theorem dC : Bd = .seq (codeAt [0] Bd) (codeAt [1] Bd) := by kernel_rfl
theorem dC1 : (codeAt [1] Bd) = .seq (codeAt [1, 0] Bd) (codeAt [1, 1] Bd) := by kernel_rfl
theorem dC1_1 : (codeAt [1, 1] Bd) = .seq (codeAt [1, 1, 0] Bd) (codeAt [1, 1, 1] Bd) := by kernel_rfl
theorem dC1_1_0 : (codeAt [1, 1, 0] Bd) = .seq (codeAt [1, 1, 0, 0] Bd) (codeAt [1, 1, 0, 1] Bd) := by kernel_rfl
theorem dC1_1_0_1_0_0 : (codeAt [1, 1, 0, 1, 0, 0] Bd) = .seq (codeAt [1, 1, 0, 1, 0, 0, 0] Bd) (codeAt [1, 1, 0, 1, 0, 0, 1] Bd) := by kernel_rfl
theorem dC1_1_0_1_0_0_1 : (codeAt [1, 1, 0, 1, 0, 0, 1] Bd) = .seq (codeAt [1, 1, 0, 1, 0, 0, 1, 0] Bd) (codeAt [1, 1, 0, 1, 0, 0, 1, 1] Bd) := by kernel_rfl
theorem dC1_1_0_1_0_0_1_0 : (codeAt [1, 1, 0, 1, 0, 0, 1, 0] Bd) = .cond (.tmp 12) (codeAt [1, 1, 0, 1, 0, 0, 1, 0, 0] Bd) (codeAt [1, 1, 0, 1, 0, 0, 1, 0, 1] Bd) := by kernel_rfl
theorem dC1_1_0_1_0_0_1_0_1 : (codeAt [1, 1, 0, 1, 0, 0, 1, 0, 1] Bd) = .exit 0 := by kernel_rfl
theorem dC1_1_1 : (codeAt [1, 1, 1] Bd) = .seq (codeAt [1, 1, 1, 0] Bd) (codeAt [1, 1, 1, 1] Bd) := by kernel_rfl
theorem dC1_1_1_1 : (codeAt [1, 1, 1, 1] Bd) = .ret := by kernel_rfl
theorem dC1_1_0_1 : (codeAt [1, 1, 0, 1] Bd) = .block 0 (codeAt [1, 1, 0, 1, 0] Bd) := by kernel_rfl
theorem dC1_1_0_1_0 : (codeAt [1, 1, 0, 1, 0] Bd) = .loop (codeAt [1, 1, 0, 1, 0, 0] Bd) := by kernel_rfl
section
variable (byteRV : Int → Int → Int) (byteV : Int → Int → Int) (manyV : Int → Int) (textA : List Int → Int → ByteArray × Bool) (textR : List Int → Int → ByteArray × Bool) (withRV : Int → Int → Int → Int) (wordsA : ByteArray → List Int) (wordsR : ByteArray → List Int)
noncomputable def dS0 (r : Nat) : KSt := (firstK [(.slice (some ⟨0, 0, some 0⟩) 0 0), (.int .i64 ((r : Nat) : Int))] 29 ⟨0, 1, []⟩)
noncomputable def dS1 (r : Nat) : KSt := ⟨(frameL 29 [(0, (.slice (some ⟨0, 0, some 0⟩) 0 0)), (1, (.int .i64 ((r : Nat) : Int)))]), ⟨0, 1, []⟩⟩
theorem dR1 (r : Nat) : dEV byteRV byteV manyV textA textR withRV wordsA wordsR (codeAt [0] Bd) (dS0 r) [0, 1] =
  some (.normal, (dS1 r)) := by kernel_rfl
noncomputable def dS2 (r : Nat) : KSt := ⟨(frameL 29 [(0, (.slice (some ⟨0, 0, some 0⟩) 0 0)), (5, (.slice (some ⟨0, 0, none⟩) (Int.toNat ((r : Nat) : Int)) (Int.toNat ((r : Nat) : Int))))]), ⟨1, 1, [(0, 0, .ints .u8 (List.replicate (Int.toNat ((r : Nat) : Int)) (0 : Int)) 5 true)]⟩⟩
theorem dR2 (r : Nat) : dEV byteRV byteV manyV textA textR withRV wordsA wordsR (codeAt [1, 0] Bd) (dS1 r) [0, 5] =
  if 0 ≤ ((r : Nat) : Int) ∧ ((r : Nat) : Int) ≤ ((r : Nat) : Int) ∧ ((1 : Int) * ((r : Nat) : Int)) ≤ 1099511627776 ∧ ((r : Nat) : Int) ≤ 1099511627776 then
    some (.normal, (dS2 r))
  else
    none := by kernel_rfl
noncomputable def dS3 (r : Nat) : KSt := ⟨(frameL 29 [(0, (.slice (some ⟨0, 0, some 0⟩) 0 0)), (5, (.slice (some ⟨0, 0, none⟩) r r))]), ⟨1, 1, [(0, 0, .ints .u8 (List.replicate r (0 : Int)) 5 true)]⟩⟩
noncomputable def dS4 (r : Nat) : KSt := ⟨(frameL 29 [(0, (.slice (some ⟨0, 0, some 0⟩) 0 0)), (5, (.slice (some ⟨0, 0, none⟩) r r)), (10, (.int .i64 ((r : Nat) : Int))), (11, (.int .i64 0))]), ⟨1, 1, [(0, 0, .ints .u8 (List.replicate r (0 : Int)) 5 true)]⟩⟩
theorem dR3 (r : Nat) : dEV byteRV byteV manyV textA textR withRV wordsA wordsR (codeAt [1, 1, 0, 0] Bd) (dS3 r) [0, 5, 10, 11] =
  some (.normal, (dS4 r)) := by kernel_rfl
noncomputable def dS5 (r : Nat) : KSt := ⟨(frameL 29 [(0, (.slice (some ⟨0, 0, some 0⟩) 0 0)), (5, (.slice (some ⟨0, 0, none⟩) r r)), (10, (.int .i64 ((r : Nat) : Int))), (11, (.int .i64 0)), (12, (.bool (decide (0 < ((r : Nat) : Int)))))]), ⟨1, 1, [(0, 0, .ints .u8 (List.replicate r (0 : Int)) 5 true)]⟩⟩
theorem dR4 (r : Nat) : dEV byteRV byteV manyV textA textR withRV wordsA wordsR (codeAt [1, 1, 0, 1, 0, 0, 0] Bd) (dS4 r) [0, 5, 10, 11, 12] =
  some (.normal, (dS5 r)) := by kernel_rfl
noncomputable def dS6 (r : Nat) : KSt := ⟨(frameL 29 [(4, (.string (bytesOfNums (List.take r (List.drop 0 (List.replicate r (0 : Int)))))))]), ⟨0, 1, []⟩⟩
theorem dR5 (r : Nat) : dEV byteRV byteV manyV textA textR withRV wordsA wordsR (codeAt [1, 1, 1, 0] Bd) (dS5 r) [4] =
  bif (Nat.ble (0 + r) (List.length (List.replicate r (0 : Int)))) then
    some (.normal, (dS6 r))
  else
    none := by kernel_rfl
end
theorem dpre {r : Nat} (hr : r ≤ 1000)   {Q : Ex → St → Prop} (hq : Gets Try.prog (KH.low ⟨0, 1, []⟩) (codeAt [1, 1, 0, 1] Bd) (KSt.low (dS4 r)) (onN (fun s => Gets Try.prog (KH.low ⟨0, 1, []⟩) (codeAt [1, 1, 1] Bd) s (Q)) (Q))) : Gets Try.prog (KH.low ⟨0, 1, []⟩) Bd (KSt.low (dS0 r)) Q := by
  rw [dC]; refine Gets.seq ?_
  refine dgo (dR1 byteRV byteV manyV textA textR withRV wordsA wordsR r) ?_
  rw [dC1]; refine Gets.seq ?_
  refine dgo (x := .normal) (s' := (dS3 r)) ((dR2 byteRV byteV manyV textA textR withRV wordsA wordsR r).trans (by rw [if_pos (by refine ⟨?_, ?_, ?_, ?_⟩ <;> (first | omega | ((try simp (disch := omega) only [wrap_i64_id]) <;> omega)))] <;> (show some (Ex.normal, (dS2 r)) = some (Ex.normal, (dS3 r)); unfold dS2 dS3; rw [(show (Int.toNat ((r : Nat) : Int)) = r from Int.toNat_natCast r)]))) ?_
  rw [dC1_1]; refine Gets.seq ?_
  rw [dC1_1_0]; refine Gets.seq ?_
  refine dgo (dR3 byteRV byteV manyV textA textR withRV wordsA wordsR r) ?_
  exact hq
theorem dx {r : Nat} (hr : r = 0)   {Q : Ex → St → Prop} (hq : Q (.exit 0) (KSt.low (dS5 r))) : Gets Try.prog (KH.low ⟨0, 1, []⟩) (codeAt [1, 1, 0, 1, 0, 0] Bd) (KSt.low (dS4 r)) Q := by
  rw [dC1_1_0_1_0_0]; refine Gets.seq ?_
  refine dgo (dR4 byteRV byteV manyV textA textR withRV wordsA wordsR r) ?_
  rw [dC1_1_0_1_0_0_1]; refine Gets.seq ?_
  rw [dC1_1_0_1_0_0_1_0]; refine Gets.cond false (by kernel_rfl) (deX (b := (decide (0 < ((r : Nat) : Int)))) (by kernel_rfl) ((show (decide (0 < ((r : Nat) : Int))) = false from decide_eq_false (by omega)))) ?_; show Gets _ _ (codeAt [1, 1, 0, 1, 0, 0, 1, 0, 1] Bd) _ _
  rw [dC1_1_0_1_0_0_1_0_1]; refine Gets.ev fitX.mix fitX.cfg (fitX.sound pkc_sound 14 0) 14 rfl (s' := KSt.low (dS5 r)) (x := (.exit 0)) rfl ?_
  exact hq
theorem dfi {r : Nat} (hr : r = 0)   {Q : Ex → St → Prop} (hq : Q .ret (KSt.low (dS6 r))) : Gets Try.prog (KH.low ⟨0, 1, []⟩) (codeAt [1, 1, 1] Bd) (KSt.low (dS5 r)) Q := by
  rw [dC1_1_1]; refine Gets.seq ?_
  refine dgo (x := .normal) (s' := (dS6 r)) ((dR5 byteRV byteV manyV textA textR withRV wordsA wordsR r).trans (by rw [condT (ble_t (by (first | omega | ((try simp (disch := omega) only [wrap_i64_id]) <;> omega))))])) ?_
  rw [dC1_1_1_1]; refine Gets.ev fitX.mix fitX.cfg (fitX.sound pkc_sound 14 0) 14 rfl (s' := KSt.low (dS6 r)) (x := .ret) rfl ?_
  exact hq
noncomputable def Bw : Code := bodyOf Try.prog 55
theorem Bw_is : Try.f55.body = some Bw := by kernel_rfl
theorem Bw_ok : okCode Try.prog.globals.size Bw = true := by kernel_rfl
noncomputable abbrev wEV (c : Code) (s : KSt) (lv : List Nat) : Option (Ex × KSt) := evCK Try.prog cfgX (runK Try.prog cfgX fsX noT 14 40) 14 c s (normC 1 lv)
theorem wgo {lv_ : List Nat} {co_ : Code} {st_ s' : KSt} {x : Ex} {Q : Ex → St → Prop} {off : Nat} {l : List Int} {e : TypeId} (hE_ : wEV co_ st_ lv_ = some (x, s')) (hq_ : Q x s'.low) (hok_ : okCode Try.prog.globals.size co_ = true := by kernel_rfl) : Gets Try.prog (KH.low ⟨1, 1, [(0, 0, .tail off .u64 l e)]⟩) co_ st_.low Q := Gets.ofN fitX SoundC.no AgreeT.no 14 40 hok_ hE_ hq_
theorem weX {v : Value} {b c : Bool} (h : v = .bool b) (hb : b = c) : v = .bool c := by rw [h, hb]
theorem wC : Bw = .seq (codeAt [0] Bw) (codeAt [1] Bw) := by kernel_rfl
theorem wC1 : (codeAt [1] Bw) = .seq (codeAt [1, 0] Bw) (codeAt [1, 1] Bw) := by kernel_rfl
theorem wC1_0 : (codeAt [1, 0] Bw) = .seq (codeAt [1, 0, 0] Bw) (codeAt [1, 0, 1] Bw) := by kernel_rfl
theorem wC1_0_1 : (codeAt [1, 0, 1] Bw) = .cond (.tmp 8) (codeAt [1, 0, 1, 0] Bw) (codeAt [1, 0, 1, 1] Bw) := by kernel_rfl
theorem wC1_0_1_0 : (codeAt [1, 0, 1, 0] Bw) = .seq (codeAt [1, 0, 1, 0, 0] Bw) (codeAt [1, 0, 1, 0, 1] Bw) := by kernel_rfl
theorem wC1_0_1_0_1 : (codeAt [1, 0, 1, 0, 1] Bw) = .ret := by kernel_rfl
theorem wC1_1 : (codeAt [1, 1] Bw) = .seq (codeAt [1, 1, 0] Bw) (codeAt [1, 1, 1] Bw) := by kernel_rfl
theorem wC1_1_1 : (codeAt [1, 1, 1] Bw) = .ret := by kernel_rfl
noncomputable def wS0 (off : Nat) (n : Nat) (c : Nat) (i : Int) (l : List Int) (e : TypeId) : KSt := (firstK [(.slice (some ⟨0, off, none⟩) n c), (.int .i64 i)] 13 ⟨1, 1, [(0, 0, .tail off .u64 l e)]⟩)
noncomputable def wS1 (off : Nat) (n : Nat) (c : Nat) (i : Int) (l : List Int) (e : TypeId) : KSt := ⟨(frameL 13 [(0, (.slice (some ⟨0, off, none⟩) n c)), (1, (.int .i64 i))]), ⟨1, 1, [(0, 0, .tail off .u64 l e)]⟩⟩
theorem wR1 (off : Nat) (n : Nat) (c : Nat) (i : Int) (l : List Int) (e : TypeId) : wEV (codeAt [0] Bw) (wS0 off n c i l e) [0, 1] =
  some (.normal, (wS1 off n c i l e)) := by kernel_rfl
noncomputable def wS2 (off : Nat) (n : Nat) (c : Nat) (i : Int) (l : List Int) (e : TypeId) : KSt := ⟨(frameL 13 [(0, (.slice (some ⟨0, off, none⟩) n c)), (1, (.int .i64 i)), (8, (.bool (decide (i ≥ ((n : Nat) : Int)))))]), ⟨1, 1, [(0, 0, .tail off .u64 l e)]⟩⟩
theorem wR2 (off : Nat) (n : Nat) (c : Nat) (i : Int) (l : List Int) (e : TypeId) : wEV (codeAt [1, 0, 0] Bw) (wS1 off n c i l e) [0, 1, 8] =
  some (.normal, (wS2 off n c i l e)) := by kernel_rfl
noncomputable def wS3 (off : Nat) (l : List Int) (e : TypeId) : KSt := ⟨(frameL 13 [(4, (.int .u64 0))]), ⟨1, 1, [(0, 0, .tail off .u64 l e)]⟩⟩
theorem wR3 (off : Nat) (n : Nat) (c : Nat) (i : Int) (l : List Int) (e : TypeId) : wEV (codeAt [1, 0, 1, 0, 0] Bw) (wS2 off n c i l e) [4] =
  some (.normal, (wS3 off l e)) := by kernel_rfl
theorem wR4 (off : Nat) (n : Nat) (c : Nat) (i : Int) (l : List Int) (e : TypeId) : wEV (codeAt [1, 0, 1, 1] Bw) (wS2 off n c i l e) [0, 1] =
  some (.normal, (wS1 off n c i l e)) := by kernel_rfl
noncomputable def wS4 (n1 : Int) (off : Nat) (l : List Int) (e : TypeId) : KSt := ⟨(frameL 13 [(4, (.int .u64 n1))]), ⟨1, 1, [(0, 0, .tail off .u64 l e)]⟩⟩
theorem wR5 (off : Nat) (n : Nat) (c : Nat) (i : Int) (l : List Int) (e : TypeId) : wEV (codeAt [1, 1, 0] Bw) (wS1 off n c i l e) [4] =
  if 0 ≤ i ∧ i < ((n : Nat) : Int) then
    bif (Nat.ble off (off + ((Int.toNat i) * 1))) then
      obind (l[((off + ((Int.toNat i) * 1)) - off)]?) fun n1 =>
        some (.normal, (wS4 n1 off l e))
    else
      none
  else
    none := by kernel_rfl
noncomputable def wS5 (l : List Int) (i : Int) (off : Nat) (e : TypeId) : KSt := ⟨(frameL 13 [(4, (.int .u64 (l.getD ((Int.toNat i) * 1) 0)))]), ⟨1, 1, [(0, 0, .tail off .u64 l e)]⟩⟩
theorem wno {n : Nat} {i : Int} {off : Nat} {l : List Int} {e : TypeId} {c : Nat} (h : (n : Int) ≤ i)   {Q : Ex → St → Prop} (hq : Q .ret (KSt.low (wS3 off l e))) : Gets Try.prog (KH.low ⟨1, 1, [(0, 0, .tail off .u64 l e)]⟩) Bw (KSt.low (wS0 off n c i l e)) Q := by
  rw [wC]; refine Gets.seq ?_
  refine wgo (wR1 off n c i l e) ?_
  rw [wC1]; refine Gets.seq ?_
  rw [wC1_0]; refine Gets.seq ?_
  refine wgo (wR2 off n c i l e) ?_
  rw [wC1_0_1]; refine Gets.cond true (by kernel_rfl) (weX (b := (decide (i ≥ ((n : Nat) : Int)))) (by kernel_rfl) ((show (decide (i ≥ ((n : Nat) : Int))) = true from decide_eq_true (by omega)))) ?_; show Gets _ _ (codeAt [1, 0, 1, 0] Bw) _ _
  rw [wC1_0_1_0]; refine Gets.seq ?_
  refine wgo (wR3 off n c i l e) ?_
  rw [wC1_0_1_0_1]; refine Gets.ev fitX.mix fitX.cfg (fitX.sound SoundC.no 14 0) 14 rfl (s' := KSt.low (wS3 off l e)) (x := .ret) rfl ?_
  exact hq
theorem wis {i : Int} {n : Nat} {l : List Int} {off : Nat} {e : TypeId} {c : Nat} (h0 : 0 ≤ i) (h : i < (n : Int)) (hl : l.length = n)   {Q : Ex → St → Prop} (hq : Q .ret (KSt.low (wS5 l i off e))) : Gets Try.prog (KH.low ⟨1, 1, [(0, 0, .tail off .u64 l e)]⟩) Bw (KSt.low (wS0 off n c i l e)) Q := by
  rw [wC]; refine Gets.seq ?_
  refine wgo (wR1 off n c i l e) ?_
  rw [wC1]; refine Gets.seq ?_
  rw [wC1_0]; refine Gets.seq ?_
  refine wgo (wR2 off n c i l e) ?_
  rw [wC1_0_1]; refine Gets.cond false (by kernel_rfl) (weX (b := (decide (i ≥ ((n : Nat) : Int)))) (by kernel_rfl) ((show (decide (i ≥ ((n : Nat) : Int))) = false from decide_eq_false (by omega)))) ?_; show Gets _ _ (codeAt [1, 0, 1, 1] Bw) _ _
  refine wgo (wR4 off n c i l e) ?_
  rw [wC1_1]; refine Gets.seq ?_
  refine wgo (x := .normal) (s' := (wS5 l i off e)) ((wR5 off n c i l e).trans (by rw [if_pos (⟨by omega, by omega⟩), condT (ble_t (by omega)), obind_at (k := ((Int.toNat i) * 1)) (by omega) (by omega)] <;> rfl)) ?_
  rw [wC1_1_1]; refine Gets.ev fitX.mix fitX.cfg (fitX.sound SoundC.no 14 0) 14 rfl (s' := KSt.low (wS5 l i off e)) (x := .ret) rfl ?_
  exact hq
noncomputable def Bz : Code := bodyOf Try.prog 55
theorem Bz_is : Try.f55.body = some Bz := by kernel_rfl
theorem Bz_ok : okCode Try.prog.globals.size Bz = true := by kernel_rfl
noncomputable abbrev zEV (c : Code) (s : KSt) (lv : List Nat) : Option (Ex × KSt) := evCK Try.prog cfgX (runK Try.prog cfgX fsX noT 14 40) 14 c s (normC 0 lv)
theorem zgo {lv_ : List Nat} {co_ : Code} {st_ s' : KSt} {x : Ex} {Q : Ex → St → Prop} (hE_ : zEV co_ st_ lv_ = some (x, s')) (hq_ : Q x s'.low) (hok_ : okCode Try.prog.globals.size co_ = true := by kernel_rfl) : Gets Try.prog (KH.low ⟨0, 1, []⟩) co_ st_.low Q := Gets.ofN fitX SoundC.no AgreeT.no 14 40 hok_ hE_ hq_
theorem zeX {v : Value} {b c : Bool} (h : v = .bool b) (hb : b = c) : v = .bool c := by rw [h, hb]
theorem zC : Bz = .seq (codeAt [0] Bz) (codeAt [1] Bz) := by kernel_rfl
theorem zC1 : (codeAt [1] Bz) = .seq (codeAt [1, 0] Bz) (codeAt [1, 1] Bz) := by kernel_rfl
theorem zC1_0 : (codeAt [1, 0] Bz) = .seq (codeAt [1, 0, 0] Bz) (codeAt [1, 0, 1] Bz) := by kernel_rfl
theorem zC1_0_1 : (codeAt [1, 0, 1] Bz) = .cond (.tmp 8) (codeAt [1, 0, 1, 0] Bz) (codeAt [1, 0, 1, 1] Bz) := by kernel_rfl
theorem zC1_0_1_0 : (codeAt [1, 0, 1, 0] Bz) = .seq (codeAt [1, 0, 1, 0, 0] Bz) (codeAt [1, 0, 1, 0, 1] Bz) := by kernel_rfl
theorem zC1_0_1_0_1 : (codeAt [1, 0, 1, 0, 1] Bz) = .ret := by kernel_rfl
noncomputable def zS0 (i : Int) : KSt := (firstK [(.slice (some ⟨0, 0, some 0⟩) 0 0), (.int .i64 i)] 13 ⟨0, 1, []⟩)
noncomputable def zS1 (i : Int) : KSt := ⟨(frameL 13 [(0, (.slice (some ⟨0, 0, some 0⟩) 0 0)), (1, (.int .i64 i))]), ⟨0, 1, []⟩⟩
theorem zR1 (i : Int) : zEV (codeAt [0] Bz) (zS0 i) [0, 1] =
  some (.normal, (zS1 i)) := by kernel_rfl
noncomputable def zS2 (i : Int) : KSt := ⟨(frameL 13 [(0, (.slice (some ⟨0, 0, some 0⟩) 0 0)), (1, (.int .i64 i)), (8, (.bool (decide (i ≥ 0))))]), ⟨0, 1, []⟩⟩
theorem zR2 (i : Int) : zEV (codeAt [1, 0, 0] Bz) (zS1 i) [0, 1, 8] =
  some (.normal, (zS2 i)) := by kernel_rfl
noncomputable def zS3  : KSt := ⟨(frameL 13 [(4, (.int .u64 0))]), ⟨0, 1, []⟩⟩
theorem zR3 (i : Int) : zEV (codeAt [1, 0, 1, 0, 0] Bz) (zS2 i) [4] =
  some (.normal, zS3) := by kernel_rfl
theorem zno {i : Int} (h : 0 ≤ i)   {Q : Ex → St → Prop} (hq : Q .ret (KSt.low zS3)) : Gets Try.prog (KH.low ⟨0, 1, []⟩) Bz (KSt.low (zS0 i)) Q := by
  rw [zC]; refine Gets.seq ?_
  refine zgo (zR1 i) ?_
  rw [zC1]; refine Gets.seq ?_
  rw [zC1_0]; refine Gets.seq ?_
  refine zgo (zR2 i) ?_
  rw [zC1_0_1]; refine Gets.cond true (by kernel_rfl) (zeX (b := (decide (i ≥ 0))) (by kernel_rfl) ((show (decide (i ≥ 0)) = true from decide_eq_true (by omega)))) ?_; show Gets _ _ (codeAt [1, 0, 1, 0] Bz) _ _
  rw [zC1_0_1_0]; refine Gets.seq ?_
  refine zgo (zR3 i) ?_
  rw [zC1_0_1_0_1]; refine Gets.ev fitX.mix fitX.cfg (fitX.sound SoundC.no 14 0) 14 rfl (s' := KSt.low zS3) (x := .ret) rfl ?_
  exact hq
inductive CInv (l : List Int) (r n off c : Nat) (e : TypeId) : Nat → KSt → Prop
  | at_ (j : Int) (A : List Int) (hj : 0 ≤ j) (hjr : j ≤ (r : Int)) (hA : A = (List.range j.toNat).map (byteAt l 0) ++ List.replicate (r - j.toNat) 0) : CInv l r n off c e ((r : Int) - j).toNat (cS5 off n c r j A l e)
theorem loopC (l : List Int) (r n off c : Nat) (e : TypeId) (hl : l.length = n) (hr : r ≤ 1000) (hr2 : (r : Int) ≤ 8 * (n : Int)) (z : Nat) (t : KSt) (hI : CInv l r n off c e z t) : Gets Try.prog (KH.low ⟨1, 1, [(0, 0, .tail off .u64 l e)]⟩) (codeAt [1, 1, 0, 1] Bc) t.low (onN (fun s => Gets Try.prog (KH.low ⟨1, 1, [(0, 0, .tail off .u64 l e)]⟩) (codeAt [1, 1, 1] Bc) s ((EndsR Try.prog Try.f54 (.string (textAt l 0 ((r : Nat) : Int))) [.tail off .u64 l e] [] []))) ((EndsR Try.prog Try.f54 (.string (textAt l 0 ((r : Nat) : Int))) [.tail off .u64 l e] [] []))) := by
  rw [cC1_1_0_1, cC1_1_0_1_0]
  refine Gets.loopG (fun z t => CInv l r n off c e z t) ?_ _ _ hI
  clear hI z t
  intro z t hI
  cases hI with
  | at_ j A hj hjr hA =>
    have hlen : A.length = r := by rw [hA]; simp; omega
    by_cases hx : j = (r : Int)
    · refine cx hx ?_
      refine ⟨fun _ => ?_, fun h => by cases h⟩
      have hT : textAt l 0 ((r : Nat) : Int) = bytesOfNums A := by
        rw [textAt_eq, hA, hx, Int.toNat_natCast, Nat.sub_self, List.replicate_zero, List.append_nil]
      exact cfi hlen (EndsR.ret (l := [.string (bytesOfNums (List.take r (List.drop 0 A)))]) (by kernel_rfl) (by rw [hT, List.drop_zero, List.take_of_length_le (show A.length ≤ r by omega)]; rfl) (Fits.n0 rfl rfl (show (1 : Nat) ≤ 1 by decide)))
    · refine crd hj (by omega) hr hr2 hl hlen ?_
      refine ⟨_, _, ?_, rfl, .at_ (j + 1) _ (by omega) (by omega) ?_⟩
      · omega
      · rw [hA, Nat.zero_add, Nat.mul_one, Nat.mul_one, show r - j.toNat = (r - (j + 1).toNat) + 1 by omega]
        have h1 : ((List.range j.toNat).map (byteAt l 0)).length = j.toNat := by simp
        have h2 := set_rep ((List.range j.toNat).map (byteAt l 0)) (r - (j + 1).toNat) (IntKind.wrap .u8 (byteV (l.getD (Int.toNat (j / 8)) 0) (j % 8)))
        rw [h1] at h2
        rw [h2, show (j + 1).toNat = j.toNat + 1 by omega, range_step]
        congr 3
        unfold byteAt
        rw [show Int.toNat 0 + j.toNat / 8 = Int.toNat (j / 8) by omega, show ((j.toNat % 8 : Nat) : Int) = j % 8 by omega]
theorem cut_does (l : List Int) (r n off c : Nat) (e : TypeId) (hl : l.length = n) (hr : r ≤ 1000) (hr2 : (r : Int) ≤ 8 * (n : Int)) : DoesC Try.prog 54 [(.slice (some ⟨0, off, none⟩) n c), (.int .i64 ((r : Nat) : Int))] (mkH [.tail off .u64 l e]).low (.string (textAt l 0 ((r : Nat) : Int))) (effK (mkH [.tail off .u64 l e]) [] []).low := by
  refine EndsR.does Try.func54 Bc_is (by rw [noVars]; exact Nat.zero_le _) ?_
  show Gets Try.prog (KH.low ⟨1, 1, [(0, 0, .tail off .u64 l e)]⟩) Bc (KSt.low (cS0 off n c r l e)) _
  refine cpre hr ?_
  exact loopC l r n off c e hl hr hr2 ((r : Int) - 0).toNat (cS5 off n c r (0) (List.replicate r 0) l e) (.at_ 0 _ (by omega) (by omega) (by rfl))
theorem cut0_does (r : Nat) (hr : r = 0) : DoesC Try.prog 54 [(.slice (some ⟨0, 0, some 0⟩) 0 0), (.int .i64 ((r : Nat) : Int))] (mkH []).low (.string (textAt [] 0 ((r : Nat) : Int))) (effK (mkH []) [] []).low := by
  refine EndsR.does Try.func54 Bd_is (by rw [noVars]; exact Nat.zero_le _) ?_
  show Gets Try.prog (KH.low ⟨0, 1, []⟩) Bd (KSt.low (dS0 r)) _
  refine dpre (by omega) ?_
  rw [dC1_1_0_1, dC1_1_0_1_0]
  refine Gets.loopG (fun z t => z = 0 ∧ t = (dS4 r)) ?_ 0 _ ⟨rfl, rfl⟩
  rintro z t ⟨rfl, rfl⟩
  refine dx hr ?_
  refine ⟨fun _ => ?_, fun h => by cases h⟩
  subst hr
  exact dfi rfl (EndsR.ret (l := [.string _]) (by kernel_rfl) (by rfl) (Fits.n0 rfl rfl (show (0 : Nat) ≤ 0 by decide)))
theorem word_does (l : List Int) (i : Int) (n off c : Nat) (e : TypeId) (hl : l.length = n) (h : 0 ≤ i) : DoesC Try.prog 55 [(.slice (some ⟨0, off, none⟩) n c), (.int .i64 i)] (mkH [.tail off .u64 l e]).low (.int .u64 (List.getD l (Int.toNat i) 0)) (effK (mkH [.tail off .u64 l e]) [] []).low := by
  refine EndsR.does Try.func55 Bw_is (by rw [noVars]; exact Nat.zero_le _) ?_
  show Gets Try.prog (KH.low ⟨1, 1, [(0, 0, .tail off .u64 l e)]⟩) Bw (KSt.low (wS0 off n c i l e)) _
  by_cases hi : (n : Int) ≤ i
  · exact wno hi (EndsR.ret (l := [.int .u64 0]) (by kernel_rfl) (by rw [List.getD_eq_getElem?_getD, List.getElem?_eq_none (by omega)]; rfl) (Fits.n0 rfl rfl (show (1 : Nat) ≤ 1 by decide)))
  · exact wis h (by omega) hl (EndsR.ret (l := [.int .u64 (l.getD (i.toNat * 1) 0)]) (by kernel_rfl) (by rw [Nat.mul_one]; rfl) (Fits.n0 rfl rfl (show (1 : Nat) ≤ 1 by decide)))
theorem word0_does (i : Int) (h : 0 ≤ i) : DoesC Try.prog 55 [(.slice (some ⟨0, 0, some 0⟩) 0 0), (.int .i64 i)] (mkH []).low (.int .u64 (List.getD ([] : List Int) (Int.toNat i) 0)) (effK (mkH []) [] []).low := by
  refine EndsR.does Try.func55 Bz_is (by rw [noVars]; exact Nat.zero_le _) ?_
  show Gets Try.prog (KH.low ⟨0, 1, []⟩) Bz (KSt.low (zS0 i)) _
  exact zno h (EndsR.ret (l := [.int .u64 0]) (by kernel_rfl) (by rfl) (Fits.n0 rfl rfl (show (0 : Nat) ≤ 0 by decide)))
noncomputable def rc_box_Head (headN : ByteArray → ByteArray → Int) : RC := ⟨[.str, .str], fun avs => match avs with | [.str ks, .str vs] => ((Nat.ble (ByteArray.size ks) 100000) && (Nat.ble (ByteArray.size vs) 100000)) | _ => false,
  fun N avs => match avs with | [.str ks, .str vs] => ((.int .u64 (headN ks vs)), [], []) | _ => (.bool false, [], [])⟩
theorem rc_box_Head_does : RcDoes Try.prog [] 33 (rc_box_Head headN) := by
  intro vb avs args blks hv hs hp
  cases hv
  cases hs with
  | str ks hs =>
    cases hs with
    | str vs hs =>
      cases hs
      have hp : (Nat.ble (ByteArray.size ks) 100000 && Nat.ble (ByteArray.size vs) 100000) = true := hp
      rw [Bool.and_eq_true] at hp
      exact DoesC.bare noVars rfl (head_told ks vs (Nat.le_of_ble_eq_true hp.1) (Nat.le_of_ble_eq_true hp.2))
noncomputable def rc_r16_Head (headN : ByteArray → ByteArray → Int) : RC := ⟨[.str, .str], fun avs => match avs with | [.str ks, .str vs] => ((Nat.ble (ByteArray.size ks) 100000) && (Nat.ble (ByteArray.size vs) 100000)) | _ => false,
  fun N avs => match avs with | [.str ks, .str vs] => ((.int .u64 (headN ks vs)), [], []) | _ => (.bool false, [], [])⟩
theorem rc_r16_Head_does : RcDoes Try.prog [] 30 (rc_r16_Head headN) := by
  intro vb avs args blks hv hs hp
  cases hv
  cases hs with
  | str ks hs =>
    cases hs with
    | str vs hs =>
      cases hs
      have hp : (Nat.ble (ByteArray.size ks) 100000 && Nat.ble (ByteArray.size vs) 100000) = true := hp
      rw [Bool.and_eq_true] at hp
      exact DoesC.bare noVars rfl (headR_told ks vs (Nat.le_of_ble_eq_true hp.1) (Nat.le_of_ble_eq_true hp.2))
noncomputable def rc_box_Lens (isWb : Int → Bool) (kLen : Int → Int) (vLen : Int → Int) : RC := ⟨[.int .u64], fun avs => match avs with | [.int w] => (isWb w) | _ => false,
  fun N avs => match avs with | [.int w] => ((.tuple #[(.int .i64 (kLen w)), (.int .i64 (vLen w))]), [], []) | _ => (.bool false, [], [])⟩
theorem rc_box_Lens_does : RcDoes Try.prog [] 31 (rc_box_Lens isWb kLen vLen) := by
  intro vb avs args blks hv hs hp
  cases hv
  cases hs with
  | int w hs =>
    cases hs
    exact DoesC.bare noVars rfl (lens_told w (isWb_word hp))
noncomputable def rc_r16_Lens (isWb : Int → Bool) (kLen : Int → Int) (vLen : Int → Int) : RC := ⟨[.int .u64], fun avs => match avs with | [.int w] => (isWb w) | _ => false,
  fun N avs => match avs with | [.int w] => ((.tuple #[(.int .i64 (kLen w)), (.int .i64 (vLen w))]), [], []) | _ => (.bool false, [], [])⟩
theorem rc_r16_Lens_does : RcDoes Try.prog [] 32 (rc_r16_Lens isWb kLen vLen) := by
  intro vb avs args blks hv hs hp
  cases hv
  cases hs with
  | int w hs =>
    cases hs
    exact DoesC.bare noVars rfl (lensR_told w (isWb_word hp))
noncomputable def rc_box_Size (isWb : Int → Bool) (sizeN : Int → Int) : RC := ⟨[.int .u64], fun avs => match avs with | [.int w] => (isWb w) | _ => false,
  fun N avs => match avs with | [.int w] => ((.int .i64 (sizeN w)), [], []) | _ => (.bool false, [], [])⟩
theorem rc_box_Size_does : RcDoes Try.prog [] 34 (rc_box_Size isWb sizeN) := by
  intro vb avs args blks hv hs hp
  cases hv
  cases hs with
  | int w hs =>
    cases hs
    exact DoesC.bare noVars rfl (size_told w (isWb_word hp))
noncomputable def rc_r16_Size (isWb : Int → Bool) (sizeN : Int → Int) : RC := ⟨[.int .u64], fun avs => match avs with | [.int w] => (isWb w) | _ => false,
  fun N avs => match avs with | [.int w] => ((.int .i64 (sizeN w)), [], []) | _ => (.bool false, [], [])⟩
theorem rc_r16_Size_does : RcDoes Try.prog [] 35 (rc_r16_Size isWb sizeN) := by
  intro vb avs args blks hv hs hp
  cases hv
  cases hs with
  | int w hs =>
    cases hs
    exact DoesC.bare noVars rfl (sizeR_told w (isWb_word hp))
noncomputable def rc_r16_word : RC := ⟨[.row .u64, .int .i64], fun avs => match avs with | [.row l, .int i] => ((decide (0 ≤ i)) && (Nat.ble (List.length l) 1000000)) | _ => false,
  fun N avs => match avs with | [.row l, .int i] => ((.int .u64 (List.getD l (Int.toNat i) 0)), [], []) | _ => (.bool false, [], [])⟩
theorem rc_r16_word_does : RcDoes Try.prog [] 55 rc_r16_word := by
  intro vb avs args blks hv hs hp
  cases hv
  cases hs with
  | row0 hs =>
    cases hs with
    | int i hs =>
      cases hs
      have hp : (decide (0 ≤ i) && Nat.ble (List.length ([] : List Int)) 1000000) = true := hp
      rw [Bool.and_eq_true, decide_eq_true_eq] at hp
      exact word0_does i hp.1
  | row off_l n_l c_l l e_l hl_l hs =>
    cases hs with
    | int i hs =>
      cases hs
      have hp : (decide (0 ≤ i) && Nat.ble (List.length l) 1000000) = true := hp
      rw [Bool.and_eq_true, decide_eq_true_eq] at hp
      exact word_does l i n_l off_l c_l e_l hl_l hp.1
noncomputable def rc_box_cut (textAt : List Int → Int → Int → ByteArray) : RC := ⟨[.row .u64, .int .i64], fun avs => match avs with | [.row l, .int k] => ((decide (0 ≤ k)) && ((decide (k ≤ 1000)) && (decide (k ≤ 8 * ((List.length l : Nat) : Int))))) | _ => false,
  fun N avs => match avs with | [.row l, .int k] => ((.string (textAt l 0 k)), [], []) | _ => (.bool false, [], [])⟩
theorem rc_box_cut_does : RcDoes Try.prog [] 54 (rc_box_cut textAt) := by
  intro vb avs args blks hv hs hp
  cases hv
  cases hs with
  | row0 hs =>
    cases hs with
    | int k hs =>
      cases hs
      have hp : (decide (0 ≤ k) && (decide (k ≤ 1000) && decide (k ≤ 8 * ((List.length ([] : List Int) : Nat) : Int)))) = true := hp
      rw [Bool.and_eq_true, Bool.and_eq_true, decide_eq_true_eq, decide_eq_true_eq, decide_eq_true_eq] at hp
      obtain ⟨r, rfl⟩ := Int.eq_ofNat_of_zero_le hp.1
      exact cut0_does r (by have h2 : ((r : Nat) : Int) ≤ 8 * (((0 : Nat) : Nat) : Int) := hp.2.2; omega)
  | row off_l n_l c_l l e_l hl_l hs =>
    cases hs with
    | int k hs =>
      cases hs
      have hp : (decide (0 ≤ k) && (decide (k ≤ 1000) && decide (k ≤ 8 * ((List.length l : Nat) : Int)))) = true := hp
      rw [Bool.and_eq_true, Bool.and_eq_true, decide_eq_true_eq, decide_eq_true_eq, decide_eq_true_eq] at hp
      obtain ⟨r, rfl⟩ := Int.eq_ofNat_of_zero_le hp.1
      exact cut_does l r n_l off_l c_l e_l hl_l (by omega) (by rw [← hl_l]; exact hp.2.2)
noncomputable def bxaT (byteRV : Int → Int → Int) (byteV : Int → Int → Int) (headN : ByteArray → ByteArray → Int) (isWb : Int → Bool) (kLen : Int → Int) (manyV : Int → Int) (sizeN : Int → Int) (textA : List Int → Int → ByteArray × Bool) (textAt : List Int → Int → Int → ByteArray) (textR : List Int → Int → ByteArray × Bool) (vLen : Int → Int) (withRV : Int → Int → Int → Int) (wordsA : ByteArray → List Int) (wordsR : ByteArray → List Int) : RTab := fun f => match f with
  | 11 => some rc_sprocketlaw04_awake
  | 48 => some (rc_lane_Byte byteV)
  | 49 => some (rc_r02_Byte byteRV)
  | 50 => some (rc_r02_With withRV)
  | 17 => some (rc_pack_Many manyV)
  | 18 => some (rc_r04_Many manyV)
  | 15 => some (rc_pack_Words wordsA)
  | 16 => some (rc_r04_Words wordsR)
  | 12 => some (rc_pack_Text textA)
  | 13 => some (rc_r04_Text textR)
  | 14 => some rc_r02_Words
  | 33 => some (rc_box_Head headN)
  | 30 => some (rc_r16_Head headN)
  | 31 => some (rc_box_Lens isWb kLen vLen)
  | 32 => some (rc_r16_Lens isWb kLen vLen)
  | 34 => some (rc_box_Size isWb sizeN)
  | 35 => some (rc_r16_Size isWb sizeN)
  | 55 => some rc_r16_word
  | 54 => some (rc_box_cut textAt)
  | _ => none
def bxaDom : List FuncId := [11, 48, 49, 50, 17, 18, 15, 16, 12, 13, 14, 33, 30, 31, 32, 34, 35, 55, 54]
theorem bxa_does : ∀ f rc, f ∈ bxaDom → (bxaT byteRV byteV headN isWb kLen manyV sizeN textA textAt textR vLen withRV wordsA wordsR) f = some rc → RcDoes Try.prog [] f rc := by
  intro f rc hf hT
  simp only [bxaDom, List.mem_cons, List.not_mem_nil, or_false] at hf
  rcases hf with rfl | rfl | rfl | rfl | rfl | rfl | rfl | rfl | rfl | rfl | rfl | rfl | rfl | rfl | rfl | rfl | rfl | rfl | rfl
  · cases hT; exact rc_sprocketlaw04_awake_does
  · cases hT; exact rc_lane_Byte_does
  · cases hT; exact rc_r02_Byte_does
  · cases hT; exact rc_r02_With_does
  · cases hT; exact rc_pack_Many_does
  · cases hT; exact rc_r04_Many_does
  · cases hT; exact rc_pack_Words_does
  · cases hT; exact rc_r04_Words_does
  · cases hT; exact rc_pack_Text_does
  · cases hT; exact rc_r04_Text_does
  · cases hT; exact rc_r02_Words_does
  · cases hT; exact rc_box_Head_does
  · cases hT; exact rc_r16_Head_does
  · cases hT; exact rc_box_Lens_does
  · cases hT; exact rc_r16_Lens_does
  · cases hT; exact rc_box_Size_does
  · cases hT; exact rc_r16_Size_does
  · cases hT; exact rc_r16_word_does
  · cases hT; exact rc_box_cut_does
theorem bxa_fn : ∀ f ∈ bxaDom, FnOk Try.prog f := fun f hf => fitX.fnOk f (by
    have h0 : (bxaDom.all fun f => fsX.contains f) = true := by kernel_rfl
    simpa using List.all_eq_true.1 h0 f hf)
theorem bxa_sound : SoundC Try.prog (conC bxaDom (rcE [] (bxaT byteRV byteV headN isWb kLen manyV sizeN textA textAt textR vLen withRV wordsA wordsR))) := rc_sound noVars bxa_fn bxa_does

end Go.Proofs.Ytnhdjmpbmecnoaa
