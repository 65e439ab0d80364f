/- The reader asks for what the plain reader reads, whatever words it is told. -/
import Derived.Test.YtnhdjmpbmecnoaaRdA
import Derived.WalkKit
import Derived.ProofKit
import Derived.OpenShut
import Derived.ChangeOld
import Derived.Below
import Derived.SizedLaws
namespace Go.Proofs.Ytnhdjmpbmecnoaa.readerActs
open Go.Eng
open Go.ChangeShapes Go.WideShapes Go.ChangeAt Go.RowKit
set_option linter.unusedVariables false
set_option linter.unusedSimpArgs false
set_option maxRecDepth 100000
noncomputable def cfgA5 : Cfg := ⟨[35, 39]⟩
noncomputable def fsA5 : List FuncId := [5, 11, 12, 13, 14, 15, 16, 17, 18, 19, 20, 21, 22, 23, 24, 26, 27, 28, 29, 30, 31, 32, 33, 34, 35, 48, 49, 50, 52, 53, 54, 55, 56]
theorem fitA5 : Fit Try.prog cfgA5 fsA5 := ⟨by kernel_rfl, Cfg.ok_of (by kernel_rfl), by kernel_rfl⟩
theorem awake18_told : Tells Try.prog 19 [] (bare Try.prog) (.bool true) := by
  refine Tells.of_tree (h := (bareK Try.prog)) fitA5 rdn_sound (rc_agree _ _ _) (by kernel_rfl) rfl (show Ro (bare Try.prog) from Ro.bare) (n := 70) (d := 40) ?_
  kernel_rfl
noncomputable def rc_sprocketlaw18_awake : RC := ⟨[], fun avs => match avs with | [] => true | _ => false,
  fun N avs => match avs with | [] => ((.bool true), [], []) | _ => (.bool false, [], [])⟩
theorem rc_sprocketlaw18_awake_does : RcDoes Try.prog [] 19 rc_sprocketlaw18_awake := by
  intro vb avs args blks hv hs hp
  cases hv
  cases hs
  exact DoesC.bare noVars rfl awake18_told
noncomputable def wraT (byteRV : Int → Int → Int) (byteV : Int → Int → Int) (headN : ByteArray → ByteArray → Int) (isWb : Int → Bool) (isWs : List Int → Bool) (kLen : Int → Int) (manyV : Int → Int) (rdA : List Int → Int → Int → Int) (rdAt : List Int → Int) (rdOver : List Int → Bool) (rdRow : List Int → List Int) (sizeN : Int → Int) (textA : List Int → Int → ByteArray × Bool) (textAt : List Int → Int → Int → ByteArray) (textR : List Int → Int → ByteArray × Bool) (vLen : Int → Int) (withRV : Int → Int → Int → Int) (wordsA : ByteArray → List Int) (wordsR : ByteArray → List Int) : RTab := fun f => match f with
  | 19 => some rc_sprocketlaw18_awake
  | 11 => some rc_sprocketlaw04_awake
  | 48 => some (rc_lane_Byte byteV)
  | 49 => some (rc_r02_Byte byteRV)
  | 50 => some (rc_r02_With withRV)
  | 17 => some (rc_pack_Many manyV)
  | 18 => some (rc_r04_Many manyV)
  | 15 => some (rc_pack_Words wordsA)
  | 16 => some (rc_r04_Words wordsR)
  | 12 => some (rc_pack_Text textA)
  | 13 => some (rc_r04_Text textR)
  | 14 => some rc_r02_Words
  | 33 => some (rc_box_Head headN)
  | 30 => some (rc_r16_Head headN)
  | 31 => some (rc_box_Lens isWb kLen vLen)
  | 32 => some (rc_r16_Lens isWb kLen vLen)
  | 34 => some (rc_box_Size isWb sizeN)
  | 35 => some (rc_r16_Size isWb sizeN)
  | 55 => some rc_r16_word
  | 54 => some (rc_box_cut textAt)
  | 56 => some (rc_r16_bytes isWs textAt)
  | 28 => some (rc_box_Read isWs kLen manyV textAt vLen)
  | 29 => some (rc_r16_Read isWs kLen manyV textAt vLen)
  | 21 => some (rc_r18_Read isWs kLen manyV rdA rdAt rdOver rdRow textAt vLen)
  | _ => none
def wraDom : List FuncId := [19, 11, 48, 49, 50, 17, 18, 15, 16, 12, 13, 14, 33, 30, 31, 32, 34, 35, 55, 54, 56, 28, 29, 21]
theorem wra_does : ∀ f rc, f ∈ wraDom → (wraT byteRV byteV headN isWb isWs kLen manyV rdA rdAt rdOver rdRow sizeN textA textAt textR vLen withRV wordsA wordsR) f = some rc → RcDoes Try.prog [] f rc := by
  intro f rc hf hT
  simp only [wraDom, List.mem_cons, List.not_mem_nil, or_false] at hf
  rcases hf with rfl | rfl | rfl | rfl | rfl | rfl | rfl | rfl | rfl | rfl | rfl | rfl | rfl | rfl | rfl | rfl | rfl | rfl | rfl | rfl | rfl | rfl | rfl | rfl
  · cases hT; exact rc_sprocketlaw18_awake_does
  · cases hT; exact rc_sprocketlaw04_awake_does
  · cases hT; exact rc_lane_Byte_does
  · cases hT; exact rc_r02_Byte_does
  · cases hT; exact rc_r02_With_does
  · cases hT; exact rc_pack_Many_does
  · cases hT; exact rc_r04_Many_does
  · cases hT; exact rc_pack_Words_does
  · cases hT; exact rc_r04_Words_does
  · cases hT; exact rc_pack_Text_does
  · cases hT; exact rc_r04_Text_does
  · cases hT; exact rc_r02_Words_does
  · cases hT; exact rc_box_Head_does
  · cases hT; exact rc_r16_Head_does
  · cases hT; exact rc_box_Lens_does
  · cases hT; exact rc_r16_Lens_does
  · cases hT; exact rc_box_Size_does
  · cases hT; exact rc_r16_Size_does
  · cases hT; exact rc_r16_word_does
  · cases hT; exact rc_box_cut_does
  · cases hT; exact rc_r16_bytes_does
  · cases hT; exact rc_box_Read_does
  · cases hT; exact rc_r16_Read_does
  · cases hT; exact rc_r18_Read_does
theorem wra_fn : ∀ f ∈ wraDom, FnOk Try.prog f := fun f hf => fitA5.fnOk f (by
    have h0 : (wraDom.all fun f => fsA5.contains f) = true := by kernel_rfl
    simpa using List.all_eq_true.1 h0 f hf)
theorem wra_sound : SoundC Try.prog (conC wraDom (rcE [] (wraT byteRV byteV headN isWb isWs kLen manyV rdA rdAt rdOver rdRow sizeN textA textAt textR vLen withRV wordsA wordsR))) := rc_sound noVars wra_fn wra_does
noncomputable def BM : Code := bodyOf Try.prog 5
theorem BM_is : Try.f5.body = some BM := by kernel_rfl
theorem BM_ok : okCode Try.prog.globals.size BM = true := by kernel_rfl
noncomputable abbrev MEV (byteRV : Int → Int → Int) (byteV : Int → Int → Int) (headN : ByteArray → ByteArray → Int) (isWb : Int → Bool) (isWs : List Int → Bool) (kLen : Int → Int) (manyV : Int → Int) (rdA : List Int → Int → Int → Int) (rdAt : List Int → Int) (rdOver : List Int → Bool) (rdRow : List Int → List Int) (sizeN : Int → Int) (textA : List Int → Int → ByteArray × Bool) (textAt : List Int → Int → Int → ByteArray) (textR : List Int → Int → ByteArray × Bool) (vLen : Int → Int) (withRV : Int → Int → Int → Int) (wordsA : ByteArray → List Int) (wordsR : ByteArray → List Int) (c : Code) (s : KSt) (lv : List Nat) : Option (Ex × KSt) := evCK Try.prog cfgA5 (runK Try.prog cfgA5 fsA5 (conTk wraDom (rcK [] (wraT byteRV byteV headN isWb isWs kLen manyV rdA rdAt rdOver rdRow sizeN textA textAt textR vLen withRV wordsA wordsR))) 14 40) 14 c s (normC 1 lv)
theorem Mgo {lv_ : List Nat} {co_ : Code} {st_ s' : KSt} {x : Ex} {Q : Ex → St → Prop} {off : Nat} {l : List Int} {e : TypeId} (hE_ : MEV byteRV byteV headN isWb isWs kLen manyV rdA rdAt rdOver rdRow sizeN textA textAt textR vLen withRV wordsA wordsR co_ st_ lv_ = some (x, s')) (hq_ : Q x s'.low) (hok_ : okCode Try.prog.globals.size co_ = true := by kernel_rfl) : Gets Try.prog (KH.low ⟨1, 1, [(0, 0, .tail off .u64 l e)]⟩) co_ st_.low Q := Gets.ofN fitA5 wra_sound (rc_agree _ _ _) 14 40 hok_ hE_ hq_
theorem MeX {v : Value} {b c : Bool} (h : v = .bool b) (hb : b = c) : v = .bool c := by rw [h, hb]
theorem MC : BM = .seq (codeAt [0] BM) (codeAt [1] BM) := by kernel_rfl
theorem MC1 : (codeAt [1] BM) = .seq (codeAt [1, 0] BM) (codeAt [1, 1] BM) := by kernel_rfl
theorem MC1_0 : (codeAt [1, 0] BM) = .seq (codeAt [1, 0, 0] BM) (codeAt [1, 0, 1] BM) := by kernel_rfl
theorem MC1_0_1 : (codeAt [1, 0, 1] BM) = .cond (.tmp 15) (codeAt [1, 0, 1, 0] BM) (codeAt [1, 0, 1, 1] BM) := by kernel_rfl
theorem MC1_1 : (codeAt [1, 1] BM) = .seq (codeAt [1, 1, 0] BM) (codeAt [1, 1, 1] BM) := by kernel_rfl
theorem MC1_1_1 : (codeAt [1, 1, 1] BM) = .seq (codeAt [1, 1, 1, 0] BM) (codeAt [1, 1, 1, 1] BM) := by kernel_rfl
theorem MC1_1_1_0 : (codeAt [1, 1, 1, 0] BM) = .seq (codeAt [1, 1, 1, 0, 0] BM) (codeAt [1, 1, 1, 0, 1] BM) := by kernel_rfl
theorem MC1_1_1_0_1_0_0 : (codeAt [1, 1, 1, 0, 1, 0, 0] BM) = .seq (codeAt [1, 1, 1, 0, 1, 0, 0, 0] BM) (codeAt [1, 1, 1, 0, 1, 0, 0, 1] BM) := by kernel_rfl
theorem MC1_1_1_0_1_0_0_0 : (codeAt [1, 1, 1, 0, 1, 0, 0, 0] BM) = .seq (codeAt [1, 1, 1, 0, 1, 0, 0, 0, 0] BM) (codeAt [1, 1, 1, 0, 1, 0, 0, 0, 1] BM) := by kernel_rfl
theorem MC1_1_1_0_1_0_0_0_1 : (codeAt [1, 1, 1, 0, 1, 0, 0, 0, 1] BM) = .cond (.tmp 22) (codeAt [1, 1, 1, 0, 1, 0, 0, 0, 1, 0] BM) (codeAt [1, 1, 1, 0, 1, 0, 0, 0, 1, 1] BM) := by kernel_rfl
theorem MC1_1_1_0_1_0_0_1 : (codeAt [1, 1, 1, 0, 1, 0, 0, 1] BM) = .seq (codeAt [1, 1, 1, 0, 1, 0, 0, 1, 0] BM) (codeAt [1, 1, 1, 0, 1, 0, 0, 1, 1] BM) := by kernel_rfl
theorem MC1_1_1_0_1_0_0_1_0 : (codeAt [1, 1, 1, 0, 1, 0, 0, 1, 0] BM) = .block 1 (codeAt [1, 1, 1, 0, 1, 0, 0, 1, 0, 0] BM) := by kernel_rfl
theorem MC1_1_1_0_1_0_0_1_0_0 : (codeAt [1, 1, 1, 0, 1, 0, 0, 1, 0, 0] BM) = .seq (codeAt [1, 1, 1, 0, 1, 0, 0, 1, 0, 0, 0] BM) (codeAt [1, 1, 1, 0, 1, 0, 0, 1, 0, 0, 1] BM) := by kernel_rfl
theorem MC1_1_1_0_1_0_0_1_0_0_1 : (codeAt [1, 1, 1, 0, 1, 0, 0, 1, 0, 0, 1] BM) = .seq (codeAt [1, 1, 1, 0, 1, 0, 0, 1, 0, 0, 1, 0] BM) (codeAt [1, 1, 1, 0, 1, 0, 0, 1, 0, 0, 1, 1] BM) := by kernel_rfl
theorem MC1_1_1_0_1_0_0_1_0_0_1_1 : (codeAt [1, 1, 1, 0, 1, 0, 0, 1, 0, 0, 1, 1] BM) = .seq (codeAt [1, 1, 1, 0, 1, 0, 0, 1, 0, 0, 1, 1, 0] BM) (codeAt [1, 1, 1, 0, 1, 0, 0, 1, 0, 0, 1, 1, 1] BM) := by kernel_rfl
theorem MC1_1_1_0_1_0_0_1_0_0_1_1_1 : (codeAt [1, 1, 1, 0, 1, 0, 0, 1, 0, 0, 1, 1, 1] BM) = .seq (codeAt [1, 1, 1, 0, 1, 0, 0, 1, 0, 0, 1, 1, 1, 0] BM) (codeAt [1, 1, 1, 0, 1, 0, 0, 1, 0, 0, 1, 1, 1, 1] BM) := by kernel_rfl
theorem MC1_1_1_0_1_0_0_1_0_0_1_1_1_1 : (codeAt [1, 1, 1, 0, 1, 0, 0, 1, 0, 0, 1, 1, 1, 1] BM) = .seq (codeAt [1, 1, 1, 0, 1, 0, 0, 1, 0, 0, 1, 1, 1, 1, 0] BM) (codeAt [1, 1, 1, 0, 1, 0, 0, 1, 0, 0, 1, 1, 1, 1, 1] BM) := by kernel_rfl
theorem MC1_1_1_0_1_0_0_1_0_0_1_1_1_1_0 : (codeAt [1, 1, 1, 0, 1, 0, 0, 1, 0, 0, 1, 1, 1, 1, 0] BM) = .seq (codeAt [1, 1, 1, 0, 1, 0, 0, 1, 0, 0, 1, 1, 1, 1, 0, 0] BM) (codeAt [1, 1, 1, 0, 1, 0, 0, 1, 0, 0, 1, 1, 1, 1, 0, 1] BM) := by kernel_rfl
theorem MC1_1_1_0_1_0_0_1_0_0_1_1_1_1_0_1 : (codeAt [1, 1, 1, 0, 1, 0, 0, 1, 0, 0, 1, 1, 1, 1, 0, 1] BM) = .cond (.tmp 81) (codeAt [1, 1, 1, 0, 1, 0, 0, 1, 0, 0, 1, 1, 1, 1, 0, 1, 0] BM) (codeAt [1, 1, 1, 0, 1, 0, 0, 1, 0, 0, 1, 1, 1, 1, 0, 1, 1] BM) := by kernel_rfl
theorem MC1_1_1_0_1_0_0_1_0_0_1_1_1_1_1 : (codeAt [1, 1, 1, 0, 1, 0, 0, 1, 0, 0, 1, 1, 1, 1, 1] BM) = .seq (codeAt [1, 1, 1, 0, 1, 0, 0, 1, 0, 0, 1, 1, 1, 1, 1, 0] BM) (codeAt [1, 1, 1, 0, 1, 0, 0, 1, 0, 0, 1, 1, 1, 1, 1, 1] BM) := by kernel_rfl
theorem MC1_1_1_0_1_0_0_1_0_0_1_1_1_1_1_1 : (codeAt [1, 1, 1, 0, 1, 0, 0, 1, 0, 0, 1, 1, 1, 1, 1, 1] BM) = .cond (.tmp 85) (codeAt [1, 1, 1, 0, 1, 0, 0, 1, 0, 0, 1, 1, 1, 1, 1, 1, 0] BM) (codeAt [1, 1, 1, 0, 1, 0, 0, 1, 0, 0, 1, 1, 1, 1, 1, 1, 1] BM) := by kernel_rfl
theorem MC1_1_1_0_1_0_0_0_1_1 : (codeAt [1, 1, 1, 0, 1, 0, 0, 0, 1, 1] BM) = .exit 0 := by kernel_rfl
theorem MC1_0_1_0 : (codeAt [1, 0, 1, 0] BM) = .seq (codeAt [1, 0, 1, 0, 0] BM) (codeAt [1, 0, 1, 0, 1] BM) := by kernel_rfl
theorem MC1_0_1_0_1 : (codeAt [1, 0, 1, 0, 1] BM) = .ret := by kernel_rfl
theorem MC1_1_1_1 : (codeAt [1, 1, 1, 1] BM) = .seq (codeAt [1, 1, 1, 1, 0] BM) (codeAt [1, 1, 1, 1, 1] BM) := by kernel_rfl
theorem MC1_1_1_1_1 : (codeAt [1, 1, 1, 1, 1] BM) = .ret := by kernel_rfl
theorem MC1_1_1_0_1 : (codeAt [1, 1, 1, 0, 1] BM) = .block 0 (codeAt [1, 1, 1, 0, 1, 0] BM) := by kernel_rfl
theorem MC1_1_1_0_1_0 : (codeAt [1, 1, 1, 0, 1, 0] BM) = .loop (codeAt [1, 1, 1, 0, 1, 0, 0] BM) := by kernel_rfl
section
variable (byteRV : Int → Int → Int) (byteV : Int → Int → Int) (headN : ByteArray → ByteArray → Int) (isWb : Int → Bool) (isWs : List Int → Bool) (kLen : Int → Int) (manyV : Int → Int) (rdA : List Int → Int → Int → Int) (rdAt : List Int → Int) (rdOver : List Int → Bool) (rdRow : List Int → List Int) (sizeN : Int → Int) (textA : List Int → Int → ByteArray × Bool) (textAt : List Int → Int → Int → ByteArray) (textR : List Int → Int → ByteArray × Bool) (vLen : Int → Int) (withRV : Int → Int → Int → Int) (wordsA : ByteArray → List Int) (wordsR : ByteArray → List Int)
noncomputable def MS0 (bk : Int) (off : Nat) (n : Nat) (c : Nat) (l : List Int) (e : TypeId) : KSt := (firstK [(.int .u64 bk), (.slice (some ⟨0, off, none⟩) n c)] 93 ⟨1, 1, [(0, 0, .tail off .u64 l e)]⟩)
noncomputable def MS1 (bk : Int) (off : Nat) (n : Nat) (c : Nat) (l : List Int) (e : TypeId) : KSt := ⟨(frameL 93 [(0, (.int .u64 bk)), (1, (.slice (some ⟨0, off, none⟩) n c))]), ⟨1, 1, [(0, 0, .tail off .u64 l e)]⟩⟩
theorem MR1 (bk : Int) (off : Nat) (n : Nat) (c : Nat) (l : List Int) (e : TypeId) : MEV byteRV byteV headN isWb isWs kLen manyV rdA rdAt rdOver rdRow sizeN textA textAt textR vLen withRV wordsA wordsR (codeAt [0] BM) (MS0 bk off n c l e) [0, 1] =
  some (.normal, (MS1 bk off n c l e)) := by kernel_rfl
noncomputable def MS2 (bk : Int) (off : Nat) (n : Nat) (c : Nat) (l : List Int) (e : TypeId) : KSt := ⟨(frameL 93 [(0, (.int .u64 bk)), (1, (.slice (some ⟨0, off, none⟩) n c)), (15, (.bool (decide (((n : Nat) : Int) > 20))))]), ⟨1, 1, [(0, 0, .tail off .u64 l e)]⟩⟩
theorem MR2 (bk : Int) (off : Nat) (n : Nat) (c : Nat) (l : List Int) (e : TypeId) : MEV byteRV byteV headN isWb isWs kLen manyV rdA rdAt rdOver rdRow sizeN textA textAt textR vLen withRV wordsA wordsR (codeAt [1, 0, 0] BM) (MS1 bk off n c l e) [0, 1, 15] =
  some (.normal, (MS2 bk off n c l e)) := by kernel_rfl
theorem MR3 (bk : Int) (off : Nat) (n : Nat) (c : Nat) (l : List Int) (e : TypeId) : MEV byteRV byteV headN isWb isWs kLen manyV rdA rdAt rdOver rdRow sizeN textA textAt textR vLen withRV wordsA wordsR (codeAt [1, 0, 1, 1] BM) (MS2 bk off n c l e) [0, 1] =
  some (.normal, (MS1 bk off n c l e)) := by kernel_rfl
noncomputable def MS3 (bk : Int) (off : Nat) (n : Nat) (c : Nat) (l : List Int) (e : TypeId) : KSt := ⟨(frameL 93 [(0, (.int .u64 bk)), (1, (.slice (some ⟨0, off, none⟩) n c)), (5, (.pointer (some ⟨1, 0, none⟩)))]), ⟨2, 1, [(1, 0, .cells [(.slice none 0 0), (.bool true), (.int .u64 bk)] 79 true), (0, 0, .tail off .u64 l e)]⟩⟩
theorem MR4 (bk : Int) (off : Nat) (n : Nat) (c : Nat) (l : List Int) (e : TypeId) : MEV byteRV byteV headN isWb isWs kLen manyV rdA rdAt rdOver rdRow sizeN textA textAt textR vLen withRV wordsA wordsR (codeAt [1, 1, 0] BM) (MS1 bk off n c l e) [0, 1, 5] =
  some (.normal, (MS3 bk off n c l e)) := by kernel_rfl
noncomputable def MS4 (bk : Int) (off : Nat) (n : Nat) (c : Nat) (l : List Int) (e : TypeId) : KSt := ⟨(frameL 93 [(0, (.int .u64 bk)), (1, (.slice (some ⟨0, off, none⟩) n c)), (5, (.pointer (some ⟨1, 0, none⟩))), (6, (.int .i64 0))]), ⟨2, 1, [(1, 0, .cells [(.slice none 0 0), (.bool true), (.int .u64 bk)] 79 true), (0, 0, .tail off .u64 l e)]⟩⟩
theorem MR5 (bk : Int) (off : Nat) (n : Nat) (c : Nat) (l : List Int) (e : TypeId) : MEV byteRV byteV headN isWb isWs kLen manyV rdA rdAt rdOver rdRow sizeN textA textAt textR vLen withRV wordsA wordsR (codeAt [1, 1, 1, 0, 0] BM) (MS3 bk off n c l e) [0, 1, 5, 6] =
  some (.normal, (MS4 bk off n c l e)) := by kernel_rfl
noncomputable def MS5 (bk : Int) (off : Nat) (n : Nat) (c : Nat) (l : List Int) (e : TypeId) : KSt := ⟨(frameL 93 [(0, (.int .u64 bk)), (1, (.slice (some ⟨0, off, none⟩) n c)), (5, (.pointer (some ⟨1, 0, none⟩))), (6, (.int .i64 0)), (22, (.bool (decide (0 ≤ ((n : Nat) : Int)))))]), ⟨2, 1, [(1, 0, .cells [(.slice none 0 0), (.bool true), (.int .u64 bk)] 79 true), (0, 0, .tail off .u64 l e)]⟩⟩
theorem MR6 (bk : Int) (off : Nat) (n : Nat) (c : Nat) (l : List Int) (e : TypeId) : MEV byteRV byteV headN isWb isWs kLen manyV rdA rdAt rdOver rdRow sizeN textA textAt textR vLen withRV wordsA wordsR (codeAt [1, 1, 1, 0, 1, 0, 0, 0, 0] BM) (MS4 bk off n c l e) [0, 1, 5, 6, 22] =
  some (.normal, (MS5 bk off n c l e)) := by kernel_rfl
theorem MR7 (bk : Int) (off : Nat) (n : Nat) (c : Nat) (l : List Int) (e : TypeId) : MEV byteRV byteV headN isWb isWs kLen manyV rdA rdAt rdOver rdRow sizeN textA textAt textR vLen withRV wordsA wordsR (codeAt [1, 1, 1, 0, 1, 0, 0, 0, 1, 0] BM) (MS5 bk off n c l e) [0, 1, 5, 6] =
  some (.normal, (MS4 bk off n c l e)) := by kernel_rfl
noncomputable def MS6 (bk : Int) (off : Nat) (n : Nat) (c : Nat) (l : List Int) (e : TypeId) : KSt := ⟨(frameL 93 [(0, (.int .u64 bk)), (1, (.slice (some ⟨0, off, none⟩) n c)), (5, (.pointer (some ⟨1, 0, none⟩))), (6, (.int .i64 0)), (7, (.pointer (some ⟨2, 0, none⟩)))]), ⟨3, 1, [(2, 0, .cells [(.slice (some ⟨0, 0, some 0⟩) 0 0), (.int .i64 0), (.bool false), (.int .i64 0), (.int .u64 0), (.int .i64 0), (.int .u64 0), (.int .u64 0)] 37 true), (1, 0, .cells [(.slice none 0 0), (.bool true), (.int .u64 bk)] 79 true), (0, 0, .tail off .u64 l e)]⟩⟩
noncomputable def MS7 (bk : Int) (off : Nat) (n : Nat) (c : Nat) (l : List Int) (e : TypeId) : KSt := ⟨(frameL 93 [(0, (.int .u64 bk)), (1, (.slice (some ⟨0, off, none⟩) n c)), (5, (.pointer (some ⟨1, 0, none⟩))), (6, (.int .i64 0)), (7, (.pointer (some ⟨2, 0, none⟩)))]), ⟨3, 1, [(2, 0, .cells [(.slice (some ⟨0, (off + 0), none⟩) 0 (c - 0)), (.int .i64 0), (.bool false), (.int .i64 0), (.int .u64 0), (.int .i64 0), (.int .u64 0), (.int .u64 0)] 37 true), (1, 0, .cells [(.slice none 0 0), (.bool true), (.int .u64 bk)] 79 true), (0, 0, .tail off .u64 l e)]⟩⟩
theorem MR8 (bk : Int) (off : Nat) (n : Nat) (c : Nat) (l : List Int) (e : TypeId) : MEV byteRV byteV headN isWb isWs kLen manyV rdA rdAt rdOver rdRow sizeN textA textAt textR vLen withRV wordsA wordsR (codeAt [1, 1, 1, 0, 1, 0, 0, 1, 0, 0, 0] BM) (MS4 bk off n c l e) [0, 1, 5, 6, 7] =
  if (0 : Int) ≤ 0 ∧ 0 ≤ ((c : Nat) : Int) then
    bif (true && (Nat.ble 0 c)) then
      bif (Nat.beq c 0) then
        some (.normal, (MS6 bk off n c l e))
      else
        some (.normal, (MS7 bk off n c l e))
    else
      none
  else
    none := by kernel_rfl
noncomputable def MS8 (bk : Int) (off : Nat) (n : Nat) (c : Nat) (l : List Int) (e : TypeId) : KSt := ⟨(frameL 93 [(0, (.int .u64 bk)), (1, (.slice (some ⟨0, off, none⟩) n c)), (5, (.pointer (some ⟨1, 0, none⟩))), (6, (.int .i64 0)), (7, (.pointer (some ⟨2, 0, none⟩))), (8, (.pointer (some ⟨3, 0, none⟩)))]), ⟨4, 1, [(3, 0, .cells [(.string (textAt (rdRow (List.take 0 (List.drop ((off + 0) - off) l))) 1 (kLen (List.getD (rdRow (List.take 0 (List.drop ((off + 0) - off) l))) 0 0)))), (.string (textAt (rdRow (List.take 0 (List.drop ((off + 0) - off) l))) (1 + manyV (kLen (List.getD (rdRow (List.take 0 (List.drop ((off + 0) - off) l))) 0 0))) (vLen (List.getD (rdRow (List.take 0 (List.drop ((off + 0) - off) l))) 0 0))))] 39 true), (2, 0, .cells [(.slice (some ⟨0, (off + 0), none⟩) 0 (c - 0)), (.int .i64 (rdAt (List.take 0 (List.drop ((off + 0) - off) l)))), (.bool (rdOver (List.take 0 (List.drop ((off + 0) - off) l)))), (.int .i64 (rdA (List.take 0 (List.drop ((off + 0) - off) l)) 1 0)), (.int .u64 (rdA (List.take 0 (List.drop ((off + 0) - off) l)) bk 0)), (.int .i64 (rdA (List.take 0 (List.drop ((off + 0) - off) l)) ((List.length (List.take 0 (List.drop ((off + 0) - off) l)) : Nat) : Int) 0)), (.int .u64 (rdA (List.take 0 (List.drop ((off + 0) - off) l)) 0 0)), (.int .u64 (rdA (List.take 0 (List.drop ((off + 0) - off) l)) 0 0))] 37 true), (1, 0, .cells [(.slice none 0 0), (.bool true), (.int .u64 bk)] 79 true), (0, 0, .tail off .u64 l e)]⟩⟩
theorem MR9 (bk : Int) (off : Nat) (n : Nat) (c : Nat) (l : List Int) (e : TypeId) : MEV byteRV byteV headN isWb isWs kLen manyV rdA rdAt rdOver rdRow sizeN textA textAt textR vLen withRV wordsA wordsR (codeAt [1, 1, 1, 0, 1, 0, 0, 1, 0, 0, 1, 0] BM) (MS7 bk off n c l e) [0, 1, 5, 6, 7, 8] =
  bif (Nat.ble off (off + 0)) then
    bif (Nat.ble (((off + 0) - off) + 0) (List.length l)) then
      bif ((decide (0 = 0)) && ((!false) && ((Nat.ble (List.length (List.take 0 (List.drop ((off + 0) - off) l))) 999) && (isWs (List.take 0 (List.drop ((off + 0) - off) l)))))) then
        some (.normal, (MS8 kLen manyV rdA rdAt rdOver rdRow textAt vLen bk off n c l e))
      else
        none
    else
      none
  else
    none := by kernel_rfl
noncomputable def MS9 (bk : Int) (off : Nat) (n : Nat) (c : Nat) (l : List Int) (e : TypeId) : KSt := ⟨(frameL 93 [(0, (.int .u64 bk)), (1, (.slice (some ⟨0, off, none⟩) n c)), (5, (.pointer (some ⟨1, 0, none⟩))), (6, (.int .i64 0)), (7, (.pointer (some ⟨2, 0, none⟩))), (8, (.pointer (some ⟨3, 0, none⟩))), (9, (.pointer (some ⟨4, 0, none⟩))), (10, (.bool false))]), ⟨5, 1, [(4, 0, .cells [(.string ⟨#[]⟩), (.string ⟨#[]⟩)] 39 true), (3, 0, .cells [(.string (textAt (rdRow (List.take 0 (List.drop ((off + 0) - off) l))) 1 (kLen (List.getD (rdRow (List.take 0 (List.drop ((off + 0) - off) l))) 0 0)))), (.string (textAt (rdRow (List.take 0 (List.drop ((off + 0) - off) l))) (1 + manyV (kLen (List.getD (rdRow (List.take 0 (List.drop ((off + 0) - off) l))) 0 0))) (vLen (List.getD (rdRow (List.take 0 (List.drop ((off + 0) - off) l))) 0 0))))] 39 true), (2, 0, .cells [(.slice (some ⟨0, (off + 0), none⟩) 0 (c - 0)), (.int .i64 (rdAt (List.take 0 (List.drop ((off + 0) - off) l)))), (.bool (rdOver (List.take 0 (List.drop ((off + 0) - off) l)))), (.int .i64 (rdA (List.take 0 (List.drop ((off + 0) - off) l)) 1 0)), (.int .u64 (rdA (List.take 0 (List.drop ((off + 0) - off) l)) bk 0)), (.int .i64 (rdA (List.take 0 (List.drop ((off + 0) - off) l)) ((List.length (List.take 0 (List.drop ((off + 0) - off) l)) : Nat) : Int) 0)), (.int .u64 (rdA (List.take 0 (List.drop ((off + 0) - off) l)) 0 0)), (.int .u64 (rdA (List.take 0 (List.drop ((off + 0) - off) l)) 0 0))] 37 true), (1, 0, .cells [(.slice none 0 0), (.bool true), (.int .u64 bk)] 79 true), (0, 0, .tail off .u64 l e)]⟩⟩
theorem MR10 (bk : Int) (off : Nat) (n : Nat) (c : Nat) (l : List Int) (e : TypeId) : MEV byteRV byteV headN isWb isWs kLen manyV rdA rdAt rdOver rdRow sizeN textA textAt textR vLen withRV wordsA wordsR (codeAt [1, 1, 1, 0, 1, 0, 0, 1, 0, 0, 1, 1, 0] BM) (MS8 kLen manyV rdA rdAt rdOver rdRow textAt vLen bk off n c l e) [0, 1, 5, 6, 7, 8, 9, 10] =
  some (.normal, (MS9 kLen manyV rdA rdAt rdOver rdRow textAt vLen bk off n c l e)) := by kernel_rfl
noncomputable def MS10 (bk : Int) (off : Nat) (n : Nat) (c : Nat) (l : List Int) (e : TypeId) : KSt := ⟨(frameL 93 [(0, (.int .u64 bk)), (1, (.slice (some ⟨0, off, none⟩) n c)), (5, (.pointer (some ⟨1, 0, none⟩))), (6, (.int .i64 0)), (7, (.pointer (some ⟨2, 0, none⟩))), (8, (.pointer (some ⟨3, 0, none⟩))), (9, (.pointer (some ⟨4, 0, none⟩))), (10, (.bool false)), (11, (.pointer (some ⟨5, 0, none⟩))), (12, (.bool true))]), ⟨6, 1, [(5, 0, .cells [(.int .i64 1), (.int .u64 bk), (.int .i64 0), (.int .u64 0), (.int .u64 0)] 35 true), (4, 0, .cells [(.string ⟨#[]⟩), (.string ⟨#[]⟩)] 39 true), (3, 0, .cells [(.string (textAt (rdRow (List.take 0 (List.drop ((off + 0) - off) l))) 1 (kLen (List.getD (rdRow (List.take 0 (List.drop ((off + 0) - off) l))) 0 0)))), (.string (textAt (rdRow (List.take 0 (List.drop ((off + 0) - off) l))) (1 + manyV (kLen (List.getD (rdRow (List.take 0 (List.drop ((off + 0) - off) l))) 0 0))) (vLen (List.getD (rdRow (List.take 0 (List.drop ((off + 0) - off) l))) 0 0))))] 39 true), (2, 0, .cells [(.slice (some ⟨0, (off + 0), none⟩) 0 (c - 0)), (.int .i64 (rdAt (List.take 0 (List.drop ((off + 0) - off) l)))), (.bool (rdOver (List.take 0 (List.drop ((off + 0) - off) l)))), (.int .i64 (rdA (List.take 0 (List.drop ((off + 0) - off) l)) 1 0)), (.int .u64 (rdA (List.take 0 (List.drop ((off + 0) - off) l)) bk 0)), (.int .i64 (rdA (List.take 0 (List.drop ((off + 0) - off) l)) ((List.length (List.take 0 (List.drop ((off + 0) - off) l)) : Nat) : Int) 0)), (.int .u64 (rdA (List.take 0 (List.drop ((off + 0) - off) l)) 0 0)), (.int .u64 (rdA (List.take 0 (List.drop ((off + 0) - off) l)) 0 0))] 37 true), (1, 0, .cells [(.slice none 0 0), (.bool true), (.int .u64 bk)] 79 true), (0, 0, .tail off .u64 l e)]⟩⟩
theorem MR11 (bk : Int) (off : Nat) (n : Nat) (c : Nat) (l : List Int) (e : TypeId) : MEV byteRV byteV headN isWb isWs kLen manyV rdA rdAt rdOver rdRow sizeN textA textAt textR vLen withRV wordsA wordsR (codeAt [1, 1, 1, 0, 1, 0, 0, 1, 0, 0, 1, 1, 1, 0] BM) (MS9 kLen manyV rdA rdAt rdOver rdRow textAt vLen bk off n c l e) [0, 1, 5, 6, 7, 8, 9, 10, 11, 12] =
  some (.normal, (MS10 kLen manyV rdA rdAt rdOver rdRow textAt vLen bk off n c l e)) := by kernel_rfl
noncomputable def MS11 (bk : Int) (off : Nat) (n : Nat) (c : Nat) (l : List Int) (e : TypeId) : KSt := ⟨(frameL 93 [(0, (.int .u64 bk)), (1, (.slice (some ⟨0, off, none⟩) n c)), (5, (.pointer (some ⟨1, 0, none⟩))), (6, (.int .i64 0)), (81, (.bool true))]), ⟨2, 1, [(1, 0, .cells [(.slice none 0 0), (.bool true), (.int .u64 bk)] 79 true), (0, 0, .tail off .u64 l e)]⟩⟩
noncomputable def MS12 (bk : Int) (off : Nat) (n : Nat) (c : Nat) (l : List Int) (e : TypeId) : KSt := ⟨(frameL 93 [(0, (.int .u64 bk)), (1, (.slice (some ⟨0, off, none⟩) n c)), (5, (.pointer (some ⟨1, 0, none⟩))), (6, (.int .i64 0)), (81, (.bool false))]), ⟨2, 1, [(1, 0, .cells [(.slice none 0 0), (.bool true), (.int .u64 bk)] 79 true), (0, 0, .tail off .u64 l e)]⟩⟩
theorem MR12 (bk : Int) (off : Nat) (n : Nat) (c : Nat) (l : List Int) (e : TypeId) : MEV byteRV byteV headN isWb isWs kLen manyV rdA rdAt rdOver rdRow sizeN textA textAt textR vLen withRV wordsA wordsR (codeAt [1, 1, 1, 0, 1, 0, 0, 1, 0, 0, 1, 1, 1, 1, 0, 0] BM) (MS10 kLen manyV rdA rdAt rdOver rdRow textAt vLen bk off n c l e) [0, 1, 5, 6, 81] =
  bif (!(true == (rdOver (List.take 0 (List.drop ((off + 0) - off) l))))) then
    some (.normal, (MS11 bk off n c l e))
  else
    bif (!((1 == (rdA (List.take 0 (List.drop ((off + 0) - off) l)) 1 0)) && ((bk == (rdA (List.take 0 (List.drop ((off + 0) - off) l)) bk 0)) && ((0 == (rdA (List.take 0 (List.drop ((off + 0) - off) l)) ((List.length (List.take 0 (List.drop ((off + 0) - off) l)) : Nat) : Int) 0)) && ((0 == (rdA (List.take 0 (List.drop ((off + 0) - off) l)) 0 0)) && ((0 == (rdA (List.take 0 (List.drop ((off + 0) - off) l)) 0 0)) && true)))))) then
      some (.normal, (MS11 bk off n c l e))
    else
      bif (false == (rdOver (List.take 0 (List.drop ((off + 0) - off) l)))) then
        some (.normal, (MS11 bk off n c l e))
      else
        some (.normal, (MS12 bk off n c l e)) := by kernel_rfl
theorem MR13 (bk : Int) (off : Nat) (n : Nat) (c : Nat) (l : List Int) (e : TypeId) : MEV byteRV byteV headN isWb isWs kLen manyV rdA rdAt rdOver rdRow sizeN textA textAt textR vLen withRV wordsA wordsR (codeAt [1, 1, 1, 0, 1, 0, 0, 1, 0, 0, 1, 1, 1, 1, 0, 1, 1] BM) (MS12 bk off n c l e) [0, 1, 5, 6] =
  some (.normal, (MS4 bk off n c l e)) := by kernel_rfl
noncomputable def MS13 (bk : Int) (off : Nat) (n : Nat) (c : Nat) (l : List Int) (e : TypeId) : KSt := ⟨(frameL 93 [(0, (.int .u64 bk)), (1, (.slice (some ⟨0, off, none⟩) n c)), (5, (.pointer (some ⟨1, 0, none⟩))), (6, (.int .i64 0)), (85, (.bool (decide (0 < ((n : Nat) : Int)))))]), ⟨2, 1, [(1, 0, .cells [(.slice none 0 0), (.bool true), (.int .u64 bk)] 79 true), (0, 0, .tail off .u64 l e)]⟩⟩
theorem MR14 (bk : Int) (off : Nat) (n : Nat) (c : Nat) (l : List Int) (e : TypeId) : MEV byteRV byteV headN isWb isWs kLen manyV rdA rdAt rdOver rdRow sizeN textA textAt textR vLen withRV wordsA wordsR (codeAt [1, 1, 1, 0, 1, 0, 0, 1, 0, 0, 1, 1, 1, 1, 1, 0] BM) (MS4 bk off n c l e) [0, 1, 5, 6, 85] =
  some (.normal, (MS13 bk off n c l e)) := by kernel_rfl
noncomputable def MS14 (bk : Int) (off : Nat) (n : Nat) (c : Nat) (n1 : Int) (l : List Int) (e : TypeId) : KSt := ⟨(frameL 93 [(0, (.int .u64 bk)), (1, (.slice (some ⟨0, off, none⟩) n c)), (5, (.pointer (some ⟨1, 0, none⟩))), (6, (.int .i64 0))]), ⟨3, 1, [(2, 0, .cells [(.int .u64 n1)] 30 true), (1, 0, .cells [(.slice (some ⟨2, 0, none⟩) 1 1), (.bool true), (.int .u64 bk)] 79 true), (0, 0, .tail off .u64 l e)]⟩⟩
theorem MR15 (bk : Int) (off : Nat) (n : Nat) (c : Nat) (l : List Int) (e : TypeId) : MEV byteRV byteV headN isWb isWs kLen manyV rdA rdAt rdOver rdRow sizeN textA textAt textR vLen withRV wordsA wordsR (codeAt [1, 1, 1, 0, 1, 0, 0, 1, 0, 0, 1, 1, 1, 1, 1, 1, 0] BM) (MS13 bk off n c l e) [0, 1, 5, 6] =
  if (0 : Int) ≤ 0 ∧ 0 < ((n : Nat) : Int) then
    bif (Nat.ble off (off + 0)) then
      obind (l[((off + 0) - off)]?) fun n1 =>
        some (.normal, (MS14 bk off n c n1 l e))
    else
      none
  else
    none := by kernel_rfl
noncomputable def MS15 (bk : Int) (off : Nat) (n : Nat) (c : Nat) (l : List Int) (e : TypeId) : KSt := ⟨(frameL 93 [(0, (.int .u64 bk)), (1, (.slice (some ⟨0, off, none⟩) n c)), (5, (.pointer (some ⟨1, 0, none⟩))), (6, (.int .i64 0))]), ⟨3, 1, [(2, 0, .cells [(.int .u64 (l.getD 0 0))] 30 true), (1, 0, .cells [(.slice (some ⟨2, 0, none⟩) 1 1), (.bool true), (.int .u64 bk)] 79 true), (0, 0, .tail off .u64 l e)]⟩⟩
noncomputable def MS16 (bk : Int) (off : Nat) (n : Nat) (c : Nat) (l : List Int) (e : TypeId) : KSt := ⟨(frameL 93 [(0, (.int .u64 bk)), (1, (.slice (some ⟨0, off, none⟩) n c)), (5, (.pointer (some ⟨1, 0, none⟩))), (6, (.int .i64 1))]), ⟨3, 1, [(2, 0, .cells [(.int .u64 (l.getD 0 0))] 30 true), (1, 0, .cells [(.slice (some ⟨2, 0, none⟩) 1 1), (.bool true), (.int .u64 bk)] 79 true), (0, 0, .tail off .u64 l e)]⟩⟩
theorem MR16 (bk : Int) (off : Nat) (n : Nat) (c : Nat) (l : List Int) (e : TypeId) : MEV byteRV byteV headN isWb isWs kLen manyV rdA rdAt rdOver rdRow sizeN textA textAt textR vLen withRV wordsA wordsR (codeAt [1, 1, 1, 0, 1, 0, 0, 1, 1] BM) (MS15 bk off n c l e) [0, 1, 5, 6] =
  some (.normal, (MS16 bk off n c l e)) := by kernel_rfl
theorem MR17 (bk : Int) (off : Nat) (n : Nat) (c : Nat) (l : List Int) (e : TypeId) : MEV byteRV byteV headN isWb isWs kLen manyV rdA rdAt rdOver rdRow sizeN textA textAt textR vLen withRV wordsA wordsR (codeAt [1, 1, 1, 0, 1, 0, 0, 1, 0, 0, 1, 1, 1, 1, 1, 1, 1] BM) (MS13 bk off n c l e) [0, 1, 5, 6] =
  some (.normal, (MS4 bk off n c l e)) := by kernel_rfl
noncomputable def MS17 (bk : Int) (off : Nat) (n : Nat) (c : Nat) (l : List Int) (e : TypeId) : KSt := ⟨(frameL 93 [(0, (.int .u64 bk)), (1, (.slice (some ⟨0, off, none⟩) n c)), (5, (.pointer (some ⟨1, 0, none⟩))), (6, (.int .i64 1))]), ⟨2, 1, [(1, 0, .cells [(.slice none 0 0), (.bool true), (.int .u64 bk)] 79 true), (0, 0, .tail off .u64 l e)]⟩⟩
theorem MR18 (bk : Int) (off : Nat) (n : Nat) (c : Nat) (l : List Int) (e : TypeId) : MEV byteRV byteV headN isWb isWs kLen manyV rdA rdAt rdOver rdRow sizeN textA textAt textR vLen withRV wordsA wordsR (codeAt [1, 1, 1, 0, 1, 0, 0, 1, 1] BM) (MS4 bk off n c l e) [0, 1, 5, 6] =
  some (.normal, (MS17 bk off n c l e)) := by kernel_rfl
noncomputable def MS18 (bk : Int) (off : Nat) (n : Nat) (c : Nat) (k : Nat) (q : List Int) (l : List Int) (e : TypeId) : KSt := ⟨(frameL 93 [(0, (.int .u64 bk)), (1, (.slice (some ⟨0, off, none⟩) n c)), (5, (.pointer (some ⟨1, 0, none⟩))), (6, (.int .i64 ((k : Nat) : Int)))]), ⟨3, 1, [(2, 0, .ints .u64 q 30 true), (1, 0, .cells [(.slice (some ⟨2, 0, none⟩) k k), (.bool true), (.int .u64 bk)] 79 true), (0, 0, .tail off .u64 l e)]⟩⟩
noncomputable def MS19 (bk : Int) (off : Nat) (n : Nat) (c : Nat) (k : Nat) (q : List Int) (l : List Int) (e : TypeId) : KSt := ⟨(frameL 93 [(0, (.int .u64 bk)), (1, (.slice (some ⟨0, off, none⟩) n c)), (5, (.pointer (some ⟨1, 0, none⟩))), (6, (.int .i64 ((k : Nat) : Int))), (22, (.bool (decide (((k : Nat) : Int) ≤ ((n : Nat) : Int)))))]), ⟨3, 1, [(2, 0, .ints .u64 q 30 true), (1, 0, .cells [(.slice (some ⟨2, 0, none⟩) k k), (.bool true), (.int .u64 bk)] 79 true), (0, 0, .tail off .u64 l e)]⟩⟩
theorem MR19 (bk : Int) (off : Nat) (n : Nat) (c : Nat) (k : Nat) (q : List Int) (l : List Int) (e : TypeId) : MEV byteRV byteV headN isWb isWs kLen manyV rdA rdAt rdOver rdRow sizeN textA textAt textR vLen withRV wordsA wordsR (codeAt [1, 1, 1, 0, 1, 0, 0, 0, 0] BM) (MS18 bk off n c k q l e) [0, 1, 5, 6, 22] =
  some (.normal, (MS19 bk off n c k q l e)) := by kernel_rfl
theorem MR20 (bk : Int) (off : Nat) (n : Nat) (c : Nat) (k : Nat) (q : List Int) (l : List Int) (e : TypeId) : MEV byteRV byteV headN isWb isWs kLen manyV rdA rdAt rdOver rdRow sizeN textA textAt textR vLen withRV wordsA wordsR (codeAt [1, 1, 1, 0, 1, 0, 0, 0, 1, 0] BM) (MS19 bk off n c k q l e) [0, 1, 5, 6] =
  some (.normal, (MS18 bk off n c k q l e)) := by kernel_rfl
noncomputable def MS20 (bk : Int) (off : Nat) (n : Nat) (c : Nat) (k : Nat) (q : List Int) (l : List Int) (e : TypeId) : KSt := ⟨(frameL 93 [(0, (.int .u64 bk)), (1, (.slice (some ⟨0, off, none⟩) n c)), (5, (.pointer (some ⟨1, 0, none⟩))), (6, (.int .i64 ((k : Nat) : Int))), (7, (.pointer (some ⟨2, 0, none⟩)))]), ⟨4, 1, [(3, 0, .ints .u64 q 30 true), (2, 0, .cells [(.slice (some ⟨0, 0, some 0⟩) 0 0), (.int .i64 0), (.bool false), (.int .i64 0), (.int .u64 0), (.int .i64 0), (.int .u64 0), (.int .u64 0)] 37 true), (1, 0, .cells [(.slice (some ⟨3, 0, none⟩) k k), (.bool true), (.int .u64 bk)] 79 true), (0, 0, .tail off .u64 l e)]⟩⟩
noncomputable def MS21 (bk : Int) (off : Nat) (n : Nat) (c : Nat) (k : Nat) (q : List Int) (l : List Int) (e : TypeId) : KSt := ⟨(frameL 93 [(0, (.int .u64 bk)), (1, (.slice (some ⟨0, off, none⟩) n c)), (5, (.pointer (some ⟨1, 0, none⟩))), (6, (.int .i64 ((k : Nat) : Int))), (7, (.pointer (some ⟨2, 0, none⟩)))]), ⟨4, 1, [(3, 0, .ints .u64 q 30 true), (2, 0, .cells [(.slice (some ⟨0, (off + 0), none⟩) ((Int.toNat ((k : Nat) : Int)) - 0) (c - 0)), (.int .i64 0), (.bool false), (.int .i64 0), (.int .u64 0), (.int .i64 0), (.int .u64 0), (.int .u64 0)] 37 true), (1, 0, .cells [(.slice (some ⟨3, 0, none⟩) k k), (.bool true), (.int .u64 bk)] 79 true), (0, 0, .tail off .u64 l e)]⟩⟩
theorem MR21 (bk : Int) (off : Nat) (n : Nat) (c : Nat) (k : Nat) (q : List Int) (l : List Int) (e : TypeId) : MEV byteRV byteV headN isWb isWs kLen manyV rdA rdAt rdOver rdRow sizeN textA textAt textR vLen withRV wordsA wordsR (codeAt [1, 1, 1, 0, 1, 0, 0, 1, 0, 0, 0] BM) (MS18 bk off n c k q l e) [0, 1, 5, 6, 7] =
  if 0 ≤ ((k : Nat) : Int) ∧ ((k : Nat) : Int) ≤ ((c : Nat) : Int) then
    bif ((Nat.ble 0 (Int.toNat ((k : Nat) : Int))) && (Nat.ble (Int.toNat ((k : Nat) : Int)) c)) then
      bif (Nat.beq c 0) then
        some (.normal, (MS20 bk off n c k q l e))
      else
        some (.normal, (MS21 bk off n c k q l e))
    else
      none
  else
    none := by kernel_rfl
noncomputable def MS22 (bk : Int) (off : Nat) (n : Nat) (c : Nat) (k : Nat) (q : List Int) (l : List Int) (e : TypeId) : KSt := ⟨(frameL 93 [(0, (.int .u64 bk)), (1, (.slice (some ⟨0, off, none⟩) n c)), (5, (.pointer (some ⟨1, 0, none⟩))), (6, (.int .i64 ((k : Nat) : Int))), (7, (.pointer (some ⟨2, 0, none⟩))), (8, (.pointer (some ⟨3, 0, none⟩)))]), ⟨5, 1, [(4, 0, .ints .u64 q 30 true), (3, 0, .cells [(.string (textAt (rdRow (List.take ((Int.toNat ((k : Nat) : Int)) - 0) (List.drop ((off + 0) - off) l))) 1 (kLen (List.getD (rdRow (List.take ((Int.toNat ((k : Nat) : Int)) - 0) (List.drop ((off + 0) - off) l))) 0 0)))), (.string (textAt (rdRow (List.take ((Int.toNat ((k : Nat) : Int)) - 0) (List.drop ((off + 0) - off) l))) (1 + manyV (kLen (List.getD (rdRow (List.take ((Int.toNat ((k : Nat) : Int)) - 0) (List.drop ((off + 0) - off) l))) 0 0))) (vLen (List.getD (rdRow (List.take ((Int.toNat ((k : Nat) : Int)) - 0) (List.drop ((off + 0) - off) l))) 0 0))))] 39 true), (2, 0, .cells [(.slice (some ⟨0, (off + 0), none⟩) ((Int.toNat ((k : Nat) : Int)) - 0) (c - 0)), (.int .i64 (rdAt (List.take ((Int.toNat ((k : Nat) : Int)) - 0) (List.drop ((off + 0) - off) l)))), (.bool (rdOver (List.take ((Int.toNat ((k : Nat) : Int)) - 0) (List.drop ((off + 0) - off) l)))), (.int .i64 (rdA (List.take ((Int.toNat ((k : Nat) : Int)) - 0) (List.drop ((off + 0) - off) l)) 1 0)), (.int .u64 (rdA (List.take ((Int.toNat ((k : Nat) : Int)) - 0) (List.drop ((off + 0) - off) l)) bk 0)), (.int .i64 (rdA (List.take ((Int.toNat ((k : Nat) : Int)) - 0) (List.drop ((off + 0) - off) l)) ((List.length (List.take ((Int.toNat ((k : Nat) : Int)) - 0) (List.drop ((off + 0) - off) l)) : Nat) : Int) 0)), (.int .u64 (rdA (List.take ((Int.toNat ((k : Nat) : Int)) - 0) (List.drop ((off + 0) - off) l)) 0 0)), (.int .u64 (rdA (List.take ((Int.toNat ((k : Nat) : Int)) - 0) (List.drop ((off + 0) - off) l)) 0 0))] 37 true), (1, 0, .cells [(.slice (some ⟨4, 0, none⟩) k k), (.bool true), (.int .u64 bk)] 79 true), (0, 0, .tail off .u64 l e)]⟩⟩
theorem MR22 (bk : Int) (off : Nat) (n : Nat) (c : Nat) (k : Nat) (q : List Int) (l : List Int) (e : TypeId) : MEV byteRV byteV headN isWb isWs kLen manyV rdA rdAt rdOver rdRow sizeN textA textAt textR vLen withRV wordsA wordsR (codeAt [1, 1, 1, 0, 1, 0, 0, 1, 0, 0, 1, 0] BM) (MS21 bk off n c k q l e) [0, 1, 5, 6, 7, 8] =
  bif (Nat.ble off (off + 0)) then
    bif (Nat.ble (((off + 0) - off) + ((Int.toNat ((k : Nat) : Int)) - 0)) (List.length l)) then
      bif ((decide (0 = 0)) && ((!false) && ((Nat.ble (List.length (List.take ((Int.toNat ((k : Nat) : Int)) - 0) (List.drop ((off + 0) - off) l))) 999) && (isWs (List.take ((Int.toNat ((k : Nat) : Int)) - 0) (List.drop ((off + 0) - off) l)))))) then
        some (.normal, (MS22 kLen manyV rdA rdAt rdOver rdRow textAt vLen bk off n c k q l e))
      else
        none
    else
      none
  else
    none := by kernel_rfl
noncomputable def MS23 (bk : Int) (off : Nat) (n : Nat) (c : Nat) (k : Nat) (q : List Int) (l : List Int) (e : TypeId) : KSt := ⟨(frameL 93 [(0, (.int .u64 bk)), (1, (.slice (some ⟨0, off, none⟩) n c)), (5, (.pointer (some ⟨1, 0, none⟩))), (6, (.int .i64 ((k : Nat) : Int))), (7, (.pointer (some ⟨2, 0, none⟩))), (8, (.pointer (some ⟨3, 0, none⟩))), (9, (.pointer (some ⟨4, 0, none⟩))), (10, (.bool false))]), ⟨6, 1, [(5, 0, .ints .u64 q 30 true), (4, 0, .cells [(.string ⟨#[]⟩), (.string ⟨#[]⟩)] 39 true), (3, 0, .cells [(.string (textAt (rdRow (List.take ((Int.toNat ((k : Nat) : Int)) - 0) (List.drop ((off + 0) - off) l))) 1 (kLen (List.getD (rdRow (List.take ((Int.toNat ((k : Nat) : Int)) - 0) (List.drop ((off + 0) - off) l))) 0 0)))), (.string (textAt (rdRow (List.take ((Int.toNat ((k : Nat) : Int)) - 0) (List.drop ((off + 0) - off) l))) (1 + manyV (kLen (List.getD (rdRow (List.take ((Int.toNat ((k : Nat) : Int)) - 0) (List.drop ((off + 0) - off) l))) 0 0))) (vLen (List.getD (rdRow (List.take ((Int.toNat ((k : Nat) : Int)) - 0) (List.drop ((off + 0) - off) l))) 0 0))))] 39 true), (2, 0, .cells [(.slice (some ⟨0, (off + 0), none⟩) ((Int.toNat ((k : Nat) : Int)) - 0) (c - 0)), (.int .i64 (rdAt (List.take ((Int.toNat ((k : Nat) : Int)) - 0) (List.drop ((off + 0) - off) l)))), (.bool (rdOver (List.take ((Int.toNat ((k : Nat) : Int)) - 0) (List.drop ((off + 0) - off) l)))), (.int .i64 (rdA (List.take ((Int.toNat ((k : Nat) : Int)) - 0) (List.drop ((off + 0) - off) l)) 1 0)), (.int .u64 (rdA (List.take ((Int.toNat ((k : Nat) : Int)) - 0) (List.drop ((off + 0) - off) l)) bk 0)), (.int .i64 (rdA (List.take ((Int.toNat ((k : Nat) : Int)) - 0) (List.drop ((off + 0) - off) l)) ((List.length (List.take ((Int.toNat ((k : Nat) : Int)) - 0) (List.drop ((off + 0) - off) l)) : Nat) : Int) 0)), (.int .u64 (rdA (List.take ((Int.toNat ((k : Nat) : Int)) - 0) (List.drop ((off + 0) - off) l)) 0 0)), (.int .u64 (rdA (List.take ((Int.toNat ((k : Nat) : Int)) - 0) (List.drop ((off + 0) - off) l)) 0 0))] 37 true), (1, 0, .cells [(.slice (some ⟨5, 0, none⟩) k k), (.bool true), (.int .u64 bk)] 79 true), (0, 0, .tail off .u64 l e)]⟩⟩
noncomputable def MS24 (bk : Int) (off : Nat) (n : Nat) (c : Nat) (k : Nat) (q : List Int) (l : List Int) (e : TypeId) : KSt := ⟨(frameL 93 [(0, (.int .u64 bk)), (1, (.slice (some ⟨0, off, none⟩) n c)), (5, (.pointer (some ⟨1, 0, none⟩))), (6, (.int .i64 ((k : Nat) : Int))), (7, (.pointer (some ⟨2, 0, none⟩))), (8, (.pointer (some ⟨3, 0, none⟩))), (9, (.pointer (some ⟨4, 0, none⟩))), (10, (.bool true))]), ⟨6, 1, [(5, 0, .ints .u64 q 30 true), (4, 0, .cells [(.string (textAt (List.take k (List.drop 0 q)) 1 (kLen (List.getD (List.take k (List.drop 0 q)) 0 0)))), (.string (textAt (List.take k (List.drop 0 q)) (1 + manyV (kLen (List.getD (List.take k (List.drop 0 q)) 0 0))) (vLen (List.getD (List.take k (List.drop 0 q)) 0 0))))] 39 true), (3, 0, .cells [(.string (textAt (rdRow (List.take ((Int.toNat ((k : Nat) : Int)) - 0) (List.drop ((off + 0) - off) l))) 1 (kLen (List.getD (rdRow (List.take ((Int.toNat ((k : Nat) : Int)) - 0) (List.drop ((off + 0) - off) l))) 0 0)))), (.string (textAt (rdRow (List.take ((Int.toNat ((k : Nat) : Int)) - 0) (List.drop ((off + 0) - off) l))) (1 + manyV (kLen (List.getD (rdRow (List.take ((Int.toNat ((k : Nat) : Int)) - 0) (List.drop ((off + 0) - off) l))) 0 0))) (vLen (List.getD (rdRow (List.take ((Int.toNat ((k : Nat) : Int)) - 0) (List.drop ((off + 0) - off) l))) 0 0))))] 39 true), (2, 0, .cells [(.slice (some ⟨0, (off + 0), none⟩) ((Int.toNat ((k : Nat) : Int)) - 0) (c - 0)), (.int .i64 (rdAt (List.take ((Int.toNat ((k : Nat) : Int)) - 0) (List.drop ((off + 0) - off) l)))), (.bool (rdOver (List.take ((Int.toNat ((k : Nat) : Int)) - 0) (List.drop ((off + 0) - off) l)))), (.int .i64 (rdA (List.take ((Int.toNat ((k : Nat) : Int)) - 0) (List.drop ((off + 0) - off) l)) 1 0)), (.int .u64 (rdA (List.take ((Int.toNat ((k : Nat) : Int)) - 0) (List.drop ((off + 0) - off) l)) bk 0)), (.int .i64 (rdA (List.take ((Int.toNat ((k : Nat) : Int)) - 0) (List.drop ((off + 0) - off) l)) ((List.length (List.take ((Int.toNat ((k : Nat) : Int)) - 0) (List.drop ((off + 0) - off) l)) : Nat) : Int) 0)), (.int .u64 (rdA (List.take ((Int.toNat ((k : Nat) : Int)) - 0) (List.drop ((off + 0) - off) l)) 0 0)), (.int .u64 (rdA (List.take ((Int.toNat ((k : Nat) : Int)) - 0) (List.drop ((off + 0) - off) l)) 0 0))] 37 true), (1, 0, .cells [(.slice (some ⟨5, 0, none⟩) k k), (.bool true), (.int .u64 bk)] 79 true), (0, 0, .tail off .u64 l e)]⟩⟩
theorem MR23 (bk : Int) (off : Nat) (n : Nat) (c : Nat) (k : Nat) (q : List Int) (l : List Int) (e : TypeId) : MEV byteRV byteV headN isWb isWs kLen manyV rdA rdAt rdOver rdRow sizeN textA textAt textR vLen withRV wordsA wordsR (codeAt [1, 1, 1, 0, 1, 0, 0, 1, 0, 0, 1, 1, 0] BM) (MS22 kLen manyV rdA rdAt rdOver rdRow textAt vLen bk off n c k q l e) [0, 1, 5, 6, 7, 8, 9, 10] =
  bif (decide (((k : Nat) : Int) > 0)) then
    if (0 : Int) ≤ 0 ∧ 0 < ((k : Nat) : Int) then
      obind (q[0]?) fun n1 =>
        bif (isWb n1) then
          bif (!(((k : Nat) : Int) == (sizeN n1))) then
            some (.normal, (MS23 kLen manyV rdA rdAt rdOver rdRow textAt vLen bk off n c k q l e))
          else
            bif (Nat.ble (0 + k) (List.length q)) then
              bif ((Nat.ble (List.length (List.take k (List.drop 0 q))) 1000) && (isWs (List.take k (List.drop 0 q)))) then
                some (.normal, (MS24 kLen manyV rdA rdAt rdOver rdRow textAt vLen bk off n c k q l e))
              else
                none
            else
              none
        else
          none
    else
      none
  else
    some (.normal, (MS23 kLen manyV rdA rdAt rdOver rdRow textAt vLen bk off n c k q l e)) := by kernel_rfl
noncomputable def MS25 (bk : Int) (off : Nat) (n : Nat) (c : Nat) (k : Nat) (q : List Int) (l : List Int) (e : TypeId) : KSt := ⟨(frameL 93 [(0, (.int .u64 bk)), (1, (.slice (some ⟨0, off, none⟩) n c)), (5, (.pointer (some ⟨1, 0, none⟩))), (6, (.int .i64 ((k : Nat) : Int))), (7, (.pointer (some ⟨2, 0, none⟩))), (8, (.pointer (some ⟨3, 0, none⟩))), (9, (.pointer (some ⟨4, 0, none⟩))), (10, (.bool false)), (11, (.pointer (some ⟨5, 0, none⟩))), (12, (.bool false))]), ⟨7, 1, [(6, 0, .ints .u64 q 30 true), (5, 0, .cells [(.int .i64 0), (.int .u64 0), (.int .i64 0), (.int .u64 0), (.int .u64 0)] 35 true), (4, 0, .cells [(.string ⟨#[]⟩), (.string ⟨#[]⟩)] 39 true), (3, 0, .cells [(.string (textAt (rdRow (List.take ((Int.toNat ((k : Nat) : Int)) - 0) (List.drop ((off + 0) - off) l))) 1 (kLen (List.getD (rdRow (List.take ((Int.toNat ((k : Nat) : Int)) - 0) (List.drop ((off + 0) - off) l))) 0 0)))), (.string (textAt (rdRow (List.take ((Int.toNat ((k : Nat) : Int)) - 0) (List.drop ((off + 0) - off) l))) (1 + manyV (kLen (List.getD (rdRow (List.take ((Int.toNat ((k : Nat) : Int)) - 0) (List.drop ((off + 0) - off) l))) 0 0))) (vLen (List.getD (rdRow (List.take ((Int.toNat ((k : Nat) : Int)) - 0) (List.drop ((off + 0) - off) l))) 0 0))))] 39 true), (2, 0, .cells [(.slice (some ⟨0, (off + 0), none⟩) ((Int.toNat ((k : Nat) : Int)) - 0) (c - 0)), (.int .i64 (rdAt (List.take ((Int.toNat ((k : Nat) : Int)) - 0) (List.drop ((off + 0) - off) l)))), (.bool (rdOver (List.take ((Int.toNat ((k : Nat) : Int)) - 0) (List.drop ((off + 0) - off) l)))), (.int .i64 (rdA (List.take ((Int.toNat ((k : Nat) : Int)) - 0) (List.drop ((off + 0) - off) l)) 1 0)), (.int .u64 (rdA (List.take ((Int.toNat ((k : Nat) : Int)) - 0) (List.drop ((off + 0) - off) l)) bk 0)), (.int .i64 (rdA (List.take ((Int.toNat ((k : Nat) : Int)) - 0) (List.drop ((off + 0) - off) l)) ((List.length (List.take ((Int.toNat ((k : Nat) : Int)) - 0) (List.drop ((off + 0) - off) l)) : Nat) : Int) 0)), (.int .u64 (rdA (List.take ((Int.toNat ((k : Nat) : Int)) - 0) (List.drop ((off + 0) - off) l)) 0 0)), (.int .u64 (rdA (List.take ((Int.toNat ((k : Nat) : Int)) - 0) (List.drop ((off + 0) - off) l)) 0 0))] 37 true), (1, 0, .cells [(.slice (some ⟨6, 0, none⟩) k k), (.bool true), (.int .u64 bk)] 79 true), (0, 0, .tail off .u64 l e)]⟩⟩
noncomputable def MS26 (bk : Int) (off : Nat) (n : Nat) (c : Nat) (k : Nat) (q : List Int) (l : List Int) (e : TypeId) : KSt := ⟨(frameL 93 [(0, (.int .u64 bk)), (1, (.slice (some ⟨0, off, none⟩) n c)), (5, (.pointer (some ⟨1, 0, none⟩))), (6, (.int .i64 ((k : Nat) : Int))), (7, (.pointer (some ⟨2, 0, none⟩))), (8, (.pointer (some ⟨3, 0, none⟩))), (9, (.pointer (some ⟨4, 0, none⟩))), (10, (.bool false)), (11, (.pointer (some ⟨5, 0, none⟩))), (12, (.bool true))]), ⟨7, 1, [(6, 0, .ints .u64 q 30 true), (5, 0, .cells [(.int .i64 1), (.int .u64 bk), (.int .i64 ((k : Nat) : Int)), (.int .u64 0), (.int .u64 0)] 35 true), (4, 0, .cells [(.string ⟨#[]⟩), (.string ⟨#[]⟩)] 39 true), (3, 0, .cells [(.string (textAt (rdRow (List.take ((Int.toNat ((k : Nat) : Int)) - 0) (List.drop ((off + 0) - off) l))) 1 (kLen (List.getD (rdRow (List.take ((Int.toNat ((k : Nat) : Int)) - 0) (List.drop ((off + 0) - off) l))) 0 0)))), (.string (textAt (rdRow (List.take ((Int.toNat ((k : Nat) : Int)) - 0) (List.drop ((off + 0) - off) l))) (1 + manyV (kLen (List.getD (rdRow (List.take ((Int.toNat ((k : Nat) : Int)) - 0) (List.drop ((off + 0) - off) l))) 0 0))) (vLen (List.getD (rdRow (List.take ((Int.toNat ((k : Nat) : Int)) - 0) (List.drop ((off + 0) - off) l))) 0 0))))] 39 true), (2, 0, .cells [(.slice (some ⟨0, (off + 0), none⟩) ((Int.toNat ((k : Nat) : Int)) - 0) (c - 0)), (.int .i64 (rdAt (List.take ((Int.toNat ((k : Nat) : Int)) - 0) (List.drop ((off + 0) - off) l)))), (.bool (rdOver (List.take ((Int.toNat ((k : Nat) : Int)) - 0) (List.drop ((off + 0) - off) l)))), (.int .i64 (rdA (List.take ((Int.toNat ((k : Nat) : Int)) - 0) (List.drop ((off + 0) - off) l)) 1 0)), (.int .u64 (rdA (List.take ((Int.toNat ((k : Nat) : Int)) - 0) (List.drop ((off + 0) - off) l)) bk 0)), (.int .i64 (rdA (List.take ((Int.toNat ((k : Nat) : Int)) - 0) (List.drop ((off + 0) - off) l)) ((List.length (List.take ((Int.toNat ((k : Nat) : Int)) - 0) (List.drop ((off + 0) - off) l)) : Nat) : Int) 0)), (.int .u64 (rdA (List.take ((Int.toNat ((k : Nat) : Int)) - 0) (List.drop ((off + 0) - off) l)) 0 0)), (.int .u64 (rdA (List.take ((Int.toNat ((k : Nat) : Int)) - 0) (List.drop ((off + 0) - off) l)) 0 0))] 37 true), (1, 0, .cells [(.slice (some ⟨6, 0, none⟩) k k), (.bool true), (.int .u64 bk)] 79 true), (0, 0, .tail off .u64 l e)]⟩⟩
theorem MR24 (bk : Int) (off : Nat) (n : Nat) (c : Nat) (k : Nat) (q : List Int) (l : List Int) (e : TypeId) : MEV byteRV byteV headN isWb isWs kLen manyV rdA rdAt rdOver rdRow sizeN textA textAt textR vLen withRV wordsA wordsR (codeAt [1, 1, 1, 0, 1, 0, 0, 1, 0, 0, 1, 1, 1, 0] BM) (MS23 kLen manyV rdA rdAt rdOver rdRow textAt vLen bk off n c k q l e) [0, 1, 5, 6, 7, 8, 9, 10, 11, 12] =
  bif (decide (((k : Nat) : Int) > 0)) then
    if (0 : Int) ≤ 0 ∧ 0 < ((k : Nat) : Int) then
      obind (q[0]?) fun n1 =>
        bif (isWb n1) then
          bif (((k : Nat) : Int) == (sizeN n1)) then
            some (.normal, (MS25 kLen manyV rdA rdAt rdOver rdRow textAt vLen bk off n c k q l e))
          else
            some (.normal, (MS26 kLen manyV rdA rdAt rdOver rdRow textAt vLen bk off n c k q l e))
        else
          none
    else
      none
  else
    some (.normal, (MS26 kLen manyV rdA rdAt rdOver rdRow textAt vLen bk off n c k q l e)) := by kernel_rfl
noncomputable def MS27 (bk : Int) (off : Nat) (n : Nat) (c : Nat) (k : Nat) (q : List Int) (l : List Int) (e : TypeId) : KSt := ⟨(frameL 93 [(0, (.int .u64 bk)), (1, (.slice (some ⟨0, off, none⟩) n c)), (5, (.pointer (some ⟨1, 0, none⟩))), (6, (.int .i64 ((k : Nat) : Int))), (81, (.bool true))]), ⟨3, 1, [(2, 0, .ints .u64 q 30 true), (1, 0, .cells [(.slice (some ⟨2, 0, none⟩) k k), (.bool true), (.int .u64 bk)] 79 true), (0, 0, .tail off .u64 l e)]⟩⟩
noncomputable def MS28 (bk : Int) (off : Nat) (n : Nat) (c : Nat) (k : Nat) (q : List Int) (l : List Int) (e : TypeId) : KSt := ⟨(frameL 93 [(0, (.int .u64 bk)), (1, (.slice (some ⟨0, off, none⟩) n c)), (5, (.pointer (some ⟨1, 0, none⟩))), (6, (.int .i64 ((k : Nat) : Int))), (81, (.bool false))]), ⟨3, 1, [(2, 0, .ints .u64 q 30 true), (1, 0, .cells [(.slice (some ⟨2, 0, none⟩) k k), (.bool true), (.int .u64 bk)] 79 true), (0, 0, .tail off .u64 l e)]⟩⟩
theorem MR25 (bk : Int) (off : Nat) (n : Nat) (c : Nat) (k : Nat) (q : List Int) (l : List Int) (e : TypeId) : MEV byteRV byteV headN isWb isWs kLen manyV rdA rdAt rdOver rdRow sizeN textA textAt textR vLen withRV wordsA wordsR (codeAt [1, 1, 1, 0, 1, 0, 0, 1, 0, 0, 1, 1, 1, 1, 0, 0] BM) (MS26 kLen manyV rdA rdAt rdOver rdRow textAt vLen bk off n c k q l e) [0, 1, 5, 6, 81] =
  bif (!(true == (rdOver (List.take ((Int.toNat ((k : Nat) : Int)) - 0) (List.drop ((off + 0) - off) l))))) then
    some (.normal, (MS27 bk off n c k q l e))
  else
    bif (!((1 == (rdA (List.take ((Int.toNat ((k : Nat) : Int)) - 0) (List.drop ((off + 0) - off) l)) 1 0)) && ((bk == (rdA (List.take ((Int.toNat ((k : Nat) : Int)) - 0) (List.drop ((off + 0) - off) l)) bk 0)) && ((((k : Nat) : Int) == (rdA (List.take ((Int.toNat ((k : Nat) : Int)) - 0) (List.drop ((off + 0) - off) l)) ((List.length (List.take ((Int.toNat ((k : Nat) : Int)) - 0) (List.drop ((off + 0) - off) l)) : Nat) : Int) 0)) && ((0 == (rdA (List.take ((Int.toNat ((k : Nat) : Int)) - 0) (List.drop ((off + 0) - off) l)) 0 0)) && ((0 == (rdA (List.take ((Int.toNat ((k : Nat) : Int)) - 0) (List.drop ((off + 0) - off) l)) 0 0)) && true)))))) then
      some (.normal, (MS27 bk off n c k q l e))
    else
      bif (false == (rdOver (List.take ((Int.toNat ((k : Nat) : Int)) - 0) (List.drop ((off + 0) - off) l)))) then
        some (.normal, (MS27 bk off n c k q l e))
      else
        some (.normal, (MS28 bk off n c k q l e)) := by kernel_rfl
theorem MR26 (bk : Int) (off : Nat) (n : Nat) (c : Nat) (k : Nat) (q : List Int) (l : List Int) (e : TypeId) : MEV byteRV byteV headN isWb isWs kLen manyV rdA rdAt rdOver rdRow sizeN textA textAt textR vLen withRV wordsA wordsR (codeAt [1, 1, 1, 0, 1, 0, 0, 1, 0, 0, 1, 1, 1, 1, 0, 1, 1] BM) (MS28 bk off n c k q l e) [0, 1, 5, 6] =
  some (.normal, (MS18 bk off n c k q l e)) := by kernel_rfl
noncomputable def MS29 (bk : Int) (off : Nat) (n : Nat) (c : Nat) (k : Nat) (q : List Int) (l : List Int) (e : TypeId) : KSt := ⟨(frameL 93 [(0, (.int .u64 bk)), (1, (.slice (some ⟨0, off, none⟩) n c)), (5, (.pointer (some ⟨1, 0, none⟩))), (6, (.int .i64 ((k : Nat) : Int))), (85, (.bool (decide (((k : Nat) : Int) < ((n : Nat) : Int)))))]), ⟨3, 1, [(2, 0, .ints .u64 q 30 true), (1, 0, .cells [(.slice (some ⟨2, 0, none⟩) k k), (.bool true), (.int .u64 bk)] 79 true), (0, 0, .tail off .u64 l e)]⟩⟩
theorem MR27 (bk : Int) (off : Nat) (n : Nat) (c : Nat) (k : Nat) (q : List Int) (l : List Int) (e : TypeId) : MEV byteRV byteV headN isWb isWs kLen manyV rdA rdAt rdOver rdRow sizeN textA textAt textR vLen withRV wordsA wordsR (codeAt [1, 1, 1, 0, 1, 0, 0, 1, 0, 0, 1, 1, 1, 1, 1, 0] BM) (MS18 bk off n c k q l e) [0, 1, 5, 6, 85] =
  some (.normal, (MS29 bk off n c k q l e)) := by kernel_rfl
noncomputable def MS30 (bk : Int) (off : Nat) (n : Nat) (c : Nat) (k : Nat) (q : List Int) (n1 : Int) (l : List Int) (e : TypeId) : KSt := ⟨(frameL 93 [(0, (.int .u64 bk)), (1, (.slice (some ⟨0, off, none⟩) n c)), (5, (.pointer (some ⟨1, 0, none⟩))), (6, (.int .i64 ((k : Nat) : Int)))]), ⟨3, 1, [(2, 0, .ints .u64 (List.take (0 + k) q ++ [n1] ++ List.drop ((0 + k) + (List.length [n1])) q) 30 true), (1, 0, .cells [(.slice (some ⟨2, 0, none⟩) (k + 1) k), (.bool true), (.int .u64 bk)] 79 true), (0, 0, .tail off .u64 l e)]⟩⟩
noncomputable def MS31 (bk : Int) (off : Nat) (n : Nat) (c : Nat) (k : Nat) (n1 : Int) (l : List Int) (e : TypeId) : KSt := ⟨(frameL 93 [(0, (.int .u64 bk)), (1, (.slice (some ⟨0, off, none⟩) n c)), (5, (.pointer (some ⟨1, 0, none⟩))), (6, (.int .i64 ((k : Nat) : Int)))]), ⟨3, 1, [(2, 0, .cells [(.int .u64 n1)] 30 true), (1, 0, .cells [(.slice (some ⟨2, 0, none⟩) 1 1), (.bool true), (.int .u64 bk)] 79 true), (0, 0, .tail off .u64 l e)]⟩⟩
noncomputable def MS32 (bk : Int) (off : Nat) (n : Nat) (c : Nat) (k : Nat) (q : List Int) (n1 : Int) (l : List Int) (e : TypeId) : KSt := ⟨(frameL 93 [(0, (.int .u64 bk)), (1, (.slice (some ⟨0, off, none⟩) n c)), (5, (.pointer (some ⟨1, 0, none⟩))), (6, (.int .i64 ((k : Nat) : Int)))]), ⟨3, 1, [(2, 0, .ints .u64 (List.take k q ++ [n1]) 30 true), (1, 0, .cells [(.slice (some ⟨2, 0, none⟩) (k + 1) (k + 1)), (.bool true), (.int .u64 bk)] 79 true), (0, 0, .tail off .u64 l e)]⟩⟩
theorem MR28 (bk : Int) (off : Nat) (n : Nat) (c : Nat) (k : Nat) (q : List Int) (l : List Int) (e : TypeId) : MEV byteRV byteV headN isWb isWs kLen manyV rdA rdAt rdOver rdRow sizeN textA textAt textR vLen withRV wordsA wordsR (codeAt [1, 1, 1, 0, 1, 0, 0, 1, 0, 0, 1, 1, 1, 1, 1, 1, 0] BM) (MS29 bk off n c k q l e) [0, 1, 5, 6] =
  if 0 ≤ ((k : Nat) : Int) ∧ ((k : Nat) : Int) < ((n : Nat) : Int) then
    bif (Nat.ble off (off + ((Int.toNat ((k : Nat) : Int)) * 1))) then
      obind (l[((off + ((Int.toNat ((k : Nat) : Int)) * 1)) - off)]?) fun n1 =>
        bif (decide (((k : Nat) : Int) > 0)) then
          if (0 : Int) ≤ 0 ∧ 0 < ((k : Nat) : Int) then
            obind (q[0]?) fun n2 =>
              bif (isWb n2) then
                bif (((k : Nat) : Int) == (sizeN n2)) then
                  some (.normal, (MS18 bk off n c k q l e))
                else
                  bif (Nat.ble ((k + 1) * 9) 1099511627776) then
                    bif (Nat.ble (k + 1) k) then
                      bif (Nat.ble (0 + (k + 1)) (List.length q)) then
                        some (.normal, (MS30 bk off n c k q n1 l e))
                      else
                        none
                    else
                      bif ((Nat.beq k 0) && (Nat.beq k 0)) then
                        some (.normal, (MS31 bk off n c k n1 l e))
                      else
                        bif ((Nat.ble k (List.length q)) && (Nat.ble 1 k)) then
                          some (.normal, (MS32 bk off n c k q n1 l e))
                        else
                          none
                  else
                    none
              else
                none
          else
            none
        else
          bif (Nat.ble ((k + 1) * 9) 1099511627776) then
            bif (Nat.ble (k + 1) k) then
              bif (Nat.ble (0 + (k + 1)) (List.length q)) then
                some (.normal, (MS30 bk off n c k q n1 l e))
              else
                none
            else
              bif ((Nat.beq k 0) && (Nat.beq k 0)) then
                some (.normal, (MS31 bk off n c k n1 l e))
              else
                bif ((Nat.ble k (List.length q)) && (Nat.ble 1 k)) then
                  some (.normal, (MS32 bk off n c k q n1 l e))
                else
                  none
          else
            none
    else
      none
  else
    none := by kernel_rfl
noncomputable def MS33 (bk : Int) (off : Nat) (n : Nat) (c : Nat) (k : Nat) (q : List Int) (l : List Int) (e : TypeId) : KSt := ⟨(frameL 93 [(0, (.int .u64 bk)), (1, (.slice (some ⟨0, off, none⟩) n c)), (5, (.pointer (some ⟨1, 0, none⟩))), (6, (.int .i64 ((k : Nat) : Int)))]), ⟨3, 1, [(2, 0, .ints .u64 (List.take k q ++ [(l.getD ((Int.toNat ((k : Nat) : Int)) * 1) 0)]) 30 true), (1, 0, .cells [(.slice (some ⟨2, 0, none⟩) (k + 1) (k + 1)), (.bool true), (.int .u64 bk)] 79 true), (0, 0, .tail off .u64 l e)]⟩⟩
noncomputable def MS34 (bk : Int) (off : Nat) (n : Nat) (c : Nat) (k : Nat) (q : List Int) (l : List Int) (e : TypeId) : KSt := ⟨(frameL 93 [(0, (.int .u64 bk)), (1, (.slice (some ⟨0, off, none⟩) n c)), (5, (.pointer (some ⟨1, 0, none⟩))), (6, (.int .i64 (IntKind.wrap .i64 (((k : Nat) : Int) + 1))))]), ⟨3, 1, [(2, 0, .ints .u64 (List.take k q ++ [(l.getD ((Int.toNat ((k : Nat) : Int)) * 1) 0)]) 30 true), (1, 0, .cells [(.slice (some ⟨2, 0, none⟩) (k + 1) (k + 1)), (.bool true), (.int .u64 bk)] 79 true), (0, 0, .tail off .u64 l e)]⟩⟩
theorem MR29 (bk : Int) (off : Nat) (n : Nat) (c : Nat) (k : Nat) (q : List Int) (l : List Int) (e : TypeId) : MEV byteRV byteV headN isWb isWs kLen manyV rdA rdAt rdOver rdRow sizeN textA textAt textR vLen withRV wordsA wordsR (codeAt [1, 1, 1, 0, 1, 0, 0, 1, 1] BM) (MS33 bk off n c k q l e) [0, 1, 5, 6] =
  some (.normal, (MS34 bk off n c k q l e)) := by kernel_rfl
noncomputable def MS35 (bk : Int) (off : Nat) (n : Nat) (c : Nat) (k : Nat) (q : List Int) (l : List Int) (e : TypeId) : KSt := ⟨(frameL 93 [(0, (.int .u64 bk)), (1, (.slice (some ⟨0, off, none⟩) n c)), (5, (.pointer (some ⟨1, 0, none⟩))), (6, (.int .i64 (((k : Nat) : Int) + 1)))]), ⟨3, 1, [(2, 0, .ints .u64 (List.take k q ++ [(l.getD ((Int.toNat ((k : Nat) : Int)) * 1) 0)]) 30 true), (1, 0, .cells [(.slice (some ⟨2, 0, none⟩) (k + 1) (k + 1)), (.bool true), (.int .u64 bk)] 79 true), (0, 0, .tail off .u64 l e)]⟩⟩
theorem MR30 (bk : Int) (off : Nat) (n : Nat) (c : Nat) (k : Nat) (q : List Int) (l : List Int) (e : TypeId) : MEV byteRV byteV headN isWb isWs kLen manyV rdA rdAt rdOver rdRow sizeN textA textAt textR vLen withRV wordsA wordsR (codeAt [1, 1, 1, 0, 1, 0, 0, 1, 0, 0, 1, 1, 1, 1, 1, 1, 1] BM) (MS29 bk off n c k q l e) [0, 1, 5, 6] =
  some (.normal, (MS18 bk off n c k q l e)) := by kernel_rfl
noncomputable def MS36 (bk : Int) (off : Nat) (n : Nat) (c : Nat) (k : Nat) (q : List Int) (l : List Int) (e : TypeId) : KSt := ⟨(frameL 93 [(0, (.int .u64 bk)), (1, (.slice (some ⟨0, off, none⟩) n c)), (5, (.pointer (some ⟨1, 0, none⟩))), (6, (.int .i64 (IntKind.wrap .i64 (((k : Nat) : Int) + 1))))]), ⟨3, 1, [(2, 0, .ints .u64 q 30 true), (1, 0, .cells [(.slice (some ⟨2, 0, none⟩) k k), (.bool true), (.int .u64 bk)] 79 true), (0, 0, .tail off .u64 l e)]⟩⟩
theorem MR31 (bk : Int) (off : Nat) (n : Nat) (c : Nat) (k : Nat) (q : List Int) (l : List Int) (e : TypeId) : MEV byteRV byteV headN isWb isWs kLen manyV rdA rdAt rdOver rdRow sizeN textA textAt textR vLen withRV wordsA wordsR (codeAt [1, 1, 1, 0, 1, 0, 0, 1, 1] BM) (MS18 bk off n c k q l e) [0, 1, 5, 6] =
  some (.normal, (MS36 bk off n c k q l e)) := by kernel_rfl
noncomputable def MS37 (bk : Int) (off : Nat) (n : Nat) (c : Nat) (k : Nat) (q : List Int) (l : List Int) (e : TypeId) : KSt := ⟨(frameL 93 [(0, (.int .u64 bk)), (1, (.slice (some ⟨0, off, none⟩) n c)), (5, (.pointer (some ⟨1, 0, none⟩))), (6, (.int .i64 (((k : Nat) : Int) + 1)))]), ⟨3, 1, [(2, 0, .ints .u64 q 30 true), (1, 0, .cells [(.slice (some ⟨2, 0, none⟩) k k), (.bool true), (.int .u64 bk)] 79 true), (0, 0, .tail off .u64 l e)]⟩⟩
noncomputable def MS38 (bk : Int) (off : Nat) (n : Nat) (c : Nat) (k : Nat) (q : List Int) (m : Nat) (l : List Int) (e : TypeId) : KSt := ⟨(frameL 93 [(0, (.int .u64 bk)), (1, (.slice (some ⟨0, off, none⟩) n c)), (5, (.pointer (some ⟨1, 0, none⟩))), (6, (.int .i64 ((k : Nat) : Int)))]), ⟨3, 1, [(2, 0, .ints .u64 q 30 true), (1, 0, .cells [(.slice (some ⟨2, 0, none⟩) m m), (.bool true), (.int .u64 bk)] 79 true), (0, 0, .tail off .u64 l e)]⟩⟩
noncomputable def MS39 (bk : Int) (off : Nat) (n : Nat) (c : Nat) (k : Nat) (q : List Int) (m : Nat) (l : List Int) (e : TypeId) : KSt := ⟨(frameL 93 [(0, (.int .u64 bk)), (1, (.slice (some ⟨0, off, none⟩) n c)), (5, (.pointer (some ⟨1, 0, none⟩))), (6, (.int .i64 ((k : Nat) : Int))), (22, (.bool (decide (((k : Nat) : Int) ≤ ((n : Nat) : Int)))))]), ⟨3, 1, [(2, 0, .ints .u64 q 30 true), (1, 0, .cells [(.slice (some ⟨2, 0, none⟩) m m), (.bool true), (.int .u64 bk)] 79 true), (0, 0, .tail off .u64 l e)]⟩⟩
theorem MR32 (bk : Int) (off : Nat) (n : Nat) (c : Nat) (k : Nat) (q : List Int) (m : Nat) (l : List Int) (e : TypeId) : MEV byteRV byteV headN isWb isWs kLen manyV rdA rdAt rdOver rdRow sizeN textA textAt textR vLen withRV wordsA wordsR (codeAt [1, 1, 1, 0, 1, 0, 0, 0, 0] BM) (MS38 bk off n c k q m l e) [0, 1, 5, 6, 22] =
  some (.normal, (MS39 bk off n c k q m l e)) := by kernel_rfl
theorem MR33 (bk : Int) (off : Nat) (n : Nat) (c : Nat) (k : Nat) (q : List Int) (m : Nat) (l : List Int) (e : TypeId) : MEV byteRV byteV headN isWb isWs kLen manyV rdA rdAt rdOver rdRow sizeN textA textAt textR vLen withRV wordsA wordsR (codeAt [1, 1, 1, 0, 1, 0, 0, 0, 1, 0] BM) (MS39 bk off n c k q m l e) [0, 1, 5, 6] =
  some (.normal, (MS38 bk off n c k q m l e)) := by kernel_rfl
noncomputable def MS40 (bk : Int) (off : Nat) (n : Nat) (c : Nat) (k : Nat) (q : List Int) (m : Nat) (l : List Int) (e : TypeId) : KSt := ⟨(frameL 93 [(0, (.int .u64 bk)), (1, (.slice (some ⟨0, off, none⟩) n c)), (5, (.pointer (some ⟨1, 0, none⟩))), (6, (.int .i64 ((k : Nat) : Int))), (7, (.pointer (some ⟨2, 0, none⟩)))]), ⟨4, 1, [(3, 0, .ints .u64 q 30 true), (2, 0, .cells [(.slice (some ⟨0, 0, some 0⟩) 0 0), (.int .i64 0), (.bool false), (.int .i64 0), (.int .u64 0), (.int .i64 0), (.int .u64 0), (.int .u64 0)] 37 true), (1, 0, .cells [(.slice (some ⟨3, 0, none⟩) m m), (.bool true), (.int .u64 bk)] 79 true), (0, 0, .tail off .u64 l e)]⟩⟩
noncomputable def MS41 (bk : Int) (off : Nat) (n : Nat) (c : Nat) (k : Nat) (q : List Int) (m : Nat) (l : List Int) (e : TypeId) : KSt := ⟨(frameL 93 [(0, (.int .u64 bk)), (1, (.slice (some ⟨0, off, none⟩) n c)), (5, (.pointer (some ⟨1, 0, none⟩))), (6, (.int .i64 ((k : Nat) : Int))), (7, (.pointer (some ⟨2, 0, none⟩)))]), ⟨4, 1, [(3, 0, .ints .u64 q 30 true), (2, 0, .cells [(.slice (some ⟨0, (off + 0), none⟩) ((Int.toNat ((k : Nat) : Int)) - 0) (c - 0)), (.int .i64 0), (.bool false), (.int .i64 0), (.int .u64 0), (.int .i64 0), (.int .u64 0), (.int .u64 0)] 37 true), (1, 0, .cells [(.slice (some ⟨3, 0, none⟩) m m), (.bool true), (.int .u64 bk)] 79 true), (0, 0, .tail off .u64 l e)]⟩⟩
theorem MR34 (bk : Int) (off : Nat) (n : Nat) (c : Nat) (k : Nat) (q : List Int) (m : Nat) (l : List Int) (e : TypeId) : MEV byteRV byteV headN isWb isWs kLen manyV rdA rdAt rdOver rdRow sizeN textA textAt textR vLen withRV wordsA wordsR (codeAt [1, 1, 1, 0, 1, 0, 0, 1, 0, 0, 0] BM) (MS38 bk off n c k q m l e) [0, 1, 5, 6, 7] =
  if 0 ≤ ((k : Nat) : Int) ∧ ((k : Nat) : Int) ≤ ((c : Nat) : Int) then
    bif ((Nat.ble 0 (Int.toNat ((k : Nat) : Int))) && (Nat.ble (Int.toNat ((k : Nat) : Int)) c)) then
      bif (Nat.beq c 0) then
        some (.normal, (MS40 bk off n c k q m l e))
      else
        some (.normal, (MS41 bk off n c k q m l e))
    else
      none
  else
    none := by kernel_rfl
noncomputable def MS42 (bk : Int) (off : Nat) (n : Nat) (c : Nat) (k : Nat) (q : List Int) (l : List Int) (m : Nat) (e : TypeId) : KSt := ⟨(frameL 93 [(0, (.int .u64 bk)), (1, (.slice (some ⟨0, off, none⟩) n c)), (5, (.pointer (some ⟨1, 0, none⟩))), (6, (.int .i64 ((k : Nat) : Int))), (7, (.pointer (some ⟨2, 0, none⟩))), (8, (.pointer (some ⟨3, 0, none⟩)))]), ⟨5, 1, [(4, 0, .ints .u64 q 30 true), (3, 0, .cells [(.string (textAt (rdRow (List.take ((Int.toNat ((k : Nat) : Int)) - 0) (List.drop ((off + 0) - off) l))) 1 (kLen (List.getD (rdRow (List.take ((Int.toNat ((k : Nat) : Int)) - 0) (List.drop ((off + 0) - off) l))) 0 0)))), (.string (textAt (rdRow (List.take ((Int.toNat ((k : Nat) : Int)) - 0) (List.drop ((off + 0) - off) l))) (1 + manyV (kLen (List.getD (rdRow (List.take ((Int.toNat ((k : Nat) : Int)) - 0) (List.drop ((off + 0) - off) l))) 0 0))) (vLen (List.getD (rdRow (List.take ((Int.toNat ((k : Nat) : Int)) - 0) (List.drop ((off + 0) - off) l))) 0 0))))] 39 true), (2, 0, .cells [(.slice (some ⟨0, (off + 0), none⟩) ((Int.toNat ((k : Nat) : Int)) - 0) (c - 0)), (.int .i64 (rdAt (List.take ((Int.toNat ((k : Nat) : Int)) - 0) (List.drop ((off + 0) - off) l)))), (.bool (rdOver (List.take ((Int.toNat ((k : Nat) : Int)) - 0) (List.drop ((off + 0) - off) l)))), (.int .i64 (rdA (List.take ((Int.toNat ((k : Nat) : Int)) - 0) (List.drop ((off + 0) - off) l)) 1 0)), (.int .u64 (rdA (List.take ((Int.toNat ((k : Nat) : Int)) - 0) (List.drop ((off + 0) - off) l)) bk 0)), (.int .i64 (rdA (List.take ((Int.toNat ((k : Nat) : Int)) - 0) (List.drop ((off + 0) - off) l)) ((List.length (List.take ((Int.toNat ((k : Nat) : Int)) - 0) (List.drop ((off + 0) - off) l)) : Nat) : Int) 0)), (.int .u64 (rdA (List.take ((Int.toNat ((k : Nat) : Int)) - 0) (List.drop ((off + 0) - off) l)) 0 0)), (.int .u64 (rdA (List.take ((Int.toNat ((k : Nat) : Int)) - 0) (List.drop ((off + 0) - off) l)) 0 0))] 37 true), (1, 0, .cells [(.slice (some ⟨4, 0, none⟩) m m), (.bool true), (.int .u64 bk)] 79 true), (0, 0, .tail off .u64 l e)]⟩⟩
theorem MR35 (bk : Int) (off : Nat) (n : Nat) (c : Nat) (k : Nat) (q : List Int) (m : Nat) (l : List Int) (e : TypeId) : MEV byteRV byteV headN isWb isWs kLen manyV rdA rdAt rdOver rdRow sizeN textA textAt textR vLen withRV wordsA wordsR (codeAt [1, 1, 1, 0, 1, 0, 0, 1, 0, 0, 1, 0] BM) (MS41 bk off n c k q m l e) [0, 1, 5, 6, 7, 8] =
  bif (Nat.ble off (off + 0)) then
    bif (Nat.ble (((off + 0) - off) + ((Int.toNat ((k : Nat) : Int)) - 0)) (List.length l)) then
      bif ((decide (0 = 0)) && ((!false) && ((Nat.ble (List.length (List.take ((Int.toNat ((k : Nat) : Int)) - 0) (List.drop ((off + 0) - off) l))) 999) && (isWs (List.take ((Int.toNat ((k : Nat) : Int)) - 0) (List.drop ((off + 0) - off) l)))))) then
        some (.normal, (MS42 kLen manyV rdA rdAt rdOver rdRow textAt vLen bk off n c k q l m e))
      else
        none
    else
      none
  else
    none := by kernel_rfl
noncomputable def MS43 (bk : Int) (off : Nat) (n : Nat) (c : Nat) (k : Nat) (q : List Int) (l : List Int) (m : Nat) (e : TypeId) : KSt := ⟨(frameL 93 [(0, (.int .u64 bk)), (1, (.slice (some ⟨0, off, none⟩) n c)), (5, (.pointer (some ⟨1, 0, none⟩))), (6, (.int .i64 ((k : Nat) : Int))), (7, (.pointer (some ⟨2, 0, none⟩))), (8, (.pointer (some ⟨3, 0, none⟩))), (9, (.pointer (some ⟨4, 0, none⟩))), (10, (.bool false))]), ⟨6, 1, [(5, 0, .ints .u64 q 30 true), (4, 0, .cells [(.string ⟨#[]⟩), (.string ⟨#[]⟩)] 39 true), (3, 0, .cells [(.string (textAt (rdRow (List.take ((Int.toNat ((k : Nat) : Int)) - 0) (List.drop ((off + 0) - off) l))) 1 (kLen (List.getD (rdRow (List.take ((Int.toNat ((k : Nat) : Int)) - 0) (List.drop ((off + 0) - off) l))) 0 0)))), (.string (textAt (rdRow (List.take ((Int.toNat ((k : Nat) : Int)) - 0) (List.drop ((off + 0) - off) l))) (1 + manyV (kLen (List.getD (rdRow (List.take ((Int.toNat ((k : Nat) : Int)) - 0) (List.drop ((off + 0) - off) l))) 0 0))) (vLen (List.getD (rdRow (List.take ((Int.toNat ((k : Nat) : Int)) - 0) (List.drop ((off + 0) - off) l))) 0 0))))] 39 true), (2, 0, .cells [(.slice (some ⟨0, (off + 0), none⟩) ((Int.toNat ((k : Nat) : Int)) - 0) (c - 0)), (.int .i64 (rdAt (List.take ((Int.toNat ((k : Nat) : Int)) - 0) (List.drop ((off + 0) - off) l)))), (.bool (rdOver (List.take ((Int.toNat ((k : Nat) : Int)) - 0) (List.drop ((off + 0) - off) l)))), (.int .i64 (rdA (List.take ((Int.toNat ((k : Nat) : Int)) - 0) (List.drop ((off + 0) - off) l)) 1 0)), (.int .u64 (rdA (List.take ((Int.toNat ((k : Nat) : Int)) - 0) (List.drop ((off + 0) - off) l)) bk 0)), (.int .i64 (rdA (List.take ((Int.toNat ((k : Nat) : Int)) - 0) (List.drop ((off + 0) - off) l)) ((List.length (List.take ((Int.toNat ((k : Nat) : Int)) - 0) (List.drop ((off + 0) - off) l)) : Nat) : Int) 0)), (.int .u64 (rdA (List.take ((Int.toNat ((k : Nat) : Int)) - 0) (List.drop ((off + 0) - off) l)) 0 0)), (.int .u64 (rdA (List.take ((Int.toNat ((k : Nat) : Int)) - 0) (List.drop ((off + 0) - off) l)) 0 0))] 37 true), (1, 0, .cells [(.slice (some ⟨5, 0, none⟩) m m), (.bool true), (.int .u64 bk)] 79 true), (0, 0, .tail off .u64 l e)]⟩⟩
noncomputable def MS44 (bk : Int) (off : Nat) (n : Nat) (c : Nat) (k : Nat) (q : List Int) (m : Nat) (l : List Int) (e : TypeId) : KSt := ⟨(frameL 93 [(0, (.int .u64 bk)), (1, (.slice (some ⟨0, off, none⟩) n c)), (5, (.pointer (some ⟨1, 0, none⟩))), (6, (.int .i64 ((k : Nat) : Int))), (7, (.pointer (some ⟨2, 0, none⟩))), (8, (.pointer (some ⟨3, 0, none⟩))), (9, (.pointer (some ⟨4, 0, none⟩))), (10, (.bool true))]), ⟨6, 1, [(5, 0, .ints .u64 q 30 true), (4, 0, .cells [(.string (textAt (List.take m (List.drop 0 q)) 1 (kLen (List.getD (List.take m (List.drop 0 q)) 0 0)))), (.string (textAt (List.take m (List.drop 0 q)) (1 + manyV (kLen (List.getD (List.take m (List.drop 0 q)) 0 0))) (vLen (List.getD (List.take m (List.drop 0 q)) 0 0))))] 39 true), (3, 0, .cells [(.string (textAt (rdRow (List.take ((Int.toNat ((k : Nat) : Int)) - 0) (List.drop ((off + 0) - off) l))) 1 (kLen (List.getD (rdRow (List.take ((Int.toNat ((k : Nat) : Int)) - 0) (List.drop ((off + 0) - off) l))) 0 0)))), (.string (textAt (rdRow (List.take ((Int.toNat ((k : Nat) : Int)) - 0) (List.drop ((off + 0) - off) l))) (1 + manyV (kLen (List.getD (rdRow (List.take ((Int.toNat ((k : Nat) : Int)) - 0) (List.drop ((off + 0) - off) l))) 0 0))) (vLen (List.getD (rdRow (List.take ((Int.toNat ((k : Nat) : Int)) - 0) (List.drop ((off + 0) - off) l))) 0 0))))] 39 true), (2, 0, .cells [(.slice (some ⟨0, (off + 0), none⟩) ((Int.toNat ((k : Nat) : Int)) - 0) (c - 0)), (.int .i64 (rdAt (List.take ((Int.toNat ((k : Nat) : Int)) - 0) (List.drop ((off + 0) - off) l)))), (.bool (rdOver (List.take ((Int.toNat ((k : Nat) : Int)) - 0) (List.drop ((off + 0) - off) l)))), (.int .i64 (rdA (List.take ((Int.toNat ((k : Nat) : Int)) - 0) (List.drop ((off + 0) - off) l)) 1 0)), (.int .u64 (rdA (List.take ((Int.toNat ((k : Nat) : Int)) - 0) (List.drop ((off + 0) - off) l)) bk 0)), (.int .i64 (rdA (List.take ((Int.toNat ((k : Nat) : Int)) - 0) (List.drop ((off + 0) - off) l)) ((List.length (List.take ((Int.toNat ((k : Nat) : Int)) - 0) (List.drop ((off + 0) - off) l)) : Nat) : Int) 0)), (.int .u64 (rdA (List.take ((Int.toNat ((k : Nat) : Int)) - 0) (List.drop ((off + 0) - off) l)) 0 0)), (.int .u64 (rdA (List.take ((Int.toNat ((k : Nat) : Int)) - 0) (List.drop ((off + 0) - off) l)) 0 0))] 37 true), (1, 0, .cells [(.slice (some ⟨5, 0, none⟩) m m), (.bool true), (.int .u64 bk)] 79 true), (0, 0, .tail off .u64 l e)]⟩⟩
theorem MR36 (bk : Int) (off : Nat) (n : Nat) (c : Nat) (k : Nat) (q : List Int) (l : List Int) (m : Nat) (e : TypeId) : MEV byteRV byteV headN isWb isWs kLen manyV rdA rdAt rdOver rdRow sizeN textA textAt textR vLen withRV wordsA wordsR (codeAt [1, 1, 1, 0, 1, 0, 0, 1, 0, 0, 1, 1, 0] BM) (MS42 kLen manyV rdA rdAt rdOver rdRow textAt vLen bk off n c k q l m e) [0, 1, 5, 6, 7, 8, 9, 10] =
  bif (decide (((m : Nat) : Int) > 0)) then
    if (0 : Int) ≤ 0 ∧ 0 < ((m : Nat) : Int) then
      obind (q[0]?) fun n1 =>
        bif (isWb n1) then
          bif (!(((m : Nat) : Int) == (sizeN n1))) then
            some (.normal, (MS43 kLen manyV rdA rdAt rdOver rdRow textAt vLen bk off n c k q l m e))
          else
            bif (Nat.ble (0 + m) (List.length q)) then
              bif ((Nat.ble (List.length (List.take m (List.drop 0 q))) 1000) && (isWs (List.take m (List.drop 0 q)))) then
                some (.normal, (MS44 kLen manyV rdA rdAt rdOver rdRow textAt vLen bk off n c k q m l e))
              else
                none
            else
              none
        else
          none
    else
      none
  else
    some (.normal, (MS43 kLen manyV rdA rdAt rdOver rdRow textAt vLen bk off n c k q l m e)) := by kernel_rfl
noncomputable def MS45 (bk : Int) (off : Nat) (n : Nat) (c : Nat) (k : Nat) (q : List Int) (m : Nat) (l : List Int) (e : TypeId) : KSt := ⟨(frameL 93 [(0, (.int .u64 bk)), (1, (.slice (some ⟨0, off, none⟩) n c)), (5, (.pointer (some ⟨1, 0, none⟩))), (6, (.int .i64 ((k : Nat) : Int))), (7, (.pointer (some ⟨2, 0, none⟩))), (8, (.pointer (some ⟨3, 0, none⟩))), (9, (.pointer (some ⟨4, 0, none⟩))), (10, (.bool true)), (11, (.pointer (some ⟨5, 0, none⟩))), (12, (.bool false))]), ⟨7, 1, [(6, 0, .ints .u64 q 30 true), (5, 0, .cells [(.int .i64 0), (.int .u64 0), (.int .i64 0), (.int .u64 0), (.int .u64 0)] 35 true), (4, 0, .cells [(.string (textAt (List.take m (List.drop 0 q)) 1 (kLen (List.getD (List.take m (List.drop 0 q)) 0 0)))), (.string (textAt (List.take m (List.drop 0 q)) (1 + manyV (kLen (List.getD (List.take m (List.drop 0 q)) 0 0))) (vLen (List.getD (List.take m (List.drop 0 q)) 0 0))))] 39 true), (3, 0, .cells [(.string (textAt (rdRow (List.take ((Int.toNat ((k : Nat) : Int)) - 0) (List.drop ((off + 0) - off) l))) 1 (kLen (List.getD (rdRow (List.take ((Int.toNat ((k : Nat) : Int)) - 0) (List.drop ((off + 0) - off) l))) 0 0)))), (.string (textAt (rdRow (List.take ((Int.toNat ((k : Nat) : Int)) - 0) (List.drop ((off + 0) - off) l))) (1 + manyV (kLen (List.getD (rdRow (List.take ((Int.toNat ((k : Nat) : Int)) - 0) (List.drop ((off + 0) - off) l))) 0 0))) (vLen (List.getD (rdRow (List.take ((Int.toNat ((k : Nat) : Int)) - 0) (List.drop ((off + 0) - off) l))) 0 0))))] 39 true), (2, 0, .cells [(.slice (some ⟨0, (off + 0), none⟩) ((Int.toNat ((k : Nat) : Int)) - 0) (c - 0)), (.int .i64 (rdAt (List.take ((Int.toNat ((k : Nat) : Int)) - 0) (List.drop ((off + 0) - off) l)))), (.bool (rdOver (List.take ((Int.toNat ((k : Nat) : Int)) - 0) (List.drop ((off + 0) - off) l)))), (.int .i64 (rdA (List.take ((Int.toNat ((k : Nat) : Int)) - 0) (List.drop ((off + 0) - off) l)) 1 0)), (.int .u64 (rdA (List.take ((Int.toNat ((k : Nat) : Int)) - 0) (List.drop ((off + 0) - off) l)) bk 0)), (.int .i64 (rdA (List.take ((Int.toNat ((k : Nat) : Int)) - 0) (List.drop ((off + 0) - off) l)) ((List.length (List.take ((Int.toNat ((k : Nat) : Int)) - 0) (List.drop ((off + 0) - off) l)) : Nat) : Int) 0)), (.int .u64 (rdA (List.take ((Int.toNat ((k : Nat) : Int)) - 0) (List.drop ((off + 0) - off) l)) 0 0)), (.int .u64 (rdA (List.take ((Int.toNat ((k : Nat) : Int)) - 0) (List.drop ((off + 0) - off) l)) 0 0))] 37 true), (1, 0, .cells [(.slice (some ⟨6, 0, none⟩) m m), (.bool true), (.int .u64 bk)] 79 true), (0, 0, .tail off .u64 l e)]⟩⟩
noncomputable def MS46 (bk : Int) (off : Nat) (n : Nat) (c : Nat) (k : Nat) (q : List Int) (m : Nat) (l : List Int) (e : TypeId) : KSt := ⟨(frameL 93 [(0, (.int .u64 bk)), (1, (.slice (some ⟨0, off, none⟩) n c)), (5, (.pointer (some ⟨1, 0, none⟩))), (6, (.int .i64 ((k : Nat) : Int))), (7, (.pointer (some ⟨2, 0, none⟩))), (8, (.pointer (some ⟨3, 0, none⟩))), (9, (.pointer (some ⟨4, 0, none⟩))), (10, (.bool true)), (11, (.pointer (some ⟨5, 0, none⟩))), (12, (.bool true))]), ⟨7, 1, [(6, 0, .ints .u64 q 30 true), (5, 0, .cells [(.int .i64 1), (.int .u64 bk), (.int .i64 ((m : Nat) : Int)), (.int .u64 0), (.int .u64 0)] 35 true), (4, 0, .cells [(.string (textAt (List.take m (List.drop 0 q)) 1 (kLen (List.getD (List.take m (List.drop 0 q)) 0 0)))), (.string (textAt (List.take m (List.drop 0 q)) (1 + manyV (kLen (List.getD (List.take m (List.drop 0 q)) 0 0))) (vLen (List.getD (List.take m (List.drop 0 q)) 0 0))))] 39 true), (3, 0, .cells [(.string (textAt (rdRow (List.take ((Int.toNat ((k : Nat) : Int)) - 0) (List.drop ((off + 0) - off) l))) 1 (kLen (List.getD (rdRow (List.take ((Int.toNat ((k : Nat) : Int)) - 0) (List.drop ((off + 0) - off) l))) 0 0)))), (.string (textAt (rdRow (List.take ((Int.toNat ((k : Nat) : Int)) - 0) (List.drop ((off + 0) - off) l))) (1 + manyV (kLen (List.getD (rdRow (List.take ((Int.toNat ((k : Nat) : Int)) - 0) (List.drop ((off + 0) - off) l))) 0 0))) (vLen (List.getD (rdRow (List.take ((Int.toNat ((k : Nat) : Int)) - 0) (List.drop ((off + 0) - off) l))) 0 0))))] 39 true), (2, 0, .cells [(.slice (some ⟨0, (off + 0), none⟩) ((Int.toNat ((k : Nat) : Int)) - 0) (c - 0)), (.int .i64 (rdAt (List.take ((Int.toNat ((k : Nat) : Int)) - 0) (List.drop ((off + 0) - off) l)))), (.bool (rdOver (List.take ((Int.toNat ((k : Nat) : Int)) - 0) (List.drop ((off + 0) - off) l)))), (.int .i64 (rdA (List.take ((Int.toNat ((k : Nat) : Int)) - 0) (List.drop ((off + 0) - off) l)) 1 0)), (.int .u64 (rdA (List.take ((Int.toNat ((k : Nat) : Int)) - 0) (List.drop ((off + 0) - off) l)) bk 0)), (.int .i64 (rdA (List.take ((Int.toNat ((k : Nat) : Int)) - 0) (List.drop ((off + 0) - off) l)) ((List.length (List.take ((Int.toNat ((k : Nat) : Int)) - 0) (List.drop ((off + 0) - off) l)) : Nat) : Int) 0)), (.int .u64 (rdA (List.take ((Int.toNat ((k : Nat) : Int)) - 0) (List.drop ((off + 0) - off) l)) 0 0)), (.int .u64 (rdA (List.take ((Int.toNat ((k : Nat) : Int)) - 0) (List.drop ((off + 0) - off) l)) 0 0))] 37 true), (1, 0, .cells [(.slice (some ⟨6, 0, none⟩) m m), (.bool true), (.int .u64 bk)] 79 true), (0, 0, .tail off .u64 l e)]⟩⟩
theorem MR37 (bk : Int) (off : Nat) (n : Nat) (c : Nat) (k : Nat) (q : List Int) (m : Nat) (l : List Int) (e : TypeId) : MEV byteRV byteV headN isWb isWs kLen manyV rdA rdAt rdOver rdRow sizeN textA textAt textR vLen withRV wordsA wordsR (codeAt [1, 1, 1, 0, 1, 0, 0, 1, 0, 0, 1, 1, 1, 0] BM) (MS44 kLen manyV rdA rdAt rdOver rdRow textAt vLen bk off n c k q m l e) [0, 1, 5, 6, 7, 8, 9, 10, 11, 12] =
  bif (decide (((m : Nat) : Int) > 0)) then
    if (0 : Int) ≤ 0 ∧ 0 < ((m : Nat) : Int) then
      obind (q[0]?) fun n1 =>
        bif (isWb n1) then
          bif (((m : Nat) : Int) == (sizeN n1)) then
            some (.normal, (MS45 kLen manyV rdA rdAt rdOver rdRow textAt vLen bk off n c k q m l e))
          else
            some (.normal, (MS46 kLen manyV rdA rdAt rdOver rdRow textAt vLen bk off n c k q m l e))
        else
          none
    else
      none
  else
    some (.normal, (MS46 kLen manyV rdA rdAt rdOver rdRow textAt vLen bk off n c k q m l e)) := by kernel_rfl
noncomputable def MS47 (bk : Int) (off : Nat) (n : Nat) (c : Nat) (k : Nat) (q : List Int) (m : Nat) (l : List Int) (e : TypeId) : KSt := ⟨(frameL 93 [(0, (.int .u64 bk)), (1, (.slice (some ⟨0, off, none⟩) n c)), (5, (.pointer (some ⟨1, 0, none⟩))), (6, (.int .i64 ((k : Nat) : Int))), (81, (.bool true))]), ⟨3, 1, [(2, 0, .ints .u64 q 30 true), (1, 0, .cells [(.slice (some ⟨2, 0, none⟩) m m), (.bool true), (.int .u64 bk)] 79 true), (0, 0, .tail off .u64 l e)]⟩⟩
noncomputable def MS48 (bk : Int) (off : Nat) (n : Nat) (c : Nat) (k : Nat) (q : List Int) (m : Nat) (l : List Int) (e : TypeId) : KSt := ⟨(frameL 93 [(0, (.int .u64 bk)), (1, (.slice (some ⟨0, off, none⟩) n c)), (5, (.pointer (some ⟨1, 0, none⟩))), (6, (.int .i64 ((k : Nat) : Int))), (81, (.bool false))]), ⟨3, 1, [(2, 0, .ints .u64 q 30 true), (1, 0, .cells [(.slice (some ⟨2, 0, none⟩) m m), (.bool true), (.int .u64 bk)] 79 true), (0, 0, .tail off .u64 l e)]⟩⟩
theorem MR38 (bk : Int) (off : Nat) (n : Nat) (c : Nat) (k : Nat) (q : List Int) (m : Nat) (l : List Int) (e : TypeId) : MEV byteRV byteV headN isWb isWs kLen manyV rdA rdAt rdOver rdRow sizeN textA textAt textR vLen withRV wordsA wordsR (codeAt [1, 1, 1, 0, 1, 0, 0, 1, 0, 0, 1, 1, 1, 1, 0, 0] BM) (MS45 kLen manyV rdA rdAt rdOver rdRow textAt vLen bk off n c k q m l e) [0, 1, 5, 6, 81] =
  bif (!(false == (rdOver (List.take ((Int.toNat ((k : Nat) : Int)) - 0) (List.drop ((off + 0) - off) l))))) then
    some (.normal, (MS47 bk off n c k q m l e))
  else
    bif (!((0 == (rdA (List.take ((Int.toNat ((k : Nat) : Int)) - 0) (List.drop ((off + 0) - off) l)) 1 0)) && ((0 == (rdA (List.take ((Int.toNat ((k : Nat) : Int)) - 0) (List.drop ((off + 0) - off) l)) bk 0)) && ((0 == (rdA (List.take ((Int.toNat ((k : Nat) : Int)) - 0) (List.drop ((off + 0) - off) l)) ((List.length (List.take ((Int.toNat ((k : Nat) : Int)) - 0) (List.drop ((off + 0) - off) l)) : Nat) : Int) 0)) && ((0 == (rdA (List.take ((Int.toNat ((k : Nat) : Int)) - 0) (List.drop ((off + 0) - off) l)) 0 0)) && ((0 == (rdA (List.take ((Int.toNat ((k : Nat) : Int)) - 0) (List.drop ((off + 0) - off) l)) 0 0)) && true)))))) then
      some (.normal, (MS47 bk off n c k q m l e))
    else
      bif (true == (rdOver (List.take ((Int.toNat ((k : Nat) : Int)) - 0) (List.drop ((off + 0) - off) l)))) then
        some (.normal, (MS47 bk off n c k q m l e))
      else
        bif (!(((textAt (List.take m (List.drop 0 q)) 1 (kLen (List.getD (List.take m (List.drop 0 q)) 0 0))).toList == (textAt (rdRow (List.take ((Int.toNat ((k : Nat) : Int)) - 0) (List.drop ((off + 0) - off) l))) 1 (kLen (List.getD (rdRow (List.take ((Int.toNat ((k : Nat) : Int)) - 0) (List.drop ((off + 0) - off) l))) 0 0))).toList) && (((textAt (List.take m (List.drop 0 q)) (1 + manyV (kLen (List.getD (List.take m (List.drop 0 q)) 0 0))) (vLen (List.getD (List.take m (List.drop 0 q)) 0 0))).toList == (textAt (rdRow (List.take ((Int.toNat ((k : Nat) : Int)) - 0) (List.drop ((off + 0) - off) l))) (1 + manyV (kLen (List.getD (rdRow (List.take ((Int.toNat ((k : Nat) : Int)) - 0) (List.drop ((off + 0) - off) l))) 0 0))) (vLen (List.getD (rdRow (List.take ((Int.toNat ((k : Nat) : Int)) - 0) (List.drop ((off + 0) - off) l))) 0 0))).toList) && true))) then
          some (.normal, (MS47 bk off n c k q m l e))
        else
          some (.normal, (MS48 bk off n c k q m l e)) := by kernel_rfl
theorem MR39 (bk : Int) (off : Nat) (n : Nat) (c : Nat) (k : Nat) (q : List Int) (m : Nat) (l : List Int) (e : TypeId) : MEV byteRV byteV headN isWb isWs kLen manyV rdA rdAt rdOver rdRow sizeN textA textAt textR vLen withRV wordsA wordsR (codeAt [1, 1, 1, 0, 1, 0, 0, 1, 0, 0, 1, 1, 1, 1, 0, 1, 1] BM) (MS48 bk off n c k q m l e) [0, 1, 5, 6] =
  some (.normal, (MS38 bk off n c k q m l e)) := by kernel_rfl
noncomputable def MS49 (bk : Int) (off : Nat) (n : Nat) (c : Nat) (k : Nat) (q : List Int) (m : Nat) (l : List Int) (e : TypeId) : KSt := ⟨(frameL 93 [(0, (.int .u64 bk)), (1, (.slice (some ⟨0, off, none⟩) n c)), (5, (.pointer (some ⟨1, 0, none⟩))), (6, (.int .i64 ((k : Nat) : Int))), (85, (.bool (decide (((k : Nat) : Int) < ((n : Nat) : Int)))))]), ⟨3, 1, [(2, 0, .ints .u64 q 30 true), (1, 0, .cells [(.slice (some ⟨2, 0, none⟩) m m), (.bool true), (.int .u64 bk)] 79 true), (0, 0, .tail off .u64 l e)]⟩⟩
theorem MR40 (bk : Int) (off : Nat) (n : Nat) (c : Nat) (k : Nat) (q : List Int) (m : Nat) (l : List Int) (e : TypeId) : MEV byteRV byteV headN isWb isWs kLen manyV rdA rdAt rdOver rdRow sizeN textA textAt textR vLen withRV wordsA wordsR (codeAt [1, 1, 1, 0, 1, 0, 0, 1, 0, 0, 1, 1, 1, 1, 1, 0] BM) (MS38 bk off n c k q m l e) [0, 1, 5, 6, 85] =
  some (.normal, (MS49 bk off n c k q m l e)) := by kernel_rfl
noncomputable def MS50 (bk : Int) (off : Nat) (n : Nat) (c : Nat) (k : Nat) (m : Nat) (q : List Int) (n1 : Int) (l : List Int) (e : TypeId) : KSt := ⟨(frameL 93 [(0, (.int .u64 bk)), (1, (.slice (some ⟨0, off, none⟩) n c)), (5, (.pointer (some ⟨1, 0, none⟩))), (6, (.int .i64 ((k : Nat) : Int)))]), ⟨3, 1, [(2, 0, .ints .u64 (List.take (0 + m) q ++ [n1] ++ List.drop ((0 + m) + (List.length [n1])) q) 30 true), (1, 0, .cells [(.slice (some ⟨2, 0, none⟩) (m + 1) m), (.bool true), (.int .u64 bk)] 79 true), (0, 0, .tail off .u64 l e)]⟩⟩
noncomputable def MS51 (bk : Int) (off : Nat) (n : Nat) (c : Nat) (k : Nat) (m : Nat) (q : List Int) (n1 : Int) (l : List Int) (e : TypeId) : KSt := ⟨(frameL 93 [(0, (.int .u64 bk)), (1, (.slice (some ⟨0, off, none⟩) n c)), (5, (.pointer (some ⟨1, 0, none⟩))), (6, (.int .i64 ((k : Nat) : Int)))]), ⟨3, 1, [(2, 0, .ints .u64 (List.take m q ++ [n1]) 30 true), (1, 0, .cells [(.slice (some ⟨2, 0, none⟩) (m + 1) (m + 1)), (.bool true), (.int .u64 bk)] 79 true), (0, 0, .tail off .u64 l e)]⟩⟩
theorem MR41 (bk : Int) (off : Nat) (n : Nat) (c : Nat) (k : Nat) (q : List Int) (m : Nat) (l : List Int) (e : TypeId) : MEV byteRV byteV headN isWb isWs kLen manyV rdA rdAt rdOver rdRow sizeN textA textAt textR vLen withRV wordsA wordsR (codeAt [1, 1, 1, 0, 1, 0, 0, 1, 0, 0, 1, 1, 1, 1, 1, 1, 0] BM) (MS49 bk off n c k q m l e) [0, 1, 5, 6] =
  if 0 ≤ ((k : Nat) : Int) ∧ ((k : Nat) : Int) < ((n : Nat) : Int) then
    bif (Nat.ble off (off + ((Int.toNat ((k : Nat) : Int)) * 1))) then
      obind (l[((off + ((Int.toNat ((k : Nat) : Int)) * 1)) - off)]?) fun n1 =>
        bif (decide (((m : Nat) : Int) > 0)) then
          if (0 : Int) ≤ 0 ∧ 0 < ((m : Nat) : Int) then
            obind (q[0]?) fun n2 =>
              bif (isWb n2) then
                bif (((m : Nat) : Int) == (sizeN n2)) then
                  some (.normal, (MS38 bk off n c k q m l e))
                else
                  bif (Nat.ble ((m + 1) * 9) 1099511627776) then
                    bif (Nat.ble (m + 1) m) then
                      bif (Nat.ble (0 + (m + 1)) (List.length q)) then
                        some (.normal, (MS50 bk off n c k m q n1 l e))
                      else
                        none
                    else
                      bif ((Nat.beq m 0) && (Nat.beq m 0)) then
                        some (.normal, (MS31 bk off n c k n1 l e))
                      else
                        bif ((Nat.ble m (List.length q)) && (Nat.ble 1 m)) then
                          some (.normal, (MS51 bk off n c k m q n1 l e))
                        else
                          none
                  else
                    none
              else
                none
          else
            none
        else
          bif (Nat.ble ((m + 1) * 9) 1099511627776) then
            bif (Nat.ble (m + 1) m) then
              bif (Nat.ble (0 + (m + 1)) (List.length q)) then
                some (.normal, (MS50 bk off n c k m q n1 l e))
              else
                none
            else
              bif ((Nat.beq m 0) && (Nat.beq m 0)) then
                some (.normal, (MS31 bk off n c k n1 l e))
              else
                bif ((Nat.ble m (List.length q)) && (Nat.ble 1 m)) then
                  some (.normal, (MS51 bk off n c k m q n1 l e))
                else
                  none
          else
            none
    else
      none
  else
    none := by kernel_rfl
noncomputable def MS52 (bk : Int) (off : Nat) (n : Nat) (c : Nat) (k : Nat) (q : List Int) (m : Nat) (l : List Int) (e : TypeId) : KSt := ⟨(frameL 93 [(0, (.int .u64 bk)), (1, (.slice (some ⟨0, off, none⟩) n c)), (5, (.pointer (some ⟨1, 0, none⟩))), (6, (.int .i64 (IntKind.wrap .i64 (((k : Nat) : Int) + 1))))]), ⟨3, 1, [(2, 0, .ints .u64 q 30 true), (1, 0, .cells [(.slice (some ⟨2, 0, none⟩) m m), (.bool true), (.int .u64 bk)] 79 true), (0, 0, .tail off .u64 l e)]⟩⟩
theorem MR42 (bk : Int) (off : Nat) (n : Nat) (c : Nat) (k : Nat) (q : List Int) (m : Nat) (l : List Int) (e : TypeId) : MEV byteRV byteV headN isWb isWs kLen manyV rdA rdAt rdOver rdRow sizeN textA textAt textR vLen withRV wordsA wordsR (codeAt [1, 1, 1, 0, 1, 0, 0, 1, 1] BM) (MS38 bk off n c k q m l e) [0, 1, 5, 6] =
  some (.normal, (MS52 bk off n c k q m l e)) := by kernel_rfl
noncomputable def MS53 (bk : Int) (off : Nat) (n : Nat) (c : Nat) (k : Nat) (q : List Int) (m : Nat) (l : List Int) (e : TypeId) : KSt := ⟨(frameL 93 [(0, (.int .u64 bk)), (1, (.slice (some ⟨0, off, none⟩) n c)), (5, (.pointer (some ⟨1, 0, none⟩))), (6, (.int .i64 (((k : Nat) : Int) + 1)))]), ⟨3, 1, [(2, 0, .ints .u64 q 30 true), (1, 0, .cells [(.slice (some ⟨2, 0, none⟩) m m), (.bool true), (.int .u64 bk)] 79 true), (0, 0, .tail off .u64 l e)]⟩⟩
theorem MR43 (bk : Int) (off : Nat) (n : Nat) (c : Nat) (k : Nat) (q : List Int) (m : Nat) (l : List Int) (e : TypeId) : MEV byteRV byteV headN isWb isWs kLen manyV rdA rdAt rdOver rdRow sizeN textA textAt textR vLen withRV wordsA wordsR (codeAt [1, 1, 1, 0, 1, 0, 0, 1, 0, 0, 1, 1, 1, 1, 1, 1, 1] BM) (MS49 bk off n c k q m l e) [0, 1, 5, 6] =
  some (.normal, (MS38 bk off n c k q m l e)) := by kernel_rfl
noncomputable def MS54 (bk : Int) (off : Nat) (n : Nat) (c : Nat) (i : Int) (q : List Int) (k : Nat) (l : List Int) (e : TypeId) : KSt := ⟨(frameL 93 [(0, (.int .u64 bk)), (1, (.slice (some ⟨0, off, none⟩) n c)), (5, (.pointer (some ⟨1, 0, none⟩))), (6, (.int .i64 i))]), ⟨3, 1, [(2, 0, .ints .u64 q 30 true), (1, 0, .cells [(.slice (some ⟨2, 0, none⟩) k k), (.bool true), (.int .u64 bk)] 79 true), (0, 0, .tail off .u64 l e)]⟩⟩
noncomputable def MS55 (bk : Int) (off : Nat) (n : Nat) (c : Nat) (i : Int) (q : List Int) (k : Nat) (l : List Int) (e : TypeId) : KSt := ⟨(frameL 93 [(0, (.int .u64 bk)), (1, (.slice (some ⟨0, off, none⟩) n c)), (5, (.pointer (some ⟨1, 0, none⟩))), (6, (.int .i64 i)), (22, (.bool (decide (i ≤ ((n : Nat) : Int)))))]), ⟨3, 1, [(2, 0, .ints .u64 q 30 true), (1, 0, .cells [(.slice (some ⟨2, 0, none⟩) k k), (.bool true), (.int .u64 bk)] 79 true), (0, 0, .tail off .u64 l e)]⟩⟩
theorem MR44 (bk : Int) (off : Nat) (n : Nat) (c : Nat) (i : Int) (q : List Int) (k : Nat) (l : List Int) (e : TypeId) : MEV byteRV byteV headN isWb isWs kLen manyV rdA rdAt rdOver rdRow sizeN textA textAt textR vLen withRV wordsA wordsR (codeAt [1, 1, 1, 0, 1, 0, 0, 0, 0] BM) (MS54 bk off n c i q k l e) [0, 1, 5, 6, 22] =
  some (.normal, (MS55 bk off n c i q k l e)) := by kernel_rfl
noncomputable def MS56 (bk : Int) (off : Nat) (n : Nat) (c : Nat) (l : List Int) (e : TypeId) : KSt := ⟨(frameL 93 [(0, (.int .u64 bk)), (1, (.slice (some ⟨0, off, none⟩) n c)), (5, (.pointer (some ⟨1, 0, none⟩))), (6, (.int .i64 1)), (22, (.bool (decide (1 ≤ ((n : Nat) : Int)))))]), ⟨2, 1, [(1, 0, .cells [(.slice none 0 0), (.bool true), (.int .u64 bk)] 79 true), (0, 0, .tail off .u64 l e)]⟩⟩
theorem MR45 (bk : Int) (off : Nat) (n : Nat) (c : Nat) (l : List Int) (e : TypeId) : MEV byteRV byteV headN isWb isWs kLen manyV rdA rdAt rdOver rdRow sizeN textA textAt textR vLen withRV wordsA wordsR (codeAt [1, 1, 1, 0, 1, 0, 0, 0, 0] BM) (MS17 bk off n c l e) [0, 1, 5, 6, 22] =
  some (.normal, (MS56 bk off n c l e)) := by kernel_rfl
noncomputable def MS57 (off : Nat) (l : List Int) (e : TypeId) : KSt := ⟨(frameL 93 [(4, (.bool true))]), ⟨1, 1, [(0, 0, .tail off .u64 l e)]⟩⟩
theorem MR46 (bk : Int) (off : Nat) (n : Nat) (c : Nat) (l : List Int) (e : TypeId) : MEV byteRV byteV headN isWb isWs kLen manyV rdA rdAt rdOver rdRow sizeN textA textAt textR vLen withRV wordsA wordsR (codeAt [1, 0, 1, 0, 0] BM) (MS2 bk off n c l e) [4] =
  some (.normal, (MS57 off l e)) := by kernel_rfl
theorem MR47 (bk : Int) (off : Nat) (n : Nat) (c : Nat) (i : Int) (q : List Int) (k : Nat) (l : List Int) (e : TypeId) : MEV byteRV byteV headN isWb isWs kLen manyV rdA rdAt rdOver rdRow sizeN textA textAt textR vLen withRV wordsA wordsR (codeAt [1, 1, 1, 1, 0] BM) (MS55 bk off n c i q k l e) [4] =
  some (.normal, (MS57 off l e)) := by kernel_rfl
theorem MR48 (bk : Int) (off : Nat) (n : Nat) (c : Nat) (l : List Int) (e : TypeId) : MEV byteRV byteV headN isWb isWs kLen manyV rdA rdAt rdOver rdRow sizeN textA textAt textR vLen withRV wordsA wordsR (codeAt [1, 1, 1, 1, 0] BM) (MS56 bk off n c l e) [4] =
  some (.normal, (MS57 off l e)) := by kernel_rfl
end
theorem Mpre {n : Nat} {off : Nat} {l : List Int} {e : TypeId} {bk : Int} {c : Nat} (hn : n ≤ 20)   {Q : Ex → St → Prop} (hq : Gets Try.prog (KH.low ⟨1, 1, [(0, 0, .tail off .u64 l e)]⟩) (codeAt [1, 1, 1, 0, 1] BM) (KSt.low (MS4 bk off n c l e)) (onN (fun s => Gets Try.prog (KH.low ⟨1, 1, [(0, 0, .tail off .u64 l e)]⟩) (codeAt [1, 1, 1, 1] BM) s (Q)) (Q))) : Gets Try.prog (KH.low ⟨1, 1, [(0, 0, .tail off .u64 l e)]⟩) BM (KSt.low (MS0 bk off n c l e)) Q := by
  rw [MC]; refine Gets.seq ?_
  refine Mgo (MR1 byteRV byteV headN isWb isWs kLen manyV rdA rdAt rdOver rdRow sizeN textA textAt textR vLen withRV wordsA wordsR bk off n c l e) ?_
  rw [MC1]; refine Gets.seq ?_
  rw [MC1_0]; refine Gets.seq ?_
  refine Mgo (MR2 byteRV byteV headN isWb isWs kLen manyV rdA rdAt rdOver rdRow sizeN textA textAt textR vLen withRV wordsA wordsR bk off n c l e) ?_
  rw [MC1_0_1]; refine Gets.cond false (by kernel_rfl) (MeX (b := (decide (((n : Nat) : Int) > 20))) (by kernel_rfl) ((show (decide (((n : Nat) : Int) > 20)) = false from decide_eq_false (by omega)))) ?_; show Gets _ _ (codeAt [1, 0, 1, 1] BM) _ _
  refine Mgo (MR3 byteRV byteV headN isWb isWs kLen manyV rdA rdAt rdOver rdRow sizeN textA textAt textR vLen withRV wordsA wordsR bk off n c l e) ?_
  rw [MC1_1]; refine Gets.seq ?_
  refine Mgo (MR4 byteRV byteV headN isWb isWs kLen manyV rdA rdAt rdOver rdRow sizeN textA textAt textR vLen withRV wordsA wordsR bk off n c l e) ?_
  rw [MC1_1_1]; refine Gets.seq ?_
  rw [MC1_1_1_0]; refine Gets.seq ?_
  refine Mgo (MR5 byteRV byteV headN isWb isWs kLen manyV rdA rdAt rdOver rdRow sizeN textA textAt textR vLen withRV wordsA wordsR bk off n c l e) ?_
  exact hq
theorem Mz1 {n : Nat} {c : Nat} {l : List Int} {off : Nat} {bk : Int} {e : TypeId} (hn20 : n ≤ 20) (hc : n ≤ c) (hc0 : 0 < c) (hl : l.length = c) (hws : isWs (List.take 0 (List.drop ((off + 0) - off) l)) = true) (hin : 0 < n) (hov : rdOver (List.take 0 (List.drop ((off + 0) - off) l)) = true) (hra : ∀ x y, rdA (List.take 0 (List.drop ((off + 0) - off) l)) x y = x)   {Q : Ex → St → Prop} (hq : Q .normal (KSt.low (MS16 bk off n c l e))) : Gets Try.prog (KH.low ⟨1, 1, [(0, 0, .tail off .u64 l e)]⟩) (codeAt [1, 1, 1, 0, 1, 0, 0] BM) (KSt.low (MS4 bk off n c l e)) Q := by
  rw [MC1_1_1_0_1_0_0]; refine Gets.seq ?_
  rw [MC1_1_1_0_1_0_0_0]; refine Gets.seq ?_
  refine Mgo (MR6 byteRV byteV headN isWb isWs kLen manyV rdA rdAt rdOver rdRow sizeN textA textAt textR vLen withRV wordsA wordsR bk off n c l e) ?_
  rw [MC1_1_1_0_1_0_0_0_1]; refine Gets.cond true (by kernel_rfl) (MeX (b := (decide (0 ≤ ((n : Nat) : Int)))) (by kernel_rfl) ((show (decide (0 ≤ ((n : Nat) : Int))) = true from decide_eq_true (by omega)))) ?_; show Gets _ _ (codeAt [1, 1, 1, 0, 1, 0, 0, 0, 1, 0] BM) _ _
  refine Mgo (MR7 byteRV byteV headN isWb isWs kLen manyV rdA rdAt rdOver rdRow sizeN textA textAt textR vLen withRV wordsA wordsR bk off n c l e) ?_
  rw [MC1_1_1_0_1_0_0_1]; refine Gets.seq ?_
  rw [MC1_1_1_0_1_0_0_1_0]; refine Gets.block ?_
  rw [MC1_1_1_0_1_0_0_1_0_0]; refine Gets.seq ?_
  refine Mgo (x := .normal) (s' := (MS7 bk off n c l e)) ((MR8 byteRV byteV headN isWb isWs kLen manyV rdA rdAt rdOver rdRow sizeN textA textAt textR vLen withRV wordsA wordsR bk off n c l e).trans (by rw [if_pos (⟨by omega, by omega⟩), condT (and_t (rfl) (ble_t (by omega))), condF (nbeq_f (by omega))])) ?_
  rw [MC1_1_1_0_1_0_0_1_0_0_1]; refine Gets.seq ?_
  refine Mgo (x := .normal) (s' := (MS8 kLen manyV rdA rdAt rdOver rdRow textAt vLen bk off n c l e)) ((MR9 byteRV byteV headN isWb isWs kLen manyV rdA rdAt rdOver rdRow sizeN textA textAt textR vLen withRV wordsA wordsR bk off n c l e).trans (by rw [condT (ble_t (by omega)), condT (ble_t (by (first | omega | ((try simp (disch := omega) only [wrap_i64_id]) <;> omega)))), condT (and_t (decide_eq_true (by omega)) (and_t (not_t (rfl)) (and_t (Nat.ble_eq_true_of_le (by simp <;> omega)) (hws))))])) ?_
  rw [MC1_1_1_0_1_0_0_1_0_0_1_1]; refine Gets.seq ?_
  refine Mgo (MR10 byteRV byteV headN isWb isWs kLen manyV rdA rdAt rdOver rdRow sizeN textA textAt textR vLen withRV wordsA wordsR bk off n c l e) ?_
  rw [MC1_1_1_0_1_0_0_1_0_0_1_1_1]; refine Gets.seq ?_
  refine Mgo (MR11 byteRV byteV headN isWb isWs kLen manyV rdA rdAt rdOver rdRow sizeN textA textAt textR vLen withRV wordsA wordsR bk off n c l e) ?_
  rw [MC1_1_1_0_1_0_0_1_0_0_1_1_1_1]; refine Gets.seq ?_
  rw [MC1_1_1_0_1_0_0_1_0_0_1_1_1_1_0]; refine Gets.seq ?_
  refine Mgo (x := .normal) (s' := (MS12 bk off n c l e)) ((MR12 byteRV byteV headN isWb isWs kLen manyV rdA rdAt rdOver rdRow sizeN textA textAt textR vLen withRV wordsA wordsR bk off n c l e).trans (by rw [condF (not_f (by rw [hov]; rfl)), condF (not_f (and_t (by rw [hra]; first | exact beq_self_eq_true _ | rfl | (rw [List.length_take, List.length_drop]; exact ibeq_t (by omega))) (and_t (by rw [hra]; first | exact beq_self_eq_true _ | rfl | (rw [List.length_take, List.length_drop]; exact ibeq_t (by omega))) (and_t (by rw [hra]; first | exact beq_self_eq_true _ | rfl | (rw [List.length_take, List.length_drop]; exact ibeq_t (by omega))) (and_t (by rw [hra]; first | exact beq_self_eq_true _ | rfl | (rw [List.length_take, List.length_drop]; exact ibeq_t (by omega))) (and_t (by rw [hra]; first | exact beq_self_eq_true _ | rfl | (rw [List.length_take, List.length_drop]; exact ibeq_t (by omega))) (rfl))))))), condF (by rw [hov]; rfl)])) ?_
  rw [MC1_1_1_0_1_0_0_1_0_0_1_1_1_1_0_1]; refine Gets.cond false (by kernel_rfl) (by kernel_rfl) ?_; show Gets _ _ (codeAt [1, 1, 1, 0, 1, 0, 0, 1, 0, 0, 1, 1, 1, 1, 0, 1, 1] BM) _ _
  refine Mgo (MR13 byteRV byteV headN isWb isWs kLen manyV rdA rdAt rdOver rdRow sizeN textA textAt textR vLen withRV wordsA wordsR bk off n c l e) ?_
  rw [MC1_1_1_0_1_0_0_1_0_0_1_1_1_1_1]; refine Gets.seq ?_
  refine Mgo (MR14 byteRV byteV headN isWb isWs kLen manyV rdA rdAt rdOver rdRow sizeN textA textAt textR vLen withRV wordsA wordsR bk off n c l e) ?_
  rw [MC1_1_1_0_1_0_0_1_0_0_1_1_1_1_1_1]; refine Gets.cond true (by kernel_rfl) (MeX (b := (decide (0 < ((n : Nat) : Int)))) (by kernel_rfl) ((show (decide (0 < ((n : Nat) : Int))) = true from decide_eq_true (by omega)))) ?_; show Gets _ _ (codeAt [1, 1, 1, 0, 1, 0, 0, 1, 0, 0, 1, 1, 1, 1, 1, 1, 0] BM) _ _
  refine Mgo (x := .normal) (s' := (MS15 bk off n c l e)) ((MR15 byteRV byteV headN isWb isWs kLen manyV rdA rdAt rdOver rdRow sizeN textA textAt textR vLen withRV wordsA wordsR bk off n c l e).trans (by rw [if_pos (⟨by omega, by omega⟩), condT (ble_t (by omega)), obind_at (k := 0) (by omega) (by omega)] <;> rfl)) ?_
  refine Mgo (MR16 byteRV byteV headN isWb isWs kLen manyV rdA rdAt rdOver rdRow sizeN textA textAt textR vLen withRV wordsA wordsR bk off n c l e) ?_
  exact hq
theorem Mz0 {n : Nat} {c : Nat} {l : List Int} {off : Nat} {bk : Int} {e : TypeId} (hn20 : n ≤ 20) (hc : n ≤ c) (hc0 : 0 < c) (hl : l.length = c) (hws : isWs (List.take 0 (List.drop ((off + 0) - off) l)) = true) (hin : n = 0) (hov : rdOver (List.take 0 (List.drop ((off + 0) - off) l)) = true) (hra : ∀ x y, rdA (List.take 0 (List.drop ((off + 0) - off) l)) x y = x)   {Q : Ex → St → Prop} (hq : Q .normal (KSt.low (MS17 bk off n c l e))) : Gets Try.prog (KH.low ⟨1, 1, [(0, 0, .tail off .u64 l e)]⟩) (codeAt [1, 1, 1, 0, 1, 0, 0] BM) (KSt.low (MS4 bk off n c l e)) Q := by
  rw [MC1_1_1_0_1_0_0]; refine Gets.seq ?_
  rw [MC1_1_1_0_1_0_0_0]; refine Gets.seq ?_
  refine Mgo (MR6 byteRV byteV headN isWb isWs kLen manyV rdA rdAt rdOver rdRow sizeN textA textAt textR vLen withRV wordsA wordsR bk off n c l e) ?_
  rw [MC1_1_1_0_1_0_0_0_1]; refine Gets.cond true (by kernel_rfl) (MeX (b := (decide (0 ≤ ((n : Nat) : Int)))) (by kernel_rfl) ((show (decide (0 ≤ ((n : Nat) : Int))) = true from decide_eq_true (by omega)))) ?_; show Gets _ _ (codeAt [1, 1, 1, 0, 1, 0, 0, 0, 1, 0] BM) _ _
  refine Mgo (MR7 byteRV byteV headN isWb isWs kLen manyV rdA rdAt rdOver rdRow sizeN textA textAt textR vLen withRV wordsA wordsR bk off n c l e) ?_
  rw [MC1_1_1_0_1_0_0_1]; refine Gets.seq ?_
  rw [MC1_1_1_0_1_0_0_1_0]; refine Gets.block ?_
  rw [MC1_1_1_0_1_0_0_1_0_0]; refine Gets.seq ?_
  refine Mgo (x := .normal) (s' := (MS7 bk off n c l e)) ((MR8 byteRV byteV headN isWb isWs kLen manyV rdA rdAt rdOver rdRow sizeN textA textAt textR vLen withRV wordsA wordsR bk off n c l e).trans (by rw [if_pos (⟨by omega, by omega⟩), condT (and_t (rfl) (ble_t (by omega))), condF (nbeq_f (by omega))])) ?_
  rw [MC1_1_1_0_1_0_0_1_0_0_1]; refine Gets.seq ?_
  refine Mgo (x := .normal) (s' := (MS8 kLen manyV rdA rdAt rdOver rdRow textAt vLen bk off n c l e)) ((MR9 byteRV byteV headN isWb isWs kLen manyV rdA rdAt rdOver rdRow sizeN textA textAt textR vLen withRV wordsA wordsR bk off n c l e).trans (by rw [condT (ble_t (by omega)), condT (ble_t (by (first | omega | ((try simp (disch := omega) only [wrap_i64_id]) <;> omega)))), condT (and_t (decide_eq_true (by omega)) (and_t (not_t (rfl)) (and_t (Nat.ble_eq_true_of_le (by simp <;> omega)) (hws))))])) ?_
  rw [MC1_1_1_0_1_0_0_1_0_0_1_1]; refine Gets.seq ?_
  refine Mgo (MR10 byteRV byteV headN isWb isWs kLen manyV rdA rdAt rdOver rdRow sizeN textA textAt textR vLen withRV wordsA wordsR bk off n c l e) ?_
  rw [MC1_1_1_0_1_0_0_1_0_0_1_1_1]; refine Gets.seq ?_
  refine Mgo (MR11 byteRV byteV headN isWb isWs kLen manyV rdA rdAt rdOver rdRow sizeN textA textAt textR vLen withRV wordsA wordsR bk off n c l e) ?_
  rw [MC1_1_1_0_1_0_0_1_0_0_1_1_1_1]; refine Gets.seq ?_
  rw [MC1_1_1_0_1_0_0_1_0_0_1_1_1_1_0]; refine Gets.seq ?_
  refine Mgo (x := .normal) (s' := (MS12 bk off n c l e)) ((MR12 byteRV byteV headN isWb isWs kLen manyV rdA rdAt rdOver rdRow sizeN textA textAt textR vLen withRV wordsA wordsR bk off n c l e).trans (by rw [condF (not_f (by rw [hov]; rfl)), condF (not_f (and_t (by rw [hra]; first | exact beq_self_eq_true _ | rfl | (rw [List.length_take, List.length_drop]; exact ibeq_t (by omega))) (and_t (by rw [hra]; first | exact beq_self_eq_true _ | rfl | (rw [List.length_take, List.length_drop]; exact ibeq_t (by omega))) (and_t (by rw [hra]; first | exact beq_self_eq_true _ | rfl | (rw [List.length_take, List.length_drop]; exact ibeq_t (by omega))) (and_t (by rw [hra]; first | exact beq_self_eq_true _ | rfl | (rw [List.length_take, List.length_drop]; exact ibeq_t (by omega))) (and_t (by rw [hra]; first | exact beq_self_eq_true _ | rfl | (rw [List.length_take, List.length_drop]; exact ibeq_t (by omega))) (rfl))))))), condF (by rw [hov]; rfl)])) ?_
  rw [MC1_1_1_0_1_0_0_1_0_0_1_1_1_1_0_1]; refine Gets.cond false (by kernel_rfl) (by kernel_rfl) ?_; show Gets _ _ (codeAt [1, 1, 1, 0, 1, 0, 0, 1, 0, 0, 1, 1, 1, 1, 0, 1, 1] BM) _ _
  refine Mgo (MR13 byteRV byteV headN isWb isWs kLen manyV rdA rdAt rdOver rdRow sizeN textA textAt textR vLen withRV wordsA wordsR bk off n c l e) ?_
  rw [MC1_1_1_0_1_0_0_1_0_0_1_1_1_1_1]; refine Gets.seq ?_
  refine Mgo (MR14 byteRV byteV headN isWb isWs kLen manyV rdA rdAt rdOver rdRow sizeN textA textAt textR vLen withRV wordsA wordsR bk off n c l e) ?_
  rw [MC1_1_1_0_1_0_0_1_0_0_1_1_1_1_1_1]; refine Gets.cond false (by kernel_rfl) (MeX (b := (decide (0 < ((n : Nat) : Int)))) (by kernel_rfl) ((show (decide (0 < ((n : Nat) : Int))) = false from decide_eq_false (by omega)))) ?_; show Gets _ _ (codeAt [1, 1, 1, 0, 1, 0, 0, 1, 0, 0, 1, 1, 1, 1, 1, 1, 1] BM) _ _
  refine Mgo (MR17 byteRV byteV headN isWb isWs kLen manyV rdA rdAt rdOver rdRow sizeN textA textAt textR vLen withRV wordsA wordsR bk off n c l e) ?_
  refine Mgo (MR18 byteRV byteV headN isWb isWs kLen manyV rdA rdAt rdOver rdRow sizeN textA textAt textR vLen withRV wordsA wordsR bk off n c l e) ?_
  exact hq
theorem Mp1 {n : Nat} {c : Nat} {l : List Int} {k : Nat} {off : Nat} {q : List Int} {bk : Int} {e : TypeId} (hn20 : n ≤ 20) (hc : n ≤ c) (hc0 : 0 < c) (hl : l.length = c) (hws : isWs (List.take ((Int.toNat ((k : Nat) : Int)) - 0) (List.drop ((off + 0) - off) l)) = true) (hk : 1 ≤ k) (hq : q.length = k) (hS : (k : Int) < sizeN (q.getD 0 0)) (hwb : isWb (q.getD 0 0) = true) (hin : k < n) (hov : rdOver (List.take ((Int.toNat ((k : Nat) : Int)) - 0) (List.drop ((off + 0) - off) l)) = true) (hra : ∀ x y, rdA (List.take ((Int.toNat ((k : Nat) : Int)) - 0) (List.drop ((off + 0) - off) l)) x y = x)   {Q : Ex → St → Prop} (hq : Q .normal (KSt.low (MS35 bk off n c k q l e))) : Gets Try.prog (KH.low ⟨1, 1, [(0, 0, .tail off .u64 l e)]⟩) (codeAt [1, 1, 1, 0, 1, 0, 0] BM) (KSt.low (MS18 bk off n c k q l e)) Q := by
  rw [MC1_1_1_0_1_0_0]; refine Gets.seq ?_
  rw [MC1_1_1_0_1_0_0_0]; refine Gets.seq ?_
  refine Mgo (MR19 byteRV byteV headN isWb isWs kLen manyV rdA rdAt rdOver rdRow sizeN textA textAt textR vLen withRV wordsA wordsR bk off n c k q l e) ?_
  rw [MC1_1_1_0_1_0_0_0_1]; refine Gets.cond true (by kernel_rfl) (MeX (b := (decide (((k : Nat) : Int) ≤ ((n : Nat) : Int)))) (by kernel_rfl) ((show (decide (((k : Nat) : Int) ≤ ((n : Nat) : Int))) = true from decide_eq_true (by omega)))) ?_; show Gets _ _ (codeAt [1, 1, 1, 0, 1, 0, 0, 0, 1, 0] BM) _ _
  refine Mgo (MR20 byteRV byteV headN isWb isWs kLen manyV rdA rdAt rdOver rdRow sizeN textA textAt textR vLen withRV wordsA wordsR bk off n c k q l e) ?_
  rw [MC1_1_1_0_1_0_0_1]; refine Gets.seq ?_
  rw [MC1_1_1_0_1_0_0_1_0]; refine Gets.block ?_
  rw [MC1_1_1_0_1_0_0_1_0_0]; refine Gets.seq ?_
  refine Mgo (x := .normal) (s' := (MS21 bk off n c k q l e)) ((MR21 byteRV byteV headN isWb isWs kLen manyV rdA rdAt rdOver rdRow sizeN textA textAt textR vLen withRV wordsA wordsR bk off n c k q l e).trans (by rw [if_pos (⟨by omega, by omega⟩), condT (and_t (ble_t (by omega)) (ble_t (by omega))), condF (nbeq_f (by omega))])) ?_
  rw [MC1_1_1_0_1_0_0_1_0_0_1]; refine Gets.seq ?_
  refine Mgo (x := .normal) (s' := (MS22 kLen manyV rdA rdAt rdOver rdRow textAt vLen bk off n c k q l e)) ((MR22 byteRV byteV headN isWb isWs kLen manyV rdA rdAt rdOver rdRow sizeN textA textAt textR vLen withRV wordsA wordsR bk off n c k q l e).trans (by rw [condT (ble_t (by omega)), condT (ble_t (by (first | omega | ((try simp (disch := omega) only [wrap_i64_id]) <;> omega)))), condT (and_t (decide_eq_true (by omega)) (and_t (not_t (rfl)) (and_t (Nat.ble_eq_true_of_le (by simp <;> omega)) (hws))))])) ?_
  rw [MC1_1_1_0_1_0_0_1_0_0_1_1]; refine Gets.seq ?_
  refine Mgo (x := .normal) (s' := (MS23 kLen manyV rdA rdAt rdOver rdRow textAt vLen bk off n c k q l e)) ((MR23 byteRV byteV headN isWb isWs kLen manyV rdA rdAt rdOver rdRow sizeN textA textAt textR vLen withRV wordsA wordsR bk off n c k q l e).trans (by rw [condT (decide_eq_true (by omega)), if_pos (⟨by omega, by omega⟩), obind_at (k := 0) (by omega) (by omega), condT (hwb), condT (not_t (ibeq_f (by omega)))] <;> rfl)) ?_
  rw [MC1_1_1_0_1_0_0_1_0_0_1_1_1]; refine Gets.seq ?_
  refine Mgo (x := .normal) (s' := (MS26 kLen manyV rdA rdAt rdOver rdRow textAt vLen bk off n c k q l e)) ((MR24 byteRV byteV headN isWb isWs kLen manyV rdA rdAt rdOver rdRow sizeN textA textAt textR vLen withRV wordsA wordsR bk off n c k q l e).trans (by rw [condT (decide_eq_true (by omega)), if_pos (⟨by omega, by omega⟩), obind_at (k := 0) (by omega) (by omega), condT (hwb), condF (ibeq_f (by omega))] <;> rfl)) ?_
  rw [MC1_1_1_0_1_0_0_1_0_0_1_1_1_1]; refine Gets.seq ?_
  rw [MC1_1_1_0_1_0_0_1_0_0_1_1_1_1_0]; refine Gets.seq ?_
  refine Mgo (x := .normal) (s' := (MS28 bk off n c k q l e)) ((MR25 byteRV byteV headN isWb isWs kLen manyV rdA rdAt rdOver rdRow sizeN textA textAt textR vLen withRV wordsA wordsR bk off n c k q l e).trans (by rw [condF (not_f (by rw [hov]; rfl)), condF (not_f (and_t (by rw [hra]; first | exact beq_self_eq_true _ | rfl | (rw [List.length_take, List.length_drop]; exact ibeq_t (by omega))) (and_t (by rw [hra]; first | exact beq_self_eq_true _ | rfl | (rw [List.length_take, List.length_drop]; exact ibeq_t (by omega))) (and_t (by rw [hra]; first | exact beq_self_eq_true _ | rfl | (rw [List.length_take, List.length_drop]; exact ibeq_t (by omega))) (and_t (by rw [hra]; first | exact beq_self_eq_true _ | rfl | (rw [List.length_take, List.length_drop]; exact ibeq_t (by omega))) (and_t (by rw [hra]; first | exact beq_self_eq_true _ | rfl | (rw [List.length_take, List.length_drop]; exact ibeq_t (by omega))) (rfl))))))), condF (by rw [hov]; rfl)])) ?_
  rw [MC1_1_1_0_1_0_0_1_0_0_1_1_1_1_0_1]; refine Gets.cond false (by kernel_rfl) (by kernel_rfl) ?_; show Gets _ _ (codeAt [1, 1, 1, 0, 1, 0, 0, 1, 0, 0, 1, 1, 1, 1, 0, 1, 1] BM) _ _
  refine Mgo (MR26 byteRV byteV headN isWb isWs kLen manyV rdA rdAt rdOver rdRow sizeN textA textAt textR vLen withRV wordsA wordsR bk off n c k q l e) ?_
  rw [MC1_1_1_0_1_0_0_1_0_0_1_1_1_1_1]; refine Gets.seq ?_
  refine Mgo (MR27 byteRV byteV headN isWb isWs kLen manyV rdA rdAt rdOver rdRow sizeN textA textAt textR vLen withRV wordsA wordsR bk off n c k q l e) ?_
  rw [MC1_1_1_0_1_0_0_1_0_0_1_1_1_1_1_1]; refine Gets.cond true (by kernel_rfl) (MeX (b := (decide (((k : Nat) : Int) < ((n : Nat) : Int)))) (by kernel_rfl) ((show (decide (((k : Nat) : Int) < ((n : Nat) : Int))) = true from decide_eq_true (by omega)))) ?_; show Gets _ _ (codeAt [1, 1, 1, 0, 1, 0, 0, 1, 0, 0, 1, 1, 1, 1, 1, 1, 0] BM) _ _
  refine Mgo (x := .normal) (s' := (MS33 bk off n c k q l e)) ((MR28 byteRV byteV headN isWb isWs kLen manyV rdA rdAt rdOver rdRow sizeN textA textAt textR vLen withRV wordsA wordsR bk off n c k q l e).trans (by rw [if_pos (⟨by omega, by omega⟩), condT (ble_t (by omega)), obind_at (k := ((Int.toNat ((k : Nat) : Int)) * 1)) (by omega) (by omega), condT (decide_eq_true (by omega)), if_pos (⟨by omega, by omega⟩), obind_at (k := 0) (by omega) (by omega), condT (hwb), condF (ibeq_f (by omega)), condT (ble_t (by omega)), condF (ble_f (by omega)), condF (and_f1 (nbeq_f (by omega))), condT (and_t (ble_t (by (first | omega | ((try simp (disch := omega) only [wrap_i64_id]) <;> omega)))) (ble_t (by omega)))] <;> rfl)) ?_
  refine Mgo (x := .normal) (s' := (MS35 bk off n c k q l e)) ((MR29 byteRV byteV headN isWb isWs kLen manyV rdA rdAt rdOver rdRow sizeN textA textAt textR vLen withRV wordsA wordsR bk off n c k q l e).trans (by (show some (Ex.normal, (MS34 bk off n c k q l e)) = some (Ex.normal, (MS35 bk off n c k q l e)); unfold MS34 MS35; rw [(show (IntKind.wrap .i64 (((k : Nat) : Int) + 1)) = (((k : Nat) : Int) + 1) from wrap_i64_id (by omega) (by omega))]))) ?_
  exact hq
theorem Mp0 {n : Nat} {c : Nat} {l : List Int} {k : Nat} {off : Nat} {q : List Int} {bk : Int} {e : TypeId} (hn20 : n ≤ 20) (hc : n ≤ c) (hc0 : 0 < c) (hl : l.length = c) (hws : isWs (List.take ((Int.toNat ((k : Nat) : Int)) - 0) (List.drop ((off + 0) - off) l)) = true) (hk : 1 ≤ k) (hq : q.length = k) (hS : (k : Int) < sizeN (q.getD 0 0)) (hwb : isWb (q.getD 0 0) = true) (hin : k = n) (hov : rdOver (List.take ((Int.toNat ((k : Nat) : Int)) - 0) (List.drop ((off + 0) - off) l)) = true) (hra : ∀ x y, rdA (List.take ((Int.toNat ((k : Nat) : Int)) - 0) (List.drop ((off + 0) - off) l)) x y = x)   {Q : Ex → St → Prop} (hq : Q .normal (KSt.low (MS37 bk off n c k q l e))) : Gets Try.prog (KH.low ⟨1, 1, [(0, 0, .tail off .u64 l e)]⟩) (codeAt [1, 1, 1, 0, 1, 0, 0] BM) (KSt.low (MS18 bk off n c k q l e)) Q := by
  rw [MC1_1_1_0_1_0_0]; refine Gets.seq ?_
  rw [MC1_1_1_0_1_0_0_0]; refine Gets.seq ?_
  refine Mgo (MR19 byteRV byteV headN isWb isWs kLen manyV rdA rdAt rdOver rdRow sizeN textA textAt textR vLen withRV wordsA wordsR bk off n c k q l e) ?_
  rw [MC1_1_1_0_1_0_0_0_1]; refine Gets.cond true (by kernel_rfl) (MeX (b := (decide (((k : Nat) : Int) ≤ ((n : Nat) : Int)))) (by kernel_rfl) ((show (decide (((k : Nat) : Int) ≤ ((n : Nat) : Int))) = true from decide_eq_true (by omega)))) ?_; show Gets _ _ (codeAt [1, 1, 1, 0, 1, 0, 0, 0, 1, 0] BM) _ _
  refine Mgo (MR20 byteRV byteV headN isWb isWs kLen manyV rdA rdAt rdOver rdRow sizeN textA textAt textR vLen withRV wordsA wordsR bk off n c k q l e) ?_
  rw [MC1_1_1_0_1_0_0_1]; refine Gets.seq ?_
  rw [MC1_1_1_0_1_0_0_1_0]; refine Gets.block ?_
  rw [MC1_1_1_0_1_0_0_1_0_0]; refine Gets.seq ?_
  refine Mgo (x := .normal) (s' := (MS21 bk off n c k q l e)) ((MR21 byteRV byteV headN isWb isWs kLen manyV rdA rdAt rdOver rdRow sizeN textA textAt textR vLen withRV wordsA wordsR bk off n c k q l e).trans (by rw [if_pos (⟨by omega, by omega⟩), condT (and_t (ble_t (by omega)) (ble_t (by omega))), condF (nbeq_f (by omega))])) ?_
  rw [MC1_1_1_0_1_0_0_1_0_0_1]; refine Gets.seq ?_
  refine Mgo (x := .normal) (s' := (MS22 kLen manyV rdA rdAt rdOver rdRow textAt vLen bk off n c k q l e)) ((MR22 byteRV byteV headN isWb isWs kLen manyV rdA rdAt rdOver rdRow sizeN textA textAt textR vLen withRV wordsA wordsR bk off n c k q l e).trans (by rw [condT (ble_t (by omega)), condT (ble_t (by (first | omega | ((try simp (disch := omega) only [wrap_i64_id]) <;> omega)))), condT (and_t (decide_eq_true (by omega)) (and_t (not_t (rfl)) (and_t (Nat.ble_eq_true_of_le (by simp <;> omega)) (hws))))])) ?_
  rw [MC1_1_1_0_1_0_0_1_0_0_1_1]; refine Gets.seq ?_
  refine Mgo (x := .normal) (s' := (MS23 kLen manyV rdA rdAt rdOver rdRow textAt vLen bk off n c k q l e)) ((MR23 byteRV byteV headN isWb isWs kLen manyV rdA rdAt rdOver rdRow sizeN textA textAt textR vLen withRV wordsA wordsR bk off n c k q l e).trans (by rw [condT (decide_eq_true (by omega)), if_pos (⟨by omega, by omega⟩), obind_at (k := 0) (by omega) (by omega), condT (hwb), condT (not_t (ibeq_f (by omega)))] <;> rfl)) ?_
  rw [MC1_1_1_0_1_0_0_1_0_0_1_1_1]; refine Gets.seq ?_
  refine Mgo (x := .normal) (s' := (MS26 kLen manyV rdA rdAt rdOver rdRow textAt vLen bk off n c k q l e)) ((MR24 byteRV byteV headN isWb isWs kLen manyV rdA rdAt rdOver rdRow sizeN textA textAt textR vLen withRV wordsA wordsR bk off n c k q l e).trans (by rw [condT (decide_eq_true (by omega)), if_pos (⟨by omega, by omega⟩), obind_at (k := 0) (by omega) (by omega), condT (hwb), condF (ibeq_f (by omega))] <;> rfl)) ?_
  rw [MC1_1_1_0_1_0_0_1_0_0_1_1_1_1]; refine Gets.seq ?_
  rw [MC1_1_1_0_1_0_0_1_0_0_1_1_1_1_0]; refine Gets.seq ?_
  refine Mgo (x := .normal) (s' := (MS28 bk off n c k q l e)) ((MR25 byteRV byteV headN isWb isWs kLen manyV rdA rdAt rdOver rdRow sizeN textA textAt textR vLen withRV wordsA wordsR bk off n c k q l e).trans (by rw [condF (not_f (by rw [hov]; rfl)), condF (not_f (and_t (by rw [hra]; first | exact beq_self_eq_true _ | rfl | (rw [List.length_take, List.length_drop]; exact ibeq_t (by omega))) (and_t (by rw [hra]; first | exact beq_self_eq_true _ | rfl | (rw [List.length_take, List.length_drop]; exact ibeq_t (by omega))) (and_t (by rw [hra]; first | exact beq_self_eq_true _ | rfl | (rw [List.length_take, List.length_drop]; exact ibeq_t (by omega))) (and_t (by rw [hra]; first | exact beq_self_eq_true _ | rfl | (rw [List.length_take, List.length_drop]; exact ibeq_t (by omega))) (and_t (by rw [hra]; first | exact beq_self_eq_true _ | rfl | (rw [List.length_take, List.length_drop]; exact ibeq_t (by omega))) (rfl))))))), condF (by rw [hov]; rfl)])) ?_
  rw [MC1_1_1_0_1_0_0_1_0_0_1_1_1_1_0_1]; refine Gets.cond false (by kernel_rfl) (by kernel_rfl) ?_; show Gets _ _ (codeAt [1, 1, 1, 0, 1, 0, 0, 1, 0, 0, 1, 1, 1, 1, 0, 1, 1] BM) _ _
  refine Mgo (MR26 byteRV byteV headN isWb isWs kLen manyV rdA rdAt rdOver rdRow sizeN textA textAt textR vLen withRV wordsA wordsR bk off n c k q l e) ?_
  rw [MC1_1_1_0_1_0_0_1_0_0_1_1_1_1_1]; refine Gets.seq ?_
  refine Mgo (MR27 byteRV byteV headN isWb isWs kLen manyV rdA rdAt rdOver rdRow sizeN textA textAt textR vLen withRV wordsA wordsR bk off n c k q l e) ?_
  rw [MC1_1_1_0_1_0_0_1_0_0_1_1_1_1_1_1]; refine Gets.cond false (by kernel_rfl) (MeX (b := (decide (((k : Nat) : Int) < ((n : Nat) : Int)))) (by kernel_rfl) ((show (decide (((k : Nat) : Int) < ((n : Nat) : Int))) = false from decide_eq_false (by omega)))) ?_; show Gets _ _ (codeAt [1, 1, 1, 0, 1, 0, 0, 1, 0, 0, 1, 1, 1, 1, 1, 1, 1] BM) _ _
  refine Mgo (MR30 byteRV byteV headN isWb isWs kLen manyV rdA rdAt rdOver rdRow sizeN textA textAt textR vLen withRV wordsA wordsR bk off n c k q l e) ?_
  refine Mgo (x := .normal) (s' := (MS37 bk off n c k q l e)) ((MR31 byteRV byteV headN isWb isWs kLen manyV rdA rdAt rdOver rdRow sizeN textA textAt textR vLen withRV wordsA wordsR bk off n c k q l e).trans (by (show some (Ex.normal, (MS36 bk off n c k q l e)) = some (Ex.normal, (MS37 bk off n c k q l e)); unfold MS36 MS37; rw [(show (IntKind.wrap .i64 (((k : Nat) : Int) + 1)) = (((k : Nat) : Int) + 1) from wrap_i64_id (by omega) (by omega))]))) ?_
  exact hq
theorem Md1 {n : Nat} {c : Nat} {l : List Int} {k : Nat} {off : Nat} {m : Nat} {q : List Int} {bk : Int} {e : TypeId} (hn20 : n ≤ 20) (hc : n ≤ c) (hc0 : 0 < c) (hl : l.length = c) (hws : isWs (List.take ((Int.toNat ((k : Nat) : Int)) - 0) (List.drop ((off + 0) - off) l)) = true) (hk : m ≤ k) (hm : 1 ≤ m) (hq : q.length = m) (hS : (m : Int) = sizeN (q.getD 0 0)) (hwq : isWs (List.take m (List.drop 0 q)) = true) (hwb : isWb (q.getD 0 0) = true) (hin : k < n) (hov : rdOver (List.take ((Int.toNat ((k : Nat) : Int)) - 0) (List.drop ((off + 0) - off) l)) = false) (hra : ∀ x y, rdA (List.take ((Int.toNat ((k : Nat) : Int)) - 0) (List.drop ((off + 0) - off) l)) x y = y) (hrow : rdRow (List.take ((Int.toNat ((k : Nat) : Int)) - 0) (List.drop ((off + 0) - off) l)) = List.take m (List.drop 0 q))   {Q : Ex → St → Prop} (hq : Q .normal (KSt.low (MS53 bk off n c k q m l e))) : Gets Try.prog (KH.low ⟨1, 1, [(0, 0, .tail off .u64 l e)]⟩) (codeAt [1, 1, 1, 0, 1, 0, 0] BM) (KSt.low (MS38 bk off n c k q m l e)) Q := by
  rw [MC1_1_1_0_1_0_0]; refine Gets.seq ?_
  rw [MC1_1_1_0_1_0_0_0]; refine Gets.seq ?_
  refine Mgo (MR32 byteRV byteV headN isWb isWs kLen manyV rdA rdAt rdOver rdRow sizeN textA textAt textR vLen withRV wordsA wordsR bk off n c k q m l e) ?_
  rw [MC1_1_1_0_1_0_0_0_1]; refine Gets.cond true (by kernel_rfl) (MeX (b := (decide (((k : Nat) : Int) ≤ ((n : Nat) : Int)))) (by kernel_rfl) ((show (decide (((k : Nat) : Int) ≤ ((n : Nat) : Int))) = true from decide_eq_true (by omega)))) ?_; show Gets _ _ (codeAt [1, 1, 1, 0, 1, 0, 0, 0, 1, 0] BM) _ _
  refine Mgo (MR33 byteRV byteV headN isWb isWs kLen manyV rdA rdAt rdOver rdRow sizeN textA textAt textR vLen withRV wordsA wordsR bk off n c k q m l e) ?_
  rw [MC1_1_1_0_1_0_0_1]; refine Gets.seq ?_
  rw [MC1_1_1_0_1_0_0_1_0]; refine Gets.block ?_
  rw [MC1_1_1_0_1_0_0_1_0_0]; refine Gets.seq ?_
  refine Mgo (x := .normal) (s' := (MS41 bk off n c k q m l e)) ((MR34 byteRV byteV headN isWb isWs kLen manyV rdA rdAt rdOver rdRow sizeN textA textAt textR vLen withRV wordsA wordsR bk off n c k q m l e).trans (by rw [if_pos (⟨by omega, by omega⟩), condT (and_t (ble_t (by omega)) (ble_t (by omega))), condF (nbeq_f (by omega))])) ?_
  rw [MC1_1_1_0_1_0_0_1_0_0_1]; refine Gets.seq ?_
  refine Mgo (x := .normal) (s' := (MS42 kLen manyV rdA rdAt rdOver rdRow textAt vLen bk off n c k q l m e)) ((MR35 byteRV byteV headN isWb isWs kLen manyV rdA rdAt rdOver rdRow sizeN textA textAt textR vLen withRV wordsA wordsR bk off n c k q m l e).trans (by rw [condT (ble_t (by omega)), condT (ble_t (by (first | omega | ((try simp (disch := omega) only [wrap_i64_id]) <;> omega)))), condT (and_t (decide_eq_true (by omega)) (and_t (not_t (rfl)) (and_t (Nat.ble_eq_true_of_le (by simp <;> omega)) (hws))))])) ?_
  rw [MC1_1_1_0_1_0_0_1_0_0_1_1]; refine Gets.seq ?_
  refine Mgo (x := .normal) (s' := (MS44 kLen manyV rdA rdAt rdOver rdRow textAt vLen bk off n c k q m l e)) ((MR36 byteRV byteV headN isWb isWs kLen manyV rdA rdAt rdOver rdRow sizeN textA textAt textR vLen withRV wordsA wordsR bk off n c k q l m e).trans (by rw [condT (decide_eq_true (by omega)), if_pos (⟨by omega, by omega⟩), obind_at (k := 0) (by omega) (by omega), condT (hwb), condF (not_f (ibeq_t (by omega))), condT (ble_t (by (first | omega | ((try simp (disch := omega) only [wrap_i64_id]) <;> omega)))), condT (and_t (Nat.ble_eq_true_of_le (by simp <;> omega)) (hwq))] <;> rfl)) ?_
  rw [MC1_1_1_0_1_0_0_1_0_0_1_1_1]; refine Gets.seq ?_
  refine Mgo (x := .normal) (s' := (MS45 kLen manyV rdA rdAt rdOver rdRow textAt vLen bk off n c k q m l e)) ((MR37 byteRV byteV headN isWb isWs kLen manyV rdA rdAt rdOver rdRow sizeN textA textAt textR vLen withRV wordsA wordsR bk off n c k q m l e).trans (by rw [condT (decide_eq_true (by omega)), if_pos (⟨by omega, by omega⟩), obind_at (k := 0) (by omega) (by omega), condT (hwb), condT (ibeq_t (by omega))] <;> rfl)) ?_
  rw [MC1_1_1_0_1_0_0_1_0_0_1_1_1_1]; refine Gets.seq ?_
  rw [MC1_1_1_0_1_0_0_1_0_0_1_1_1_1_0]; refine Gets.seq ?_
  refine Mgo (x := .normal) (s' := (MS48 bk off n c k q m l e)) ((MR38 byteRV byteV headN isWb isWs kLen manyV rdA rdAt rdOver rdRow sizeN textA textAt textR vLen withRV wordsA wordsR bk off n c k q m l e).trans (by rw [condF (not_f (by rw [hov]; rfl)), condF (not_f (and_t (by rw [hra]; first | exact beq_self_eq_true _ | rfl | (rw [List.length_take, List.length_drop]; exact ibeq_t (by omega))) (and_t (by rw [hra]; first | exact beq_self_eq_true _ | rfl | (rw [List.length_take, List.length_drop]; exact ibeq_t (by omega))) (and_t (by rw [hra]; first | exact beq_self_eq_true _ | rfl | (rw [List.length_take, List.length_drop]; exact ibeq_t (by omega))) (and_t (by rw [hra]; first | exact beq_self_eq_true _ | rfl | (rw [List.length_take, List.length_drop]; exact ibeq_t (by omega))) (and_t (by rw [hra]; first | exact beq_self_eq_true _ | rfl | (rw [List.length_take, List.length_drop]; exact ibeq_t (by omega))) (rfl))))))), condF (by rw [hov]; rfl), condF (not_f (and_t (by rw [hrow]; exact beq_self_eq_true _) (and_t (by rw [hrow]; exact beq_self_eq_true _) (rfl))))])) ?_
  rw [MC1_1_1_0_1_0_0_1_0_0_1_1_1_1_0_1]; refine Gets.cond false (by kernel_rfl) (by kernel_rfl) ?_; show Gets _ _ (codeAt [1, 1, 1, 0, 1, 0, 0, 1, 0, 0, 1, 1, 1, 1, 0, 1, 1] BM) _ _
  refine Mgo (MR39 byteRV byteV headN isWb isWs kLen manyV rdA rdAt rdOver rdRow sizeN textA textAt textR vLen withRV wordsA wordsR bk off n c k q m l e) ?_
  rw [MC1_1_1_0_1_0_0_1_0_0_1_1_1_1_1]; refine Gets.seq ?_
  refine Mgo (MR40 byteRV byteV headN isWb isWs kLen manyV rdA rdAt rdOver rdRow sizeN textA textAt textR vLen withRV wordsA wordsR bk off n c k q m l e) ?_
  rw [MC1_1_1_0_1_0_0_1_0_0_1_1_1_1_1_1]; refine Gets.cond true (by kernel_rfl) (MeX (b := (decide (((k : Nat) : Int) < ((n : Nat) : Int)))) (by kernel_rfl) ((show (decide (((k : Nat) : Int) < ((n : Nat) : Int))) = true from decide_eq_true (by omega)))) ?_; show Gets _ _ (codeAt [1, 1, 1, 0, 1, 0, 0, 1, 0, 0, 1, 1, 1, 1, 1, 1, 0] BM) _ _
  refine Mgo (x := .normal) (s' := (MS38 bk off n c k q m l e)) ((MR41 byteRV byteV headN isWb isWs kLen manyV rdA rdAt rdOver rdRow sizeN textA textAt textR vLen withRV wordsA wordsR bk off n c k q m l e).trans (by rw [if_pos (⟨by omega, by omega⟩), condT (ble_t (by omega)), obind_at (k := ((Int.toNat ((k : Nat) : Int)) * 1)) (by omega) (by omega), condT (decide_eq_true (by omega)), if_pos (⟨by omega, by omega⟩), obind_at (k := 0) (by omega) (by omega), condT (hwb), condT (ibeq_t (by omega))] <;> rfl)) ?_
  refine Mgo (x := .normal) (s' := (MS53 bk off n c k q m l e)) ((MR42 byteRV byteV headN isWb isWs kLen manyV rdA rdAt rdOver rdRow sizeN textA textAt textR vLen withRV wordsA wordsR bk off n c k q m l e).trans (by (show some (Ex.normal, (MS52 bk off n c k q m l e)) = some (Ex.normal, (MS53 bk off n c k q m l e)); unfold MS52 MS53; rw [(show (IntKind.wrap .i64 (((k : Nat) : Int) + 1)) = (((k : Nat) : Int) + 1) from wrap_i64_id (by omega) (by omega))]))) ?_
  exact hq
theorem Md0 {n : Nat} {c : Nat} {l : List Int} {k : Nat} {off : Nat} {m : Nat} {q : List Int} {bk : Int} {e : TypeId} (hn20 : n ≤ 20) (hc : n ≤ c) (hc0 : 0 < c) (hl : l.length = c) (hws : isWs (List.take ((Int.toNat ((k : Nat) : Int)) - 0) (List.drop ((off + 0) - off) l)) = true) (hk : m ≤ k) (hm : 1 ≤ m) (hq : q.length = m) (hS : (m : Int) = sizeN (q.getD 0 0)) (hwq : isWs (List.take m (List.drop 0 q)) = true) (hwb : isWb (q.getD 0 0) = true) (hin : k = n) (hov : rdOver (List.take ((Int.toNat ((k : Nat) : Int)) - 0) (List.drop ((off + 0) - off) l)) = false) (hra : ∀ x y, rdA (List.take ((Int.toNat ((k : Nat) : Int)) - 0) (List.drop ((off + 0) - off) l)) x y = y) (hrow : rdRow (List.take ((Int.toNat ((k : Nat) : Int)) - 0) (List.drop ((off + 0) - off) l)) = List.take m (List.drop 0 q))   {Q : Ex → St → Prop} (hq : Q .normal (KSt.low (MS53 bk off n c k q m l e))) : Gets Try.prog (KH.low ⟨1, 1, [(0, 0, .tail off .u64 l e)]⟩) (codeAt [1, 1, 1, 0, 1, 0, 0] BM) (KSt.low (MS38 bk off n c k q m l e)) Q := by
  rw [MC1_1_1_0_1_0_0]; refine Gets.seq ?_
  rw [MC1_1_1_0_1_0_0_0]; refine Gets.seq ?_
  refine Mgo (MR32 byteRV byteV headN isWb isWs kLen manyV rdA rdAt rdOver rdRow sizeN textA textAt textR vLen withRV wordsA wordsR bk off n c k q m l e) ?_
  rw [MC1_1_1_0_1_0_0_0_1]; refine Gets.cond true (by kernel_rfl) (MeX (b := (decide (((k : Nat) : Int) ≤ ((n : Nat) : Int)))) (by kernel_rfl) ((show (decide (((k : Nat) : Int) ≤ ((n : Nat) : Int))) = true from decide_eq_true (by omega)))) ?_; show Gets _ _ (codeAt [1, 1, 1, 0, 1, 0, 0, 0, 1, 0] BM) _ _
  refine Mgo (MR33 byteRV byteV headN isWb isWs kLen manyV rdA rdAt rdOver rdRow sizeN textA textAt textR vLen withRV wordsA wordsR bk off n c k q m l e) ?_
  rw [MC1_1_1_0_1_0_0_1]; refine Gets.seq ?_
  rw [MC1_1_1_0_1_0_0_1_0]; refine Gets.block ?_
  rw [MC1_1_1_0_1_0_0_1_0_0]; refine Gets.seq ?_
  refine Mgo (x := .normal) (s' := (MS41 bk off n c k q m l e)) ((MR34 byteRV byteV headN isWb isWs kLen manyV rdA rdAt rdOver rdRow sizeN textA textAt textR vLen withRV wordsA wordsR bk off n c k q m l e).trans (by rw [if_pos (⟨by omega, by omega⟩), condT (and_t (ble_t (by omega)) (ble_t (by omega))), condF (nbeq_f (by omega))])) ?_
  rw [MC1_1_1_0_1_0_0_1_0_0_1]; refine Gets.seq ?_
  refine Mgo (x := .normal) (s' := (MS42 kLen manyV rdA rdAt rdOver rdRow textAt vLen bk off n c k q l m e)) ((MR35 byteRV byteV headN isWb isWs kLen manyV rdA rdAt rdOver rdRow sizeN textA textAt textR vLen withRV wordsA wordsR bk off n c k q m l e).trans (by rw [condT (ble_t (by omega)), condT (ble_t (by (first | omega | ((try simp (disch := omega) only [wrap_i64_id]) <;> omega)))), condT (and_t (decide_eq_true (by omega)) (and_t (not_t (rfl)) (and_t (Nat.ble_eq_true_of_le (by simp <;> omega)) (hws))))])) ?_
  rw [MC1_1_1_0_1_0_0_1_0_0_1_1]; refine Gets.seq ?_
  refine Mgo (x := .normal) (s' := (MS44 kLen manyV rdA rdAt rdOver rdRow textAt vLen bk off n c k q m l e)) ((MR36 byteRV byteV headN isWb isWs kLen manyV rdA rdAt rdOver rdRow sizeN textA textAt textR vLen withRV wordsA wordsR bk off n c k q l m e).trans (by rw [condT (decide_eq_true (by omega)), if_pos (⟨by omega, by omega⟩), obind_at (k := 0) (by omega) (by omega), condT (hwb), condF (not_f (ibeq_t (by omega))), condT (ble_t (by (first | omega | ((try simp (disch := omega) only [wrap_i64_id]) <;> omega)))), condT (and_t (Nat.ble_eq_true_of_le (by simp <;> omega)) (hwq))] <;> rfl)) ?_
  rw [MC1_1_1_0_1_0_0_1_0_0_1_1_1]; refine Gets.seq ?_
  refine Mgo (x := .normal) (s' := (MS45 kLen manyV rdA rdAt rdOver rdRow textAt vLen bk off n c k q m l e)) ((MR37 byteRV byteV headN isWb isWs kLen manyV rdA rdAt rdOver rdRow sizeN textA textAt textR vLen withRV wordsA wordsR bk off n c k q m l e).trans (by rw [condT (decide_eq_true (by omega)), if_pos (⟨by omega, by omega⟩), obind_at (k := 0) (by omega) (by omega), condT (hwb), condT (ibeq_t (by omega))] <;> rfl)) ?_
  rw [MC1_1_1_0_1_0_0_1_0_0_1_1_1_1]; refine Gets.seq ?_
  rw [MC1_1_1_0_1_0_0_1_0_0_1_1_1_1_0]; refine Gets.seq ?_
  refine Mgo (x := .normal) (s' := (MS48 bk off n c k q m l e)) ((MR38 byteRV byteV headN isWb isWs kLen manyV rdA rdAt rdOver rdRow sizeN textA textAt textR vLen withRV wordsA wordsR bk off n c k q m l e).trans (by rw [condF (not_f (by rw [hov]; rfl)), condF (not_f (and_t (by rw [hra]; first | exact beq_self_eq_true _ | rfl | (rw [List.length_take, List.length_drop]; exact ibeq_t (by omega))) (and_t (by rw [hra]; first | exact beq_self_eq_true _ | rfl | (rw [List.length_take, List.length_drop]; exact ibeq_t (by omega))) (and_t (by rw [hra]; first | exact beq_self_eq_true _ | rfl | (rw [List.length_take, List.length_drop]; exact ibeq_t (by omega))) (and_t (by rw [hra]; first | exact beq_self_eq_true _ | rfl | (rw [List.length_take, List.length_drop]; exact ibeq_t (by omega))) (and_t (by rw [hra]; first | exact beq_self_eq_true _ | rfl | (rw [List.length_take, List.length_drop]; exact ibeq_t (by omega))) (rfl))))))), condF (by rw [hov]; rfl), condF (not_f (and_t (by rw [hrow]; exact beq_self_eq_true _) (and_t (by rw [hrow]; exact beq_self_eq_true _) (rfl))))])) ?_
  rw [MC1_1_1_0_1_0_0_1_0_0_1_1_1_1_0_1]; refine Gets.cond false (by kernel_rfl) (by kernel_rfl) ?_; show Gets _ _ (codeAt [1, 1, 1, 0, 1, 0, 0, 1, 0, 0, 1, 1, 1, 1, 0, 1, 1] BM) _ _
  refine Mgo (MR39 byteRV byteV headN isWb isWs kLen manyV rdA rdAt rdOver rdRow sizeN textA textAt textR vLen withRV wordsA wordsR bk off n c k q m l e) ?_
  rw [MC1_1_1_0_1_0_0_1_0_0_1_1_1_1_1]; refine Gets.seq ?_
  refine Mgo (MR40 byteRV byteV headN isWb isWs kLen manyV rdA rdAt rdOver rdRow sizeN textA textAt textR vLen withRV wordsA wordsR bk off n c k q m l e) ?_
  rw [MC1_1_1_0_1_0_0_1_0_0_1_1_1_1_1_1]; refine Gets.cond false (by kernel_rfl) (MeX (b := (decide (((k : Nat) : Int) < ((n : Nat) : Int)))) (by kernel_rfl) ((show (decide (((k : Nat) : Int) < ((n : Nat) : Int))) = false from decide_eq_false (by omega)))) ?_; show Gets _ _ (codeAt [1, 1, 1, 0, 1, 0, 0, 1, 0, 0, 1, 1, 1, 1, 1, 1, 1] BM) _ _
  refine Mgo (MR43 byteRV byteV headN isWb isWs kLen manyV rdA rdAt rdOver rdRow sizeN textA textAt textR vLen withRV wordsA wordsR bk off n c k q m l e) ?_
  refine Mgo (x := .normal) (s' := (MS53 bk off n c k q m l e)) ((MR42 byteRV byteV headN isWb isWs kLen manyV rdA rdAt rdOver rdRow sizeN textA textAt textR vLen withRV wordsA wordsR bk off n c k q m l e).trans (by (show some (Ex.normal, (MS52 bk off n c k q m l e)) = some (Ex.normal, (MS53 bk off n c k q m l e)); unfold MS52 MS53; rw [(show (IntKind.wrap .i64 (((k : Nat) : Int) + 1)) = (((k : Nat) : Int) + 1) from wrap_i64_id (by omega) (by omega))]))) ?_
  exact hq
theorem Mex {n : Nat} {i : Int} {bk : Int} {off : Nat} {c : Nat} {q : List Int} {k : Nat} {l : List Int} {e : TypeId} (hx : (n : Int) < i)   {Q : Ex → St → Prop} (hq : Q (.exit 0) (KSt.low (MS55 bk off n c i q k l e))) : Gets Try.prog (KH.low ⟨1, 1, [(0, 0, .tail off .u64 l e)]⟩) (codeAt [1, 1, 1, 0, 1, 0, 0] BM) (KSt.low (MS54 bk off n c i q k l e)) Q := by
  rw [MC1_1_1_0_1_0_0]; refine Gets.seq ?_
  rw [MC1_1_1_0_1_0_0_0]; refine Gets.seq ?_
  refine Mgo (MR44 byteRV byteV headN isWb isWs kLen manyV rdA rdAt rdOver rdRow sizeN textA textAt textR vLen withRV wordsA wordsR bk off n c i q k l e) ?_
  rw [MC1_1_1_0_1_0_0_0_1]; refine Gets.cond false (by kernel_rfl) (MeX (b := (decide (i ≤ ((n : Nat) : Int)))) (by kernel_rfl) ((show (decide (i ≤ ((n : Nat) : Int))) = false from decide_eq_false (by omega)))) ?_; show Gets _ _ (codeAt [1, 1, 1, 0, 1, 0, 0, 0, 1, 1] BM) _ _
  rw [MC1_1_1_0_1_0_0_0_1_1]; refine Gets.ev fitA5.mix fitA5.cfg (fitA5.sound wra_sound 14 0) 14 rfl (s' := KSt.low (MS55 bk off n c i q k l e)) (x := (.exit 0)) rfl ?_
  exact hq
theorem Mex0 {n : Nat} {bk : Int} {off : Nat} {c : Nat} {l : List Int} {e : TypeId} (hx : n = 0)   {Q : Ex → St → Prop} (hq : Q (.exit 0) (KSt.low (MS56 bk off n c l e))) : Gets Try.prog (KH.low ⟨1, 1, [(0, 0, .tail off .u64 l e)]⟩) (codeAt [1, 1, 1, 0, 1, 0, 0] BM) (KSt.low (MS17 bk off n c l e)) Q := by
  rw [MC1_1_1_0_1_0_0]; refine Gets.seq ?_
  rw [MC1_1_1_0_1_0_0_0]; refine Gets.seq ?_
  refine Mgo (MR45 byteRV byteV headN isWb isWs kLen manyV rdA rdAt rdOver rdRow sizeN textA textAt textR vLen withRV wordsA wordsR bk off n c l e) ?_
  rw [MC1_1_1_0_1_0_0_0_1]; refine Gets.cond false (by kernel_rfl) (MeX (b := (decide (1 ≤ ((n : Nat) : Int)))) (by kernel_rfl) ((show (decide (1 ≤ ((n : Nat) : Int))) = false from decide_eq_false (by omega)))) ?_; show Gets _ _ (codeAt [1, 1, 1, 0, 1, 0, 0, 0, 1, 1] BM) _ _
  rw [MC1_1_1_0_1_0_0_0_1_1]; refine Gets.ev fitA5.mix fitA5.cfg (fitA5.sound wra_sound 14 0) 14 rfl (s' := KSt.low (MS56 bk off n c l e)) (x := (.exit 0)) rfl ?_
  exact hq
theorem Mr20 {n : Nat} {off : Nat} {l : List Int} {e : TypeId} {bk : Int} {c : Nat} (hn : 20 < n)   {Q : Ex → St → Prop} (hq : Q .ret (KSt.low (MS57 off l e))) : Gets Try.prog (KH.low ⟨1, 1, [(0, 0, .tail off .u64 l e)]⟩) BM (KSt.low (MS0 bk off n c l e)) Q := by
  rw [MC]; refine Gets.seq ?_
  refine Mgo (MR1 byteRV byteV headN isWb isWs kLen manyV rdA rdAt rdOver rdRow sizeN textA textAt textR vLen withRV wordsA wordsR bk off n c l e) ?_
  rw [MC1]; refine Gets.seq ?_
  rw [MC1_0]; refine Gets.seq ?_
  refine Mgo (MR2 byteRV byteV headN isWb isWs kLen manyV rdA rdAt rdOver rdRow sizeN textA textAt textR vLen withRV wordsA wordsR bk off n c l e) ?_
  rw [MC1_0_1]; refine Gets.cond true (by kernel_rfl) (MeX (b := (decide (((n : Nat) : Int) > 20))) (by kernel_rfl) ((show (decide (((n : Nat) : Int) > 20)) = true from decide_eq_true (by omega)))) ?_; show Gets _ _ (codeAt [1, 0, 1, 0] BM) _ _
  rw [MC1_0_1_0]; refine Gets.seq ?_
  refine Mgo (MR46 byteRV byteV headN isWb isWs kLen manyV rdA rdAt rdOver rdRow sizeN textA textAt textR vLen withRV wordsA wordsR bk off n c l e) ?_
  rw [MC1_0_1_0_1]; refine Gets.ev fitA5.mix fitA5.cfg (fitA5.sound wra_sound 14 0) 14 rfl (s' := KSt.low (MS57 off l e)) (x := .ret) rfl ?_
  exact hq
theorem Mfin {off : Nat} {l : List Int} {e : TypeId} {bk : Int} {n : Nat} {c : Nat} {i : Int} {q : List Int} {k : Nat}   {Q : Ex → St → Prop} (hq : Q .ret (KSt.low (MS57 off l e))) : Gets Try.prog (KH.low ⟨1, 1, [(0, 0, .tail off .u64 l e)]⟩) (codeAt [1, 1, 1, 1] BM) (KSt.low (MS55 bk off n c i q k l e)) Q := by
  rw [MC1_1_1_1]; refine Gets.seq ?_
  refine Mgo (MR47 byteRV byteV headN isWb isWs kLen manyV rdA rdAt rdOver rdRow sizeN textA textAt textR vLen withRV wordsA wordsR bk off n c i q k l e) ?_
  rw [MC1_1_1_1_1]; refine Gets.ev fitA5.mix fitA5.cfg (fitA5.sound wra_sound 14 0) 14 rfl (s' := KSt.low (MS57 off l e)) (x := .ret) rfl ?_
  exact hq
theorem Mfin0 {off : Nat} {l : List Int} {e : TypeId} {bk : Int} {n : Nat} {c : Nat}   {Q : Ex → St → Prop} (hq : Q .ret (KSt.low (MS57 off l e))) : Gets Try.prog (KH.low ⟨1, 1, [(0, 0, .tail off .u64 l e)]⟩) (codeAt [1, 1, 1, 1] BM) (KSt.low (MS56 bk off n c l e)) Q := by
  rw [MC1_1_1_1]; refine Gets.seq ?_
  refine Mgo (MR48 byteRV byteV headN isWb isWs kLen manyV rdA rdAt rdOver rdRow sizeN textA textAt textR vLen withRV wordsA wordsR bk off n c l e) ?_
  rw [MC1_1_1_1_1]; refine Gets.ev fitA5.mix fitA5.cfg (fitA5.sound wra_sound 14 0) 14 rfl (s' := KSt.low (MS57 off l e)) (x := .ret) rfl ?_
  exact hq
noncomputable def BN : Code := bodyOf Try.prog 5
theorem BN_is : Try.f5.body = some BN := by kernel_rfl
theorem BN_ok : okCode Try.prog.globals.size BN = true := by kernel_rfl
noncomputable abbrev NEV (byteRV : Int → Int → Int) (byteV : Int → Int → Int) (headN : ByteArray → ByteArray → Int) (isWb : Int → Bool) (isWs : List Int → Bool) (kLen : Int → Int) (manyV : Int → Int) (rdA : List Int → Int → Int → Int) (rdAt : List Int → Int) (rdOver : List Int → Bool) (rdRow : List Int → List Int) (sizeN : Int → Int) (textA : List Int → Int → ByteArray × Bool) (textAt : List Int → Int → Int → ByteArray) (textR : List Int → Int → ByteArray × Bool) (vLen : Int → Int) (withRV : Int → Int → Int → Int) (wordsA : ByteArray → List Int) (wordsR : ByteArray → List Int) (c : Code) (s : KSt) (lv : List Nat) : Option (Ex × KSt) := evCK Try.prog cfgA5 (runK Try.prog cfgA5 fsA5 (conTk wraDom (rcK [] (wraT byteRV byteV headN isWb isWs kLen manyV rdA rdAt rdOver rdRow sizeN textA textAt textR vLen withRV wordsA wordsR))) 14 40) 14 c s (normC 0 lv)
theorem Ngo {lv_ : List Nat} {co_ : Code} {st_ s' : KSt} {x : Ex} {Q : Ex → St → Prop} (hE_ : NEV byteRV byteV headN isWb isWs kLen manyV rdA rdAt rdOver rdRow sizeN textA textAt textR vLen withRV wordsA wordsR co_ st_ lv_ = some (x, s')) (hq_ : Q x s'.low) (hok_ : okCode Try.prog.globals.size co_ = true := by kernel_rfl) : Gets Try.prog (KH.low ⟨0, 1, []⟩) co_ st_.low Q := Gets.ofN fitA5 wra_sound (rc_agree _ _ _) 14 40 hok_ hE_ hq_
theorem NeX {v : Value} {b c : Bool} (h : v = .bool b) (hb : b = c) : v = .bool c := by rw [h, hb]
theorem NC : BN = .seq (codeAt [0] BN) (codeAt [1] BN) := by kernel_rfl
theorem NC1 : (codeAt [1] BN) = .seq (codeAt [1, 0] BN) (codeAt [1, 1] BN) := by kernel_rfl
theorem NC1_0 : (codeAt [1, 0] BN) = .seq (codeAt [1, 0, 0] BN) (codeAt [1, 0, 1] BN) := by kernel_rfl
theorem NC1_0_1 : (codeAt [1, 0, 1] BN) = .cond (.tmp 15) (codeAt [1, 0, 1, 0] BN) (codeAt [1, 0, 1, 1] BN) := by kernel_rfl
theorem NC1_1 : (codeAt [1, 1] BN) = .seq (codeAt [1, 1, 0] BN) (codeAt [1, 1, 1] BN) := by kernel_rfl
theorem NC1_1_1 : (codeAt [1, 1, 1] BN) = .seq (codeAt [1, 1, 1, 0] BN) (codeAt [1, 1, 1, 1] BN) := by kernel_rfl
theorem NC1_1_1_0 : (codeAt [1, 1, 1, 0] BN) = .seq (codeAt [1, 1, 1, 0, 0] BN) (codeAt [1, 1, 1, 0, 1] BN) := by kernel_rfl
theorem NC1_1_1_0_1_0_0 : (codeAt [1, 1, 1, 0, 1, 0, 0] BN) = .seq (codeAt [1, 1, 1, 0, 1, 0, 0, 0] BN) (codeAt [1, 1, 1, 0, 1, 0, 0, 1] BN) := by kernel_rfl
theorem NC1_1_1_0_1_0_0_0 : (codeAt [1, 1, 1, 0, 1, 0, 0, 0] BN) = .seq (codeAt [1, 1, 1, 0, 1, 0, 0, 0, 0] BN) (codeAt [1, 1, 1, 0, 1, 0, 0, 0, 1] BN) := by kernel_rfl
theorem NC1_1_1_0_1_0_0_0_1 : (codeAt [1, 1, 1, 0, 1, 0, 0, 0, 1] BN) = .cond (.tmp 22) (codeAt [1, 1, 1, 0, 1, 0, 0, 0, 1, 0] BN) (codeAt [1, 1, 1, 0, 1, 0, 0, 0, 1, 1] BN) := by kernel_rfl
theorem NC1_1_1_0_1_0_0_1 : (codeAt [1, 1, 1, 0, 1, 0, 0, 1] BN) = .seq (codeAt [1, 1, 1, 0, 1, 0, 0, 1, 0] BN) (codeAt [1, 1, 1, 0, 1, 0, 0, 1, 1] BN) := by kernel_rfl
theorem NC1_1_1_0_1_0_0_1_0 : (codeAt [1, 1, 1, 0, 1, 0, 0, 1, 0] BN) = .block 1 (codeAt [1, 1, 1, 0, 1, 0, 0, 1, 0, 0] BN) := by kernel_rfl
theorem NC1_1_1_0_1_0_0_1_0_0 : (codeAt [1, 1, 1, 0, 1, 0, 0, 1, 0, 0] BN) = .seq (codeAt [1, 1, 1, 0, 1, 0, 0, 1, 0, 0, 0] BN) (codeAt [1, 1, 1, 0, 1, 0, 0, 1, 0, 0, 1] BN) := by kernel_rfl
theorem NC1_1_1_0_1_0_0_1_0_0_1 : (codeAt [1, 1, 1, 0, 1, 0, 0, 1, 0, 0, 1] BN) = .seq (codeAt [1, 1, 1, 0, 1, 0, 0, 1, 0, 0, 1, 0] BN) (codeAt [1, 1, 1, 0, 1, 0, 0, 1, 0, 0, 1, 1] BN) := by kernel_rfl
theorem NC1_1_1_0_1_0_0_1_0_0_1_1 : (codeAt [1, 1, 1, 0, 1, 0, 0, 1, 0, 0, 1, 1] BN) = .seq (codeAt [1, 1, 1, 0, 1, 0, 0, 1, 0, 0, 1, 1, 0] BN) (codeAt [1, 1, 1, 0, 1, 0, 0, 1, 0, 0, 1, 1, 1] BN) := by kernel_rfl
theorem NC1_1_1_0_1_0_0_1_0_0_1_1_1 : (codeAt [1, 1, 1, 0, 1, 0, 0, 1, 0, 0, 1, 1, 1] BN) = .seq (codeAt [1, 1, 1, 0, 1, 0, 0, 1, 0, 0, 1, 1, 1, 0] BN) (codeAt [1, 1, 1, 0, 1, 0, 0, 1, 0, 0, 1, 1, 1, 1] BN) := by kernel_rfl
theorem NC1_1_1_0_1_0_0_1_0_0_1_1_1_1 : (codeAt [1, 1, 1, 0, 1, 0, 0, 1, 0, 0, 1, 1, 1, 1] BN) = .seq (codeAt [1, 1, 1, 0, 1, 0, 0, 1, 0, 0, 1, 1, 1, 1, 0] BN) (codeAt [1, 1, 1, 0, 1, 0, 0, 1, 0, 0, 1, 1, 1, 1, 1] BN) := by kernel_rfl
theorem NC1_1_1_0_1_0_0_1_0_0_1_1_1_1_0 : (codeAt [1, 1, 1, 0, 1, 0, 0, 1, 0, 0, 1, 1, 1, 1, 0] BN) = .seq (codeAt [1, 1, 1, 0, 1, 0, 0, 1, 0, 0, 1, 1, 1, 1, 0, 0] BN) (codeAt [1, 1, 1, 0, 1, 0, 0, 1, 0, 0, 1, 1, 1, 1, 0, 1] BN) := by kernel_rfl
theorem NC1_1_1_0_1_0_0_1_0_0_1_1_1_1_0_1 : (codeAt [1, 1, 1, 0, 1, 0, 0, 1, 0, 0, 1, 1, 1, 1, 0, 1] BN) = .cond (.tmp 81) (codeAt [1, 1, 1, 0, 1, 0, 0, 1, 0, 0, 1, 1, 1, 1, 0, 1, 0] BN) (codeAt [1, 1, 1, 0, 1, 0, 0, 1, 0, 0, 1, 1, 1, 1, 0, 1, 1] BN) := by kernel_rfl
theorem NC1_1_1_0_1_0_0_1_0_0_1_1_1_1_1 : (codeAt [1, 1, 1, 0, 1, 0, 0, 1, 0, 0, 1, 1, 1, 1, 1] BN) = .seq (codeAt [1, 1, 1, 0, 1, 0, 0, 1, 0, 0, 1, 1, 1, 1, 1, 0] BN) (codeAt [1, 1, 1, 0, 1, 0, 0, 1, 0, 0, 1, 1, 1, 1, 1, 1] BN) := by kernel_rfl
theorem NC1_1_1_0_1_0_0_1_0_0_1_1_1_1_1_1 : (codeAt [1, 1, 1, 0, 1, 0, 0, 1, 0, 0, 1, 1, 1, 1, 1, 1] BN) = .cond (.tmp 85) (codeAt [1, 1, 1, 0, 1, 0, 0, 1, 0, 0, 1, 1, 1, 1, 1, 1, 0] BN) (codeAt [1, 1, 1, 0, 1, 0, 0, 1, 0, 0, 1, 1, 1, 1, 1, 1, 1] BN) := by kernel_rfl
theorem NC1_1_1_0_1_0_0_0_1_1 : (codeAt [1, 1, 1, 0, 1, 0, 0, 0, 1, 1] BN) = .exit 0 := by kernel_rfl
theorem NC1_1_1_1 : (codeAt [1, 1, 1, 1] BN) = .seq (codeAt [1, 1, 1, 1, 0] BN) (codeAt [1, 1, 1, 1, 1] BN) := by kernel_rfl
theorem NC1_1_1_1_1 : (codeAt [1, 1, 1, 1, 1] BN) = .ret := by kernel_rfl
theorem NC1_1_1_0_1 : (codeAt [1, 1, 1, 0, 1] BN) = .block 0 (codeAt [1, 1, 1, 0, 1, 0] BN) := by kernel_rfl
theorem NC1_1_1_0_1_0 : (codeAt [1, 1, 1, 0, 1, 0] BN) = .loop (codeAt [1, 1, 1, 0, 1, 0, 0] BN) := by kernel_rfl
section
variable (byteRV : Int → Int → Int) (byteV : Int → Int → Int) (headN : ByteArray → ByteArray → Int) (isWb : Int → Bool) (isWs : List Int → Bool) (kLen : Int → Int) (manyV : Int → Int) (rdA : List Int → Int → Int → Int) (rdAt : List Int → Int) (rdOver : List Int → Bool) (rdRow : List Int → List Int) (sizeN : Int → Int) (textA : List Int → Int → ByteArray × Bool) (textAt : List Int → Int → Int → ByteArray) (textR : List Int → Int → ByteArray × Bool) (vLen : Int → Int) (withRV : Int → Int → Int → Int) (wordsA : ByteArray → List Int) (wordsR : ByteArray → List Int)
noncomputable def NS0 (bk : Int) : KSt := (firstK [(.int .u64 bk), (.slice (some ⟨0, 0, some 0⟩) 0 0)] 93 ⟨0, 1, []⟩)
noncomputable def NS1 (bk : Int) : KSt := ⟨(frameL 93 [(0, (.int .u64 bk)), (1, (.slice (some ⟨0, 0, some 0⟩) 0 0))]), ⟨0, 1, []⟩⟩
theorem NR1 (bk : Int) : NEV byteRV byteV headN isWb isWs kLen manyV rdA rdAt rdOver rdRow sizeN textA textAt textR vLen withRV wordsA wordsR (codeAt [0] BN) (NS0 bk) [0, 1] =
  some (.normal, (NS1 bk)) := by kernel_rfl
noncomputable def NS2 (bk : Int) : KSt := ⟨(frameL 93 [(0, (.int .u64 bk)), (1, (.slice (some ⟨0, 0, some 0⟩) 0 0)), (15, (.bool false))]), ⟨0, 1, []⟩⟩
theorem NR2 (bk : Int) : NEV byteRV byteV headN isWb isWs kLen manyV rdA rdAt rdOver rdRow sizeN textA textAt textR vLen withRV wordsA wordsR (codeAt [1, 0, 0] BN) (NS1 bk) [0, 1, 15] =
  some (.normal, (NS2 bk)) := by kernel_rfl
theorem NR3 (bk : Int) : NEV byteRV byteV headN isWb isWs kLen manyV rdA rdAt rdOver rdRow sizeN textA textAt textR vLen withRV wordsA wordsR (codeAt [1, 0, 1, 1] BN) (NS2 bk) [0, 1] =
  some (.normal, (NS1 bk)) := by kernel_rfl
noncomputable def NS3 (bk : Int) : KSt := ⟨(frameL 93 [(0, (.int .u64 bk)), (1, (.slice (some ⟨0, 0, some 0⟩) 0 0)), (5, (.pointer (some ⟨0, 0, none⟩)))]), ⟨1, 1, [(0, 0, .cells [(.slice none 0 0), (.bool true), (.int .u64 bk)] 79 true)]⟩⟩
theorem NR4 (bk : Int) : NEV byteRV byteV headN isWb isWs kLen manyV rdA rdAt rdOver rdRow sizeN textA textAt textR vLen withRV wordsA wordsR (codeAt [1, 1, 0] BN) (NS1 bk) [0, 1, 5] =
  some (.normal, (NS3 bk)) := by kernel_rfl
noncomputable def NS4 (bk : Int) : KSt := ⟨(frameL 93 [(0, (.int .u64 bk)), (1, (.slice (some ⟨0, 0, some 0⟩) 0 0)), (5, (.pointer (some ⟨0, 0, none⟩))), (6, (.int .i64 0))]), ⟨1, 1, [(0, 0, .cells [(.slice none 0 0), (.bool true), (.int .u64 bk)] 79 true)]⟩⟩
theorem NR5 (bk : Int) : NEV byteRV byteV headN isWb isWs kLen manyV rdA rdAt rdOver rdRow sizeN textA textAt textR vLen withRV wordsA wordsR (codeAt [1, 1, 1, 0, 0] BN) (NS3 bk) [0, 1, 5, 6] =
  some (.normal, (NS4 bk)) := by kernel_rfl
noncomputable def NS5 (bk : Int) : KSt := ⟨(frameL 93 [(0, (.int .u64 bk)), (1, (.slice (some ⟨0, 0, some 0⟩) 0 0)), (5, (.pointer (some ⟨0, 0, none⟩))), (6, (.int .i64 0)), (22, (.bool true))]), ⟨1, 1, [(0, 0, .cells [(.slice none 0 0), (.bool true), (.int .u64 bk)] 79 true)]⟩⟩
theorem NR6 (bk : Int) : NEV byteRV byteV headN isWb isWs kLen manyV rdA rdAt rdOver rdRow sizeN textA textAt textR vLen withRV wordsA wordsR (codeAt [1, 1, 1, 0, 1, 0, 0, 0, 0] BN) (NS4 bk) [0, 1, 5, 6, 22] =
  some (.normal, (NS5 bk)) := by kernel_rfl
theorem NR7 (bk : Int) : NEV byteRV byteV headN isWb isWs kLen manyV rdA rdAt rdOver rdRow sizeN textA textAt textR vLen withRV wordsA wordsR (codeAt [1, 1, 1, 0, 1, 0, 0, 0, 1, 0] BN) (NS5 bk) [0, 1, 5, 6] =
  some (.normal, (NS4 bk)) := by kernel_rfl
noncomputable def NS6 (bk : Int) : KSt := ⟨(frameL 93 [(0, (.int .u64 bk)), (1, (.slice (some ⟨0, 0, some 0⟩) 0 0)), (5, (.pointer (some ⟨0, 0, none⟩))), (6, (.int .i64 0)), (7, (.pointer (some ⟨1, 0, none⟩)))]), ⟨2, 1, [(1, 0, .cells [(.slice (some ⟨0, 0, some 0⟩) 0 0), (.int .i64 0), (.bool false), (.int .i64 0), (.int .u64 0), (.int .i64 0), (.int .u64 0), (.int .u64 0)] 37 true), (0, 0, .cells [(.slice none 0 0), (.bool true), (.int .u64 bk)] 79 true)]⟩⟩
theorem NR8 (bk : Int) : NEV byteRV byteV headN isWb isWs kLen manyV rdA rdAt rdOver rdRow sizeN textA textAt textR vLen withRV wordsA wordsR (codeAt [1, 1, 1, 0, 1, 0, 0, 1, 0, 0, 0] BN) (NS4 bk) [0, 1, 5, 6, 7] =
  some (.normal, (NS6 bk)) := by kernel_rfl
noncomputable def NS7 (bk : Int) : KSt := ⟨(frameL 93 [(0, (.int .u64 bk)), (1, (.slice (some ⟨0, 0, some 0⟩) 0 0)), (5, (.pointer (some ⟨0, 0, none⟩))), (6, (.int .i64 0)), (7, (.pointer (some ⟨1, 0, none⟩))), (8, (.pointer (some ⟨2, 0, none⟩)))]), ⟨3, 1, [(2, 0, .cells [(.string (textAt (rdRow ([] : List Int)) 1 (kLen (List.getD (rdRow ([] : List Int)) 0 0)))), (.string (textAt (rdRow ([] : List Int)) (1 + manyV (kLen (List.getD (rdRow ([] : List Int)) 0 0))) (vLen (List.getD (rdRow ([] : List Int)) 0 0))))] 39 true), (1, 0, .cells [(.slice (some ⟨0, 0, some 0⟩) 0 0), (.int .i64 (rdAt ([] : List Int))), (.bool (rdOver ([] : List Int))), (.int .i64 (rdA ([] : List Int) 1 0)), (.int .u64 (rdA ([] : List Int) bk 0)), (.int .i64 (rdA ([] : List Int) ((List.length ([] : List Int) : Nat) : Int) 0)), (.int .u64 (rdA ([] : List Int) 0 0)), (.int .u64 (rdA ([] : List Int) 0 0))] 37 true), (0, 0, .cells [(.slice none 0 0), (.bool true), (.int .u64 bk)] 79 true)]⟩⟩
theorem NR9 (bk : Int) : NEV byteRV byteV headN isWb isWs kLen manyV rdA rdAt rdOver rdRow sizeN textA textAt textR vLen withRV wordsA wordsR (codeAt [1, 1, 1, 0, 1, 0, 0, 1, 0, 0, 1, 0] BN) (NS6 bk) [0, 1, 5, 6, 7, 8] =
  bif ((decide (0 = 0)) && ((!false) && ((Nat.ble (List.length ([] : List Int)) 999) && (isWs ([] : List Int))))) then
    some (.normal, (NS7 kLen manyV rdA rdAt rdOver rdRow textAt vLen bk))
  else
    none := by kernel_rfl
noncomputable def NS8 (bk : Int) : KSt := ⟨(frameL 93 [(0, (.int .u64 bk)), (1, (.slice (some ⟨0, 0, some 0⟩) 0 0)), (5, (.pointer (some ⟨0, 0, none⟩))), (6, (.int .i64 0)), (7, (.pointer (some ⟨1, 0, none⟩))), (8, (.pointer (some ⟨2, 0, none⟩))), (9, (.pointer (some ⟨3, 0, none⟩))), (10, (.bool false))]), ⟨4, 1, [(3, 0, .cells [(.string ⟨#[]⟩), (.string ⟨#[]⟩)] 39 true), (2, 0, .cells [(.string (textAt (rdRow ([] : List Int)) 1 (kLen (List.getD (rdRow ([] : List Int)) 0 0)))), (.string (textAt (rdRow ([] : List Int)) (1 + manyV (kLen (List.getD (rdRow ([] : List Int)) 0 0))) (vLen (List.getD (rdRow ([] : List Int)) 0 0))))] 39 true), (1, 0, .cells [(.slice (some ⟨0, 0, some 0⟩) 0 0), (.int .i64 (rdAt ([] : List Int))), (.bool (rdOver ([] : List Int))), (.int .i64 (rdA ([] : List Int) 1 0)), (.int .u64 (rdA ([] : List Int) bk 0)), (.int .i64 (rdA ([] : List Int) ((List.length ([] : List Int) : Nat) : Int) 0)), (.int .u64 (rdA ([] : List Int) 0 0)), (.int .u64 (rdA ([] : List Int) 0 0))] 37 true), (0, 0, .cells [(.slice none 0 0), (.bool true), (.int .u64 bk)] 79 true)]⟩⟩
theorem NR10 (bk : Int) : NEV byteRV byteV headN isWb isWs kLen manyV rdA rdAt rdOver rdRow sizeN textA textAt textR vLen withRV wordsA wordsR (codeAt [1, 1, 1, 0, 1, 0, 0, 1, 0, 0, 1, 1, 0] BN) (NS7 kLen manyV rdA rdAt rdOver rdRow textAt vLen bk) [0, 1, 5, 6, 7, 8, 9, 10] =
  some (.normal, (NS8 kLen manyV rdA rdAt rdOver rdRow textAt vLen bk)) := by kernel_rfl
noncomputable def NS9 (bk : Int) : KSt := ⟨(frameL 93 [(0, (.int .u64 bk)), (1, (.slice (some ⟨0, 0, some 0⟩) 0 0)), (5, (.pointer (some ⟨0, 0, none⟩))), (6, (.int .i64 0)), (7, (.pointer (some ⟨1, 0, none⟩))), (8, (.pointer (some ⟨2, 0, none⟩))), (9, (.pointer (some ⟨3, 0, none⟩))), (10, (.bool false)), (11, (.pointer (some ⟨4, 0, none⟩))), (12, (.bool true))]), ⟨5, 1, [(4, 0, .cells [(.int .i64 1), (.int .u64 bk), (.int .i64 0), (.int .u64 0), (.int .u64 0)] 35 true), (3, 0, .cells [(.string ⟨#[]⟩), (.string ⟨#[]⟩)] 39 true), (2, 0, .cells [(.string (textAt (rdRow ([] : List Int)) 1 (kLen (List.getD (rdRow ([] : List Int)) 0 0)))), (.string (textAt (rdRow ([] : List Int)) (1 + manyV (kLen (List.getD (rdRow ([] : List Int)) 0 0))) (vLen (List.getD (rdRow ([] : List Int)) 0 0))))] 39 true), (1, 0, .cells [(.slice (some ⟨0, 0, some 0⟩) 0 0), (.int .i64 (rdAt ([] : List Int))), (.bool (rdOver ([] : List Int))), (.int .i64 (rdA ([] : List Int) 1 0)), (.int .u64 (rdA ([] : List Int) bk 0)), (.int .i64 (rdA ([] : List Int) ((List.length ([] : List Int) : Nat) : Int) 0)), (.int .u64 (rdA ([] : List Int) 0 0)), (.int .u64 (rdA ([] : List Int) 0 0))] 37 true), (0, 0, .cells [(.slice none 0 0), (.bool true), (.int .u64 bk)] 79 true)]⟩⟩
theorem NR11 (bk : Int) : NEV byteRV byteV headN isWb isWs kLen manyV rdA rdAt rdOver rdRow sizeN textA textAt textR vLen withRV wordsA wordsR (codeAt [1, 1, 1, 0, 1, 0, 0, 1, 0, 0, 1, 1, 1, 0] BN) (NS8 kLen manyV rdA rdAt rdOver rdRow textAt vLen bk) [0, 1, 5, 6, 7, 8, 9, 10, 11, 12] =
  some (.normal, (NS9 kLen manyV rdA rdAt rdOver rdRow textAt vLen bk)) := by kernel_rfl
noncomputable def NS10 (bk : Int) : KSt := ⟨(frameL 93 [(0, (.int .u64 bk)), (1, (.slice (some ⟨0, 0, some 0⟩) 0 0)), (5, (.pointer (some ⟨0, 0, none⟩))), (6, (.int .i64 0)), (81, (.bool true))]), ⟨1, 1, [(0, 0, .cells [(.slice none 0 0), (.bool true), (.int .u64 bk)] 79 true)]⟩⟩
noncomputable def NS11 (bk : Int) : KSt := ⟨(frameL 93 [(0, (.int .u64 bk)), (1, (.slice (some ⟨0, 0, some 0⟩) 0 0)), (5, (.pointer (some ⟨0, 0, none⟩))), (6, (.int .i64 0)), (81, (.bool false))]), ⟨1, 1, [(0, 0, .cells [(.slice none 0 0), (.bool true), (.int .u64 bk)] 79 true)]⟩⟩
theorem NR12 (bk : Int) : NEV byteRV byteV headN isWb isWs kLen manyV rdA rdAt rdOver rdRow sizeN textA textAt textR vLen withRV wordsA wordsR (codeAt [1, 1, 1, 0, 1, 0, 0, 1, 0, 0, 1, 1, 1, 1, 0, 0] BN) (NS9 kLen manyV rdA rdAt rdOver rdRow textAt vLen bk) [0, 1, 5, 6, 81] =
  bif (!(true == (rdOver ([] : List Int)))) then
    some (.normal, (NS10 bk))
  else
    bif (!((1 == (rdA ([] : List Int) 1 0)) && ((bk == (rdA ([] : List Int) bk 0)) && ((0 == (rdA ([] : List Int) ((List.length ([] : List Int) : Nat) : Int) 0)) && ((0 == (rdA ([] : List Int) 0 0)) && ((0 == (rdA ([] : List Int) 0 0)) && true)))))) then
      some (.normal, (NS10 bk))
    else
      bif (false == (rdOver ([] : List Int))) then
        some (.normal, (NS10 bk))
      else
        some (.normal, (NS11 bk)) := by kernel_rfl
theorem NR13 (bk : Int) : NEV byteRV byteV headN isWb isWs kLen manyV rdA rdAt rdOver rdRow sizeN textA textAt textR vLen withRV wordsA wordsR (codeAt [1, 1, 1, 0, 1, 0, 0, 1, 0, 0, 1, 1, 1, 1, 0, 1, 1] BN) (NS11 bk) [0, 1, 5, 6] =
  some (.normal, (NS4 bk)) := by kernel_rfl
noncomputable def NS12 (bk : Int) : KSt := ⟨(frameL 93 [(0, (.int .u64 bk)), (1, (.slice (some ⟨0, 0, some 0⟩) 0 0)), (5, (.pointer (some ⟨0, 0, none⟩))), (6, (.int .i64 0)), (85, (.bool false))]), ⟨1, 1, [(0, 0, .cells [(.slice none 0 0), (.bool true), (.int .u64 bk)] 79 true)]⟩⟩
theorem NR14 (bk : Int) : NEV byteRV byteV headN isWb isWs kLen manyV rdA rdAt rdOver rdRow sizeN textA textAt textR vLen withRV wordsA wordsR (codeAt [1, 1, 1, 0, 1, 0, 0, 1, 0, 0, 1, 1, 1, 1, 1, 0] BN) (NS4 bk) [0, 1, 5, 6, 85] =
  some (.normal, (NS12 bk)) := by kernel_rfl
theorem NR15 (bk : Int) : NEV byteRV byteV headN isWb isWs kLen manyV rdA rdAt rdOver rdRow sizeN textA textAt textR vLen withRV wordsA wordsR (codeAt [1, 1, 1, 0, 1, 0, 0, 1, 0, 0, 1, 1, 1, 1, 1, 1, 1] BN) (NS12 bk) [0, 1, 5, 6] =
  some (.normal, (NS4 bk)) := by kernel_rfl
noncomputable def NS13 (bk : Int) : KSt := ⟨(frameL 93 [(0, (.int .u64 bk)), (1, (.slice (some ⟨0, 0, some 0⟩) 0 0)), (5, (.pointer (some ⟨0, 0, none⟩))), (6, (.int .i64 1))]), ⟨1, 1, [(0, 0, .cells [(.slice none 0 0), (.bool true), (.int .u64 bk)] 79 true)]⟩⟩
theorem NR16 (bk : Int) : NEV byteRV byteV headN isWb isWs kLen manyV rdA rdAt rdOver rdRow sizeN textA textAt textR vLen withRV wordsA wordsR (codeAt [1, 1, 1, 0, 1, 0, 0, 1, 1] BN) (NS4 bk) [0, 1, 5, 6] =
  some (.normal, (NS13 bk)) := by kernel_rfl
noncomputable def NS14 (bk : Int) : KSt := ⟨(frameL 93 [(0, (.int .u64 bk)), (1, (.slice (some ⟨0, 0, some 0⟩) 0 0)), (5, (.pointer (some ⟨0, 0, none⟩))), (6, (.int .i64 1)), (22, (.bool false))]), ⟨1, 1, [(0, 0, .cells [(.slice none 0 0), (.bool true), (.int .u64 bk)] 79 true)]⟩⟩
theorem NR17 (bk : Int) : NEV byteRV byteV headN isWb isWs kLen manyV rdA rdAt rdOver rdRow sizeN textA textAt textR vLen withRV wordsA wordsR (codeAt [1, 1, 1, 0, 1, 0, 0, 0, 0] BN) (NS13 bk) [0, 1, 5, 6, 22] =
  some (.normal, (NS14 bk)) := by kernel_rfl
noncomputable def NS15  : KSt := ⟨(frameL 93 [(4, (.bool true))]), ⟨0, 1, []⟩⟩
theorem NR18 (bk : Int) : NEV byteRV byteV headN isWb isWs kLen manyV rdA rdAt rdOver rdRow sizeN textA textAt textR vLen withRV wordsA wordsR (codeAt [1, 1, 1, 1, 0] BN) (NS14 bk) [4] =
  some (.normal, NS15) := by kernel_rfl
end
theorem Npre {bk : Int}   {Q : Ex → St → Prop} (hq : Gets Try.prog (KH.low ⟨0, 1, []⟩) (codeAt [1, 1, 1, 0, 1] BN) (KSt.low (NS4 bk)) (onN (fun s => Gets Try.prog (KH.low ⟨0, 1, []⟩) (codeAt [1, 1, 1, 1] BN) s (Q)) (Q))) : Gets Try.prog (KH.low ⟨0, 1, []⟩) BN (KSt.low (NS0 bk)) Q := by
  rw [NC]; refine Gets.seq ?_
  refine Ngo (NR1 byteRV byteV headN isWb isWs kLen manyV rdA rdAt rdOver rdRow sizeN textA textAt textR vLen withRV wordsA wordsR bk) ?_
  rw [NC1]; refine Gets.seq ?_
  rw [NC1_0]; refine Gets.seq ?_
  refine Ngo (NR2 byteRV byteV headN isWb isWs kLen manyV rdA rdAt rdOver rdRow sizeN textA textAt textR vLen withRV wordsA wordsR bk) ?_
  rw [NC1_0_1]; refine Gets.cond false (by kernel_rfl) (by kernel_rfl) ?_; show Gets _ _ (codeAt [1, 0, 1, 1] BN) _ _
  refine Ngo (NR3 byteRV byteV headN isWb isWs kLen manyV rdA rdAt rdOver rdRow sizeN textA textAt textR vLen withRV wordsA wordsR bk) ?_
  rw [NC1_1]; refine Gets.seq ?_
  refine Ngo (NR4 byteRV byteV headN isWb isWs kLen manyV rdA rdAt rdOver rdRow sizeN textA textAt textR vLen withRV wordsA wordsR bk) ?_
  rw [NC1_1_1]; refine Gets.seq ?_
  rw [NC1_1_1_0]; refine Gets.seq ?_
  refine Ngo (NR5 byteRV byteV headN isWb isWs kLen manyV rdA rdAt rdOver rdRow sizeN textA textAt textR vLen withRV wordsA wordsR bk) ?_
  exact hq
theorem Nz0 {bk : Int} (hov : rdOver ([] : List Int) = true) (hra : ∀ x y, rdA ([] : List Int) x y = x)   {Q : Ex → St → Prop} (hq : Q .normal (KSt.low (NS13 bk))) : Gets Try.prog (KH.low ⟨0, 1, []⟩) (codeAt [1, 1, 1, 0, 1, 0, 0] BN) (KSt.low (NS4 bk)) Q := by
  rw [NC1_1_1_0_1_0_0]; refine Gets.seq ?_
  rw [NC1_1_1_0_1_0_0_0]; refine Gets.seq ?_
  refine Ngo (NR6 byteRV byteV headN isWb isWs kLen manyV rdA rdAt rdOver rdRow sizeN textA textAt textR vLen withRV wordsA wordsR bk) ?_
  rw [NC1_1_1_0_1_0_0_0_1]; refine Gets.cond true (by kernel_rfl) (by kernel_rfl) ?_; show Gets _ _ (codeAt [1, 1, 1, 0, 1, 0, 0, 0, 1, 0] BN) _ _
  refine Ngo (NR7 byteRV byteV headN isWb isWs kLen manyV rdA rdAt rdOver rdRow sizeN textA textAt textR vLen withRV wordsA wordsR bk) ?_
  rw [NC1_1_1_0_1_0_0_1]; refine Gets.seq ?_
  rw [NC1_1_1_0_1_0_0_1_0]; refine Gets.block ?_
  rw [NC1_1_1_0_1_0_0_1_0_0]; refine Gets.seq ?_
  refine Ngo (NR8 byteRV byteV headN isWb isWs kLen manyV rdA rdAt rdOver rdRow sizeN textA textAt textR vLen withRV wordsA wordsR bk) ?_
  rw [NC1_1_1_0_1_0_0_1_0_0_1]; refine Gets.seq ?_
  refine Ngo (x := .normal) (s' := (NS7 kLen manyV rdA rdAt rdOver rdRow textAt vLen bk)) ((NR9 byteRV byteV headN isWb isWs kLen manyV rdA rdAt rdOver rdRow sizeN textA textAt textR vLen withRV wordsA wordsR bk).trans (by rw [condT (and_t (decide_eq_true (by omega)) (and_t (not_t (rfl)) (and_t (Nat.ble_eq_true_of_le (show List.length ([] : List Int) ≤ 999 from Nat.zero_le _)) (show isWs ([] : List Int) = true from rfl))))])) ?_
  rw [NC1_1_1_0_1_0_0_1_0_0_1_1]; refine Gets.seq ?_
  refine Ngo (NR10 byteRV byteV headN isWb isWs kLen manyV rdA rdAt rdOver rdRow sizeN textA textAt textR vLen withRV wordsA wordsR bk) ?_
  rw [NC1_1_1_0_1_0_0_1_0_0_1_1_1]; refine Gets.seq ?_
  refine Ngo (NR11 byteRV byteV headN isWb isWs kLen manyV rdA rdAt rdOver rdRow sizeN textA textAt textR vLen withRV wordsA wordsR bk) ?_
  rw [NC1_1_1_0_1_0_0_1_0_0_1_1_1_1]; refine Gets.seq ?_
  rw [NC1_1_1_0_1_0_0_1_0_0_1_1_1_1_0]; refine Gets.seq ?_
  refine Ngo (x := .normal) (s' := (NS11 bk)) ((NR12 byteRV byteV headN isWb isWs kLen manyV rdA rdAt rdOver rdRow sizeN textA textAt textR vLen withRV wordsA wordsR bk).trans (by rw [condF (not_f (by rw [hov]; rfl)), condF (not_f (and_t (by rw [hra]; first | exact beq_self_eq_true _ | rfl | (rw [List.length_take, List.length_drop]; exact ibeq_t (by omega))) (and_t (by rw [hra]; first | exact beq_self_eq_true _ | rfl | (rw [List.length_take, List.length_drop]; exact ibeq_t (by omega))) (and_t (by rw [hra]; first | exact beq_self_eq_true _ | rfl | (rw [List.length_take, List.length_drop]; exact ibeq_t (by omega))) (and_t (by rw [hra]; first | exact beq_self_eq_true _ | rfl | (rw [List.length_take, List.length_drop]; exact ibeq_t (by omega))) (and_t (by rw [hra]; first | exact beq_self_eq_true _ | rfl | (rw [List.length_take, List.length_drop]; exact ibeq_t (by omega))) (rfl))))))), condF (by rw [hov]; rfl)])) ?_
  rw [NC1_1_1_0_1_0_0_1_0_0_1_1_1_1_0_1]; refine Gets.cond false (by kernel_rfl) (by kernel_rfl) ?_; show Gets _ _ (codeAt [1, 1, 1, 0, 1, 0, 0, 1, 0, 0, 1, 1, 1, 1, 0, 1, 1] BN) _ _
  refine Ngo (NR13 byteRV byteV headN isWb isWs kLen manyV rdA rdAt rdOver rdRow sizeN textA textAt textR vLen withRV wordsA wordsR bk) ?_
  rw [NC1_1_1_0_1_0_0_1_0_0_1_1_1_1_1]; refine Gets.seq ?_
  refine Ngo (NR14 byteRV byteV headN isWb isWs kLen manyV rdA rdAt rdOver rdRow sizeN textA textAt textR vLen withRV wordsA wordsR bk) ?_
  rw [NC1_1_1_0_1_0_0_1_0_0_1_1_1_1_1_1]; refine Gets.cond false (by kernel_rfl) (by kernel_rfl) ?_; show Gets _ _ (codeAt [1, 1, 1, 0, 1, 0, 0, 1, 0, 0, 1, 1, 1, 1, 1, 1, 1] BN) _ _
  refine Ngo (NR15 byteRV byteV headN isWb isWs kLen manyV rdA rdAt rdOver rdRow sizeN textA textAt textR vLen withRV wordsA wordsR bk) ?_
  refine Ngo (NR16 byteRV byteV headN isWb isWs kLen manyV rdA rdAt rdOver rdRow sizeN textA textAt textR vLen withRV wordsA wordsR bk) ?_
  exact hq
theorem Nex0 {bk : Int}   {Q : Ex → St → Prop} (hq : Q (.exit 0) (KSt.low (NS14 bk))) : Gets Try.prog (KH.low ⟨0, 1, []⟩) (codeAt [1, 1, 1, 0, 1, 0, 0] BN) (KSt.low (NS13 bk)) Q := by
  rw [NC1_1_1_0_1_0_0]; refine Gets.seq ?_
  rw [NC1_1_1_0_1_0_0_0]; refine Gets.seq ?_
  refine Ngo (NR17 byteRV byteV headN isWb isWs kLen manyV rdA rdAt rdOver rdRow sizeN textA textAt textR vLen withRV wordsA wordsR bk) ?_
  rw [NC1_1_1_0_1_0_0_0_1]; refine Gets.cond false (by kernel_rfl) (by kernel_rfl) ?_; show Gets _ _ (codeAt [1, 1, 1, 0, 1, 0, 0, 0, 1, 1] BN) _ _
  rw [NC1_1_1_0_1_0_0_0_1_1]; refine Gets.ev fitA5.mix fitA5.cfg (fitA5.sound wra_sound 14 0) 14 rfl (s' := KSt.low (NS14 bk)) (x := (.exit 0)) rfl ?_
  exact hq
theorem Nfin0 {bk : Int}   {Q : Ex → St → Prop} (hq : Q .ret (KSt.low NS15)) : Gets Try.prog (KH.low ⟨0, 1, []⟩) (codeAt [1, 1, 1, 1] BN) (KSt.low (NS14 bk)) Q := by
  rw [NC1_1_1_1]; refine Gets.seq ?_
  refine Ngo (NR18 byteRV byteV headN isWb isWs kLen manyV rdA rdAt rdOver rdRow sizeN textA textAt textR vLen withRV wordsA wordsR bk) ?_
  rw [NC1_1_1_1_1]; refine Gets.ev fitA5.mix fitA5.cfg (fitA5.sound wra_sound 14 0) 14 rfl (s' := KSt.low NS15) (x := .ret) rfl ?_
  exact hq
noncomputable def QL : Ex → St → Prop := Eng.Ends Try.prog Try.f5.results.toList fun r _ => r = .bool true
theorem qL {s : KSt} (h : resL Try.prog s.low Try.f5.results.toList = some [.bool true]) : QL .ret s.low := Ends.of h rfl
theorem ro1 {off : Nat} {l : List Int} {e : TypeId} : Ro (mkH [.tail off .u64 l e]).low := fun a o ho => by
  obtain ⟨_, rfl⟩ := mkH1_get ho; rfl
theorem ro0 : Ro (mkH []).low := fun a o ho => by cases ho
theorem rdA_t {L : List Int} (h : rdOver L = true) (x y : Int) : rdA L x y = x := by unfold rdA; rw [h]; rfl
theorem rdA_f {L : List Int} (h : rdOver L = false) (x y : Int) : rdA L x y = y := by unfold rdA; rw [h]; rfl
inductive RaInv (bk : Int) (off n c : Nat) (l : List Int) (e : TypeId) : Nat → KSt → Prop
  | z : RaInv bk off n c l e (n + 2) (MS4 bk off n c l e)
  | ez (hn : n = 0) : RaInv bk off n c l e 0 (MS17 bk off n c l e)
  | p (k : Nat) (q : List Int) (hk : 1 ≤ k) (hkn : k ≤ n) (hS : (k : Int) < sizeN (l.getD 0 0)) (hq : q = l.take k) : RaInv bk off n c l e (n + 1 - k) (MS18 bk off n c k q l e)
  | d (k m : Nat) (q : List Int) (hm : 1 ≤ m) (hk : m ≤ k) (hkn : k ≤ n) (hS : (m : Int) = sizeN (l.getD 0 0)) (hq : q = l.take m) : RaInv bk off n c l e (n + 1 - k) (MS38 bk off n c k q m l e)
  | e (i : Int) (k : Nat) (q : List Int) (hi : (n : Int) < i) : RaInv bk off n c l e 0 (MS54 bk off n c i q k l e)
theorem loopRa (bk : Int) (off n c : Nat) (l : List Int) (e : TypeId) (hn20 : n ≤ 20) (hc : n ≤ c) (hc0 : 0 < c) (hl : l.length = c) (hww : ∀ x ∈ l, word64 x) (z : Nat) (t : KSt) (hI : RaInv bk off n c l e z t) : Gets Try.prog (KH.low ⟨1, 1, [(0, 0, .tail off .u64 l e)]⟩) (codeAt [1, 1, 1, 0, 1] BM) t.low (onN (fun s => Gets Try.prog (KH.low ⟨1, 1, [(0, 0, .tail off .u64 l e)]⟩) (codeAt [1, 1, 1, 1] BM) s (QL)) (QL)) := by
  rw [MC1_1_1_0_1, MC1_1_1_0_1_0]
  refine Gets.loopG (fun z t => RaInv bk off n c l e z t) ?_ _ _ hI
  clear hI z t
  intro z t hI
  have hws : ∀ k, isWs (List.take k (List.drop (off - off) l)) = true := fun k => isWs_of fun x hx => hww x (List.mem_of_mem_drop (List.mem_of_mem_take hx))
  have hw0 : isWb (l.getD 0 0) = true := isWb_of (getD_word hww 0)
  have hLk : ∀ k, List.take k (List.drop (off - off) l) = l.take k := fun k => by rw [Nat.sub_self, List.drop_zero]
  have hget : ∀ k, 1 ≤ k → (l.take k).getD 0 0 = l.getD 0 0 := fun k hk => by
    cases l with
    | nil => simp
    | cons a r => cases k with
      | zero => omega
      | succ k => rfl
  have hlen : ∀ k, k ≤ n → (l.take k).length = k := fun k hk => by rw [List.length_take]; omega
  have hnx : ∀ k, k < c → List.take k (l.take k) ++ [l.getD k 0] = l.take (k + 1) := fun k hk => by
    rw [List.take_take, Nat.min_self, List.take_add_one, List.getD_eq_getElem?_getD, List.getElem?_eq_getElem (by omega)]; rfl
  cases hI with
  | z =>
    have hov : rdOver (List.take 0 (List.drop (off - off) l)) = true := by rw [List.take_zero]; exact rd_nil
    by_cases hn : n = 0
    · refine Mz0 hn20 hc hc0 hl (hws 0) hn hov (rdA_t hov) ?_
      exact ⟨0, _, by omega, rfl, .ez hn⟩
    · refine Mz1 hn20 hc hc0 hl (hws 0) (by omega) hov (rdA_t hov) ?_
      have h1 : [l.getD 0 0] = l.take 1 := by
        have := hnx 0 (by omega)
        rw [List.take_zero, List.nil_append] at this; exact this
      have hp := size_pos _ (getD_word hww 0)
      by_cases hS : 1 < sizeN (l.getD 0 0)
      · exact ⟨n + 1 - 1, (MS18 bk off n c (1) ([l.getD 0 0]) l e), by omega, rfl, .p 1 _ (by omega) (by omega) hS h1⟩
      · exact ⟨n + 1 - 1, (MS38 bk off n c (1) ([l.getD 0 0]) (1) l e), by omega, rfl, .d 1 1 _ (by omega) (by omega) (by omega) (by omega) h1⟩
  | ez hn =>
    refine Mex0 hn ?_
    exact ⟨fun _ => Mfin0 (qL (by kernel_rfl)), fun h => by cases h⟩
  | p k q hk hkn hS hq =>
    have hov : rdOver (List.take k (List.drop (off - off) l)) = true := by
      rw [hLk]; refine decide_eq_true ?_
      rw [hget k hk, hlen k hkn]; exact hS
    have hq0 : q.getD 0 0 = l.getD 0 0 := by rw [hq]; exact hget k hk
    have hql : q.length = k := by rw [hq]; exact hlen k hkn
    by_cases hin : k < n
    · refine Mp1 hn20 hc hc0 hl (hws k) hk hql (by rw [hq0]; exact hS) (by rw [hq0]; exact hw0) hin hov (rdA_t hov) ?_
      have h1 : List.take k q ++ [l.getD (Int.toNat ((k : Nat) : Int) * 1) 0] = l.take (k + 1) := by rw [hq, Nat.mul_one, Int.toNat_natCast]; exact hnx k (by omega)
      by_cases hS1 : ((k + 1 : Nat) : Int) < sizeN (l.getD 0 0)
      · exact ⟨n + 1 - (k + 1), (MS18 bk off n c (k + 1) (List.take k q ++ [l.getD (Int.toNat ((k : Nat) : Int) * 1) 0]) l e), by omega, rfl, .p (k + 1) _ (by omega) (by omega) hS1 h1⟩
      · exact ⟨n + 1 - (k + 1), (MS38 bk off n c (k + 1) (List.take k q ++ [l.getD (Int.toNat ((k : Nat) : Int) * 1) 0]) (k + 1) l e), by omega, rfl, .d (k + 1) (k + 1) _ (by omega) (by omega) (by omega) (by omega) h1⟩
    · refine Mp0 hn20 hc hc0 hl (hws k) hk hql (by rw [hq0]; exact hS) (by rw [hq0]; exact hw0) (by omega) hov (rdA_t hov) ?_
      exact ⟨0, (MS54 bk off n c (((k : Nat) : Int) + 1) q k l e), by omega, rfl, .e _ _ _ (by omega)⟩
  | d k m q hm hk hkn hS hq =>
    have hov : rdOver (List.take k (List.drop (off - off) l)) = false := by
      rw [hLk]; refine decide_eq_false ?_
      rw [hget k (by omega), hlen k hkn]; omega
    have hq0 : q.getD 0 0 = l.getD 0 0 := by rw [hq]; exact hget m hm
    have hql : q.length = m := by rw [hq]; exact hlen m (by omega)
    have hqq : List.take m (List.drop 0 q) = q := by rw [List.drop_zero]; exact List.take_of_length_le (by omega)
    have hrow : rdRow (List.take k (List.drop (off - off) l)) = List.take m (List.drop 0 q) := by
      rw [hqq]; unfold rdRow; rw [hov, hLk, hget k (by omega), ← hS, hq]
      show List.take m (List.take k l) = _
      rw [List.take_take, Nat.min_eq_left hk]
    have hwq : isWs (List.take m (List.drop 0 q)) = true := by rw [hqq, hq]; exact isWs_of fun x hx => hww x (List.mem_of_mem_take hx)
    by_cases hin : k < n
    · refine Md1 hn20 hc hc0 hl (hws k) hk hm hql (by rw [hq0]; exact hS) hwq (by rw [hq0]; exact hw0) hin hov (rdA_f hov) hrow ?_
      exact ⟨n + 1 - (k + 1), (MS38 bk off n c (k + 1) q m l e), by omega, rfl, .d (k + 1) m _ hm (by omega) (by omega) hS hq⟩
    · refine Md0 hn20 hc hc0 hl (hws k) hk hm hql (by rw [hq0]; exact hS) hwq (by rw [hq0]; exact hw0) (by omega) hov (rdA_f hov) hrow ?_
      exact ⟨0, (MS54 bk off n c (((k : Nat) : Int) + 1) q (m) l e), by omega, rfl, .e _ _ _ (by omega)⟩
  | e i k q hi =>
    refine Mex hi ?_
    exact ⟨fun _ => Mfin (qL (by kernel_rfl)), fun h => by cases h⟩
theorem told (bk : Int) (off n c : Nat) (l : List Int) (e : TypeId) (hl : l.length = c) (hc : n ≤ c) (hc0 : 0 < c) (hww : ∀ x ∈ l, word64 x) : Tells Try.prog 5 [(.int .u64 bk), (.slice (some ⟨0, off, none⟩) n c)] (mkH [.tail off .u64 l e]).low (.bool true) := by
  refine Gets.tells Try.func5 BM_is (by rw [noVars]; exact Nat.zero_le _) rfl ?_ ro1
  show Gets Try.prog (KH.low ⟨1, 1, [(0, 0, .tail off .u64 l e)]⟩) BM (KSt.low (MS0 bk off n c l e)) QL
  by_cases hn : 20 < n
  · exact Mr20 hn (qL (by kernel_rfl))
  refine Mpre (by omega) ?_
  exact loopRa bk off n c l e (by omega) hc hc0 hl hww (n + 2) (MS4 bk off n c l e) .z
inductive RbInv (bk : Int) : Nat → KSt → Prop
  | z : RbInv bk 1 (NS4 bk)
  | ez : RbInv bk 0 (NS13 bk)
theorem loopRb (bk : Int) (z : Nat) (t : KSt) (hI : RbInv bk z t) : Gets Try.prog (KH.low ⟨0, 1, []⟩) (codeAt [1, 1, 1, 0, 1] BN) t.low (onN (fun s => Gets Try.prog (KH.low ⟨0, 1, []⟩) (codeAt [1, 1, 1, 1] BN) s (QL)) (QL)) := by
  rw [NC1_1_1_0_1, NC1_1_1_0_1_0]
  refine Gets.loopG (fun z t => RbInv bk z t) ?_ _ _ hI
  clear hI z t
  intro z t hI
  cases hI with
  | z =>
    refine Nz0 rd_nil (rdA_t rd_nil) ?_
    exact ⟨0, _, by omega, rfl, .ez⟩
  | ez =>
    refine Nex0 ?_
    exact ⟨fun _ => Nfin0 (qL (by kernel_rfl)), fun h => by cases h⟩
theorem toldV (bk : Int) : Tells Try.prog 5 [(.int .u64 bk), (.slice (some ⟨0, 0, some 0⟩) 0 0)] (mkH []).low (.bool true) := by
  refine Gets.tells Try.func5 BN_is (by rw [noVars]; exact Nat.zero_le _) rfl ?_ ro0
  show Gets Try.prog (KH.low ⟨0, 1, []⟩) BN (KSt.low (NS0 bk)) QL
  refine Npre ?_
  exact loopRb bk 1 (NS4 bk) .z
theorem own : ownKnob Try.prog.godebug = none := by kernel_rfl
theorem lifted (os : Os) (started : os.Started) (H : Type) (enc : TypeId × Value → H) :
    ReturnsInHanded {} Try.checked os 5 .any (Rows.readerActsSpec.pre6 enc Try.prog Try.f5 Rows.readerActsRow.domain false) (Rows.readerActsSpec.post enc Try.prog Try.f5 false true false false) := by
  refine returnsInHanded_of_change_sized (C := Try.checked) own started (by kernel_rfl) Try.func5
    (ChangeSpec.witness6 (enc := enc) (C := Try.checked) false ⟨#[], #[.int .u64 0, .slice none 0 0], []⟩ 8 (by kernel_rfl) (by kernel_rfl) (by kernel_rfl) (by kernel_rfl)) ?_
  intro W base args ds gs before hval0 hW hcnd hsz0 _
  have hval : ∀ (j : Nat) t v, Try.f5.params[j]? = some t → args[j]? = some v → Value.okWide Try.prog W .any base t v := hval0
  have hW' := hW
  obtain ⟨p, q, hA0, hV, rfl, hfz, hnd⟩ := hW
  have hA : DataW.TrodAll enc Try.prog W 0 (fun _ => true) true Try.f5.params.toList args.toList ds p := hA0
  rw [Try.params5] at hA hval
  have hS := hA
  obtain ⟨v0, vs0, d0, ds0, p0, q0, hargs, rfl, rfl, h0, r0⟩ := trodAll_cons hA
  obtain ⟨v1, vs1, d1, ds1, p1, q1, rfl, rfl, rfl, h1, r1⟩ := trodAll_cons r0
  obtain ⟨rfl, rfl, rfl⟩ := trodAll_nil r1
  obtain rfl : args = #[v0, v1] := by cases args; simp_all
  obtain ⟨rfl, rfl⟩ := trodVars_none hV
  suffices hc : Calls Try.prog 5 #[v0, v1] W fun e W' => e = .returned (.bool true) ∧ Below W.heap.size W W' by
    refine hc.mono fun e W' ⟨he, bel⟩ => ?_
    subst he
    exact ⟨_, rfl, _, _, _, [], _, [], hW', trodAll_mk1 (shut_bool Try.underlying4 _), trodAll_stays fineA bel (by decide +kernel) hS, rfl, bel.frame _, fun h => by cases h⟩
  clear hS hW' hfz hnd
  obtain ⟨a0, rfl, rfl, rfl, w0⟩ := open_int Try.underlying30 (hval 0 30 v0 rfl rfl) h0
  have o1 := Go.Eng.open_row Try.underlying22 Try.underlying30 (by kernel_rfl) (hval 1 22 v1 rfl rfl) h1
  rcases o1 with ⟨x, rfl⟩ | ⟨a, len, cap, zs, rfl, h0, hle, hmx, hz, hcell, hwf⟩
  · exact toldV a0 _ W _ (.cons (.of_plain rfl) (.cons (.slice0 _ _) (.nil _))) (Sim.none noVars W _ _)
  · obtain ⟨e, hS, hsp⟩ := Sim.oneRow noVars (by omega) hcell
    obtain ⟨blk, off, spot⟩ := a
    simp only at hsp
    subst hsp
    exact told a0 off len cap zs e hz hle h0 (fun x hx => wf_u64 (hwf x hx)) _ W _ (.cons (.of_plain rfl) (.cons (R.slice_row rfl) (.nil _))) hS
theorem over : Rows.readerActsRow.holds Try.pinned (OpenSpec.ofChange Rows.readerActsSpec) :=
  OpenClaim.holds_of_wide 5 Try.f5 rfl rfl rfl rfl rfl rfl rfl ⟨rfl, rfl, rfl, rfl, rfl⟩ rfl rfl rfl rfl rfl (by kernel_rfl) Try.func5 (by kernel_rfl)
    (of_decide_eq_true (by kernel_rfl)) (by unfold Func.isWrapper; first | (rw [if_pos (by decide +kernel)]; kernel_rfl) | (rw [if_neg (by decide +kernel)]; exact ⟨rfl, rfl⟩))
    (fun os started H enc _ => lifted os started H enc)
end Go.Proofs.Ytnhdjmpbmecnoaa.readerActs
namespace Go.Proofs.Ytnhdjmpbmecnoaa
/-- The row, under a short name, for the claim. -/
theorem readerActs_holds : Rows.ReaderActsSaid := readerActs.over
#print axioms readerActs_holds
end Go.Proofs.Ytnhdjmpbmecnoaa
