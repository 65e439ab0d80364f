/- What the document's reader does on a tape. -/
import Derived.Test.YtnhdjmpbmecnoaaBxB
import Derived.WalkKit
import Derived.ProofKit
import Derived.OpenShut
import Derived.ChangeOld
import Derived.Below
import Derived.SizedLaws
namespace Go.Proofs.Ytnhdjmpbmecnoaa
open Go.Eng
open Go.ChangeShapes Go.WideShapes Go.ChangeAt Go.RowKit
set_option linter.unusedVariables false
set_option linter.unusedSimpArgs false
set_option maxRecDepth 100000
noncomputable def cfgR : Cfg := ⟨[]⟩
noncomputable def fsR : List FuncId := [11, 12, 13, 14, 15, 16, 17, 18, 21, 26, 27, 28, 29, 30, 31, 32, 33, 34, 35, 48, 49, 50, 51, 54, 55, 56, 66]
theorem fitR : Fit Try.prog cfgR fsR := ⟨by kernel_rfl, Cfg.ok_of (by kernel_rfl), by kernel_rfl⟩
noncomputable def rdnT (byteRV : Int → Int → Int) (byteV : Int → Int → Int) (headN : ByteArray → ByteArray → Int) (isWb : Int → Bool) (isWs : List Int → Bool) (kLen : Int → Int) (manyV : Int → Int) (sizeN : Int → Int) (textA : List Int → Int → ByteArray × Bool) (textAt : List Int → Int → Int → ByteArray) (textR : List Int → Int → ByteArray × Bool) (vLen : Int → Int) (withRV : Int → Int → Int → Int) (wordsA : ByteArray → List Int) (wordsR : ByteArray → List Int) : RTab := fun f => match f with
  | 11 => some rc_sprocketlaw04_awake
  | 48 => some (rc_lane_Byte byteV)
  | 49 => some (rc_r02_Byte byteRV)
  | 50 => some (rc_r02_With withRV)
  | 17 => some (rc_pack_Many manyV)
  | 18 => some (rc_r04_Many manyV)
  | 15 => some (rc_pack_Words wordsA)
  | 16 => some (rc_r04_Words wordsR)
  | 12 => some (rc_pack_Text textA)
  | 13 => some (rc_r04_Text textR)
  | 14 => some rc_r02_Words
  | 33 => some (rc_box_Head headN)
  | 30 => some (rc_r16_Head headN)
  | 31 => some (rc_box_Lens isWb kLen vLen)
  | 32 => some (rc_r16_Lens isWb kLen vLen)
  | 34 => some (rc_box_Size isWb sizeN)
  | 35 => some (rc_r16_Size isWb sizeN)
  | 55 => some rc_r16_word
  | 54 => some (rc_box_cut textAt)
  | 56 => some (rc_r16_bytes isWs textAt)
  | 28 => some (rc_box_Read isWs kLen manyV textAt vLen)
  | 29 => some (rc_r16_Read isWs kLen manyV textAt vLen)
  | _ => none
def rdnDom : List FuncId := [11, 48, 49, 50, 17, 18, 15, 16, 12, 13, 14, 33, 30, 31, 32, 34, 35, 55, 54, 56, 28, 29]
theorem rdn_does : ∀ f rc, f ∈ rdnDom → (rdnT byteRV byteV headN isWb isWs kLen manyV sizeN textA textAt textR vLen withRV wordsA wordsR) f = some rc → RcDoes Try.prog [] f rc := by
  intro f rc hf hT
  simp only [rdnDom, List.mem_cons, List.not_mem_nil, or_false] at hf
  rcases hf with rfl | rfl | rfl | rfl | rfl | rfl | rfl | rfl | rfl | rfl | rfl | rfl | rfl | rfl | rfl | rfl | rfl | rfl | rfl | rfl | rfl | rfl
  · cases hT; exact rc_sprocketlaw04_awake_does
  · cases hT; exact rc_lane_Byte_does
  · cases hT; exact rc_r02_Byte_does
  · cases hT; exact rc_r02_With_does
  · cases hT; exact rc_pack_Many_does
  · cases hT; exact rc_r04_Many_does
  · cases hT; exact rc_pack_Words_does
  · cases hT; exact rc_r04_Words_does
  · cases hT; exact rc_pack_Text_does
  · cases hT; exact rc_r04_Text_does
  · cases hT; exact rc_r02_Words_does
  · cases hT; exact rc_box_Head_does
  · cases hT; exact rc_r16_Head_does
  · cases hT; exact rc_box_Lens_does
  · cases hT; exact rc_r16_Lens_does
  · cases hT; exact rc_box_Size_does
  · cases hT; exact rc_r16_Size_does
  · cases hT; exact rc_r16_word_does
  · cases hT; exact rc_box_cut_does
  · cases hT; exact rc_r16_bytes_does
  · cases hT; exact rc_box_Read_does
  · cases hT; exact rc_r16_Read_does
theorem rdn_fn : ∀ f ∈ rdnDom, FnOk Try.prog f := fun f hf => fitR.fnOk f (by
    have h0 : (rdnDom.all fun f => fsR.contains f) = true := by kernel_rfl
    simpa using List.all_eq_true.1 h0 f hf)
theorem rdn_sound : SoundC Try.prog (conC rdnDom (rcE [] (rdnT byteRV byteV headN isWb isWs kLen manyV sizeN textA textAt textR vLen withRV wordsA wordsR))) := rc_sound noVars rdn_fn rdn_does
/-- Is a reader's tape over before all is read? -/
def rdOver (l : List Int) : Bool := decide (((l.length : Nat) : Int) < sizeN (l.getD 0 0))
def rdAt (l : List Int) : Int := bif rdOver l then ((l.length : Nat) : Int) else sizeN (l.getD 0 0)
def rdA (l : List Int) (x y : Int) : Int := bif rdOver l then x else y
/-- What was read. -/
def rdRow (l : List Int) : List Int := bif rdOver l then l ++ [0] else l.take (sizeN (l.getD 0 0)).toNat
theorem size0 : sizeN 0 = 1 := by decide
theorem rd_nil : rdOver [] = true := by decide
theorem size_pos (w : Int) (h : word64 w) : 1 ≤ sizeN w := by
  obtain ⟨k1, k2, k3, k4⟩ := kLen_le w h
  have m1 := many16 k1 (by omega); have m2 := many16 k3 (by omega)
  unfold sizeN; omega
theorem fitsPN {blks : List KObj} {h : KH} {i : Nat} {x y : KObj} (hok : okOut blks [(i, x)] [y] = true) (h1 : h.low.get i = some x.low) (h2 : h.low.get blks.length = some y.low) (hx : h.next ≤ blks.length + 1) : Fits (mkH blks).low h.low (effK (mkH blks) [(i, x)] [y]).low :=
  Fits.rc hok (fun p hp => by
    rcases List.mem_singleton.1 hp with rfl
    exact h1) (fun j o hj => by
    match j, hj with
    | 0, hj => cases hj; exact h2) (fun a o hg hn => by
    obtain ⟨q, hq, rfl⟩ := mkH_inv hg
    unfold okOut at hok
    simp only [Bool.and_eq_true] at hok
    rw [KObj.rw_low]
    cases hr : q.rw with
    | false => exact .inl rfl
    | true =>
      have := allRw_mem hok.2.2.2 hq hr
      rw [Nat.zero_add] at this
      exact absurd this hn) hx
noncomputable def BG : Code := bodyOf Try.prog 21
theorem BG_is : Try.f21.body = some BG := by kernel_rfl
theorem BG_ok : okCode Try.prog.globals.size BG = true := by kernel_rfl
noncomputable abbrev GEV (byteRV : Int → Int → Int) (byteV : Int → Int → Int) (headN : ByteArray → ByteArray → Int) (isWb : Int → Bool) (isWs : List Int → Bool) (kLen : Int → Int) (manyV : Int → Int) (sizeN : Int → Int) (textA : List Int → Int → ByteArray × Bool) (textAt : List Int → Int → Int → ByteArray) (textR : List Int → Int → ByteArray × Bool) (vLen : Int → Int) (withRV : Int → Int → Int → Int) (wordsA : ByteArray → List Int) (wordsR : ByteArray → List Int) (c : Code) (s : KSt) (lv : List Nat) : Option (Ex × KSt) := evCK Try.prog cfgR (runK Try.prog cfgR fsR (conTk rdnDom (rcK [] (rdnT byteRV byteV headN isWb isWs kLen manyV sizeN textA textAt textR vLen withRV wordsA wordsR))) 14 40) 14 c s (normC 2 lv)
theorem Ggo {lv_ : List Nat} {co_ : Code} {st_ s' : KSt} {x : Ex} {Q : Ex → St → Prop} {off : Nat} {n : Nat} {c : Nat} {tk : Int} {tb : Int} {tc : Int} {to : Int} {tn : Int} {et : TypeId} {l : List Int} {e : TypeId} (hE_ : GEV byteRV byteV headN isWb isWs kLen manyV sizeN textA textAt textR vLen withRV wordsA wordsR co_ st_ lv_ = some (x, s')) (hq_ : Q x s'.low) (hok_ : okCode Try.prog.globals.size co_ = true := by kernel_rfl) : Gets Try.prog (KH.low ⟨2, 1, [(0, 0, .cells [(.slice (some ⟨1, off, none⟩) n c), (.int .i64 0), (.bool false), (.int .i64 tk), (.int .u64 tb), (.int .i64 tc), (.int .u64 to), (.int .u64 tn)] et true), (1, 0, .tail off .u64 l e)]⟩) co_ st_.low Q := Gets.ofN fitR rdn_sound (rc_agree _ _ _) 14 40 hok_ hE_ hq_
theorem GeX {v : Value} {b c : Bool} (h : v = .bool b) (hb : b = c) : v = .bool c := by rw [h, hb]
theorem GC : BG = .seq (codeAt [0] BG) (codeAt [1] BG) := by kernel_rfl
theorem GC1 : (codeAt [1] BG) = .seq (codeAt [1, 0] BG) (codeAt [1, 1] BG) := by kernel_rfl
theorem GC1_1 : (codeAt [1, 1] BG) = .seq (codeAt [1, 1, 0] BG) (codeAt [1, 1, 1] BG) := by kernel_rfl
theorem GC1_1_1 : (codeAt [1, 1, 1] BG) = .seq (codeAt [1, 1, 1, 0] BG) (codeAt [1, 1, 1, 1] BG) := by kernel_rfl
theorem GC1_1_1_0 : (codeAt [1, 1, 1, 0] BG) = .seq (codeAt [1, 1, 1, 0, 0] BG) (codeAt [1, 1, 1, 0, 1] BG) := by kernel_rfl
theorem GC1_1_1_1 : (codeAt [1, 1, 1, 1] BG) = .seq (codeAt [1, 1, 1, 1, 0] BG) (codeAt [1, 1, 1, 1, 1] BG) := by kernel_rfl
theorem GC1_1_1_1_1 : (codeAt [1, 1, 1, 1, 1] BG) = .seq (codeAt [1, 1, 1, 1, 1, 0] BG) (codeAt [1, 1, 1, 1, 1, 1] BG) := by kernel_rfl
theorem GC1_1_1_1_1_1 : (codeAt [1, 1, 1, 1, 1, 1] BG) = .ret := by kernel_rfl
theorem GC1_1_1_0_1_0_0 : (codeAt [1, 1, 1, 0, 1, 0, 0] BG) = .seq (codeAt [1, 1, 1, 0, 1, 0, 0, 0] BG) (codeAt [1, 1, 1, 0, 1, 0, 0, 1] BG) := by kernel_rfl
theorem GC1_1_1_0_1_0_0_0 : (codeAt [1, 1, 1, 0, 1, 0, 0, 0] BG) = .seq (codeAt [1, 1, 1, 0, 1, 0, 0, 0, 0] BG) (codeAt [1, 1, 1, 0, 1, 0, 0, 0, 1] BG) := by kernel_rfl
theorem GC1_1_1_0_1_0_0_0_1 : (codeAt [1, 1, 1, 0, 1, 0, 0, 0, 1] BG) = .cond (.tmp 27) (codeAt [1, 1, 1, 0, 1, 0, 0, 0, 1, 0] BG) (codeAt [1, 1, 1, 0, 1, 0, 0, 0, 1, 1] BG) := by kernel_rfl
theorem GC1_1_1_0_1_0_0_0_1_1 : (codeAt [1, 1, 1, 0, 1, 0, 0, 0, 1, 1] BG) = .exit 0 := by kernel_rfl
theorem GC1_1_1_0_1_0_0_1 : (codeAt [1, 1, 1, 0, 1, 0, 0, 1] BG) = .seq (codeAt [1, 1, 1, 0, 1, 0, 0, 1, 0] BG) (codeAt [1, 1, 1, 0, 1, 0, 0, 1, 1] BG) := by kernel_rfl
theorem GC1_1_1_0_1_0_0_1_0 : (codeAt [1, 1, 1, 0, 1, 0, 0, 1, 0] BG) = .block 1 (codeAt [1, 1, 1, 0, 1, 0, 0, 1, 0, 0] BG) := by kernel_rfl
theorem GC1_1_1_0_1 : (codeAt [1, 1, 1, 0, 1] BG) = .block 0 (codeAt [1, 1, 1, 0, 1, 0] BG) := by kernel_rfl
theorem GC1_1_1_0_1_0 : (codeAt [1, 1, 1, 0, 1, 0] BG) = .loop (codeAt [1, 1, 1, 0, 1, 0, 0] BG) := by kernel_rfl
section
variable (byteRV : Int → Int → Int) (byteV : Int → Int → Int) (headN : ByteArray → ByteArray → Int) (isWb : Int → Bool) (isWs : List Int → Bool) (kLen : Int → Int) (manyV : Int → Int) (sizeN : Int → Int) (textA : List Int → Int → ByteArray × Bool) (textAt : List Int → Int → Int → ByteArray) (textR : List Int → Int → ByteArray × Bool) (vLen : Int → Int) (withRV : Int → Int → Int → Int) (wordsA : ByteArray → List Int) (wordsR : ByteArray → List Int)
noncomputable def GS0 (bk : Int) (off : Nat) (n : Nat) (c : Nat) (tk : Int) (tb : Int) (tc : Int) (to : Int) (tn : Int) (et : TypeId) (l : List Int) (e : TypeId) : KSt := (firstK [(.pointer (some ⟨0, 0, none⟩)), (.int .u64 bk)] 45 ⟨2, 1, [(0, 0, .cells [(.slice (some ⟨1, off, none⟩) n c), (.int .i64 0), (.bool false), (.int .i64 tk), (.int .u64 tb), (.int .i64 tc), (.int .u64 to), (.int .u64 tn)] et true), (1, 0, .tail off .u64 l e)]⟩)
noncomputable def GS1 (bk : Int) (off : Nat) (n : Nat) (c : Nat) (tk : Int) (tb : Int) (tc : Int) (to : Int) (tn : Int) (et : TypeId) (l : List Int) (e : TypeId) : KSt := ⟨(frameL 45 [(0, (.pointer (some ⟨0, 0, none⟩))), (1, (.int .u64 bk)), (4, (.pointer (some ⟨2, 0, none⟩)))]), ⟨3, 1, [(2, 0, .cells [(.string ⟨#[]⟩), (.string ⟨#[]⟩)] 39 true), (0, 0, .cells [(.slice (some ⟨1, off, none⟩) n c), (.int .i64 0), (.bool false), (.int .i64 tk), (.int .u64 tb), (.int .i64 tc), (.int .u64 to), (.int .u64 tn)] et true), (1, 0, .tail off .u64 l e)]⟩⟩
theorem GR1 (bk : Int) (off : Nat) (n : Nat) (c : Nat) (tk : Int) (tb : Int) (tc : Int) (to : Int) (tn : Int) (et : TypeId) (l : List Int) (e : TypeId) : GEV byteRV byteV headN isWb isWs kLen manyV sizeN textA textAt textR vLen withRV wordsA wordsR (codeAt [0] BG) (GS0 bk off n c tk tb tc to tn et l e) [0, 1, 4] =
  some (.normal, (GS1 bk off n c tk tb tc to tn et l e)) := by kernel_rfl
noncomputable def GS2 (bk : Int) (n1 : Int) (off : Nat) (n : Nat) (c : Nat) (tk : Int) (tb : Int) (tc : Int) (to : Int) (tn : Int) (et : TypeId) (l : List Int) (e : TypeId) : KSt := ⟨(frameL 45 [(0, (.pointer (some ⟨0, 0, none⟩))), (1, (.int .u64 bk)), (4, (.pointer (some ⟨2, 0, none⟩))), (5, (.slice (some ⟨3, 0, none⟩) 1 1))]), ⟨4, 1, [(3, 0, .cells [(.int .u64 n1)] 30 true), (2, 0, .cells [(.string ⟨#[]⟩), (.string ⟨#[]⟩)] 39 true), (0, 0, .cells [(.slice (some ⟨1, off, none⟩) n c), (.int .i64 1), (.bool false), (.int .i64 tk), (.int .u64 tb), (.int .i64 tc), (.int .u64 to), (.int .u64 tn)] et true), (1, 0, .tail off .u64 l e)]⟩⟩
noncomputable def GS3 (bk : Int) (off : Nat) (n : Nat) (c : Nat) (et : TypeId) (l : List Int) (e : TypeId) : KSt := ⟨(frameL 45 [(0, (.pointer (some ⟨0, 0, none⟩))), (1, (.int .u64 bk)), (4, (.pointer (some ⟨2, 0, none⟩))), (5, (.slice (some ⟨3, 0, none⟩) 1 1))]), ⟨4, 1, [(3, 0, .cells [(.int .u64 0)] 30 true), (2, 0, .cells [(.string ⟨#[]⟩), (.string ⟨#[]⟩)] 39 true), (0, 0, .cells [(.slice (some ⟨1, off, none⟩) n c), (.int .i64 0), (.bool true), (.int .i64 1), (.int .u64 bk), (.int .i64 0), (.int .u64 0), (.int .u64 0)] et true), (1, 0, .tail off .u64 l e)]⟩⟩
theorem GR2 (bk : Int) (off : Nat) (n : Nat) (c : Nat) (tk : Int) (tb : Int) (tc : Int) (to : Int) (tn : Int) (et : TypeId) (l : List Int) (e : TypeId) : GEV byteRV byteV headN isWb isWs kLen manyV sizeN textA textAt textR vLen withRV wordsA wordsR (codeAt [1, 0] BG) (GS1 bk off n c tk tb tc to tn et l e) [0, 1, 4, 5] =
  bif (decide (0 < ((n : Nat) : Int))) then
    if (0 : Int) ≤ 0 ∧ 0 < ((n : Nat) : Int) then
      bif (Nat.ble off (off + 0)) then
        obind (l[((off + 0) - off)]?) fun n1 =>
          some (.normal, (GS2 bk n1 off n c tk tb tc to tn et l e))
      else
        none
    else
      none
  else
    some (.normal, (GS3 bk off n c et l e)) := by kernel_rfl
noncomputable def GS4 (bk : Int) (off : Nat) (n : Nat) (c : Nat) (et : TypeId) (l : List Int) (e : TypeId) : KSt := ⟨(frameL 45 [(0, (.pointer (some ⟨0, 0, none⟩))), (1, (.int .u64 bk)), (4, (.pointer (some ⟨2, 0, none⟩))), (5, (.slice (some ⟨3, 0, none⟩) 1 1)), (6, (.int .i64 (sizeN 0)))]), ⟨4, 1, [(3, 0, .cells [(.int .u64 0)] 30 true), (2, 0, .cells [(.string ⟨#[]⟩), (.string ⟨#[]⟩)] 39 true), (0, 0, .cells [(.slice (some ⟨1, off, none⟩) n c), (.int .i64 0), (.bool true), (.int .i64 1), (.int .u64 bk), (.int .i64 0), (.int .u64 0), (.int .u64 0)] et true), (1, 0, .tail off .u64 l e)]⟩⟩
theorem GR3 (bk : Int) (off : Nat) (n : Nat) (c : Nat) (et : TypeId) (l : List Int) (e : TypeId) : GEV byteRV byteV headN isWb isWs kLen manyV sizeN textA textAt textR vLen withRV wordsA wordsR (codeAt [1, 1, 0] BG) (GS3 bk off n c et l e) [0, 1, 4, 5, 6] =
  bif (isWb 0) then
    some (.normal, (GS4 sizeN bk off n c et l e))
  else
    none := by kernel_rfl
noncomputable def GS5 (bk : Int) (off : Nat) (n : Nat) (c : Nat) (et : TypeId) (l : List Int) (e : TypeId) : KSt := ⟨(frameL 45 [(0, (.pointer (some ⟨0, 0, none⟩))), (1, (.int .u64 bk)), (4, (.pointer (some ⟨2, 0, none⟩))), (5, (.slice (some ⟨3, 0, none⟩) 1 1)), (6, (.int .i64 (sizeN 0))), (7, (.int .i64 1))]), ⟨4, 1, [(3, 0, .cells [(.int .u64 0)] 30 true), (2, 0, .cells [(.string ⟨#[]⟩), (.string ⟨#[]⟩)] 39 true), (0, 0, .cells [(.slice (some ⟨1, off, none⟩) n c), (.int .i64 0), (.bool true), (.int .i64 1), (.int .u64 bk), (.int .i64 0), (.int .u64 0), (.int .u64 0)] et true), (1, 0, .tail off .u64 l e)]⟩⟩
theorem GR4 (bk : Int) (off : Nat) (n : Nat) (c : Nat) (et : TypeId) (l : List Int) (e : TypeId) : GEV byteRV byteV headN isWb isWs kLen manyV sizeN textA textAt textR vLen withRV wordsA wordsR (codeAt [1, 1, 1, 0, 0] BG) (GS4 sizeN bk off n c et l e) [0, 1, 4, 5, 6, 7] =
  some (.normal, (GS5 sizeN bk off n c et l e)) := by kernel_rfl
noncomputable def GS6 (off : Nat) (n : Nat) (c : Nat) (bk : Int) (et : TypeId) (l : List Int) (e : TypeId) : KSt := ⟨(frameL 45 [(4, (.pointer (some ⟨2, 0, none⟩))), (5, (.slice (some ⟨3, 0, none⟩) 1 1))]), ⟨4, 1, [(3, 0, .cells [(.int .u64 0)] 30 true), (2, 0, .cells [(.string ⟨#[]⟩), (.string ⟨#[]⟩)] 39 true), (0, 0, .cells [(.slice (some ⟨1, off, none⟩) n c), (.int .i64 0), (.bool true), (.int .i64 1), (.int .u64 bk), (.int .i64 0), (.int .u64 0), (.int .u64 0)] et true), (1, 0, .tail off .u64 l e)]⟩⟩
theorem GR5 (bk : Int) (off : Nat) (n : Nat) (c : Nat) (et : TypeId) (l : List Int) (e : TypeId) : GEV byteRV byteV headN isWb isWs kLen manyV sizeN textA textAt textR vLen withRV wordsA wordsR (codeAt [1, 1, 1, 0, 1] BG) (GS5 sizeN bk off n c et l e) [4, 5] =
  bif (decide (1 < (sizeN 0))) then
    some (.normal, (GS6 off n c bk et l e))
  else
    some (.normal, (GS6 off n c bk et l e)) := by kernel_rfl
noncomputable def GS7 (off : Nat) (n : Nat) (c : Nat) (bk : Int) (et : TypeId) (l : List Int) (e : TypeId) : KSt := ⟨(frameL 45 [(4, (.pointer (some ⟨2, 0, none⟩))), (8, (.string (textAt ([0] : List Int) 1 (kLen (List.getD ([0] : List Int) 0 0))))), (9, (.string (textAt ([0] : List Int) (1 + manyV (kLen (List.getD ([0] : List Int) 0 0))) (vLen (List.getD ([0] : List Int) 0 0)))))]), ⟨3, 1, [(2, 0, .cells [(.string ⟨#[]⟩), (.string ⟨#[]⟩)] 39 true), (0, 0, .cells [(.slice (some ⟨1, off, none⟩) n c), (.int .i64 0), (.bool true), (.int .i64 1), (.int .u64 bk), (.int .i64 0), (.int .u64 0), (.int .u64 0)] et true), (1, 0, .tail off .u64 l e)]⟩⟩
theorem GR6 (off : Nat) (n : Nat) (c : Nat) (bk : Int) (et : TypeId) (l : List Int) (e : TypeId) : GEV byteRV byteV headN isWb isWs kLen manyV sizeN textA textAt textR vLen withRV wordsA wordsR (codeAt [1, 1, 1, 1, 0] BG) (GS6 off n c bk et l e) [4, 8, 9] =
  bif ((Nat.ble (List.length ([0] : List Int)) 1000) && (isWs ([0] : List Int))) then
    some (.normal, (GS7 kLen manyV textAt vLen off n c bk et l e))
  else
    none := by kernel_rfl
noncomputable def GS8 (off : Nat) (n : Nat) (c : Nat) (bk : Int) (et : TypeId) (l : List Int) (e : TypeId) : KSt := ⟨(frameL 45 [(4, (.pointer (some ⟨2, 0, none⟩)))]), ⟨3, 1, [(2, 0, .cells [(.string (textAt ([0] : List Int) 1 (kLen (List.getD ([0] : List Int) 0 0)))), (.string (textAt ([0] : List Int) (1 + manyV (kLen (List.getD ([0] : List Int) 0 0))) (vLen (List.getD ([0] : List Int) 0 0))))] 39 true), (0, 0, .cells [(.slice (some ⟨1, off, none⟩) n c), (.int .i64 0), (.bool true), (.int .i64 1), (.int .u64 bk), (.int .i64 0), (.int .u64 0), (.int .u64 0)] et true), (1, 0, .tail off .u64 l e)]⟩⟩
theorem GR7 (off : Nat) (n : Nat) (c : Nat) (bk : Int) (et : TypeId) (l : List Int) (e : TypeId) : GEV byteRV byteV headN isWb isWs kLen manyV sizeN textA textAt textR vLen withRV wordsA wordsR (codeAt [1, 1, 1, 1, 1, 0] BG) (GS7 kLen manyV textAt vLen off n c bk et l e) [4] =
  some (.normal, (GS8 kLen manyV textAt vLen off n c bk et l e)) := by kernel_rfl
noncomputable def GS9 (bk : Int) (l : List Int) (off : Nat) (n : Nat) (c : Nat) (tk : Int) (tb : Int) (tc : Int) (to : Int) (tn : Int) (et : TypeId) (e : TypeId) : KSt := ⟨(frameL 45 [(0, (.pointer (some ⟨0, 0, none⟩))), (1, (.int .u64 bk)), (4, (.pointer (some ⟨2, 0, none⟩))), (5, (.slice (some ⟨3, 0, none⟩) 1 1))]), ⟨4, 1, [(3, 0, .cells [(.int .u64 (l.getD 0 0))] 30 true), (2, 0, .cells [(.string ⟨#[]⟩), (.string ⟨#[]⟩)] 39 true), (0, 0, .cells [(.slice (some ⟨1, off, none⟩) n c), (.int .i64 1), (.bool false), (.int .i64 tk), (.int .u64 tb), (.int .i64 tc), (.int .u64 to), (.int .u64 tn)] et true), (1, 0, .tail off .u64 l e)]⟩⟩
noncomputable def GS10 (bk : Int) (l : List Int) (off : Nat) (n : Nat) (c : Nat) (tk : Int) (tb : Int) (tc : Int) (to : Int) (tn : Int) (et : TypeId) (e : TypeId) : KSt := ⟨(frameL 45 [(0, (.pointer (some ⟨0, 0, none⟩))), (1, (.int .u64 bk)), (4, (.pointer (some ⟨2, 0, none⟩))), (5, (.slice (some ⟨3, 0, none⟩) 1 1)), (6, (.int .i64 (sizeN (l.getD 0 0))))]), ⟨4, 1, [(3, 0, .cells [(.int .u64 (l.getD 0 0))] 30 true), (2, 0, .cells [(.string ⟨#[]⟩), (.string ⟨#[]⟩)] 39 true), (0, 0, .cells [(.slice (some ⟨1, off, none⟩) n c), (.int .i64 1), (.bool false), (.int .i64 tk), (.int .u64 tb), (.int .i64 tc), (.int .u64 to), (.int .u64 tn)] et true), (1, 0, .tail off .u64 l e)]⟩⟩
theorem GR8 (bk : Int) (l : List Int) (off : Nat) (n : Nat) (c : Nat) (tk : Int) (tb : Int) (tc : Int) (to : Int) (tn : Int) (et : TypeId) (e : TypeId) : GEV byteRV byteV headN isWb isWs kLen manyV sizeN textA textAt textR vLen withRV wordsA wordsR (codeAt [1, 1, 0] BG) (GS9 bk l off n c tk tb tc to tn et e) [0, 1, 4, 5, 6] =
  bif (isWb (l.getD 0 0)) then
    some (.normal, (GS10 sizeN bk l off n c tk tb tc to tn et e))
  else
    none := by kernel_rfl
noncomputable def GS11 (bk : Int) (l : List Int) (off : Nat) (n : Nat) (c : Nat) (tk : Int) (tb : Int) (tc : Int) (to : Int) (tn : Int) (et : TypeId) (e : TypeId) : KSt := ⟨(frameL 45 [(0, (.pointer (some ⟨0, 0, none⟩))), (1, (.int .u64 bk)), (4, (.pointer (some ⟨2, 0, none⟩))), (5, (.slice (some ⟨3, 0, none⟩) 1 1)), (6, (.int .i64 (sizeN (l.getD 0 0)))), (7, (.int .i64 1))]), ⟨4, 1, [(3, 0, .cells [(.int .u64 (l.getD 0 0))] 30 true), (2, 0, .cells [(.string ⟨#[]⟩), (.string ⟨#[]⟩)] 39 true), (0, 0, .cells [(.slice (some ⟨1, off, none⟩) n c), (.int .i64 1), (.bool false), (.int .i64 tk), (.int .u64 tb), (.int .i64 tc), (.int .u64 to), (.int .u64 tn)] et true), (1, 0, .tail off .u64 l e)]⟩⟩
theorem GR9 (bk : Int) (l : List Int) (off : Nat) (n : Nat) (c : Nat) (tk : Int) (tb : Int) (tc : Int) (to : Int) (tn : Int) (et : TypeId) (e : TypeId) : GEV byteRV byteV headN isWb isWs kLen manyV sizeN textA textAt textR vLen withRV wordsA wordsR (codeAt [1, 1, 1, 0, 0] BG) (GS10 sizeN bk l off n c tk tb tc to tn et e) [0, 1, 4, 5, 6, 7] =
  some (.normal, (GS11 sizeN bk l off n c tk tb tc to tn et e)) := by kernel_rfl
noncomputable def GS12 (bk : Int) (m : Nat) (w : Int) (i : Int) (q : List Int) (off : Nat) (n : Nat) (c : Nat) (tk : Int) (tb : Int) (tc : Int) (to : Int) (tn : Int) (et : TypeId) (l : List Int) (e : TypeId) : KSt := ⟨(frameL 45 [(0, (.pointer (some ⟨0, 0, none⟩))), (1, (.int .u64 bk)), (4, (.pointer (some ⟨2, 0, none⟩))), (5, (.slice (some ⟨3, 0, none⟩) m m)), (6, (.int .i64 w)), (7, (.int .i64 i))]), ⟨4, 1, [(3, 0, .ints .u64 q 30 true), (2, 0, .cells [(.string ⟨#[]⟩), (.string ⟨#[]⟩)] 39 true), (0, 0, .cells [(.slice (some ⟨1, off, none⟩) n c), (.int .i64 i), (.bool false), (.int .i64 tk), (.int .u64 tb), (.int .i64 tc), (.int .u64 to), (.int .u64 tn)] et true), (1, 0, .tail off .u64 l e)]⟩⟩
noncomputable def GS13 (bk : Int) (m : Nat) (w : Int) (i : Int) (q : List Int) (off : Nat) (n : Nat) (c : Nat) (tk : Int) (tb : Int) (tc : Int) (to : Int) (tn : Int) (et : TypeId) (l : List Int) (e : TypeId) : KSt := ⟨(frameL 45 [(0, (.pointer (some ⟨0, 0, none⟩))), (1, (.int .u64 bk)), (4, (.pointer (some ⟨2, 0, none⟩))), (5, (.slice (some ⟨3, 0, none⟩) m m)), (6, (.int .i64 w)), (7, (.int .i64 i)), (27, (.bool true))]), ⟨4, 1, [(3, 0, .ints .u64 q 30 true), (2, 0, .cells [(.string ⟨#[]⟩), (.string ⟨#[]⟩)] 39 true), (0, 0, .cells [(.slice (some ⟨1, off, none⟩) n c), (.int .i64 i), (.bool false), (.int .i64 tk), (.int .u64 tb), (.int .i64 tc), (.int .u64 to), (.int .u64 tn)] et true), (1, 0, .tail off .u64 l e)]⟩⟩
noncomputable def GS14 (bk : Int) (m : Nat) (w : Int) (i : Int) (q : List Int) (off : Nat) (n : Nat) (c : Nat) (tk : Int) (tb : Int) (tc : Int) (to : Int) (tn : Int) (et : TypeId) (l : List Int) (e : TypeId) : KSt := ⟨(frameL 45 [(0, (.pointer (some ⟨0, 0, none⟩))), (1, (.int .u64 bk)), (4, (.pointer (some ⟨2, 0, none⟩))), (5, (.slice (some ⟨3, 0, none⟩) m m)), (6, (.int .i64 w)), (7, (.int .i64 i)), (27, (.bool false))]), ⟨4, 1, [(3, 0, .ints .u64 q 30 true), (2, 0, .cells [(.string ⟨#[]⟩), (.string ⟨#[]⟩)] 39 true), (0, 0, .cells [(.slice (some ⟨1, off, none⟩) n c), (.int .i64 i), (.bool false), (.int .i64 tk), (.int .u64 tb), (.int .i64 tc), (.int .u64 to), (.int .u64 tn)] et true), (1, 0, .tail off .u64 l e)]⟩⟩
theorem GR10 (bk : Int) (m : Nat) (w : Int) (i : Int) (q : List Int) (off : Nat) (n : Nat) (c : Nat) (tk : Int) (tb : Int) (tc : Int) (to : Int) (tn : Int) (et : TypeId) (l : List Int) (e : TypeId) : GEV byteRV byteV headN isWb isWs kLen manyV sizeN textA textAt textR vLen withRV wordsA wordsR (codeAt [1, 1, 1, 0, 1, 0, 0, 0, 0] BG) (GS12 bk m w i q off n c tk tb tc to tn et l e) [0, 1, 4, 5, 6, 7, 27] =
  bif (decide (i < w)) then
    some (.normal, (GS13 bk m w i q off n c tk tb tc to tn et l e))
  else
    some (.normal, (GS14 bk m w i q off n c tk tb tc to tn et l e)) := by kernel_rfl
theorem GR11 (bk : Int) (m : Nat) (w : Int) (i : Int) (q : List Int) (off : Nat) (n : Nat) (c : Nat) (tk : Int) (tb : Int) (tc : Int) (to : Int) (tn : Int) (et : TypeId) (l : List Int) (e : TypeId) : GEV byteRV byteV headN isWb isWs kLen manyV sizeN textA textAt textR vLen withRV wordsA wordsR (codeAt [1, 1, 1, 0, 1, 0, 0, 0, 1, 0] BG) (GS13 bk m w i q off n c tk tb tc to tn et l e) [0, 1, 4, 5, 6, 7] =
  some (.normal, (GS12 bk m w i q off n c tk tb tc to tn et l e)) := by kernel_rfl
noncomputable def GS15 (bk : Int) (m : Nat) (w : Int) (i : Int) (q : List Int) (n1 : Int) (off : Nat) (n : Nat) (c : Nat) (tk : Int) (tb : Int) (tc : Int) (to : Int) (tn : Int) (et : TypeId) (l : List Int) (e : TypeId) : KSt := ⟨(frameL 45 [(0, (.pointer (some ⟨0, 0, none⟩))), (1, (.int .u64 bk)), (4, (.pointer (some ⟨2, 0, none⟩))), (5, (.slice (some ⟨3, 0, none⟩) (m + 1) m)), (6, (.int .i64 w)), (7, (.int .i64 i))]), ⟨4, 1, [(3, 0, .ints .u64 (List.take (0 + m) q ++ [n1] ++ List.drop ((0 + m) + (List.length [n1])) q) 30 true), (2, 0, .cells [(.string ⟨#[]⟩), (.string ⟨#[]⟩)] 39 true), (0, 0, .cells [(.slice (some ⟨1, off, none⟩) n c), (.int .i64 (IntKind.wrap .i64 (i + 1))), (.bool false), (.int .i64 tk), (.int .u64 tb), (.int .i64 tc), (.int .u64 to), (.int .u64 tn)] et true), (1, 0, .tail off .u64 l e)]⟩⟩
noncomputable def GS16 (bk : Int) (w : Int) (i : Int) (n1 : Int) (off : Nat) (n : Nat) (c : Nat) (tk : Int) (tb : Int) (tc : Int) (to : Int) (tn : Int) (et : TypeId) (l : List Int) (e : TypeId) : KSt := ⟨(frameL 45 [(0, (.pointer (some ⟨0, 0, none⟩))), (1, (.int .u64 bk)), (4, (.pointer (some ⟨2, 0, none⟩))), (5, (.slice (some ⟨3, 0, none⟩) 1 1)), (6, (.int .i64 w)), (7, (.int .i64 i))]), ⟨4, 1, [(3, 0, .cells [(.int .u64 n1)] 30 true), (2, 0, .cells [(.string ⟨#[]⟩), (.string ⟨#[]⟩)] 39 true), (0, 0, .cells [(.slice (some ⟨1, off, none⟩) n c), (.int .i64 (IntKind.wrap .i64 (i + 1))), (.bool false), (.int .i64 tk), (.int .u64 tb), (.int .i64 tc), (.int .u64 to), (.int .u64 tn)] et true), (1, 0, .tail off .u64 l e)]⟩⟩
noncomputable def GS17 (bk : Int) (m : Nat) (w : Int) (i : Int) (q : List Int) (n1 : Int) (off : Nat) (n : Nat) (c : Nat) (tk : Int) (tb : Int) (tc : Int) (to : Int) (tn : Int) (et : TypeId) (l : List Int) (e : TypeId) : KSt := ⟨(frameL 45 [(0, (.pointer (some ⟨0, 0, none⟩))), (1, (.int .u64 bk)), (4, (.pointer (some ⟨2, 0, none⟩))), (5, (.slice (some ⟨3, 0, none⟩) (m + 1) (m + 1))), (6, (.int .i64 w)), (7, (.int .i64 i))]), ⟨4, 1, [(3, 0, .ints .u64 (List.take m q ++ [n1]) 30 true), (2, 0, .cells [(.string ⟨#[]⟩), (.string ⟨#[]⟩)] 39 true), (0, 0, .cells [(.slice (some ⟨1, off, none⟩) n c), (.int .i64 (IntKind.wrap .i64 (i + 1))), (.bool false), (.int .i64 tk), (.int .u64 tb), (.int .i64 tc), (.int .u64 to), (.int .u64 tn)] et true), (1, 0, .tail off .u64 l e)]⟩⟩
noncomputable def GS18 (bk : Int) (m : Nat) (w : Int) (i : Int) (q : List Int) (off : Nat) (n : Nat) (c : Nat) (et : TypeId) (l : List Int) (e : TypeId) : KSt := ⟨(frameL 45 [(0, (.pointer (some ⟨0, 0, none⟩))), (1, (.int .u64 bk)), (4, (.pointer (some ⟨2, 0, none⟩))), (5, (.slice (some ⟨3, 0, none⟩) (m + 1) m)), (6, (.int .i64 w)), (7, (.int .i64 i))]), ⟨4, 1, [(3, 0, .ints .u64 (List.take (0 + m) q ++ [0] ++ List.drop ((0 + m) + (List.length [0])) q) 30 true), (2, 0, .cells [(.string ⟨#[]⟩), (.string ⟨#[]⟩)] 39 true), (0, 0, .cells [(.slice (some ⟨1, off, none⟩) n c), (.int .i64 i), (.bool true), (.int .i64 1), (.int .u64 bk), (.int .i64 i), (.int .u64 0), (.int .u64 0)] et true), (1, 0, .tail off .u64 l e)]⟩⟩
noncomputable def GS19 (bk : Int) (w : Int) (i : Int) (off : Nat) (n : Nat) (c : Nat) (et : TypeId) (l : List Int) (e : TypeId) : KSt := ⟨(frameL 45 [(0, (.pointer (some ⟨0, 0, none⟩))), (1, (.int .u64 bk)), (4, (.pointer (some ⟨2, 0, none⟩))), (5, (.slice (some ⟨3, 0, none⟩) 1 1)), (6, (.int .i64 w)), (7, (.int .i64 i))]), ⟨4, 1, [(3, 0, .cells [(.int .u64 0)] 30 true), (2, 0, .cells [(.string ⟨#[]⟩), (.string ⟨#[]⟩)] 39 true), (0, 0, .cells [(.slice (some ⟨1, off, none⟩) n c), (.int .i64 i), (.bool true), (.int .i64 1), (.int .u64 bk), (.int .i64 i), (.int .u64 0), (.int .u64 0)] et true), (1, 0, .tail off .u64 l e)]⟩⟩
noncomputable def GS20 (bk : Int) (m : Nat) (w : Int) (i : Int) (q : List Int) (off : Nat) (n : Nat) (c : Nat) (et : TypeId) (l : List Int) (e : TypeId) : KSt := ⟨(frameL 45 [(0, (.pointer (some ⟨0, 0, none⟩))), (1, (.int .u64 bk)), (4, (.pointer (some ⟨2, 0, none⟩))), (5, (.slice (some ⟨3, 0, none⟩) (m + 1) (m + 1))), (6, (.int .i64 w)), (7, (.int .i64 i))]), ⟨4, 1, [(3, 0, .ints .u64 (List.take m q ++ [0]) 30 true), (2, 0, .cells [(.string ⟨#[]⟩), (.string ⟨#[]⟩)] 39 true), (0, 0, .cells [(.slice (some ⟨1, off, none⟩) n c), (.int .i64 i), (.bool true), (.int .i64 1), (.int .u64 bk), (.int .i64 i), (.int .u64 0), (.int .u64 0)] et true), (1, 0, .tail off .u64 l e)]⟩⟩
theorem GR12 (bk : Int) (m : Nat) (w : Int) (i : Int) (q : List Int) (off : Nat) (n : Nat) (c : Nat) (tk : Int) (tb : Int) (tc : Int) (to : Int) (tn : Int) (et : TypeId) (l : List Int) (e : TypeId) : GEV byteRV byteV headN isWb isWs kLen manyV sizeN textA textAt textR vLen withRV wordsA wordsR (codeAt [1, 1, 1, 0, 1, 0, 0, 1, 0, 0] BG) (GS12 bk m w i q off n c tk tb tc to tn et l e) [0, 1, 4, 5, 6, 7] =
  bif (decide (i < ((n : Nat) : Int))) then
    if 0 ≤ (IntKind.wrap .i64 ((IntKind.wrap .i64 (i + 1)) - 1)) ∧ (IntKind.wrap .i64 ((IntKind.wrap .i64 (i + 1)) - 1)) < ((n : Nat) : Int) then
      bif (Nat.ble off (off + ((Int.toNat (IntKind.wrap .i64 ((IntKind.wrap .i64 (i + 1)) - 1))) * 1))) then
        obind (l[((off + ((Int.toNat (IntKind.wrap .i64 ((IntKind.wrap .i64 (i + 1)) - 1))) * 1)) - off)]?) fun n1 =>
          bif (Nat.ble ((m + 1) * 9) 1099511627776) then
            bif (Nat.ble (m + 1) m) then
              bif (Nat.ble (0 + (m + 1)) (List.length q)) then
                some (.normal, (GS15 bk m w i q n1 off n c tk tb tc to tn et l e))
              else
                none
            else
              bif ((Nat.beq m 0) && (Nat.beq m 0)) then
                some (.normal, (GS16 bk w i n1 off n c tk tb tc to tn et l e))
              else
                bif ((Nat.ble m (List.length q)) && (Nat.ble 1 m)) then
                  some (.normal, (GS17 bk m w i q n1 off n c tk tb tc to tn et l e))
                else
                  none
          else
            none
      else
        none
    else
      none
  else
    bif (Nat.ble ((m + 1) * 9) 1099511627776) then
      bif (Nat.ble (m + 1) m) then
        bif (Nat.ble (0 + (m + 1)) (List.length q)) then
          some (.normal, (GS18 bk m w i q off n c et l e))
        else
          none
      else
        bif ((Nat.beq m 0) && (Nat.beq m 0)) then
          some (.normal, (GS19 bk w i off n c et l e))
        else
          bif ((Nat.ble m (List.length q)) && (Nat.ble 1 m)) then
            some (.normal, (GS20 bk m w i q off n c et l e))
          else
            none
    else
      none := by kernel_rfl
noncomputable def GS21 (bk : Int) (m : Nat) (w : Int) (i : Int) (q : List Int) (l : List Int) (off : Nat) (n : Nat) (c : Nat) (tk : Int) (tb : Int) (tc : Int) (to : Int) (tn : Int) (et : TypeId) (e : TypeId) : KSt := ⟨(frameL 45 [(0, (.pointer (some ⟨0, 0, none⟩))), (1, (.int .u64 bk)), (4, (.pointer (some ⟨2, 0, none⟩))), (5, (.slice (some ⟨3, 0, none⟩) (m + 1) (m + 1))), (6, (.int .i64 w)), (7, (.int .i64 i))]), ⟨4, 1, [(3, 0, .ints .u64 (List.take m q ++ [(l.getD ((Int.toNat i) * 1) 0)]) 30 true), (2, 0, .cells [(.string ⟨#[]⟩), (.string ⟨#[]⟩)] 39 true), (0, 0, .cells [(.slice (some ⟨1, off, none⟩) n c), (.int .i64 (i + 1)), (.bool false), (.int .i64 tk), (.int .u64 tb), (.int .i64 tc), (.int .u64 to), (.int .u64 tn)] et true), (1, 0, .tail off .u64 l e)]⟩⟩
noncomputable def GS22 (bk : Int) (m : Nat) (w : Int) (i : Int) (q : List Int) (l : List Int) (off : Nat) (n : Nat) (c : Nat) (tk : Int) (tb : Int) (tc : Int) (to : Int) (tn : Int) (et : TypeId) (e : TypeId) : KSt := ⟨(frameL 45 [(0, (.pointer (some ⟨0, 0, none⟩))), (1, (.int .u64 bk)), (4, (.pointer (some ⟨2, 0, none⟩))), (5, (.slice (some ⟨3, 0, none⟩) (m + 1) (m + 1))), (6, (.int .i64 w)), (7, (.int .i64 i))]), ⟨4, 1, [(3, 0, .ints .u64 (List.take m q ++ [(l.getD ((Int.toNat (IntKind.wrap .i64 ((IntKind.wrap .i64 (i + 1)) - 1))) * 1) 0)]) 30 true), (2, 0, .cells [(.string ⟨#[]⟩), (.string ⟨#[]⟩)] 39 true), (0, 0, .cells [(.slice (some ⟨1, off, none⟩) n c), (.int .i64 (IntKind.wrap .i64 (i + 1))), (.bool false), (.int .i64 tk), (.int .u64 tb), (.int .i64 tc), (.int .u64 to), (.int .u64 tn)] et true), (1, 0, .tail off .u64 l e)]⟩⟩
noncomputable def GS23 (bk : Int) (m : Nat) (w : Int) (i : Int) (q : List Int) (l : List Int) (off : Nat) (n : Nat) (c : Nat) (tk : Int) (tb : Int) (tc : Int) (to : Int) (tn : Int) (et : TypeId) (e : TypeId) : KSt := ⟨(frameL 45 [(0, (.pointer (some ⟨0, 0, none⟩))), (1, (.int .u64 bk)), (4, (.pointer (some ⟨2, 0, none⟩))), (5, (.slice (some ⟨3, 0, none⟩) (m + 1) (m + 1))), (6, (.int .i64 w)), (7, (.int .i64 (IntKind.wrap .i64 (i + 1))))]), ⟨4, 1, [(3, 0, .ints .u64 (List.take m q ++ [(l.getD ((Int.toNat i) * 1) 0)]) 30 true), (2, 0, .cells [(.string ⟨#[]⟩), (.string ⟨#[]⟩)] 39 true), (0, 0, .cells [(.slice (some ⟨1, off, none⟩) n c), (.int .i64 (i + 1)), (.bool false), (.int .i64 tk), (.int .u64 tb), (.int .i64 tc), (.int .u64 to), (.int .u64 tn)] et true), (1, 0, .tail off .u64 l e)]⟩⟩
theorem GR13 (bk : Int) (m : Nat) (w : Int) (i : Int) (q : List Int) (l : List Int) (off : Nat) (n : Nat) (c : Nat) (tk : Int) (tb : Int) (tc : Int) (to : Int) (tn : Int) (et : TypeId) (e : TypeId) : GEV byteRV byteV headN isWb isWs kLen manyV sizeN textA textAt textR vLen withRV wordsA wordsR (codeAt [1, 1, 1, 0, 1, 0, 0, 1, 1] BG) (GS21 bk m w i q l off n c tk tb tc to tn et e) [0, 1, 4, 5, 6, 7] =
  some (.normal, (GS23 bk m w i q l off n c tk tb tc to tn et e)) := by kernel_rfl
noncomputable def GS24 (bk : Int) (m : Nat) (w : Int) (i : Int) (q : List Int) (l : List Int) (off : Nat) (n : Nat) (c : Nat) (tk : Int) (tb : Int) (tc : Int) (to : Int) (tn : Int) (et : TypeId) (e : TypeId) : KSt := ⟨(frameL 45 [(0, (.pointer (some ⟨0, 0, none⟩))), (1, (.int .u64 bk)), (4, (.pointer (some ⟨2, 0, none⟩))), (5, (.slice (some ⟨3, 0, none⟩) (m + 1) (m + 1))), (6, (.int .i64 w)), (7, (.int .i64 (i + 1)))]), ⟨4, 1, [(3, 0, .ints .u64 (List.take m q ++ [(l.getD ((Int.toNat i) * 1) 0)]) 30 true), (2, 0, .cells [(.string ⟨#[]⟩), (.string ⟨#[]⟩)] 39 true), (0, 0, .cells [(.slice (some ⟨1, off, none⟩) n c), (.int .i64 (i + 1)), (.bool false), (.int .i64 tk), (.int .u64 tb), (.int .i64 tc), (.int .u64 to), (.int .u64 tn)] et true), (1, 0, .tail off .u64 l e)]⟩⟩
noncomputable def GS25 (bk : Int) (m : Nat) (w : Int) (i : Int) (q : List Int) (off : Nat) (n : Nat) (c : Nat) (et : TypeId) (l : List Int) (e : TypeId) : KSt := ⟨(frameL 45 [(0, (.pointer (some ⟨0, 0, none⟩))), (1, (.int .u64 bk)), (4, (.pointer (some ⟨2, 0, none⟩))), (5, (.slice (some ⟨3, 0, none⟩) (m + 1) (m + 1))), (6, (.int .i64 w)), (7, (.int .i64 (IntKind.wrap .i64 (i + 1))))]), ⟨4, 1, [(3, 0, .ints .u64 (List.take m q ++ [0]) 30 true), (2, 0, .cells [(.string ⟨#[]⟩), (.string ⟨#[]⟩)] 39 true), (0, 0, .cells [(.slice (some ⟨1, off, none⟩) n c), (.int .i64 i), (.bool true), (.int .i64 1), (.int .u64 bk), (.int .i64 i), (.int .u64 0), (.int .u64 0)] et true), (1, 0, .tail off .u64 l e)]⟩⟩
theorem GR14 (bk : Int) (m : Nat) (w : Int) (i : Int) (q : List Int) (off : Nat) (n : Nat) (c : Nat) (et : TypeId) (l : List Int) (e : TypeId) : GEV byteRV byteV headN isWb isWs kLen manyV sizeN textA textAt textR vLen withRV wordsA wordsR (codeAt [1, 1, 1, 0, 1, 0, 0, 1, 1] BG) (GS20 bk m w i q off n c et l e) [0, 1, 4, 5, 6, 7] =
  some (.normal, (GS25 bk m w i q off n c et l e)) := by kernel_rfl
noncomputable def GS26 (bk : Int) (m : Nat) (w : Int) (i : Int) (q : List Int) (off : Nat) (n : Nat) (c : Nat) (et : TypeId) (l : List Int) (e : TypeId) : KSt := ⟨(frameL 45 [(0, (.pointer (some ⟨0, 0, none⟩))), (1, (.int .u64 bk)), (4, (.pointer (some ⟨2, 0, none⟩))), (5, (.slice (some ⟨3, 0, none⟩) (m + 1) (m + 1))), (6, (.int .i64 w)), (7, (.int .i64 (i + 1)))]), ⟨4, 1, [(3, 0, .ints .u64 (List.take m q ++ [0]) 30 true), (2, 0, .cells [(.string ⟨#[]⟩), (.string ⟨#[]⟩)] 39 true), (0, 0, .cells [(.slice (some ⟨1, off, none⟩) n c), (.int .i64 i), (.bool true), (.int .i64 1), (.int .u64 bk), (.int .i64 i), (.int .u64 0), (.int .u64 0)] et true), (1, 0, .tail off .u64 l e)]⟩⟩
noncomputable def GS27 (bk : Int) (m : Nat) (w : Int) (i : Int) (q : List Int) (off : Nat) (n : Nat) (c : Nat) (et : TypeId) (l : List Int) (e : TypeId) : KSt := ⟨(frameL 45 [(0, (.pointer (some ⟨0, 0, none⟩))), (1, (.int .u64 bk)), (4, (.pointer (some ⟨2, 0, none⟩))), (5, (.slice (some ⟨3, 0, none⟩) m m)), (6, (.int .i64 w)), (7, (.int .i64 i))]), ⟨4, 1, [(3, 0, .ints .u64 q 30 true), (2, 0, .cells [(.string ⟨#[]⟩), (.string ⟨#[]⟩)] 39 true), (0, 0, .cells [(.slice (some ⟨1, off, none⟩) n c), (.int .i64 ((n : Nat) : Int)), (.bool true), (.int .i64 1), (.int .u64 bk), (.int .i64 ((n : Nat) : Int)), (.int .u64 0), (.int .u64 0)] et true), (1, 0, .tail off .u64 l e)]⟩⟩
noncomputable def GS28 (bk : Int) (m : Nat) (w : Int) (i : Int) (q : List Int) (off : Nat) (n : Nat) (c : Nat) (et : TypeId) (l : List Int) (e : TypeId) : KSt := ⟨(frameL 45 [(0, (.pointer (some ⟨0, 0, none⟩))), (1, (.int .u64 bk)), (4, (.pointer (some ⟨2, 0, none⟩))), (5, (.slice (some ⟨3, 0, none⟩) m m)), (6, (.int .i64 w)), (7, (.int .i64 i)), (27, (.bool false))]), ⟨4, 1, [(3, 0, .ints .u64 q 30 true), (2, 0, .cells [(.string ⟨#[]⟩), (.string ⟨#[]⟩)] 39 true), (0, 0, .cells [(.slice (some ⟨1, off, none⟩) n c), (.int .i64 ((n : Nat) : Int)), (.bool true), (.int .i64 1), (.int .u64 bk), (.int .i64 ((n : Nat) : Int)), (.int .u64 0), (.int .u64 0)] et true), (1, 0, .tail off .u64 l e)]⟩⟩
theorem GR15 (bk : Int) (m : Nat) (w : Int) (i : Int) (q : List Int) (off : Nat) (n : Nat) (c : Nat) (et : TypeId) (l : List Int) (e : TypeId) : GEV byteRV byteV headN isWb isWs kLen manyV sizeN textA textAt textR vLen withRV wordsA wordsR (codeAt [1, 1, 1, 0, 1, 0, 0, 0, 0] BG) (GS27 bk m w i q off n c et l e) [0, 1, 4, 5, 6, 7, 27] =
  bif (decide (i < w)) then
    some (.normal, (GS28 bk m w i q off n c et l e))
  else
    some (.normal, (GS28 bk m w i q off n c et l e)) := by kernel_rfl
noncomputable def GS29 (m : Nat) (q : List Int) (off : Nat) (n : Nat) (c : Nat) (i : Int) (tk : Int) (tb : Int) (tc : Int) (to : Int) (tn : Int) (et : TypeId) (l : List Int) (e : TypeId) : KSt := ⟨(frameL 45 [(4, (.pointer (some ⟨2, 0, none⟩))), (8, (.string (textAt (List.take m (List.drop 0 q)) 1 (kLen (List.getD (List.take m (List.drop 0 q)) 0 0))))), (9, (.string (textAt (List.take m (List.drop 0 q)) (1 + manyV (kLen (List.getD (List.take m (List.drop 0 q)) 0 0))) (vLen (List.getD (List.take m (List.drop 0 q)) 0 0)))))]), ⟨3, 1, [(2, 0, .cells [(.string ⟨#[]⟩), (.string ⟨#[]⟩)] 39 true), (0, 0, .cells [(.slice (some ⟨1, off, none⟩) n c), (.int .i64 i), (.bool false), (.int .i64 tk), (.int .u64 tb), (.int .i64 tc), (.int .u64 to), (.int .u64 tn)] et true), (1, 0, .tail off .u64 l e)]⟩⟩
theorem GR16 (bk : Int) (m : Nat) (w : Int) (i : Int) (q : List Int) (off : Nat) (n : Nat) (c : Nat) (tk : Int) (tb : Int) (tc : Int) (to : Int) (tn : Int) (et : TypeId) (l : List Int) (e : TypeId) : GEV byteRV byteV headN isWb isWs kLen manyV sizeN textA textAt textR vLen withRV wordsA wordsR (codeAt [1, 1, 1, 1, 0] BG) (GS14 bk m w i q off n c tk tb tc to tn et l e) [4, 8, 9] =
  bif (Nat.ble (0 + m) (List.length q)) then
    bif ((Nat.ble (List.length (List.take m (List.drop 0 q))) 1000) && (isWs (List.take m (List.drop 0 q)))) then
      some (.normal, (GS29 kLen manyV textAt vLen m q off n c i tk tb tc to tn et l e))
    else
      none
  else
    none := by kernel_rfl
noncomputable def GS30 (m : Nat) (q : List Int) (off : Nat) (n : Nat) (c : Nat) (i : Int) (tk : Int) (tb : Int) (tc : Int) (to : Int) (tn : Int) (et : TypeId) (l : List Int) (e : TypeId) : KSt := ⟨(frameL 45 [(4, (.pointer (some ⟨2, 0, none⟩)))]), ⟨3, 1, [(2, 0, .cells [(.string (textAt (List.take m (List.drop 0 q)) 1 (kLen (List.getD (List.take m (List.drop 0 q)) 0 0)))), (.string (textAt (List.take m (List.drop 0 q)) (1 + manyV (kLen (List.getD (List.take m (List.drop 0 q)) 0 0))) (vLen (List.getD (List.take m (List.drop 0 q)) 0 0))))] 39 true), (0, 0, .cells [(.slice (some ⟨1, off, none⟩) n c), (.int .i64 i), (.bool false), (.int .i64 tk), (.int .u64 tb), (.int .i64 tc), (.int .u64 to), (.int .u64 tn)] et true), (1, 0, .tail off .u64 l e)]⟩⟩
theorem GR17 (m : Nat) (q : List Int) (off : Nat) (n : Nat) (c : Nat) (i : Int) (tk : Int) (tb : Int) (tc : Int) (to : Int) (tn : Int) (et : TypeId) (l : List Int) (e : TypeId) : GEV byteRV byteV headN isWb isWs kLen manyV sizeN textA textAt textR vLen withRV wordsA wordsR (codeAt [1, 1, 1, 1, 1, 0] BG) (GS29 kLen manyV textAt vLen m q off n c i tk tb tc to tn et l e) [4] =
  some (.normal, (GS30 kLen manyV textAt vLen m q off n c i tk tb tc to tn et l e)) := by kernel_rfl
noncomputable def GS31 (m : Nat) (q : List Int) (off : Nat) (n : Nat) (c : Nat) (bk : Int) (et : TypeId) (l : List Int) (e : TypeId) : KSt := ⟨(frameL 45 [(4, (.pointer (some ⟨2, 0, none⟩))), (8, (.string (textAt (List.take m (List.drop 0 q)) 1 (kLen (List.getD (List.take m (List.drop 0 q)) 0 0))))), (9, (.string (textAt (List.take m (List.drop 0 q)) (1 + manyV (kLen (List.getD (List.take m (List.drop 0 q)) 0 0))) (vLen (List.getD (List.take m (List.drop 0 q)) 0 0)))))]), ⟨3, 1, [(2, 0, .cells [(.string ⟨#[]⟩), (.string ⟨#[]⟩)] 39 true), (0, 0, .cells [(.slice (some ⟨1, off, none⟩) n c), (.int .i64 ((n : Nat) : Int)), (.bool true), (.int .i64 1), (.int .u64 bk), (.int .i64 ((n : Nat) : Int)), (.int .u64 0), (.int .u64 0)] et true), (1, 0, .tail off .u64 l e)]⟩⟩
theorem GR18 (bk : Int) (m : Nat) (w : Int) (i : Int) (q : List Int) (off : Nat) (n : Nat) (c : Nat) (et : TypeId) (l : List Int) (e : TypeId) : GEV byteRV byteV headN isWb isWs kLen manyV sizeN textA textAt textR vLen withRV wordsA wordsR (codeAt [1, 1, 1, 1, 0] BG) (GS28 bk m w i q off n c et l e) [4, 8, 9] =
  bif (Nat.ble (0 + m) (List.length q)) then
    bif ((Nat.ble (List.length (List.take m (List.drop 0 q))) 1000) && (isWs (List.take m (List.drop 0 q)))) then
      some (.normal, (GS31 kLen manyV textAt vLen m q off n c bk et l e))
    else
      none
  else
    none := by kernel_rfl
noncomputable def GS32 (m : Nat) (q : List Int) (off : Nat) (n : Nat) (c : Nat) (bk : Int) (et : TypeId) (l : List Int) (e : TypeId) : KSt := ⟨(frameL 45 [(4, (.pointer (some ⟨2, 0, none⟩)))]), ⟨3, 1, [(2, 0, .cells [(.string (textAt (List.take m (List.drop 0 q)) 1 (kLen (List.getD (List.take m (List.drop 0 q)) 0 0)))), (.string (textAt (List.take m (List.drop 0 q)) (1 + manyV (kLen (List.getD (List.take m (List.drop 0 q)) 0 0))) (vLen (List.getD (List.take m (List.drop 0 q)) 0 0))))] 39 true), (0, 0, .cells [(.slice (some ⟨1, off, none⟩) n c), (.int .i64 ((n : Nat) : Int)), (.bool true), (.int .i64 1), (.int .u64 bk), (.int .i64 ((n : Nat) : Int)), (.int .u64 0), (.int .u64 0)] et true), (1, 0, .tail off .u64 l e)]⟩⟩
theorem GR19 (m : Nat) (q : List Int) (off : Nat) (n : Nat) (c : Nat) (bk : Int) (et : TypeId) (l : List Int) (e : TypeId) : GEV byteRV byteV headN isWb isWs kLen manyV sizeN textA textAt textR vLen withRV wordsA wordsR (codeAt [1, 1, 1, 1, 1, 0] BG) (GS31 kLen manyV textAt vLen m q off n c bk et l e) [4] =
  some (.normal, (GS32 kLen manyV textAt vLen m q off n c bk et l e)) := by kernel_rfl
end
theorem Gz {n : Nat} {off : Nat} {c : Nat} {bk : Int} {et : TypeId} {l : List Int} {e : TypeId} {tk : Int} {tb : Int} {tc : Int} {to : Int} {tn : Int} (hn : n = 0)   {Q : Ex → St → Prop} (hq : Q .ret (KSt.low (GS8 kLen manyV textAt vLen off n c bk et l e))) : Gets Try.prog (KH.low ⟨2, 1, [(0, 0, .cells [(.slice (some ⟨1, off, none⟩) n c), (.int .i64 0), (.bool false), (.int .i64 tk), (.int .u64 tb), (.int .i64 tc), (.int .u64 to), (.int .u64 tn)] et true), (1, 0, .tail off .u64 l e)]⟩) BG (KSt.low (GS0 bk off n c tk tb tc to tn et l e)) Q := by
  rw [GC]; refine Gets.seq ?_
  refine Ggo (GR1 byteRV byteV headN isWb isWs kLen manyV sizeN textA textAt textR vLen withRV wordsA wordsR bk off n c tk tb tc to tn et l e) ?_
  rw [GC1]; refine Gets.seq ?_
  refine Ggo (x := .normal) (s' := (GS3 bk off n c et l e)) ((GR2 byteRV byteV headN isWb isWs kLen manyV sizeN textA textAt textR vLen withRV wordsA wordsR bk off n c tk tb tc to tn et l e).trans (by rw [condF (decide_eq_false (by (first | (rw [size0]; omega) | omega)))])) ?_
  rw [GC1_1]; refine Gets.seq ?_
  refine Ggo (x := .normal) (s' := (GS4 sizeN bk off n c et l e)) ((GR3 byteRV byteV headN isWb isWs kLen manyV sizeN textA textAt textR vLen withRV wordsA wordsR bk off n c et l e).trans (by rw [condT (show isWb 0 = true from rfl)])) ?_
  rw [GC1_1_1]; refine Gets.seq ?_
  rw [GC1_1_1_0]; refine Gets.seq ?_
  refine Ggo (GR4 byteRV byteV headN isWb isWs kLen manyV sizeN textA textAt textR vLen withRV wordsA wordsR bk off n c et l e) ?_
  refine Ggo (x := .normal) (s' := (GS6 off n c bk et l e)) ((GR5 byteRV byteV headN isWb isWs kLen manyV sizeN textA textAt textR vLen withRV wordsA wordsR bk off n c et l e).trans (by rw [condF (decide_eq_false (by (first | (rw [size0]; omega) | omega)))])) ?_
  rw [GC1_1_1_1]; refine Gets.seq ?_
  refine Ggo (x := .normal) (s' := (GS7 kLen manyV textAt vLen off n c bk et l e)) ((GR6 byteRV byteV headN isWb isWs kLen manyV sizeN textA textAt textR vLen withRV wordsA wordsR off n c bk et l e).trans (by rw [condT (and_t (Nat.ble_eq_true_of_le (by simp)) (show isWs [0] = true from rfl))])) ?_
  rw [GC1_1_1_1_1]; refine Gets.seq ?_
  refine Ggo (GR7 byteRV byteV headN isWb isWs kLen manyV sizeN textA textAt textR vLen withRV wordsA wordsR off n c bk et l e) ?_
  rw [GC1_1_1_1_1_1]; refine Gets.ev fitR.mix fitR.cfg (fitR.sound rdn_sound 14 0) 14 rfl (s' := KSt.low (GS8 kLen manyV textAt vLen off n c bk et l e)) (x := .ret) rfl ?_
  exact hq
theorem Gpre {n : Nat} {l : List Int} {off : Nat} {c : Nat} {tk : Int} {tb : Int} {tc : Int} {to : Int} {tn : Int} {et : TypeId} {e : TypeId} {bk : Int} (hn : 1 ≤ n) (hl : l.length = n) (hw : isWb (l.getD 0 0) = true)   {Q : Ex → St → Prop} (hq : Gets Try.prog (KH.low ⟨2, 1, [(0, 0, .cells [(.slice (some ⟨1, off, none⟩) n c), (.int .i64 0), (.bool false), (.int .i64 tk), (.int .u64 tb), (.int .i64 tc), (.int .u64 to), (.int .u64 tn)] et true), (1, 0, .tail off .u64 l e)]⟩) (codeAt [1, 1, 1, 0, 1] BG) (KSt.low (GS11 sizeN bk l off n c tk tb tc to tn et e)) (onN (fun s => Gets Try.prog (KH.low ⟨2, 1, [(0, 0, .cells [(.slice (some ⟨1, off, none⟩) n c), (.int .i64 0), (.bool false), (.int .i64 tk), (.int .u64 tb), (.int .i64 tc), (.int .u64 to), (.int .u64 tn)] et true), (1, 0, .tail off .u64 l e)]⟩) (codeAt [1, 1, 1, 1] BG) s (Q)) (Q))) : Gets Try.prog (KH.low ⟨2, 1, [(0, 0, .cells [(.slice (some ⟨1, off, none⟩) n c), (.int .i64 0), (.bool false), (.int .i64 tk), (.int .u64 tb), (.int .i64 tc), (.int .u64 to), (.int .u64 tn)] et true), (1, 0, .tail off .u64 l e)]⟩) BG (KSt.low (GS0 bk off n c tk tb tc to tn et l e)) Q := by
  rw [GC]; refine Gets.seq ?_
  refine Ggo (GR1 byteRV byteV headN isWb isWs kLen manyV sizeN textA textAt textR vLen withRV wordsA wordsR bk off n c tk tb tc to tn et l e) ?_
  rw [GC1]; refine Gets.seq ?_
  refine Ggo (x := .normal) (s' := (GS9 bk l off n c tk tb tc to tn et e)) ((GR2 byteRV byteV headN isWb isWs kLen manyV sizeN textA textAt textR vLen withRV wordsA wordsR bk off n c tk tb tc to tn et l e).trans (by rw [condT (decide_eq_true (by omega)), if_pos (⟨by omega, by omega⟩), condT (ble_t (by omega)), obind_at (k := 0) (by omega) (by omega)] <;> rfl)) ?_
  rw [GC1_1]; refine Gets.seq ?_
  refine Ggo (x := .normal) (s' := (GS10 sizeN bk l off n c tk tb tc to tn et e)) ((GR8 byteRV byteV headN isWb isWs kLen manyV sizeN textA textAt textR vLen withRV wordsA wordsR bk l off n c tk tb tc to tn et e).trans (by rw [condT (hw)])) ?_
  rw [GC1_1_1]; refine Gets.seq ?_
  rw [GC1_1_1_0]; refine Gets.seq ?_
  refine Ggo (GR9 byteRV byteV headN isWb isWs kLen manyV sizeN textA textAt textR vLen withRV wordsA wordsR bk l off n c tk tb tc to tn et e) ?_
  exact hq
theorem GexA {w : Int} {i : Int} {bk : Int} {m : Nat} {q : List Int} {off : Nat} {n : Nat} {c : Nat} {tk : Int} {tb : Int} {tc : Int} {to : Int} {tn : Int} {et : TypeId} {l : List Int} {e : TypeId} (hx : w ≤ i)   {Q : Ex → St → Prop} (hq : Q (.exit 0) (KSt.low (GS14 bk m w i q off n c tk tb tc to tn et l e))) : Gets Try.prog (KH.low ⟨2, 1, [(0, 0, .cells [(.slice (some ⟨1, off, none⟩) n c), (.int .i64 0), (.bool false), (.int .i64 tk), (.int .u64 tb), (.int .i64 tc), (.int .u64 to), (.int .u64 tn)] et true), (1, 0, .tail off .u64 l e)]⟩) (codeAt [1, 1, 1, 0, 1, 0, 0] BG) (KSt.low (GS12 bk m w i q off n c tk tb tc to tn et l e)) Q := by
  rw [GC1_1_1_0_1_0_0]; refine Gets.seq ?_
  rw [GC1_1_1_0_1_0_0_0]; refine Gets.seq ?_
  refine Ggo (x := .normal) (s' := (GS14 bk m w i q off n c tk tb tc to tn et l e)) ((GR10 byteRV byteV headN isWb isWs kLen manyV sizeN textA textAt textR vLen withRV wordsA wordsR bk m w i q off n c tk tb tc to tn et l e).trans (by rw [condF (decide_eq_false (by omega))])) ?_
  rw [GC1_1_1_0_1_0_0_0_1]; refine Gets.cond false (by kernel_rfl) (by kernel_rfl) ?_; show Gets _ _ (codeAt [1, 1, 1, 0, 1, 0, 0, 0, 1, 1] BG) _ _
  rw [GC1_1_1_0_1_0_0_0_1_1]; refine Gets.ev fitR.mix fitR.cfg (fitR.sound rdn_sound 14 0) 14 rfl (s' := KSt.low (GS14 bk m w i q off n c tk tb tc to tn et l e)) (x := (.exit 0)) rfl ?_
  exact hq
theorem Gld {i : Int} {m : Nat} {q : List Int} {l : List Int} {n : Nat} {w : Int} {bk : Int} {off : Nat} {c : Nat} {tk : Int} {tb : Int} {tc : Int} {to : Int} {tn : Int} {et : TypeId} {e : TypeId} (hi : 1 ≤ i) (hm : (m : Int) = i) (hq : q.length = m) (hl : l.length = n) (hn : n ≤ 999) (hin : i ≤ (n : Int)) (hx : i < w) (hin2 : i < (n : Int))   {Q : Ex → St → Prop} (hq : Q .normal (KSt.low (GS24 bk m w i q l off n c tk tb tc to tn et e))) : Gets Try.prog (KH.low ⟨2, 1, [(0, 0, .cells [(.slice (some ⟨1, off, none⟩) n c), (.int .i64 0), (.bool false), (.int .i64 tk), (.int .u64 tb), (.int .i64 tc), (.int .u64 to), (.int .u64 tn)] et true), (1, 0, .tail off .u64 l e)]⟩) (codeAt [1, 1, 1, 0, 1, 0, 0] BG) (KSt.low (GS12 bk m w i q off n c tk tb tc to tn et l e)) Q := by
  rw [GC1_1_1_0_1_0_0]; refine Gets.seq ?_
  rw [GC1_1_1_0_1_0_0_0]; refine Gets.seq ?_
  refine Ggo (x := .normal) (s' := (GS13 bk m w i q off n c tk tb tc to tn et l e)) ((GR10 byteRV byteV headN isWb isWs kLen manyV sizeN textA textAt textR vLen withRV wordsA wordsR bk m w i q off n c tk tb tc to tn et l e).trans (by rw [condT (decide_eq_true (by omega))])) ?_
  rw [GC1_1_1_0_1_0_0_0_1]; refine Gets.cond true (by kernel_rfl) (by kernel_rfl) ?_; show Gets _ _ (codeAt [1, 1, 1, 0, 1, 0, 0, 0, 1, 0] BG) _ _
  refine Ggo (GR11 byteRV byteV headN isWb isWs kLen manyV sizeN textA textAt textR vLen withRV wordsA wordsR bk m w i q off n c tk tb tc to tn et l e) ?_
  rw [GC1_1_1_0_1_0_0_1]; refine Gets.seq ?_
  rw [GC1_1_1_0_1_0_0_1_0]; refine Gets.block ?_
  refine Ggo (x := .normal) (s' := (GS21 bk m w i q l off n c tk tb tc to tn et e)) ((GR12 byteRV byteV headN isWb isWs kLen manyV sizeN textA textAt textR vLen withRV wordsA wordsR bk m w i q off n c tk tb tc to tn et l e).trans (by rw [condT (decide_eq_true (by omega)), if_pos (⟨by (first | omega | ((try simp (disch := omega) only [wrap_i64_id]) <;> omega)), by (first | omega | ((try simp (disch := omega) only [wrap_i64_id]) <;> omega))⟩), condT (ble_t (by (first | omega | ((try simp (disch := omega) only [wrap_i64_id]) <;> omega)))), obind_at (k := ((Int.toNat (IntKind.wrap .i64 ((IntKind.wrap .i64 (i + 1)) - 1))) * 1)) (by (first | omega | ((try simp (disch := omega) only [wrap_i64_id]) <;> omega))) (by (first | omega | ((try simp (disch := omega) only [wrap_i64_id]) <;> omega))), condT (ble_t (by omega)), condF (ble_f (by omega)), condF (and_f1 (nbeq_f (by omega))), condT (and_t (ble_t (by (first | omega | ((try simp (disch := omega) only [wrap_i64_id]) <;> omega)))) (ble_t (by omega)))] <;> (show some (Ex.normal, (GS22 bk m w i q l off n c tk tb tc to tn et e)) = some (Ex.normal, (GS21 bk m w i q l off n c tk tb tc to tn et e)); unfold GS22 GS21; rw [(show (IntKind.wrap .i64 (i + 1)) = (i + 1) from wrap_i64_id (by omega) (by omega)), (show (IntKind.wrap .i64 ((i + 1) - 1)) = i from by rw [wrap_i64_id (by omega) (by omega)]; omega)]))) ?_
  refine Ggo (x := .normal) (s' := (GS24 bk m w i q l off n c tk tb tc to tn et e)) ((GR13 byteRV byteV headN isWb isWs kLen manyV sizeN textA textAt textR vLen withRV wordsA wordsR bk m w i q l off n c tk tb tc to tn et e).trans (by (show some (Ex.normal, (GS23 bk m w i q l off n c tk tb tc to tn et e)) = some (Ex.normal, (GS24 bk m w i q l off n c tk tb tc to tn et e)); unfold GS23 GS24; rw [(show (IntKind.wrap .i64 (i + 1)) = (i + 1) from wrap_i64_id (by omega) (by omega))]))) ?_
  exact hq
theorem Gov {i : Int} {m : Nat} {q : List Int} {l : List Int} {n : Nat} {w : Int} {bk : Int} {off : Nat} {c : Nat} {et : TypeId} {e : TypeId} {tk : Int} {tb : Int} {tc : Int} {to : Int} {tn : Int} (hi : 1 ≤ i) (hm : (m : Int) = i) (hq : q.length = m) (hl : l.length = n) (hn : n ≤ 999) (hin : i ≤ (n : Int)) (hx : i < w) (hin2 : i = (n : Int))   {Q : Ex → St → Prop} (hq : Q .normal (KSt.low (GS26 bk m w i q off n c et l e))) : Gets Try.prog (KH.low ⟨2, 1, [(0, 0, .cells [(.slice (some ⟨1, off, none⟩) n c), (.int .i64 0), (.bool false), (.int .i64 tk), (.int .u64 tb), (.int .i64 tc), (.int .u64 to), (.int .u64 tn)] et true), (1, 0, .tail off .u64 l e)]⟩) (codeAt [1, 1, 1, 0, 1, 0, 0] BG) (KSt.low (GS12 bk m w i q off n c tk tb tc to tn et l e)) Q := by
  rw [GC1_1_1_0_1_0_0]; refine Gets.seq ?_
  rw [GC1_1_1_0_1_0_0_0]; refine Gets.seq ?_
  refine Ggo (x := .normal) (s' := (GS13 bk m w i q off n c tk tb tc to tn et l e)) ((GR10 byteRV byteV headN isWb isWs kLen manyV sizeN textA textAt textR vLen withRV wordsA wordsR bk m w i q off n c tk tb tc to tn et l e).trans (by rw [condT (decide_eq_true (by omega))])) ?_
  rw [GC1_1_1_0_1_0_0_0_1]; refine Gets.cond true (by kernel_rfl) (by kernel_rfl) ?_; show Gets _ _ (codeAt [1, 1, 1, 0, 1, 0, 0, 0, 1, 0] BG) _ _
  refine Ggo (GR11 byteRV byteV headN isWb isWs kLen manyV sizeN textA textAt textR vLen withRV wordsA wordsR bk m w i q off n c tk tb tc to tn et l e) ?_
  rw [GC1_1_1_0_1_0_0_1]; refine Gets.seq ?_
  rw [GC1_1_1_0_1_0_0_1_0]; refine Gets.block ?_
  refine Ggo (x := .normal) (s' := (GS20 bk m w i q off n c et l e)) ((GR12 byteRV byteV headN isWb isWs kLen manyV sizeN textA textAt textR vLen withRV wordsA wordsR bk m w i q off n c tk tb tc to tn et l e).trans (by rw [condF (decide_eq_false (by omega)), condT (ble_t (by omega)), condF (ble_f (by omega)), condF (and_f1 (nbeq_f (by omega))), condT (and_t (ble_t (by (first | omega | ((try simp (disch := omega) only [wrap_i64_id]) <;> omega)))) (ble_t (by omega)))])) ?_
  refine Ggo (x := .normal) (s' := (GS26 bk m w i q off n c et l e)) ((GR14 byteRV byteV headN isWb isWs kLen manyV sizeN textA textAt textR vLen withRV wordsA wordsR bk m w i q off n c et l e).trans (by (show some (Ex.normal, (GS25 bk m w i q off n c et l e)) = some (Ex.normal, (GS26 bk m w i q off n c et l e)); unfold GS25 GS26; rw [(show (IntKind.wrap .i64 (i + 1)) = (i + 1) from wrap_i64_id (by omega) (by omega))]))) ?_
  exact hq
theorem Gb1 {w : Int} {i : Int} {bk : Int} {m : Nat} {q : List Int} {off : Nat} {n : Nat} {c : Nat} {et : TypeId} {l : List Int} {e : TypeId} {tk : Int} {tb : Int} {tc : Int} {to : Int} {tn : Int} (hx : w ≤ i)   {Q : Ex → St → Prop} (hq : Q (.exit 0) (KSt.low (GS28 bk m w i q off n c et l e))) : Gets Try.prog (KH.low ⟨2, 1, [(0, 0, .cells [(.slice (some ⟨1, off, none⟩) n c), (.int .i64 0), (.bool false), (.int .i64 tk), (.int .u64 tb), (.int .i64 tc), (.int .u64 to), (.int .u64 tn)] et true), (1, 0, .tail off .u64 l e)]⟩) (codeAt [1, 1, 1, 0, 1, 0, 0] BG) (KSt.low (GS27 bk m w i q off n c et l e)) Q := by
  rw [GC1_1_1_0_1_0_0]; refine Gets.seq ?_
  rw [GC1_1_1_0_1_0_0_0]; refine Gets.seq ?_
  refine Ggo (x := .normal) (s' := (GS28 bk m w i q off n c et l e)) ((GR15 byteRV byteV headN isWb isWs kLen manyV sizeN textA textAt textR vLen withRV wordsA wordsR bk m w i q off n c et l e).trans (by rw [condF (decide_eq_false (by omega))])) ?_
  rw [GC1_1_1_0_1_0_0_0_1]; refine Gets.cond false (by kernel_rfl) (by kernel_rfl) ?_; show Gets _ _ (codeAt [1, 1, 1, 0, 1, 0, 0, 0, 1, 1] BG) _ _
  rw [GC1_1_1_0_1_0_0_0_1_1]; refine Gets.ev fitR.mix fitR.cfg (fitR.sound rdn_sound 14 0) 14 rfl (s' := KSt.low (GS28 bk m w i q off n c et l e)) (x := (.exit 0)) rfl ?_
  exact hq
theorem Gb2 {i : Int} {w : Int} {bk : Int} {m : Nat} {q : List Int} {off : Nat} {n : Nat} {c : Nat} {et : TypeId} {l : List Int} {e : TypeId} {tk : Int} {tb : Int} {tc : Int} {to : Int} {tn : Int} (hx : i < w)   {Q : Ex → St → Prop} (hq : Q (.exit 0) (KSt.low (GS28 bk m w i q off n c et l e))) : Gets Try.prog (KH.low ⟨2, 1, [(0, 0, .cells [(.slice (some ⟨1, off, none⟩) n c), (.int .i64 0), (.bool false), (.int .i64 tk), (.int .u64 tb), (.int .i64 tc), (.int .u64 to), (.int .u64 tn)] et true), (1, 0, .tail off .u64 l e)]⟩) (codeAt [1, 1, 1, 0, 1, 0, 0] BG) (KSt.low (GS27 bk m w i q off n c et l e)) Q := by
  rw [GC1_1_1_0_1_0_0]; refine Gets.seq ?_
  rw [GC1_1_1_0_1_0_0_0]; refine Gets.seq ?_
  refine Ggo (x := .normal) (s' := (GS28 bk m w i q off n c et l e)) ((GR15 byteRV byteV headN isWb isWs kLen manyV sizeN textA textAt textR vLen withRV wordsA wordsR bk m w i q off n c et l e).trans (by rw [condT (decide_eq_true (by omega))])) ?_
  rw [GC1_1_1_0_1_0_0_0_1]; refine Gets.cond false (by kernel_rfl) (by kernel_rfl) ?_; show Gets _ _ (codeAt [1, 1, 1, 0, 1, 0, 0, 0, 1, 1] BG) _ _
  rw [GC1_1_1_0_1_0_0_0_1_1]; refine Gets.ev fitR.mix fitR.cfg (fitR.sound rdn_sound 14 0) 14 rfl (s' := KSt.low (GS28 bk m w i q off n c et l e)) (x := (.exit 0)) rfl ?_
  exact hq
theorem GfA {q : List Int} {m : Nat} {off : Nat} {n : Nat} {c : Nat} {i : Int} {tk : Int} {tb : Int} {tc : Int} {to : Int} {tn : Int} {et : TypeId} {l : List Int} {e : TypeId} {bk : Int} {w : Int} (hq : q.length = m) (hm : m ≤ 1000) (hws : isWs (List.take m (List.drop 0 q)) = true)   {Q : Ex → St → Prop} (hq : Q .ret (KSt.low (GS30 kLen manyV textAt vLen m q off n c i tk tb tc to tn et l e))) : Gets Try.prog (KH.low ⟨2, 1, [(0, 0, .cells [(.slice (some ⟨1, off, none⟩) n c), (.int .i64 0), (.bool false), (.int .i64 tk), (.int .u64 tb), (.int .i64 tc), (.int .u64 to), (.int .u64 tn)] et true), (1, 0, .tail off .u64 l e)]⟩) (codeAt [1, 1, 1, 1] BG) (KSt.low (GS14 bk m w i q off n c tk tb tc to tn et l e)) Q := by
  rw [GC1_1_1_1]; refine Gets.seq ?_
  refine Ggo (x := .normal) (s' := (GS29 kLen manyV textAt vLen m q off n c i tk tb tc to tn et l e)) ((GR16 byteRV byteV headN isWb isWs kLen manyV sizeN textA textAt textR vLen withRV wordsA wordsR bk m w i q off n c tk tb tc to tn et l e).trans (by rw [condT (ble_t (by (first | omega | ((try simp (disch := omega) only [wrap_i64_id]) <;> omega)))), condT (and_t (Nat.ble_eq_true_of_le (by simp; omega)) (hws))])) ?_
  rw [GC1_1_1_1_1]; refine Gets.seq ?_
  refine Ggo (GR17 byteRV byteV headN isWb isWs kLen manyV sizeN textA textAt textR vLen withRV wordsA wordsR m q off n c i tk tb tc to tn et l e) ?_
  rw [GC1_1_1_1_1_1]; refine Gets.ev fitR.mix fitR.cfg (fitR.sound rdn_sound 14 0) 14 rfl (s' := KSt.low (GS30 kLen manyV textAt vLen m q off n c i tk tb tc to tn et l e)) (x := .ret) rfl ?_
  exact hq
theorem GfB {q : List Int} {m : Nat} {off : Nat} {n : Nat} {c : Nat} {bk : Int} {et : TypeId} {l : List Int} {e : TypeId} {tk : Int} {tb : Int} {tc : Int} {to : Int} {tn : Int} {w : Int} {i : Int} (hq : q.length = m) (hm : m ≤ 1000) (hws : isWs (List.take m (List.drop 0 q)) = true)   {Q : Ex → St → Prop} (hq : Q .ret (KSt.low (GS32 kLen manyV textAt vLen m q off n c bk et l e))) : Gets Try.prog (KH.low ⟨2, 1, [(0, 0, .cells [(.slice (some ⟨1, off, none⟩) n c), (.int .i64 0), (.bool false), (.int .i64 tk), (.int .u64 tb), (.int .i64 tc), (.int .u64 to), (.int .u64 tn)] et true), (1, 0, .tail off .u64 l e)]⟩) (codeAt [1, 1, 1, 1] BG) (KSt.low (GS28 bk m w i q off n c et l e)) Q := by
  rw [GC1_1_1_1]; refine Gets.seq ?_
  refine Ggo (x := .normal) (s' := (GS31 kLen manyV textAt vLen m q off n c bk et l e)) ((GR18 byteRV byteV headN isWb isWs kLen manyV sizeN textA textAt textR vLen withRV wordsA wordsR bk m w i q off n c et l e).trans (by rw [condT (ble_t (by (first | omega | ((try simp (disch := omega) only [wrap_i64_id]) <;> omega)))), condT (and_t (Nat.ble_eq_true_of_le (by simp; omega)) (hws))])) ?_
  rw [GC1_1_1_1_1]; refine Gets.seq ?_
  refine Ggo (GR19 byteRV byteV headN isWb isWs kLen manyV sizeN textA textAt textR vLen withRV wordsA wordsR m q off n c bk et l e) ?_
  rw [GC1_1_1_1_1_1]; refine Gets.ev fitR.mix fitR.cfg (fitR.sound rdn_sound 14 0) 14 rfl (s' := KSt.low (GS32 kLen manyV textAt vLen m q off n c bk et l e)) (x := .ret) rfl ?_
  exact hq
noncomputable def BH : Code := bodyOf Try.prog 21
theorem BH_is : Try.f21.body = some BH := by kernel_rfl
theorem BH_ok : okCode Try.prog.globals.size BH = true := by kernel_rfl
noncomputable abbrev HEV (byteRV : Int → Int → Int) (byteV : Int → Int → Int) (headN : ByteArray → ByteArray → Int) (isWb : Int → Bool) (isWs : List Int → Bool) (kLen : Int → Int) (manyV : Int → Int) (sizeN : Int → Int) (textA : List Int → Int → ByteArray × Bool) (textAt : List Int → Int → Int → ByteArray) (textR : List Int → Int → ByteArray × Bool) (vLen : Int → Int) (withRV : Int → Int → Int → Int) (wordsA : ByteArray → List Int) (wordsR : ByteArray → List Int) (c : Code) (s : KSt) (lv : List Nat) : Option (Ex × KSt) := evCK Try.prog cfgR (runK Try.prog cfgR fsR (conTk rdnDom (rcK [] (rdnT byteRV byteV headN isWb isWs kLen manyV sizeN textA textAt textR vLen withRV wordsA wordsR))) 14 40) 14 c s (normC 1 lv)
theorem Hgo {lv_ : List Nat} {co_ : Code} {st_ s' : KSt} {x : Ex} {Q : Ex → St → Prop} {tk : Int} {tb : Int} {tc : Int} {to : Int} {tn : Int} {et : TypeId} (hE_ : HEV byteRV byteV headN isWb isWs kLen manyV sizeN textA textAt textR vLen withRV wordsA wordsR co_ st_ lv_ = some (x, s')) (hq_ : Q x s'.low) (hok_ : okCode Try.prog.globals.size co_ = true := by kernel_rfl) : Gets Try.prog (KH.low ⟨1, 1, [(0, 0, .cells [(.slice (some ⟨0, 0, some 0⟩) 0 0), (.int .i64 0), (.bool false), (.int .i64 tk), (.int .u64 tb), (.int .i64 tc), (.int .u64 to), (.int .u64 tn)] et true)]⟩) co_ st_.low Q := Gets.ofN fitR rdn_sound (rc_agree _ _ _) 14 40 hok_ hE_ hq_
theorem HeX {v : Value} {b c : Bool} (h : v = .bool b) (hb : b = c) : v = .bool c := by rw [h, hb]
theorem HC : BH = .seq (codeAt [0] BH) (codeAt [1] BH) := by kernel_rfl
theorem HC1 : (codeAt [1] BH) = .seq (codeAt [1, 0] BH) (codeAt [1, 1] BH) := by kernel_rfl
theorem HC1_1 : (codeAt [1, 1] BH) = .seq (codeAt [1, 1, 0] BH) (codeAt [1, 1, 1] BH) := by kernel_rfl
theorem HC1_1_1 : (codeAt [1, 1, 1] BH) = .seq (codeAt [1, 1, 1, 0] BH) (codeAt [1, 1, 1, 1] BH) := by kernel_rfl
theorem HC1_1_1_0 : (codeAt [1, 1, 1, 0] BH) = .seq (codeAt [1, 1, 1, 0, 0] BH) (codeAt [1, 1, 1, 0, 1] BH) := by kernel_rfl
theorem HC1_1_1_1 : (codeAt [1, 1, 1, 1] BH) = .seq (codeAt [1, 1, 1, 1, 0] BH) (codeAt [1, 1, 1, 1, 1] BH) := by kernel_rfl
theorem HC1_1_1_1_1 : (codeAt [1, 1, 1, 1, 1] BH) = .seq (codeAt [1, 1, 1, 1, 1, 0] BH) (codeAt [1, 1, 1, 1, 1, 1] BH) := by kernel_rfl
theorem HC1_1_1_1_1_1 : (codeAt [1, 1, 1, 1, 1, 1] BH) = .ret := by kernel_rfl
section
variable (byteRV : Int → Int → Int) (byteV : Int → Int → Int) (headN : ByteArray → ByteArray → Int) (isWb : Int → Bool) (isWs : List Int → Bool) (kLen : Int → Int) (manyV : Int → Int) (sizeN : Int → Int) (textA : List Int → Int → ByteArray × Bool) (textAt : List Int → Int → Int → ByteArray) (textR : List Int → Int → ByteArray × Bool) (vLen : Int → Int) (withRV : Int → Int → Int → Int) (wordsA : ByteArray → List Int) (wordsR : ByteArray → List Int)
noncomputable def HS0 (bk : Int) (tk : Int) (tb : Int) (tc : Int) (to : Int) (tn : Int) (et : TypeId) : KSt := (firstK [(.pointer (some ⟨0, 0, none⟩)), (.int .u64 bk)] 45 ⟨1, 1, [(0, 0, .cells [(.slice (some ⟨0, 0, some 0⟩) 0 0), (.int .i64 0), (.bool false), (.int .i64 tk), (.int .u64 tb), (.int .i64 tc), (.int .u64 to), (.int .u64 tn)] et true)]⟩)
noncomputable def HS1 (bk : Int) (tk : Int) (tb : Int) (tc : Int) (to : Int) (tn : Int) (et : TypeId) : KSt := ⟨(frameL 45 [(0, (.pointer (some ⟨0, 0, none⟩))), (1, (.int .u64 bk)), (4, (.pointer (some ⟨1, 0, none⟩)))]), ⟨2, 1, [(1, 0, .cells [(.string ⟨#[]⟩), (.string ⟨#[]⟩)] 39 true), (0, 0, .cells [(.slice (some ⟨0, 0, some 0⟩) 0 0), (.int .i64 0), (.bool false), (.int .i64 tk), (.int .u64 tb), (.int .i64 tc), (.int .u64 to), (.int .u64 tn)] et true)]⟩⟩
theorem HR1 (bk : Int) (tk : Int) (tb : Int) (tc : Int) (to : Int) (tn : Int) (et : TypeId) : HEV byteRV byteV headN isWb isWs kLen manyV sizeN textA textAt textR vLen withRV wordsA wordsR (codeAt [0] BH) (HS0 bk tk tb tc to tn et) [0, 1, 4] =
  some (.normal, (HS1 bk tk tb tc to tn et)) := by kernel_rfl
noncomputable def HS2 (bk : Int) (et : TypeId) : KSt := ⟨(frameL 45 [(0, (.pointer (some ⟨0, 0, none⟩))), (1, (.int .u64 bk)), (4, (.pointer (some ⟨1, 0, none⟩))), (5, (.slice (some ⟨2, 0, none⟩) 1 1))]), ⟨3, 1, [(2, 0, .cells [(.int .u64 0)] 30 true), (1, 0, .cells [(.string ⟨#[]⟩), (.string ⟨#[]⟩)] 39 true), (0, 0, .cells [(.slice (some ⟨0, 0, some 0⟩) 0 0), (.int .i64 0), (.bool true), (.int .i64 1), (.int .u64 bk), (.int .i64 0), (.int .u64 0), (.int .u64 0)] et true)]⟩⟩
theorem HR2 (bk : Int) (tk : Int) (tb : Int) (tc : Int) (to : Int) (tn : Int) (et : TypeId) : HEV byteRV byteV headN isWb isWs kLen manyV sizeN textA textAt textR vLen withRV wordsA wordsR (codeAt [1, 0] BH) (HS1 bk tk tb tc to tn et) [0, 1, 4, 5] =
  some (.normal, (HS2 bk et)) := by kernel_rfl
noncomputable def HS3 (bk : Int) (et : TypeId) : KSt := ⟨(frameL 45 [(0, (.pointer (some ⟨0, 0, none⟩))), (1, (.int .u64 bk)), (4, (.pointer (some ⟨1, 0, none⟩))), (5, (.slice (some ⟨2, 0, none⟩) 1 1)), (6, (.int .i64 (sizeN 0)))]), ⟨3, 1, [(2, 0, .cells [(.int .u64 0)] 30 true), (1, 0, .cells [(.string ⟨#[]⟩), (.string ⟨#[]⟩)] 39 true), (0, 0, .cells [(.slice (some ⟨0, 0, some 0⟩) 0 0), (.int .i64 0), (.bool true), (.int .i64 1), (.int .u64 bk), (.int .i64 0), (.int .u64 0), (.int .u64 0)] et true)]⟩⟩
theorem HR3 (bk : Int) (et : TypeId) : HEV byteRV byteV headN isWb isWs kLen manyV sizeN textA textAt textR vLen withRV wordsA wordsR (codeAt [1, 1, 0] BH) (HS2 bk et) [0, 1, 4, 5, 6] =
  bif (isWb 0) then
    some (.normal, (HS3 sizeN bk et))
  else
    none := by kernel_rfl
noncomputable def HS4 (bk : Int) (et : TypeId) : KSt := ⟨(frameL 45 [(0, (.pointer (some ⟨0, 0, none⟩))), (1, (.int .u64 bk)), (4, (.pointer (some ⟨1, 0, none⟩))), (5, (.slice (some ⟨2, 0, none⟩) 1 1)), (6, (.int .i64 (sizeN 0))), (7, (.int .i64 1))]), ⟨3, 1, [(2, 0, .cells [(.int .u64 0)] 30 true), (1, 0, .cells [(.string ⟨#[]⟩), (.string ⟨#[]⟩)] 39 true), (0, 0, .cells [(.slice (some ⟨0, 0, some 0⟩) 0 0), (.int .i64 0), (.bool true), (.int .i64 1), (.int .u64 bk), (.int .i64 0), (.int .u64 0), (.int .u64 0)] et true)]⟩⟩
theorem HR4 (bk : Int) (et : TypeId) : HEV byteRV byteV headN isWb isWs kLen manyV sizeN textA textAt textR vLen withRV wordsA wordsR (codeAt [1, 1, 1, 0, 0] BH) (HS3 sizeN bk et) [0, 1, 4, 5, 6, 7] =
  some (.normal, (HS4 sizeN bk et)) := by kernel_rfl
noncomputable def HS5 (bk : Int) (et : TypeId) : KSt := ⟨(frameL 45 [(4, (.pointer (some ⟨1, 0, none⟩))), (5, (.slice (some ⟨2, 0, none⟩) 1 1))]), ⟨3, 1, [(2, 0, .cells [(.int .u64 0)] 30 true), (1, 0, .cells [(.string ⟨#[]⟩), (.string ⟨#[]⟩)] 39 true), (0, 0, .cells [(.slice (some ⟨0, 0, some 0⟩) 0 0), (.int .i64 0), (.bool true), (.int .i64 1), (.int .u64 bk), (.int .i64 0), (.int .u64 0), (.int .u64 0)] et true)]⟩⟩
theorem HR5 (bk : Int) (et : TypeId) : HEV byteRV byteV headN isWb isWs kLen manyV sizeN textA textAt textR vLen withRV wordsA wordsR (codeAt [1, 1, 1, 0, 1] BH) (HS4 sizeN bk et) [4, 5] =
  bif (decide (1 < (sizeN 0))) then
    some (.normal, (HS5 bk et))
  else
    some (.normal, (HS5 bk et)) := by kernel_rfl
noncomputable def HS6 (bk : Int) (et : TypeId) : KSt := ⟨(frameL 45 [(4, (.pointer (some ⟨1, 0, none⟩))), (8, (.string (textAt ([0] : List Int) 1 (kLen (List.getD ([0] : List Int) 0 0))))), (9, (.string (textAt ([0] : List Int) (1 + manyV (kLen (List.getD ([0] : List Int) 0 0))) (vLen (List.getD ([0] : List Int) 0 0)))))]), ⟨2, 1, [(1, 0, .cells [(.string ⟨#[]⟩), (.string ⟨#[]⟩)] 39 true), (0, 0, .cells [(.slice (some ⟨0, 0, some 0⟩) 0 0), (.int .i64 0), (.bool true), (.int .i64 1), (.int .u64 bk), (.int .i64 0), (.int .u64 0), (.int .u64 0)] et true)]⟩⟩
theorem HR6 (bk : Int) (et : TypeId) : HEV byteRV byteV headN isWb isWs kLen manyV sizeN textA textAt textR vLen withRV wordsA wordsR (codeAt [1, 1, 1, 1, 0] BH) (HS5 bk et) [4, 8, 9] =
  bif ((Nat.ble (List.length ([0] : List Int)) 1000) && (isWs ([0] : List Int))) then
    some (.normal, (HS6 kLen manyV textAt vLen bk et))
  else
    none := by kernel_rfl
noncomputable def HS7 (bk : Int) (et : TypeId) : KSt := ⟨(frameL 45 [(4, (.pointer (some ⟨1, 0, none⟩)))]), ⟨2, 1, [(1, 0, .cells [(.string (textAt ([0] : List Int) 1 (kLen (List.getD ([0] : List Int) 0 0)))), (.string (textAt ([0] : List Int) (1 + manyV (kLen (List.getD ([0] : List Int) 0 0))) (vLen (List.getD ([0] : List Int) 0 0))))] 39 true), (0, 0, .cells [(.slice (some ⟨0, 0, some 0⟩) 0 0), (.int .i64 0), (.bool true), (.int .i64 1), (.int .u64 bk), (.int .i64 0), (.int .u64 0), (.int .u64 0)] et true)]⟩⟩
theorem HR7 (bk : Int) (et : TypeId) : HEV byteRV byteV headN isWb isWs kLen manyV sizeN textA textAt textR vLen withRV wordsA wordsR (codeAt [1, 1, 1, 1, 1, 0] BH) (HS6 kLen manyV textAt vLen bk et) [4] =
  some (.normal, (HS7 kLen manyV textAt vLen bk et)) := by kernel_rfl
end
theorem Hz {bk : Int} {et : TypeId} {tk : Int} {tb : Int} {tc : Int} {to : Int} {tn : Int}   {Q : Ex → St → Prop} (hq : Q .ret (KSt.low (HS7 kLen manyV textAt vLen bk et))) : Gets Try.prog (KH.low ⟨1, 1, [(0, 0, .cells [(.slice (some ⟨0, 0, some 0⟩) 0 0), (.int .i64 0), (.bool false), (.int .i64 tk), (.int .u64 tb), (.int .i64 tc), (.int .u64 to), (.int .u64 tn)] et true)]⟩) BH (KSt.low (HS0 bk tk tb tc to tn et)) Q := by
  rw [HC]; refine Gets.seq ?_
  refine Hgo (HR1 byteRV byteV headN isWb isWs kLen manyV sizeN textA textAt textR vLen withRV wordsA wordsR bk tk tb tc to tn et) ?_
  rw [HC1]; refine Gets.seq ?_
  refine Hgo (HR2 byteRV byteV headN isWb isWs kLen manyV sizeN textA textAt textR vLen withRV wordsA wordsR bk tk tb tc to tn et) ?_
  rw [HC1_1]; refine Gets.seq ?_
  refine Hgo (x := .normal) (s' := (HS3 sizeN bk et)) ((HR3 byteRV byteV headN isWb isWs kLen manyV sizeN textA textAt textR vLen withRV wordsA wordsR bk et).trans (by rw [condT (show isWb 0 = true from rfl)])) ?_
  rw [HC1_1_1]; refine Gets.seq ?_
  rw [HC1_1_1_0]; refine Gets.seq ?_
  refine Hgo (HR4 byteRV byteV headN isWb isWs kLen manyV sizeN textA textAt textR vLen withRV wordsA wordsR bk et) ?_
  refine Hgo (x := .normal) (s' := (HS5 bk et)) ((HR5 byteRV byteV headN isWb isWs kLen manyV sizeN textA textAt textR vLen withRV wordsA wordsR bk et).trans (by rw [condF (decide_eq_false (by (first | (rw [size0]; omega) | omega)))])) ?_
  rw [HC1_1_1_1]; refine Gets.seq ?_
  refine Hgo (x := .normal) (s' := (HS6 kLen manyV textAt vLen bk et)) ((HR6 byteRV byteV headN isWb isWs kLen manyV sizeN textA textAt textR vLen withRV wordsA wordsR bk et).trans (by rw [condT (and_t (Nat.ble_eq_true_of_le (by simp)) (show isWs [0] = true from rfl))])) ?_
  rw [HC1_1_1_1_1]; refine Gets.seq ?_
  refine Hgo (HR7 byteRV byteV headN isWb isWs kLen manyV sizeN textA textAt textR vLen withRV wordsA wordsR bk et) ?_
  rw [HC1_1_1_1_1_1]; refine Gets.ev fitR.mix fitR.cfg (fitR.sound rdn_sound 14 0) 14 rfl (s' := KSt.low (HS7 kLen manyV textAt vLen bk et)) (x := .ret) rfl ?_
  exact hq
noncomputable abbrev QR (l : List Int) (bk tk tb tc to tn : Int) (n off c : Nat) (et e : TypeId) : Ex → St → Prop := EndsR Try.prog Try.f21 (.agg #[.string (textAt (rdRow l) 1 (kLen (List.getD (rdRow l) 0 0))), .string (textAt (rdRow l) (1 + manyV (kLen (List.getD (rdRow l) 0 0))) (vLen (List.getD (rdRow l) 0 0)))]) [.cells [(.slice (some ⟨1, off, none⟩) n c), (.int .i64 0), (.bool false), (.int .i64 tk), (.int .u64 tb), (.int .i64 tc), (.int .u64 to), (.int .u64 tn)] et true, .tail off .u64 l e] [(0, .cells [.slice (some ⟨1, off, none⟩) n c, .int .i64 (rdAt l), .bool (rdOver l), .int .i64 (rdA l 1 tk), .int .u64 (rdA l bk tb), .int .i64 (rdA l ((List.length l : Nat) : Int) tc), .int .u64 (rdA l 0 to), .int .u64 (rdA l 0 tn)] et true)] [.cells [.string (textAt (rdRow l) 1 (kLen (List.getD (rdRow l) 0 0))), .string (textAt (rdRow l) (1 + manyV (kLen (List.getD (rdRow l) 0 0))) (vLen (List.getD (rdRow l) 0 0)))] 39 true]
inductive RdInv (l : List Int) (bk tk tb tc to tn : Int) (n off c : Nat) (et e : TypeId) : Nat → KSt → Prop
  | a (i : Int) (m : Nat) (q : List Int) (hi : 1 ≤ i) (hm : (m : Int) = i) (hin : i ≤ (n : Int)) (hiw : i ≤ sizeN (l.getD 0 0)) (hq : q = l.take m) : RdInv l bk tk tb tc to tn n off c et e ((n : Int) + 2 - i).toNat (GS12 bk m (sizeN (l.getD 0 0)) i q off n c tk tb tc to tn et l e)
  | b (i : Int) (m : Nat) (q : List Int) (hi : i = (n : Int) + 1) (hm : m = n + 1) (hiw : i ≤ sizeN (l.getD 0 0)) (hq : q = l ++ [0]) : RdInv l bk tk tb tc to tn n off c et e 0 (GS27 bk m (sizeN (l.getD 0 0)) i q off n c et l e)
theorem loopRd (l : List Int) (bk tk tb tc to tn : Int) (n off c : Nat) (et e : TypeId) (hl : l.length = n) (hn : n ≤ 999) (hws : isWs l = true) (z : Nat) (t : KSt) (hI : RdInv l bk tk tb tc to tn n off c et e z t) : Gets Try.prog (KH.low ⟨2, 1, [(0, 0, .cells [(.slice (some ⟨1, off, none⟩) n c), (.int .i64 0), (.bool false), (.int .i64 tk), (.int .u64 tb), (.int .i64 tc), (.int .u64 to), (.int .u64 tn)] et true), (1, 0, .tail off .u64 l e)]⟩) (codeAt [1, 1, 1, 0, 1] BG) t.low (onN (fun s => Gets Try.prog (KH.low ⟨2, 1, [(0, 0, .cells [(.slice (some ⟨1, off, none⟩) n c), (.int .i64 0), (.bool false), (.int .i64 tk), (.int .u64 tb), (.int .i64 tc), (.int .u64 to), (.int .u64 tn)] et true), (1, 0, .tail off .u64 l e)]⟩) (codeAt [1, 1, 1, 1] BG) s ((QR l bk tk tb tc to tn n off c et e))) ((QR l bk tk tb tc to tn n off c et e))) := by
  rw [GC1_1_1_0_1, GC1_1_1_0_1_0]
  refine Gets.loopG (fun z t => RdInv l bk tk tb tc to tn n off c et e z t) ?_ _ _ hI
  clear hI z t
  intro z t hI
  have hall := isWs_word hws
  cases hI with
  | a i m q hi hm hin hiw hq =>
    have hlen : q.length = m := by rw [hq, List.length_take]; omega
    by_cases hx : sizeN (l.getD 0 0) ≤ i
    · refine GexA hx ?_
      refine ⟨fun _ => ?_, fun h => by cases h⟩
      have hov : rdOver l = false := decide_eq_false (by omega)
      have hrow : rdRow l = List.take m (List.drop 0 q) := by unfold rdRow; rw [hov, List.drop_zero, show List.take m q = q from List.take_of_length_le (by omega), hq, show (sizeN (l.getD 0 0)).toNat = m by omega]; rfl
      have hat : sizeN (l.getD 0 0) = i := by omega
      refine GfA hlen (by omega) (by rw [List.drop_zero, List.take_of_length_le (by omega), hq]; exact isWs_of fun x hx => hall x (List.mem_of_mem_take hx)) ?_
      exact (EndsR.ret (l := [.agg #[.string (textAt (List.take m (List.drop 0 q)) 1 (kLen (List.getD (List.take m (List.drop 0 q)) 0 0))), .string (textAt (List.take m (List.drop 0 q)) (1 + manyV (kLen (List.getD (List.take m (List.drop 0 q)) 0 0))) (vLen (List.getD (List.take m (List.drop 0 q)) 0 0)))]]) (by kernel_rfl) (by rw [hrow]; rfl) (fitsPN (by kernel_rfl) (by unfold rdAt rdA; rw [hov, hat]; kernel_rfl) (by rw [hrow]; kernel_rfl) (show (3 : Nat) ≤ 2 + 1 by decide)))
    · by_cases hin2 : i < (n : Int)
      · refine Gld hi hm hlen hl hn hin (by omega) hin2 ?_
        refine ⟨_, _, ?_, rfl, .a (i + 1) (m + 1) _ (by omega) (by omega) (by omega) (by omega) ?_⟩
        · omega
        · rw [List.take_of_length_le (by omega), hq, Nat.mul_one, List.take_add_one, show Int.toNat i = m by omega, List.getD_eq_getElem?_getD, List.getElem?_eq_getElem (by omega)]; rfl
      · have hie : i = (n : Int) := by omega
        refine Gov hi hm hlen hl hn hin (by omega) hie ?_
        refine ⟨0, (GS27 bk (m + 1) (sizeN (l.getD 0 0)) (i + 1) (List.take m q ++ [0]) off n c et l e), by omega, ?_, .b (i + 1) (m + 1) _ (by omega) (by omega) (by omega) ?_⟩
        · rw [hie]; rfl
        · rw [List.take_of_length_le (by omega), hq, List.take_of_length_le (by omega)]
  | b i m q hi hm hiw hq =>
    have hlen : q.length = m := by rw [hq, List.length_append]; simp; omega
    have hov : rdOver l = true := decide_eq_true (by omega)
    have hrow : rdRow l = List.take m (List.drop 0 q) := by unfold rdRow; rw [hov, List.drop_zero, show List.take m q = q from List.take_of_length_le (by omega), hq]; rfl
    have hwq : isWs (List.take m (List.drop 0 q)) = true := by
      rw [List.drop_zero, List.take_of_length_le (by omega), hq]
      refine isWs_of fun x hx => ?_
      rcases List.mem_append.1 hx with hx | hx
      · exact hall x hx
      · rw [List.mem_singleton.1 hx]; exact ⟨by decide, by decide⟩
    have fin := fun (h : 0 = 0) => (GfB (bk := bk) (tk := tk) (tb := tb) (tc := tc) (to := to) (tn := tn) (l := l) (e := e) (off := off) (n := n) (c := c) (et := et) (i := i) (w := sizeN (l.getD 0 0)) hlen (by omega) hwq (Q := QR l bk tk tb tc to tn n off c et e)
      (EndsR.ret (l := [.agg #[.string (textAt (List.take m (List.drop 0 q)) 1 (kLen (List.getD (List.take m (List.drop 0 q)) 0 0))), .string (textAt (List.take m (List.drop 0 q)) (1 + manyV (kLen (List.getD (List.take m (List.drop 0 q)) 0 0))) (vLen (List.getD (List.take m (List.drop 0 q)) 0 0)))]]) (by kernel_rfl) (by rw [hrow]; rfl) (fitsPN (by kernel_rfl) (by unfold rdAt rdA; rw [hov, hl]; kernel_rfl) (by rw [hrow]; kernel_rfl) (show (3 : Nat) ≤ 2 + 1 by decide))))
    by_cases hx : sizeN (l.getD 0 0) ≤ i
    · refine Gb1 hx ?_
      exact ⟨fun _ => fin rfl, fun h => by cases h⟩
    · refine Gb2 (by omega) ?_
      exact ⟨fun _ => fin rfl, fun h => by cases h⟩
theorem rd_does (l : List Int) (bk tk tb tc to tn : Int) (n off c : Nat) (et e : TypeId) (hl : l.length = n) (hn : n ≤ 999) (hws : isWs l = true) : DoesC Try.prog 21 [.pointer (some ⟨0, 0, none⟩), .int .u64 bk] (mkH [.cells [(.slice (some ⟨1, off, none⟩) n c), (.int .i64 0), (.bool false), (.int .i64 tk), (.int .u64 tb), (.int .i64 tc), (.int .u64 to), (.int .u64 tn)] et true, .tail off .u64 l e]).low (.agg #[.string (textAt (rdRow l) 1 (kLen (List.getD (rdRow l) 0 0))), .string (textAt (rdRow l) (1 + manyV (kLen (List.getD (rdRow l) 0 0))) (vLen (List.getD (rdRow l) 0 0)))]) (effK (mkH [.cells [(.slice (some ⟨1, off, none⟩) n c), (.int .i64 0), (.bool false), (.int .i64 tk), (.int .u64 tb), (.int .i64 tc), (.int .u64 to), (.int .u64 tn)] et true, .tail off .u64 l e]) [(0, .cells [.slice (some ⟨1, off, none⟩) n c, .int .i64 (rdAt l), .bool (rdOver l), .int .i64 (rdA l 1 tk), .int .u64 (rdA l bk tb), .int .i64 (rdA l ((List.length l : Nat) : Int) tc), .int .u64 (rdA l 0 to), .int .u64 (rdA l 0 tn)] et true)] [.cells [.string (textAt (rdRow l) 1 (kLen (List.getD (rdRow l) 0 0))), .string (textAt (rdRow l) (1 + manyV (kLen (List.getD (rdRow l) 0 0))) (vLen (List.getD (rdRow l) 0 0)))] 39 true]).low := by
  refine EndsR.does Try.func21 BG_is (by rw [noVars]; exact Nat.zero_le _) ?_
  show Gets Try.prog (KH.low ⟨2, 1, [(0, 0, .cells [(.slice (some ⟨1, off, none⟩) n c), (.int .i64 0), (.bool false), (.int .i64 tk), (.int .u64 tb), (.int .i64 tc), (.int .u64 to), (.int .u64 tn)] et true), (1, 0, .tail off .u64 l e)]⟩) BG (KSt.low (GS0 bk off n c tk tb tc to tn et l e)) _
  by_cases h0 : n = 0
  · obtain rfl : l = [] := List.eq_nil_of_length_eq_zero (by omega)
    have hov := rd_nil
    have hrow : rdRow [] = [0] := rfl
    exact Gz h0 (EndsR.ret (l := [.agg #[.string (textAt [0] 1 (kLen (List.getD [0] 0 0))), .string (textAt [0] (1 + manyV (kLen (List.getD [0] 0 0))) (vLen (List.getD [0] 0 0)))]]) (by kernel_rfl) (by rw [hrow]; rfl) (fitsPN (by kernel_rfl) (by unfold rdAt rdA; rw [hov]; kernel_rfl) (by rw [hrow]; kernel_rfl) (show (3 : Nat) ≤ 2 + 1 by decide)))
  · refine Gpre (by omega) hl (isWb_of (getD_word (isWs_word hws) 0)) ?_
    exact loopRd l bk tk tb tc to tn n off c et e hl hn hws ((n : Int) + 2 - 1).toNat (GS12 bk (1) (sizeN (l.getD 0 0)) (1) ([l.getD 0 0]) off n c tk tb tc to tn et l e) (.a 1 1 _ (by omega) (by omega) (by omega) (size_pos _ (getD_word (isWs_word hws) 0)) (by
      cases l with
      | nil => simp at hl; omega
      | cons a r => rfl))
theorem rd0_does (bk tk tb tc to tn : Int) (et : TypeId) : DoesC Try.prog 21 [.pointer (some ⟨0, 0, none⟩), .int .u64 bk] (mkH [.cells [(.slice (some ⟨0, 0, some 0⟩) 0 0), (.int .i64 0), (.bool false), (.int .i64 tk), (.int .u64 tb), (.int .i64 tc), (.int .u64 to), (.int .u64 tn)] et true]).low (.agg #[.string (textAt (rdRow ([] : List Int)) 1 (kLen (List.getD (rdRow ([] : List Int)) 0 0))), .string (textAt (rdRow ([] : List Int)) (1 + manyV (kLen (List.getD (rdRow ([] : List Int)) 0 0))) (vLen (List.getD (rdRow ([] : List Int)) 0 0)))]) (effK (mkH [.cells [(.slice (some ⟨0, 0, some 0⟩) 0 0), (.int .i64 0), (.bool false), (.int .i64 tk), (.int .u64 tb), (.int .i64 tc), (.int .u64 to), (.int .u64 tn)] et true]) [(0, .cells [slice0V, .int .i64 (rdAt ([] : List Int)), .bool (rdOver ([] : List Int)), .int .i64 (rdA ([] : List Int) 1 tk), .int .u64 (rdA ([] : List Int) bk tb), .int .i64 (rdA ([] : List Int) ((List.length ([] : List Int) : Nat) : Int) tc), .int .u64 (rdA ([] : List Int) 0 to), .int .u64 (rdA ([] : List Int) 0 tn)] et true)] [.cells [.string (textAt (rdRow ([] : List Int)) 1 (kLen (List.getD (rdRow ([] : List Int)) 0 0))), .string (textAt (rdRow ([] : List Int)) (1 + manyV (kLen (List.getD (rdRow ([] : List Int)) 0 0))) (vLen (List.getD (rdRow ([] : List Int)) 0 0)))] 39 true]).low := by
  refine EndsR.does Try.func21 BH_is (by rw [noVars]; exact Nat.zero_le _) ?_
  show Gets Try.prog (KH.low ⟨1, 1, [(0, 0, .cells [(.slice (some ⟨0, 0, some 0⟩) 0 0), (.int .i64 0), (.bool false), (.int .i64 tk), (.int .u64 tb), (.int .i64 tc), (.int .u64 to), (.int .u64 tn)] et true)]⟩) BH (KSt.low (HS0 bk tk tb tc to tn et)) _
  have hov := rd_nil
  have hrow : rdRow [] = [0] := rfl
  exact Hz (EndsR.ret (l := [.agg #[.string (textAt [0] 1 (kLen (List.getD [0] 0 0))), .string (textAt [0] (1 + manyV (kLen (List.getD [0] 0 0))) (vLen (List.getD [0] 0 0)))]]) (by kernel_rfl) (by rw [hrow]; rfl) (fitsPN (by kernel_rfl) (by unfold rdAt rdA; rw [hov]; kernel_rfl) (by rw [hrow]; kernel_rfl) (show (2 : Nat) ≤ 1 + 1 by decide)))
noncomputable def rc_r18_Read (isWs : List Int → Bool) (kLen : Int → Int) (manyV : Int → Int) (rdA : List Int → Int → Int → Int) (rdAt : List Int → Int) (rdOver : List Int → Bool) (rdRow : List Int → List Int) (textAt : List Int → Int → Int → ByteArray) (vLen : Int → Int) : RC := ⟨[.tape, .int .u64], fun avs => match avs with | [.tape l [.int .i64 ta, .bool tv, .int .i64 tk, .int .u64 tb, .int .i64 tc, .int .u64 to, .int .u64 tn] sl e, .int bk] => ((decide (ta = 0)) && ((!tv) && ((Nat.ble (List.length l) 999) && (isWs l)))) | _ => false,
  fun N avs => match avs with | [.tape l [.int .i64 ta, .bool tv, .int .i64 tk, .int .u64 tb, .int .i64 tc, .int .u64 to, .int .u64 tn] sl e, .int bk] => ((.agg #[(.string (textAt (rdRow l) 1 (kLen (List.getD (rdRow l) 0 0)))), (.string (textAt (rdRow l) (1 + manyV (kLen (List.getD (rdRow l) 0 0))) (vLen (List.getD (rdRow l) 0 0))))]), [(0, .cells [sl, (.int .i64 (rdAt l)), (.bool (rdOver l)), (.int .i64 (rdA l 1 tk)), (.int .u64 (rdA l bk tb)), (.int .i64 (rdA l ((List.length l : Nat) : Int) tc)), (.int .u64 (rdA l 0 to)), (.int .u64 (rdA l 0 tn))] e true)], [.cells [(.string (textAt (rdRow l) 1 (kLen (List.getD (rdRow l) 0 0)))), (.string (textAt (rdRow l) (1 + manyV (kLen (List.getD (rdRow l) 0 0))) (vLen (List.getD (rdRow l) 0 0))))] 39 true]) | _ => (.bool false, [], [])⟩
theorem rc_r18_Read_does : RcDoes Try.prog [] 21 (rc_r18_Read isWs kLen manyV rdA rdAt rdOver rdRow textAt vLen) := by
  intro vb avs args blks hv hs hp
  cases hv
  cases hs with
  | tape0 more e hpm hs =>
    cases hs with
    | int bk hs =>
      cases hs
      unfold rc_r18_Read at hp
      dsimp only at hp
      split at hp
      case h_2 => cases hp
      rename_i heq
      cases heq
      simp only [Bool.and_eq_true, decide_eq_true_eq, Bool.not_eq_true'] at hp
      obtain ⟨h1, h2, h3, h4⟩ := hp
      subst h1
      subst h2
      exact rd0_does bk _ _ _ _ _ e
  | tape off_l n_l c_l l more e e_l hl_l hpm hs =>
    cases hs with
    | int bk hs =>
      cases hs
      unfold rc_r18_Read at hp
      dsimp only at hp
      split at hp
      case h_2 => cases hp
      rename_i heq
      cases heq
      simp only [Bool.and_eq_true, decide_eq_true_eq, Bool.not_eq_true'] at hp
      obtain ⟨h1, h2, h3, h4⟩ := hp
      subst h1
      subst h2
      exact rd_does l bk _ _ _ _ _ n_l off_l c_l e e_l hl_l (by have := Nat.le_of_ble_eq_true h3; omega) h4

end Go.Proofs.Ytnhdjmpbmecnoaa
