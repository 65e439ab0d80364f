/- The tables of the laws of boxes. -/
import Derived.Test.YtnhdjmpbmecnoaaBxB
import Derived.WalkKit
import Derived.ProofKit
import Derived.OpenShut
import Derived.ChangeOld
import Derived.Below
import Derived.SizedLaws
namespace Go.Proofs.Ytnhdjmpbmecnoaa
open Go.Eng
open Go.ChangeShapes Go.WideShapes Go.ChangeAt Go.RowKit
set_option linter.unusedVariables false
set_option linter.unusedSimpArgs false
set_option maxRecDepth 100000
noncomputable def cfgB5 : Cfg := ⟨[]⟩
noncomputable def fsB5 : List FuncId := [11, 12, 13, 14, 15, 16, 17, 18, 25, 26, 27, 28, 29, 30, 31, 32, 33, 34, 35, 48, 49, 50, 54, 55, 56]
theorem fitB5 : Fit Try.prog cfgB5 fsB5 := ⟨by kernel_rfl, Cfg.ok_of (by kernel_rfl), by kernel_rfl⟩
noncomputable def bxnT (byteRV : Int → Int → Int) (byteV : Int → Int → Int) (headN : ByteArray → ByteArray → Int) (isWb : Int → Bool) (isWs : List Int → Bool) (kLen : Int → Int) (manyV : Int → Int) (sizeN : Int → Int) (textA : List Int → Int → ByteArray × Bool) (textAt : List Int → Int → Int → ByteArray) (textR : List Int → Int → ByteArray × Bool) (vLen : Int → Int) (withRV : Int → Int → Int → Int) (wordsA : ByteArray → List Int) (wordsR : ByteArray → List Int) : RTab := fun f => match f with
  | 11 => some rc_sprocketlaw04_awake
  | 48 => some (rc_lane_Byte byteV)
  | 49 => some (rc_r02_Byte byteRV)
  | 50 => some (rc_r02_With withRV)
  | 17 => some (rc_pack_Many manyV)
  | 18 => some (rc_r04_Many manyV)
  | 15 => some (rc_pack_Words wordsA)
  | 16 => some (rc_r04_Words wordsR)
  | 12 => some (rc_pack_Text textA)
  | 13 => some (rc_r04_Text textR)
  | 14 => some rc_r02_Words
  | 33 => some (rc_box_Head headN)
  | 30 => some (rc_r16_Head headN)
  | 31 => some (rc_box_Lens isWb kLen vLen)
  | 32 => some (rc_r16_Lens isWb kLen vLen)
  | 34 => some (rc_box_Size isWb sizeN)
  | 35 => some (rc_r16_Size isWb sizeN)
  | 55 => some rc_r16_word
  | 54 => some (rc_box_cut textAt)
  | 56 => some (rc_r16_bytes isWs textAt)
  | 28 => some (rc_box_Read isWs kLen manyV textAt vLen)
  | 29 => some (rc_r16_Read isWs kLen manyV textAt vLen)
  | _ => none
def bxnDom : List FuncId := [11, 48, 49, 50, 17, 18, 15, 16, 12, 13, 14, 33, 30, 31, 32, 34, 35, 55, 54, 56, 28, 29]
theorem bxn_does : ∀ f rc, f ∈ bxnDom → (bxnT byteRV byteV headN isWb isWs kLen manyV sizeN textA textAt textR vLen withRV wordsA wordsR) f = some rc → RcDoes Try.prog [] f rc := by
  intro f rc hf hT
  simp only [bxnDom, List.mem_cons, List.not_mem_nil, or_false] at hf
  rcases hf with rfl | rfl | rfl | rfl | rfl | rfl | rfl | rfl | rfl | rfl | rfl | rfl | rfl | rfl | rfl | rfl | rfl | rfl | rfl | rfl | rfl | rfl
  · cases hT; exact rc_sprocketlaw04_awake_does
  · cases hT; exact rc_lane_Byte_does
  · cases hT; exact rc_r02_Byte_does
  · cases hT; exact rc_r02_With_does
  · cases hT; exact rc_pack_Many_does
  · cases hT; exact rc_r04_Many_does
  · cases hT; exact rc_pack_Words_does
  · cases hT; exact rc_r04_Words_does
  · cases hT; exact rc_pack_Text_does
  · cases hT; exact rc_r04_Text_does
  · cases hT; exact rc_r02_Words_does
  · cases hT; exact rc_box_Head_does
  · cases hT; exact rc_r16_Head_does
  · cases hT; exact rc_box_Lens_does
  · cases hT; exact rc_r16_Lens_does
  · cases hT; exact rc_box_Size_does
  · cases hT; exact rc_r16_Size_does
  · cases hT; exact rc_r16_word_does
  · cases hT; exact rc_box_cut_does
  · cases hT; exact rc_r16_bytes_does
  · cases hT; exact rc_box_Read_does
  · cases hT; exact rc_r16_Read_does
theorem bxn_fn : ∀ f ∈ bxnDom, FnOk Try.prog f := fun f hf => fitB5.fnOk f (by
    have h0 : (bxnDom.all fun f => fsB5.contains f) = true := by kernel_rfl
    simpa using List.all_eq_true.1 h0 f hf)
theorem bxn_sound : SoundC Try.prog (conC bxnDom (rcE [] (bxnT byteRV byteV headN isWb isWs kLen manyV sizeN textA textAt textR vLen withRV wordsA wordsR))) := rc_sound noVars bxn_fn bxn_does
theorem awake16_told : Tells Try.prog 25 [] (bare Try.prog) (.bool true) := by
  refine Tells.of_tree (h := (bareK Try.prog)) fitB5 bxn_sound (rc_agree _ _ _) (by kernel_rfl) rfl (show Ro (bare Try.prog) from Ro.bare) (n := 70) (d := 40) ?_
  kernel_rfl
noncomputable def Bxa : Code := bodyOf Try.prog 26
theorem Bxa_is : Try.f26.body = some Bxa := by kernel_rfl
theorem Bxa_ok : okCode Try.prog.globals.size Bxa = true := by kernel_rfl
noncomputable abbrev xaEV (c : Code) (s : KSt) (lv : List Nat) : Option (Ex × KSt) := evCK Try.prog cfgB5 (runK Try.prog cfgB5 fsB5 noT 14 40) 14 c s (normC 0 lv)
theorem xago {lv : List Nat} {c : Code} {s s' : KSt} {x : Ex} {Q : Ex → St → Prop} (h : xaEV c s lv = some (x, s')) (hq : Q x s'.low) (hok : okCode Try.prog.globals.size c = true := by kernel_rfl) : Gets Try.prog (KH.low ⟨0, 1, []⟩) c s.low Q := Gets.ofN fitB5 SoundC.no AgreeT.no 14 40 hok h hq
theorem xaeX {v : Value} {b c : Bool} (h : v = .bool b) (hb : b = c) : v = .bool c := by rw [h, hb]
theorem xaC : Bxa = .seq (codeAt [0] Bxa) (codeAt [1] Bxa) := by kernel_rfl
theorem xaC1 : (codeAt [1] Bxa) = .seq (codeAt [1, 0] Bxa) (codeAt [1, 1] Bxa) := by kernel_rfl
theorem xaC1_0 : (codeAt [1, 0] Bxa) = .seq (codeAt [1, 0, 0] Bxa) (codeAt [1, 0, 1] Bxa) := by kernel_rfl
theorem xaC1_0_1 : (codeAt [1, 0, 1] Bxa) = .cond (.tmp 14) (codeAt [1, 0, 1, 0] Bxa) (codeAt [1, 0, 1, 1] Bxa) := by kernel_rfl
theorem xaC1_0_1_0 : (codeAt [1, 0, 1, 0] Bxa) = .seq (codeAt [1, 0, 1, 0, 0] Bxa) (codeAt [1, 0, 1, 0, 1] Bxa) := by kernel_rfl
theorem xaC1_0_1_0_1 : (codeAt [1, 0, 1, 0, 1] Bxa) = .ret := by kernel_rfl
noncomputable def xaS0 (ks : ByteArray) (vs : ByteArray) : KSt := (firstK [(.string ks), (.string vs)] 26 ⟨0, 1, []⟩)
noncomputable def xaS1 (ks : ByteArray) (vs : ByteArray) : KSt := ⟨(frameL 26 [(0, (.string ks)), (1, (.string vs))]), ⟨0, 1, []⟩⟩
theorem xaR1 (ks : ByteArray) (vs : ByteArray) : xaEV (codeAt [0] Bxa) (xaS0 ks vs) [0, 1] =
  some (.normal, (xaS1 ks vs)) := by kernel_rfl
noncomputable def xaS2 (ks : ByteArray) (vs : ByteArray) : KSt := ⟨(frameL 26 [(0, (.string ks)), (1, (.string vs)), (14, (.bool true))]), ⟨0, 1, []⟩⟩
noncomputable def xaS3 (ks : ByteArray) (vs : ByteArray) : KSt := ⟨(frameL 26 [(0, (.string ks)), (1, (.string vs)), (14, (.bool (decide ((((ByteArray.size vs) : Nat) : Int) > 24))))]), ⟨0, 1, []⟩⟩
theorem xaR2 (ks : ByteArray) (vs : ByteArray) : xaEV (codeAt [1, 0, 0] Bxa) (xaS1 ks vs) [0, 1, 14] =
  bif (decide ((((ByteArray.size ks) : Nat) : Int) > 16)) then
    some (.normal, (xaS2 ks vs))
  else
    some (.normal, (xaS3 ks vs)) := by kernel_rfl
noncomputable def xaS4  : KSt := ⟨(frameL 26 [(4, (.slice none 0 0)), (5, (.bool false))]), ⟨0, 1, []⟩⟩
theorem xaR3 (ks : ByteArray) (vs : ByteArray) : xaEV (codeAt [1, 0, 1, 0, 0] Bxa) (xaS2 ks vs) [4, 5] =
  some (.normal, xaS4) := by kernel_rfl
theorem xaR4 (ks : ByteArray) (vs : ByteArray) : xaEV (codeAt [1, 0, 1, 0, 0] Bxa) (xaS3 ks vs) [4, 5] =
  some (.normal, xaS4) := by kernel_rfl
theorem xaa {ks : ByteArray} {vs : ByteArray} (h : 16 < ks.size)   {Q : Ex → St → Prop} (hq : Q .ret (KSt.low xaS4)) : Gets Try.prog (KH.low ⟨0, 1, []⟩) Bxa (KSt.low (xaS0 ks vs)) Q := by
  rw [xaC]; refine Gets.seq ?_
  refine xago (xaR1 ks vs) ?_
  rw [xaC1]; refine Gets.seq ?_
  rw [xaC1_0]; refine Gets.seq ?_
  refine xago (x := .normal) (s' := (xaS2 ks vs)) ((xaR2 ks vs).trans (by rw [condT (decide_eq_true (by omega))])) ?_
  rw [xaC1_0_1]; refine Gets.cond true (by kernel_rfl) (by kernel_rfl) ?_; show Gets _ _ (codeAt [1, 0, 1, 0] Bxa) _ _
  rw [xaC1_0_1_0]; refine Gets.seq ?_
  refine xago (xaR3 ks vs) ?_
  rw [xaC1_0_1_0_1]; refine Gets.ev fitB5.mix fitB5.cfg (fitB5.sound SoundC.no 14 0) 14 rfl (s' := KSt.low xaS4) (x := .ret) rfl ?_
  exact hq
theorem xab {ks : ByteArray} {vs : ByteArray} (h : ks.size ≤ 16) (h2 : 24 < vs.size)   {Q : Ex → St → Prop} (hq : Q .ret (KSt.low xaS4)) : Gets Try.prog (KH.low ⟨0, 1, []⟩) Bxa (KSt.low (xaS0 ks vs)) Q := by
  rw [xaC]; refine Gets.seq ?_
  refine xago (xaR1 ks vs) ?_
  rw [xaC1]; refine Gets.seq ?_
  rw [xaC1_0]; refine Gets.seq ?_
  refine xago (x := .normal) (s' := (xaS3 ks vs)) ((xaR2 ks vs).trans (by rw [condF (decide_eq_false (by omega))])) ?_
  rw [xaC1_0_1]; refine Gets.cond true (by kernel_rfl) (xaeX (b := (decide ((((ByteArray.size vs) : Nat) : Int) > 24))) (by kernel_rfl) ((show (decide ((((ByteArray.size vs) : Nat) : Int) > 24)) = true from decide_eq_true (by omega)))) ?_; show Gets _ _ (codeAt [1, 0, 1, 0] Bxa) _ _
  rw [xaC1_0_1_0]; refine Gets.seq ?_
  refine xago (xaR4 ks vs) ?_
  rw [xaC1_0_1_0_1]; refine Gets.ev fitB5.mix fitB5.cfg (fitB5.sound SoundC.no 14 0) 14 rfl (s' := KSt.low xaS4) (x := .ret) rfl ?_
  exact hq
theorem nof_does (ks vs : ByteArray) (h : ¬ (ks.size ≤ 16 ∧ vs.size ≤ 24)) : DoesC Try.prog 26 [(.string ks), (.string vs)] (mkH []).low (.tuple #[.slice none 0 0, .bool false]) (effK (mkH []) [] []).low := by
  refine EndsR.does Try.func26 Bxa_is (by rw [noVars]; exact Nat.zero_le _) ?_
  show Gets Try.prog (KH.low ⟨0, 1, []⟩) Bxa (KSt.low (xaS0 ks vs)) _
  by_cases h1 : 16 < ks.size
  · exact xaa h1 (EndsR.ret (l := [.slice none 0 0, .bool false]) (by kernel_rfl) rfl (Fits.n0 rfl rfl (show (0 : Nat) ≤ 0 by decide)))
  · exact xab (by omega) (by omega) (EndsR.ret (l := [.slice none 0 0, .bool false]) (by kernel_rfl) rfl (Fits.n0 rfl rfl (show (0 : Nat) ≤ 0 by decide)))
noncomputable def rc_nof : RC := ⟨[.str, .str], fun avs => match avs with | [.str ks, .str vs] => (!((Nat.ble (ByteArray.size ks) 16) && (Nat.ble (ByteArray.size vs) 24))) | _ => false,
  fun N avs => match avs with | [.str ks, .str vs] => ((.tuple #[(.slice none 0 0), (.bool false)]), [], []) | _ => (.bool false, [], [])⟩
theorem rc_nof_does : RcDoes Try.prog [] 26 rc_nof := by
  intro vb avs args blks hv hs hp
  cases hv
  cases hs with
  | str ks hs =>
    cases hs with
    | str vs hs =>
      cases hs
      have hp : (!(Nat.ble (ByteArray.size ks) 16 && Nat.ble (ByteArray.size vs) 24)) = true := hp
      exact nof_does ks vs (fun h => by rw [Nat.ble_eq_true_of_le h.1, Nat.ble_eq_true_of_le h.2] at hp; cases hp)
noncomputable def Bxb : Code := bodyOf Try.prog 27
theorem Bxb_is : Try.f27.body = some Bxb := by kernel_rfl
theorem Bxb_ok : okCode Try.prog.globals.size Bxb = true := by kernel_rfl
noncomputable abbrev xbEV (c : Code) (s : KSt) (lv : List Nat) : Option (Ex × KSt) := evCK Try.prog cfgB5 (runK Try.prog cfgB5 fsB5 noT 14 40) 14 c s (normC 0 lv)
theorem xbgo {lv : List Nat} {c : Code} {s s' : KSt} {x : Ex} {Q : Ex → St → Prop} (h : xbEV c s lv = some (x, s')) (hq : Q x s'.low) (hok : okCode Try.prog.globals.size c = true := by kernel_rfl) : Gets Try.prog (KH.low ⟨0, 1, []⟩) c s.low Q := Gets.ofN fitB5 SoundC.no AgreeT.no 14 40 hok h hq
theorem xbeX {v : Value} {b c : Bool} (h : v = .bool b) (hb : b = c) : v = .bool c := by rw [h, hb]
theorem xbC : Bxb = .seq (codeAt [0] Bxb) (codeAt [1] Bxb) := by kernel_rfl
theorem xbC1 : (codeAt [1] Bxb) = .seq (codeAt [1, 0] Bxb) (codeAt [1, 1] Bxb) := by kernel_rfl
theorem xbC1_0 : (codeAt [1, 0] Bxb) = .seq (codeAt [1, 0, 0] Bxb) (codeAt [1, 0, 1] Bxb) := by kernel_rfl
theorem xbC1_0_1 : (codeAt [1, 0, 1] Bxb) = .cond (.tmp 14) (codeAt [1, 0, 1, 0] Bxb) (codeAt [1, 0, 1, 1] Bxb) := by kernel_rfl
theorem xbC1_0_1_0 : (codeAt [1, 0, 1, 0] Bxb) = .seq (codeAt [1, 0, 1, 0, 0] Bxb) (codeAt [1, 0, 1, 0, 1] Bxb) := by kernel_rfl
theorem xbC1_0_1_0_1 : (codeAt [1, 0, 1, 0, 1] Bxb) = .ret := by kernel_rfl
noncomputable def xbS0 (ks : ByteArray) (vs : ByteArray) : KSt := (firstK [(.string ks), (.string vs)] 27 ⟨0, 1, []⟩)
noncomputable def xbS1 (ks : ByteArray) (vs : ByteArray) : KSt := ⟨(frameL 27 [(0, (.string ks)), (1, (.string vs))]), ⟨0, 1, []⟩⟩
theorem xbR1 (ks : ByteArray) (vs : ByteArray) : xbEV (codeAt [0] Bxb) (xbS0 ks vs) [0, 1] =
  some (.normal, (xbS1 ks vs)) := by kernel_rfl
noncomputable def xbS2 (ks : ByteArray) (vs : ByteArray) : KSt := ⟨(frameL 27 [(0, (.string ks)), (1, (.string vs)), (14, (.bool true))]), ⟨0, 1, []⟩⟩
noncomputable def xbS3 (ks : ByteArray) (vs : ByteArray) : KSt := ⟨(frameL 27 [(0, (.string ks)), (1, (.string vs)), (14, (.bool (decide ((((ByteArray.size vs) : Nat) : Int) > 24))))]), ⟨0, 1, []⟩⟩
theorem xbR2 (ks : ByteArray) (vs : ByteArray) : xbEV (codeAt [1, 0, 0] Bxb) (xbS1 ks vs) [0, 1, 14] =
  bif (decide ((((ByteArray.size ks) : Nat) : Int) > 16)) then
    some (.normal, (xbS2 ks vs))
  else
    some (.normal, (xbS3 ks vs)) := by kernel_rfl
noncomputable def xbS4  : KSt := ⟨(frameL 27 [(4, (.slice none 0 0)), (5, (.bool false))]), ⟨0, 1, []⟩⟩
theorem xbR3 (ks : ByteArray) (vs : ByteArray) : xbEV (codeAt [1, 0, 1, 0, 0] Bxb) (xbS2 ks vs) [4, 5] =
  some (.normal, xbS4) := by kernel_rfl
theorem xbR4 (ks : ByteArray) (vs : ByteArray) : xbEV (codeAt [1, 0, 1, 0, 0] Bxb) (xbS3 ks vs) [4, 5] =
  some (.normal, xbS4) := by kernel_rfl
theorem xba {ks : ByteArray} {vs : ByteArray} (h : 16 < ks.size)   {Q : Ex → St → Prop} (hq : Q .ret (KSt.low xbS4)) : Gets Try.prog (KH.low ⟨0, 1, []⟩) Bxb (KSt.low (xbS0 ks vs)) Q := by
  rw [xbC]; refine Gets.seq ?_
  refine xbgo (xbR1 ks vs) ?_
  rw [xbC1]; refine Gets.seq ?_
  rw [xbC1_0]; refine Gets.seq ?_
  refine xbgo (x := .normal) (s' := (xbS2 ks vs)) ((xbR2 ks vs).trans (by rw [condT (decide_eq_true (by omega))])) ?_
  rw [xbC1_0_1]; refine Gets.cond true (by kernel_rfl) (by kernel_rfl) ?_; show Gets _ _ (codeAt [1, 0, 1, 0] Bxb) _ _
  rw [xbC1_0_1_0]; refine Gets.seq ?_
  refine xbgo (xbR3 ks vs) ?_
  rw [xbC1_0_1_0_1]; refine Gets.ev fitB5.mix fitB5.cfg (fitB5.sound SoundC.no 14 0) 14 rfl (s' := KSt.low xbS4) (x := .ret) rfl ?_
  exact hq
theorem xbb {ks : ByteArray} {vs : ByteArray} (h : ks.size ≤ 16) (h2 : 24 < vs.size)   {Q : Ex → St → Prop} (hq : Q .ret (KSt.low xbS4)) : Gets Try.prog (KH.low ⟨0, 1, []⟩) Bxb (KSt.low (xbS0 ks vs)) Q := by
  rw [xbC]; refine Gets.seq ?_
  refine xbgo (xbR1 ks vs) ?_
  rw [xbC1]; refine Gets.seq ?_
  rw [xbC1_0]; refine Gets.seq ?_
  refine xbgo (x := .normal) (s' := (xbS3 ks vs)) ((xbR2 ks vs).trans (by rw [condF (decide_eq_false (by omega))])) ?_
  rw [xbC1_0_1]; refine Gets.cond true (by kernel_rfl) (xbeX (b := (decide ((((ByteArray.size vs) : Nat) : Int) > 24))) (by kernel_rfl) ((show (decide ((((ByteArray.size vs) : Nat) : Int) > 24)) = true from decide_eq_true (by omega)))) ?_; show Gets _ _ (codeAt [1, 0, 1, 0] Bxb) _ _
  rw [xbC1_0_1_0]; refine Gets.seq ?_
  refine xbgo (xbR4 ks vs) ?_
  rw [xbC1_0_1_0_1]; refine Gets.ev fitB5.mix fitB5.cfg (fitB5.sound SoundC.no 14 0) 14 rfl (s' := KSt.low xbS4) (x := .ret) rfl ?_
  exact hq
theorem nofR_does (ks vs : ByteArray) (h : ¬ (ks.size ≤ 16 ∧ vs.size ≤ 24)) : DoesC Try.prog 27 [(.string ks), (.string vs)] (mkH []).low (.tuple #[.slice none 0 0, .bool false]) (effK (mkH []) [] []).low := by
  refine EndsR.does Try.func27 Bxb_is (by rw [noVars]; exact Nat.zero_le _) ?_
  show Gets Try.prog (KH.low ⟨0, 1, []⟩) Bxb (KSt.low (xbS0 ks vs)) _
  by_cases h1 : 16 < ks.size
  · exact xba h1 (EndsR.ret (l := [.slice none 0 0, .bool false]) (by kernel_rfl) rfl (Fits.n0 rfl rfl (show (0 : Nat) ≤ 0 by decide)))
  · exact xbb (by omega) (by omega) (EndsR.ret (l := [.slice none 0 0, .bool false]) (by kernel_rfl) rfl (Fits.n0 rfl rfl (show (0 : Nat) ≤ 0 by decide)))
noncomputable def rc_nofR : RC := ⟨[.str, .str], fun avs => match avs with | [.str ks, .str vs] => (!((Nat.ble (ByteArray.size ks) 16) && (Nat.ble (ByteArray.size vs) 24))) | _ => false,
  fun N avs => match avs with | [.str ks, .str vs] => ((.tuple #[(.slice none 0 0), (.bool false)]), [], []) | _ => (.bool false, [], [])⟩
theorem rc_nofR_does : RcDoes Try.prog [] 27 rc_nofR := by
  intro vb avs args blks hv hs hp
  cases hv
  cases hs with
  | str ks hs =>
    cases hs with
    | str vs hs =>
      cases hs
      have hp : (!(Nat.ble (ByteArray.size ks) 16 && Nat.ble (ByteArray.size vs) 24)) = true := hp
      exact nofR_does ks vs (fun h => by rw [Nat.ble_eq_true_of_le h.1, Nat.ble_eq_true_of_le h.2] at hp; cases hp)
noncomputable def rc_sprocketlaw16_awake : RC := ⟨[], fun avs => match avs with | [] => true | _ => false,
  fun N avs => match avs with | [] => ((.bool true), [], []) | _ => (.bool false, [], [])⟩
theorem rc_sprocketlaw16_awake_does : RcDoes Try.prog [] 25 rc_sprocketlaw16_awake := by
  intro vb avs args blks hv hs hp
  cases hv
  cases hs
  exact DoesC.bare noVars rfl awake16_told
noncomputable def wbxyT (boxW : ByteArray → ByteArray → List Int) (byteRV : Int → Int → Int) (byteV : Int → Int → Int) (headN : ByteArray → ByteArray → Int) (isWb : Int → Bool) (isWs : List Int → Bool) (kLen : Int → Int) (manyV : Int → Int) (sizeN : Int → Int) (textA : List Int → Int → ByteArray × Bool) (textAt : List Int → Int → Int → ByteArray) (textR : List Int → Int → ByteArray × Bool) (vLen : Int → Int) (withRV : Int → Int → Int → Int) (wordsA : ByteArray → List Int) (wordsR : ByteArray → List Int) : RTab := fun f => match f with
  | 25 => some rc_sprocketlaw16_awake
  | 11 => some rc_sprocketlaw04_awake
  | 48 => some (rc_lane_Byte byteV)
  | 49 => some (rc_r02_Byte byteRV)
  | 50 => some (rc_r02_With withRV)
  | 17 => some (rc_pack_Many manyV)
  | 18 => some (rc_r04_Many manyV)
  | 15 => some (rc_pack_Words wordsA)
  | 16 => some (rc_r04_Words wordsR)
  | 12 => some (rc_pack_Text textA)
  | 13 => some (rc_r04_Text textR)
  | 14 => some rc_r02_Words
  | 33 => some (rc_box_Head headN)
  | 30 => some (rc_r16_Head headN)
  | 31 => some (rc_box_Lens isWb kLen vLen)
  | 32 => some (rc_r16_Lens isWb kLen vLen)
  | 34 => some (rc_box_Size isWb sizeN)
  | 35 => some (rc_r16_Size isWb sizeN)
  | 55 => some rc_r16_word
  | 54 => some (rc_box_cut textAt)
  | 56 => some (rc_r16_bytes isWs textAt)
  | 26 => some (rc_box_Words boxW)
  | 27 => some (rc_r16_Words boxW)
  | 28 => some (rc_box_Read isWs kLen manyV textAt vLen)
  | 29 => some (rc_r16_Read isWs kLen manyV textAt vLen)
  | _ => none
def wbxyDom : List FuncId := [25, 11, 48, 49, 50, 17, 18, 15, 16, 12, 13, 14, 33, 30, 31, 32, 34, 35, 55, 54, 56, 26, 27, 28, 29]
theorem wbxy_does : ∀ f rc, f ∈ wbxyDom → (wbxyT boxW byteRV byteV headN isWb isWs kLen manyV sizeN textA textAt textR vLen withRV wordsA wordsR) f = some rc → RcDoes Try.prog [] f rc := by
  intro f rc hf hT
  simp only [wbxyDom, List.mem_cons, List.not_mem_nil, or_false] at hf
  rcases hf with rfl | rfl | rfl | rfl | rfl | rfl | rfl | rfl | rfl | rfl | rfl | rfl | rfl | rfl | rfl | rfl | rfl | rfl | rfl | rfl | rfl | rfl | rfl | rfl | rfl
  · cases hT; exact rc_sprocketlaw16_awake_does
  · cases hT; exact rc_sprocketlaw04_awake_does
  · cases hT; exact rc_lane_Byte_does
  · cases hT; exact rc_r02_Byte_does
  · cases hT; exact rc_r02_With_does
  · cases hT; exact rc_pack_Many_does
  · cases hT; exact rc_r04_Many_does
  · cases hT; exact rc_pack_Words_does
  · cases hT; exact rc_r04_Words_does
  · cases hT; exact rc_pack_Text_does
  · cases hT; exact rc_r04_Text_does
  · cases hT; exact rc_r02_Words_does
  · cases hT; exact rc_box_Head_does
  · cases hT; exact rc_r16_Head_does
  · cases hT; exact rc_box_Lens_does
  · cases hT; exact rc_r16_Lens_does
  · cases hT; exact rc_box_Size_does
  · cases hT; exact rc_r16_Size_does
  · cases hT; exact rc_r16_word_does
  · cases hT; exact rc_box_cut_does
  · cases hT; exact rc_r16_bytes_does
  · cases hT; exact rc_box_Words_does
  · cases hT; exact rc_r16_Words_does
  · cases hT; exact rc_box_Read_does
  · cases hT; exact rc_r16_Read_does
theorem wbxy_fn : ∀ f ∈ wbxyDom, FnOk Try.prog f := fun f hf => fitB5.fnOk f (by
    have h0 : (wbxyDom.all fun f => fsB5.contains f) = true := by kernel_rfl
    simpa using List.all_eq_true.1 h0 f hf)
theorem wbxy_sound : SoundC Try.prog (conC wbxyDom (rcE [] (wbxyT boxW byteRV byteV headN isWb isWs kLen manyV sizeN textA textAt textR vLen withRV wordsA wordsR))) := rc_sound noVars wbxy_fn wbxy_does
noncomputable def wbxnT (byteRV : Int → Int → Int) (byteV : Int → Int → Int) (headN : ByteArray → ByteArray → Int) (isWb : Int → Bool) (isWs : List Int → Bool) (kLen : Int → Int) (manyV : Int → Int) (sizeN : Int → Int) (textA : List Int → Int → ByteArray × Bool) (textAt : List Int → Int → Int → ByteArray) (textR : List Int → Int → ByteArray × Bool) (vLen : Int → Int) (withRV : Int → Int → Int → Int) (wordsA : ByteArray → List Int) (wordsR : ByteArray → List Int) : RTab := fun f => match f with
  | 25 => some rc_sprocketlaw16_awake
  | 11 => some rc_sprocketlaw04_awake
  | 48 => some (rc_lane_Byte byteV)
  | 49 => some (rc_r02_Byte byteRV)
  | 50 => some (rc_r02_With withRV)
  | 17 => some (rc_pack_Many manyV)
  | 18 => some (rc_r04_Many manyV)
  | 15 => some (rc_pack_Words wordsA)
  | 16 => some (rc_r04_Words wordsR)
  | 12 => some (rc_pack_Text textA)
  | 13 => some (rc_r04_Text textR)
  | 14 => some rc_r02_Words
  | 33 => some (rc_box_Head headN)
  | 30 => some (rc_r16_Head headN)
  | 31 => some (rc_box_Lens isWb kLen vLen)
  | 32 => some (rc_r16_Lens isWb kLen vLen)
  | 34 => some (rc_box_Size isWb sizeN)
  | 35 => some (rc_r16_Size isWb sizeN)
  | 55 => some rc_r16_word
  | 54 => some (rc_box_cut textAt)
  | 56 => some (rc_r16_bytes isWs textAt)
  | 28 => some (rc_box_Read isWs kLen manyV textAt vLen)
  | 29 => some (rc_r16_Read isWs kLen manyV textAt vLen)
  | 26 => some rc_nof
  | 27 => some rc_nofR
  | _ => none
def wbxnDom : List FuncId := [25, 11, 48, 49, 50, 17, 18, 15, 16, 12, 13, 14, 33, 30, 31, 32, 34, 35, 55, 54, 56, 28, 29, 26, 27]
theorem wbxn_does : ∀ f rc, f ∈ wbxnDom → (wbxnT byteRV byteV headN isWb isWs kLen manyV sizeN textA textAt textR vLen withRV wordsA wordsR) f = some rc → RcDoes Try.prog [] f rc := by
  intro f rc hf hT
  simp only [wbxnDom, List.mem_cons, List.not_mem_nil, or_false] at hf
  rcases hf with rfl | rfl | rfl | rfl | rfl | rfl | rfl | rfl | rfl | rfl | rfl | rfl | rfl | rfl | rfl | rfl | rfl | rfl | rfl | rfl | rfl | rfl | rfl | rfl | rfl
  · cases hT; exact rc_sprocketlaw16_awake_does
  · cases hT; exact rc_sprocketlaw04_awake_does
  · cases hT; exact rc_lane_Byte_does
  · cases hT; exact rc_r02_Byte_does
  · cases hT; exact rc_r02_With_does
  · cases hT; exact rc_pack_Many_does
  · cases hT; exact rc_r04_Many_does
  · cases hT; exact rc_pack_Words_does
  · cases hT; exact rc_r04_Words_does
  · cases hT; exact rc_pack_Text_does
  · cases hT; exact rc_r04_Text_does
  · cases hT; exact rc_r02_Words_does
  · cases hT; exact rc_box_Head_does
  · cases hT; exact rc_r16_Head_does
  · cases hT; exact rc_box_Lens_does
  · cases hT; exact rc_r16_Lens_does
  · cases hT; exact rc_box_Size_does
  · cases hT; exact rc_r16_Size_does
  · cases hT; exact rc_r16_word_does
  · cases hT; exact rc_box_cut_does
  · cases hT; exact rc_r16_bytes_does
  · cases hT; exact rc_box_Read_does
  · cases hT; exact rc_r16_Read_does
  · cases hT; exact rc_nof_does
  · cases hT; exact rc_nofR_does
theorem wbxn_fn : ∀ f ∈ wbxnDom, FnOk Try.prog f := fun f hf => fitB5.fnOk f (by
    have h0 : (wbxnDom.all fun f => fsB5.contains f) = true := by kernel_rfl
    simpa using List.all_eq_true.1 h0 f hf)
theorem wbxn_sound : SoundC Try.prog (conC wbxnDom (rcE [] (wbxnT byteRV byteV headN isWb isWs kLen manyV sizeN textA textAt textR vLen withRV wordsA wordsR))) := rc_sound noVars wbxn_fn wbxn_does
theorem headN_word (ks vs : ByteArray) : word64 (headN ks vs) := by rw [headN_eq]; unfold word64; omega
theorem boxW_len (ks vs : ByteArray) : (boxW ks vs).length = 1 + manyN ks + manyN vs := by simp [boxW_eq, wordsN_len]; omega

end Go.Proofs.Ytnhdjmpbmecnoaa
