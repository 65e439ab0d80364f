/- A reader reads what a maker made: roads. -/
import Derived.Test.YtnhdjmpbmecnoaaBxB
import Derived.WalkKit
import Derived.ProofKit
import Derived.OpenShut
import Derived.ChangeOld
import Derived.Below
import Derived.SizedLaws
namespace Go.Proofs.Ytnhdjmpbmecnoaa
open Go.Eng
open Go.ChangeShapes Go.WideShapes Go.ChangeAt Go.RowKit
set_option linter.unusedVariables false
set_option linter.unusedSimpArgs false
set_option maxRecDepth 100000
theorem headN_word (ks vs : ByteArray) : word64 (headN ks vs) := by rw [headN_eq]; unfold word64; omega
theorem boxW_len (ks vs : ByteArray) : (boxW ks vs).length = 1 + manyN ks + manyN vs := by simp [boxW_eq, wordsN_len]; omega
theorem head_k {ks vs : ByteArray} (hk : ks.size ≤ 16) (hv : vs.size ≤ 24) : kLen (headN ks vs) = ((ks.size : Nat) : Int) ∧ vLen (headN ks vs) = ((vs.size : Nat) : Int) := by
  rw [headN_eq, Nat.min_eq_left (by omega), Nat.min_eq_left (by omega)]
  unfold kLen vLen
  constructor <;> (rw [if_neg (by omega)]; omega)
theorem boxW_get (ks vs : ByteArray) (i : Nat) : (boxW ks vs).getD (1 + i) 0 = if i < manyN ks then ((cat (LB ks (8 * i)) : Nat) : Int) else (wordsN vs).getD (i - manyN ks) 0 := by
  rw [boxW_eq, Nat.add_comm, List.getD_cons_succ, List.getD_eq_getElem?_getD, List.getElem?_append, wordsN_len]
  split
  · rename_i h
    rw [← List.getD_eq_getElem?_getD, wordsN_get h]
  · rw [← List.getD_eq_getElem?_getD]
theorem byteAt_LB {w : Int} {s : ByteArray} {i : Nat} (h : w = ((cat (LB s (8 * (i / 8))) : Nat) : Int)) : IntKind.wrap .u8 (byteV w ((i % 8 : Nat) : Int)) = ((bt s i : Nat) : Int) := by
  rw [h, byteV_get _ _ (by omega), bytes8_LB, LB_get _ _ _ (by omega), show 8 * (i / 8) + i % 8 = i by omega, wrap_u8 (bt_lt _ _)]
theorem read_k (ks vs : ByteArray) : textAt (boxW ks vs) 1 ((ks.size : Nat) : Int) = ks := by
  rw [textAt_eq]
  refine nums_back (by simp) fun p hp => ?_
  rw [Int.toNat_natCast, List.getD_eq_getElem?_getD, List.getElem?_map, List.getElem?_range hp]
  show byteAt (boxW ks vs) 1 p = _
  unfold byteAt
  rw [show Int.toNat 1 = 1 from rfl]
  refine byteAt_LB ?_
  rw [boxW_get, if_pos (by unfold manyN; omega)]
theorem read_v (ks vs : ByteArray) : textAt (boxW ks vs) (1 + manyV ((ks.size : Nat) : Int)) ((vs.size : Nat) : Int) = vs := by
  rw [textAt_eq, many_size]
  refine nums_back (by simp) fun p hp => ?_
  rw [Int.toNat_natCast, List.getD_eq_getElem?_getD, List.getElem?_map, List.getElem?_range hp]
  show byteAt (boxW ks vs) _ p = _
  unfold byteAt
  rw [show Int.toNat (1 + ((manyN ks : Nat) : Int)) + p / 8 = 1 + (manyN ks + p / 8) by omega]
  refine byteAt_LB ?_
  rw [boxW_get, if_neg (by omega), show manyN ks + p / 8 - manyN ks = p / 8 by omega, wordsN_get (by unfold manyN; omega)]
theorem boxW_0 (ks vs : ByteArray) : (boxW ks vs).getD 0 0 = headN ks vs := by rw [boxW_eq]; rfl
theorem boxW_size {ks vs : ByteArray} (hk : ks.size ≤ 16) (hv : vs.size ≤ 24) : (((boxW ks vs).length : Nat) : Int) = sizeN ((boxW ks vs).getD 0 0) := by
  rw [boxW_0, boxW_len]
  unfold sizeN
  rw [(head_k hk hv).1, (head_k hk hv).2, many_size, many_size]
  omega
theorem wordsN_word (s : ByteArray) : ∀ n ∈ wordsN s, word64 n := by
  intro n hn
  obtain ⟨j, _, rfl⟩ := List.mem_map.1 hn
  have := LB_lt s (8 * j)
  exact ⟨by omega, by omega⟩
theorem boxW_word (ks vs : ByteArray) : ∀ n ∈ boxW ks vs, word64 n := by
  intro n hn
  rw [boxW_eq] at hn
  rcases List.mem_cons.1 hn with rfl | hn
  · exact headN_word ks vs
  · rcases List.mem_append.1 hn with hn | hn
    · exact wordsN_word ks n hn
    · exact wordsN_word vs n hn
theorem boxW_inj {ks vs os ov : ByteArray} (hk : ks.size ≤ 16) (hv : vs.size ≤ 24) (ho : os.size ≤ 16) (hp : ov.size ≤ 24) (h : boxW ks vs = boxW os ov) : ks = os ∧ vs = ov := by
  have h0 : headN ks vs = headN os ov := by rw [← boxW_0, ← boxW_0, h]
  have hks : ((ks.size : Nat) : Int) = ((os.size : Nat) : Int) := by rw [← (head_k hk hv).1, ← (head_k ho hp).1, h0]
  have hvs : ((vs.size : Nat) : Int) = ((ov.size : Nat) : Int) := by rw [← (head_k hk hv).2, ← (head_k ho hp).2, h0]
  exact ⟨by rw [← read_k ks vs, ← read_k os ov, h, hks], by rw [← read_v ks vs, ← read_v os ov, h, hks, hvs]⟩
theorem str_t {a b : ByteArray} (h : a = b) : (a.toList == b.toList) = true := by rw [h]; exact beq_self_eq_true _
theorem str_f {a b : ByteArray} (h : a ≠ b) : (a.toList == b.toList) = false := by
  cases e : (a.toList == b.toList) with
  | false => rfl
  | true =>
    rw [beq_iff_eq, ByteArray.toList_eq, ByteArray.toList_eq] at e
    exact absurd (Go.WideShapes.bytes_inj e) h
noncomputable def cfgK : Cfg := ⟨[35, 39]⟩
noncomputable def fsK : List FuncId := [10, 19, 20, 22, 23, 24, 26, 28, 34, 37, 38, 39, 40, 42, 43, 45, 46, 47, 52, 53, 58, 61, 62, 63, 67, 68, 69, 70, 73]
theorem fitK : Fit Try.prog cfgK fsK := ⟨by kernel_rfl, Cfg.ok_of (by kernel_rfl), by kernel_rfl⟩
noncomputable def rdnT (isWb : Int → Bool) (isWs : List Int → Bool) (kLen : Int → Int) (manyV : Int → Int) (sizeN : Int → Int) (textAt : List Int → Int → Int → ByteArray) (vLen : Int → Int) : RTab := fun f => match f with
  | 34 => some (rc_box_Size isWb sizeN)
  | 28 => some (rc_box_Read isWs kLen manyV textAt vLen)
  | _ => none
def rdnDom : List FuncId := [34, 28]
theorem rdn_does : ∀ f rc, f ∈ rdnDom → (rdnT isWb isWs kLen manyV sizeN textAt vLen) f = some rc → RcDoes Try.prog [] f rc := by
  intro f rc hf hT
  simp only [rdnDom, List.mem_cons, List.not_mem_nil, or_false] at hf
  rcases hf with rfl | rfl
  · cases hT; exact rc_box_Size_does
  · cases hT; exact rc_box_Read_does
theorem rdn_fn : ∀ f ∈ rdnDom, FnOk Try.prog f := fun f hf => fitK.fnOk f (by
    have h0 : (rdnDom.all fun f => fsK.contains f) = true := by kernel_rfl
    simpa using List.all_eq_true.1 h0 f hf)
theorem rdn_sound : SoundC Try.prog (conC rdnDom (rcE [] (rdnT isWb isWs kLen manyV sizeN textAt vLen))) := rc_sound noVars rdn_fn rdn_does
theorem awake18_told : Tells Try.prog 19 [] (bare Try.prog) (.bool true) := by
  refine Tells.of_tree (h := (bareK Try.prog)) fitK rdn_sound (rc_agree _ _ _) (by kernel_rfl) rfl (show Ro (bare Try.prog) from Ro.bare) (n := 70) (d := 40) ?_
  kernel_rfl
noncomputable def rc_sprocketlaw18_awake : RC := ⟨[], fun avs => match avs with | [] => true | _ => false,
  fun N avs => match avs with | [] => ((.bool true), [], []) | _ => (.bool false, [], [])⟩
theorem rc_sprocketlaw18_awake_does : RcDoes Try.prog [] 19 rc_sprocketlaw18_awake := by
  intro vb avs args blks hv hs hp
  cases hv
  cases hs
  exact DoesC.bare noVars rfl awake18_told
noncomputable def rrT (boxW : ByteArray → ByteArray → List Int) (isWb : Int → Bool) (isWs : List Int → Bool) (kLen : Int → Int) (manyV : Int → Int) (sizeN : Int → Int) (textAt : List Int → Int → Int → ByteArray) (vLen : Int → Int) : RTab := fun f => match f with
  | 19 => some rc_sprocketlaw18_awake
  | 34 => some (rc_box_Size isWb sizeN)
  | 26 => some (rc_box_Words boxW)
  | 28 => some (rc_box_Read isWs kLen manyV textAt vLen)
  | _ => none
def rrDom : List FuncId := [19, 34, 26, 28]
theorem rr_does : ∀ f rc, f ∈ rrDom → (rrT boxW isWb isWs kLen manyV sizeN textAt vLen) f = some rc → RcDoes Try.prog [] f rc := by
  intro f rc hf hT
  simp only [rrDom, List.mem_cons, List.not_mem_nil, or_false] at hf
  rcases hf with rfl | rfl | rfl | rfl
  · cases hT; exact rc_sprocketlaw18_awake_does
  · cases hT; exact rc_box_Size_does
  · cases hT; exact rc_box_Words_does
  · cases hT; exact rc_box_Read_does
theorem rr_fn : ∀ f ∈ rrDom, FnOk Try.prog f := fun f hf => fitK.fnOk f (by
    have h0 : (rrDom.all fun f => fsK.contains f) = true := by kernel_rfl
    simpa using List.all_eq_true.1 h0 f hf)
theorem rr_sound : SoundC Try.prog (conC rrDom (rcE [] (rrT boxW isWb isWs kLen manyV sizeN textAt vLen))) := rc_sound noVars rr_fn rr_does
noncomputable def rc_bs1 (isWb : Int → Bool) (sizeN : Int → Int) : RC := ⟨[.int .u64], fun avs => match avs with | [.int w] => ((isWb w) && ((sizeN w) == 1)) | _ => false,
  fun N avs => match avs with | [.int w] => ((.int .i64 1), [], []) | _ => (.bool false, [], [])⟩
theorem rc_bs1_does : RcDoes Try.prog [] 34 (rc_bs1 isWb sizeN) := by
  intro vb avs args blks hv hs hp
  cases hv
  cases hs with
  | int w hs =>
    cases hs
    have hp : (isWb w && (sizeN w == 1)) = true := hp
    simp only [Bool.and_eq_true] at hp
    have h := size_told w (isWb_word hp.1)
    rw [show sizeN w = 1 by simpa using hp.2] at h
    exact DoesC.bare noVars rfl h
noncomputable def rs1T (isWb : Int → Bool) (sizeN : Int → Int) : RTab := fun f => match f with
  | 34 => some (rc_bs1 isWb sizeN)
  | _ => none
def rs1Dom : List FuncId := [34]
theorem rs1_does : ∀ f rc, f ∈ rs1Dom → (rs1T isWb sizeN) f = some rc → RcDoes Try.prog [] f rc := by
  intro f rc hf hT
  simp only [rs1Dom, List.mem_cons, List.not_mem_nil, or_false] at hf
  subst hf
  cases hT; exact rc_bs1_does
theorem rs1_fn : ∀ f ∈ rs1Dom, FnOk Try.prog f := fun f hf => fitK.fnOk f (by
    have h0 : (rs1Dom.all fun f => fsK.contains f) = true := by kernel_rfl
    simpa using List.all_eq_true.1 h0 f hf)
theorem rs1_sound : SoundC Try.prog (conC rs1Dom (rcE [] (rs1T isWb sizeN))) := rc_sound noVars rs1_fn rs1_does
noncomputable def rc_bs2 (isWb : Int → Bool) (sizeN : Int → Int) : RC := ⟨[.int .u64], fun avs => match avs with | [.int w] => ((isWb w) && ((sizeN w) == 2)) | _ => false,
  fun N avs => match avs with | [.int w] => ((.int .i64 2), [], []) | _ => (.bool false, [], [])⟩
theorem rc_bs2_does : RcDoes Try.prog [] 34 (rc_bs2 isWb sizeN) := by
  intro vb avs args blks hv hs hp
  cases hv
  cases hs with
  | int w hs =>
    cases hs
    have hp : (isWb w && (sizeN w == 2)) = true := hp
    simp only [Bool.and_eq_true] at hp
    have h := size_told w (isWb_word hp.1)
    rw [show sizeN w = 2 by simpa using hp.2] at h
    exact DoesC.bare noVars rfl h
noncomputable def rs2T (isWb : Int → Bool) (sizeN : Int → Int) : RTab := fun f => match f with
  | 34 => some (rc_bs2 isWb sizeN)
  | _ => none
def rs2Dom : List FuncId := [34]
theorem rs2_does : ∀ f rc, f ∈ rs2Dom → (rs2T isWb sizeN) f = some rc → RcDoes Try.prog [] f rc := by
  intro f rc hf hT
  simp only [rs2Dom, List.mem_cons, List.not_mem_nil, or_false] at hf
  subst hf
  cases hT; exact rc_bs2_does
theorem rs2_fn : ∀ f ∈ rs2Dom, FnOk Try.prog f := fun f hf => fitK.fnOk f (by
    have h0 : (rs2Dom.all fun f => fsK.contains f) = true := by kernel_rfl
    simpa using List.all_eq_true.1 h0 f hf)
theorem rs2_sound : SoundC Try.prog (conC rs2Dom (rcE [] (rs2T isWb sizeN))) := rc_sound noVars rs2_fn rs2_does
noncomputable def rc_bs3 (isWb : Int → Bool) (sizeN : Int → Int) : RC := ⟨[.int .u64], fun avs => match avs with | [.int w] => ((isWb w) && ((sizeN w) == 3)) | _ => false,
  fun N avs => match avs with | [.int w] => ((.int .i64 3), [], []) | _ => (.bool false, [], [])⟩
theorem rc_bs3_does : RcDoes Try.prog [] 34 (rc_bs3 isWb sizeN) := by
  intro vb avs args blks hv hs hp
  cases hv
  cases hs with
  | int w hs =>
    cases hs
    have hp : (isWb w && (sizeN w == 3)) = true := hp
    simp only [Bool.and_eq_true] at hp
    have h := size_told w (isWb_word hp.1)
    rw [show sizeN w = 3 by simpa using hp.2] at h
    exact DoesC.bare noVars rfl h
noncomputable def rs3T (isWb : Int → Bool) (sizeN : Int → Int) : RTab := fun f => match f with
  | 34 => some (rc_bs3 isWb sizeN)
  | _ => none
def rs3Dom : List FuncId := [34]
theorem rs3_does : ∀ f rc, f ∈ rs3Dom → (rs3T isWb sizeN) f = some rc → RcDoes Try.prog [] f rc := by
  intro f rc hf hT
  simp only [rs3Dom, List.mem_cons, List.not_mem_nil, or_false] at hf
  subst hf
  cases hT; exact rc_bs3_does
theorem rs3_fn : ∀ f ∈ rs3Dom, FnOk Try.prog f := fun f hf => fitK.fnOk f (by
    have h0 : (rs3Dom.all fun f => fsK.contains f) = true := by kernel_rfl
    simpa using List.all_eq_true.1 h0 f hf)
theorem rs3_sound : SoundC Try.prog (conC rs3Dom (rcE [] (rs3T isWb sizeN))) := rc_sound noVars rs3_fn rs3_does
noncomputable def rc_bs4 (isWb : Int → Bool) (sizeN : Int → Int) : RC := ⟨[.int .u64], fun avs => match avs with | [.int w] => ((isWb w) && ((sizeN w) == 4)) | _ => false,
  fun N avs => match avs with | [.int w] => ((.int .i64 4), [], []) | _ => (.bool false, [], [])⟩
theorem rc_bs4_does : RcDoes Try.prog [] 34 (rc_bs4 isWb sizeN) := by
  intro vb avs args blks hv hs hp
  cases hv
  cases hs with
  | int w hs =>
    cases hs
    have hp : (isWb w && (sizeN w == 4)) = true := hp
    simp only [Bool.and_eq_true] at hp
    have h := size_told w (isWb_word hp.1)
    rw [show sizeN w = 4 by simpa using hp.2] at h
    exact DoesC.bare noVars rfl h
noncomputable def rs4T (isWb : Int → Bool) (sizeN : Int → Int) : RTab := fun f => match f with
  | 34 => some (rc_bs4 isWb sizeN)
  | _ => none
def rs4Dom : List FuncId := [34]
theorem rs4_does : ∀ f rc, f ∈ rs4Dom → (rs4T isWb sizeN) f = some rc → RcDoes Try.prog [] f rc := by
  intro f rc hf hT
  simp only [rs4Dom, List.mem_cons, List.not_mem_nil, or_false] at hf
  subst hf
  cases hT; exact rc_bs4_does
theorem rs4_fn : ∀ f ∈ rs4Dom, FnOk Try.prog f := fun f hf => fitK.fnOk f (by
    have h0 : (rs4Dom.all fun f => fsK.contains f) = true := by kernel_rfl
    simpa using List.all_eq_true.1 h0 f hf)
theorem rs4_sound : SoundC Try.prog (conC rs4Dom (rcE [] (rs4T isWb sizeN))) := rc_sound noVars rs4_fn rs4_does
noncomputable def rc_bs5 (isWb : Int → Bool) (sizeN : Int → Int) : RC := ⟨[.int .u64], fun avs => match avs with | [.int w] => ((isWb w) && ((sizeN w) == 5)) | _ => false,
  fun N avs => match avs with | [.int w] => ((.int .i64 5), [], []) | _ => (.bool false, [], [])⟩
theorem rc_bs5_does : RcDoes Try.prog [] 34 (rc_bs5 isWb sizeN) := by
  intro vb avs args blks hv hs hp
  cases hv
  cases hs with
  | int w hs =>
    cases hs
    have hp : (isWb w && (sizeN w == 5)) = true := hp
    simp only [Bool.and_eq_true] at hp
    have h := size_told w (isWb_word hp.1)
    rw [show sizeN w = 5 by simpa using hp.2] at h
    exact DoesC.bare noVars rfl h
noncomputable def rs5T (isWb : Int → Bool) (sizeN : Int → Int) : RTab := fun f => match f with
  | 34 => some (rc_bs5 isWb sizeN)
  | _ => none
def rs5Dom : List FuncId := [34]
theorem rs5_does : ∀ f rc, f ∈ rs5Dom → (rs5T isWb sizeN) f = some rc → RcDoes Try.prog [] f rc := by
  intro f rc hf hT
  simp only [rs5Dom, List.mem_cons, List.not_mem_nil, or_false] at hf
  subst hf
  cases hT; exact rc_bs5_does
theorem rs5_fn : ∀ f ∈ rs5Dom, FnOk Try.prog f := fun f hf => fitK.fnOk f (by
    have h0 : (rs5Dom.all fun f => fsK.contains f) = true := by kernel_rfl
    simpa using List.all_eq_true.1 h0 f hf)
theorem rs5_sound : SoundC Try.prog (conC rs5Dom (rcE [] (rs5T isWb sizeN))) := rc_sound noVars rs5_fn rs5_does
noncomputable def rc_bs6 (isWb : Int → Bool) (sizeN : Int → Int) : RC := ⟨[.int .u64], fun avs => match avs with | [.int w] => ((isWb w) && ((sizeN w) == 6)) | _ => false,
  fun N avs => match avs with | [.int w] => ((.int .i64 6), [], []) | _ => (.bool false, [], [])⟩
theorem rc_bs6_does : RcDoes Try.prog [] 34 (rc_bs6 isWb sizeN) := by
  intro vb avs args blks hv hs hp
  cases hv
  cases hs with
  | int w hs =>
    cases hs
    have hp : (isWb w && (sizeN w == 6)) = true := hp
    simp only [Bool.and_eq_true] at hp
    have h := size_told w (isWb_word hp.1)
    rw [show sizeN w = 6 by simpa using hp.2] at h
    exact DoesC.bare noVars rfl h
noncomputable def rs6T (isWb : Int → Bool) (sizeN : Int → Int) : RTab := fun f => match f with
  | 34 => some (rc_bs6 isWb sizeN)
  | _ => none
def rs6Dom : List FuncId := [34]
theorem rs6_does : ∀ f rc, f ∈ rs6Dom → (rs6T isWb sizeN) f = some rc → RcDoes Try.prog [] f rc := by
  intro f rc hf hT
  simp only [rs6Dom, List.mem_cons, List.not_mem_nil, or_false] at hf
  subst hf
  cases hT; exact rc_bs6_does
theorem rs6_fn : ∀ f ∈ rs6Dom, FnOk Try.prog f := fun f hf => fitK.fnOk f (by
    have h0 : (rs6Dom.all fun f => fsK.contains f) = true := by kernel_rfl
    simpa using List.all_eq_true.1 h0 f hf)
theorem rs6_sound : SoundC Try.prog (conC rs6Dom (rcE [] (rs6T isWb sizeN))) := rc_sound noVars rs6_fn rs6_does
noncomputable def BK : Code := bodyOf Try.prog 10
theorem BK_is : Try.f10.body = some BK := by kernel_rfl
theorem BK_ok : okCode Try.prog.globals.size BK = true := by kernel_rfl
noncomputable abbrev KEV (boxW : ByteArray → ByteArray → List Int) (isWb : Int → Bool) (isWs : List Int → Bool) (kLen : Int → Int) (manyV : Int → Int) (sizeN : Int → Int) (textAt : List Int → Int → Int → ByteArray) (vLen : Int → Int) (c : Code) (s : KSt) (lv : List Nat) : Option (Ex × KSt) := evCK Try.prog cfgK (runK Try.prog cfgK fsK (conTk rrDom (rcK [] (rrT boxW isWb isWs kLen manyV sizeN textAt vLen))) 40 40) 40 c s (normC 0 lv)
theorem Kgo {lv_ : List Nat} {co_ : Code} {st_ s' : KSt} {x : Ex} {Q : Ex → St → Prop} (hE_ : KEV boxW isWb isWs kLen manyV sizeN textAt vLen co_ st_ lv_ = some (x, s')) (hq_ : Q x s'.low) (hok_ : okCode Try.prog.globals.size co_ = true := by kernel_rfl) : Gets Try.prog (KH.low ⟨0, 1, []⟩) co_ st_.low Q := Gets.ofN fitK rr_sound (rc_agree _ _ _) 40 40 hok_ hE_ hq_
theorem KeX {v : Value} {b c : Bool} (h : v = .bool b) (hb : b = c) : v = .bool c := by rw [h, hb]
theorem KC : BK = .seq (codeAt [0] BK) (codeAt [1] BK) := by kernel_rfl
theorem KC1 : (codeAt [1] BK) = .seq (codeAt [1, 0] BK) (codeAt [1, 1] BK) := by kernel_rfl
theorem KC1_0 : (codeAt [1, 0] BK) = .seq (codeAt [1, 0, 0] BK) (codeAt [1, 0, 1] BK) := by kernel_rfl
theorem KC1_0_1 : (codeAt [1, 0, 1] BK) = .cond (.tmp 32) (codeAt [1, 0, 1, 0] BK) (codeAt [1, 0, 1, 1] BK) := by kernel_rfl
theorem KC1_0_1_0 : (codeAt [1, 0, 1, 0] BK) = .seq (codeAt [1, 0, 1, 0, 0] BK) (codeAt [1, 0, 1, 0, 1] BK) := by kernel_rfl
theorem KC1_0_1_0_1 : (codeAt [1, 0, 1, 0, 1] BK) = .ret := by kernel_rfl
theorem KC1_1 : (codeAt [1, 1] BK) = .seq (codeAt [1, 1, 0] BK) (codeAt [1, 1, 1] BK) := by kernel_rfl
theorem KC1_1_1 : (codeAt [1, 1, 1] BK) = .seq (codeAt [1, 1, 1, 0] BK) (codeAt [1, 1, 1, 1] BK) := by kernel_rfl
theorem KC1_1_1_1 : (codeAt [1, 1, 1, 1] BK) = .seq (codeAt [1, 1, 1, 1, 0] BK) (codeAt [1, 1, 1, 1, 1] BK) := by kernel_rfl
theorem KC1_1_1_1_1 : (codeAt [1, 1, 1, 1, 1] BK) = .seq (codeAt [1, 1, 1, 1, 1, 0] BK) (codeAt [1, 1, 1, 1, 1, 1] BK) := by kernel_rfl
theorem KC1_1_1_1_1_1 : (codeAt [1, 1, 1, 1, 1, 1] BK) = .seq (codeAt [1, 1, 1, 1, 1, 1, 0] BK) (codeAt [1, 1, 1, 1, 1, 1, 1] BK) := by kernel_rfl
theorem KC1_1_1_1_1_1_1 : (codeAt [1, 1, 1, 1, 1, 1, 1] BK) = .seq (codeAt [1, 1, 1, 1, 1, 1, 1, 0] BK) (codeAt [1, 1, 1, 1, 1, 1, 1, 1] BK) := by kernel_rfl
theorem KC1_1_1_1_1_1_1_0 : (codeAt [1, 1, 1, 1, 1, 1, 1, 0] BK) = .seq (codeAt [1, 1, 1, 1, 1, 1, 1, 0, 0] BK) (codeAt [1, 1, 1, 1, 1, 1, 1, 0, 1] BK) := by kernel_rfl
theorem KC1_1_1_1_1_1_1_0_1 : (codeAt [1, 1, 1, 1, 1, 1, 1, 0, 1] BK) = .cond (.tmp 58) (codeAt [1, 1, 1, 1, 1, 1, 1, 0, 1, 0] BK) (codeAt [1, 1, 1, 1, 1, 1, 1, 0, 1, 1] BK) := by kernel_rfl
theorem KC1_1_1_1_1_1_1_1 : (codeAt [1, 1, 1, 1, 1, 1, 1, 1] BK) = .seq (codeAt [1, 1, 1, 1, 1, 1, 1, 1, 0] BK) (codeAt [1, 1, 1, 1, 1, 1, 1, 1, 1] BK) := by kernel_rfl
theorem KC1_1_1_1_1_1_1_1_1_1 : (codeAt [1, 1, 1, 1, 1, 1, 1, 1, 1, 1] BK) = .seq (codeAt [1, 1, 1, 1, 1, 1, 1, 1, 1, 1, 0] BK) (codeAt [1, 1, 1, 1, 1, 1, 1, 1, 1, 1, 1] BK) := by kernel_rfl
theorem KC1_1_1_1_1_1_1_1_1_1_1 : (codeAt [1, 1, 1, 1, 1, 1, 1, 1, 1, 1, 1] BK) = .seq (codeAt [1, 1, 1, 1, 1, 1, 1, 1, 1, 1, 1, 0] BK) (codeAt [1, 1, 1, 1, 1, 1, 1, 1, 1, 1, 1, 1] BK) := by kernel_rfl
theorem KC1_1_1_1_1_1_1_1_1_1_1_0 : (codeAt [1, 1, 1, 1, 1, 1, 1, 1, 1, 1, 1, 0] BK) = .seq (codeAt [1, 1, 1, 1, 1, 1, 1, 1, 1, 1, 1, 0, 0] BK) (codeAt [1, 1, 1, 1, 1, 1, 1, 1, 1, 1, 1, 0, 1] BK) := by kernel_rfl
theorem KC1_1_1_1_1_1_1_1_1_1_1_0_1 : (codeAt [1, 1, 1, 1, 1, 1, 1, 1, 1, 1, 1, 0, 1] BK) = .cond (.tmp 97) (codeAt [1, 1, 1, 1, 1, 1, 1, 1, 1, 1, 1, 0, 1, 0] BK) (codeAt [1, 1, 1, 1, 1, 1, 1, 1, 1, 1, 1, 0, 1, 1] BK) := by kernel_rfl
theorem KC1_1_1_1_1_1_1_1_1_1_1_1 : (codeAt [1, 1, 1, 1, 1, 1, 1, 1, 1, 1, 1, 1] BK) = .seq (codeAt [1, 1, 1, 1, 1, 1, 1, 1, 1, 1, 1, 1, 0] BK) (codeAt [1, 1, 1, 1, 1, 1, 1, 1, 1, 1, 1, 1, 1] BK) := by kernel_rfl
theorem KC1_1_1_1_1_1_1_1_1_1_1_1_1_1 : (codeAt [1, 1, 1, 1, 1, 1, 1, 1, 1, 1, 1, 1, 1, 1] BK) = .seq (codeAt [1, 1, 1, 1, 1, 1, 1, 1, 1, 1, 1, 1, 1, 1, 0] BK) (codeAt [1, 1, 1, 1, 1, 1, 1, 1, 1, 1, 1, 1, 1, 1, 1] BK) := by kernel_rfl
theorem KC1_1_1_1_1_1_1_1_1_1_1_1_1_1_1 : (codeAt [1, 1, 1, 1, 1, 1, 1, 1, 1, 1, 1, 1, 1, 1, 1] BK) = .seq (codeAt [1, 1, 1, 1, 1, 1, 1, 1, 1, 1, 1, 1, 1, 1, 1, 0] BK) (codeAt [1, 1, 1, 1, 1, 1, 1, 1, 1, 1, 1, 1, 1, 1, 1, 1] BK) := by kernel_rfl
theorem KC1_1_1_1_1_1_1_1_1_1_1_1_1_1_1_1 : (codeAt [1, 1, 1, 1, 1, 1, 1, 1, 1, 1, 1, 1, 1, 1, 1, 1] BK) = .ret := by kernel_rfl
section
variable (boxW : ByteArray → ByteArray → List Int) (isWb : Int → Bool) (isWs : List Int → Bool) (kLen : Int → Int) (manyV : Int → Int) (sizeN : Int → Int) (textAt : List Int → Int → Int → ByteArray) (vLen : Int → Int)
noncomputable def KS0 (ks : ByteArray) (vs : ByteArray) (os : ByteArray) : KSt := (firstK [(.string ks), (.string vs), (.string os)] 120 ⟨0, 1, []⟩)
noncomputable def KS1 (ks : ByteArray) (vs : ByteArray) (os : ByteArray) : KSt := ⟨(frameL 120 [(0, (.string ks)), (1, (.string vs)), (2, (.string os))]), ⟨0, 1, []⟩⟩
theorem KR1 (ks : ByteArray) (vs : ByteArray) (os : ByteArray) : KEV boxW isWb isWs kLen manyV sizeN textAt vLen (codeAt [0] BK) (KS0 ks vs os) [0, 1, 2] =
  some (.normal, (KS1 ks vs os)) := by kernel_rfl
noncomputable def KS2 (ks : ByteArray) (vs : ByteArray) (os : ByteArray) : KSt := ⟨(frameL 120 [(0, (.string ks)), (1, (.string vs)), (2, (.string os)), (32, (.bool true))]), ⟨0, 1, []⟩⟩
noncomputable def KS3 (ks : ByteArray) (vs : ByteArray) (os : ByteArray) : KSt := ⟨(frameL 120 [(0, (.string ks)), (1, (.string vs)), (2, (.string os)), (32, (.bool (decide ((((ByteArray.size os) : Nat) : Int) > 16))))]), ⟨0, 1, []⟩⟩
theorem KR2 (ks : ByteArray) (vs : ByteArray) (os : ByteArray) : KEV boxW isWb isWs kLen manyV sizeN textAt vLen (codeAt [1, 0, 0] BK) (KS1 ks vs os) [0, 1, 2, 32] =
  bif (decide ((((ByteArray.size ks) : Nat) : Int) > 16)) then
    some (.normal, (KS2 ks vs os))
  else
    bif (decide ((((ByteArray.size vs) : Nat) : Int) > 24)) then
      some (.normal, (KS2 ks vs os))
    else
      some (.normal, (KS3 ks vs os)) := by kernel_rfl
noncomputable def KS4  : KSt := ⟨(frameL 120 [(6, (.bool true))]), ⟨0, 1, []⟩⟩
theorem KR3 (ks : ByteArray) (vs : ByteArray) (os : ByteArray) : KEV boxW isWb isWs kLen manyV sizeN textAt vLen (codeAt [1, 0, 1, 0, 0] BK) (KS2 ks vs os) [6] =
  some (.normal, KS4) := by kernel_rfl
theorem KR4 (ks : ByteArray) (vs : ByteArray) (os : ByteArray) : KEV boxW isWb isWs kLen manyV sizeN textAt vLen (codeAt [1, 0, 1, 0, 0] BK) (KS3 ks vs os) [6] =
  some (.normal, KS4) := by kernel_rfl
theorem KR5 (ks : ByteArray) (vs : ByteArray) (os : ByteArray) : KEV boxW isWb isWs kLen manyV sizeN textAt vLen (codeAt [1, 0, 1, 1] BK) (KS3 ks vs os) [0, 1, 2] =
  some (.normal, (KS1 ks vs os)) := by kernel_rfl
noncomputable def KS5 (ks : ByteArray) (vs : ByteArray) (os : ByteArray) : KSt := ⟨(frameL 120 [(0, (.string ks)), (1, (.string vs)), (2, (.string os)), (7, (.pointer (some ⟨0, 0, none⟩)))]), ⟨2, 1, [(1, 0, .map [] 0), (0, 0, .cells [(.int .i64 20), (.int .i64 0), (.int .i64 0), (.int .u64 0), (.map (some 1))] 94 true)]⟩⟩
theorem KR6 (ks : ByteArray) (vs : ByteArray) (os : ByteArray) : KEV boxW isWb isWs kLen manyV sizeN textAt vLen (codeAt [1, 1, 0] BK) (KS1 ks vs os) [0, 1, 2, 7] =
  some (.normal, (KS5 ks vs os)) := by kernel_rfl
noncomputable def KS6 (ks : ByteArray) (vs : ByteArray) (os : ByteArray) : KSt := ⟨(frameL 120 [(0, (.string ks)), (1, (.string vs)), (7, (.pointer (some ⟨0, 0, none⟩))), (8, (.pointer (some ⟨1, 0, none⟩))), (9, (.pointer (some ⟨2, 0, none⟩)))]), ⟨6, 1, [(5, 0, .ints .u64 (boxW ks vs) 30 true), (4, 0, .ints .u64 (boxW os (⟨#[]⟩ : ByteArray)) 30 true), (3, 0, .map [] 0), (2, 0, .cells [(.bool true), (.slice (some ⟨5, 0, none⟩) (List.length (boxW ks vs)) (List.length (boxW ks vs))), (.int .u64 0), (.int .i64 (-1)), (.int .i64 5), (.int .u64 0), (.int .i64 (((List.length (boxW ks vs)) : Nat) : Int)), (.int .u64 0), (.int .u64 0)] 88 true), (1, 0, .cells [(.bool true), (.slice (some ⟨4, 0, none⟩) (List.length (boxW os (⟨#[]⟩ : ByteArray))) (List.length (boxW os (⟨#[]⟩ : ByteArray)))), (.int .u64 0), (.int .i64 (-1)), (.int .i64 5), (.int .u64 0), (.int .i64 (((List.length (boxW os (⟨#[]⟩ : ByteArray))) : Nat) : Int)), (.int .u64 0), (.int .u64 0)] 88 true), (0, 0, .cells [(.int .i64 20), (.int .i64 0), (.int .i64 0), (.int .u64 0), (.map (some 3))] 94 true)]⟩⟩
theorem KR7 (ks : ByteArray) (vs : ByteArray) (os : ByteArray) : KEV boxW isWb isWs kLen manyV sizeN textAt vLen (codeAt [1, 1, 1, 0] BK) (KS5 ks vs os) [0, 1, 7, 8, 9] =
  bif ((Nat.ble (ByteArray.size os) 16) && (Nat.ble (ByteArray.size (⟨#[]⟩ : ByteArray)) 24)) then
    bif ((Nat.ble (ByteArray.size ks) 16) && (Nat.ble (ByteArray.size vs) 24)) then
      some (.normal, (KS6 boxW ks vs os))
    else
      none
  else
    none := by kernel_rfl
noncomputable def KS7 (ks : ByteArray) (vs : ByteArray) (W : List Int) (X : List Int) (k : Nat) (m : Nat) : KSt := ⟨(frameL 120 [(0, (.string ks)), (1, (.string vs)), (7, (.pointer (some ⟨0, 0, none⟩))), (8, (.pointer (some ⟨1, 0, none⟩))), (9, (.pointer (some ⟨2, 0, none⟩)))]), ⟨6, 1, [(5, 0, .ints .u64 W 30 true), (4, 0, .ints .u64 X 30 true), (3, 0, .map [] 0), (2, 0, .cells [(.bool true), (.slice (some ⟨5, 0, none⟩) k k), (.int .u64 0), (.int .i64 (-1)), (.int .i64 5), (.int .u64 0), (.int .i64 ((k : Nat) : Int)), (.int .u64 0), (.int .u64 0)] 88 true), (1, 0, .cells [(.bool true), (.slice (some ⟨4, 0, none⟩) m m), (.int .u64 0), (.int .i64 (-1)), (.int .i64 5), (.int .u64 0), (.int .i64 ((m : Nat) : Int)), (.int .u64 0), (.int .u64 0)] 88 true), (0, 0, .cells [(.int .i64 20), (.int .i64 0), (.int .i64 0), (.int .u64 0), (.map (some 3))] 94 true)]⟩⟩
noncomputable def KS8 (ks : ByteArray) (vs : ByteArray) (W : List Int) (X : List Int) (k : Nat) : KSt := ⟨(frameL 120 [(0, (.string ks)), (1, (.string vs)), (7, (.pointer (some ⟨0, 0, none⟩))), (8, (.pointer (some ⟨1, 0, none⟩))), (9, (.pointer (some ⟨2, 0, none⟩)))]), ⟨6, 1, [(5, 0, .ints .u64 W 30 true), (4, 0, .ints .u64 X 30 true), (3, 0, .map [] 0), (2, 0, .cells [(.bool true), (.slice (some ⟨5, 0, none⟩) k k), (.int .u64 0), (.int .i64 (-1)), (.int .i64 5), (.int .u64 0), (.int .i64 ((k : Nat) : Int)), (.int .u64 0), (.int .u64 0)] 88 true), (1, 0, .cells [(.bool true), (.slice (some ⟨4, 0, none⟩) 1 1), (.int .u64 0), (.int .i64 (-1)), (.int .i64 5), (.int .u64 0), (.int .i64 1), (.int .u64 0), (.int .u64 0)] 88 true), (0, 0, .cells [(.int .i64 20), (.int .i64 0), (.int .i64 0), (.int .u64 0), (.map (some 3))] 94 true)]⟩⟩
noncomputable def KS9 (ks : ByteArray) (vs : ByteArray) (n1 : Int) (W : List Int) (k : Nat) : KSt := ⟨(frameL 120 [(0, (.string ks)), (1, (.string vs)), (7, (.pointer (some ⟨0, 0, none⟩))), (9, (.pointer (some ⟨1, 0, none⟩)))]), ⟨5, 1, [(4, 0, .ints .u64 (List.set (List.replicate 1 (0 : Int)) 0 n1) 30 true), (3, 0, .ints .u64 W 30 true), (2, 0, .map [((.int .u64 1), (.slice (some ⟨4, 0, none⟩) 1 1), 0)] 1), (1, 0, .cells [(.bool true), (.slice (some ⟨3, 0, none⟩) k k), (.int .u64 0), (.int .i64 (-1)), (.int .i64 5), (.int .u64 0), (.int .i64 ((k : Nat) : Int)), (.int .u64 0), (.int .u64 0)] 88 true), (0, 0, .cells [(.int .i64 20), (.int .i64 1), (.int .i64 0), (.int .u64 1), (.map (some 2))] 94 true)]⟩⟩
theorem KR8 (ks : ByteArray) (vs : ByteArray) (W : List Int) (X : List Int) (k : Nat) : KEV boxW isWb isWs kLen manyV sizeN textAt vLen (codeAt [1, 1, 1, 1, 0] BK) (KS8 ks vs W X k) [0, 1, 7, 9] =
  obind (X[0]?) fun n1 =>
    bif (Nat.ble 1 (List.length (List.replicate 1 (0 : Int)))) then
      some (.normal, (KS9 ks vs n1 W k))
    else
      none := by kernel_rfl
noncomputable def KS10 (ks : ByteArray) (vs : ByteArray) (X : List Int) (W : List Int) (k : Nat) : KSt := ⟨(frameL 120 [(0, (.string ks)), (1, (.string vs)), (7, (.pointer (some ⟨0, 0, none⟩))), (9, (.pointer (some ⟨1, 0, none⟩)))]), ⟨5, 1, [(4, 0, .ints .u64 (List.set (List.replicate 1 (0 : Int)) 0 (X.getD 0 0)) 30 true), (3, 0, .ints .u64 W 30 true), (2, 0, .map [((.int .u64 1), (.slice (some ⟨4, 0, none⟩) 1 1), 0)] 1), (1, 0, .cells [(.bool true), (.slice (some ⟨3, 0, none⟩) k k), (.int .u64 0), (.int .i64 (-1)), (.int .i64 5), (.int .u64 0), (.int .i64 ((k : Nat) : Int)), (.int .u64 0), (.int .u64 0)] 88 true), (0, 0, .cells [(.int .i64 20), (.int .i64 1), (.int .i64 0), (.int .u64 1), (.map (some 2))] 94 true)]⟩⟩
noncomputable def KS11 (ks : ByteArray) (vs : ByteArray) (W : List Int) (X : List Int) (k : Nat) : KSt := ⟨(frameL 120 [(0, (.string ks)), (1, (.string vs)), (7, (.pointer (some ⟨0, 0, none⟩))), (8, (.pointer (some ⟨1, 0, none⟩))), (9, (.pointer (some ⟨2, 0, none⟩)))]), ⟨6, 1, [(5, 0, .ints .u64 W 30 true), (4, 0, .ints .u64 X 30 true), (3, 0, .map [] 0), (2, 0, .cells [(.bool true), (.slice (some ⟨5, 0, none⟩) k k), (.int .u64 0), (.int .i64 (-1)), (.int .i64 5), (.int .u64 0), (.int .i64 ((k : Nat) : Int)), (.int .u64 0), (.int .u64 0)] 88 true), (1, 0, .cells [(.bool true), (.slice (some ⟨4, 0, none⟩) 2 2), (.int .u64 0), (.int .i64 (-1)), (.int .i64 5), (.int .u64 0), (.int .i64 2), (.int .u64 0), (.int .u64 0)] 88 true), (0, 0, .cells [(.int .i64 20), (.int .i64 0), (.int .i64 0), (.int .u64 0), (.map (some 3))] 94 true)]⟩⟩
noncomputable def KS12 (ks : ByteArray) (vs : ByteArray) (n1 : Int) (n2 : Int) (W : List Int) (k : Nat) : KSt := ⟨(frameL 120 [(0, (.string ks)), (1, (.string vs)), (7, (.pointer (some ⟨0, 0, none⟩))), (9, (.pointer (some ⟨1, 0, none⟩)))]), ⟨5, 1, [(4, 0, .ints .u64 (List.set (List.set (List.replicate 2 (0 : Int)) 0 n1) 1 n2) 30 true), (3, 0, .ints .u64 W 30 true), (2, 0, .map [((.int .u64 1), (.slice (some ⟨4, 0, none⟩) 2 2), 0)] 1), (1, 0, .cells [(.bool true), (.slice (some ⟨3, 0, none⟩) k k), (.int .u64 0), (.int .i64 (-1)), (.int .i64 5), (.int .u64 0), (.int .i64 ((k : Nat) : Int)), (.int .u64 0), (.int .u64 0)] 88 true), (0, 0, .cells [(.int .i64 20), (.int .i64 2), (.int .i64 0), (.int .u64 1), (.map (some 2))] 94 true)]⟩⟩
theorem KR9 (ks : ByteArray) (vs : ByteArray) (W : List Int) (X : List Int) (k : Nat) : KEV boxW isWb isWs kLen manyV sizeN textAt vLen (codeAt [1, 1, 1, 1, 0] BK) (KS11 ks vs W X k) [0, 1, 7, 9] =
  obind (X[0]?) fun n1 =>
    bif (Nat.ble 1 (List.length (List.replicate 2 (0 : Int)))) then
      obind (X[1]?) fun n2 =>
        bif (Nat.ble 2 (List.length (List.set (List.replicate 2 (0 : Int)) 0 n1))) then
          some (.normal, (KS12 ks vs n1 n2 W k))
        else
          none
    else
      none := by kernel_rfl
noncomputable def KS13 (ks : ByteArray) (vs : ByteArray) (X : List Int) (W : List Int) (k : Nat) : KSt := ⟨(frameL 120 [(0, (.string ks)), (1, (.string vs)), (7, (.pointer (some ⟨0, 0, none⟩))), (9, (.pointer (some ⟨1, 0, none⟩)))]), ⟨5, 1, [(4, 0, .ints .u64 (List.set (List.set (List.replicate 2 (0 : Int)) 0 (X.getD 0 0)) 1 (X.getD 1 0)) 30 true), (3, 0, .ints .u64 W 30 true), (2, 0, .map [((.int .u64 1), (.slice (some ⟨4, 0, none⟩) 2 2), 0)] 1), (1, 0, .cells [(.bool true), (.slice (some ⟨3, 0, none⟩) k k), (.int .u64 0), (.int .i64 (-1)), (.int .i64 5), (.int .u64 0), (.int .i64 ((k : Nat) : Int)), (.int .u64 0), (.int .u64 0)] 88 true), (0, 0, .cells [(.int .i64 20), (.int .i64 2), (.int .i64 0), (.int .u64 1), (.map (some 2))] 94 true)]⟩⟩
noncomputable def KS14 (ks : ByteArray) (vs : ByteArray) (W : List Int) (X : List Int) (k : Nat) : KSt := ⟨(frameL 120 [(0, (.string ks)), (1, (.string vs)), (7, (.pointer (some ⟨0, 0, none⟩))), (8, (.pointer (some ⟨1, 0, none⟩))), (9, (.pointer (some ⟨2, 0, none⟩)))]), ⟨6, 1, [(5, 0, .ints .u64 W 30 true), (4, 0, .ints .u64 X 30 true), (3, 0, .map [] 0), (2, 0, .cells [(.bool true), (.slice (some ⟨5, 0, none⟩) k k), (.int .u64 0), (.int .i64 (-1)), (.int .i64 5), (.int .u64 0), (.int .i64 ((k : Nat) : Int)), (.int .u64 0), (.int .u64 0)] 88 true), (1, 0, .cells [(.bool true), (.slice (some ⟨4, 0, none⟩) 3 3), (.int .u64 0), (.int .i64 (-1)), (.int .i64 5), (.int .u64 0), (.int .i64 3), (.int .u64 0), (.int .u64 0)] 88 true), (0, 0, .cells [(.int .i64 20), (.int .i64 0), (.int .i64 0), (.int .u64 0), (.map (some 3))] 94 true)]⟩⟩
noncomputable def KS15 (ks : ByteArray) (vs : ByteArray) (n1 : Int) (n2 : Int) (n3 : Int) (W : List Int) (k : Nat) : KSt := ⟨(frameL 120 [(0, (.string ks)), (1, (.string vs)), (7, (.pointer (some ⟨0, 0, none⟩))), (9, (.pointer (some ⟨1, 0, none⟩)))]), ⟨5, 1, [(4, 0, .ints .u64 (List.set (List.set (List.set (List.replicate 3 (0 : Int)) 0 n1) 1 n2) 2 n3) 30 true), (3, 0, .ints .u64 W 30 true), (2, 0, .map [((.int .u64 1), (.slice (some ⟨4, 0, none⟩) 3 3), 0)] 1), (1, 0, .cells [(.bool true), (.slice (some ⟨3, 0, none⟩) k k), (.int .u64 0), (.int .i64 (-1)), (.int .i64 5), (.int .u64 0), (.int .i64 ((k : Nat) : Int)), (.int .u64 0), (.int .u64 0)] 88 true), (0, 0, .cells [(.int .i64 20), (.int .i64 3), (.int .i64 0), (.int .u64 1), (.map (some 2))] 94 true)]⟩⟩
theorem KR10 (ks : ByteArray) (vs : ByteArray) (W : List Int) (X : List Int) (k : Nat) : KEV boxW isWb isWs kLen manyV sizeN textAt vLen (codeAt [1, 1, 1, 1, 0] BK) (KS14 ks vs W X k) [0, 1, 7, 9] =
  obind (X[0]?) fun n1 =>
    bif (Nat.ble 1 (List.length (List.replicate 3 (0 : Int)))) then
      obind (X[1]?) fun n2 =>
        bif (Nat.ble 2 (List.length (List.set (List.replicate 3 (0 : Int)) 0 n1))) then
          obind (X[2]?) fun n3 =>
            bif (Nat.ble 3 (List.length (List.set (List.set (List.replicate 3 (0 : Int)) 0 n1) 1 n2))) then
              some (.normal, (KS15 ks vs n1 n2 n3 W k))
            else
              none
        else
          none
    else
      none := by kernel_rfl
noncomputable def KS16 (ks : ByteArray) (vs : ByteArray) (X : List Int) (W : List Int) (k : Nat) : KSt := ⟨(frameL 120 [(0, (.string ks)), (1, (.string vs)), (7, (.pointer (some ⟨0, 0, none⟩))), (9, (.pointer (some ⟨1, 0, none⟩)))]), ⟨5, 1, [(4, 0, .ints .u64 (List.set (List.set (List.set (List.replicate 3 (0 : Int)) 0 (X.getD 0 0)) 1 (X.getD 1 0)) 2 (X.getD 2 0)) 30 true), (3, 0, .ints .u64 W 30 true), (2, 0, .map [((.int .u64 1), (.slice (some ⟨4, 0, none⟩) 3 3), 0)] 1), (1, 0, .cells [(.bool true), (.slice (some ⟨3, 0, none⟩) k k), (.int .u64 0), (.int .i64 (-1)), (.int .i64 5), (.int .u64 0), (.int .i64 ((k : Nat) : Int)), (.int .u64 0), (.int .u64 0)] 88 true), (0, 0, .cells [(.int .i64 20), (.int .i64 3), (.int .i64 0), (.int .u64 1), (.map (some 2))] 94 true)]⟩⟩
noncomputable def KS17 (ks : ByteArray) (vs : ByteArray) (L : List Int) (W : List Int) (m : Nat) (g : Int) : KSt := ⟨(frameL 120 [(0, (.string ks)), (1, (.string vs)), (7, (.pointer (some ⟨0, 0, none⟩))), (9, (.pointer (some ⟨1, 0, none⟩)))]), ⟨5, 1, [(4, 0, .ints .u64 L 30 true), (3, 0, .ints .u64 W 30 true), (2, 0, .map [((.int .u64 1), (.slice (some ⟨4, 0, none⟩) m m), 0)] 1), (1, 0, .cells [(.bool true), (.slice (some ⟨3, 0, none⟩) 1 1), (.int .u64 0), (.int .i64 (-1)), (.int .i64 5), (.int .u64 0), (.int .i64 1), (.int .u64 0), (.int .u64 0)] 88 true), (0, 0, .cells [(.int .i64 20), (.int .i64 g), (.int .i64 0), (.int .u64 1), (.map (some 2))] 94 true)]⟩⟩
noncomputable def KS18 (ks : ByteArray) (vs : ByteArray) (L : List Int) (W : List Int) (m : Nat) (g : Int) : KSt := ⟨(frameL 120 [(0, (.string ks)), (1, (.string vs)), (7, (.pointer (some ⟨0, 0, none⟩))), (9, (.pointer (some ⟨1, 0, none⟩)))]), ⟨5, 1, [(4, 0, .ints .u64 L 30 true), (3, 0, .ints .u64 W 30 true), (2, 0, .map [((.int .u64 1), (.slice (some ⟨4, 0, none⟩) m m), 0)] 1), (1, 0, .cells [(.bool true), (.slice (some ⟨3, 0, none⟩) 1 1), (.int .u64 0), (.int .i64 (-1)), (.int .i64 0), (.int .u64 0), (.int .i64 0), (.int .u64 0), (.int .u64 0)] 88 true), (0, 0, .cells [(.int .i64 20), (.int .i64 g), (.int .i64 0), (.int .u64 1), (.map (some 2))] 94 true)]⟩⟩
noncomputable def KS19 (ks : ByteArray) (vs : ByteArray) (n1 : Int) (L : List Int) (W : List Int) (m : Nat) (g : Int) : KSt := ⟨(frameL 120 [(0, (.string ks)), (1, (.string vs)), (7, (.pointer (some ⟨0, 0, none⟩))), (9, (.pointer (some ⟨1, 0, none⟩)))]), ⟨6, 1, [(5, 0, .ints .u64 (List.set (List.replicate 1 (0 : Int)) 0 n1) 30 true), (4, 0, .ints .u64 L 30 true), (3, 0, .ints .u64 W 30 true), (2, 0, .map [((.int .u64 1), (.slice (some ⟨4, 0, none⟩) m m), 0), ((.int .u64 2), (.slice (some ⟨5, 0, none⟩) 1 1), 1)] 2), (1, 0, .cells [(.bool true), (.slice (some ⟨3, 0, none⟩) 1 1), (.int .u64 2), (.int .i64 1), (.int .i64 0), (.int .u64 0), (.int .i64 0), (.int .u64 0), (.int .u64 0)] 88 true), (0, 0, .cells [(.int .i64 20), (.int .i64 (IntKind.wrap .i64 (g + 1))), (.int .i64 0), (.int .u64 2), (.map (some 2))] 94 true)]⟩⟩
theorem KR11 (ks : ByteArray) (vs : ByteArray) (L : List Int) (W : List Int) (m : Nat) (g : Int) : KEV boxW isWb isWs kLen manyV sizeN textAt vLen (codeAt [1, 1, 1, 1, 1, 0] BK) (KS17 ks vs L W m g) [0, 1, 7, 9] =
  bif (decide (1 > (IntKind.wrap .i64 (20 - g)))) then
    some (.normal, (KS18 ks vs L W m g))
  else
    obind (W[0]?) fun n1 =>
      bif (Nat.ble 1 (List.length (List.replicate 1 (0 : Int)))) then
        some (.normal, (KS19 ks vs n1 L W m g))
      else
        none := by kernel_rfl
noncomputable def KS20 (ks : ByteArray) (vs : ByteArray) (W : List Int) (L : List Int) (m : Nat) (g : Int) : KSt := ⟨(frameL 120 [(0, (.string ks)), (1, (.string vs)), (7, (.pointer (some ⟨0, 0, none⟩))), (9, (.pointer (some ⟨1, 0, none⟩)))]), ⟨6, 1, [(5, 0, .ints .u64 (List.set (List.replicate 1 (0 : Int)) 0 (W.getD 0 0)) 30 true), (4, 0, .ints .u64 L 30 true), (3, 0, .ints .u64 W 30 true), (2, 0, .map [((.int .u64 1), (.slice (some ⟨4, 0, none⟩) m m), 0), ((.int .u64 2), (.slice (some ⟨5, 0, none⟩) 1 1), 1)] 2), (1, 0, .cells [(.bool true), (.slice (some ⟨3, 0, none⟩) 1 1), (.int .u64 2), (.int .i64 1), (.int .i64 0), (.int .u64 0), (.int .i64 0), (.int .u64 0), (.int .u64 0)] 88 true), (0, 0, .cells [(.int .i64 20), (.int .i64 (IntKind.wrap .i64 (g + 1))), (.int .i64 0), (.int .u64 2), (.map (some 2))] 94 true)]⟩⟩
noncomputable def KS21 (ks : ByteArray) (vs : ByteArray) (L : List Int) (W : List Int) (m : Nat) (g : Int) : KSt := ⟨(frameL 120 [(0, (.string ks)), (1, (.string vs)), (7, (.pointer (some ⟨0, 0, none⟩))), (9, (.pointer (some ⟨1, 0, none⟩)))]), ⟨5, 1, [(4, 0, .ints .u64 L 30 true), (3, 0, .ints .u64 W 30 true), (2, 0, .map [((.int .u64 1), (.slice (some ⟨4, 0, none⟩) m m), 0)] 1), (1, 0, .cells [(.bool true), (.slice (some ⟨3, 0, none⟩) 2 2), (.int .u64 0), (.int .i64 (-1)), (.int .i64 5), (.int .u64 0), (.int .i64 2), (.int .u64 0), (.int .u64 0)] 88 true), (0, 0, .cells [(.int .i64 20), (.int .i64 g), (.int .i64 0), (.int .u64 1), (.map (some 2))] 94 true)]⟩⟩
noncomputable def KS22 (ks : ByteArray) (vs : ByteArray) (L : List Int) (W : List Int) (m : Nat) (g : Int) : KSt := ⟨(frameL 120 [(0, (.string ks)), (1, (.string vs)), (7, (.pointer (some ⟨0, 0, none⟩))), (9, (.pointer (some ⟨1, 0, none⟩)))]), ⟨5, 1, [(4, 0, .ints .u64 L 30 true), (3, 0, .ints .u64 W 30 true), (2, 0, .map [((.int .u64 1), (.slice (some ⟨4, 0, none⟩) m m), 0)] 1), (1, 0, .cells [(.bool true), (.slice (some ⟨3, 0, none⟩) 2 2), (.int .u64 0), (.int .i64 (-1)), (.int .i64 0), (.int .u64 0), (.int .i64 0), (.int .u64 0), (.int .u64 0)] 88 true), (0, 0, .cells [(.int .i64 20), (.int .i64 g), (.int .i64 0), (.int .u64 1), (.map (some 2))] 94 true)]⟩⟩
noncomputable def KS23 (ks : ByteArray) (vs : ByteArray) (n1 : Int) (n2 : Int) (L : List Int) (W : List Int) (m : Nat) (g : Int) : KSt := ⟨(frameL 120 [(0, (.string ks)), (1, (.string vs)), (7, (.pointer (some ⟨0, 0, none⟩))), (9, (.pointer (some ⟨1, 0, none⟩)))]), ⟨6, 1, [(5, 0, .ints .u64 (List.set (List.set (List.replicate 2 (0 : Int)) 0 n1) 1 n2) 30 true), (4, 0, .ints .u64 L 30 true), (3, 0, .ints .u64 W 30 true), (2, 0, .map [((.int .u64 1), (.slice (some ⟨4, 0, none⟩) m m), 0), ((.int .u64 2), (.slice (some ⟨5, 0, none⟩) 2 2), 1)] 2), (1, 0, .cells [(.bool true), (.slice (some ⟨3, 0, none⟩) 2 2), (.int .u64 2), (.int .i64 2), (.int .i64 0), (.int .u64 0), (.int .i64 0), (.int .u64 0), (.int .u64 0)] 88 true), (0, 0, .cells [(.int .i64 20), (.int .i64 (IntKind.wrap .i64 (g + 2))), (.int .i64 0), (.int .u64 2), (.map (some 2))] 94 true)]⟩⟩
theorem KR12 (ks : ByteArray) (vs : ByteArray) (L : List Int) (W : List Int) (m : Nat) (g : Int) : KEV boxW isWb isWs kLen manyV sizeN textAt vLen (codeAt [1, 1, 1, 1, 1, 0] BK) (KS21 ks vs L W m g) [0, 1, 7, 9] =
  bif (decide (2 > (IntKind.wrap .i64 (20 - g)))) then
    some (.normal, (KS22 ks vs L W m g))
  else
    obind (W[0]?) fun n1 =>
      bif (Nat.ble 1 (List.length (List.replicate 2 (0 : Int)))) then
        obind (W[1]?) fun n2 =>
          bif (Nat.ble 2 (List.length (List.set (List.replicate 2 (0 : Int)) 0 n1))) then
            some (.normal, (KS23 ks vs n1 n2 L W m g))
          else
            none
      else
        none := by kernel_rfl
noncomputable def KS24 (ks : ByteArray) (vs : ByteArray) (W : List Int) (L : List Int) (m : Nat) (g : Int) : KSt := ⟨(frameL 120 [(0, (.string ks)), (1, (.string vs)), (7, (.pointer (some ⟨0, 0, none⟩))), (9, (.pointer (some ⟨1, 0, none⟩)))]), ⟨6, 1, [(5, 0, .ints .u64 (List.set (List.set (List.replicate 2 (0 : Int)) 0 (W.getD 0 0)) 1 (W.getD 1 0)) 30 true), (4, 0, .ints .u64 L 30 true), (3, 0, .ints .u64 W 30 true), (2, 0, .map [((.int .u64 1), (.slice (some ⟨4, 0, none⟩) m m), 0), ((.int .u64 2), (.slice (some ⟨5, 0, none⟩) 2 2), 1)] 2), (1, 0, .cells [(.bool true), (.slice (some ⟨3, 0, none⟩) 2 2), (.int .u64 2), (.int .i64 2), (.int .i64 0), (.int .u64 0), (.int .i64 0), (.int .u64 0), (.int .u64 0)] 88 true), (0, 0, .cells [(.int .i64 20), (.int .i64 (IntKind.wrap .i64 (g + 2))), (.int .i64 0), (.int .u64 2), (.map (some 2))] 94 true)]⟩⟩
noncomputable def KS25 (ks : ByteArray) (vs : ByteArray) (L : List Int) (W : List Int) (m : Nat) (g : Int) : KSt := ⟨(frameL 120 [(0, (.string ks)), (1, (.string vs)), (7, (.pointer (some ⟨0, 0, none⟩))), (9, (.pointer (some ⟨1, 0, none⟩)))]), ⟨5, 1, [(4, 0, .ints .u64 L 30 true), (3, 0, .ints .u64 W 30 true), (2, 0, .map [((.int .u64 1), (.slice (some ⟨4, 0, none⟩) m m), 0)] 1), (1, 0, .cells [(.bool true), (.slice (some ⟨3, 0, none⟩) 3 3), (.int .u64 0), (.int .i64 (-1)), (.int .i64 5), (.int .u64 0), (.int .i64 3), (.int .u64 0), (.int .u64 0)] 88 true), (0, 0, .cells [(.int .i64 20), (.int .i64 g), (.int .i64 0), (.int .u64 1), (.map (some 2))] 94 true)]⟩⟩
noncomputable def KS26 (ks : ByteArray) (vs : ByteArray) (L : List Int) (W : List Int) (m : Nat) (g : Int) : KSt := ⟨(frameL 120 [(0, (.string ks)), (1, (.string vs)), (7, (.pointer (some ⟨0, 0, none⟩))), (9, (.pointer (some ⟨1, 0, none⟩)))]), ⟨5, 1, [(4, 0, .ints .u64 L 30 true), (3, 0, .ints .u64 W 30 true), (2, 0, .map [((.int .u64 1), (.slice (some ⟨4, 0, none⟩) m m), 0)] 1), (1, 0, .cells [(.bool true), (.slice (some ⟨3, 0, none⟩) 3 3), (.int .u64 0), (.int .i64 (-1)), (.int .i64 0), (.int .u64 0), (.int .i64 0), (.int .u64 0), (.int .u64 0)] 88 true), (0, 0, .cells [(.int .i64 20), (.int .i64 g), (.int .i64 0), (.int .u64 1), (.map (some 2))] 94 true)]⟩⟩
noncomputable def KS27 (ks : ByteArray) (vs : ByteArray) (n1 : Int) (n2 : Int) (n3 : Int) (L : List Int) (W : List Int) (m : Nat) (g : Int) : KSt := ⟨(frameL 120 [(0, (.string ks)), (1, (.string vs)), (7, (.pointer (some ⟨0, 0, none⟩))), (9, (.pointer (some ⟨1, 0, none⟩)))]), ⟨6, 1, [(5, 0, .ints .u64 (List.set (List.set (List.set (List.replicate 3 (0 : Int)) 0 n1) 1 n2) 2 n3) 30 true), (4, 0, .ints .u64 L 30 true), (3, 0, .ints .u64 W 30 true), (2, 0, .map [((.int .u64 1), (.slice (some ⟨4, 0, none⟩) m m), 0), ((.int .u64 2), (.slice (some ⟨5, 0, none⟩) 3 3), 1)] 2), (1, 0, .cells [(.bool true), (.slice (some ⟨3, 0, none⟩) 3 3), (.int .u64 2), (.int .i64 3), (.int .i64 0), (.int .u64 0), (.int .i64 0), (.int .u64 0), (.int .u64 0)] 88 true), (0, 0, .cells [(.int .i64 20), (.int .i64 (IntKind.wrap .i64 (g + 3))), (.int .i64 0), (.int .u64 2), (.map (some 2))] 94 true)]⟩⟩
theorem KR13 (ks : ByteArray) (vs : ByteArray) (L : List Int) (W : List Int) (m : Nat) (g : Int) : KEV boxW isWb isWs kLen manyV sizeN textAt vLen (codeAt [1, 1, 1, 1, 1, 0] BK) (KS25 ks vs L W m g) [0, 1, 7, 9] =
  bif (decide (3 > (IntKind.wrap .i64 (20 - g)))) then
    some (.normal, (KS26 ks vs L W m g))
  else
    obind (W[0]?) fun n1 =>
      bif (Nat.ble 1 (List.length (List.replicate 3 (0 : Int)))) then
        obind (W[1]?) fun n2 =>
          bif (Nat.ble 2 (List.length (List.set (List.replicate 3 (0 : Int)) 0 n1))) then
            obind (W[2]?) fun n3 =>
              bif (Nat.ble 3 (List.length (List.set (List.set (List.replicate 3 (0 : Int)) 0 n1) 1 n2))) then
                some (.normal, (KS27 ks vs n1 n2 n3 L W m g))
              else
                none
          else
            none
      else
        none := by kernel_rfl
noncomputable def KS28 (ks : ByteArray) (vs : ByteArray) (W : List Int) (L : List Int) (m : Nat) (g : Int) : KSt := ⟨(frameL 120 [(0, (.string ks)), (1, (.string vs)), (7, (.pointer (some ⟨0, 0, none⟩))), (9, (.pointer (some ⟨1, 0, none⟩)))]), ⟨6, 1, [(5, 0, .ints .u64 (List.set (List.set (List.set (List.replicate 3 (0 : Int)) 0 (W.getD 0 0)) 1 (W.getD 1 0)) 2 (W.getD 2 0)) 30 true), (4, 0, .ints .u64 L 30 true), (3, 0, .ints .u64 W 30 true), (2, 0, .map [((.int .u64 1), (.slice (some ⟨4, 0, none⟩) m m), 0), ((.int .u64 2), (.slice (some ⟨5, 0, none⟩) 3 3), 1)] 2), (1, 0, .cells [(.bool true), (.slice (some ⟨3, 0, none⟩) 3 3), (.int .u64 2), (.int .i64 3), (.int .i64 0), (.int .u64 0), (.int .i64 0), (.int .u64 0), (.int .u64 0)] 88 true), (0, 0, .cells [(.int .i64 20), (.int .i64 (IntKind.wrap .i64 (g + 3))), (.int .i64 0), (.int .u64 2), (.map (some 2))] 94 true)]⟩⟩
noncomputable def KS29 (ks : ByteArray) (vs : ByteArray) (L : List Int) (W : List Int) (m : Nat) (g : Int) : KSt := ⟨(frameL 120 [(0, (.string ks)), (1, (.string vs)), (7, (.pointer (some ⟨0, 0, none⟩))), (9, (.pointer (some ⟨1, 0, none⟩)))]), ⟨5, 1, [(4, 0, .ints .u64 L 30 true), (3, 0, .ints .u64 W 30 true), (2, 0, .map [((.int .u64 1), (.slice (some ⟨4, 0, none⟩) m m), 0)] 1), (1, 0, .cells [(.bool true), (.slice (some ⟨3, 0, none⟩) 4 4), (.int .u64 0), (.int .i64 (-1)), (.int .i64 5), (.int .u64 0), (.int .i64 4), (.int .u64 0), (.int .u64 0)] 88 true), (0, 0, .cells [(.int .i64 20), (.int .i64 g), (.int .i64 0), (.int .u64 1), (.map (some 2))] 94 true)]⟩⟩
noncomputable def KS30 (ks : ByteArray) (vs : ByteArray) (L : List Int) (W : List Int) (m : Nat) (g : Int) : KSt := ⟨(frameL 120 [(0, (.string ks)), (1, (.string vs)), (7, (.pointer (some ⟨0, 0, none⟩))), (9, (.pointer (some ⟨1, 0, none⟩)))]), ⟨5, 1, [(4, 0, .ints .u64 L 30 true), (3, 0, .ints .u64 W 30 true), (2, 0, .map [((.int .u64 1), (.slice (some ⟨4, 0, none⟩) m m), 0)] 1), (1, 0, .cells [(.bool true), (.slice (some ⟨3, 0, none⟩) 4 4), (.int .u64 0), (.int .i64 (-1)), (.int .i64 0), (.int .u64 0), (.int .i64 0), (.int .u64 0), (.int .u64 0)] 88 true), (0, 0, .cells [(.int .i64 20), (.int .i64 g), (.int .i64 0), (.int .u64 1), (.map (some 2))] 94 true)]⟩⟩
noncomputable def KS31 (ks : ByteArray) (vs : ByteArray) (n1 : Int) (n2 : Int) (n3 : Int) (n4 : Int) (L : List Int) (W : List Int) (m : Nat) (g : Int) : KSt := ⟨(frameL 120 [(0, (.string ks)), (1, (.string vs)), (7, (.pointer (some ⟨0, 0, none⟩))), (9, (.pointer (some ⟨1, 0, none⟩)))]), ⟨6, 1, [(5, 0, .ints .u64 (List.set (List.set (List.set (List.set (List.replicate 4 (0 : Int)) 0 n1) 1 n2) 2 n3) 3 n4) 30 true), (4, 0, .ints .u64 L 30 true), (3, 0, .ints .u64 W 30 true), (2, 0, .map [((.int .u64 1), (.slice (some ⟨4, 0, none⟩) m m), 0), ((.int .u64 2), (.slice (some ⟨5, 0, none⟩) 4 4), 1)] 2), (1, 0, .cells [(.bool true), (.slice (some ⟨3, 0, none⟩) 4 4), (.int .u64 2), (.int .i64 4), (.int .i64 0), (.int .u64 0), (.int .i64 0), (.int .u64 0), (.int .u64 0)] 88 true), (0, 0, .cells [(.int .i64 20), (.int .i64 (IntKind.wrap .i64 (g + 4))), (.int .i64 0), (.int .u64 2), (.map (some 2))] 94 true)]⟩⟩
theorem KR14 (ks : ByteArray) (vs : ByteArray) (L : List Int) (W : List Int) (m : Nat) (g : Int) : KEV boxW isWb isWs kLen manyV sizeN textAt vLen (codeAt [1, 1, 1, 1, 1, 0] BK) (KS29 ks vs L W m g) [0, 1, 7, 9] =
  bif (decide (4 > (IntKind.wrap .i64 (20 - g)))) then
    some (.normal, (KS30 ks vs L W m g))
  else
    obind (W[0]?) fun n1 =>
      bif (Nat.ble 1 (List.length (List.replicate 4 (0 : Int)))) then
        obind (W[1]?) fun n2 =>
          bif (Nat.ble 2 (List.length (List.set (List.replicate 4 (0 : Int)) 0 n1))) then
            obind (W[2]?) fun n3 =>
              bif (Nat.ble 3 (List.length (List.set (List.set (List.replicate 4 (0 : Int)) 0 n1) 1 n2))) then
                obind (W[3]?) fun n4 =>
                  bif (Nat.ble 4 (List.length (List.set (List.set (List.set (List.replicate 4 (0 : Int)) 0 n1) 1 n2) 2 n3))) then
                    some (.normal, (KS31 ks vs n1 n2 n3 n4 L W m g))
                  else
                    none
              else
                none
          else
            none
      else
        none := by kernel_rfl
noncomputable def KS32 (ks : ByteArray) (vs : ByteArray) (W : List Int) (L : List Int) (m : Nat) (g : Int) : KSt := ⟨(frameL 120 [(0, (.string ks)), (1, (.string vs)), (7, (.pointer (some ⟨0, 0, none⟩))), (9, (.pointer (some ⟨1, 0, none⟩)))]), ⟨6, 1, [(5, 0, .ints .u64 (List.set (List.set (List.set (List.set (List.replicate 4 (0 : Int)) 0 (W.getD 0 0)) 1 (W.getD 1 0)) 2 (W.getD 2 0)) 3 (W.getD 3 0)) 30 true), (4, 0, .ints .u64 L 30 true), (3, 0, .ints .u64 W 30 true), (2, 0, .map [((.int .u64 1), (.slice (some ⟨4, 0, none⟩) m m), 0), ((.int .u64 2), (.slice (some ⟨5, 0, none⟩) 4 4), 1)] 2), (1, 0, .cells [(.bool true), (.slice (some ⟨3, 0, none⟩) 4 4), (.int .u64 2), (.int .i64 4), (.int .i64 0), (.int .u64 0), (.int .i64 0), (.int .u64 0), (.int .u64 0)] 88 true), (0, 0, .cells [(.int .i64 20), (.int .i64 (IntKind.wrap .i64 (g + 4))), (.int .i64 0), (.int .u64 2), (.map (some 2))] 94 true)]⟩⟩
noncomputable def KS33 (ks : ByteArray) (vs : ByteArray) (L : List Int) (W : List Int) (m : Nat) (g : Int) : KSt := ⟨(frameL 120 [(0, (.string ks)), (1, (.string vs)), (7, (.pointer (some ⟨0, 0, none⟩))), (9, (.pointer (some ⟨1, 0, none⟩)))]), ⟨5, 1, [(4, 0, .ints .u64 L 30 true), (3, 0, .ints .u64 W 30 true), (2, 0, .map [((.int .u64 1), (.slice (some ⟨4, 0, none⟩) m m), 0)] 1), (1, 0, .cells [(.bool true), (.slice (some ⟨3, 0, none⟩) 5 5), (.int .u64 0), (.int .i64 (-1)), (.int .i64 5), (.int .u64 0), (.int .i64 5), (.int .u64 0), (.int .u64 0)] 88 true), (0, 0, .cells [(.int .i64 20), (.int .i64 g), (.int .i64 0), (.int .u64 1), (.map (some 2))] 94 true)]⟩⟩
noncomputable def KS34 (ks : ByteArray) (vs : ByteArray) (L : List Int) (W : List Int) (m : Nat) (g : Int) : KSt := ⟨(frameL 120 [(0, (.string ks)), (1, (.string vs)), (7, (.pointer (some ⟨0, 0, none⟩))), (9, (.pointer (some ⟨1, 0, none⟩)))]), ⟨5, 1, [(4, 0, .ints .u64 L 30 true), (3, 0, .ints .u64 W 30 true), (2, 0, .map [((.int .u64 1), (.slice (some ⟨4, 0, none⟩) m m), 0)] 1), (1, 0, .cells [(.bool true), (.slice (some ⟨3, 0, none⟩) 5 5), (.int .u64 0), (.int .i64 (-1)), (.int .i64 0), (.int .u64 0), (.int .i64 0), (.int .u64 0), (.int .u64 0)] 88 true), (0, 0, .cells [(.int .i64 20), (.int .i64 g), (.int .i64 0), (.int .u64 1), (.map (some 2))] 94 true)]⟩⟩
noncomputable def KS35 (ks : ByteArray) (vs : ByteArray) (n1 : Int) (n2 : Int) (n3 : Int) (n4 : Int) (n5 : Int) (L : List Int) (W : List Int) (m : Nat) (g : Int) : KSt := ⟨(frameL 120 [(0, (.string ks)), (1, (.string vs)), (7, (.pointer (some ⟨0, 0, none⟩))), (9, (.pointer (some ⟨1, 0, none⟩)))]), ⟨6, 1, [(5, 0, .ints .u64 (List.set (List.set (List.set (List.set (List.set (List.replicate 5 (0 : Int)) 0 n1) 1 n2) 2 n3) 3 n4) 4 n5) 30 true), (4, 0, .ints .u64 L 30 true), (3, 0, .ints .u64 W 30 true), (2, 0, .map [((.int .u64 1), (.slice (some ⟨4, 0, none⟩) m m), 0), ((.int .u64 2), (.slice (some ⟨5, 0, none⟩) 5 5), 1)] 2), (1, 0, .cells [(.bool true), (.slice (some ⟨3, 0, none⟩) 5 5), (.int .u64 2), (.int .i64 5), (.int .i64 0), (.int .u64 0), (.int .i64 0), (.int .u64 0), (.int .u64 0)] 88 true), (0, 0, .cells [(.int .i64 20), (.int .i64 (IntKind.wrap .i64 (g + 5))), (.int .i64 0), (.int .u64 2), (.map (some 2))] 94 true)]⟩⟩
theorem KR15 (ks : ByteArray) (vs : ByteArray) (L : List Int) (W : List Int) (m : Nat) (g : Int) : KEV boxW isWb isWs kLen manyV sizeN textAt vLen (codeAt [1, 1, 1, 1, 1, 0] BK) (KS33 ks vs L W m g) [0, 1, 7, 9] =
  bif (decide (5 > (IntKind.wrap .i64 (20 - g)))) then
    some (.normal, (KS34 ks vs L W m g))
  else
    obind (W[0]?) fun n1 =>
      bif (Nat.ble 1 (List.length (List.replicate 5 (0 : Int)))) then
        obind (W[1]?) fun n2 =>
          bif (Nat.ble 2 (List.length (List.set (List.replicate 5 (0 : Int)) 0 n1))) then
            obind (W[2]?) fun n3 =>
              bif (Nat.ble 3 (List.length (List.set (List.set (List.replicate 5 (0 : Int)) 0 n1) 1 n2))) then
                obind (W[3]?) fun n4 =>
                  bif (Nat.ble 4 (List.length (List.set (List.set (List.set (List.replicate 5 (0 : Int)) 0 n1) 1 n2) 2 n3))) then
                    obind (W[4]?) fun n5 =>
                      bif (Nat.ble 5 (List.length (List.set (List.set (List.set (List.set (List.replicate 5 (0 : Int)) 0 n1) 1 n2) 2 n3) 3 n4))) then
                        some (.normal, (KS35 ks vs n1 n2 n3 n4 n5 L W m g))
                      else
                        none
                  else
                    none
              else
                none
          else
            none
      else
        none := by kernel_rfl
noncomputable def KS36 (ks : ByteArray) (vs : ByteArray) (W : List Int) (L : List Int) (m : Nat) (g : Int) : KSt := ⟨(frameL 120 [(0, (.string ks)), (1, (.string vs)), (7, (.pointer (some ⟨0, 0, none⟩))), (9, (.pointer (some ⟨1, 0, none⟩)))]), ⟨6, 1, [(5, 0, .ints .u64 (List.set (List.set (List.set (List.set (List.set (List.replicate 5 (0 : Int)) 0 (W.getD 0 0)) 1 (W.getD 1 0)) 2 (W.getD 2 0)) 3 (W.getD 3 0)) 4 (W.getD 4 0)) 30 true), (4, 0, .ints .u64 L 30 true), (3, 0, .ints .u64 W 30 true), (2, 0, .map [((.int .u64 1), (.slice (some ⟨4, 0, none⟩) m m), 0), ((.int .u64 2), (.slice (some ⟨5, 0, none⟩) 5 5), 1)] 2), (1, 0, .cells [(.bool true), (.slice (some ⟨3, 0, none⟩) 5 5), (.int .u64 2), (.int .i64 5), (.int .i64 0), (.int .u64 0), (.int .i64 0), (.int .u64 0), (.int .u64 0)] 88 true), (0, 0, .cells [(.int .i64 20), (.int .i64 (IntKind.wrap .i64 (g + 5))), (.int .i64 0), (.int .u64 2), (.map (some 2))] 94 true)]⟩⟩
noncomputable def KS37 (ks : ByteArray) (vs : ByteArray) (L : List Int) (W : List Int) (m : Nat) (g : Int) : KSt := ⟨(frameL 120 [(0, (.string ks)), (1, (.string vs)), (7, (.pointer (some ⟨0, 0, none⟩))), (9, (.pointer (some ⟨1, 0, none⟩)))]), ⟨5, 1, [(4, 0, .ints .u64 L 30 true), (3, 0, .ints .u64 W 30 true), (2, 0, .map [((.int .u64 1), (.slice (some ⟨4, 0, none⟩) m m), 0)] 1), (1, 0, .cells [(.bool true), (.slice (some ⟨3, 0, none⟩) 6 6), (.int .u64 0), (.int .i64 (-1)), (.int .i64 5), (.int .u64 0), (.int .i64 6), (.int .u64 0), (.int .u64 0)] 88 true), (0, 0, .cells [(.int .i64 20), (.int .i64 g), (.int .i64 0), (.int .u64 1), (.map (some 2))] 94 true)]⟩⟩
noncomputable def KS38 (ks : ByteArray) (vs : ByteArray) (L : List Int) (W : List Int) (m : Nat) (g : Int) : KSt := ⟨(frameL 120 [(0, (.string ks)), (1, (.string vs)), (7, (.pointer (some ⟨0, 0, none⟩))), (9, (.pointer (some ⟨1, 0, none⟩)))]), ⟨5, 1, [(4, 0, .ints .u64 L 30 true), (3, 0, .ints .u64 W 30 true), (2, 0, .map [((.int .u64 1), (.slice (some ⟨4, 0, none⟩) m m), 0)] 1), (1, 0, .cells [(.bool true), (.slice (some ⟨3, 0, none⟩) 6 6), (.int .u64 0), (.int .i64 (-1)), (.int .i64 0), (.int .u64 0), (.int .i64 0), (.int .u64 0), (.int .u64 0)] 88 true), (0, 0, .cells [(.int .i64 20), (.int .i64 g), (.int .i64 0), (.int .u64 1), (.map (some 2))] 94 true)]⟩⟩
noncomputable def KS39 (ks : ByteArray) (vs : ByteArray) (n1 : Int) (n2 : Int) (n3 : Int) (n4 : Int) (n5 : Int) (n6 : Int) (L : List Int) (W : List Int) (m : Nat) (g : Int) : KSt := ⟨(frameL 120 [(0, (.string ks)), (1, (.string vs)), (7, (.pointer (some ⟨0, 0, none⟩))), (9, (.pointer (some ⟨1, 0, none⟩)))]), ⟨6, 1, [(5, 0, .ints .u64 (List.set (List.set (List.set (List.set (List.set (List.set (List.replicate 6 (0 : Int)) 0 n1) 1 n2) 2 n3) 3 n4) 4 n5) 5 n6) 30 true), (4, 0, .ints .u64 L 30 true), (3, 0, .ints .u64 W 30 true), (2, 0, .map [((.int .u64 1), (.slice (some ⟨4, 0, none⟩) m m), 0), ((.int .u64 2), (.slice (some ⟨5, 0, none⟩) 6 6), 1)] 2), (1, 0, .cells [(.bool true), (.slice (some ⟨3, 0, none⟩) 6 6), (.int .u64 2), (.int .i64 6), (.int .i64 0), (.int .u64 0), (.int .i64 0), (.int .u64 0), (.int .u64 0)] 88 true), (0, 0, .cells [(.int .i64 20), (.int .i64 (IntKind.wrap .i64 (g + 6))), (.int .i64 0), (.int .u64 2), (.map (some 2))] 94 true)]⟩⟩
theorem KR16 (ks : ByteArray) (vs : ByteArray) (L : List Int) (W : List Int) (m : Nat) (g : Int) : KEV boxW isWb isWs kLen manyV sizeN textAt vLen (codeAt [1, 1, 1, 1, 1, 0] BK) (KS37 ks vs L W m g) [0, 1, 7, 9] =
  bif (decide (6 > (IntKind.wrap .i64 (20 - g)))) then
    some (.normal, (KS38 ks vs L W m g))
  else
    obind (W[0]?) fun n1 =>
      bif (Nat.ble 1 (List.length (List.replicate 6 (0 : Int)))) then
        obind (W[1]?) fun n2 =>
          bif (Nat.ble 2 (List.length (List.set (List.replicate 6 (0 : Int)) 0 n1))) then
            obind (W[2]?) fun n3 =>
              bif (Nat.ble 3 (List.length (List.set (List.set (List.replicate 6 (0 : Int)) 0 n1) 1 n2))) then
                obind (W[3]?) fun n4 =>
                  bif (Nat.ble 4 (List.length (List.set (List.set (List.set (List.replicate 6 (0 : Int)) 0 n1) 1 n2) 2 n3))) then
                    obind (W[4]?) fun n5 =>
                      bif (Nat.ble 5 (List.length (List.set (List.set (List.set (List.set (List.replicate 6 (0 : Int)) 0 n1) 1 n2) 2 n3) 3 n4))) then
                        obind (W[5]?) fun n6 =>
                          bif (Nat.ble 6 (List.length (List.set (List.set (List.set (List.set (List.set (List.replicate 6 (0 : Int)) 0 n1) 1 n2) 2 n3) 3 n4) 4 n5))) then
                            some (.normal, (KS39 ks vs n1 n2 n3 n4 n5 n6 L W m g))
                          else
                            none
                      else
                        none
                  else
                    none
              else
                none
          else
            none
      else
        none := by kernel_rfl
noncomputable def KS40 (ks : ByteArray) (vs : ByteArray) (W : List Int) (L : List Int) (m : Nat) (g : Int) : KSt := ⟨(frameL 120 [(0, (.string ks)), (1, (.string vs)), (7, (.pointer (some ⟨0, 0, none⟩))), (9, (.pointer (some ⟨1, 0, none⟩)))]), ⟨6, 1, [(5, 0, .ints .u64 (List.set (List.set (List.set (List.set (List.set (List.set (List.replicate 6 (0 : Int)) 0 (W.getD 0 0)) 1 (W.getD 1 0)) 2 (W.getD 2 0)) 3 (W.getD 3 0)) 4 (W.getD 4 0)) 5 (W.getD 5 0)) 30 true), (4, 0, .ints .u64 L 30 true), (3, 0, .ints .u64 W 30 true), (2, 0, .map [((.int .u64 1), (.slice (some ⟨4, 0, none⟩) m m), 0), ((.int .u64 2), (.slice (some ⟨5, 0, none⟩) 6 6), 1)] 2), (1, 0, .cells [(.bool true), (.slice (some ⟨3, 0, none⟩) 6 6), (.int .u64 2), (.int .i64 6), (.int .i64 0), (.int .u64 0), (.int .i64 0), (.int .u64 0), (.int .u64 0)] 88 true), (0, 0, .cells [(.int .i64 20), (.int .i64 (IntKind.wrap .i64 (g + 6))), (.int .i64 0), (.int .u64 2), (.map (some 2))] 94 true)]⟩⟩
noncomputable def KS41 (ks : ByteArray) (vs : ByteArray) (V : List Int) (L : List Int) (W : List Int) (m : Nat) (k : Nat) (g : Int) : KSt := ⟨(frameL 120 [(0, (.string ks)), (1, (.string vs)), (7, (.pointer (some ⟨0, 0, none⟩))), (9, (.pointer (some ⟨1, 0, none⟩)))]), ⟨6, 1, [(5, 0, .ints .u64 V 30 true), (4, 0, .ints .u64 L 30 true), (3, 0, .ints .u64 W 30 true), (2, 0, .map [((.int .u64 1), (.slice (some ⟨4, 0, none⟩) m m), 0), ((.int .u64 2), (.slice (some ⟨5, 0, none⟩) k k), 1)] 2), (1, 0, .cells [(.bool true), (.slice (some ⟨3, 0, none⟩) k k), (.int .u64 2), (.int .i64 ((k : Nat) : Int)), (.int .i64 0), (.int .u64 0), (.int .i64 0), (.int .u64 0), (.int .u64 0)] 88 true), (0, 0, .cells [(.int .i64 20), (.int .i64 g), (.int .i64 0), (.int .u64 2), (.map (some 2))] 94 true)]⟩⟩
noncomputable def KS42 (ks : ByteArray) (vs : ByteArray) (V : List Int) (L : List Int) (m : Nat) (k : Nat) (g : Int) : KSt := ⟨(frameL 120 [(0, (.string ks)), (1, (.string vs)), (7, (.pointer (some ⟨0, 0, none⟩))), (10, (.int .u64 2)), (11, (.bool true))]), ⟨4, 1, [(3, 0, .ints .u64 V 30 true), (2, 0, .ints .u64 L 30 true), (1, 0, .map [((.int .u64 1), (.slice (some ⟨2, 0, none⟩) m m), 0), ((.int .u64 2), (.slice (some ⟨3, 0, none⟩) k k), 1)] 2), (0, 0, .cells [(.int .i64 20), (.int .i64 g), (.int .i64 0), (.int .u64 2), (.map (some 1))] 94 true)]⟩⟩
theorem KR17 (ks : ByteArray) (vs : ByteArray) (V : List Int) (L : List Int) (W : List Int) (m : Nat) (k : Nat) (g : Int) : KEV boxW isWb isWs kLen manyV sizeN textAt vLen (codeAt [1, 1, 1, 1, 1, 1, 0] BK) (KS41 ks vs V L W m k g) [0, 1, 7, 10, 11] =
  some (.normal, (KS42 ks vs V L m k g)) := by kernel_rfl
noncomputable def KS43 (ks : ByteArray) (vs : ByteArray) (V : List Int) (L : List Int) (m : Nat) (k : Nat) (g : Int) : KSt := ⟨(frameL 120 [(0, (.string ks)), (1, (.string vs)), (7, (.pointer (some ⟨0, 0, none⟩))), (10, (.int .u64 2)), (58, (.bool false))]), ⟨4, 1, [(3, 0, .ints .u64 V 30 true), (2, 0, .ints .u64 L 30 true), (1, 0, .map [((.int .u64 1), (.slice (some ⟨2, 0, none⟩) m m), 0), ((.int .u64 2), (.slice (some ⟨3, 0, none⟩) k k), 1)] 2), (0, 0, .cells [(.int .i64 20), (.int .i64 g), (.int .i64 0), (.int .u64 2), (.map (some 1))] 94 true)]⟩⟩
theorem KR18 (ks : ByteArray) (vs : ByteArray) (V : List Int) (L : List Int) (m : Nat) (k : Nat) (g : Int) : KEV boxW isWb isWs kLen manyV sizeN textAt vLen (codeAt [1, 1, 1, 1, 1, 1, 1, 0, 0] BK) (KS42 ks vs V L m k g) [0, 1, 7, 10, 58] =
  some (.normal, (KS43 ks vs V L m k g)) := by kernel_rfl
noncomputable def KS44 (ks : ByteArray) (vs : ByteArray) (V : List Int) (L : List Int) (m : Nat) (k : Nat) (g : Int) : KSt := ⟨(frameL 120 [(0, (.string ks)), (1, (.string vs)), (7, (.pointer (some ⟨0, 0, none⟩))), (10, (.int .u64 2))]), ⟨4, 1, [(3, 0, .ints .u64 V 30 true), (2, 0, .ints .u64 L 30 true), (1, 0, .map [((.int .u64 1), (.slice (some ⟨2, 0, none⟩) m m), 0), ((.int .u64 2), (.slice (some ⟨3, 0, none⟩) k k), 1)] 2), (0, 0, .cells [(.int .i64 20), (.int .i64 g), (.int .i64 0), (.int .u64 2), (.map (some 1))] 94 true)]⟩⟩
theorem KR19 (ks : ByteArray) (vs : ByteArray) (V : List Int) (L : List Int) (m : Nat) (k : Nat) (g : Int) : KEV boxW isWb isWs kLen manyV sizeN textAt vLen (codeAt [1, 1, 1, 1, 1, 1, 1, 0, 1, 1] BK) (KS43 ks vs V L m k g) [0, 1, 7, 10] =
  some (.normal, (KS44 ks vs V L m k g)) := by kernel_rfl
noncomputable def KS45 (ks : ByteArray) (vs : ByteArray) (V : List Int) (L : List Int) (m : Nat) (k : Nat) (g : Int) : KSt := ⟨(frameL 120 [(0, (.string ks)), (1, (.string vs)), (7, (.pointer (some ⟨0, 0, none⟩))), (10, (.int .u64 2)), (12, (.pointer (some ⟨1, 0, none⟩)))]), ⟨5, 1, [(4, 0, .ints .u64 V 30 true), (3, 0, .ints .u64 L 30 true), (2, 0, .map [((.int .u64 1), (.slice (some ⟨3, 0, none⟩) m m), 0), ((.int .u64 2), (.slice (some ⟨4, 0, none⟩) k k), 1)] 2), (1, 0, .cells [(.slice none 0 0), (.bool true), (.int .u64 2)] 79 true), (0, 0, .cells [(.int .i64 20), (.int .i64 g), (.int .i64 0), (.int .u64 2), (.map (some 2))] 94 true)]⟩⟩
theorem KR20 (ks : ByteArray) (vs : ByteArray) (V : List Int) (L : List Int) (m : Nat) (k : Nat) (g : Int) : KEV boxW isWb isWs kLen manyV sizeN textAt vLen (codeAt [1, 1, 1, 1, 1, 1, 1, 1, 0] BK) (KS44 ks vs V L m k g) [0, 1, 7, 10, 12] =
  some (.normal, (KS45 ks vs V L m k g)) := by kernel_rfl
noncomputable def KS46 (ks : ByteArray) (vs : ByteArray) (k : Nat) (V : List Int) (L : List Int) (R : List Int) (m : Nat) (g : Int) : KSt := ⟨(frameL 120 [(0, (.string ks)), (1, (.string vs)), (7, (.pointer (some ⟨0, 0, none⟩))), (10, (.int .u64 2)), (12, (.pointer (some ⟨1, 0, none⟩))), (13, (.int .i64 ((k : Nat) : Int))), (14, (.bool true))]), ⟨6, 1, [(5, 0, .ints .u64 V 30 true), (4, 0, .ints .u64 L 30 true), (3, 0, .ints .u64 R 30 true), (2, 0, .map [((.int .u64 1), (.slice (some ⟨4, 0, none⟩) m m), 0), ((.int .u64 2), (.slice (some ⟨5, 0, none⟩) k k), 1)] 2), (1, 0, .cells [(.slice (some ⟨3, 0, none⟩) k k), (.bool true), (.int .u64 2)] 79 true), (0, 0, .cells [(.int .i64 20), (.int .i64 g), (.int .i64 0), (.int .u64 2), (.map (some 2))] 94 true)]⟩⟩
noncomputable def KS47 (ks : ByteArray) (vs : ByteArray) (k : Nat) (V : List Int) (L : List Int) (m : Nat) (g : Int) : KSt := ⟨(frameL 120 [(0, (.string ks)), (1, (.string vs)), (7, (.pointer (some ⟨0, 0, none⟩))), (10, (.int .u64 2)), (13, (.int .i64 ((k : Nat) : Int))), (14, (.bool true)), (15, (.pointer (some ⟨1, 0, none⟩))), (16, (.bool false))]), ⟨5, 1, [(4, 0, .ints .u64 V 30 true), (3, 0, .ints .u64 L 30 true), (2, 0, .map [((.int .u64 1), (.slice (some ⟨3, 0, none⟩) m m), 0), ((.int .u64 2), (.slice (some ⟨4, 0, none⟩) k k), 1)] 2), (1, 0, .cells [(.string ⟨#[]⟩), (.string ⟨#[]⟩)] 39 true), (0, 0, .cells [(.int .i64 20), (.int .i64 g), (.int .i64 0), (.int .u64 2), (.map (some 2))] 94 true)]⟩⟩
noncomputable def KS48 (ks : ByteArray) (vs : ByteArray) (k : Nat) (V : List Int) (L : List Int) (m : Nat) (R : List Int) (g : Int) : KSt := ⟨(frameL 120 [(0, (.string ks)), (1, (.string vs)), (7, (.pointer (some ⟨0, 0, none⟩))), (10, (.int .u64 2)), (13, (.int .i64 ((k : Nat) : Int))), (14, (.bool true)), (15, (.pointer (some ⟨1, 0, none⟩))), (16, (.bool true))]), ⟨5, 1, [(4, 0, .ints .u64 V 30 true), (3, 0, .ints .u64 L 30 true), (2, 0, .map [((.int .u64 1), (.slice (some ⟨3, 0, none⟩) m m), 0), ((.int .u64 2), (.slice (some ⟨4, 0, none⟩) k k), 1)] 2), (1, 0, .cells [(.string (textAt (List.take k (List.drop 0 R)) 1 (kLen (List.getD (List.take k (List.drop 0 R)) 0 0)))), (.string (textAt (List.take k (List.drop 0 R)) (1 + manyV (kLen (List.getD (List.take k (List.drop 0 R)) 0 0))) (vLen (List.getD (List.take k (List.drop 0 R)) 0 0))))] 39 true), (0, 0, .cells [(.int .i64 20), (.int .i64 g), (.int .i64 0), (.int .u64 2), (.map (some 2))] 94 true)]⟩⟩
theorem KR21 (ks : ByteArray) (vs : ByteArray) (k : Nat) (V : List Int) (L : List Int) (R : List Int) (m : Nat) (g : Int) : KEV boxW isWb isWs kLen manyV sizeN textAt vLen (codeAt [1, 1, 1, 1, 1, 1, 1, 1, 1, 1, 0] BK) (KS46 ks vs k V L R m g) [0, 1, 7, 10, 13, 14, 15, 16] =
  bif (decide (((k : Nat) : Int) > 0)) then
    if (0 : Int) ≤ 0 ∧ 0 < ((k : Nat) : Int) then
      obind (R[0]?) fun n1 =>
        bif (isWb n1) then
          bif (!(((k : Nat) : Int) == (sizeN n1))) then
            some (.normal, (KS47 ks vs k V L m g))
          else
            bif (Nat.ble (0 + k) (List.length R)) then
              bif ((Nat.ble (List.length (List.take k (List.drop 0 R))) 1000) && (isWs (List.take k (List.drop 0 R)))) then
                some (.normal, (KS48 kLen manyV textAt vLen ks vs k V L m R g))
              else
                none
            else
              none
        else
          none
    else
      none
  else
    some (.normal, (KS47 ks vs k V L m g)) := by kernel_rfl
noncomputable def KS49 (ks : ByteArray) (vs : ByteArray) (k : Nat) (V : List Int) (L : List Int) (m : Nat) (g : Int) : KSt := ⟨(frameL 120 [(0, (.string ks)), (1, (.string vs)), (7, (.pointer (some ⟨0, 0, none⟩))), (10, (.int .u64 2)), (13, (.int .i64 ((k : Nat) : Int))), (14, (.bool true)), (15, (.pointer (some ⟨1, 0, none⟩))), (16, (.bool true))]), ⟨5, 1, [(4, 0, .ints .u64 V 30 true), (3, 0, .ints .u64 L 30 true), (2, 0, .map [((.int .u64 1), (.slice (some ⟨3, 0, none⟩) m m), 0), ((.int .u64 2), (.slice (some ⟨4, 0, none⟩) k k), 1)] 2), (1, 0, .cells [(.string ks), (.string vs)] 39 true), (0, 0, .cells [(.int .i64 20), (.int .i64 g), (.int .i64 0), (.int .u64 2), (.map (some 2))] 94 true)]⟩⟩
noncomputable def KS50 (V : List Int) (L : List Int) (m : Nat) (k : Nat) (ks : ByteArray) (vs : ByteArray) (g : Int) : KSt := ⟨(frameL 120 [(7, (.pointer (some ⟨0, 0, none⟩))), (10, (.int .u64 2)), (15, (.pointer (some ⟨1, 0, none⟩))), (97, (.bool true))]), ⟨5, 1, [(4, 0, .ints .u64 V 30 true), (3, 0, .ints .u64 L 30 true), (2, 0, .map [((.int .u64 1), (.slice (some ⟨3, 0, none⟩) m m), 0), ((.int .u64 2), (.slice (some ⟨4, 0, none⟩) k k), 1)] 2), (1, 0, .cells [(.string ks), (.string vs)] 39 true), (0, 0, .cells [(.int .i64 20), (.int .i64 g), (.int .i64 0), (.int .u64 2), (.map (some 2))] 94 true)]⟩⟩
noncomputable def KS51 (k : Nat) (V : List Int) (L : List Int) (m : Nat) (ks : ByteArray) (vs : ByteArray) (g : Int) : KSt := ⟨(frameL 120 [(7, (.pointer (some ⟨0, 0, none⟩))), (10, (.int .u64 2)), (15, (.pointer (some ⟨1, 0, none⟩))), (97, (.bool (((k : Nat) : Int) != ((k : Nat) : Int))))]), ⟨5, 1, [(4, 0, .ints .u64 V 30 true), (3, 0, .ints .u64 L 30 true), (2, 0, .map [((.int .u64 1), (.slice (some ⟨3, 0, none⟩) m m), 0), ((.int .u64 2), (.slice (some ⟨4, 0, none⟩) k k), 1)] 2), (1, 0, .cells [(.string ks), (.string vs)] 39 true), (0, 0, .cells [(.int .i64 20), (.int .i64 g), (.int .i64 0), (.int .u64 2), (.map (some 2))] 94 true)]⟩⟩
theorem KR22 (ks : ByteArray) (vs : ByteArray) (k : Nat) (V : List Int) (L : List Int) (m : Nat) (g : Int) : KEV boxW isWb isWs kLen manyV sizeN textAt vLen (codeAt [1, 1, 1, 1, 1, 1, 1, 1, 1, 1, 1, 0, 0] BK) (KS49 ks vs k V L m g) [7, 10, 15, 97] =
  bif (!(ks.toList == ks.toList)) then
    some (.normal, (KS50 V L m k ks vs g))
  else
    bif (!(vs.toList == vs.toList)) then
      some (.normal, (KS50 V L m k ks vs g))
    else
      some (.normal, (KS51 k V L m ks vs g)) := by kernel_rfl
noncomputable def KS52 (V : List Int) (L : List Int) (m : Nat) (k : Nat) (ks : ByteArray) (vs : ByteArray) (g : Int) : KSt := ⟨(frameL 120 [(7, (.pointer (some ⟨0, 0, none⟩))), (10, (.int .u64 2)), (15, (.pointer (some ⟨1, 0, none⟩)))]), ⟨5, 1, [(4, 0, .ints .u64 V 30 true), (3, 0, .ints .u64 L 30 true), (2, 0, .map [((.int .u64 1), (.slice (some ⟨3, 0, none⟩) m m), 0), ((.int .u64 2), (.slice (some ⟨4, 0, none⟩) k k), 1)] 2), (1, 0, .cells [(.string ks), (.string vs)] 39 true), (0, 0, .cells [(.int .i64 20), (.int .i64 g), (.int .i64 0), (.int .u64 2), (.map (some 2))] 94 true)]⟩⟩
theorem KR23 (k : Nat) (V : List Int) (L : List Int) (m : Nat) (ks : ByteArray) (vs : ByteArray) (g : Int) : KEV boxW isWb isWs kLen manyV sizeN textAt vLen (codeAt [1, 1, 1, 1, 1, 1, 1, 1, 1, 1, 1, 0, 1, 1] BK) (KS51 k V L m ks vs g) [7, 10, 15] =
  some (.normal, (KS52 V L m k ks vs g)) := by kernel_rfl
noncomputable def KS53 (V : List Int) (L : List Int) (m : Nat) (k : Nat) (ks : ByteArray) (vs : ByteArray) (g : Int) : KSt := ⟨(frameL 120 [(7, (.pointer (some ⟨0, 0, none⟩))), (15, (.pointer (some ⟨1, 0, none⟩))), (17, (.pointer (some ⟨2, 0, none⟩)))]), ⟨6, 1, [(5, 0, .ints .u64 V 30 true), (4, 0, .ints .u64 L 30 true), (3, 0, .map [((.int .u64 1), (.slice (some ⟨4, 0, none⟩) m m), 0), ((.int .u64 2), (.slice (some ⟨5, 0, none⟩) k k), 1)] 2), (2, 0, .cells [(.slice none 0 0), (.bool true), (.int .u64 2)] 79 true), (1, 0, .cells [(.string ks), (.string vs)] 39 true), (0, 0, .cells [(.int .i64 20), (.int .i64 g), (.int .i64 0), (.int .u64 2), (.map (some 3))] 94 true)]⟩⟩
theorem KR24 (V : List Int) (L : List Int) (m : Nat) (k : Nat) (ks : ByteArray) (vs : ByteArray) (g : Int) : KEV boxW isWb isWs kLen manyV sizeN textAt vLen (codeAt [1, 1, 1, 1, 1, 1, 1, 1, 1, 1, 1, 1, 0] BK) (KS52 V L m k ks vs g) [7, 15, 17] =
  some (.normal, (KS53 V L m k ks vs g)) := by kernel_rfl
noncomputable def KS54 (V : List Int) (L : List Int) (R : List Int) (m : Nat) (k : Nat) (ks : ByteArray) (vs : ByteArray) (g : Int) : KSt := ⟨(frameL 120 [(7, (.pointer (some ⟨0, 0, none⟩))), (15, (.pointer (some ⟨1, 0, none⟩))), (17, (.pointer (some ⟨2, 0, none⟩)))]), ⟨7, 1, [(6, 0, .ints .u64 V 30 true), (5, 0, .ints .u64 L 30 true), (4, 0, .ints .u64 R 30 true), (3, 0, .map [((.int .u64 1), (.slice (some ⟨5, 0, none⟩) m m), 0), ((.int .u64 2), (.slice (some ⟨6, 0, none⟩) k k), 1)] 2), (2, 0, .cells [(.slice (some ⟨4, 0, none⟩) k k), (.bool true), (.int .u64 2)] 79 true), (1, 0, .cells [(.string ks), (.string vs)] 39 true), (0, 0, .cells [(.int .i64 20), (.int .i64 g), (.int .i64 0), (.int .u64 2), (.map (some 3))] 94 true)]⟩⟩
noncomputable def KS55 (V : List Int) (L : List Int) (m : Nat) (k : Nat) (ks : ByteArray) (vs : ByteArray) (g : Int) : KSt := ⟨(frameL 120 [(7, (.pointer (some ⟨0, 0, none⟩))), (15, (.pointer (some ⟨1, 0, none⟩))), (18, (.pointer (some ⟨2, 0, none⟩)))]), ⟨6, 1, [(5, 0, .ints .u64 V 30 true), (4, 0, .ints .u64 L 30 true), (3, 0, .map [((.int .u64 1), (.slice (some ⟨4, 0, none⟩) m m), 0), ((.int .u64 2), (.slice (some ⟨5, 0, none⟩) k k), 1)] 2), (2, 0, .cells [(.string ⟨#[]⟩), (.string ⟨#[]⟩)] 39 true), (1, 0, .cells [(.string ks), (.string vs)] 39 true), (0, 0, .cells [(.int .i64 20), (.int .i64 g), (.int .i64 0), (.int .u64 2), (.map (some 3))] 94 true)]⟩⟩
noncomputable def KS56 (V : List Int) (L : List Int) (m : Nat) (k : Nat) (R : List Int) (ks : ByteArray) (vs : ByteArray) (g : Int) : KSt := ⟨(frameL 120 [(7, (.pointer (some ⟨0, 0, none⟩))), (15, (.pointer (some ⟨1, 0, none⟩))), (18, (.pointer (some ⟨2, 0, none⟩)))]), ⟨6, 1, [(5, 0, .ints .u64 V 30 true), (4, 0, .ints .u64 L 30 true), (3, 0, .map [((.int .u64 1), (.slice (some ⟨4, 0, none⟩) m m), 0), ((.int .u64 2), (.slice (some ⟨5, 0, none⟩) k k), 1)] 2), (2, 0, .cells [(.string (textAt (List.take k (List.drop 0 R)) 1 (kLen (List.getD (List.take k (List.drop 0 R)) 0 0)))), (.string (textAt (List.take k (List.drop 0 R)) (1 + manyV (kLen (List.getD (List.take k (List.drop 0 R)) 0 0))) (vLen (List.getD (List.take k (List.drop 0 R)) 0 0))))] 39 true), (1, 0, .cells [(.string ks), (.string vs)] 39 true), (0, 0, .cells [(.int .i64 20), (.int .i64 g), (.int .i64 0), (.int .u64 2), (.map (some 3))] 94 true)]⟩⟩
theorem KR25 (V : List Int) (L : List Int) (R : List Int) (m : Nat) (k : Nat) (ks : ByteArray) (vs : ByteArray) (g : Int) : KEV boxW isWb isWs kLen manyV sizeN textAt vLen (codeAt [1, 1, 1, 1, 1, 1, 1, 1, 1, 1, 1, 1, 1, 1, 0] BK) (KS54 V L R m k ks vs g) [7, 15, 18] =
  bif (decide (((k : Nat) : Int) > 0)) then
    if (0 : Int) ≤ 0 ∧ 0 < ((k : Nat) : Int) then
      obind (R[0]?) fun n1 =>
        bif (isWb n1) then
          bif (!(((k : Nat) : Int) == (sizeN n1))) then
            some (.normal, (KS55 V L m k ks vs g))
          else
            bif (Nat.ble (0 + k) (List.length R)) then
              bif ((Nat.ble (List.length (List.take k (List.drop 0 R))) 1000) && (isWs (List.take k (List.drop 0 R)))) then
                some (.normal, (KS56 kLen manyV textAt vLen V L m k R ks vs g))
              else
                none
            else
              none
        else
          none
    else
      none
  else
    some (.normal, (KS55 V L m k ks vs g)) := by kernel_rfl
noncomputable def KS57 (V : List Int) (L : List Int) (m : Nat) (k : Nat) (ks : ByteArray) (vs : ByteArray) (g : Int) : KSt := ⟨(frameL 120 [(7, (.pointer (some ⟨0, 0, none⟩))), (15, (.pointer (some ⟨1, 0, none⟩))), (18, (.pointer (some ⟨2, 0, none⟩)))]), ⟨6, 1, [(5, 0, .ints .u64 V 30 true), (4, 0, .ints .u64 L 30 true), (3, 0, .map [((.int .u64 1), (.slice (some ⟨4, 0, none⟩) m m), 0), ((.int .u64 2), (.slice (some ⟨5, 0, none⟩) k k), 1)] 2), (2, 0, .cells [(.string ks), (.string vs)] 39 true), (1, 0, .cells [(.string ks), (.string vs)] 39 true), (0, 0, .cells [(.int .i64 20), (.int .i64 g), (.int .i64 0), (.int .u64 2), (.map (some 3))] 94 true)]⟩⟩
noncomputable def KS58  : KSt := ⟨(frameL 120 [(6, (.bool false))]), ⟨0, 1, []⟩⟩
theorem KR26 (V : List Int) (L : List Int) (m : Nat) (k : Nat) (ks : ByteArray) (vs : ByteArray) (g : Int) : KEV boxW isWb isWs kLen manyV sizeN textAt vLen (codeAt [1, 1, 1, 1, 1, 1, 1, 1, 1, 1, 1, 1, 1, 1, 1, 0] BK) (KS57 V L m k ks vs g) [6] =
  bif ((ks.toList == ks.toList) && ((vs.toList == vs.toList) && true)) then
    some (.normal, KS4)
  else
    some (.normal, KS58) := by kernel_rfl
noncomputable def KS59 (ks : ByteArray) (vs : ByteArray) (L : List Int) (W : List Int) (m : Nat) (k : Nat) (g : Int) : KSt := ⟨(frameL 120 [(0, (.string ks)), (1, (.string vs)), (7, (.pointer (some ⟨0, 0, none⟩))), (9, (.pointer (some ⟨1, 0, none⟩)))]), ⟨5, 1, [(4, 0, .ints .u64 L 30 true), (3, 0, .ints .u64 W 30 true), (2, 0, .map [((.int .u64 1), (.slice (some ⟨4, 0, none⟩) m m), 0)] 1), (1, 0, .cells [(.bool true), (.slice (some ⟨3, 0, none⟩) k k), (.int .u64 0), (.int .i64 (-1)), (.int .i64 5), (.int .u64 0), (.int .i64 ((k : Nat) : Int)), (.int .u64 0), (.int .u64 0)] 88 true), (0, 0, .cells [(.int .i64 20), (.int .i64 g), (.int .i64 0), (.int .u64 1), (.map (some 2))] 94 true)]⟩⟩
end
theorem Kgk {ks : ByteArray} {vs : ByteArray} {os : ByteArray} (hk : 16 < ks.size)   {Q : Ex → St → Prop} (hq : Q .ret (KSt.low KS4)) : Gets Try.prog (KH.low ⟨0, 1, []⟩) BK (KSt.low (KS0 ks vs os)) Q := by
  rw [KC]; refine Gets.seq ?_
  refine Kgo (KR1 boxW isWb isWs kLen manyV sizeN textAt vLen ks vs os) ?_
  rw [KC1]; refine Gets.seq ?_
  rw [KC1_0]; refine Gets.seq ?_
  refine Kgo (x := .normal) (s' := (KS2 ks vs os)) ((KR2 boxW isWb isWs kLen manyV sizeN textAt vLen ks vs os).trans (by rw [condT (decide_eq_true (by omega))])) ?_
  rw [KC1_0_1]; refine Gets.cond true (by kernel_rfl) (by kernel_rfl) ?_; show Gets _ _ (codeAt [1, 0, 1, 0] BK) _ _
  rw [KC1_0_1_0]; refine Gets.seq ?_
  refine Kgo (KR3 boxW isWb isWs kLen manyV sizeN textAt vLen ks vs os) ?_
  rw [KC1_0_1_0_1]; refine Gets.ev fitK.mix fitK.cfg (fitK.sound rr_sound 40 0) 40 rfl (s' := KSt.low KS4) (x := .ret) rfl ?_
  exact hq
theorem Kgv {ks : ByteArray} {vs : ByteArray} {os : ByteArray} (hk : ks.size ≤ 16) (hv : 24 < vs.size)   {Q : Ex → St → Prop} (hq : Q .ret (KSt.low KS4)) : Gets Try.prog (KH.low ⟨0, 1, []⟩) BK (KSt.low (KS0 ks vs os)) Q := by
  rw [KC]; refine Gets.seq ?_
  refine Kgo (KR1 boxW isWb isWs kLen manyV sizeN textAt vLen ks vs os) ?_
  rw [KC1]; refine Gets.seq ?_
  rw [KC1_0]; refine Gets.seq ?_
  refine Kgo (x := .normal) (s' := (KS2 ks vs os)) ((KR2 boxW isWb isWs kLen manyV sizeN textAt vLen ks vs os).trans (by rw [condF (decide_eq_false (by omega)), condT (decide_eq_true (by omega))])) ?_
  rw [KC1_0_1]; refine Gets.cond true (by kernel_rfl) (by kernel_rfl) ?_; show Gets _ _ (codeAt [1, 0, 1, 0] BK) _ _
  rw [KC1_0_1_0]; refine Gets.seq ?_
  refine Kgo (KR3 boxW isWb isWs kLen manyV sizeN textAt vLen ks vs os) ?_
  rw [KC1_0_1_0_1]; refine Gets.ev fitK.mix fitK.cfg (fitK.sound rr_sound 40 0) 40 rfl (s' := KSt.low KS4) (x := .ret) rfl ?_
  exact hq
theorem Kgs {ks : ByteArray} {vs : ByteArray} {os : ByteArray} (hk : ks.size ≤ 16) (hv : vs.size ≤ 24) (ho : 16 < os.size)   {Q : Ex → St → Prop} (hq : Q .ret (KSt.low KS4)) : Gets Try.prog (KH.low ⟨0, 1, []⟩) BK (KSt.low (KS0 ks vs os)) Q := by
  rw [KC]; refine Gets.seq ?_
  refine Kgo (KR1 boxW isWb isWs kLen manyV sizeN textAt vLen ks vs os) ?_
  rw [KC1]; refine Gets.seq ?_
  rw [KC1_0]; refine Gets.seq ?_
  refine Kgo (x := .normal) (s' := (KS3 ks vs os)) ((KR2 boxW isWb isWs kLen manyV sizeN textAt vLen ks vs os).trans (by rw [condF (decide_eq_false (by omega)), condF (decide_eq_false (by omega))])) ?_
  rw [KC1_0_1]; refine Gets.cond true (by kernel_rfl) (KeX (b := (decide ((((ByteArray.size os) : Nat) : Int) > 16))) (by kernel_rfl) ((show (decide ((((ByteArray.size os) : Nat) : Int) > 16)) = true from decide_eq_true (by omega)))) ?_; show Gets _ _ (codeAt [1, 0, 1, 0] BK) _ _
  rw [KC1_0_1_0]; refine Gets.seq ?_
  refine Kgo (KR4 boxW isWb isWs kLen manyV sizeN textAt vLen ks vs os) ?_
  rw [KC1_0_1_0_1]; refine Gets.ev fitK.mix fitK.cfg (fitK.sound rr_sound 40 0) 40 rfl (s' := KSt.low KS4) (x := .ret) rfl ?_
  exact hq
theorem Kin {os : ByteArray} {ks : ByteArray} {vs : ByteArray} {X : List Int} {W : List Int} {m : Nat} {k : Nat} (ho : os.size ≤ 16) (hk : ks.size ≤ 16) (hv : vs.size ≤ 24) (hX : boxW os (⟨#[]⟩ : ByteArray) = X) (hW : boxW ks vs = W) (hm : X.length = m) (hn : W.length = k) (h1 : 1 ≤ m) (h2 : 1 ≤ k)   {Q : Ex → St → Prop} (hq : Gets Try.prog (KH.low ⟨0, 1, []⟩) (codeAt [1, 1, 1, 1] BK) (KSt.low (KS7 ks vs W X k m)) (Q)) : Gets Try.prog (KH.low ⟨0, 1, []⟩) BK (KSt.low (KS0 ks vs os)) Q := by
  rw [KC]; refine Gets.seq ?_
  refine Kgo (KR1 boxW isWb isWs kLen manyV sizeN textAt vLen ks vs os) ?_
  rw [KC1]; refine Gets.seq ?_
  rw [KC1_0]; refine Gets.seq ?_
  refine Kgo (x := .normal) (s' := (KS3 ks vs os)) ((KR2 boxW isWb isWs kLen manyV sizeN textAt vLen ks vs os).trans (by rw [condF (decide_eq_false (by omega)), condF (decide_eq_false (by omega))])) ?_
  rw [KC1_0_1]; refine Gets.cond false (by kernel_rfl) (KeX (b := (decide ((((ByteArray.size os) : Nat) : Int) > 16))) (by kernel_rfl) ((show (decide ((((ByteArray.size os) : Nat) : Int) > 16)) = false from decide_eq_false (by omega)))) ?_; show Gets _ _ (codeAt [1, 0, 1, 1] BK) _ _
  refine Kgo (KR5 boxW isWb isWs kLen manyV sizeN textAt vLen ks vs os) ?_
  rw [KC1_1]; refine Gets.seq ?_
  refine Kgo (KR6 boxW isWb isWs kLen manyV sizeN textAt vLen ks vs os) ?_
  rw [KC1_1_1]; refine Gets.seq ?_
  refine Kgo (x := .normal) (s' := (KS7 ks vs W X k m)) ((KR7 boxW isWb isWs kLen manyV sizeN textAt vLen ks vs os).trans (by rw [condT (and_t (ble_t (by omega)) (show (Nat.ble (ByteArray.size (⟨#[]⟩ : ByteArray)) 24) = true from rfl)), condT (and_t (ble_t (by omega)) (ble_t (by omega)))] <;> (show some (Ex.normal, (KS6 boxW ks vs os)) = some (Ex.normal, (KS7 ks vs W X k m)); unfold KS6 KS7; rw [(show (boxW os (⟨#[]⟩ : ByteArray)) = X from hX), (show (boxW ks vs) = W from hW), (show (List.length X) = m from hm), (show (List.length W) = k from hn)]))) ?_
  exact hq
theorem Ka1 {X : List Int} {ks : ByteArray} {vs : ByteArray} {W : List Int} {k : Nat} (hX : X.length = 1)   {Q : Ex → St → Prop} (hq : Gets Try.prog (KH.low ⟨0, 1, []⟩) (codeAt [1, 1, 1, 1, 1] BK) (KSt.low (KS10 ks vs X W k)) (Q)) : Gets Try.prog (KH.low ⟨0, 1, []⟩) (codeAt [1, 1, 1, 1] BK) (KSt.low (KS8 ks vs W X k)) Q := by
  rw [KC1_1_1_1]; refine Gets.seq ?_
  refine Kgo (x := .normal) (s' := (KS10 ks vs X W k)) ((KR8 boxW isWb isWs kLen manyV sizeN textAt vLen ks vs W X k).trans (by rw [obind_at (k := 0) (by omega) (by omega), condT (show (Nat.ble 1 (List.length (List.replicate 1 (0 : Int)))) = true from rfl)] <;> rfl)) ?_
  exact hq
theorem Ka2 {X : List Int} {ks : ByteArray} {vs : ByteArray} {W : List Int} {k : Nat} (hX : X.length = 2)   {Q : Ex → St → Prop} (hq : Gets Try.prog (KH.low ⟨0, 1, []⟩) (codeAt [1, 1, 1, 1, 1] BK) (KSt.low (KS13 ks vs X W k)) (Q)) : Gets Try.prog (KH.low ⟨0, 1, []⟩) (codeAt [1, 1, 1, 1] BK) (KSt.low (KS11 ks vs W X k)) Q := by
  rw [KC1_1_1_1]; refine Gets.seq ?_
  refine Kgo (x := .normal) (s' := (KS13 ks vs X W k)) ((KR9 boxW isWb isWs kLen manyV sizeN textAt vLen ks vs W X k).trans (by rw [obind_at (k := 0) (by omega) (by omega), condT (show (Nat.ble 1 (List.length (List.replicate 2 (0 : Int)))) = true from rfl), obind_at (k := 1) (by omega) (by omega), condT (show (Nat.ble 2 (List.length (List.set (List.replicate 2 (0 : Int)) 0 (X.getD 0 0)))) = true from rfl)] <;> rfl)) ?_
  exact hq
theorem Ka3 {X : List Int} {ks : ByteArray} {vs : ByteArray} {W : List Int} {k : Nat} (hX : X.length = 3)   {Q : Ex → St → Prop} (hq : Gets Try.prog (KH.low ⟨0, 1, []⟩) (codeAt [1, 1, 1, 1, 1] BK) (KSt.low (KS16 ks vs X W k)) (Q)) : Gets Try.prog (KH.low ⟨0, 1, []⟩) (codeAt [1, 1, 1, 1] BK) (KSt.low (KS14 ks vs W X k)) Q := by
  rw [KC1_1_1_1]; refine Gets.seq ?_
  refine Kgo (x := .normal) (s' := (KS16 ks vs X W k)) ((KR10 boxW isWb isWs kLen manyV sizeN textAt vLen ks vs W X k).trans (by rw [obind_at (k := 0) (by omega) (by omega), condT (show (Nat.ble 1 (List.length (List.replicate 3 (0 : Int)))) = true from rfl), obind_at (k := 1) (by omega) (by omega), condT (show (Nat.ble 2 (List.length (List.set (List.replicate 3 (0 : Int)) 0 (X.getD 0 0)))) = true from rfl), obind_at (k := 2) (by omega) (by omega), condT (show (Nat.ble 3 (List.length (List.set (List.set (List.replicate 3 (0 : Int)) 0 (X.getD 0 0)) 1 (X.getD 1 0)))) = true from rfl)] <;> rfl)) ?_
  exact hq
theorem Kb1 {W : List Int} {g : Int} {ks : ByteArray} {vs : ByteArray} {L : List Int} {m : Nat} (hW : W.length = 1) (hg : 1 ≤ g) (hg3 : g ≤ 3)   {Q : Ex → St → Prop} (hq : Gets Try.prog (KH.low ⟨0, 1, []⟩) (codeAt [1, 1, 1, 1, 1, 1] BK) (KSt.low (KS20 ks vs W L m g)) (Q)) : Gets Try.prog (KH.low ⟨0, 1, []⟩) (codeAt [1, 1, 1, 1, 1] BK) (KSt.low (KS17 ks vs L W m g)) Q := by
  rw [KC1_1_1_1_1]; refine Gets.seq ?_
  refine Kgo (x := .normal) (s' := (KS20 ks vs W L m g)) ((KR11 boxW isWb isWs kLen manyV sizeN textAt vLen ks vs L W m g).trans (by rw [condF (decide_eq_false (by (first | omega | ((try simp (disch := omega) only [wrap_i64_id]) <;> omega)))), obind_at (k := 0) (by omega) (by omega), condT (show (Nat.ble 1 (List.length (List.replicate 1 (0 : Int)))) = true from rfl)] <;> rfl)) ?_
  exact hq
theorem Kb2 {W : List Int} {g : Int} {ks : ByteArray} {vs : ByteArray} {L : List Int} {m : Nat} (hW : W.length = 2) (hg : 1 ≤ g) (hg3 : g ≤ 3)   {Q : Ex → St → Prop} (hq : Gets Try.prog (KH.low ⟨0, 1, []⟩) (codeAt [1, 1, 1, 1, 1, 1] BK) (KSt.low (KS24 ks vs W L m g)) (Q)) : Gets Try.prog (KH.low ⟨0, 1, []⟩) (codeAt [1, 1, 1, 1, 1] BK) (KSt.low (KS21 ks vs L W m g)) Q := by
  rw [KC1_1_1_1_1]; refine Gets.seq ?_
  refine Kgo (x := .normal) (s' := (KS24 ks vs W L m g)) ((KR12 boxW isWb isWs kLen manyV sizeN textAt vLen ks vs L W m g).trans (by rw [condF (decide_eq_false (by (first | omega | ((try simp (disch := omega) only [wrap_i64_id]) <;> omega)))), obind_at (k := 0) (by omega) (by omega), condT (show (Nat.ble 1 (List.length (List.replicate 2 (0 : Int)))) = true from rfl), obind_at (k := 1) (by omega) (by omega), condT (show (Nat.ble 2 (List.length (List.set (List.replicate 2 (0 : Int)) 0 (W.getD 0 0)))) = true from rfl)] <;> rfl)) ?_
  exact hq
theorem Kb3 {W : List Int} {g : Int} {ks : ByteArray} {vs : ByteArray} {L : List Int} {m : Nat} (hW : W.length = 3) (hg : 1 ≤ g) (hg3 : g ≤ 3)   {Q : Ex → St → Prop} (hq : Gets Try.prog (KH.low ⟨0, 1, []⟩) (codeAt [1, 1, 1, 1, 1, 1] BK) (KSt.low (KS28 ks vs W L m g)) (Q)) : Gets Try.prog (KH.low ⟨0, 1, []⟩) (codeAt [1, 1, 1, 1, 1] BK) (KSt.low (KS25 ks vs L W m g)) Q := by
  rw [KC1_1_1_1_1]; refine Gets.seq ?_
  refine Kgo (x := .normal) (s' := (KS28 ks vs W L m g)) ((KR13 boxW isWb isWs kLen manyV sizeN textAt vLen ks vs L W m g).trans (by rw [condF (decide_eq_false (by (first | omega | ((try simp (disch := omega) only [wrap_i64_id]) <;> omega)))), obind_at (k := 0) (by omega) (by omega), condT (show (Nat.ble 1 (List.length (List.replicate 3 (0 : Int)))) = true from rfl), obind_at (k := 1) (by omega) (by omega), condT (show (Nat.ble 2 (List.length (List.set (List.replicate 3 (0 : Int)) 0 (W.getD 0 0)))) = true from rfl), obind_at (k := 2) (by omega) (by omega), condT (show (Nat.ble 3 (List.length (List.set (List.set (List.replicate 3 (0 : Int)) 0 (W.getD 0 0)) 1 (W.getD 1 0)))) = true from rfl)] <;> rfl)) ?_
  exact hq
theorem Kb4 {W : List Int} {g : Int} {ks : ByteArray} {vs : ByteArray} {L : List Int} {m : Nat} (hW : W.length = 4) (hg : 1 ≤ g) (hg3 : g ≤ 3)   {Q : Ex → St → Prop} (hq : Gets Try.prog (KH.low ⟨0, 1, []⟩) (codeAt [1, 1, 1, 1, 1, 1] BK) (KSt.low (KS32 ks vs W L m g)) (Q)) : Gets Try.prog (KH.low ⟨0, 1, []⟩) (codeAt [1, 1, 1, 1, 1] BK) (KSt.low (KS29 ks vs L W m g)) Q := by
  rw [KC1_1_1_1_1]; refine Gets.seq ?_
  refine Kgo (x := .normal) (s' := (KS32 ks vs W L m g)) ((KR14 boxW isWb isWs kLen manyV sizeN textAt vLen ks vs L W m g).trans (by rw [condF (decide_eq_false (by (first | omega | ((try simp (disch := omega) only [wrap_i64_id]) <;> omega)))), obind_at (k := 0) (by omega) (by omega), condT (show (Nat.ble 1 (List.length (List.replicate 4 (0 : Int)))) = true from rfl), obind_at (k := 1) (by omega) (by omega), condT (show (Nat.ble 2 (List.length (List.set (List.replicate 4 (0 : Int)) 0 (W.getD 0 0)))) = true from rfl), obind_at (k := 2) (by omega) (by omega), condT (show (Nat.ble 3 (List.length (List.set (List.set (List.replicate 4 (0 : Int)) 0 (W.getD 0 0)) 1 (W.getD 1 0)))) = true from rfl), obind_at (k := 3) (by omega) (by omega), condT (show (Nat.ble 4 (List.length (List.set (List.set (List.set (List.replicate 4 (0 : Int)) 0 (W.getD 0 0)) 1 (W.getD 1 0)) 2 (W.getD 2 0)))) = true from rfl)] <;> rfl)) ?_
  exact hq
theorem Kb5 {W : List Int} {g : Int} {ks : ByteArray} {vs : ByteArray} {L : List Int} {m : Nat} (hW : W.length = 5) (hg : 1 ≤ g) (hg3 : g ≤ 3)   {Q : Ex → St → Prop} (hq : Gets Try.prog (KH.low ⟨0, 1, []⟩) (codeAt [1, 1, 1, 1, 1, 1] BK) (KSt.low (KS36 ks vs W L m g)) (Q)) : Gets Try.prog (KH.low ⟨0, 1, []⟩) (codeAt [1, 1, 1, 1, 1] BK) (KSt.low (KS33 ks vs L W m g)) Q := by
  rw [KC1_1_1_1_1]; refine Gets.seq ?_
  refine Kgo (x := .normal) (s' := (KS36 ks vs W L m g)) ((KR15 boxW isWb isWs kLen manyV sizeN textAt vLen ks vs L W m g).trans (by rw [condF (decide_eq_false (by (first | omega | ((try simp (disch := omega) only [wrap_i64_id]) <;> omega)))), obind_at (k := 0) (by omega) (by omega), condT (show (Nat.ble 1 (List.length (List.replicate 5 (0 : Int)))) = true from rfl), obind_at (k := 1) (by omega) (by omega), condT (show (Nat.ble 2 (List.length (List.set (List.replicate 5 (0 : Int)) 0 (W.getD 0 0)))) = true from rfl), obind_at (k := 2) (by omega) (by omega), condT (show (Nat.ble 3 (List.length (List.set (List.set (List.replicate 5 (0 : Int)) 0 (W.getD 0 0)) 1 (W.getD 1 0)))) = true from rfl), obind_at (k := 3) (by omega) (by omega), condT (show (Nat.ble 4 (List.length (List.set (List.set (List.set (List.replicate 5 (0 : Int)) 0 (W.getD 0 0)) 1 (W.getD 1 0)) 2 (W.getD 2 0)))) = true from rfl), obind_at (k := 4) (by omega) (by omega), condT (show (Nat.ble 5 (List.length (List.set (List.set (List.set (List.set (List.replicate 5 (0 : Int)) 0 (W.getD 0 0)) 1 (W.getD 1 0)) 2 (W.getD 2 0)) 3 (W.getD 3 0)))) = true from rfl)] <;> rfl)) ?_
  exact hq
theorem Kb6 {W : List Int} {g : Int} {ks : ByteArray} {vs : ByteArray} {L : List Int} {m : Nat} (hW : W.length = 6) (hg : 1 ≤ g) (hg3 : g ≤ 3)   {Q : Ex → St → Prop} (hq : Gets Try.prog (KH.low ⟨0, 1, []⟩) (codeAt [1, 1, 1, 1, 1, 1] BK) (KSt.low (KS40 ks vs W L m g)) (Q)) : Gets Try.prog (KH.low ⟨0, 1, []⟩) (codeAt [1, 1, 1, 1, 1] BK) (KSt.low (KS37 ks vs L W m g)) Q := by
  rw [KC1_1_1_1_1]; refine Gets.seq ?_
  refine Kgo (x := .normal) (s' := (KS40 ks vs W L m g)) ((KR16 boxW isWb isWs kLen manyV sizeN textAt vLen ks vs L W m g).trans (by rw [condF (decide_eq_false (by (first | omega | ((try simp (disch := omega) only [wrap_i64_id]) <;> omega)))), obind_at (k := 0) (by omega) (by omega), condT (show (Nat.ble 1 (List.length (List.replicate 6 (0 : Int)))) = true from rfl), obind_at (k := 1) (by omega) (by omega), condT (show (Nat.ble 2 (List.length (List.set (List.replicate 6 (0 : Int)) 0 (W.getD 0 0)))) = true from rfl), obind_at (k := 2) (by omega) (by omega), condT (show (Nat.ble 3 (List.length (List.set (List.set (List.replicate 6 (0 : Int)) 0 (W.getD 0 0)) 1 (W.getD 1 0)))) = true from rfl), obind_at (k := 3) (by omega) (by omega), condT (show (Nat.ble 4 (List.length (List.set (List.set (List.set (List.replicate 6 (0 : Int)) 0 (W.getD 0 0)) 1 (W.getD 1 0)) 2 (W.getD 2 0)))) = true from rfl), obind_at (k := 4) (by omega) (by omega), condT (show (Nat.ble 5 (List.length (List.set (List.set (List.set (List.set (List.replicate 6 (0 : Int)) 0 (W.getD 0 0)) 1 (W.getD 1 0)) 2 (W.getD 2 0)) 3 (W.getD 3 0)))) = true from rfl), obind_at (k := 5) (by omega) (by omega), condT (show (Nat.ble 6 (List.length (List.set (List.set (List.set (List.set (List.set (List.replicate 6 (0 : Int)) 0 (W.getD 0 0)) 1 (W.getD 1 0)) 2 (W.getD 2 0)) 3 (W.getD 3 0)) 4 (W.getD 4 0)))) = true from rfl)] <;> rfl)) ?_
  exact hq
theorem Kc {ks : ByteArray} {vs : ByteArray} {V : List Int} {L : List Int} {m : Nat} {k : Nat} {g : Int} {W : List Int}   {Q : Ex → St → Prop} (hq : Gets Try.prog (KH.low ⟨0, 1, []⟩) (codeAt [1, 1, 1, 1, 1, 1, 1, 1, 1] BK) (KSt.low (KS45 ks vs V L m k g)) (Q)) : Gets Try.prog (KH.low ⟨0, 1, []⟩) (codeAt [1, 1, 1, 1, 1, 1] BK) (KSt.low (KS41 ks vs V L W m k g)) Q := by
  rw [KC1_1_1_1_1_1]; refine Gets.seq ?_
  refine Kgo (KR17 boxW isWb isWs kLen manyV sizeN textAt vLen ks vs V L W m k g) ?_
  rw [KC1_1_1_1_1_1_1]; refine Gets.seq ?_
  rw [KC1_1_1_1_1_1_1_0]; refine Gets.seq ?_
  refine Kgo (KR18 boxW isWb isWs kLen manyV sizeN textAt vLen ks vs V L m k g) ?_
  rw [KC1_1_1_1_1_1_1_0_1]; refine Gets.cond false (by kernel_rfl) (by kernel_rfl) ?_; show Gets _ _ (codeAt [1, 1, 1, 1, 1, 1, 1, 0, 1, 1] BK) _ _
  refine Kgo (KR19 boxW isWb isWs kLen manyV sizeN textAt vLen ks vs V L m k g) ?_
  rw [KC1_1_1_1_1_1_1_1]; refine Gets.seq ?_
  refine Kgo (KR20 boxW isWb isWs kLen manyV sizeN textAt vLen ks vs V L m k g) ?_
  exact hq
theorem Ke {R : List Int} {k : Nat} {ks : ByteArray} {vs : ByteArray} {V : List Int} {L : List Int} {m : Nat} {g : Int} (hR : R.length = k) (h1 : 1 ≤ k) (h6 : k ≤ 6) (hwb : isWb (R.getD 0 0) = true) (hsz : sizeN (R.getD 0 0) = ((k : Nat) : Int)) (hws : isWs (List.take k (List.drop 0 R)) = true) (hR1 : (textAt (List.take k (List.drop 0 R)) 1 (kLen (List.getD (List.take k (List.drop 0 R)) 0 0))) = ks) (hR2 : (textAt (List.take k (List.drop 0 R)) (1 + manyV (kLen (List.getD (List.take k (List.drop 0 R)) 0 0))) (vLen (List.getD (List.take k (List.drop 0 R)) 0 0))) = vs)   {Q : Ex → St → Prop} (hq : Gets Try.prog (KH.low ⟨0, 1, []⟩) (codeAt [1, 1, 1, 1, 1, 1, 1, 1, 1, 1, 1, 1, 1] BK) (KSt.low (KS53 V L m k ks vs g)) (Q)) : Gets Try.prog (KH.low ⟨0, 1, []⟩) (codeAt [1, 1, 1, 1, 1, 1, 1, 1, 1, 1] BK) (KSt.low (KS46 ks vs k V L R m g)) Q := by
  rw [KC1_1_1_1_1_1_1_1_1_1]; refine Gets.seq ?_
  refine Kgo (x := .normal) (s' := (KS49 ks vs k V L m g)) ((KR21 boxW isWb isWs kLen manyV sizeN textAt vLen ks vs k V L R m g).trans (by rw [condT (decide_eq_true (by omega)), if_pos (⟨by omega, by omega⟩), obind_at (k := 0) (by omega) (by omega), condT (hwb), condF (not_f (ibeq_t (by omega))), condT (ble_t (by (first | omega | ((try simp (disch := omega) only [wrap_i64_id]) <;> omega)))), condT (and_t (Nat.ble_eq_true_of_le (by simp; omega)) (hws))] <;> (show some (Ex.normal, (KS48 kLen manyV textAt vLen ks vs k V L m R g)) = some (Ex.normal, (KS49 ks vs k V L m g)); unfold KS48 KS49; rw [(show (textAt (List.take k (List.drop 0 R)) 1 (kLen (List.getD (List.take k (List.drop 0 R)) 0 0))) = ks from hR1), (show (textAt (List.take k (List.drop 0 R)) (1 + manyV (kLen (List.getD (List.take k (List.drop 0 R)) 0 0))) (vLen (List.getD (List.take k (List.drop 0 R)) 0 0))) = vs from hR2)]))) ?_
  rw [KC1_1_1_1_1_1_1_1_1_1_1]; refine Gets.seq ?_
  rw [KC1_1_1_1_1_1_1_1_1_1_1_0]; refine Gets.seq ?_
  refine Kgo (x := .normal) (s' := (KS51 k V L m ks vs g)) ((KR22 boxW isWb isWs kLen manyV sizeN textAt vLen ks vs k V L m g).trans (by rw [condF (not_f (beq_self_eq_true _)), condF (not_f (beq_self_eq_true _))])) ?_
  rw [KC1_1_1_1_1_1_1_1_1_1_1_0_1]; refine Gets.cond false (by kernel_rfl) (KeX (b := (((k : Nat) : Int) != ((k : Nat) : Int))) (by kernel_rfl) ((show (((k : Nat) : Int) != ((k : Nat) : Int)) = false from ibne_f (by omega)))) ?_; show Gets _ _ (codeAt [1, 1, 1, 1, 1, 1, 1, 1, 1, 1, 1, 0, 1, 1] BK) _ _
  refine Kgo (KR23 boxW isWb isWs kLen manyV sizeN textAt vLen k V L m ks vs g) ?_
  rw [KC1_1_1_1_1_1_1_1_1_1_1_1]; refine Gets.seq ?_
  refine Kgo (KR24 boxW isWb isWs kLen manyV sizeN textAt vLen V L m k ks vs g) ?_
  exact hq
theorem Kg {R : List Int} {k : Nat} {ks : ByteArray} {vs : ByteArray} {V : List Int} {L : List Int} {m : Nat} {g : Int} (hR : R.length = k) (h1 : 1 ≤ k) (h6 : k ≤ 6) (hwb : isWb (R.getD 0 0) = true) (hsz : sizeN (R.getD 0 0) = ((k : Nat) : Int)) (hws : isWs (List.take k (List.drop 0 R)) = true) (hR1 : (textAt (List.take k (List.drop 0 R)) 1 (kLen (List.getD (List.take k (List.drop 0 R)) 0 0))) = ks) (hR2 : (textAt (List.take k (List.drop 0 R)) (1 + manyV (kLen (List.getD (List.take k (List.drop 0 R)) 0 0))) (vLen (List.getD (List.take k (List.drop 0 R)) 0 0))) = vs)   {Q : Ex → St → Prop} (hq : Q .ret (KSt.low KS4)) : Gets Try.prog (KH.low ⟨0, 1, []⟩) (codeAt [1, 1, 1, 1, 1, 1, 1, 1, 1, 1, 1, 1, 1, 1] BK) (KSt.low (KS54 V L R m k ks vs g)) Q := by
  rw [KC1_1_1_1_1_1_1_1_1_1_1_1_1_1]; refine Gets.seq ?_
  refine Kgo (x := .normal) (s' := (KS57 V L m k ks vs g)) ((KR25 boxW isWb isWs kLen manyV sizeN textAt vLen V L R m k ks vs g).trans (by rw [condT (decide_eq_true (by omega)), if_pos (⟨by omega, by omega⟩), obind_at (k := 0) (by omega) (by omega), condT (hwb), condF (not_f (ibeq_t (by omega))), condT (ble_t (by (first | omega | ((try simp (disch := omega) only [wrap_i64_id]) <;> omega)))), condT (and_t (Nat.ble_eq_true_of_le (by simp; omega)) (hws))] <;> (show some (Ex.normal, (KS56 kLen manyV textAt vLen V L m k R ks vs g)) = some (Ex.normal, (KS57 V L m k ks vs g)); unfold KS56 KS57; rw [(show (textAt (List.take k (List.drop 0 R)) 1 (kLen (List.getD (List.take k (List.drop 0 R)) 0 0))) = ks from hR1), (show (textAt (List.take k (List.drop 0 R)) (1 + manyV (kLen (List.getD (List.take k (List.drop 0 R)) 0 0))) (vLen (List.getD (List.take k (List.drop 0 R)) 0 0))) = vs from hR2)]))) ?_
  rw [KC1_1_1_1_1_1_1_1_1_1_1_1_1_1_1]; refine Gets.seq ?_
  refine Kgo (x := .normal) (s' := KS4) ((KR26 boxW isWb isWs kLen manyV sizeN textAt vLen V L m k ks vs g).trans (by rw [condT (and_t (beq_self_eq_true _) (and_t (beq_self_eq_true _) (rfl)))])) ?_
  rw [KC1_1_1_1_1_1_1_1_1_1_1_1_1_1_1_1]; refine Gets.ev fitK.mix fitK.cfg (fitK.sound rr_sound 40 0) 40 rfl (s' := KSt.low KS4) (x := .ret) rfl ?_
  exact hq

end Go.Proofs.Ytnhdjmpbmecnoaa
