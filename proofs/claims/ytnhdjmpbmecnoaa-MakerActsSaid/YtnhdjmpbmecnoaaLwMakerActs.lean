/- The maker asks for what the plain maker makes, whatever words it is told. -/
import Derived.Test.YtnhdjmpbmecnoaaMkA
import Derived.WalkKit
import Derived.ProofKit
import Derived.OpenShut
import Derived.ChangeOld
import Derived.Below
import Derived.SizedLaws
import Derived.ChangeMaps5
namespace Go.Proofs.Ytnhdjmpbmecnoaa.makerActs
open Go.Eng
open Go.ChangeShapes Go.WideShapes Go.ChangeAt Go.RowKit
set_option linter.unusedVariables false
set_option linter.unusedSimpArgs false
set_option maxRecDepth 100000
noncomputable def cfgA7 : Cfg := ⟨[35]⟩
noncomputable def fsA7 : List FuncId := [8, 15, 17, 26, 33, 36, 37, 38, 39, 40, 41, 42, 43, 46, 58, 61, 62, 63, 67, 68, 69, 70, 73]
theorem fitA7 : Fit Try.prog cfgA7 fsA7 := ⟨by kernel_rfl, Cfg.ok_of (by kernel_rfl), by kernel_rfl⟩
theorem awake17_told : Tells Try.prog 36 [] (bare Try.prog) (.bool true) := by
  refine Tells.of_tree (h := (bareK Try.prog)) fitA7 SoundC.no AgreeT.no (by kernel_rfl) rfl (show Ro (bare Try.prog) from Ro.bare) (n := 70) (d := 40) ?_
  kernel_rfl
noncomputable def Bxa : Code := bodyOf Try.prog 26
theorem Bxa_is : Try.f26.body = some Bxa := by kernel_rfl
theorem Bxa_ok : okCode Try.prog.globals.size Bxa = true := by kernel_rfl
noncomputable abbrev xaEV (c : Code) (s : KSt) (lv : List Nat) : Option (Ex × KSt) := evCK Try.prog cfgA7 (runK Try.prog cfgA7 fsA7 noT 14 40) 14 c s (normC 0 lv)
theorem xago {lv_ : List Nat} {co_ : Code} {st_ s' : KSt} {x : Ex} {Q : Ex → St → Prop} (hE_ : xaEV co_ st_ lv_ = some (x, s')) (hq_ : Q x s'.low) (hok_ : okCode Try.prog.globals.size co_ = true := by kernel_rfl) : Gets Try.prog (KH.low ⟨0, 1, []⟩) co_ st_.low Q := Gets.ofN fitA7 SoundC.no AgreeT.no 14 40 hok_ hE_ hq_
theorem xaeX {v : Value} {b c : Bool} (h : v = .bool b) (hb : b = c) : v = .bool c := by rw [h, hb]
theorem xaC : Bxa = .seq (codeAt [0] Bxa) (codeAt [1] Bxa) := by kernel_rfl
theorem xaC1 : (codeAt [1] Bxa) = .seq (codeAt [1, 0] Bxa) (codeAt [1, 1] Bxa) := by kernel_rfl
theorem xaC1_0 : (codeAt [1, 0] Bxa) = .seq (codeAt [1, 0, 0] Bxa) (codeAt [1, 0, 1] Bxa) := by kernel_rfl
theorem xaC1_0_1 : (codeAt [1, 0, 1] Bxa) = .cond (.tmp 14) (codeAt [1, 0, 1, 0] Bxa) (codeAt [1, 0, 1, 1] Bxa) := by kernel_rfl
theorem xaC1_0_1_0 : (codeAt [1, 0, 1, 0] Bxa) = .seq (codeAt [1, 0, 1, 0, 0] Bxa) (codeAt [1, 0, 1, 0, 1] Bxa) := by kernel_rfl
theorem xaC1_0_1_0_1 : (codeAt [1, 0, 1, 0, 1] Bxa) = .ret := by kernel_rfl
noncomputable def xaS0 (ks : ByteArray) (vs : ByteArray) : KSt := (firstK [(.string ks), (.string vs)] 26 ⟨0, 1, []⟩)
noncomputable def xaS1 (ks : ByteArray) (vs : ByteArray) : KSt := ⟨(frameL 26 [(0, (.string ks)), (1, (.string vs))]), ⟨0, 1, []⟩⟩
theorem xaR1 (ks : ByteArray) (vs : ByteArray) : xaEV (codeAt [0] Bxa) (xaS0 ks vs) [0, 1] =
  some (.normal, (xaS1 ks vs)) := by kernel_rfl
noncomputable def xaS2 (ks : ByteArray) (vs : ByteArray) : KSt := ⟨(frameL 26 [(0, (.string ks)), (1, (.string vs)), (14, (.bool true))]), ⟨0, 1, []⟩⟩
noncomputable def xaS3 (ks : ByteArray) (vs : ByteArray) : KSt := ⟨(frameL 26 [(0, (.string ks)), (1, (.string vs)), (14, (.bool (decide ((((ByteArray.size vs) : Nat) : Int) > 24))))]), ⟨0, 1, []⟩⟩
theorem xaR2 (ks : ByteArray) (vs : ByteArray) : xaEV (codeAt [1, 0, 0] Bxa) (xaS1 ks vs) [0, 1, 14] =
  bif (decide ((((ByteArray.size ks) : Nat) : Int) > 16)) then
    some (.normal, (xaS2 ks vs))
  else
    some (.normal, (xaS3 ks vs)) := by kernel_rfl
noncomputable def xaS4  : KSt := ⟨(frameL 26 [(4, (.slice none 0 0)), (5, (.bool false))]), ⟨0, 1, []⟩⟩
theorem xaR3 (ks : ByteArray) (vs : ByteArray) : xaEV (codeAt [1, 0, 1, 0, 0] Bxa) (xaS2 ks vs) [4, 5] =
  some (.normal, xaS4) := by kernel_rfl
theorem xaR4 (ks : ByteArray) (vs : ByteArray) : xaEV (codeAt [1, 0, 1, 0, 0] Bxa) (xaS3 ks vs) [4, 5] =
  some (.normal, xaS4) := by kernel_rfl
theorem xaa {ks : ByteArray} {vs : ByteArray} (h : 16 < ks.size)   {Q : Ex → St → Prop} (hq : Q .ret (KSt.low xaS4)) : Gets Try.prog (KH.low ⟨0, 1, []⟩) Bxa (KSt.low (xaS0 ks vs)) Q := by
  rw [xaC]; refine Gets.seq ?_
  refine xago (xaR1 ks vs) ?_
  rw [xaC1]; refine Gets.seq ?_
  rw [xaC1_0]; refine Gets.seq ?_
  refine xago (x := .normal) (s' := (xaS2 ks vs)) ((xaR2 ks vs).trans (by rw [condT (decide_eq_true (by omega))])) ?_
  rw [xaC1_0_1]; refine Gets.cond true (by kernel_rfl) (by kernel_rfl) ?_; show Gets _ _ (codeAt [1, 0, 1, 0] Bxa) _ _
  rw [xaC1_0_1_0]; refine Gets.seq ?_
  refine xago (xaR3 ks vs) ?_
  rw [xaC1_0_1_0_1]; refine Gets.ev fitA7.mix fitA7.cfg (fitA7.sound SoundC.no 14 0) 14 rfl (s' := KSt.low xaS4) (x := .ret) rfl ?_
  exact hq
theorem xab {ks : ByteArray} {vs : ByteArray} (h : ks.size ≤ 16) (h2 : 24 < vs.size)   {Q : Ex → St → Prop} (hq : Q .ret (KSt.low xaS4)) : Gets Try.prog (KH.low ⟨0, 1, []⟩) Bxa (KSt.low (xaS0 ks vs)) Q := by
  rw [xaC]; refine Gets.seq ?_
  refine xago (xaR1 ks vs) ?_
  rw [xaC1]; refine Gets.seq ?_
  rw [xaC1_0]; refine Gets.seq ?_
  refine xago (x := .normal) (s' := (xaS3 ks vs)) ((xaR2 ks vs).trans (by rw [condF (decide_eq_false (by omega))])) ?_
  rw [xaC1_0_1]; refine Gets.cond true (by kernel_rfl) (xaeX (b := (decide ((((ByteArray.size vs) : Nat) : Int) > 24))) (by kernel_rfl) ((show (decide ((((ByteArray.size vs) : Nat) : Int) > 24)) = true from decide_eq_true (by omega)))) ?_; show Gets _ _ (codeAt [1, 0, 1, 0] Bxa) _ _
  rw [xaC1_0_1_0]; refine Gets.seq ?_
  refine xago (xaR4 ks vs) ?_
  rw [xaC1_0_1_0_1]; refine Gets.ev fitA7.mix fitA7.cfg (fitA7.sound SoundC.no 14 0) 14 rfl (s' := KSt.low xaS4) (x := .ret) rfl ?_
  exact hq
theorem nof_does (ks vs : ByteArray) (h : ¬ (ks.size ≤ 16 ∧ vs.size ≤ 24)) : DoesC Try.prog 26 [(.string ks), (.string vs)] (mkH []).low (.tuple #[.slice none 0 0, .bool false]) (effK (mkH []) [] []).low := by
  refine EndsR.does Try.func26 Bxa_is (by rw [noVars]; exact Nat.zero_le _) ?_
  show Gets Try.prog (KH.low ⟨0, 1, []⟩) Bxa (KSt.low (xaS0 ks vs)) _
  by_cases h1 : 16 < ks.size
  · exact xaa h1 (EndsR.ret (l := [.slice none 0 0, .bool false]) (by kernel_rfl) rfl (Fits.n0 rfl rfl (show (0 : Nat) ≤ 0 by decide)))
  · exact xab (by omega) (by omega) (EndsR.ret (l := [.slice none 0 0, .bool false]) (by kernel_rfl) rfl (Fits.n0 rfl rfl (show (0 : Nat) ≤ 0 by decide)))
noncomputable def rc_nof : RC := ⟨[.str, .str], fun avs => match avs with | [.str ks, .str vs] => (!((Nat.ble (ByteArray.size ks) 16) && (Nat.ble (ByteArray.size vs) 24))) | _ => false,
  fun N avs => match avs with | [.str ks, .str vs] => ((.tuple #[(.slice none 0 0), (.bool false)]), [], []) | _ => (.bool false, [], [])⟩
theorem rc_nof_does : RcDoes Try.prog [] 26 rc_nof := by
  intro vb avs args blks hv hs hp
  cases hv
  cases hs with
  | str ks hs =>
    cases hs with
    | str vs hs =>
      cases hs
      have hp : (!(Nat.ble (ByteArray.size ks) 16 && Nat.ble (ByteArray.size vs) 24)) = true := hp
      exact nof_does ks vs (fun h => by rw [Nat.ble_eq_true_of_le h.1, Nat.ble_eq_true_of_le h.2] at hp; cases hp)
noncomputable def rc_sprocketlaw17_awake : RC := ⟨[], fun avs => match avs with | [] => true | _ => false,
  fun N avs => match avs with | [] => ((.bool true), [], []) | _ => (.bool false, [], [])⟩
theorem rc_sprocketlaw17_awake_does : RcDoes Try.prog [] 36 rc_sprocketlaw17_awake := by
  intro vb avs args blks hv hs hp
  cases hv
  cases hs
  exact DoesC.bare noVars rfl awake17_told
noncomputable def wmaT (boxW : ByteArray → ByteArray → List Int) (mkA : List Int → List Int → Nat → Int → Int) (mkAt : List Int → List Int → Int) (mkOver : List Int → List Int → Bool) : RTab := fun f => match f with
  | 36 => some rc_sprocketlaw17_awake
  | 26 => some (rc_box_Words boxW)
  | 41 => some (rc_r17_Make boxW mkA mkAt mkOver)
  | _ => none
def wmaDom : List FuncId := [36, 26, 41]
theorem wma_does : ∀ f rc, f ∈ wmaDom → (wmaT boxW mkA mkAt mkOver) f = some rc → RcDoes Try.prog [] f rc := by
  intro f rc hf hT
  simp only [wmaDom, List.mem_cons, List.not_mem_nil, or_false] at hf
  rcases hf with rfl | rfl | rfl
  · cases hT; exact rc_sprocketlaw17_awake_does
  · cases hT; exact rc_box_Words_does
  · cases hT; exact rc_r17_Make_does
theorem wma_fn : ∀ f ∈ wmaDom, FnOk Try.prog f := fun f hf => fitA7.fnOk f (by
    have h0 : (wmaDom.all fun f => fsA7.contains f) = true := by kernel_rfl
    simpa using List.all_eq_true.1 h0 f hf)
theorem wma_sound : SoundC Try.prog (conC wmaDom (rcE [] (wmaT boxW mkA mkAt mkOver))) := rc_sound noVars wma_fn wma_does
noncomputable def wmnT : RTab := fun f => match f with
  | 36 => some rc_sprocketlaw17_awake
  | 26 => some rc_nof
  | _ => none
def wmnDom : List FuncId := [36, 26]
theorem wmn_does : ∀ f rc, f ∈ wmnDom → wmnT f = some rc → RcDoes Try.prog [] f rc := by
  intro f rc hf hT
  simp only [wmnDom, List.mem_cons, List.not_mem_nil, or_false] at hf
  rcases hf with rfl | rfl
  · cases hT; exact rc_sprocketlaw17_awake_does
  · cases hT; exact rc_nof_does
theorem wmn_fn : ∀ f ∈ wmnDom, FnOk Try.prog f := fun f hf => fitA7.fnOk f (by
    have h0 : (wmnDom.all fun f => fsA7.contains f) = true := by kernel_rfl
    simpa using List.all_eq_true.1 h0 f hf)
theorem wmn_sound : SoundC Try.prog (conC wmnDom (rcE [] wmnT)) := rc_sound noVars wmn_fn wmn_does
noncomputable def BM : Code := bodyOf Try.prog 8
theorem BM_is : Try.f8.body = some BM := by kernel_rfl
theorem BM_ok : okCode Try.prog.globals.size BM = true := by kernel_rfl
noncomputable abbrev MEV (boxW : ByteArray → ByteArray → List Int) (mkA : List Int → List Int → Nat → Int → Int) (mkAt : List Int → List Int → Int) (mkOver : List Int → List Int → Bool) (c : Code) (s : KSt) (lv : List Nat) : Option (Ex × KSt) := evCK Try.prog cfgA7 (runK Try.prog cfgA7 fsA7 (conTk wmaDom (rcK [] (wmaT boxW mkA mkAt mkOver))) 14 40) 14 c s (normC 1 lv)
theorem Mgo {lv_ : List Nat} {co_ : Code} {st_ s' : KSt} {x : Ex} {Q : Ex → St → Prop} {off : Nat} {l : List Int} {e : TypeId} (hE_ : MEV boxW mkA mkAt mkOver co_ st_ lv_ = some (x, s')) (hq_ : Q x s'.low) (hok_ : okCode Try.prog.globals.size co_ = true := by kernel_rfl) : Gets Try.prog (KH.low ⟨1, 1, [(0, 0, .tail off .u64 l e)]⟩) co_ st_.low Q := Gets.ofN fitA7 wma_sound (rc_agree _ _ _) 14 40 hok_ hE_ hq_
theorem MeX {v : Value} {b c : Bool} (h : v = .bool b) (hb : b = c) : v = .bool c := by rw [h, hb]
theorem MC : BM = .seq (codeAt [0] BM) (codeAt [1] BM) := by kernel_rfl
theorem MC1 : (codeAt [1] BM) = .seq (codeAt [1, 0] BM) (codeAt [1, 1] BM) := by kernel_rfl
theorem MC1_0 : (codeAt [1, 0] BM) = .seq (codeAt [1, 0, 0] BM) (codeAt [1, 0, 1] BM) := by kernel_rfl
theorem MC1_0_1 : (codeAt [1, 0, 1] BM) = .cond (.tmp 31) (codeAt [1, 0, 1, 0] BM) (codeAt [1, 0, 1, 1] BM) := by kernel_rfl
theorem MC1_0_1_0 : (codeAt [1, 0, 1, 0] BM) = .seq (codeAt [1, 0, 1, 0, 0] BM) (codeAt [1, 0, 1, 0, 1] BM) := by kernel_rfl
theorem MC1_0_1_0_1 : (codeAt [1, 0, 1, 0, 1] BM) = .ret := by kernel_rfl
theorem MC1_1 : (codeAt [1, 1] BM) = .seq (codeAt [1, 1, 0] BM) (codeAt [1, 1, 1] BM) := by kernel_rfl
theorem MC1_1_1 : (codeAt [1, 1, 1] BM) = .seq (codeAt [1, 1, 1, 0] BM) (codeAt [1, 1, 1, 1] BM) := by kernel_rfl
theorem MC1_1_1_0 : (codeAt [1, 1, 1, 0] BM) = .seq (codeAt [1, 1, 1, 0, 0] BM) (codeAt [1, 1, 1, 0, 1] BM) := by kernel_rfl
theorem MC1_1_1_0_1 : (codeAt [1, 1, 1, 0, 1] BM) = .cond (.tmp 43) (codeAt [1, 1, 1, 0, 1, 0] BM) (codeAt [1, 1, 1, 0, 1, 1] BM) := by kernel_rfl
theorem MC1_1_1_1 : (codeAt [1, 1, 1, 1] BM) = .seq (codeAt [1, 1, 1, 1, 0] BM) (codeAt [1, 1, 1, 1, 1] BM) := by kernel_rfl
theorem MC1_1_1_1_0 : (codeAt [1, 1, 1, 1, 0] BM) = .seq (codeAt [1, 1, 1, 1, 0, 0] BM) (codeAt [1, 1, 1, 1, 0, 1] BM) := by kernel_rfl
theorem MC1_1_1_1_0_1_0_0 : (codeAt [1, 1, 1, 1, 0, 1, 0, 0] BM) = .seq (codeAt [1, 1, 1, 1, 0, 1, 0, 0, 0] BM) (codeAt [1, 1, 1, 1, 0, 1, 0, 0, 1] BM) := by kernel_rfl
theorem MC1_1_1_1_0_1_0_0_0 : (codeAt [1, 1, 1, 1, 0, 1, 0, 0, 0] BM) = .seq (codeAt [1, 1, 1, 1, 0, 1, 0, 0, 0, 0] BM) (codeAt [1, 1, 1, 1, 0, 1, 0, 0, 0, 1] BM) := by kernel_rfl
theorem MC1_1_1_1_0_1_0_0_0_1 : (codeAt [1, 1, 1, 1, 0, 1, 0, 0, 0, 1] BM) = .cond (.tmp 68) (codeAt [1, 1, 1, 1, 0, 1, 0, 0, 0, 1, 0] BM) (codeAt [1, 1, 1, 1, 0, 1, 0, 0, 0, 1, 1] BM) := by kernel_rfl
theorem MC1_1_1_1_0_1_0_0_1 : (codeAt [1, 1, 1, 1, 0, 1, 0, 0, 1] BM) = .seq (codeAt [1, 1, 1, 1, 0, 1, 0, 0, 1, 0] BM) (codeAt [1, 1, 1, 1, 0, 1, 0, 0, 1, 1] BM) := by kernel_rfl
theorem MC1_1_1_1_0_1_0_0_1_0 : (codeAt [1, 1, 1, 1, 0, 1, 0, 0, 1, 0] BM) = .block 1 (codeAt [1, 1, 1, 1, 0, 1, 0, 0, 1, 0, 0] BM) := by kernel_rfl
theorem MC1_1_1_1_0_1_0_0_1_0_0 : (codeAt [1, 1, 1, 1, 0, 1, 0, 0, 1, 0, 0] BM) = .seq (codeAt [1, 1, 1, 1, 0, 1, 0, 0, 1, 0, 0, 0] BM) (codeAt [1, 1, 1, 1, 0, 1, 0, 0, 1, 0, 0, 1] BM) := by kernel_rfl
theorem MC1_1_1_1_0_1_0_0_1_0_0_1 : (codeAt [1, 1, 1, 1, 0, 1, 0, 0, 1, 0, 0, 1] BM) = .seq (codeAt [1, 1, 1, 1, 0, 1, 0, 0, 1, 0, 0, 1, 0] BM) (codeAt [1, 1, 1, 1, 0, 1, 0, 0, 1, 0, 0, 1, 1] BM) := by kernel_rfl
theorem MC1_1_1_1_0_1_0_0_1_0_0_1_1 : (codeAt [1, 1, 1, 1, 0, 1, 0, 0, 1, 0, 0, 1, 1] BM) = .seq (codeAt [1, 1, 1, 1, 0, 1, 0, 0, 1, 0, 0, 1, 1, 0] BM) (codeAt [1, 1, 1, 1, 0, 1, 0, 0, 1, 0, 0, 1, 1, 1] BM) := by kernel_rfl
theorem MC1_1_1_1_0_1_0_0_1_0_0_1_1_1 : (codeAt [1, 1, 1, 1, 0, 1, 0, 0, 1, 0, 0, 1, 1, 1] BM) = .seq (codeAt [1, 1, 1, 1, 0, 1, 0, 0, 1, 0, 0, 1, 1, 1, 0] BM) (codeAt [1, 1, 1, 1, 0, 1, 0, 0, 1, 0, 0, 1, 1, 1, 1] BM) := by kernel_rfl
theorem MC1_1_1_1_0_1_0_0_1_0_0_1_1_1_1 : (codeAt [1, 1, 1, 1, 0, 1, 0, 0, 1, 0, 0, 1, 1, 1, 1] BM) = .seq (codeAt [1, 1, 1, 1, 0, 1, 0, 0, 1, 0, 0, 1, 1, 1, 1, 0] BM) (codeAt [1, 1, 1, 1, 0, 1, 0, 0, 1, 0, 0, 1, 1, 1, 1, 1] BM) := by kernel_rfl
theorem MC1_1_1_1_0_1_0_0_1_0_0_1_1_1_1_0 : (codeAt [1, 1, 1, 1, 0, 1, 0, 0, 1, 0, 0, 1, 1, 1, 1, 0] BM) = .seq (codeAt [1, 1, 1, 1, 0, 1, 0, 0, 1, 0, 0, 1, 1, 1, 1, 0, 0] BM) (codeAt [1, 1, 1, 1, 0, 1, 0, 0, 1, 0, 0, 1, 1, 1, 1, 0, 1] BM) := by kernel_rfl
theorem MC1_1_1_1_0_1_0_0_1_0_0_1_1_1_1_0_1 : (codeAt [1, 1, 1, 1, 0, 1, 0, 0, 1, 0, 0, 1, 1, 1, 1, 0, 1] BM) = .cond (.tmp 127) (codeAt [1, 1, 1, 1, 0, 1, 0, 0, 1, 0, 0, 1, 1, 1, 1, 0, 1, 0] BM) (codeAt [1, 1, 1, 1, 0, 1, 0, 0, 1, 0, 0, 1, 1, 1, 1, 0, 1, 1] BM) := by kernel_rfl
theorem MC1_1_1_1_0_1_0_0_1_0_0_1_1_1_1_1 : (codeAt [1, 1, 1, 1, 0, 1, 0, 0, 1, 0, 0, 1, 1, 1, 1, 1] BM) = .seq (codeAt [1, 1, 1, 1, 0, 1, 0, 0, 1, 0, 0, 1, 1, 1, 1, 1, 0] BM) (codeAt [1, 1, 1, 1, 0, 1, 0, 0, 1, 0, 0, 1, 1, 1, 1, 1, 1] BM) := by kernel_rfl
theorem MC1_1_1_1_0_1_0_0_1_0_0_1_1_1_1_1_1 : (codeAt [1, 1, 1, 1, 0, 1, 0, 0, 1, 0, 0, 1, 1, 1, 1, 1, 1] BM) = .cond (.tmp 131) (codeAt [1, 1, 1, 1, 0, 1, 0, 0, 1, 0, 0, 1, 1, 1, 1, 1, 1, 0] BM) (codeAt [1, 1, 1, 1, 0, 1, 0, 0, 1, 0, 0, 1, 1, 1, 1, 1, 1, 1] BM) := by kernel_rfl
theorem MC1_1_1_1_0_1_0_0_0_1_1 : (codeAt [1, 1, 1, 1, 0, 1, 0, 0, 0, 1, 1] BM) = .exit 0 := by kernel_rfl
theorem MC1_1_1_1_1 : (codeAt [1, 1, 1, 1, 1] BM) = .seq (codeAt [1, 1, 1, 1, 1, 0] BM) (codeAt [1, 1, 1, 1, 1, 1] BM) := by kernel_rfl
theorem MC1_1_1_1_1_1 : (codeAt [1, 1, 1, 1, 1, 1] BM) = .ret := by kernel_rfl
theorem MC1_1_1_1_0_1 : (codeAt [1, 1, 1, 1, 0, 1] BM) = .block 0 (codeAt [1, 1, 1, 1, 0, 1, 0] BM) := by kernel_rfl
theorem MC1_1_1_1_0_1_0 : (codeAt [1, 1, 1, 1, 0, 1, 0] BM) = .loop (codeAt [1, 1, 1, 1, 0, 1, 0, 0] BM) := by kernel_rfl
section
variable (boxW : ByteArray → ByteArray → List Int) (mkA : List Int → List Int → Nat → Int → Int) (mkAt : List Int → List Int → Int) (mkOver : List Int → List Int → Bool)
noncomputable def MS0 (ks : ByteArray) (vs : ByteArray) (off : Nat) (n : Nat) (c : Nat) (l : List Int) (e : TypeId) : KSt := (firstK [(.string ks), (.string vs), (.slice (some ⟨0, off, none⟩) n c)] 139 ⟨1, 1, [(0, 0, .tail off .u64 l e)]⟩)
noncomputable def MS1 (ks : ByteArray) (vs : ByteArray) (off : Nat) (n : Nat) (c : Nat) (l : List Int) (e : TypeId) : KSt := ⟨(frameL 139 [(0, (.string ks)), (1, (.string vs)), (2, (.slice (some ⟨0, off, none⟩) n c))]), ⟨1, 1, [(0, 0, .tail off .u64 l e)]⟩⟩
theorem MR1 (ks : ByteArray) (vs : ByteArray) (off : Nat) (n : Nat) (c : Nat) (l : List Int) (e : TypeId) : MEV boxW mkA mkAt mkOver (codeAt [0] BM) (MS0 ks vs off n c l e) [0, 1, 2] =
  some (.normal, (MS1 ks vs off n c l e)) := by kernel_rfl
noncomputable def MS2 (ks : ByteArray) (vs : ByteArray) (off : Nat) (n : Nat) (c : Nat) (l : List Int) (e : TypeId) : KSt := ⟨(frameL 139 [(0, (.string ks)), (1, (.string vs)), (2, (.slice (some ⟨0, off, none⟩) n c)), (31, (.bool true))]), ⟨1, 1, [(0, 0, .tail off .u64 l e)]⟩⟩
noncomputable def MS3 (ks : ByteArray) (vs : ByteArray) (off : Nat) (n : Nat) (c : Nat) (l : List Int) (e : TypeId) : KSt := ⟨(frameL 139 [(0, (.string ks)), (1, (.string vs)), (2, (.slice (some ⟨0, off, none⟩) n c)), (31, (.bool (decide ((((ByteArray.size vs) : Nat) : Int) > 1000))))]), ⟨1, 1, [(0, 0, .tail off .u64 l e)]⟩⟩
theorem MR2 (ks : ByteArray) (vs : ByteArray) (off : Nat) (n : Nat) (c : Nat) (l : List Int) (e : TypeId) : MEV boxW mkA mkAt mkOver (codeAt [1, 0, 0] BM) (MS1 ks vs off n c l e) [0, 1, 2, 31] =
  bif (decide (((n : Nat) : Int) > 20)) then
    some (.normal, (MS2 ks vs off n c l e))
  else
    bif (decide ((((ByteArray.size ks) : Nat) : Int) > 1000)) then
      some (.normal, (MS2 ks vs off n c l e))
    else
      some (.normal, (MS3 ks vs off n c l e)) := by kernel_rfl
noncomputable def MS4 (off : Nat) (l : List Int) (e : TypeId) : KSt := ⟨(frameL 139 [(6, (.bool true))]), ⟨1, 1, [(0, 0, .tail off .u64 l e)]⟩⟩
theorem MR3 (ks : ByteArray) (vs : ByteArray) (off : Nat) (n : Nat) (c : Nat) (l : List Int) (e : TypeId) : MEV boxW mkA mkAt mkOver (codeAt [1, 0, 1, 0, 0] BM) (MS2 ks vs off n c l e) [6] =
  some (.normal, (MS4 off l e)) := by kernel_rfl
theorem MR4 (ks : ByteArray) (vs : ByteArray) (off : Nat) (n : Nat) (c : Nat) (l : List Int) (e : TypeId) : MEV boxW mkA mkAt mkOver (codeAt [1, 0, 1, 0, 0] BM) (MS3 ks vs off n c l e) [6] =
  some (.normal, (MS4 off l e)) := by kernel_rfl
theorem MR5 (ks : ByteArray) (vs : ByteArray) (off : Nat) (n : Nat) (c : Nat) (l : List Int) (e : TypeId) : MEV boxW mkA mkAt mkOver (codeAt [1, 0, 1, 1] BM) (MS3 ks vs off n c l e) [0, 1, 2] =
  some (.normal, (MS1 ks vs off n c l e)) := by kernel_rfl
noncomputable def MS5 (ks : ByteArray) (vs : ByteArray) (off : Nat) (n : Nat) (c : Nat) (l : List Int) (e : TypeId) : KSt := ⟨(frameL 139 [(0, (.string ks)), (1, (.string vs)), (2, (.slice (some ⟨0, off, none⟩) n c)), (7, (.pointer (some ⟨1, 0, none⟩)))]), ⟨3, 1, [(2, 0, .ints .u64 (boxW ks vs) 30 true), (1, 0, .cells [(.bool true), (.slice (some ⟨2, 0, none⟩) (List.length (boxW ks vs)) (List.length (boxW ks vs))), (.int .u64 0), (.int .i64 (-1)), (.int .i64 5), (.int .u64 0), (.int .i64 (((List.length (boxW ks vs)) : Nat) : Int)), (.int .u64 0), (.int .u64 0)] 88 true), (0, 0, .tail off .u64 l e)]⟩⟩
theorem MR6 (ks : ByteArray) (vs : ByteArray) (off : Nat) (n : Nat) (c : Nat) (l : List Int) (e : TypeId) : MEV boxW mkA mkAt mkOver (codeAt [1, 1, 0] BM) (MS1 ks vs off n c l e) [0, 1, 2, 7] =
  bif ((Nat.ble (ByteArray.size ks) 16) && (Nat.ble (ByteArray.size vs) 24)) then
    some (.normal, (MS5 boxW ks vs off n c l e))
  else
    none := by kernel_rfl
noncomputable def MS6 (ks : ByteArray) (vs : ByteArray) (off : Nat) (n : Nat) (c : Nat) (l : List Int) (e : TypeId) : KSt := ⟨(frameL 139 [(0, (.string ks)), (1, (.string vs)), (2, (.slice (some ⟨0, off, none⟩) n c)), (7, (.pointer (some ⟨1, 0, none⟩))), (43, (.bool true))]), ⟨3, 1, [(2, 0, .ints .u64 (boxW ks vs) 30 true), (1, 0, .cells [(.bool true), (.slice (some ⟨2, 0, none⟩) (List.length (boxW ks vs)) (List.length (boxW ks vs))), (.int .u64 0), (.int .i64 (-1)), (.int .i64 5), (.int .u64 0), (.int .i64 (((List.length (boxW ks vs)) : Nat) : Int)), (.int .u64 0), (.int .u64 0)] 88 true), (0, 0, .tail off .u64 l e)]⟩⟩
noncomputable def MS7 (ks : ByteArray) (vs : ByteArray) (off : Nat) (n : Nat) (c : Nat) (l : List Int) (e : TypeId) : KSt := ⟨(frameL 139 [(0, (.string ks)), (1, (.string vs)), (2, (.slice (some ⟨0, off, none⟩) n c)), (7, (.pointer (some ⟨1, 0, none⟩))), (43, (.bool (decide ((((ByteArray.size vs) : Nat) : Int) > 24))))]), ⟨3, 1, [(2, 0, .ints .u64 (boxW ks vs) 30 true), (1, 0, .cells [(.bool true), (.slice (some ⟨2, 0, none⟩) (List.length (boxW ks vs)) (List.length (boxW ks vs))), (.int .u64 0), (.int .i64 (-1)), (.int .i64 5), (.int .u64 0), (.int .i64 (((List.length (boxW ks vs)) : Nat) : Int)), (.int .u64 0), (.int .u64 0)] 88 true), (0, 0, .tail off .u64 l e)]⟩⟩
theorem MR7 (ks : ByteArray) (vs : ByteArray) (off : Nat) (n : Nat) (c : Nat) (l : List Int) (e : TypeId) : MEV boxW mkA mkAt mkOver (codeAt [1, 1, 1, 0, 0] BM) (MS5 boxW ks vs off n c l e) [0, 1, 2, 7, 43] =
  bif (decide ((((ByteArray.size ks) : Nat) : Int) > 16)) then
    some (.normal, (MS6 boxW ks vs off n c l e))
  else
    some (.normal, (MS7 boxW ks vs off n c l e)) := by kernel_rfl
theorem MR8 (ks : ByteArray) (vs : ByteArray) (off : Nat) (n : Nat) (c : Nat) (l : List Int) (e : TypeId) : MEV boxW mkA mkAt mkOver (codeAt [1, 1, 1, 0, 1, 1] BM) (MS7 boxW ks vs off n c l e) [0, 1, 2, 7] =
  some (.normal, (MS5 boxW ks vs off n c l e)) := by kernel_rfl
noncomputable def MS8 (ks : ByteArray) (vs : ByteArray) (off : Nat) (n : Nat) (c : Nat) (l : List Int) (e : TypeId) : KSt := ⟨(frameL 139 [(0, (.string ks)), (1, (.string vs)), (2, (.slice (some ⟨0, off, none⟩) n c)), (7, (.pointer (some ⟨1, 0, none⟩))), (12, (.int .i64 0))]), ⟨3, 1, [(2, 0, .ints .u64 (boxW ks vs) 30 true), (1, 0, .cells [(.bool true), (.slice (some ⟨2, 0, none⟩) (List.length (boxW ks vs)) (List.length (boxW ks vs))), (.int .u64 0), (.int .i64 (-1)), (.int .i64 5), (.int .u64 0), (.int .i64 (((List.length (boxW ks vs)) : Nat) : Int)), (.int .u64 0), (.int .u64 0)] 88 true), (0, 0, .tail off .u64 l e)]⟩⟩
theorem MR9 (ks : ByteArray) (vs : ByteArray) (off : Nat) (n : Nat) (c : Nat) (l : List Int) (e : TypeId) : MEV boxW mkA mkAt mkOver (codeAt [1, 1, 1, 1, 0, 0] BM) (MS5 boxW ks vs off n c l e) [0, 1, 2, 7, 12] =
  some (.normal, (MS8 boxW ks vs off n c l e)) := by kernel_rfl
noncomputable def MS9 (ks : ByteArray) (vs : ByteArray) (off : Nat) (n : Nat) (c : Nat) (l : List Int) (e : TypeId) : KSt := ⟨(frameL 139 [(0, (.string ks)), (1, (.string vs)), (2, (.slice (some ⟨0, off, none⟩) n c)), (7, (.pointer (some ⟨1, 0, none⟩))), (12, (.int .i64 0)), (68, (.bool (decide (0 ≤ ((n : Nat) : Int)))))]), ⟨3, 1, [(2, 0, .ints .u64 (boxW ks vs) 30 true), (1, 0, .cells [(.bool true), (.slice (some ⟨2, 0, none⟩) (List.length (boxW ks vs)) (List.length (boxW ks vs))), (.int .u64 0), (.int .i64 (-1)), (.int .i64 5), (.int .u64 0), (.int .i64 (((List.length (boxW ks vs)) : Nat) : Int)), (.int .u64 0), (.int .u64 0)] 88 true), (0, 0, .tail off .u64 l e)]⟩⟩
theorem MR10 (ks : ByteArray) (vs : ByteArray) (off : Nat) (n : Nat) (c : Nat) (l : List Int) (e : TypeId) : MEV boxW mkA mkAt mkOver (codeAt [1, 1, 1, 1, 0, 1, 0, 0, 0, 0] BM) (MS8 boxW ks vs off n c l e) [0, 1, 2, 7, 12, 68] =
  some (.normal, (MS9 boxW ks vs off n c l e)) := by kernel_rfl
theorem MR11 (ks : ByteArray) (vs : ByteArray) (off : Nat) (n : Nat) (c : Nat) (l : List Int) (e : TypeId) : MEV boxW mkA mkAt mkOver (codeAt [1, 1, 1, 1, 0, 1, 0, 0, 0, 1, 0] BM) (MS9 boxW ks vs off n c l e) [0, 1, 2, 7, 12] =
  some (.normal, (MS8 boxW ks vs off n c l e)) := by kernel_rfl
noncomputable def MS10 (ks : ByteArray) (vs : ByteArray) (off : Nat) (n : Nat) (c : Nat) (l : List Int) (e : TypeId) : KSt := ⟨(frameL 139 [(0, (.string ks)), (1, (.string vs)), (2, (.slice (some ⟨0, off, none⟩) n c)), (7, (.pointer (some ⟨1, 0, none⟩))), (12, (.int .i64 0)), (13, (.pointer (some ⟨2, 0, none⟩)))]), ⟨4, 1, [(3, 0, .ints .u64 (boxW ks vs) 30 true), (2, 0, .cells [(.slice (some ⟨0, 0, some 0⟩) 0 0), (.int .i64 0), (.bool false), (.int .i64 0), (.int .u64 0), (.int .i64 0), (.int .u64 0), (.int .u64 0)] 37 true), (1, 0, .cells [(.bool true), (.slice (some ⟨3, 0, none⟩) (List.length (boxW ks vs)) (List.length (boxW ks vs))), (.int .u64 0), (.int .i64 (-1)), (.int .i64 5), (.int .u64 0), (.int .i64 (((List.length (boxW ks vs)) : Nat) : Int)), (.int .u64 0), (.int .u64 0)] 88 true), (0, 0, .tail off .u64 l e)]⟩⟩
noncomputable def MS11 (ks : ByteArray) (vs : ByteArray) (off : Nat) (n : Nat) (c : Nat) (l : List Int) (e : TypeId) : KSt := ⟨(frameL 139 [(0, (.string ks)), (1, (.string vs)), (2, (.slice (some ⟨0, off, none⟩) n c)), (7, (.pointer (some ⟨1, 0, none⟩))), (12, (.int .i64 0)), (13, (.pointer (some ⟨2, 0, none⟩)))]), ⟨4, 1, [(3, 0, .ints .u64 (boxW ks vs) 30 true), (2, 0, .cells [(.slice (some ⟨0, (off + 0), none⟩) 0 (c - 0)), (.int .i64 0), (.bool false), (.int .i64 0), (.int .u64 0), (.int .i64 0), (.int .u64 0), (.int .u64 0)] 37 true), (1, 0, .cells [(.bool true), (.slice (some ⟨3, 0, none⟩) (List.length (boxW ks vs)) (List.length (boxW ks vs))), (.int .u64 0), (.int .i64 (-1)), (.int .i64 5), (.int .u64 0), (.int .i64 (((List.length (boxW ks vs)) : Nat) : Int)), (.int .u64 0), (.int .u64 0)] 88 true), (0, 0, .tail off .u64 l e)]⟩⟩
theorem MR12 (ks : ByteArray) (vs : ByteArray) (off : Nat) (n : Nat) (c : Nat) (l : List Int) (e : TypeId) : MEV boxW mkA mkAt mkOver (codeAt [1, 1, 1, 1, 0, 1, 0, 0, 1, 0, 0, 0] BM) (MS8 boxW ks vs off n c l e) [0, 1, 2, 7, 12, 13] =
  if (0 : Int) ≤ 0 ∧ 0 ≤ ((c : Nat) : Int) then
    bif (true && (Nat.ble 0 c)) then
      bif (Nat.beq c 0) then
        some (.normal, (MS10 boxW ks vs off n c l e))
      else
        some (.normal, (MS11 boxW ks vs off n c l e))
    else
      none
  else
    none := by kernel_rfl
noncomputable def MS12 (ks : ByteArray) (vs : ByteArray) (off : Nat) (n : Nat) (c : Nat) (l : List Int) (e : TypeId) : KSt := ⟨(frameL 139 [(0, (.string ks)), (1, (.string vs)), (2, (.slice (some ⟨0, off, none⟩) n c)), (7, (.pointer (some ⟨1, 0, none⟩))), (12, (.int .i64 0)), (13, (.pointer (some ⟨2, 0, none⟩))), (14, (.int .u64 (List.getD (List.take 0 (List.drop ((off + 0) - off) l)) 0 0)))]), ⟨4, 1, [(3, 0, .ints .u64 (boxW ks vs) 30 true), (2, 0, .cells [(.slice (some ⟨0, (off + 0), none⟩) 0 (c - 0)), (.int .i64 (mkAt (List.take 0 (List.drop ((off + 0) - off) l)) (boxW ks vs))), (.bool (mkOver (List.take 0 (List.drop ((off + 0) - off) l)) (boxW ks vs))), (.int .i64 (mkA (List.take 0 (List.drop ((off + 0) - off) l)) (boxW ks vs) 0 0)), (.int .u64 (mkA (List.take 0 (List.drop ((off + 0) - off) l)) (boxW ks vs) 1 0)), (.int .i64 (mkA (List.take 0 (List.drop ((off + 0) - off) l)) (boxW ks vs) 2 0)), (.int .u64 (mkA (List.take 0 (List.drop ((off + 0) - off) l)) (boxW ks vs) 3 0)), (.int .u64 (mkA (List.take 0 (List.drop ((off + 0) - off) l)) (boxW ks vs) 4 0))] 37 true), (1, 0, .cells [(.bool true), (.slice (some ⟨3, 0, none⟩) (List.length (boxW ks vs)) (List.length (boxW ks vs))), (.int .u64 0), (.int .i64 (-1)), (.int .i64 5), (.int .u64 0), (.int .i64 (((List.length (boxW ks vs)) : Nat) : Int)), (.int .u64 0), (.int .u64 0)] 88 true), (0, 0, .tail off .u64 l e)]⟩⟩
theorem MR13 (ks : ByteArray) (vs : ByteArray) (off : Nat) (n : Nat) (c : Nat) (l : List Int) (e : TypeId) : MEV boxW mkA mkAt mkOver (codeAt [1, 1, 1, 1, 0, 1, 0, 0, 1, 0, 0, 1, 0] BM) (MS11 boxW ks vs off n c l e) [0, 1, 2, 7, 12, 13, 14] =
  bif (Nat.ble off (off + 0)) then
    bif (Nat.ble (((off + 0) - off) + 0) (List.length l)) then
      bif ((decide (0 = 0)) && ((!false) && ((Nat.ble (List.length (List.take 0 (List.drop ((off + 0) - off) l))) 999) && ((Nat.ble (ByteArray.size ks) 16) && (Nat.ble (ByteArray.size vs) 24))))) then
        some (.normal, (MS12 boxW mkA mkAt mkOver ks vs off n c l e))
      else
        none
    else
      none
  else
    none := by kernel_rfl
noncomputable def MS13 (ks : ByteArray) (vs : ByteArray) (off : Nat) (n : Nat) (c : Nat) (l : List Int) (e : TypeId) : KSt := ⟨(frameL 139 [(0, (.string ks)), (1, (.string vs)), (2, (.slice (some ⟨0, off, none⟩) n c)), (7, (.pointer (some ⟨1, 0, none⟩))), (12, (.int .i64 0)), (13, (.pointer (some ⟨2, 0, none⟩))), (14, (.int .u64 (List.getD (List.take 0 (List.drop ((off + 0) - off) l)) 0 0))), (15, (.int .u64 0)), (16, (.bool false))]), ⟨4, 1, [(3, 0, .ints .u64 (boxW ks vs) 30 true), (2, 0, .cells [(.slice (some ⟨0, (off + 0), none⟩) 0 (c - 0)), (.int .i64 (mkAt (List.take 0 (List.drop ((off + 0) - off) l)) (boxW ks vs))), (.bool (mkOver (List.take 0 (List.drop ((off + 0) - off) l)) (boxW ks vs))), (.int .i64 (mkA (List.take 0 (List.drop ((off + 0) - off) l)) (boxW ks vs) 0 0)), (.int .u64 (mkA (List.take 0 (List.drop ((off + 0) - off) l)) (boxW ks vs) 1 0)), (.int .i64 (mkA (List.take 0 (List.drop ((off + 0) - off) l)) (boxW ks vs) 2 0)), (.int .u64 (mkA (List.take 0 (List.drop ((off + 0) - off) l)) (boxW ks vs) 3 0)), (.int .u64 (mkA (List.take 0 (List.drop ((off + 0) - off) l)) (boxW ks vs) 4 0))] 37 true), (1, 0, .cells [(.bool true), (.slice (some ⟨3, 0, none⟩) (List.length (boxW ks vs)) (List.length (boxW ks vs))), (.int .u64 0), (.int .i64 (-1)), (.int .i64 5), (.int .u64 0), (.int .i64 (((List.length (boxW ks vs)) : Nat) : Int)), (.int .u64 0), (.int .u64 0)] 88 true), (0, 0, .tail off .u64 l e)]⟩⟩
noncomputable def MS14 (ks : ByteArray) (vs : ByteArray) (off : Nat) (n : Nat) (c : Nat) (l : List Int) (e : TypeId) : KSt := ⟨(frameL 139 [(0, (.string ks)), (1, (.string vs)), (2, (.slice (some ⟨0, off, none⟩) n c)), (7, (.pointer (some ⟨1, 0, none⟩))), (12, (.int .i64 0)), (13, (.pointer (some ⟨2, 0, none⟩))), (14, (.int .u64 (List.getD (List.take 0 (List.drop ((off + 0) - off) l)) 0 0))), (15, (.int .u64 0)), (16, (.bool true))]), ⟨4, 1, [(3, 0, .ints .u64 (boxW ks vs) 30 true), (2, 0, .cells [(.slice (some ⟨0, (off + 0), none⟩) 0 (c - 0)), (.int .i64 (mkAt (List.take 0 (List.drop ((off + 0) - off) l)) (boxW ks vs))), (.bool (mkOver (List.take 0 (List.drop ((off + 0) - off) l)) (boxW ks vs))), (.int .i64 (mkA (List.take 0 (List.drop ((off + 0) - off) l)) (boxW ks vs) 0 0)), (.int .u64 (mkA (List.take 0 (List.drop ((off + 0) - off) l)) (boxW ks vs) 1 0)), (.int .i64 (mkA (List.take 0 (List.drop ((off + 0) - off) l)) (boxW ks vs) 2 0)), (.int .u64 (mkA (List.take 0 (List.drop ((off + 0) - off) l)) (boxW ks vs) 3 0)), (.int .u64 (mkA (List.take 0 (List.drop ((off + 0) - off) l)) (boxW ks vs) 4 0))] 37 true), (1, 0, .cells [(.bool true), (.slice (some ⟨3, 0, none⟩) (List.length (boxW ks vs)) (List.length (boxW ks vs))), (.int .u64 0), (.int .i64 (-1)), (.int .i64 5), (.int .u64 0), (.int .i64 (((List.length (boxW ks vs)) : Nat) : Int)), (.int .u64 0), (.int .u64 0)] 88 true), (0, 0, .tail off .u64 l e)]⟩⟩
theorem MR14 (ks : ByteArray) (vs : ByteArray) (off : Nat) (n : Nat) (c : Nat) (l : List Int) (e : TypeId) : MEV boxW mkA mkAt mkOver (codeAt [1, 1, 1, 1, 0, 1, 0, 0, 1, 0, 0, 1, 1, 0] BM) (MS12 boxW mkA mkAt mkOver ks vs off n c l e) [0, 1, 2, 7, 12, 13, 14, 15, 16] =
  bif (!(false && (true && (((((List.length (boxW ks vs)) : Nat) : Int) == 0) && true)))) then
    some (.normal, (MS13 boxW mkA mkAt mkOver ks vs off n c l e))
  else
    some (.normal, (MS14 boxW mkA mkAt mkOver ks vs off n c l e)) := by kernel_rfl
noncomputable def MS15 (ks : ByteArray) (vs : ByteArray) (off : Nat) (n : Nat) (c : Nat) (l : List Int) (e : TypeId) : KSt := ⟨(frameL 139 [(0, (.string ks)), (1, (.string vs)), (2, (.slice (some ⟨0, off, none⟩) n c)), (7, (.pointer (some ⟨1, 0, none⟩))), (12, (.int .i64 0)), (13, (.pointer (some ⟨2, 0, none⟩))), (14, (.int .u64 (List.getD (List.take 0 (List.drop ((off + 0) - off) l)) 0 0))), (15, (.int .u64 0)), (16, (.bool false)), (17, (.pointer (some ⟨3, 0, none⟩))), (18, (.bool false))]), ⟨5, 1, [(4, 0, .ints .u64 (boxW ks vs) 30 true), (3, 0, .cells [(.int .i64 0), (.int .u64 0), (.int .i64 0), (.int .u64 0), (.int .u64 0)] 35 true), (2, 0, .cells [(.slice (some ⟨0, (off + 0), none⟩) 0 (c - 0)), (.int .i64 (mkAt (List.take 0 (List.drop ((off + 0) - off) l)) (boxW ks vs))), (.bool (mkOver (List.take 0 (List.drop ((off + 0) - off) l)) (boxW ks vs))), (.int .i64 (mkA (List.take 0 (List.drop ((off + 0) - off) l)) (boxW ks vs) 0 0)), (.int .u64 (mkA (List.take 0 (List.drop ((off + 0) - off) l)) (boxW ks vs) 1 0)), (.int .i64 (mkA (List.take 0 (List.drop ((off + 0) - off) l)) (boxW ks vs) 2 0)), (.int .u64 (mkA (List.take 0 (List.drop ((off + 0) - off) l)) (boxW ks vs) 3 0)), (.int .u64 (mkA (List.take 0 (List.drop ((off + 0) - off) l)) (boxW ks vs) 4 0))] 37 true), (1, 0, .cells [(.bool true), (.slice (some ⟨4, 0, none⟩) (List.length (boxW ks vs)) (List.length (boxW ks vs))), (.int .u64 0), (.int .i64 (-1)), (.int .i64 5), (.int .u64 0), (.int .i64 (((List.length (boxW ks vs)) : Nat) : Int)), (.int .u64 0), (.int .u64 0)] 88 true), (0, 0, .tail off .u64 l e)]⟩⟩
noncomputable def MS16 (ks : ByteArray) (vs : ByteArray) (off : Nat) (n : Nat) (c : Nat) (l : List Int) (e : TypeId) : KSt := ⟨(frameL 139 [(0, (.string ks)), (1, (.string vs)), (2, (.slice (some ⟨0, off, none⟩) n c)), (7, (.pointer (some ⟨1, 0, none⟩))), (12, (.int .i64 0)), (13, (.pointer (some ⟨2, 0, none⟩))), (14, (.int .u64 (List.getD (List.take 0 (List.drop ((off + 0) - off) l)) 0 0))), (15, (.int .u64 0)), (16, (.bool false)), (17, (.pointer (some ⟨3, 0, none⟩))), (18, (.bool true))]), ⟨5, 1, [(4, 0, .ints .u64 (boxW ks vs) 30 true), (3, 0, .cells [(.int .i64 5), (.int .u64 0), (.int .i64 (((List.length (boxW ks vs)) : Nat) : Int)), (.int .u64 0), (.int .u64 0)] 35 true), (2, 0, .cells [(.slice (some ⟨0, (off + 0), none⟩) 0 (c - 0)), (.int .i64 (mkAt (List.take 0 (List.drop ((off + 0) - off) l)) (boxW ks vs))), (.bool (mkOver (List.take 0 (List.drop ((off + 0) - off) l)) (boxW ks vs))), (.int .i64 (mkA (List.take 0 (List.drop ((off + 0) - off) l)) (boxW ks vs) 0 0)), (.int .u64 (mkA (List.take 0 (List.drop ((off + 0) - off) l)) (boxW ks vs) 1 0)), (.int .i64 (mkA (List.take 0 (List.drop ((off + 0) - off) l)) (boxW ks vs) 2 0)), (.int .u64 (mkA (List.take 0 (List.drop ((off + 0) - off) l)) (boxW ks vs) 3 0)), (.int .u64 (mkA (List.take 0 (List.drop ((off + 0) - off) l)) (boxW ks vs) 4 0))] 37 true), (1, 0, .cells [(.bool true), (.slice (some ⟨4, 0, none⟩) (List.length (boxW ks vs)) (List.length (boxW ks vs))), (.int .u64 0), (.int .i64 (-1)), (.int .i64 5), (.int .u64 0), (.int .i64 (((List.length (boxW ks vs)) : Nat) : Int)), (.int .u64 0), (.int .u64 0)] 88 true), (0, 0, .tail off .u64 l e)]⟩⟩
theorem MR15 (ks : ByteArray) (vs : ByteArray) (off : Nat) (n : Nat) (c : Nat) (l : List Int) (e : TypeId) : MEV boxW mkA mkAt mkOver (codeAt [1, 1, 1, 1, 0, 1, 0, 0, 1, 0, 0, 1, 1, 1, 0] BM) (MS13 boxW mkA mkAt mkOver ks vs off n c l e) [0, 1, 2, 7, 12, 13, 14, 15, 16, 17, 18] =
  bif (false && (true && (((((List.length (boxW ks vs)) : Nat) : Int) == 0) && true))) then
    some (.normal, (MS15 boxW mkA mkAt mkOver ks vs off n c l e))
  else
    bif (true && (true && (((((List.length (boxW ks vs)) : Nat) : Int) == (((List.length (boxW ks vs)) : Nat) : Int)) && true))) then
      bif (!(decide ((((List.length (boxW ks vs)) : Nat) : Int) ≥ 1))) then
        some (.normal, (MS15 boxW mkA mkAt mkOver ks vs off n c l e))
      else
        some (.normal, (MS16 boxW mkA mkAt mkOver ks vs off n c l e))
    else
      some (.normal, (MS15 boxW mkA mkAt mkOver ks vs off n c l e)) := by kernel_rfl
noncomputable def MS17 (ks : ByteArray) (vs : ByteArray) (off : Nat) (n : Nat) (c : Nat) (l : List Int) (e : TypeId) : KSt := ⟨(frameL 139 [(0, (.string ks)), (1, (.string vs)), (2, (.slice (some ⟨0, off, none⟩) n c)), (7, (.pointer (some ⟨1, 0, none⟩))), (12, (.int .i64 0)), (127, (.bool true))]), ⟨3, 1, [(2, 0, .ints .u64 (boxW ks vs) 30 true), (1, 0, .cells [(.bool true), (.slice (some ⟨2, 0, none⟩) (List.length (boxW ks vs)) (List.length (boxW ks vs))), (.int .u64 0), (.int .i64 (-1)), (.int .i64 5), (.int .u64 0), (.int .i64 (((List.length (boxW ks vs)) : Nat) : Int)), (.int .u64 0), (.int .u64 0)] 88 true), (0, 0, .tail off .u64 l e)]⟩⟩
noncomputable def MS18 (ks : ByteArray) (vs : ByteArray) (off : Nat) (n : Nat) (c : Nat) (l : List Int) (e : TypeId) : KSt := ⟨(frameL 139 [(0, (.string ks)), (1, (.string vs)), (2, (.slice (some ⟨0, off, none⟩) n c)), (7, (.pointer (some ⟨1, 0, none⟩))), (12, (.int .i64 0)), (127, (.bool false))]), ⟨3, 1, [(2, 0, .ints .u64 (boxW ks vs) 30 true), (1, 0, .cells [(.bool true), (.slice (some ⟨2, 0, none⟩) (List.length (boxW ks vs)) (List.length (boxW ks vs))), (.int .u64 0), (.int .i64 (-1)), (.int .i64 5), (.int .u64 0), (.int .i64 (((List.length (boxW ks vs)) : Nat) : Int)), (.int .u64 0), (.int .u64 0)] 88 true), (0, 0, .tail off .u64 l e)]⟩⟩
theorem MR16 (ks : ByteArray) (vs : ByteArray) (off : Nat) (n : Nat) (c : Nat) (l : List Int) (e : TypeId) : MEV boxW mkA mkAt mkOver (codeAt [1, 1, 1, 1, 0, 1, 0, 0, 1, 0, 0, 1, 1, 1, 1, 0, 0] BM) (MS16 boxW mkA mkAt mkOver ks vs off n c l e) [0, 1, 2, 7, 12, 127] =
  bif (!(true == (mkOver (List.take 0 (List.drop ((off + 0) - off) l)) (boxW ks vs)))) then
    some (.normal, (MS17 boxW ks vs off n c l e))
  else
    bif (!((5 == (mkA (List.take 0 (List.drop ((off + 0) - off) l)) (boxW ks vs) 0 0)) && ((0 == (mkA (List.take 0 (List.drop ((off + 0) - off) l)) (boxW ks vs) 1 0)) && (((((List.length (boxW ks vs)) : Nat) : Int) == (mkA (List.take 0 (List.drop ((off + 0) - off) l)) (boxW ks vs) 2 0)) && ((0 == (mkA (List.take 0 (List.drop ((off + 0) - off) l)) (boxW ks vs) 3 0)) && ((0 == (mkA (List.take 0 (List.drop ((off + 0) - off) l)) (boxW ks vs) 4 0)) && true)))))) then
      some (.normal, (MS17 boxW ks vs off n c l e))
    else
      bif (false == (mkOver (List.take 0 (List.drop ((off + 0) - off) l)) (boxW ks vs))) then
        some (.normal, (MS17 boxW ks vs off n c l e))
      else
        some (.normal, (MS18 boxW ks vs off n c l e)) := by kernel_rfl
theorem MR17 (ks : ByteArray) (vs : ByteArray) (off : Nat) (n : Nat) (c : Nat) (l : List Int) (e : TypeId) : MEV boxW mkA mkAt mkOver (codeAt [1, 1, 1, 1, 0, 1, 0, 0, 1, 0, 0, 1, 1, 1, 1, 0, 1, 1] BM) (MS18 boxW ks vs off n c l e) [0, 1, 2, 7, 12] =
  some (.normal, (MS8 boxW ks vs off n c l e)) := by kernel_rfl
noncomputable def MS19 (ks : ByteArray) (vs : ByteArray) (off : Nat) (n : Nat) (c : Nat) (l : List Int) (e : TypeId) : KSt := ⟨(frameL 139 [(0, (.string ks)), (1, (.string vs)), (2, (.slice (some ⟨0, off, none⟩) n c)), (7, (.pointer (some ⟨1, 0, none⟩))), (12, (.int .i64 0)), (131, (.bool (decide (0 < ((n : Nat) : Int)))))]), ⟨3, 1, [(2, 0, .ints .u64 (boxW ks vs) 30 true), (1, 0, .cells [(.bool true), (.slice (some ⟨2, 0, none⟩) (List.length (boxW ks vs)) (List.length (boxW ks vs))), (.int .u64 0), (.int .i64 (-1)), (.int .i64 5), (.int .u64 0), (.int .i64 (((List.length (boxW ks vs)) : Nat) : Int)), (.int .u64 0), (.int .u64 0)] 88 true), (0, 0, .tail off .u64 l e)]⟩⟩
theorem MR18 (ks : ByteArray) (vs : ByteArray) (off : Nat) (n : Nat) (c : Nat) (l : List Int) (e : TypeId) : MEV boxW mkA mkAt mkOver (codeAt [1, 1, 1, 1, 0, 1, 0, 0, 1, 0, 0, 1, 1, 1, 1, 1, 0] BM) (MS8 boxW ks vs off n c l e) [0, 1, 2, 7, 12, 131] =
  some (.normal, (MS19 boxW ks vs off n c l e)) := by kernel_rfl
theorem MR19 (ks : ByteArray) (vs : ByteArray) (off : Nat) (n : Nat) (c : Nat) (l : List Int) (e : TypeId) : MEV boxW mkA mkAt mkOver (codeAt [1, 1, 1, 1, 0, 1, 0, 0, 1, 0, 0, 1, 1, 1, 1, 1, 1, 1] BM) (MS19 boxW ks vs off n c l e) [0, 1, 2, 7, 12] =
  some (.normal, (MS8 boxW ks vs off n c l e)) := by kernel_rfl
noncomputable def MS20 (ks : ByteArray) (vs : ByteArray) (off : Nat) (n : Nat) (c : Nat) (l : List Int) (e : TypeId) : KSt := ⟨(frameL 139 [(0, (.string ks)), (1, (.string vs)), (2, (.slice (some ⟨0, off, none⟩) n c)), (7, (.pointer (some ⟨1, 0, none⟩))), (12, (.int .i64 1))]), ⟨3, 1, [(2, 0, .ints .u64 (boxW ks vs) 30 true), (1, 0, .cells [(.bool true), (.slice (some ⟨2, 0, none⟩) (List.length (boxW ks vs)) (List.length (boxW ks vs))), (.int .u64 0), (.int .i64 (-1)), (.int .i64 5), (.int .u64 0), (.int .i64 (((List.length (boxW ks vs)) : Nat) : Int)), (.int .u64 0), (.int .u64 0)] 88 true), (0, 0, .tail off .u64 l e)]⟩⟩
theorem MR20 (ks : ByteArray) (vs : ByteArray) (off : Nat) (n : Nat) (c : Nat) (l : List Int) (e : TypeId) : MEV boxW mkA mkAt mkOver (codeAt [1, 1, 1, 1, 0, 1, 0, 0, 1, 1] BM) (MS8 boxW ks vs off n c l e) [0, 1, 2, 7, 12] =
  some (.normal, (MS20 boxW ks vs off n c l e)) := by kernel_rfl
noncomputable def MS21 (ks : ByteArray) (vs : ByteArray) (off : Nat) (n : Nat) (c : Nat) (l : List Int) (e : TypeId) : KSt := ⟨(frameL 139 [(0, (.string ks)), (1, (.string vs)), (2, (.slice (some ⟨0, off, none⟩) n c)), (7, (.pointer (some ⟨1, 0, none⟩))), (12, (.int .i64 1)), (68, (.bool (decide (1 ≤ ((n : Nat) : Int)))))]), ⟨3, 1, [(2, 0, .ints .u64 (boxW ks vs) 30 true), (1, 0, .cells [(.bool true), (.slice (some ⟨2, 0, none⟩) (List.length (boxW ks vs)) (List.length (boxW ks vs))), (.int .u64 0), (.int .i64 (-1)), (.int .i64 5), (.int .u64 0), (.int .i64 (((List.length (boxW ks vs)) : Nat) : Int)), (.int .u64 0), (.int .u64 0)] 88 true), (0, 0, .tail off .u64 l e)]⟩⟩
theorem MR21 (ks : ByteArray) (vs : ByteArray) (off : Nat) (n : Nat) (c : Nat) (l : List Int) (e : TypeId) : MEV boxW mkA mkAt mkOver (codeAt [1, 1, 1, 1, 0, 1, 0, 0, 0, 0] BM) (MS20 boxW ks vs off n c l e) [0, 1, 2, 7, 12, 68] =
  some (.normal, (MS21 boxW ks vs off n c l e)) := by kernel_rfl
theorem MR22 (ks : ByteArray) (vs : ByteArray) (off : Nat) (n : Nat) (c : Nat) (l : List Int) (e : TypeId) : MEV boxW mkA mkAt mkOver (codeAt [1, 1, 1, 1, 1, 0] BM) (MS21 boxW ks vs off n c l e) [6] =
  some (.normal, (MS4 off l e)) := by kernel_rfl
noncomputable def MS22 (ks : ByteArray) (vs : ByteArray) (off : Nat) (n : Nat) (c : Nat) (n1 : Int) (l : List Int) (e : TypeId) : KSt := ⟨(frameL 139 [(0, (.string ks)), (1, (.string vs)), (2, (.slice (some ⟨0, off, none⟩) n c)), (7, (.pointer (some ⟨1, 0, none⟩))), (12, (.int .i64 0))]), ⟨3, 1, [(2, 0, .ints .u64 (boxW ks vs) 30 true), (1, 0, .cells [(.bool true), (.slice (some ⟨2, 0, none⟩) (List.length (boxW ks vs)) (List.length (boxW ks vs))), (.int .u64 n1), (.int .i64 (-1)), (.int .i64 0), (.int .u64 0), (.int .i64 0), (.int .u64 0), (.int .u64 0)] 88 true), (0, 0, .tail off .u64 l e)]⟩⟩
noncomputable def MS23 (ks : ByteArray) (vs : ByteArray) (off : Nat) (n : Nat) (c : Nat) (n1 : Int) (l : List Int) (e : TypeId) : KSt := ⟨(frameL 139 [(0, (.string ks)), (1, (.string vs)), (2, (.slice (some ⟨0, off, none⟩) n c)), (7, (.pointer (some ⟨1, 0, none⟩))), (12, (.int .i64 0))]), ⟨3, 1, [(2, 0, .ints .u64 (boxW ks vs) 30 true), (1, 0, .cells [(.bool true), (.slice (some ⟨2, 0, none⟩) (List.length (boxW ks vs)) (List.length (boxW ks vs))), (.int .u64 n1), (.int .i64 0), (.int .i64 0), (.int .u64 0), (.int .i64 0), (.int .u64 0), (.int .u64 0)] 88 true), (0, 0, .tail off .u64 l e)]⟩⟩
noncomputable def MS24 (ks : ByteArray) (vs : ByteArray) (off : Nat) (n : Nat) (c : Nat) (n1 : Int) (n2 : Int) (l : List Int) (e : TypeId) : KSt := ⟨(frameL 139 [(0, (.string ks)), (1, (.string vs)), (2, (.slice (some ⟨0, off, none⟩) n c)), (7, (.pointer (some ⟨1, 0, none⟩))), (12, (.int .i64 0))]), ⟨3, 1, [(2, 0, .ints .u64 (boxW ks vs) 30 true), (1, 0, .cells [(.bool true), (.slice (some ⟨2, 0, none⟩) (List.length (boxW ks vs)) (List.length (boxW ks vs))), (.int .u64 n1), (.int .i64 0), (.int .i64 2), (.int .u64 n1), (.int .i64 0), (.int .u64 0), (.int .u64 n2)] 88 true), (0, 0, .tail off .u64 l e)]⟩⟩
theorem MR23 (ks : ByteArray) (vs : ByteArray) (off : Nat) (n : Nat) (c : Nat) (l : List Int) (e : TypeId) : MEV boxW mkA mkAt mkOver (codeAt [1, 1, 1, 1, 0, 1, 0, 0, 1, 0, 0, 1, 1, 1, 1, 1, 1, 0] BM) (MS19 boxW ks vs off n c l e) [0, 1, 2, 7, 12] =
  if (0 : Int) ≤ 0 ∧ 0 < ((n : Nat) : Int) then
    bif (Nat.ble off (off + 0)) then
      obind (l[((off + 0) - off)]?) fun n1 =>
        bif (false && (true && (((((List.length (boxW ks vs)) : Nat) : Int) == 0) && true))) then
          some (.normal, (MS8 boxW ks vs off n c l e))
        else
          bif (true && (true && (((((List.length (boxW ks vs)) : Nat) : Int) == (((List.length (boxW ks vs)) : Nat) : Int)) && true))) then
            bif (!(decide ((((List.length (boxW ks vs)) : Nat) : Int) ≥ 1))) then
              some (.normal, (MS8 boxW ks vs off n c l e))
            else
              bif (n1 == 0) then
                some (.normal, (MS22 boxW ks vs off n c n1 l e))
              else
                bif (0 == (((List.length (boxW ks vs)) : Nat) : Int)) then
                  some (.normal, (MS23 boxW ks vs off n c n1 l e))
                else
                  if (0 : Int) ≤ 0 ∧ 0 < (((List.length (boxW ks vs)) : Nat) : Int) then
                    obind ((boxW ks vs)[0]?) fun n2 =>
                      some (.normal, (MS24 boxW ks vs off n c n1 n2 l e))
                  else
                    none
          else
            some (.normal, (MS8 boxW ks vs off n c l e))
    else
      none
  else
    none := by kernel_rfl
noncomputable def MS25 (ks : ByteArray) (vs : ByteArray) (off : Nat) (n : Nat) (c : Nat) (l : List Int) (e : TypeId) : KSt := ⟨(frameL 139 [(0, (.string ks)), (1, (.string vs)), (2, (.slice (some ⟨0, off, none⟩) n c)), (7, (.pointer (some ⟨1, 0, none⟩))), (12, (.int .i64 0))]), ⟨3, 1, [(2, 0, .ints .u64 (boxW ks vs) 30 true), (1, 0, .cells [(.bool true), (.slice (some ⟨2, 0, none⟩) (List.length (boxW ks vs)) (List.length (boxW ks vs))), (.int .u64 (l.getD 0 0)), (.int .i64 (-1)), (.int .i64 0), (.int .u64 0), (.int .i64 0), (.int .u64 0), (.int .u64 0)] 88 true), (0, 0, .tail off .u64 l e)]⟩⟩
noncomputable def MS26 (ks : ByteArray) (vs : ByteArray) (off : Nat) (n : Nat) (c : Nat) (l : List Int) (e : TypeId) : KSt := ⟨(frameL 139 [(0, (.string ks)), (1, (.string vs)), (2, (.slice (some ⟨0, off, none⟩) n c)), (7, (.pointer (some ⟨1, 0, none⟩))), (12, (.int .i64 1))]), ⟨3, 1, [(2, 0, .ints .u64 (boxW ks vs) 30 true), (1, 0, .cells [(.bool true), (.slice (some ⟨2, 0, none⟩) (List.length (boxW ks vs)) (List.length (boxW ks vs))), (.int .u64 (l.getD 0 0)), (.int .i64 (-1)), (.int .i64 0), (.int .u64 0), (.int .i64 0), (.int .u64 0), (.int .u64 0)] 88 true), (0, 0, .tail off .u64 l e)]⟩⟩
theorem MR24 (ks : ByteArray) (vs : ByteArray) (off : Nat) (n : Nat) (c : Nat) (l : List Int) (e : TypeId) : MEV boxW mkA mkAt mkOver (codeAt [1, 1, 1, 1, 0, 1, 0, 0, 1, 1] BM) (MS25 boxW ks vs off n c l e) [0, 1, 2, 7, 12] =
  some (.normal, (MS26 boxW ks vs off n c l e)) := by kernel_rfl
noncomputable def MS27 (ks : ByteArray) (vs : ByteArray) (off : Nat) (n : Nat) (c : Nat) (l : List Int) (e : TypeId) : KSt := ⟨(frameL 139 [(0, (.string ks)), (1, (.string vs)), (2, (.slice (some ⟨0, off, none⟩) n c)), (7, (.pointer (some ⟨1, 0, none⟩))), (12, (.int .i64 0))]), ⟨3, 1, [(2, 0, .ints .u64 (boxW ks vs) 30 true), (1, 0, .cells [(.bool true), (.slice (some ⟨2, 0, none⟩) (List.length (boxW ks vs)) (List.length (boxW ks vs))), (.int .u64 (l.getD 0 0)), (.int .i64 0), (.int .i64 2), (.int .u64 (l.getD 0 0)), (.int .i64 0), (.int .u64 0), (.int .u64 ((boxW ks vs).getD 0 0))] 88 true), (0, 0, .tail off .u64 l e)]⟩⟩
noncomputable def MS28 (ks : ByteArray) (vs : ByteArray) (off : Nat) (n : Nat) (c : Nat) (l : List Int) (e : TypeId) : KSt := ⟨(frameL 139 [(0, (.string ks)), (1, (.string vs)), (2, (.slice (some ⟨0, off, none⟩) n c)), (7, (.pointer (some ⟨1, 0, none⟩))), (12, (.int .i64 1))]), ⟨3, 1, [(2, 0, .ints .u64 (boxW ks vs) 30 true), (1, 0, .cells [(.bool true), (.slice (some ⟨2, 0, none⟩) (List.length (boxW ks vs)) (List.length (boxW ks vs))), (.int .u64 (l.getD 0 0)), (.int .i64 0), (.int .i64 2), (.int .u64 (l.getD 0 0)), (.int .i64 0), (.int .u64 0), (.int .u64 ((boxW ks vs).getD 0 0))] 88 true), (0, 0, .tail off .u64 l e)]⟩⟩
theorem MR25 (ks : ByteArray) (vs : ByteArray) (off : Nat) (n : Nat) (c : Nat) (l : List Int) (e : TypeId) : MEV boxW mkA mkAt mkOver (codeAt [1, 1, 1, 1, 0, 1, 0, 0, 1, 1] BM) (MS27 boxW ks vs off n c l e) [0, 1, 2, 7, 12] =
  some (.normal, (MS28 boxW ks vs off n c l e)) := by kernel_rfl
noncomputable def MS29 (ks : ByteArray) (vs : ByteArray) (off : Nat) (n : Nat) (c : Nat) (k : Nat) (w : Int) (j : Int) (x : Int) (l : List Int) (e : TypeId) : KSt := ⟨(frameL 139 [(0, (.string ks)), (1, (.string vs)), (2, (.slice (some ⟨0, off, none⟩) n c)), (7, (.pointer (some ⟨1, 0, none⟩))), (12, (.int .i64 ((k : Nat) : Int)))]), ⟨3, 1, [(2, 0, .ints .u64 (boxW ks vs) 30 true), (1, 0, .cells [(.bool true), (.slice (some ⟨2, 0, none⟩) (List.length (boxW ks vs)) (List.length (boxW ks vs))), (.int .u64 w), (.int .i64 j), (.int .i64 2), (.int .u64 w), (.int .i64 j), (.int .u64 0), (.int .u64 x)] 88 true), (0, 0, .tail off .u64 l e)]⟩⟩
noncomputable def MS30 (ks : ByteArray) (vs : ByteArray) (off : Nat) (n : Nat) (c : Nat) (k : Nat) (w : Int) (j : Int) (x : Int) (l : List Int) (e : TypeId) : KSt := ⟨(frameL 139 [(0, (.string ks)), (1, (.string vs)), (2, (.slice (some ⟨0, off, none⟩) n c)), (7, (.pointer (some ⟨1, 0, none⟩))), (12, (.int .i64 ((k : Nat) : Int))), (68, (.bool (decide (((k : Nat) : Int) ≤ ((n : Nat) : Int)))))]), ⟨3, 1, [(2, 0, .ints .u64 (boxW ks vs) 30 true), (1, 0, .cells [(.bool true), (.slice (some ⟨2, 0, none⟩) (List.length (boxW ks vs)) (List.length (boxW ks vs))), (.int .u64 w), (.int .i64 j), (.int .i64 2), (.int .u64 w), (.int .i64 j), (.int .u64 0), (.int .u64 x)] 88 true), (0, 0, .tail off .u64 l e)]⟩⟩
theorem MR26 (ks : ByteArray) (vs : ByteArray) (off : Nat) (n : Nat) (c : Nat) (k : Nat) (w : Int) (j : Int) (x : Int) (l : List Int) (e : TypeId) : MEV boxW mkA mkAt mkOver (codeAt [1, 1, 1, 1, 0, 1, 0, 0, 0, 0] BM) (MS29 boxW ks vs off n c k w j x l e) [0, 1, 2, 7, 12, 68] =
  some (.normal, (MS30 boxW ks vs off n c k w j x l e)) := by kernel_rfl
theorem MR27 (ks : ByteArray) (vs : ByteArray) (off : Nat) (n : Nat) (c : Nat) (k : Nat) (w : Int) (j : Int) (x : Int) (l : List Int) (e : TypeId) : MEV boxW mkA mkAt mkOver (codeAt [1, 1, 1, 1, 0, 1, 0, 0, 0, 1, 0] BM) (MS30 boxW ks vs off n c k w j x l e) [0, 1, 2, 7, 12] =
  some (.normal, (MS29 boxW ks vs off n c k w j x l e)) := by kernel_rfl
noncomputable def MS31 (ks : ByteArray) (vs : ByteArray) (off : Nat) (n : Nat) (c : Nat) (k : Nat) (w : Int) (j : Int) (x : Int) (l : List Int) (e : TypeId) : KSt := ⟨(frameL 139 [(0, (.string ks)), (1, (.string vs)), (2, (.slice (some ⟨0, off, none⟩) n c)), (7, (.pointer (some ⟨1, 0, none⟩))), (12, (.int .i64 ((k : Nat) : Int))), (13, (.pointer (some ⟨2, 0, none⟩)))]), ⟨4, 1, [(3, 0, .ints .u64 (boxW ks vs) 30 true), (2, 0, .cells [(.slice (some ⟨0, 0, some 0⟩) 0 0), (.int .i64 0), (.bool false), (.int .i64 0), (.int .u64 0), (.int .i64 0), (.int .u64 0), (.int .u64 0)] 37 true), (1, 0, .cells [(.bool true), (.slice (some ⟨3, 0, none⟩) (List.length (boxW ks vs)) (List.length (boxW ks vs))), (.int .u64 w), (.int .i64 j), (.int .i64 2), (.int .u64 w), (.int .i64 j), (.int .u64 0), (.int .u64 x)] 88 true), (0, 0, .tail off .u64 l e)]⟩⟩
noncomputable def MS32 (ks : ByteArray) (vs : ByteArray) (off : Nat) (n : Nat) (c : Nat) (k : Nat) (w : Int) (j : Int) (x : Int) (l : List Int) (e : TypeId) : KSt := ⟨(frameL 139 [(0, (.string ks)), (1, (.string vs)), (2, (.slice (some ⟨0, off, none⟩) n c)), (7, (.pointer (some ⟨1, 0, none⟩))), (12, (.int .i64 ((k : Nat) : Int))), (13, (.pointer (some ⟨2, 0, none⟩)))]), ⟨4, 1, [(3, 0, .ints .u64 (boxW ks vs) 30 true), (2, 0, .cells [(.slice (some ⟨0, (off + 0), none⟩) ((Int.toNat ((k : Nat) : Int)) - 0) (c - 0)), (.int .i64 0), (.bool false), (.int .i64 0), (.int .u64 0), (.int .i64 0), (.int .u64 0), (.int .u64 0)] 37 true), (1, 0, .cells [(.bool true), (.slice (some ⟨3, 0, none⟩) (List.length (boxW ks vs)) (List.length (boxW ks vs))), (.int .u64 w), (.int .i64 j), (.int .i64 2), (.int .u64 w), (.int .i64 j), (.int .u64 0), (.int .u64 x)] 88 true), (0, 0, .tail off .u64 l e)]⟩⟩
theorem MR28 (ks : ByteArray) (vs : ByteArray) (off : Nat) (n : Nat) (c : Nat) (k : Nat) (w : Int) (j : Int) (x : Int) (l : List Int) (e : TypeId) : MEV boxW mkA mkAt mkOver (codeAt [1, 1, 1, 1, 0, 1, 0, 0, 1, 0, 0, 0] BM) (MS29 boxW ks vs off n c k w j x l e) [0, 1, 2, 7, 12, 13] =
  if 0 ≤ ((k : Nat) : Int) ∧ ((k : Nat) : Int) ≤ ((c : Nat) : Int) then
    bif ((Nat.ble 0 (Int.toNat ((k : Nat) : Int))) && (Nat.ble (Int.toNat ((k : Nat) : Int)) c)) then
      bif (Nat.beq c 0) then
        some (.normal, (MS31 boxW ks vs off n c k w j x l e))
      else
        some (.normal, (MS32 boxW ks vs off n c k w j x l e))
    else
      none
  else
    none := by kernel_rfl
noncomputable def MS33 (ks : ByteArray) (vs : ByteArray) (off : Nat) (n : Nat) (c : Nat) (k : Nat) (l : List Int) (w : Int) (j : Int) (x : Int) (e : TypeId) : KSt := ⟨(frameL 139 [(0, (.string ks)), (1, (.string vs)), (2, (.slice (some ⟨0, off, none⟩) n c)), (7, (.pointer (some ⟨1, 0, none⟩))), (12, (.int .i64 ((k : Nat) : Int))), (13, (.pointer (some ⟨2, 0, none⟩))), (14, (.int .u64 (List.getD (List.take ((Int.toNat ((k : Nat) : Int)) - 0) (List.drop ((off + 0) - off) l)) 0 0)))]), ⟨4, 1, [(3, 0, .ints .u64 (boxW ks vs) 30 true), (2, 0, .cells [(.slice (some ⟨0, (off + 0), none⟩) ((Int.toNat ((k : Nat) : Int)) - 0) (c - 0)), (.int .i64 (mkAt (List.take ((Int.toNat ((k : Nat) : Int)) - 0) (List.drop ((off + 0) - off) l)) (boxW ks vs))), (.bool (mkOver (List.take ((Int.toNat ((k : Nat) : Int)) - 0) (List.drop ((off + 0) - off) l)) (boxW ks vs))), (.int .i64 (mkA (List.take ((Int.toNat ((k : Nat) : Int)) - 0) (List.drop ((off + 0) - off) l)) (boxW ks vs) 0 0)), (.int .u64 (mkA (List.take ((Int.toNat ((k : Nat) : Int)) - 0) (List.drop ((off + 0) - off) l)) (boxW ks vs) 1 0)), (.int .i64 (mkA (List.take ((Int.toNat ((k : Nat) : Int)) - 0) (List.drop ((off + 0) - off) l)) (boxW ks vs) 2 0)), (.int .u64 (mkA (List.take ((Int.toNat ((k : Nat) : Int)) - 0) (List.drop ((off + 0) - off) l)) (boxW ks vs) 3 0)), (.int .u64 (mkA (List.take ((Int.toNat ((k : Nat) : Int)) - 0) (List.drop ((off + 0) - off) l)) (boxW ks vs) 4 0))] 37 true), (1, 0, .cells [(.bool true), (.slice (some ⟨3, 0, none⟩) (List.length (boxW ks vs)) (List.length (boxW ks vs))), (.int .u64 w), (.int .i64 j), (.int .i64 2), (.int .u64 w), (.int .i64 j), (.int .u64 0), (.int .u64 x)] 88 true), (0, 0, .tail off .u64 l e)]⟩⟩
theorem MR29 (ks : ByteArray) (vs : ByteArray) (off : Nat) (n : Nat) (c : Nat) (k : Nat) (w : Int) (j : Int) (x : Int) (l : List Int) (e : TypeId) : MEV boxW mkA mkAt mkOver (codeAt [1, 1, 1, 1, 0, 1, 0, 0, 1, 0, 0, 1, 0] BM) (MS32 boxW ks vs off n c k w j x l e) [0, 1, 2, 7, 12, 13, 14] =
  bif (Nat.ble off (off + 0)) then
    bif (Nat.ble (((off + 0) - off) + ((Int.toNat ((k : Nat) : Int)) - 0)) (List.length l)) then
      bif ((decide (0 = 0)) && ((!false) && ((Nat.ble (List.length (List.take ((Int.toNat ((k : Nat) : Int)) - 0) (List.drop ((off + 0) - off) l))) 999) && ((Nat.ble (ByteArray.size ks) 16) && (Nat.ble (ByteArray.size vs) 24))))) then
        some (.normal, (MS33 boxW mkA mkAt mkOver ks vs off n c k l w j x e))
      else
        none
    else
      none
  else
    none := by kernel_rfl
noncomputable def MS34 (ks : ByteArray) (vs : ByteArray) (off : Nat) (n : Nat) (c : Nat) (k : Nat) (l : List Int) (w : Int) (j : Int) (x : Int) (e : TypeId) : KSt := ⟨(frameL 139 [(0, (.string ks)), (1, (.string vs)), (2, (.slice (some ⟨0, off, none⟩) n c)), (7, (.pointer (some ⟨1, 0, none⟩))), (12, (.int .i64 ((k : Nat) : Int))), (13, (.pointer (some ⟨2, 0, none⟩))), (14, (.int .u64 (List.getD (List.take ((Int.toNat ((k : Nat) : Int)) - 0) (List.drop ((off + 0) - off) l)) 0 0))), (15, (.int .u64 0)), (16, (.bool false))]), ⟨4, 1, [(3, 0, .ints .u64 (boxW ks vs) 30 true), (2, 0, .cells [(.slice (some ⟨0, (off + 0), none⟩) ((Int.toNat ((k : Nat) : Int)) - 0) (c - 0)), (.int .i64 (mkAt (List.take ((Int.toNat ((k : Nat) : Int)) - 0) (List.drop ((off + 0) - off) l)) (boxW ks vs))), (.bool (mkOver (List.take ((Int.toNat ((k : Nat) : Int)) - 0) (List.drop ((off + 0) - off) l)) (boxW ks vs))), (.int .i64 (mkA (List.take ((Int.toNat ((k : Nat) : Int)) - 0) (List.drop ((off + 0) - off) l)) (boxW ks vs) 0 0)), (.int .u64 (mkA (List.take ((Int.toNat ((k : Nat) : Int)) - 0) (List.drop ((off + 0) - off) l)) (boxW ks vs) 1 0)), (.int .i64 (mkA (List.take ((Int.toNat ((k : Nat) : Int)) - 0) (List.drop ((off + 0) - off) l)) (boxW ks vs) 2 0)), (.int .u64 (mkA (List.take ((Int.toNat ((k : Nat) : Int)) - 0) (List.drop ((off + 0) - off) l)) (boxW ks vs) 3 0)), (.int .u64 (mkA (List.take ((Int.toNat ((k : Nat) : Int)) - 0) (List.drop ((off + 0) - off) l)) (boxW ks vs) 4 0))] 37 true), (1, 0, .cells [(.bool true), (.slice (some ⟨3, 0, none⟩) (List.length (boxW ks vs)) (List.length (boxW ks vs))), (.int .u64 w), (.int .i64 j), (.int .i64 2), (.int .u64 w), (.int .i64 j), (.int .u64 0), (.int .u64 x)] 88 true), (0, 0, .tail off .u64 l e)]⟩⟩
noncomputable def MS35 (ks : ByteArray) (vs : ByteArray) (off : Nat) (n : Nat) (c : Nat) (k : Nat) (l : List Int) (w : Int) (j : Int) (x : Int) (e : TypeId) : KSt := ⟨(frameL 139 [(0, (.string ks)), (1, (.string vs)), (2, (.slice (some ⟨0, off, none⟩) n c)), (7, (.pointer (some ⟨1, 0, none⟩))), (12, (.int .i64 ((k : Nat) : Int))), (13, (.pointer (some ⟨2, 0, none⟩))), (14, (.int .u64 (List.getD (List.take ((Int.toNat ((k : Nat) : Int)) - 0) (List.drop ((off + 0) - off) l)) 0 0))), (15, (.int .u64 w)), (16, (.bool true))]), ⟨4, 1, [(3, 0, .ints .u64 (boxW ks vs) 30 true), (2, 0, .cells [(.slice (some ⟨0, (off + 0), none⟩) ((Int.toNat ((k : Nat) : Int)) - 0) (c - 0)), (.int .i64 (mkAt (List.take ((Int.toNat ((k : Nat) : Int)) - 0) (List.drop ((off + 0) - off) l)) (boxW ks vs))), (.bool (mkOver (List.take ((Int.toNat ((k : Nat) : Int)) - 0) (List.drop ((off + 0) - off) l)) (boxW ks vs))), (.int .i64 (mkA (List.take ((Int.toNat ((k : Nat) : Int)) - 0) (List.drop ((off + 0) - off) l)) (boxW ks vs) 0 0)), (.int .u64 (mkA (List.take ((Int.toNat ((k : Nat) : Int)) - 0) (List.drop ((off + 0) - off) l)) (boxW ks vs) 1 0)), (.int .i64 (mkA (List.take ((Int.toNat ((k : Nat) : Int)) - 0) (List.drop ((off + 0) - off) l)) (boxW ks vs) 2 0)), (.int .u64 (mkA (List.take ((Int.toNat ((k : Nat) : Int)) - 0) (List.drop ((off + 0) - off) l)) (boxW ks vs) 3 0)), (.int .u64 (mkA (List.take ((Int.toNat ((k : Nat) : Int)) - 0) (List.drop ((off + 0) - off) l)) (boxW ks vs) 4 0))] 37 true), (1, 0, .cells [(.bool true), (.slice (some ⟨3, 0, none⟩) (List.length (boxW ks vs)) (List.length (boxW ks vs))), (.int .u64 w), (.int .i64 j), (.int .i64 2), (.int .u64 w), (.int .i64 j), (.int .u64 0), (.int .u64 x)] 88 true), (0, 0, .tail off .u64 l e)]⟩⟩
theorem MR30 (ks : ByteArray) (vs : ByteArray) (off : Nat) (n : Nat) (c : Nat) (k : Nat) (l : List Int) (w : Int) (j : Int) (x : Int) (e : TypeId) : MEV boxW mkA mkAt mkOver (codeAt [1, 1, 1, 1, 0, 1, 0, 0, 1, 0, 0, 1, 1, 0] BM) (MS33 boxW mkA mkAt mkOver ks vs off n c k l w j x e) [0, 1, 2, 7, 12, 13, 14, 15, 16] =
  bif (!(false && ((w == 0) && ((j == 0) && (true && ((x == 0) && true)))))) then
    some (.normal, (MS34 boxW mkA mkAt mkOver ks vs off n c k l w j x e))
  else
    some (.normal, (MS35 boxW mkA mkAt mkOver ks vs off n c k l w j x e)) := by kernel_rfl
noncomputable def MS36 (ks : ByteArray) (vs : ByteArray) (off : Nat) (n : Nat) (c : Nat) (k : Nat) (l : List Int) (w : Int) (j : Int) (x : Int) (e : TypeId) : KSt := ⟨(frameL 139 [(0, (.string ks)), (1, (.string vs)), (2, (.slice (some ⟨0, off, none⟩) n c)), (7, (.pointer (some ⟨1, 0, none⟩))), (12, (.int .i64 ((k : Nat) : Int))), (13, (.pointer (some ⟨2, 0, none⟩))), (14, (.int .u64 (List.getD (List.take ((Int.toNat ((k : Nat) : Int)) - 0) (List.drop ((off + 0) - off) l)) 0 0))), (15, (.int .u64 0)), (16, (.bool false)), (17, (.pointer (some ⟨3, 0, none⟩))), (18, (.bool false))]), ⟨5, 1, [(4, 0, .ints .u64 (boxW ks vs) 30 true), (3, 0, .cells [(.int .i64 0), (.int .u64 0), (.int .i64 0), (.int .u64 0), (.int .u64 0)] 35 true), (2, 0, .cells [(.slice (some ⟨0, (off + 0), none⟩) ((Int.toNat ((k : Nat) : Int)) - 0) (c - 0)), (.int .i64 (mkAt (List.take ((Int.toNat ((k : Nat) : Int)) - 0) (List.drop ((off + 0) - off) l)) (boxW ks vs))), (.bool (mkOver (List.take ((Int.toNat ((k : Nat) : Int)) - 0) (List.drop ((off + 0) - off) l)) (boxW ks vs))), (.int .i64 (mkA (List.take ((Int.toNat ((k : Nat) : Int)) - 0) (List.drop ((off + 0) - off) l)) (boxW ks vs) 0 0)), (.int .u64 (mkA (List.take ((Int.toNat ((k : Nat) : Int)) - 0) (List.drop ((off + 0) - off) l)) (boxW ks vs) 1 0)), (.int .i64 (mkA (List.take ((Int.toNat ((k : Nat) : Int)) - 0) (List.drop ((off + 0) - off) l)) (boxW ks vs) 2 0)), (.int .u64 (mkA (List.take ((Int.toNat ((k : Nat) : Int)) - 0) (List.drop ((off + 0) - off) l)) (boxW ks vs) 3 0)), (.int .u64 (mkA (List.take ((Int.toNat ((k : Nat) : Int)) - 0) (List.drop ((off + 0) - off) l)) (boxW ks vs) 4 0))] 37 true), (1, 0, .cells [(.bool true), (.slice (some ⟨4, 0, none⟩) (List.length (boxW ks vs)) (List.length (boxW ks vs))), (.int .u64 w), (.int .i64 j), (.int .i64 2), (.int .u64 w), (.int .i64 j), (.int .u64 0), (.int .u64 x)] 88 true), (0, 0, .tail off .u64 l e)]⟩⟩
noncomputable def MS37 (ks : ByteArray) (vs : ByteArray) (off : Nat) (n : Nat) (c : Nat) (k : Nat) (l : List Int) (w : Int) (j : Int) (x : Int) (e : TypeId) : KSt := ⟨(frameL 139 [(0, (.string ks)), (1, (.string vs)), (2, (.slice (some ⟨0, off, none⟩) n c)), (7, (.pointer (some ⟨1, 0, none⟩))), (12, (.int .i64 ((k : Nat) : Int))), (13, (.pointer (some ⟨2, 0, none⟩))), (14, (.int .u64 (List.getD (List.take ((Int.toNat ((k : Nat) : Int)) - 0) (List.drop ((off + 0) - off) l)) 0 0))), (15, (.int .u64 0)), (16, (.bool false)), (17, (.pointer (some ⟨3, 0, none⟩))), (18, (.bool true))]), ⟨5, 1, [(4, 0, .ints .u64 (boxW ks vs) 30 true), (3, 0, .cells [(.int .i64 2), (.int .u64 w), (.int .i64 j), (.int .u64 0), (.int .u64 x)] 35 true), (2, 0, .cells [(.slice (some ⟨0, (off + 0), none⟩) ((Int.toNat ((k : Nat) : Int)) - 0) (c - 0)), (.int .i64 (mkAt (List.take ((Int.toNat ((k : Nat) : Int)) - 0) (List.drop ((off + 0) - off) l)) (boxW ks vs))), (.bool (mkOver (List.take ((Int.toNat ((k : Nat) : Int)) - 0) (List.drop ((off + 0) - off) l)) (boxW ks vs))), (.int .i64 (mkA (List.take ((Int.toNat ((k : Nat) : Int)) - 0) (List.drop ((off + 0) - off) l)) (boxW ks vs) 0 0)), (.int .u64 (mkA (List.take ((Int.toNat ((k : Nat) : Int)) - 0) (List.drop ((off + 0) - off) l)) (boxW ks vs) 1 0)), (.int .i64 (mkA (List.take ((Int.toNat ((k : Nat) : Int)) - 0) (List.drop ((off + 0) - off) l)) (boxW ks vs) 2 0)), (.int .u64 (mkA (List.take ((Int.toNat ((k : Nat) : Int)) - 0) (List.drop ((off + 0) - off) l)) (boxW ks vs) 3 0)), (.int .u64 (mkA (List.take ((Int.toNat ((k : Nat) : Int)) - 0) (List.drop ((off + 0) - off) l)) (boxW ks vs) 4 0))] 37 true), (1, 0, .cells [(.bool true), (.slice (some ⟨4, 0, none⟩) (List.length (boxW ks vs)) (List.length (boxW ks vs))), (.int .u64 w), (.int .i64 j), (.int .i64 2), (.int .u64 w), (.int .i64 j), (.int .u64 0), (.int .u64 x)] 88 true), (0, 0, .tail off .u64 l e)]⟩⟩
theorem MR31 (ks : ByteArray) (vs : ByteArray) (off : Nat) (n : Nat) (c : Nat) (k : Nat) (l : List Int) (w : Int) (j : Int) (x : Int) (e : TypeId) : MEV boxW mkA mkAt mkOver (codeAt [1, 1, 1, 1, 0, 1, 0, 0, 1, 0, 0, 1, 1, 1, 0] BM) (MS34 boxW mkA mkAt mkOver ks vs off n c k l w j x e) [0, 1, 2, 7, 12, 13, 14, 15, 16, 17, 18] =
  bif (false && ((w == 0) && ((j == 0) && (true && ((x == 0) && true))))) then
    some (.normal, (MS36 boxW mkA mkAt mkOver ks vs off n c k l w j x e))
  else
    bif (!(decide (j ≥ 0))) then
      some (.normal, (MS36 boxW mkA mkAt mkOver ks vs off n c k l w j x e))
    else
      some (.normal, (MS37 boxW mkA mkAt mkOver ks vs off n c k l w j x e)) := by kernel_rfl
noncomputable def MS38 (ks : ByteArray) (vs : ByteArray) (off : Nat) (n : Nat) (c : Nat) (k : Nat) (w : Int) (j : Int) (x : Int) (l : List Int) (e : TypeId) : KSt := ⟨(frameL 139 [(0, (.string ks)), (1, (.string vs)), (2, (.slice (some ⟨0, off, none⟩) n c)), (7, (.pointer (some ⟨1, 0, none⟩))), (12, (.int .i64 ((k : Nat) : Int))), (127, (.bool true))]), ⟨3, 1, [(2, 0, .ints .u64 (boxW ks vs) 30 true), (1, 0, .cells [(.bool true), (.slice (some ⟨2, 0, none⟩) (List.length (boxW ks vs)) (List.length (boxW ks vs))), (.int .u64 w), (.int .i64 j), (.int .i64 2), (.int .u64 w), (.int .i64 j), (.int .u64 0), (.int .u64 x)] 88 true), (0, 0, .tail off .u64 l e)]⟩⟩
noncomputable def MS39 (ks : ByteArray) (vs : ByteArray) (off : Nat) (n : Nat) (c : Nat) (k : Nat) (w : Int) (j : Int) (x : Int) (l : List Int) (e : TypeId) : KSt := ⟨(frameL 139 [(0, (.string ks)), (1, (.string vs)), (2, (.slice (some ⟨0, off, none⟩) n c)), (7, (.pointer (some ⟨1, 0, none⟩))), (12, (.int .i64 ((k : Nat) : Int))), (127, (.bool false))]), ⟨3, 1, [(2, 0, .ints .u64 (boxW ks vs) 30 true), (1, 0, .cells [(.bool true), (.slice (some ⟨2, 0, none⟩) (List.length (boxW ks vs)) (List.length (boxW ks vs))), (.int .u64 w), (.int .i64 j), (.int .i64 2), (.int .u64 w), (.int .i64 j), (.int .u64 0), (.int .u64 x)] 88 true), (0, 0, .tail off .u64 l e)]⟩⟩
theorem MR32 (ks : ByteArray) (vs : ByteArray) (off : Nat) (n : Nat) (c : Nat) (k : Nat) (l : List Int) (w : Int) (j : Int) (x : Int) (e : TypeId) : MEV boxW mkA mkAt mkOver (codeAt [1, 1, 1, 1, 0, 1, 0, 0, 1, 0, 0, 1, 1, 1, 1, 0, 0] BM) (MS37 boxW mkA mkAt mkOver ks vs off n c k l w j x e) [0, 1, 2, 7, 12, 127] =
  bif (!(true == (mkOver (List.take ((Int.toNat ((k : Nat) : Int)) - 0) (List.drop ((off + 0) - off) l)) (boxW ks vs)))) then
    some (.normal, (MS38 boxW ks vs off n c k w j x l e))
  else
    bif (!((2 == (mkA (List.take ((Int.toNat ((k : Nat) : Int)) - 0) (List.drop ((off + 0) - off) l)) (boxW ks vs) 0 0)) && ((w == (mkA (List.take ((Int.toNat ((k : Nat) : Int)) - 0) (List.drop ((off + 0) - off) l)) (boxW ks vs) 1 0)) && ((j == (mkA (List.take ((Int.toNat ((k : Nat) : Int)) - 0) (List.drop ((off + 0) - off) l)) (boxW ks vs) 2 0)) && ((0 == (mkA (List.take ((Int.toNat ((k : Nat) : Int)) - 0) (List.drop ((off + 0) - off) l)) (boxW ks vs) 3 0)) && ((x == (mkA (List.take ((Int.toNat ((k : Nat) : Int)) - 0) (List.drop ((off + 0) - off) l)) (boxW ks vs) 4 0)) && true)))))) then
      some (.normal, (MS38 boxW ks vs off n c k w j x l e))
    else
      bif (false == (mkOver (List.take ((Int.toNat ((k : Nat) : Int)) - 0) (List.drop ((off + 0) - off) l)) (boxW ks vs))) then
        some (.normal, (MS38 boxW ks vs off n c k w j x l e))
      else
        some (.normal, (MS39 boxW ks vs off n c k w j x l e)) := by kernel_rfl
theorem MR33 (ks : ByteArray) (vs : ByteArray) (off : Nat) (n : Nat) (c : Nat) (k : Nat) (w : Int) (j : Int) (x : Int) (l : List Int) (e : TypeId) : MEV boxW mkA mkAt mkOver (codeAt [1, 1, 1, 1, 0, 1, 0, 0, 1, 0, 0, 1, 1, 1, 1, 0, 1, 1] BM) (MS39 boxW ks vs off n c k w j x l e) [0, 1, 2, 7, 12] =
  some (.normal, (MS29 boxW ks vs off n c k w j x l e)) := by kernel_rfl
noncomputable def MS40 (ks : ByteArray) (vs : ByteArray) (off : Nat) (n : Nat) (c : Nat) (k : Nat) (w : Int) (j : Int) (x : Int) (l : List Int) (e : TypeId) : KSt := ⟨(frameL 139 [(0, (.string ks)), (1, (.string vs)), (2, (.slice (some ⟨0, off, none⟩) n c)), (7, (.pointer (some ⟨1, 0, none⟩))), (12, (.int .i64 ((k : Nat) : Int))), (131, (.bool (decide (((k : Nat) : Int) < ((n : Nat) : Int)))))]), ⟨3, 1, [(2, 0, .ints .u64 (boxW ks vs) 30 true), (1, 0, .cells [(.bool true), (.slice (some ⟨2, 0, none⟩) (List.length (boxW ks vs)) (List.length (boxW ks vs))), (.int .u64 w), (.int .i64 j), (.int .i64 2), (.int .u64 w), (.int .i64 j), (.int .u64 0), (.int .u64 x)] 88 true), (0, 0, .tail off .u64 l e)]⟩⟩
theorem MR34 (ks : ByteArray) (vs : ByteArray) (off : Nat) (n : Nat) (c : Nat) (k : Nat) (w : Int) (j : Int) (x : Int) (l : List Int) (e : TypeId) : MEV boxW mkA mkAt mkOver (codeAt [1, 1, 1, 1, 0, 1, 0, 0, 1, 0, 0, 1, 1, 1, 1, 1, 0] BM) (MS29 boxW ks vs off n c k w j x l e) [0, 1, 2, 7, 12, 131] =
  some (.normal, (MS40 boxW ks vs off n c k w j x l e)) := by kernel_rfl
theorem MR35 (ks : ByteArray) (vs : ByteArray) (off : Nat) (n : Nat) (c : Nat) (k : Nat) (w : Int) (j : Int) (x : Int) (l : List Int) (e : TypeId) : MEV boxW mkA mkAt mkOver (codeAt [1, 1, 1, 1, 0, 1, 0, 0, 1, 0, 0, 1, 1, 1, 1, 1, 1, 1] BM) (MS40 boxW ks vs off n c k w j x l e) [0, 1, 2, 7, 12] =
  some (.normal, (MS29 boxW ks vs off n c k w j x l e)) := by kernel_rfl
noncomputable def MS41 (ks : ByteArray) (vs : ByteArray) (off : Nat) (n : Nat) (c : Nat) (k : Nat) (w : Int) (j : Int) (x : Int) (l : List Int) (e : TypeId) : KSt := ⟨(frameL 139 [(0, (.string ks)), (1, (.string vs)), (2, (.slice (some ⟨0, off, none⟩) n c)), (7, (.pointer (some ⟨1, 0, none⟩))), (12, (.int .i64 (IntKind.wrap .i64 (((k : Nat) : Int) + 1))))]), ⟨3, 1, [(2, 0, .ints .u64 (boxW ks vs) 30 true), (1, 0, .cells [(.bool true), (.slice (some ⟨2, 0, none⟩) (List.length (boxW ks vs)) (List.length (boxW ks vs))), (.int .u64 w), (.int .i64 j), (.int .i64 2), (.int .u64 w), (.int .i64 j), (.int .u64 0), (.int .u64 x)] 88 true), (0, 0, .tail off .u64 l e)]⟩⟩
theorem MR36 (ks : ByteArray) (vs : ByteArray) (off : Nat) (n : Nat) (c : Nat) (k : Nat) (w : Int) (j : Int) (x : Int) (l : List Int) (e : TypeId) : MEV boxW mkA mkAt mkOver (codeAt [1, 1, 1, 1, 0, 1, 0, 0, 1, 1] BM) (MS29 boxW ks vs off n c k w j x l e) [0, 1, 2, 7, 12] =
  some (.normal, (MS41 boxW ks vs off n c k w j x l e)) := by kernel_rfl
noncomputable def MS42 (ks : ByteArray) (vs : ByteArray) (off : Nat) (n : Nat) (c : Nat) (k : Nat) (w : Int) (j : Int) (x : Int) (l : List Int) (e : TypeId) : KSt := ⟨(frameL 139 [(0, (.string ks)), (1, (.string vs)), (2, (.slice (some ⟨0, off, none⟩) n c)), (7, (.pointer (some ⟨1, 0, none⟩))), (12, (.int .i64 (((k : Nat) : Int) + 1)))]), ⟨3, 1, [(2, 0, .ints .u64 (boxW ks vs) 30 true), (1, 0, .cells [(.bool true), (.slice (some ⟨2, 0, none⟩) (List.length (boxW ks vs)) (List.length (boxW ks vs))), (.int .u64 w), (.int .i64 j), (.int .i64 2), (.int .u64 w), (.int .i64 j), (.int .u64 0), (.int .u64 x)] 88 true), (0, 0, .tail off .u64 l e)]⟩⟩
noncomputable def MS43 (ks : ByteArray) (vs : ByteArray) (off : Nat) (n : Nat) (c : Nat) (k : Nat) (w : Int) (j : Int) (l : List Int) (e : TypeId) : KSt := ⟨(frameL 139 [(0, (.string ks)), (1, (.string vs)), (2, (.slice (some ⟨0, off, none⟩) n c)), (7, (.pointer (some ⟨1, 0, none⟩))), (12, (.int .i64 ((k : Nat) : Int)))]), ⟨3, 1, [(2, 0, .ints .u64 (boxW ks vs) 30 true), (1, 0, .cells [(.bool true), (.slice (some ⟨2, 0, none⟩) (List.length (boxW ks vs)) (List.length (boxW ks vs))), (.int .u64 w), (.int .i64 (IntKind.wrap .i64 (j + 1))), (.int .i64 0), (.int .u64 0), (.int .i64 0), (.int .u64 0), (.int .u64 0)] 88 true), (0, 0, .tail off .u64 l e)]⟩⟩
noncomputable def MS44 (ks : ByteArray) (vs : ByteArray) (off : Nat) (n : Nat) (c : Nat) (k : Nat) (w : Int) (j : Int) (n2 : Int) (l : List Int) (e : TypeId) : KSt := ⟨(frameL 139 [(0, (.string ks)), (1, (.string vs)), (2, (.slice (some ⟨0, off, none⟩) n c)), (7, (.pointer (some ⟨1, 0, none⟩))), (12, (.int .i64 ((k : Nat) : Int)))]), ⟨3, 1, [(2, 0, .ints .u64 (boxW ks vs) 30 true), (1, 0, .cells [(.bool true), (.slice (some ⟨2, 0, none⟩) (List.length (boxW ks vs)) (List.length (boxW ks vs))), (.int .u64 w), (.int .i64 (IntKind.wrap .i64 (j + 1))), (.int .i64 2), (.int .u64 w), (.int .i64 (IntKind.wrap .i64 (j + 1))), (.int .u64 0), (.int .u64 n2)] 88 true), (0, 0, .tail off .u64 l e)]⟩⟩
noncomputable def MS45 (ks : ByteArray) (vs : ByteArray) (off : Nat) (n : Nat) (c : Nat) (k : Nat) (n1 : Int) (j : Int) (l : List Int) (e : TypeId) : KSt := ⟨(frameL 139 [(0, (.string ks)), (1, (.string vs)), (2, (.slice (some ⟨0, off, none⟩) n c)), (7, (.pointer (some ⟨1, 0, none⟩))), (12, (.int .i64 ((k : Nat) : Int)))]), ⟨3, 1, [(2, 0, .ints .u64 (boxW ks vs) 30 true), (1, 0, .cells [(.bool true), (.slice (some ⟨2, 0, none⟩) (List.length (boxW ks vs)) (List.length (boxW ks vs))), (.int .u64 n1), (.int .i64 j), (.int .i64 0), (.int .u64 0), (.int .i64 0), (.int .u64 0), (.int .u64 0)] 88 true), (0, 0, .tail off .u64 l e)]⟩⟩
noncomputable def MS46 (ks : ByteArray) (vs : ByteArray) (off : Nat) (n : Nat) (c : Nat) (k : Nat) (n1 : Int) (j : Int) (l : List Int) (e : TypeId) : KSt := ⟨(frameL 139 [(0, (.string ks)), (1, (.string vs)), (2, (.slice (some ⟨0, off, none⟩) n c)), (7, (.pointer (some ⟨1, 0, none⟩))), (12, (.int .i64 ((k : Nat) : Int)))]), ⟨3, 1, [(2, 0, .ints .u64 (boxW ks vs) 30 true), (1, 0, .cells [(.bool true), (.slice (some ⟨2, 0, none⟩) (List.length (boxW ks vs)) (List.length (boxW ks vs))), (.int .u64 n1), (.int .i64 (IntKind.wrap .i64 (j + 1))), (.int .i64 0), (.int .u64 0), (.int .i64 0), (.int .u64 0), (.int .u64 0)] 88 true), (0, 0, .tail off .u64 l e)]⟩⟩
noncomputable def MS47 (ks : ByteArray) (vs : ByteArray) (off : Nat) (n : Nat) (c : Nat) (k : Nat) (n1 : Int) (j : Int) (n3 : Int) (l : List Int) (e : TypeId) : KSt := ⟨(frameL 139 [(0, (.string ks)), (1, (.string vs)), (2, (.slice (some ⟨0, off, none⟩) n c)), (7, (.pointer (some ⟨1, 0, none⟩))), (12, (.int .i64 ((k : Nat) : Int)))]), ⟨3, 1, [(2, 0, .ints .u64 (boxW ks vs) 30 true), (1, 0, .cells [(.bool true), (.slice (some ⟨2, 0, none⟩) (List.length (boxW ks vs)) (List.length (boxW ks vs))), (.int .u64 n1), (.int .i64 (IntKind.wrap .i64 (j + 1))), (.int .i64 2), (.int .u64 n1), (.int .i64 (IntKind.wrap .i64 (j + 1))), (.int .u64 0), (.int .u64 n3)] 88 true), (0, 0, .tail off .u64 l e)]⟩⟩
theorem MR37 (ks : ByteArray) (vs : ByteArray) (off : Nat) (n : Nat) (c : Nat) (k : Nat) (w : Int) (j : Int) (x : Int) (l : List Int) (e : TypeId) : MEV boxW mkA mkAt mkOver (codeAt [1, 1, 1, 1, 0, 1, 0, 0, 1, 0, 0, 1, 1, 1, 1, 1, 1, 0] BM) (MS40 boxW ks vs off n c k w j x l e) [0, 1, 2, 7, 12] =
  if 0 ≤ ((k : Nat) : Int) ∧ ((k : Nat) : Int) < ((n : Nat) : Int) then
    bif (Nat.ble off (off + ((Int.toNat ((k : Nat) : Int)) * 1))) then
      obind (l[((off + ((Int.toNat ((k : Nat) : Int)) * 1)) - off)]?) fun n1 =>
        bif (false && ((w == 0) && ((j == 0) && (true && ((x == 0) && true))))) then
          some (.normal, (MS29 boxW ks vs off n c k w j x l e))
        else
          bif (!(decide (j ≥ 0))) then
            some (.normal, (MS29 boxW ks vs off n c k w j x l e))
          else
            bif (decide (j ≥ 0)) then
              bif ((IntKind.wrap .i64 (j + 1)) == (((List.length (boxW ks vs)) : Nat) : Int)) then
                some (.normal, (MS43 boxW ks vs off n c k w j l e))
              else
                if 0 ≤ (IntKind.wrap .i64 (j + 1)) ∧ (IntKind.wrap .i64 (j + 1)) < (((List.length (boxW ks vs)) : Nat) : Int) then
                  obind ((boxW ks vs)[(0 + ((Int.toNat (IntKind.wrap .i64 (j + 1))) * 1))]?) fun n2 =>
                    some (.normal, (MS44 boxW ks vs off n c k w j n2 l e))
                else
                  none
            else
              bif (n1 == 0) then
                some (.normal, (MS45 boxW ks vs off n c k n1 j l e))
              else
                bif ((IntKind.wrap .i64 (j + 1)) == (((List.length (boxW ks vs)) : Nat) : Int)) then
                  some (.normal, (MS46 boxW ks vs off n c k n1 j l e))
                else
                  if 0 ≤ (IntKind.wrap .i64 (j + 1)) ∧ (IntKind.wrap .i64 (j + 1)) < (((List.length (boxW ks vs)) : Nat) : Int) then
                    obind ((boxW ks vs)[(0 + ((Int.toNat (IntKind.wrap .i64 (j + 1))) * 1))]?) fun n3 =>
                      some (.normal, (MS47 boxW ks vs off n c k n1 j n3 l e))
                  else
                    none
    else
      none
  else
    none := by kernel_rfl
noncomputable def MS48 (ks : ByteArray) (vs : ByteArray) (off : Nat) (n : Nat) (c : Nat) (k : Nat) (w : Int) (j : Int) (l : List Int) (e : TypeId) : KSt := ⟨(frameL 139 [(0, (.string ks)), (1, (.string vs)), (2, (.slice (some ⟨0, off, none⟩) n c)), (7, (.pointer (some ⟨1, 0, none⟩))), (12, (.int .i64 ((k : Nat) : Int)))]), ⟨3, 1, [(2, 0, .ints .u64 (boxW ks vs) 30 true), (1, 0, .cells [(.bool true), (.slice (some ⟨2, 0, none⟩) (List.length (boxW ks vs)) (List.length (boxW ks vs))), (.int .u64 w), (.int .i64 (j + 1)), (.int .i64 2), (.int .u64 w), (.int .i64 (j + 1)), (.int .u64 0), (.int .u64 ((boxW ks vs).getD (0 + ((Int.toNat (j + 1)) * 1)) 0))] 88 true), (0, 0, .tail off .u64 l e)]⟩⟩
noncomputable def MS49 (ks : ByteArray) (vs : ByteArray) (off : Nat) (n : Nat) (c : Nat) (k : Nat) (w : Int) (j : Int) (l : List Int) (e : TypeId) : KSt := ⟨(frameL 139 [(0, (.string ks)), (1, (.string vs)), (2, (.slice (some ⟨0, off, none⟩) n c)), (7, (.pointer (some ⟨1, 0, none⟩))), (12, (.int .i64 ((k : Nat) : Int)))]), ⟨3, 1, [(2, 0, .ints .u64 (boxW ks vs) 30 true), (1, 0, .cells [(.bool true), (.slice (some ⟨2, 0, none⟩) (List.length (boxW ks vs)) (List.length (boxW ks vs))), (.int .u64 w), (.int .i64 (IntKind.wrap .i64 (j + 1))), (.int .i64 2), (.int .u64 w), (.int .i64 (IntKind.wrap .i64 (j + 1))), (.int .u64 0), (.int .u64 ((boxW ks vs).getD (0 + ((Int.toNat (IntKind.wrap .i64 (j + 1))) * 1)) 0))] 88 true), (0, 0, .tail off .u64 l e)]⟩⟩
noncomputable def MS50 (ks : ByteArray) (vs : ByteArray) (off : Nat) (n : Nat) (c : Nat) (k : Nat) (w : Int) (j : Int) (l : List Int) (e : TypeId) : KSt := ⟨(frameL 139 [(0, (.string ks)), (1, (.string vs)), (2, (.slice (some ⟨0, off, none⟩) n c)), (7, (.pointer (some ⟨1, 0, none⟩))), (12, (.int .i64 (IntKind.wrap .i64 (((k : Nat) : Int) + 1))))]), ⟨3, 1, [(2, 0, .ints .u64 (boxW ks vs) 30 true), (1, 0, .cells [(.bool true), (.slice (some ⟨2, 0, none⟩) (List.length (boxW ks vs)) (List.length (boxW ks vs))), (.int .u64 w), (.int .i64 (j + 1)), (.int .i64 2), (.int .u64 w), (.int .i64 (j + 1)), (.int .u64 0), (.int .u64 ((boxW ks vs).getD (0 + ((Int.toNat (j + 1)) * 1)) 0))] 88 true), (0, 0, .tail off .u64 l e)]⟩⟩
theorem MR38 (ks : ByteArray) (vs : ByteArray) (off : Nat) (n : Nat) (c : Nat) (k : Nat) (w : Int) (j : Int) (l : List Int) (e : TypeId) : MEV boxW mkA mkAt mkOver (codeAt [1, 1, 1, 1, 0, 1, 0, 0, 1, 1] BM) (MS48 boxW ks vs off n c k w j l e) [0, 1, 2, 7, 12] =
  some (.normal, (MS50 boxW ks vs off n c k w j l e)) := by kernel_rfl
noncomputable def MS51 (ks : ByteArray) (vs : ByteArray) (off : Nat) (n : Nat) (c : Nat) (k : Nat) (w : Int) (j : Int) (l : List Int) (e : TypeId) : KSt := ⟨(frameL 139 [(0, (.string ks)), (1, (.string vs)), (2, (.slice (some ⟨0, off, none⟩) n c)), (7, (.pointer (some ⟨1, 0, none⟩))), (12, (.int .i64 (((k : Nat) : Int) + 1)))]), ⟨3, 1, [(2, 0, .ints .u64 (boxW ks vs) 30 true), (1, 0, .cells [(.bool true), (.slice (some ⟨2, 0, none⟩) (List.length (boxW ks vs)) (List.length (boxW ks vs))), (.int .u64 w), (.int .i64 (j + 1)), (.int .i64 2), (.int .u64 w), (.int .i64 (j + 1)), (.int .u64 0), (.int .u64 ((boxW ks vs).getD (0 + ((Int.toNat (j + 1)) * 1)) 0))] 88 true), (0, 0, .tail off .u64 l e)]⟩⟩
noncomputable def MS52 (ks : ByteArray) (vs : ByteArray) (off : Nat) (n : Nat) (c : Nat) (k : Nat) (w : Int) (j : Int) (l : List Int) (e : TypeId) : KSt := ⟨(frameL 139 [(0, (.string ks)), (1, (.string vs)), (2, (.slice (some ⟨0, off, none⟩) n c)), (7, (.pointer (some ⟨1, 0, none⟩))), (12, (.int .i64 ((k : Nat) : Int)))]), ⟨3, 1, [(2, 0, .ints .u64 (boxW ks vs) 30 true), (1, 0, .cells [(.bool true), (.slice (some ⟨2, 0, none⟩) (List.length (boxW ks vs)) (List.length (boxW ks vs))), (.int .u64 w), (.int .i64 (j + 1)), (.int .i64 0), (.int .u64 0), (.int .i64 0), (.int .u64 0), (.int .u64 0)] 88 true), (0, 0, .tail off .u64 l e)]⟩⟩
noncomputable def MS53 (ks : ByteArray) (vs : ByteArray) (off : Nat) (n : Nat) (c : Nat) (k : Nat) (w : Int) (j : Int) (l : List Int) (e : TypeId) : KSt := ⟨(frameL 139 [(0, (.string ks)), (1, (.string vs)), (2, (.slice (some ⟨0, off, none⟩) n c)), (7, (.pointer (some ⟨1, 0, none⟩))), (12, (.int .i64 (IntKind.wrap .i64 (((k : Nat) : Int) + 1))))]), ⟨3, 1, [(2, 0, .ints .u64 (boxW ks vs) 30 true), (1, 0, .cells [(.bool true), (.slice (some ⟨2, 0, none⟩) (List.length (boxW ks vs)) (List.length (boxW ks vs))), (.int .u64 w), (.int .i64 (j + 1)), (.int .i64 0), (.int .u64 0), (.int .i64 0), (.int .u64 0), (.int .u64 0)] 88 true), (0, 0, .tail off .u64 l e)]⟩⟩
theorem MR39 (ks : ByteArray) (vs : ByteArray) (off : Nat) (n : Nat) (c : Nat) (k : Nat) (w : Int) (j : Int) (l : List Int) (e : TypeId) : MEV boxW mkA mkAt mkOver (codeAt [1, 1, 1, 1, 0, 1, 0, 0, 1, 1] BM) (MS52 boxW ks vs off n c k w j l e) [0, 1, 2, 7, 12] =
  some (.normal, (MS53 boxW ks vs off n c k w j l e)) := by kernel_rfl
noncomputable def MS54 (ks : ByteArray) (vs : ByteArray) (off : Nat) (n : Nat) (c : Nat) (k : Nat) (w : Int) (j : Int) (l : List Int) (e : TypeId) : KSt := ⟨(frameL 139 [(0, (.string ks)), (1, (.string vs)), (2, (.slice (some ⟨0, off, none⟩) n c)), (7, (.pointer (some ⟨1, 0, none⟩))), (12, (.int .i64 (((k : Nat) : Int) + 1)))]), ⟨3, 1, [(2, 0, .ints .u64 (boxW ks vs) 30 true), (1, 0, .cells [(.bool true), (.slice (some ⟨2, 0, none⟩) (List.length (boxW ks vs)) (List.length (boxW ks vs))), (.int .u64 w), (.int .i64 (j + 1)), (.int .i64 0), (.int .u64 0), (.int .i64 0), (.int .u64 0), (.int .u64 0)] 88 true), (0, 0, .tail off .u64 l e)]⟩⟩
noncomputable def MS55 (ks : ByteArray) (vs : ByteArray) (off : Nat) (n : Nat) (c : Nat) (k : Nat) (w : Int) (j : Int) (l : List Int) (e : TypeId) : KSt := ⟨(frameL 139 [(0, (.string ks)), (1, (.string vs)), (2, (.slice (some ⟨0, off, none⟩) n c)), (7, (.pointer (some ⟨1, 0, none⟩))), (12, (.int .i64 ((k : Nat) : Int)))]), ⟨3, 1, [(2, 0, .ints .u64 (boxW ks vs) 30 true), (1, 0, .cells [(.bool true), (.slice (some ⟨2, 0, none⟩) (List.length (boxW ks vs)) (List.length (boxW ks vs))), (.int .u64 w), (.int .i64 j), (.int .i64 0), (.int .u64 0), (.int .i64 0), (.int .u64 0), (.int .u64 0)] 88 true), (0, 0, .tail off .u64 l e)]⟩⟩
noncomputable def MS56 (ks : ByteArray) (vs : ByteArray) (off : Nat) (n : Nat) (c : Nat) (k : Nat) (w : Int) (j : Int) (l : List Int) (e : TypeId) : KSt := ⟨(frameL 139 [(0, (.string ks)), (1, (.string vs)), (2, (.slice (some ⟨0, off, none⟩) n c)), (7, (.pointer (some ⟨1, 0, none⟩))), (12, (.int .i64 ((k : Nat) : Int))), (68, (.bool (decide (((k : Nat) : Int) ≤ ((n : Nat) : Int)))))]), ⟨3, 1, [(2, 0, .ints .u64 (boxW ks vs) 30 true), (1, 0, .cells [(.bool true), (.slice (some ⟨2, 0, none⟩) (List.length (boxW ks vs)) (List.length (boxW ks vs))), (.int .u64 w), (.int .i64 j), (.int .i64 0), (.int .u64 0), (.int .i64 0), (.int .u64 0), (.int .u64 0)] 88 true), (0, 0, .tail off .u64 l e)]⟩⟩
theorem MR40 (ks : ByteArray) (vs : ByteArray) (off : Nat) (n : Nat) (c : Nat) (k : Nat) (w : Int) (j : Int) (l : List Int) (e : TypeId) : MEV boxW mkA mkAt mkOver (codeAt [1, 1, 1, 1, 0, 1, 0, 0, 0, 0] BM) (MS55 boxW ks vs off n c k w j l e) [0, 1, 2, 7, 12, 68] =
  some (.normal, (MS56 boxW ks vs off n c k w j l e)) := by kernel_rfl
theorem MR41 (ks : ByteArray) (vs : ByteArray) (off : Nat) (n : Nat) (c : Nat) (k : Nat) (w : Int) (j : Int) (l : List Int) (e : TypeId) : MEV boxW mkA mkAt mkOver (codeAt [1, 1, 1, 1, 0, 1, 0, 0, 0, 1, 0] BM) (MS56 boxW ks vs off n c k w j l e) [0, 1, 2, 7, 12] =
  some (.normal, (MS55 boxW ks vs off n c k w j l e)) := by kernel_rfl
noncomputable def MS57 (ks : ByteArray) (vs : ByteArray) (off : Nat) (n : Nat) (c : Nat) (k : Nat) (w : Int) (j : Int) (l : List Int) (e : TypeId) : KSt := ⟨(frameL 139 [(0, (.string ks)), (1, (.string vs)), (2, (.slice (some ⟨0, off, none⟩) n c)), (7, (.pointer (some ⟨1, 0, none⟩))), (12, (.int .i64 ((k : Nat) : Int))), (13, (.pointer (some ⟨2, 0, none⟩)))]), ⟨4, 1, [(3, 0, .ints .u64 (boxW ks vs) 30 true), (2, 0, .cells [(.slice (some ⟨0, 0, some 0⟩) 0 0), (.int .i64 0), (.bool false), (.int .i64 0), (.int .u64 0), (.int .i64 0), (.int .u64 0), (.int .u64 0)] 37 true), (1, 0, .cells [(.bool true), (.slice (some ⟨3, 0, none⟩) (List.length (boxW ks vs)) (List.length (boxW ks vs))), (.int .u64 w), (.int .i64 j), (.int .i64 0), (.int .u64 0), (.int .i64 0), (.int .u64 0), (.int .u64 0)] 88 true), (0, 0, .tail off .u64 l e)]⟩⟩
noncomputable def MS58 (ks : ByteArray) (vs : ByteArray) (off : Nat) (n : Nat) (c : Nat) (k : Nat) (w : Int) (j : Int) (l : List Int) (e : TypeId) : KSt := ⟨(frameL 139 [(0, (.string ks)), (1, (.string vs)), (2, (.slice (some ⟨0, off, none⟩) n c)), (7, (.pointer (some ⟨1, 0, none⟩))), (12, (.int .i64 ((k : Nat) : Int))), (13, (.pointer (some ⟨2, 0, none⟩)))]), ⟨4, 1, [(3, 0, .ints .u64 (boxW ks vs) 30 true), (2, 0, .cells [(.slice (some ⟨0, (off + 0), none⟩) ((Int.toNat ((k : Nat) : Int)) - 0) (c - 0)), (.int .i64 0), (.bool false), (.int .i64 0), (.int .u64 0), (.int .i64 0), (.int .u64 0), (.int .u64 0)] 37 true), (1, 0, .cells [(.bool true), (.slice (some ⟨3, 0, none⟩) (List.length (boxW ks vs)) (List.length (boxW ks vs))), (.int .u64 w), (.int .i64 j), (.int .i64 0), (.int .u64 0), (.int .i64 0), (.int .u64 0), (.int .u64 0)] 88 true), (0, 0, .tail off .u64 l e)]⟩⟩
theorem MR42 (ks : ByteArray) (vs : ByteArray) (off : Nat) (n : Nat) (c : Nat) (k : Nat) (w : Int) (j : Int) (l : List Int) (e : TypeId) : MEV boxW mkA mkAt mkOver (codeAt [1, 1, 1, 1, 0, 1, 0, 0, 1, 0, 0, 0] BM) (MS55 boxW ks vs off n c k w j l e) [0, 1, 2, 7, 12, 13] =
  if 0 ≤ ((k : Nat) : Int) ∧ ((k : Nat) : Int) ≤ ((c : Nat) : Int) then
    bif ((Nat.ble 0 (Int.toNat ((k : Nat) : Int))) && (Nat.ble (Int.toNat ((k : Nat) : Int)) c)) then
      bif (Nat.beq c 0) then
        some (.normal, (MS57 boxW ks vs off n c k w j l e))
      else
        some (.normal, (MS58 boxW ks vs off n c k w j l e))
    else
      none
  else
    none := by kernel_rfl
noncomputable def MS59 (ks : ByteArray) (vs : ByteArray) (off : Nat) (n : Nat) (c : Nat) (k : Nat) (l : List Int) (w : Int) (j : Int) (e : TypeId) : KSt := ⟨(frameL 139 [(0, (.string ks)), (1, (.string vs)), (2, (.slice (some ⟨0, off, none⟩) n c)), (7, (.pointer (some ⟨1, 0, none⟩))), (12, (.int .i64 ((k : Nat) : Int))), (13, (.pointer (some ⟨2, 0, none⟩))), (14, (.int .u64 (List.getD (List.take ((Int.toNat ((k : Nat) : Int)) - 0) (List.drop ((off + 0) - off) l)) 0 0)))]), ⟨4, 1, [(3, 0, .ints .u64 (boxW ks vs) 30 true), (2, 0, .cells [(.slice (some ⟨0, (off + 0), none⟩) ((Int.toNat ((k : Nat) : Int)) - 0) (c - 0)), (.int .i64 (mkAt (List.take ((Int.toNat ((k : Nat) : Int)) - 0) (List.drop ((off + 0) - off) l)) (boxW ks vs))), (.bool (mkOver (List.take ((Int.toNat ((k : Nat) : Int)) - 0) (List.drop ((off + 0) - off) l)) (boxW ks vs))), (.int .i64 (mkA (List.take ((Int.toNat ((k : Nat) : Int)) - 0) (List.drop ((off + 0) - off) l)) (boxW ks vs) 0 0)), (.int .u64 (mkA (List.take ((Int.toNat ((k : Nat) : Int)) - 0) (List.drop ((off + 0) - off) l)) (boxW ks vs) 1 0)), (.int .i64 (mkA (List.take ((Int.toNat ((k : Nat) : Int)) - 0) (List.drop ((off + 0) - off) l)) (boxW ks vs) 2 0)), (.int .u64 (mkA (List.take ((Int.toNat ((k : Nat) : Int)) - 0) (List.drop ((off + 0) - off) l)) (boxW ks vs) 3 0)), (.int .u64 (mkA (List.take ((Int.toNat ((k : Nat) : Int)) - 0) (List.drop ((off + 0) - off) l)) (boxW ks vs) 4 0))] 37 true), (1, 0, .cells [(.bool true), (.slice (some ⟨3, 0, none⟩) (List.length (boxW ks vs)) (List.length (boxW ks vs))), (.int .u64 w), (.int .i64 j), (.int .i64 0), (.int .u64 0), (.int .i64 0), (.int .u64 0), (.int .u64 0)] 88 true), (0, 0, .tail off .u64 l e)]⟩⟩
theorem MR43 (ks : ByteArray) (vs : ByteArray) (off : Nat) (n : Nat) (c : Nat) (k : Nat) (w : Int) (j : Int) (l : List Int) (e : TypeId) : MEV boxW mkA mkAt mkOver (codeAt [1, 1, 1, 1, 0, 1, 0, 0, 1, 0, 0, 1, 0] BM) (MS58 boxW ks vs off n c k w j l e) [0, 1, 2, 7, 12, 13, 14] =
  bif (Nat.ble off (off + 0)) then
    bif (Nat.ble (((off + 0) - off) + ((Int.toNat ((k : Nat) : Int)) - 0)) (List.length l)) then
      bif ((decide (0 = 0)) && ((!false) && ((Nat.ble (List.length (List.take ((Int.toNat ((k : Nat) : Int)) - 0) (List.drop ((off + 0) - off) l))) 999) && ((Nat.ble (ByteArray.size ks) 16) && (Nat.ble (ByteArray.size vs) 24))))) then
        some (.normal, (MS59 boxW mkA mkAt mkOver ks vs off n c k l w j e))
      else
        none
    else
      none
  else
    none := by kernel_rfl
noncomputable def MS60 (ks : ByteArray) (vs : ByteArray) (off : Nat) (n : Nat) (c : Nat) (k : Nat) (l : List Int) (w : Int) (j : Int) (e : TypeId) : KSt := ⟨(frameL 139 [(0, (.string ks)), (1, (.string vs)), (2, (.slice (some ⟨0, off, none⟩) n c)), (7, (.pointer (some ⟨1, 0, none⟩))), (12, (.int .i64 ((k : Nat) : Int))), (13, (.pointer (some ⟨2, 0, none⟩))), (14, (.int .u64 (List.getD (List.take ((Int.toNat ((k : Nat) : Int)) - 0) (List.drop ((off + 0) - off) l)) 0 0))), (15, (.int .u64 w)), (16, (.bool true))]), ⟨4, 1, [(3, 0, .ints .u64 (boxW ks vs) 30 true), (2, 0, .cells [(.slice (some ⟨0, (off + 0), none⟩) ((Int.toNat ((k : Nat) : Int)) - 0) (c - 0)), (.int .i64 (mkAt (List.take ((Int.toNat ((k : Nat) : Int)) - 0) (List.drop ((off + 0) - off) l)) (boxW ks vs))), (.bool (mkOver (List.take ((Int.toNat ((k : Nat) : Int)) - 0) (List.drop ((off + 0) - off) l)) (boxW ks vs))), (.int .i64 (mkA (List.take ((Int.toNat ((k : Nat) : Int)) - 0) (List.drop ((off + 0) - off) l)) (boxW ks vs) 0 0)), (.int .u64 (mkA (List.take ((Int.toNat ((k : Nat) : Int)) - 0) (List.drop ((off + 0) - off) l)) (boxW ks vs) 1 0)), (.int .i64 (mkA (List.take ((Int.toNat ((k : Nat) : Int)) - 0) (List.drop ((off + 0) - off) l)) (boxW ks vs) 2 0)), (.int .u64 (mkA (List.take ((Int.toNat ((k : Nat) : Int)) - 0) (List.drop ((off + 0) - off) l)) (boxW ks vs) 3 0)), (.int .u64 (mkA (List.take ((Int.toNat ((k : Nat) : Int)) - 0) (List.drop ((off + 0) - off) l)) (boxW ks vs) 4 0))] 37 true), (1, 0, .cells [(.bool true), (.slice (some ⟨3, 0, none⟩) (List.length (boxW ks vs)) (List.length (boxW ks vs))), (.int .u64 w), (.int .i64 j), (.int .i64 0), (.int .u64 0), (.int .i64 0), (.int .u64 0), (.int .u64 0)] 88 true), (0, 0, .tail off .u64 l e)]⟩⟩
theorem MR44 (ks : ByteArray) (vs : ByteArray) (off : Nat) (n : Nat) (c : Nat) (k : Nat) (l : List Int) (w : Int) (j : Int) (e : TypeId) : MEV boxW mkA mkAt mkOver (codeAt [1, 1, 1, 1, 0, 1, 0, 0, 1, 0, 0, 1, 1, 0] BM) (MS59 boxW mkA mkAt mkOver ks vs off n c k l w j e) [0, 1, 2, 7, 12, 13, 14, 15, 16] =
  some (.normal, (MS60 boxW mkA mkAt mkOver ks vs off n c k l w j e)) := by kernel_rfl
noncomputable def MS61 (ks : ByteArray) (vs : ByteArray) (off : Nat) (n : Nat) (c : Nat) (k : Nat) (l : List Int) (w : Int) (j : Int) (e : TypeId) : KSt := ⟨(frameL 139 [(0, (.string ks)), (1, (.string vs)), (2, (.slice (some ⟨0, off, none⟩) n c)), (7, (.pointer (some ⟨1, 0, none⟩))), (12, (.int .i64 ((k : Nat) : Int))), (13, (.pointer (some ⟨2, 0, none⟩))), (14, (.int .u64 (List.getD (List.take ((Int.toNat ((k : Nat) : Int)) - 0) (List.drop ((off + 0) - off) l)) 0 0))), (15, (.int .u64 w)), (16, (.bool true)), (17, (.pointer (some ⟨3, 0, none⟩))), (18, (.bool false))]), ⟨5, 1, [(4, 0, .ints .u64 (boxW ks vs) 30 true), (3, 0, .cells [(.int .i64 0), (.int .u64 0), (.int .i64 0), (.int .u64 0), (.int .u64 0)] 35 true), (2, 0, .cells [(.slice (some ⟨0, (off + 0), none⟩) ((Int.toNat ((k : Nat) : Int)) - 0) (c - 0)), (.int .i64 (mkAt (List.take ((Int.toNat ((k : Nat) : Int)) - 0) (List.drop ((off + 0) - off) l)) (boxW ks vs))), (.bool (mkOver (List.take ((Int.toNat ((k : Nat) : Int)) - 0) (List.drop ((off + 0) - off) l)) (boxW ks vs))), (.int .i64 (mkA (List.take ((Int.toNat ((k : Nat) : Int)) - 0) (List.drop ((off + 0) - off) l)) (boxW ks vs) 0 0)), (.int .u64 (mkA (List.take ((Int.toNat ((k : Nat) : Int)) - 0) (List.drop ((off + 0) - off) l)) (boxW ks vs) 1 0)), (.int .i64 (mkA (List.take ((Int.toNat ((k : Nat) : Int)) - 0) (List.drop ((off + 0) - off) l)) (boxW ks vs) 2 0)), (.int .u64 (mkA (List.take ((Int.toNat ((k : Nat) : Int)) - 0) (List.drop ((off + 0) - off) l)) (boxW ks vs) 3 0)), (.int .u64 (mkA (List.take ((Int.toNat ((k : Nat) : Int)) - 0) (List.drop ((off + 0) - off) l)) (boxW ks vs) 4 0))] 37 true), (1, 0, .cells [(.bool true), (.slice (some ⟨4, 0, none⟩) (List.length (boxW ks vs)) (List.length (boxW ks vs))), (.int .u64 w), (.int .i64 j), (.int .i64 0), (.int .u64 0), (.int .i64 0), (.int .u64 0), (.int .u64 0)] 88 true), (0, 0, .tail off .u64 l e)]⟩⟩
theorem MR45 (ks : ByteArray) (vs : ByteArray) (off : Nat) (n : Nat) (c : Nat) (k : Nat) (l : List Int) (w : Int) (j : Int) (e : TypeId) : MEV boxW mkA mkAt mkOver (codeAt [1, 1, 1, 1, 0, 1, 0, 0, 1, 0, 0, 1, 1, 1, 0] BM) (MS60 boxW mkA mkAt mkOver ks vs off n c k l w j e) [0, 1, 2, 7, 12, 13, 14, 15, 16, 17, 18] =
  some (.normal, (MS61 boxW mkA mkAt mkOver ks vs off n c k l w j e)) := by kernel_rfl
noncomputable def MS62 (ks : ByteArray) (vs : ByteArray) (off : Nat) (n : Nat) (c : Nat) (k : Nat) (w : Int) (j : Int) (l : List Int) (e : TypeId) : KSt := ⟨(frameL 139 [(0, (.string ks)), (1, (.string vs)), (2, (.slice (some ⟨0, off, none⟩) n c)), (7, (.pointer (some ⟨1, 0, none⟩))), (12, (.int .i64 ((k : Nat) : Int))), (127, (.bool true))]), ⟨3, 1, [(2, 0, .ints .u64 (boxW ks vs) 30 true), (1, 0, .cells [(.bool true), (.slice (some ⟨2, 0, none⟩) (List.length (boxW ks vs)) (List.length (boxW ks vs))), (.int .u64 w), (.int .i64 j), (.int .i64 0), (.int .u64 0), (.int .i64 0), (.int .u64 0), (.int .u64 0)] 88 true), (0, 0, .tail off .u64 l e)]⟩⟩
noncomputable def MS63 (ks : ByteArray) (vs : ByteArray) (off : Nat) (n : Nat) (c : Nat) (k : Nat) (w : Int) (j : Int) (l : List Int) (e : TypeId) : KSt := ⟨(frameL 139 [(0, (.string ks)), (1, (.string vs)), (2, (.slice (some ⟨0, off, none⟩) n c)), (7, (.pointer (some ⟨1, 0, none⟩))), (12, (.int .i64 ((k : Nat) : Int))), (127, (.bool false))]), ⟨3, 1, [(2, 0, .ints .u64 (boxW ks vs) 30 true), (1, 0, .cells [(.bool true), (.slice (some ⟨2, 0, none⟩) (List.length (boxW ks vs)) (List.length (boxW ks vs))), (.int .u64 w), (.int .i64 j), (.int .i64 0), (.int .u64 0), (.int .i64 0), (.int .u64 0), (.int .u64 0)] 88 true), (0, 0, .tail off .u64 l e)]⟩⟩
theorem MR46 (ks : ByteArray) (vs : ByteArray) (off : Nat) (n : Nat) (c : Nat) (k : Nat) (l : List Int) (w : Int) (j : Int) (e : TypeId) : MEV boxW mkA mkAt mkOver (codeAt [1, 1, 1, 1, 0, 1, 0, 0, 1, 0, 0, 1, 1, 1, 1, 0, 0] BM) (MS61 boxW mkA mkAt mkOver ks vs off n c k l w j e) [0, 1, 2, 7, 12, 127] =
  bif (!(false == (mkOver (List.take ((Int.toNat ((k : Nat) : Int)) - 0) (List.drop ((off + 0) - off) l)) (boxW ks vs)))) then
    some (.normal, (MS62 boxW ks vs off n c k w j l e))
  else
    bif (!((0 == (mkA (List.take ((Int.toNat ((k : Nat) : Int)) - 0) (List.drop ((off + 0) - off) l)) (boxW ks vs) 0 0)) && ((0 == (mkA (List.take ((Int.toNat ((k : Nat) : Int)) - 0) (List.drop ((off + 0) - off) l)) (boxW ks vs) 1 0)) && ((0 == (mkA (List.take ((Int.toNat ((k : Nat) : Int)) - 0) (List.drop ((off + 0) - off) l)) (boxW ks vs) 2 0)) && ((0 == (mkA (List.take ((Int.toNat ((k : Nat) : Int)) - 0) (List.drop ((off + 0) - off) l)) (boxW ks vs) 3 0)) && ((0 == (mkA (List.take ((Int.toNat ((k : Nat) : Int)) - 0) (List.drop ((off + 0) - off) l)) (boxW ks vs) 4 0)) && true)))))) then
      some (.normal, (MS62 boxW ks vs off n c k w j l e))
    else
      bif (true == (mkOver (List.take ((Int.toNat ((k : Nat) : Int)) - 0) (List.drop ((off + 0) - off) l)) (boxW ks vs))) then
        some (.normal, (MS62 boxW ks vs off n c k w j l e))
      else
        bif (w != (List.getD (List.take ((Int.toNat ((k : Nat) : Int)) - 0) (List.drop ((off + 0) - off) l)) 0 0)) then
          some (.normal, (MS62 boxW ks vs off n c k w j l e))
        else
          some (.normal, (MS63 boxW ks vs off n c k w j l e)) := by kernel_rfl
theorem MR47 (ks : ByteArray) (vs : ByteArray) (off : Nat) (n : Nat) (c : Nat) (k : Nat) (w : Int) (j : Int) (l : List Int) (e : TypeId) : MEV boxW mkA mkAt mkOver (codeAt [1, 1, 1, 1, 0, 1, 0, 0, 1, 0, 0, 1, 1, 1, 1, 0, 1, 1] BM) (MS63 boxW ks vs off n c k w j l e) [0, 1, 2, 7, 12] =
  some (.normal, (MS55 boxW ks vs off n c k w j l e)) := by kernel_rfl
noncomputable def MS64 (ks : ByteArray) (vs : ByteArray) (off : Nat) (n : Nat) (c : Nat) (k : Nat) (w : Int) (j : Int) (l : List Int) (e : TypeId) : KSt := ⟨(frameL 139 [(0, (.string ks)), (1, (.string vs)), (2, (.slice (some ⟨0, off, none⟩) n c)), (7, (.pointer (some ⟨1, 0, none⟩))), (12, (.int .i64 ((k : Nat) : Int))), (131, (.bool (decide (((k : Nat) : Int) < ((n : Nat) : Int)))))]), ⟨3, 1, [(2, 0, .ints .u64 (boxW ks vs) 30 true), (1, 0, .cells [(.bool true), (.slice (some ⟨2, 0, none⟩) (List.length (boxW ks vs)) (List.length (boxW ks vs))), (.int .u64 w), (.int .i64 j), (.int .i64 0), (.int .u64 0), (.int .i64 0), (.int .u64 0), (.int .u64 0)] 88 true), (0, 0, .tail off .u64 l e)]⟩⟩
theorem MR48 (ks : ByteArray) (vs : ByteArray) (off : Nat) (n : Nat) (c : Nat) (k : Nat) (w : Int) (j : Int) (l : List Int) (e : TypeId) : MEV boxW mkA mkAt mkOver (codeAt [1, 1, 1, 1, 0, 1, 0, 0, 1, 0, 0, 1, 1, 1, 1, 1, 0] BM) (MS55 boxW ks vs off n c k w j l e) [0, 1, 2, 7, 12, 131] =
  some (.normal, (MS64 boxW ks vs off n c k w j l e)) := by kernel_rfl
theorem MR49 (ks : ByteArray) (vs : ByteArray) (off : Nat) (n : Nat) (c : Nat) (k : Nat) (w : Int) (j : Int) (l : List Int) (e : TypeId) : MEV boxW mkA mkAt mkOver (codeAt [1, 1, 1, 1, 0, 1, 0, 0, 1, 0, 0, 1, 1, 1, 1, 1, 1, 1] BM) (MS64 boxW ks vs off n c k w j l e) [0, 1, 2, 7, 12] =
  some (.normal, (MS55 boxW ks vs off n c k w j l e)) := by kernel_rfl
noncomputable def MS65 (ks : ByteArray) (vs : ByteArray) (off : Nat) (n : Nat) (c : Nat) (k : Nat) (w : Int) (j : Int) (l : List Int) (e : TypeId) : KSt := ⟨(frameL 139 [(0, (.string ks)), (1, (.string vs)), (2, (.slice (some ⟨0, off, none⟩) n c)), (7, (.pointer (some ⟨1, 0, none⟩))), (12, (.int .i64 (IntKind.wrap .i64 (((k : Nat) : Int) + 1))))]), ⟨3, 1, [(2, 0, .ints .u64 (boxW ks vs) 30 true), (1, 0, .cells [(.bool true), (.slice (some ⟨2, 0, none⟩) (List.length (boxW ks vs)) (List.length (boxW ks vs))), (.int .u64 w), (.int .i64 j), (.int .i64 0), (.int .u64 0), (.int .i64 0), (.int .u64 0), (.int .u64 0)] 88 true), (0, 0, .tail off .u64 l e)]⟩⟩
theorem MR50 (ks : ByteArray) (vs : ByteArray) (off : Nat) (n : Nat) (c : Nat) (k : Nat) (w : Int) (j : Int) (l : List Int) (e : TypeId) : MEV boxW mkA mkAt mkOver (codeAt [1, 1, 1, 1, 0, 1, 0, 0, 1, 1] BM) (MS55 boxW ks vs off n c k w j l e) [0, 1, 2, 7, 12] =
  some (.normal, (MS65 boxW ks vs off n c k w j l e)) := by kernel_rfl
noncomputable def MS66 (ks : ByteArray) (vs : ByteArray) (off : Nat) (n : Nat) (c : Nat) (k : Nat) (w : Int) (j : Int) (l : List Int) (e : TypeId) : KSt := ⟨(frameL 139 [(0, (.string ks)), (1, (.string vs)), (2, (.slice (some ⟨0, off, none⟩) n c)), (7, (.pointer (some ⟨1, 0, none⟩))), (12, (.int .i64 (((k : Nat) : Int) + 1)))]), ⟨3, 1, [(2, 0, .ints .u64 (boxW ks vs) 30 true), (1, 0, .cells [(.bool true), (.slice (some ⟨2, 0, none⟩) (List.length (boxW ks vs)) (List.length (boxW ks vs))), (.int .u64 w), (.int .i64 j), (.int .i64 0), (.int .u64 0), (.int .i64 0), (.int .u64 0), (.int .u64 0)] 88 true), (0, 0, .tail off .u64 l e)]⟩⟩
theorem MR51 (ks : ByteArray) (vs : ByteArray) (off : Nat) (n : Nat) (c : Nat) (k : Nat) (w : Int) (j : Int) (l : List Int) (e : TypeId) : MEV boxW mkA mkAt mkOver (codeAt [1, 1, 1, 1, 0, 1, 0, 0, 1, 0, 0, 1, 1, 1, 1, 1, 1, 0] BM) (MS64 boxW ks vs off n c k w j l e) [0, 1, 2, 7, 12] =
  if 0 ≤ ((k : Nat) : Int) ∧ ((k : Nat) : Int) < ((n : Nat) : Int) then
    bif (Nat.ble off (off + ((Int.toNat ((k : Nat) : Int)) * 1))) then
      obind (l[((off + ((Int.toNat ((k : Nat) : Int)) * 1)) - off)]?) fun n1 =>
        some (.normal, (MS55 boxW ks vs off n c k w j l e))
    else
      none
  else
    none := by kernel_rfl
noncomputable def MS67 (ks : ByteArray) (vs : ByteArray) (off : Nat) (n : Nat) (c : Nat) (i : Int) (w : Int) (j : Int) (x : Int) (l : List Int) (e : TypeId) : KSt := ⟨(frameL 139 [(0, (.string ks)), (1, (.string vs)), (2, (.slice (some ⟨0, off, none⟩) n c)), (7, (.pointer (some ⟨1, 0, none⟩))), (12, (.int .i64 i))]), ⟨3, 1, [(2, 0, .ints .u64 (boxW ks vs) 30 true), (1, 0, .cells [(.bool true), (.slice (some ⟨2, 0, none⟩) (List.length (boxW ks vs)) (List.length (boxW ks vs))), (.int .u64 w), (.int .i64 j), (.int .i64 2), (.int .u64 w), (.int .i64 j), (.int .u64 0), (.int .u64 x)] 88 true), (0, 0, .tail off .u64 l e)]⟩⟩
noncomputable def MS68 (ks : ByteArray) (vs : ByteArray) (off : Nat) (n : Nat) (c : Nat) (i : Int) (w : Int) (j : Int) (x : Int) (l : List Int) (e : TypeId) : KSt := ⟨(frameL 139 [(0, (.string ks)), (1, (.string vs)), (2, (.slice (some ⟨0, off, none⟩) n c)), (7, (.pointer (some ⟨1, 0, none⟩))), (12, (.int .i64 i)), (68, (.bool (decide (i ≤ ((n : Nat) : Int)))))]), ⟨3, 1, [(2, 0, .ints .u64 (boxW ks vs) 30 true), (1, 0, .cells [(.bool true), (.slice (some ⟨2, 0, none⟩) (List.length (boxW ks vs)) (List.length (boxW ks vs))), (.int .u64 w), (.int .i64 j), (.int .i64 2), (.int .u64 w), (.int .i64 j), (.int .u64 0), (.int .u64 x)] 88 true), (0, 0, .tail off .u64 l e)]⟩⟩
theorem MR52 (ks : ByteArray) (vs : ByteArray) (off : Nat) (n : Nat) (c : Nat) (i : Int) (w : Int) (j : Int) (x : Int) (l : List Int) (e : TypeId) : MEV boxW mkA mkAt mkOver (codeAt [1, 1, 1, 1, 0, 1, 0, 0, 0, 0] BM) (MS67 boxW ks vs off n c i w j x l e) [0, 1, 2, 7, 12, 68] =
  some (.normal, (MS68 boxW ks vs off n c i w j x l e)) := by kernel_rfl
theorem MR53 (ks : ByteArray) (vs : ByteArray) (off : Nat) (n : Nat) (c : Nat) (i : Int) (w : Int) (j : Int) (x : Int) (l : List Int) (e : TypeId) : MEV boxW mkA mkAt mkOver (codeAt [1, 1, 1, 1, 1, 0] BM) (MS68 boxW ks vs off n c i w j x l e) [6] =
  some (.normal, (MS4 off l e)) := by kernel_rfl
noncomputable def MS69 (ks : ByteArray) (vs : ByteArray) (off : Nat) (n : Nat) (c : Nat) (i : Int) (w : Int) (j : Int) (l : List Int) (e : TypeId) : KSt := ⟨(frameL 139 [(0, (.string ks)), (1, (.string vs)), (2, (.slice (some ⟨0, off, none⟩) n c)), (7, (.pointer (some ⟨1, 0, none⟩))), (12, (.int .i64 i))]), ⟨3, 1, [(2, 0, .ints .u64 (boxW ks vs) 30 true), (1, 0, .cells [(.bool true), (.slice (some ⟨2, 0, none⟩) (List.length (boxW ks vs)) (List.length (boxW ks vs))), (.int .u64 w), (.int .i64 j), (.int .i64 0), (.int .u64 0), (.int .i64 0), (.int .u64 0), (.int .u64 0)] 88 true), (0, 0, .tail off .u64 l e)]⟩⟩
noncomputable def MS70 (ks : ByteArray) (vs : ByteArray) (off : Nat) (n : Nat) (c : Nat) (i : Int) (w : Int) (j : Int) (l : List Int) (e : TypeId) : KSt := ⟨(frameL 139 [(0, (.string ks)), (1, (.string vs)), (2, (.slice (some ⟨0, off, none⟩) n c)), (7, (.pointer (some ⟨1, 0, none⟩))), (12, (.int .i64 i)), (68, (.bool (decide (i ≤ ((n : Nat) : Int)))))]), ⟨3, 1, [(2, 0, .ints .u64 (boxW ks vs) 30 true), (1, 0, .cells [(.bool true), (.slice (some ⟨2, 0, none⟩) (List.length (boxW ks vs)) (List.length (boxW ks vs))), (.int .u64 w), (.int .i64 j), (.int .i64 0), (.int .u64 0), (.int .i64 0), (.int .u64 0), (.int .u64 0)] 88 true), (0, 0, .tail off .u64 l e)]⟩⟩
theorem MR54 (ks : ByteArray) (vs : ByteArray) (off : Nat) (n : Nat) (c : Nat) (i : Int) (w : Int) (j : Int) (l : List Int) (e : TypeId) : MEV boxW mkA mkAt mkOver (codeAt [1, 1, 1, 1, 0, 1, 0, 0, 0, 0] BM) (MS69 boxW ks vs off n c i w j l e) [0, 1, 2, 7, 12, 68] =
  some (.normal, (MS70 boxW ks vs off n c i w j l e)) := by kernel_rfl
theorem MR55 (ks : ByteArray) (vs : ByteArray) (off : Nat) (n : Nat) (c : Nat) (i : Int) (w : Int) (j : Int) (l : List Int) (e : TypeId) : MEV boxW mkA mkAt mkOver (codeAt [1, 1, 1, 1, 1, 0] BM) (MS70 boxW ks vs off n c i w j l e) [6] =
  some (.normal, (MS4 off l e)) := by kernel_rfl
end
theorem Mgn {n : Nat} {off : Nat} {l : List Int} {e : TypeId} {ks : ByteArray} {vs : ByteArray} {c : Nat} (hn : 20 < n)   {Q : Ex → St → Prop} (hq : Q .ret (KSt.low (MS4 off l e))) : Gets Try.prog (KH.low ⟨1, 1, [(0, 0, .tail off .u64 l e)]⟩) BM (KSt.low (MS0 ks vs off n c l e)) Q := by
  rw [MC]; refine Gets.seq ?_
  refine Mgo (MR1 boxW mkA mkAt mkOver ks vs off n c l e) ?_
  rw [MC1]; refine Gets.seq ?_
  rw [MC1_0]; refine Gets.seq ?_
  refine Mgo (x := .normal) (s' := (MS2 ks vs off n c l e)) ((MR2 boxW mkA mkAt mkOver ks vs off n c l e).trans (by rw [condT (decide_eq_true (by omega))])) ?_
  rw [MC1_0_1]; refine Gets.cond true (by kernel_rfl) (by kernel_rfl) ?_; show Gets _ _ (codeAt [1, 0, 1, 0] BM) _ _
  rw [MC1_0_1_0]; refine Gets.seq ?_
  refine Mgo (MR3 boxW mkA mkAt mkOver ks vs off n c l e) ?_
  rw [MC1_0_1_0_1]; refine Gets.ev fitA7.mix fitA7.cfg (fitA7.sound wma_sound 14 0) 14 rfl (s' := KSt.low (MS4 off l e)) (x := .ret) rfl ?_
  exact hq
theorem Mgk {n : Nat} {ks : ByteArray} {off : Nat} {l : List Int} {e : TypeId} {vs : ByteArray} {c : Nat} (hn20 : n ≤ 20) (hk : 1000 < ks.size)   {Q : Ex → St → Prop} (hq : Q .ret (KSt.low (MS4 off l e))) : Gets Try.prog (KH.low ⟨1, 1, [(0, 0, .tail off .u64 l e)]⟩) BM (KSt.low (MS0 ks vs off n c l e)) Q := by
  rw [MC]; refine Gets.seq ?_
  refine Mgo (MR1 boxW mkA mkAt mkOver ks vs off n c l e) ?_
  rw [MC1]; refine Gets.seq ?_
  rw [MC1_0]; refine Gets.seq ?_
  refine Mgo (x := .normal) (s' := (MS2 ks vs off n c l e)) ((MR2 boxW mkA mkAt mkOver ks vs off n c l e).trans (by rw [condF (decide_eq_false (by omega)), condT (decide_eq_true (by omega))])) ?_
  rw [MC1_0_1]; refine Gets.cond true (by kernel_rfl) (by kernel_rfl) ?_; show Gets _ _ (codeAt [1, 0, 1, 0] BM) _ _
  rw [MC1_0_1_0]; refine Gets.seq ?_
  refine Mgo (MR3 boxW mkA mkAt mkOver ks vs off n c l e) ?_
  rw [MC1_0_1_0_1]; refine Gets.ev fitA7.mix fitA7.cfg (fitA7.sound wma_sound 14 0) 14 rfl (s' := KSt.low (MS4 off l e)) (x := .ret) rfl ?_
  exact hq
theorem Mgv {n : Nat} {ks : ByteArray} {vs : ByteArray} {off : Nat} {l : List Int} {e : TypeId} {c : Nat} (hn20 : n ≤ 20) (hk : ks.size ≤ 1000) (hv : 1000 < vs.size)   {Q : Ex → St → Prop} (hq : Q .ret (KSt.low (MS4 off l e))) : Gets Try.prog (KH.low ⟨1, 1, [(0, 0, .tail off .u64 l e)]⟩) BM (KSt.low (MS0 ks vs off n c l e)) Q := by
  rw [MC]; refine Gets.seq ?_
  refine Mgo (MR1 boxW mkA mkAt mkOver ks vs off n c l e) ?_
  rw [MC1]; refine Gets.seq ?_
  rw [MC1_0]; refine Gets.seq ?_
  refine Mgo (x := .normal) (s' := (MS3 ks vs off n c l e)) ((MR2 boxW mkA mkAt mkOver ks vs off n c l e).trans (by rw [condF (decide_eq_false (by omega)), condF (decide_eq_false (by omega))])) ?_
  rw [MC1_0_1]; refine Gets.cond true (by kernel_rfl) (MeX (b := (decide ((((ByteArray.size vs) : Nat) : Int) > 1000))) (by kernel_rfl) ((show (decide ((((ByteArray.size vs) : Nat) : Int) > 1000)) = true from decide_eq_true (by omega)))) ?_; show Gets _ _ (codeAt [1, 0, 1, 0] BM) _ _
  rw [MC1_0_1_0]; refine Gets.seq ?_
  refine Mgo (MR4 boxW mkA mkAt mkOver ks vs off n c l e) ?_
  rw [MC1_0_1_0_1]; refine Gets.ev fitA7.mix fitA7.cfg (fitA7.sound wma_sound 14 0) 14 rfl (s' := KSt.low (MS4 off l e)) (x := .ret) rfl ?_
  exact hq
theorem Mpre {n : Nat} {ks : ByteArray} {vs : ByteArray} {off : Nat} {l : List Int} {e : TypeId} {c : Nat} (hn20 : n ≤ 20) (hk : ks.size ≤ 1000) (hv : vs.size ≤ 1000) (h16 : ks.size ≤ 16) (h24 : vs.size ≤ 24)   {Q : Ex → St → Prop} (hq : Gets Try.prog (KH.low ⟨1, 1, [(0, 0, .tail off .u64 l e)]⟩) (codeAt [1, 1, 1, 1, 0, 1] BM) (KSt.low (MS8 boxW ks vs off n c l e)) (onN (fun s => Gets Try.prog (KH.low ⟨1, 1, [(0, 0, .tail off .u64 l e)]⟩) (codeAt [1, 1, 1, 1, 1] BM) s (Q)) (Q))) : Gets Try.prog (KH.low ⟨1, 1, [(0, 0, .tail off .u64 l e)]⟩) BM (KSt.low (MS0 ks vs off n c l e)) Q := by
  rw [MC]; refine Gets.seq ?_
  refine Mgo (MR1 boxW mkA mkAt mkOver ks vs off n c l e) ?_
  rw [MC1]; refine Gets.seq ?_
  rw [MC1_0]; refine Gets.seq ?_
  refine Mgo (x := .normal) (s' := (MS3 ks vs off n c l e)) ((MR2 boxW mkA mkAt mkOver ks vs off n c l e).trans (by rw [condF (decide_eq_false (by omega)), condF (decide_eq_false (by omega))])) ?_
  rw [MC1_0_1]; refine Gets.cond false (by kernel_rfl) (MeX (b := (decide ((((ByteArray.size vs) : Nat) : Int) > 1000))) (by kernel_rfl) ((show (decide ((((ByteArray.size vs) : Nat) : Int) > 1000)) = false from decide_eq_false (by omega)))) ?_; show Gets _ _ (codeAt [1, 0, 1, 1] BM) _ _
  refine Mgo (MR5 boxW mkA mkAt mkOver ks vs off n c l e) ?_
  rw [MC1_1]; refine Gets.seq ?_
  refine Mgo (x := .normal) (s' := (MS5 boxW ks vs off n c l e)) ((MR6 boxW mkA mkAt mkOver ks vs off n c l e).trans (by rw [condT (and_t (Nat.ble_eq_true_of_le h16) (Nat.ble_eq_true_of_le h24))])) ?_
  rw [MC1_1_1]; refine Gets.seq ?_
  rw [MC1_1_1_0]; refine Gets.seq ?_
  refine Mgo (x := .normal) (s' := (MS7 boxW ks vs off n c l e)) ((MR7 boxW mkA mkAt mkOver ks vs off n c l e).trans (by rw [condF (decide_eq_false (by omega))])) ?_
  rw [MC1_1_1_0_1]; refine Gets.cond false (by kernel_rfl) (MeX (b := (decide ((((ByteArray.size vs) : Nat) : Int) > 24))) (by kernel_rfl) ((show (decide ((((ByteArray.size vs) : Nat) : Int) > 24)) = false from decide_eq_false (by omega)))) ?_; show Gets _ _ (codeAt [1, 1, 1, 0, 1, 1] BM) _ _
  refine Mgo (MR8 boxW mkA mkAt mkOver ks vs off n c l e) ?_
  rw [MC1_1_1_1]; refine Gets.seq ?_
  rw [MC1_1_1_1_0]; refine Gets.seq ?_
  refine Mgo (MR9 boxW mkA mkAt mkOver ks vs off n c l e) ?_
  exact hq
theorem Mz0 {ks : ByteArray} {vs : ByteArray} {n : Nat} {c : Nat} {l : List Int} {off : Nat} {e : TypeId} (h16 : ks.size ≤ 16) (h24 : vs.size ≤ 24) (hn20 : n ≤ 20) (hc : n ≤ c) (hc0 : 0 < c) (hl : l.length = c) (hM1 : 1 ≤ (boxW ks vs).length) (hM6 : (boxW ks vs).length ≤ 6) (hin : n = 0) (hov : mkOver (List.take 0 (List.drop ((off + 0) - off) l)) (boxW ks vs) = true) (a0 : ∀ y, mkA (List.take 0 (List.drop ((off + 0) - off) l)) (boxW ks vs) 0 y = 5) (a1 : ∀ y, mkA (List.take 0 (List.drop ((off + 0) - off) l)) (boxW ks vs) 1 y = 0) (a2 : ∀ y, mkA (List.take 0 (List.drop ((off + 0) - off) l)) (boxW ks vs) 2 y = (((List.length (boxW ks vs)) : Nat) : Int)) (a3 : ∀ y, mkA (List.take 0 (List.drop ((off + 0) - off) l)) (boxW ks vs) 3 y = 0) (a4 : ∀ y, mkA (List.take 0 (List.drop ((off + 0) - off) l)) (boxW ks vs) 4 y = 0)   {Q : Ex → St → Prop} (hq : Q .normal (KSt.low (MS20 boxW ks vs off n c l e))) : Gets Try.prog (KH.low ⟨1, 1, [(0, 0, .tail off .u64 l e)]⟩) (codeAt [1, 1, 1, 1, 0, 1, 0, 0] BM) (KSt.low (MS8 boxW ks vs off n c l e)) Q := by
  rw [MC1_1_1_1_0_1_0_0]; refine Gets.seq ?_
  rw [MC1_1_1_1_0_1_0_0_0]; refine Gets.seq ?_
  refine Mgo (MR10 boxW mkA mkAt mkOver ks vs off n c l e) ?_
  rw [MC1_1_1_1_0_1_0_0_0_1]; refine Gets.cond true (by kernel_rfl) (MeX (b := (decide (0 ≤ ((n : Nat) : Int)))) (by kernel_rfl) ((show (decide (0 ≤ ((n : Nat) : Int))) = true from decide_eq_true (by omega)))) ?_; show Gets _ _ (codeAt [1, 1, 1, 1, 0, 1, 0, 0, 0, 1, 0] BM) _ _
  refine Mgo (MR11 boxW mkA mkAt mkOver ks vs off n c l e) ?_
  rw [MC1_1_1_1_0_1_0_0_1]; refine Gets.seq ?_
  rw [MC1_1_1_1_0_1_0_0_1_0]; refine Gets.block ?_
  rw [MC1_1_1_1_0_1_0_0_1_0_0]; refine Gets.seq ?_
  refine Mgo (x := .normal) (s' := (MS11 boxW ks vs off n c l e)) ((MR12 boxW mkA mkAt mkOver ks vs off n c l e).trans (by rw [if_pos (⟨by omega, by omega⟩), condT (and_t (rfl) (ble_t (by omega))), condF (nbeq_f (by omega))])) ?_
  rw [MC1_1_1_1_0_1_0_0_1_0_0_1]; refine Gets.seq ?_
  refine Mgo (x := .normal) (s' := (MS12 boxW mkA mkAt mkOver ks vs off n c l e)) ((MR13 boxW mkA mkAt mkOver ks vs off n c l e).trans (by rw [condT (ble_t (by omega)), condT (ble_t (by (first | omega | ((try simp (disch := omega) only [wrap_i64_id]) <;> omega)))), condT (and_t (decide_eq_true (by omega)) (and_t (not_t (rfl)) (and_t (Nat.ble_eq_true_of_le (by simp <;> omega)) (and_t (Nat.ble_eq_true_of_le h16) (Nat.ble_eq_true_of_le h24)))))])) ?_
  rw [MC1_1_1_1_0_1_0_0_1_0_0_1_1]; refine Gets.seq ?_
  refine Mgo (x := .normal) (s' := (MS13 boxW mkA mkAt mkOver ks vs off n c l e)) ((MR14 boxW mkA mkAt mkOver ks vs off n c l e).trans (by rw [condT (not_t (and_f1 (rfl)))])) ?_
  rw [MC1_1_1_1_0_1_0_0_1_0_0_1_1_1]; refine Gets.seq ?_
  refine Mgo (x := .normal) (s' := (MS16 boxW mkA mkAt mkOver ks vs off n c l e)) ((MR15 boxW mkA mkAt mkOver ks vs off n c l e).trans (by rw [condF (and_f1 (rfl)), condT (and_t (rfl) (and_t (rfl) (and_t (beq_self_eq_true _) (rfl)))), condF (not_f (decide_eq_true (by (first | omega | ((try simp (disch := omega) only [wrap_i64_id]) <;> omega)))))])) ?_
  rw [MC1_1_1_1_0_1_0_0_1_0_0_1_1_1_1]; refine Gets.seq ?_
  rw [MC1_1_1_1_0_1_0_0_1_0_0_1_1_1_1_0]; refine Gets.seq ?_
  refine Mgo (x := .normal) (s' := (MS18 boxW ks vs off n c l e)) ((MR16 boxW mkA mkAt mkOver ks vs off n c l e).trans (by rw [condF (not_f (by rw [hov]; rfl)), condF (not_f (and_t (by rw [a0]; exact beq_self_eq_true _) (and_t (by rw [a1]; exact beq_self_eq_true _) (and_t (by rw [a2]; exact beq_self_eq_true _) (and_t (by rw [a3]; exact beq_self_eq_true _) (and_t (by rw [a4]; exact beq_self_eq_true _) (rfl))))))), condF (by rw [hov]; rfl)])) ?_
  rw [MC1_1_1_1_0_1_0_0_1_0_0_1_1_1_1_0_1]; refine Gets.cond false (by kernel_rfl) (by kernel_rfl) ?_; show Gets _ _ (codeAt [1, 1, 1, 1, 0, 1, 0, 0, 1, 0, 0, 1, 1, 1, 1, 0, 1, 1] BM) _ _
  refine Mgo (MR17 boxW mkA mkAt mkOver ks vs off n c l e) ?_
  rw [MC1_1_1_1_0_1_0_0_1_0_0_1_1_1_1_1]; refine Gets.seq ?_
  refine Mgo (MR18 boxW mkA mkAt mkOver ks vs off n c l e) ?_
  rw [MC1_1_1_1_0_1_0_0_1_0_0_1_1_1_1_1_1]; refine Gets.cond false (by kernel_rfl) (MeX (b := (decide (0 < ((n : Nat) : Int)))) (by kernel_rfl) ((show (decide (0 < ((n : Nat) : Int))) = false from decide_eq_false (by omega)))) ?_; show Gets _ _ (codeAt [1, 1, 1, 1, 0, 1, 0, 0, 1, 0, 0, 1, 1, 1, 1, 1, 1, 1] BM) _ _
  refine Mgo (MR19 boxW mkA mkAt mkOver ks vs off n c l e) ?_
  refine Mgo (MR20 boxW mkA mkAt mkOver ks vs off n c l e) ?_
  exact hq
theorem MxS {n : Nat} {ks : ByteArray} {vs : ByteArray} {off : Nat} {c : Nat} {l : List Int} {e : TypeId} (hx : n = 0)   {Q : Ex → St → Prop} (hq : Q (.exit 0) (KSt.low (MS21 boxW ks vs off n c l e))) : Gets Try.prog (KH.low ⟨1, 1, [(0, 0, .tail off .u64 l e)]⟩) (codeAt [1, 1, 1, 1, 0, 1, 0, 0] BM) (KSt.low (MS20 boxW ks vs off n c l e)) Q := by
  rw [MC1_1_1_1_0_1_0_0]; refine Gets.seq ?_
  rw [MC1_1_1_1_0_1_0_0_0]; refine Gets.seq ?_
  refine Mgo (MR21 boxW mkA mkAt mkOver ks vs off n c l e) ?_
  rw [MC1_1_1_1_0_1_0_0_0_1]; refine Gets.cond false (by kernel_rfl) (MeX (b := (decide (1 ≤ ((n : Nat) : Int)))) (by kernel_rfl) ((show (decide (1 ≤ ((n : Nat) : Int))) = false from decide_eq_false (by omega)))) ?_; show Gets _ _ (codeAt [1, 1, 1, 1, 0, 1, 0, 0, 0, 1, 1] BM) _ _
  rw [MC1_1_1_1_0_1_0_0_0_1_1]; refine Gets.ev fitA7.mix fitA7.cfg (fitA7.sound wma_sound 14 0) 14 rfl (s' := KSt.low (MS21 boxW ks vs off n c l e)) (x := (.exit 0)) rfl ?_
  exact hq
theorem MfS {off : Nat} {l : List Int} {e : TypeId} {ks : ByteArray} {vs : ByteArray} {n : Nat} {c : Nat}   {Q : Ex → St → Prop} (hq : Q .ret (KSt.low (MS4 off l e))) : Gets Try.prog (KH.low ⟨1, 1, [(0, 0, .tail off .u64 l e)]⟩) (codeAt [1, 1, 1, 1, 1] BM) (KSt.low (MS21 boxW ks vs off n c l e)) Q := by
  rw [MC1_1_1_1_1]; refine Gets.seq ?_
  refine Mgo (MR22 boxW mkA mkAt mkOver ks vs off n c l e) ?_
  rw [MC1_1_1_1_1_1]; refine Gets.ev fitA7.mix fitA7.cfg (fitA7.sound wma_sound 14 0) 14 rfl (s' := KSt.low (MS4 off l e)) (x := .ret) rfl ?_
  exact hq
theorem Mzd {ks : ByteArray} {vs : ByteArray} {n : Nat} {c : Nat} {l : List Int} {off : Nat} {e : TypeId} (h16 : ks.size ≤ 16) (h24 : vs.size ≤ 24) (hn20 : n ≤ 20) (hc : n ≤ c) (hc0 : 0 < c) (hl : l.length = c) (hM1 : 1 ≤ (boxW ks vs).length) (hM6 : (boxW ks vs).length ≤ 6) (hin : 0 < n) (hz : l.getD 0 0 = 0) (hov : mkOver (List.take 0 (List.drop ((off + 0) - off) l)) (boxW ks vs) = true) (a0 : ∀ y, mkA (List.take 0 (List.drop ((off + 0) - off) l)) (boxW ks vs) 0 y = 5) (a1 : ∀ y, mkA (List.take 0 (List.drop ((off + 0) - off) l)) (boxW ks vs) 1 y = 0) (a2 : ∀ y, mkA (List.take 0 (List.drop ((off + 0) - off) l)) (boxW ks vs) 2 y = (((List.length (boxW ks vs)) : Nat) : Int)) (a3 : ∀ y, mkA (List.take 0 (List.drop ((off + 0) - off) l)) (boxW ks vs) 3 y = 0) (a4 : ∀ y, mkA (List.take 0 (List.drop ((off + 0) - off) l)) (boxW ks vs) 4 y = 0)   {Q : Ex → St → Prop} (hq : Q .normal (KSt.low (MS26 boxW ks vs off n c l e))) : Gets Try.prog (KH.low ⟨1, 1, [(0, 0, .tail off .u64 l e)]⟩) (codeAt [1, 1, 1, 1, 0, 1, 0, 0] BM) (KSt.low (MS8 boxW ks vs off n c l e)) Q := by
  rw [MC1_1_1_1_0_1_0_0]; refine Gets.seq ?_
  rw [MC1_1_1_1_0_1_0_0_0]; refine Gets.seq ?_
  refine Mgo (MR10 boxW mkA mkAt mkOver ks vs off n c l e) ?_
  rw [MC1_1_1_1_0_1_0_0_0_1]; refine Gets.cond true (by kernel_rfl) (MeX (b := (decide (0 ≤ ((n : Nat) : Int)))) (by kernel_rfl) ((show (decide (0 ≤ ((n : Nat) : Int))) = true from decide_eq_true (by omega)))) ?_; show Gets _ _ (codeAt [1, 1, 1, 1, 0, 1, 0, 0, 0, 1, 0] BM) _ _
  refine Mgo (MR11 boxW mkA mkAt mkOver ks vs off n c l e) ?_
  rw [MC1_1_1_1_0_1_0_0_1]; refine Gets.seq ?_
  rw [MC1_1_1_1_0_1_0_0_1_0]; refine Gets.block ?_
  rw [MC1_1_1_1_0_1_0_0_1_0_0]; refine Gets.seq ?_
  refine Mgo (x := .normal) (s' := (MS11 boxW ks vs off n c l e)) ((MR12 boxW mkA mkAt mkOver ks vs off n c l e).trans (by rw [if_pos (⟨by omega, by omega⟩), condT (and_t (rfl) (ble_t (by omega))), condF (nbeq_f (by omega))])) ?_
  rw [MC1_1_1_1_0_1_0_0_1_0_0_1]; refine Gets.seq ?_
  refine Mgo (x := .normal) (s' := (MS12 boxW mkA mkAt mkOver ks vs off n c l e)) ((MR13 boxW mkA mkAt mkOver ks vs off n c l e).trans (by rw [condT (ble_t (by omega)), condT (ble_t (by (first | omega | ((try simp (disch := omega) only [wrap_i64_id]) <;> omega)))), condT (and_t (decide_eq_true (by omega)) (and_t (not_t (rfl)) (and_t (Nat.ble_eq_true_of_le (by simp <;> omega)) (and_t (Nat.ble_eq_true_of_le h16) (Nat.ble_eq_true_of_le h24)))))])) ?_
  rw [MC1_1_1_1_0_1_0_0_1_0_0_1_1]; refine Gets.seq ?_
  refine Mgo (x := .normal) (s' := (MS13 boxW mkA mkAt mkOver ks vs off n c l e)) ((MR14 boxW mkA mkAt mkOver ks vs off n c l e).trans (by rw [condT (not_t (and_f1 (rfl)))])) ?_
  rw [MC1_1_1_1_0_1_0_0_1_0_0_1_1_1]; refine Gets.seq ?_
  refine Mgo (x := .normal) (s' := (MS16 boxW mkA mkAt mkOver ks vs off n c l e)) ((MR15 boxW mkA mkAt mkOver ks vs off n c l e).trans (by rw [condF (and_f1 (rfl)), condT (and_t (rfl) (and_t (rfl) (and_t (beq_self_eq_true _) (rfl)))), condF (not_f (decide_eq_true (by (first | omega | ((try simp (disch := omega) only [wrap_i64_id]) <;> omega)))))])) ?_
  rw [MC1_1_1_1_0_1_0_0_1_0_0_1_1_1_1]; refine Gets.seq ?_
  rw [MC1_1_1_1_0_1_0_0_1_0_0_1_1_1_1_0]; refine Gets.seq ?_
  refine Mgo (x := .normal) (s' := (MS18 boxW ks vs off n c l e)) ((MR16 boxW mkA mkAt mkOver ks vs off n c l e).trans (by rw [condF (not_f (by rw [hov]; rfl)), condF (not_f (and_t (by rw [a0]; exact beq_self_eq_true _) (and_t (by rw [a1]; exact beq_self_eq_true _) (and_t (by rw [a2]; exact beq_self_eq_true _) (and_t (by rw [a3]; exact beq_self_eq_true _) (and_t (by rw [a4]; exact beq_self_eq_true _) (rfl))))))), condF (by rw [hov]; rfl)])) ?_
  rw [MC1_1_1_1_0_1_0_0_1_0_0_1_1_1_1_0_1]; refine Gets.cond false (by kernel_rfl) (by kernel_rfl) ?_; show Gets _ _ (codeAt [1, 1, 1, 1, 0, 1, 0, 0, 1, 0, 0, 1, 1, 1, 1, 0, 1, 1] BM) _ _
  refine Mgo (MR17 boxW mkA mkAt mkOver ks vs off n c l e) ?_
  rw [MC1_1_1_1_0_1_0_0_1_0_0_1_1_1_1_1]; refine Gets.seq ?_
  refine Mgo (MR18 boxW mkA mkAt mkOver ks vs off n c l e) ?_
  rw [MC1_1_1_1_0_1_0_0_1_0_0_1_1_1_1_1_1]; refine Gets.cond true (by kernel_rfl) (MeX (b := (decide (0 < ((n : Nat) : Int)))) (by kernel_rfl) ((show (decide (0 < ((n : Nat) : Int))) = true from decide_eq_true (by omega)))) ?_; show Gets _ _ (codeAt [1, 1, 1, 1, 0, 1, 0, 0, 1, 0, 0, 1, 1, 1, 1, 1, 1, 0] BM) _ _
  refine Mgo (x := .normal) (s' := (MS25 boxW ks vs off n c l e)) ((MR23 boxW mkA mkAt mkOver ks vs off n c l e).trans (by rw [if_pos (⟨by omega, by omega⟩), condT (ble_t (by omega)), obind_at (k := 0) (by omega) (by omega), condF (and_f1 (rfl)), condT (and_t (rfl) (and_t (rfl) (and_t (beq_self_eq_true _) (rfl)))), condF (not_f (decide_eq_true (by (first | omega | ((try simp (disch := omega) only [wrap_i64_id]) <;> omega))))), condT (ibeq_t (by omega))] <;> rfl)) ?_
  refine Mgo (MR24 boxW mkA mkAt mkOver ks vs off n c l e) ?_
  exact hq
theorem Mzs {ks : ByteArray} {vs : ByteArray} {n : Nat} {c : Nat} {l : List Int} {off : Nat} {e : TypeId} (h16 : ks.size ≤ 16) (h24 : vs.size ≤ 24) (hn20 : n ≤ 20) (hc : n ≤ c) (hc0 : 0 < c) (hl : l.length = c) (hM1 : 1 ≤ (boxW ks vs).length) (hM6 : (boxW ks vs).length ≤ 6) (hin : 0 < n) (hz : l.getD 0 0 ≠ 0) (hov : mkOver (List.take 0 (List.drop ((off + 0) - off) l)) (boxW ks vs) = true) (a0 : ∀ y, mkA (List.take 0 (List.drop ((off + 0) - off) l)) (boxW ks vs) 0 y = 5) (a1 : ∀ y, mkA (List.take 0 (List.drop ((off + 0) - off) l)) (boxW ks vs) 1 y = 0) (a2 : ∀ y, mkA (List.take 0 (List.drop ((off + 0) - off) l)) (boxW ks vs) 2 y = (((List.length (boxW ks vs)) : Nat) : Int)) (a3 : ∀ y, mkA (List.take 0 (List.drop ((off + 0) - off) l)) (boxW ks vs) 3 y = 0) (a4 : ∀ y, mkA (List.take 0 (List.drop ((off + 0) - off) l)) (boxW ks vs) 4 y = 0)   {Q : Ex → St → Prop} (hq : Q .normal (KSt.low (MS28 boxW ks vs off n c l e))) : Gets Try.prog (KH.low ⟨1, 1, [(0, 0, .tail off .u64 l e)]⟩) (codeAt [1, 1, 1, 1, 0, 1, 0, 0] BM) (KSt.low (MS8 boxW ks vs off n c l e)) Q := by
  rw [MC1_1_1_1_0_1_0_0]; refine Gets.seq ?_
  rw [MC1_1_1_1_0_1_0_0_0]; refine Gets.seq ?_
  refine Mgo (MR10 boxW mkA mkAt mkOver ks vs off n c l e) ?_
  rw [MC1_1_1_1_0_1_0_0_0_1]; refine Gets.cond true (by kernel_rfl) (MeX (b := (decide (0 ≤ ((n : Nat) : Int)))) (by kernel_rfl) ((show (decide (0 ≤ ((n : Nat) : Int))) = true from decide_eq_true (by omega)))) ?_; show Gets _ _ (codeAt [1, 1, 1, 1, 0, 1, 0, 0, 0, 1, 0] BM) _ _
  refine Mgo (MR11 boxW mkA mkAt mkOver ks vs off n c l e) ?_
  rw [MC1_1_1_1_0_1_0_0_1]; refine Gets.seq ?_
  rw [MC1_1_1_1_0_1_0_0_1_0]; refine Gets.block ?_
  rw [MC1_1_1_1_0_1_0_0_1_0_0]; refine Gets.seq ?_
  refine Mgo (x := .normal) (s' := (MS11 boxW ks vs off n c l e)) ((MR12 boxW mkA mkAt mkOver ks vs off n c l e).trans (by rw [if_pos (⟨by omega, by omega⟩), condT (and_t (rfl) (ble_t (by omega))), condF (nbeq_f (by omega))])) ?_
  rw [MC1_1_1_1_0_1_0_0_1_0_0_1]; refine Gets.seq ?_
  refine Mgo (x := .normal) (s' := (MS12 boxW mkA mkAt mkOver ks vs off n c l e)) ((MR13 boxW mkA mkAt mkOver ks vs off n c l e).trans (by rw [condT (ble_t (by omega)), condT (ble_t (by (first | omega | ((try simp (disch := omega) only [wrap_i64_id]) <;> omega)))), condT (and_t (decide_eq_true (by omega)) (and_t (not_t (rfl)) (and_t (Nat.ble_eq_true_of_le (by simp <;> omega)) (and_t (Nat.ble_eq_true_of_le h16) (Nat.ble_eq_true_of_le h24)))))])) ?_
  rw [MC1_1_1_1_0_1_0_0_1_0_0_1_1]; refine Gets.seq ?_
  refine Mgo (x := .normal) (s' := (MS13 boxW mkA mkAt mkOver ks vs off n c l e)) ((MR14 boxW mkA mkAt mkOver ks vs off n c l e).trans (by rw [condT (not_t (and_f1 (rfl)))])) ?_
  rw [MC1_1_1_1_0_1_0_0_1_0_0_1_1_1]; refine Gets.seq ?_
  refine Mgo (x := .normal) (s' := (MS16 boxW mkA mkAt mkOver ks vs off n c l e)) ((MR15 boxW mkA mkAt mkOver ks vs off n c l e).trans (by rw [condF (and_f1 (rfl)), condT (and_t (rfl) (and_t (rfl) (and_t (beq_self_eq_true _) (rfl)))), condF (not_f (decide_eq_true (by (first | omega | ((try simp (disch := omega) only [wrap_i64_id]) <;> omega)))))])) ?_
  rw [MC1_1_1_1_0_1_0_0_1_0_0_1_1_1_1]; refine Gets.seq ?_
  rw [MC1_1_1_1_0_1_0_0_1_0_0_1_1_1_1_0]; refine Gets.seq ?_
  refine Mgo (x := .normal) (s' := (MS18 boxW ks vs off n c l e)) ((MR16 boxW mkA mkAt mkOver ks vs off n c l e).trans (by rw [condF (not_f (by rw [hov]; rfl)), condF (not_f (and_t (by rw [a0]; exact beq_self_eq_true _) (and_t (by rw [a1]; exact beq_self_eq_true _) (and_t (by rw [a2]; exact beq_self_eq_true _) (and_t (by rw [a3]; exact beq_self_eq_true _) (and_t (by rw [a4]; exact beq_self_eq_true _) (rfl))))))), condF (by rw [hov]; rfl)])) ?_
  rw [MC1_1_1_1_0_1_0_0_1_0_0_1_1_1_1_0_1]; refine Gets.cond false (by kernel_rfl) (by kernel_rfl) ?_; show Gets _ _ (codeAt [1, 1, 1, 1, 0, 1, 0, 0, 1, 0, 0, 1, 1, 1, 1, 0, 1, 1] BM) _ _
  refine Mgo (MR17 boxW mkA mkAt mkOver ks vs off n c l e) ?_
  rw [MC1_1_1_1_0_1_0_0_1_0_0_1_1_1_1_1]; refine Gets.seq ?_
  refine Mgo (MR18 boxW mkA mkAt mkOver ks vs off n c l e) ?_
  rw [MC1_1_1_1_0_1_0_0_1_0_0_1_1_1_1_1_1]; refine Gets.cond true (by kernel_rfl) (MeX (b := (decide (0 < ((n : Nat) : Int)))) (by kernel_rfl) ((show (decide (0 < ((n : Nat) : Int))) = true from decide_eq_true (by omega)))) ?_; show Gets _ _ (codeAt [1, 1, 1, 1, 0, 1, 0, 0, 1, 0, 0, 1, 1, 1, 1, 1, 1, 0] BM) _ _
  refine Mgo (x := .normal) (s' := (MS27 boxW ks vs off n c l e)) ((MR23 boxW mkA mkAt mkOver ks vs off n c l e).trans (by rw [if_pos (⟨by omega, by omega⟩), condT (ble_t (by omega)), obind_at (k := 0) (by omega) (by omega), condF (and_f1 (rfl)), condT (and_t (rfl) (and_t (rfl) (and_t (beq_self_eq_true _) (rfl)))), condF (not_f (decide_eq_true (by (first | omega | ((try simp (disch := omega) only [wrap_i64_id]) <;> omega))))), condF (ibeq_f (by omega)), condF (ibeq_f (by (first | omega | ((try simp (disch := omega) only [wrap_i64_id]) <;> omega)))), if_pos (⟨by (first | omega | ((try simp (disch := omega) only [wrap_i64_id]) <;> omega)), by (first | omega | ((try simp (disch := omega) only [wrap_i64_id]) <;> omega))⟩), obind_at (k := 0) (by omega) (by omega)] <;> rfl)) ?_
  refine Mgo (MR25 boxW mkA mkAt mkOver ks vs off n c l e) ?_
  exact hq
theorem Mp0 {ks : ByteArray} {vs : ByteArray} {n : Nat} {c : Nat} {l : List Int} {j : Int} {k : Nat} {off : Nat} {w : Int} {x : Int} {e : TypeId} (h16 : ks.size ≤ 16) (h24 : vs.size ≤ 24) (hn20 : n ≤ 20) (hc : n ≤ c) (hc0 : 0 < c) (hl : l.length = c) (hM1 : 1 ≤ (boxW ks vs).length) (hM6 : (boxW ks vs).length ≤ 6) (hj : 0 ≤ j) (hjk : j + 1 = (k : Int)) (hjM : j < (((List.length (boxW ks vs)) : Nat) : Int)) (hin : k = n) (hov : mkOver (List.take ((Int.toNat ((k : Nat) : Int)) - 0) (List.drop ((off + 0) - off) l)) (boxW ks vs) = true) (a0 : ∀ y, mkA (List.take ((Int.toNat ((k : Nat) : Int)) - 0) (List.drop ((off + 0) - off) l)) (boxW ks vs) 0 y = 2) (a1 : ∀ y, mkA (List.take ((Int.toNat ((k : Nat) : Int)) - 0) (List.drop ((off + 0) - off) l)) (boxW ks vs) 1 y = w) (a2 : ∀ y, mkA (List.take ((Int.toNat ((k : Nat) : Int)) - 0) (List.drop ((off + 0) - off) l)) (boxW ks vs) 2 y = j) (a3 : ∀ y, mkA (List.take ((Int.toNat ((k : Nat) : Int)) - 0) (List.drop ((off + 0) - off) l)) (boxW ks vs) 3 y = 0) (a4 : ∀ y, mkA (List.take ((Int.toNat ((k : Nat) : Int)) - 0) (List.drop ((off + 0) - off) l)) (boxW ks vs) 4 y = x)   {Q : Ex → St → Prop} (hq : Q .normal (KSt.low (MS42 boxW ks vs off n c k w j x l e))) : Gets Try.prog (KH.low ⟨1, 1, [(0, 0, .tail off .u64 l e)]⟩) (codeAt [1, 1, 1, 1, 0, 1, 0, 0] BM) (KSt.low (MS29 boxW ks vs off n c k w j x l e)) Q := by
  rw [MC1_1_1_1_0_1_0_0]; refine Gets.seq ?_
  rw [MC1_1_1_1_0_1_0_0_0]; refine Gets.seq ?_
  refine Mgo (MR26 boxW mkA mkAt mkOver ks vs off n c k w j x l e) ?_
  rw [MC1_1_1_1_0_1_0_0_0_1]; refine Gets.cond true (by kernel_rfl) (MeX (b := (decide (((k : Nat) : Int) ≤ ((n : Nat) : Int)))) (by kernel_rfl) ((show (decide (((k : Nat) : Int) ≤ ((n : Nat) : Int))) = true from decide_eq_true (by omega)))) ?_; show Gets _ _ (codeAt [1, 1, 1, 1, 0, 1, 0, 0, 0, 1, 0] BM) _ _
  refine Mgo (MR27 boxW mkA mkAt mkOver ks vs off n c k w j x l e) ?_
  rw [MC1_1_1_1_0_1_0_0_1]; refine Gets.seq ?_
  rw [MC1_1_1_1_0_1_0_0_1_0]; refine Gets.block ?_
  rw [MC1_1_1_1_0_1_0_0_1_0_0]; refine Gets.seq ?_
  refine Mgo (x := .normal) (s' := (MS32 boxW ks vs off n c k w j x l e)) ((MR28 boxW mkA mkAt mkOver ks vs off n c k w j x l e).trans (by rw [if_pos (⟨by omega, by omega⟩), condT (and_t (ble_t (by omega)) (ble_t (by omega))), condF (nbeq_f (by omega))])) ?_
  rw [MC1_1_1_1_0_1_0_0_1_0_0_1]; refine Gets.seq ?_
  refine Mgo (x := .normal) (s' := (MS33 boxW mkA mkAt mkOver ks vs off n c k l w j x e)) ((MR29 boxW mkA mkAt mkOver ks vs off n c k w j x l e).trans (by rw [condT (ble_t (by omega)), condT (ble_t (by (first | omega | ((try simp (disch := omega) only [wrap_i64_id]) <;> omega)))), condT (and_t (decide_eq_true (by omega)) (and_t (not_t (rfl)) (and_t (Nat.ble_eq_true_of_le (by simp <;> omega)) (and_t (Nat.ble_eq_true_of_le h16) (Nat.ble_eq_true_of_le h24)))))])) ?_
  rw [MC1_1_1_1_0_1_0_0_1_0_0_1_1]; refine Gets.seq ?_
  refine Mgo (x := .normal) (s' := (MS34 boxW mkA mkAt mkOver ks vs off n c k l w j x e)) ((MR30 boxW mkA mkAt mkOver ks vs off n c k l w j x e).trans (by rw [condT (not_t (and_f1 (rfl)))])) ?_
  rw [MC1_1_1_1_0_1_0_0_1_0_0_1_1_1]; refine Gets.seq ?_
  refine Mgo (x := .normal) (s' := (MS37 boxW mkA mkAt mkOver ks vs off n c k l w j x e)) ((MR31 boxW mkA mkAt mkOver ks vs off n c k l w j x e).trans (by rw [condF (and_f1 (rfl)), condF (not_f (decide_eq_true (by omega)))])) ?_
  rw [MC1_1_1_1_0_1_0_0_1_0_0_1_1_1_1]; refine Gets.seq ?_
  rw [MC1_1_1_1_0_1_0_0_1_0_0_1_1_1_1_0]; refine Gets.seq ?_
  refine Mgo (x := .normal) (s' := (MS39 boxW ks vs off n c k w j x l e)) ((MR32 boxW mkA mkAt mkOver ks vs off n c k l w j x e).trans (by rw [condF (not_f (by rw [hov]; rfl)), condF (not_f (and_t (by rw [a0]; exact beq_self_eq_true _) (and_t (by rw [a1]; exact beq_self_eq_true _) (and_t (by rw [a2]; exact beq_self_eq_true _) (and_t (by rw [a3]; exact beq_self_eq_true _) (and_t (by rw [a4]; exact beq_self_eq_true _) (rfl))))))), condF (by rw [hov]; rfl)])) ?_
  rw [MC1_1_1_1_0_1_0_0_1_0_0_1_1_1_1_0_1]; refine Gets.cond false (by kernel_rfl) (by kernel_rfl) ?_; show Gets _ _ (codeAt [1, 1, 1, 1, 0, 1, 0, 0, 1, 0, 0, 1, 1, 1, 1, 0, 1, 1] BM) _ _
  refine Mgo (MR33 boxW mkA mkAt mkOver ks vs off n c k w j x l e) ?_
  rw [MC1_1_1_1_0_1_0_0_1_0_0_1_1_1_1_1]; refine Gets.seq ?_
  refine Mgo (MR34 boxW mkA mkAt mkOver ks vs off n c k w j x l e) ?_
  rw [MC1_1_1_1_0_1_0_0_1_0_0_1_1_1_1_1_1]; refine Gets.cond false (by kernel_rfl) (MeX (b := (decide (((k : Nat) : Int) < ((n : Nat) : Int)))) (by kernel_rfl) ((show (decide (((k : Nat) : Int) < ((n : Nat) : Int))) = false from decide_eq_false (by omega)))) ?_; show Gets _ _ (codeAt [1, 1, 1, 1, 0, 1, 0, 0, 1, 0, 0, 1, 1, 1, 1, 1, 1, 1] BM) _ _
  refine Mgo (MR35 boxW mkA mkAt mkOver ks vs off n c k w j x l e) ?_
  refine Mgo (x := .normal) (s' := (MS42 boxW ks vs off n c k w j x l e)) ((MR36 boxW mkA mkAt mkOver ks vs off n c k w j x l e).trans (by (show some (Ex.normal, (MS41 boxW ks vs off n c k w j x l e)) = some (Ex.normal, (MS42 boxW ks vs off n c k w j x l e)); unfold MS41 MS42; rw [(show (IntKind.wrap .i64 (((k : Nat) : Int) + 1)) = (((k : Nat) : Int) + 1) from wrap_i64_id (by omega) (by omega))]))) ?_
  exact hq
theorem Mps {ks : ByteArray} {vs : ByteArray} {n : Nat} {c : Nat} {l : List Int} {j : Int} {k : Nat} {off : Nat} {w : Int} {x : Int} {e : TypeId} (h16 : ks.size ≤ 16) (h24 : vs.size ≤ 24) (hn20 : n ≤ 20) (hc : n ≤ c) (hc0 : 0 < c) (hl : l.length = c) (hM1 : 1 ≤ (boxW ks vs).length) (hM6 : (boxW ks vs).length ≤ 6) (hj : 0 ≤ j) (hjk : j + 1 = (k : Int)) (hjM : j < (((List.length (boxW ks vs)) : Nat) : Int)) (hin : k < n) (hm : j + 1 < (((List.length (boxW ks vs)) : Nat) : Int)) (hov : mkOver (List.take ((Int.toNat ((k : Nat) : Int)) - 0) (List.drop ((off + 0) - off) l)) (boxW ks vs) = true) (a0 : ∀ y, mkA (List.take ((Int.toNat ((k : Nat) : Int)) - 0) (List.drop ((off + 0) - off) l)) (boxW ks vs) 0 y = 2) (a1 : ∀ y, mkA (List.take ((Int.toNat ((k : Nat) : Int)) - 0) (List.drop ((off + 0) - off) l)) (boxW ks vs) 1 y = w) (a2 : ∀ y, mkA (List.take ((Int.toNat ((k : Nat) : Int)) - 0) (List.drop ((off + 0) - off) l)) (boxW ks vs) 2 y = j) (a3 : ∀ y, mkA (List.take ((Int.toNat ((k : Nat) : Int)) - 0) (List.drop ((off + 0) - off) l)) (boxW ks vs) 3 y = 0) (a4 : ∀ y, mkA (List.take ((Int.toNat ((k : Nat) : Int)) - 0) (List.drop ((off + 0) - off) l)) (boxW ks vs) 4 y = x)   {Q : Ex → St → Prop} (hq : Q .normal (KSt.low (MS51 boxW ks vs off n c k w j l e))) : Gets Try.prog (KH.low ⟨1, 1, [(0, 0, .tail off .u64 l e)]⟩) (codeAt [1, 1, 1, 1, 0, 1, 0, 0] BM) (KSt.low (MS29 boxW ks vs off n c k w j x l e)) Q := by
  rw [MC1_1_1_1_0_1_0_0]; refine Gets.seq ?_
  rw [MC1_1_1_1_0_1_0_0_0]; refine Gets.seq ?_
  refine Mgo (MR26 boxW mkA mkAt mkOver ks vs off n c k w j x l e) ?_
  rw [MC1_1_1_1_0_1_0_0_0_1]; refine Gets.cond true (by kernel_rfl) (MeX (b := (decide (((k : Nat) : Int) ≤ ((n : Nat) : Int)))) (by kernel_rfl) ((show (decide (((k : Nat) : Int) ≤ ((n : Nat) : Int))) = true from decide_eq_true (by omega)))) ?_; show Gets _ _ (codeAt [1, 1, 1, 1, 0, 1, 0, 0, 0, 1, 0] BM) _ _
  refine Mgo (MR27 boxW mkA mkAt mkOver ks vs off n c k w j x l e) ?_
  rw [MC1_1_1_1_0_1_0_0_1]; refine Gets.seq ?_
  rw [MC1_1_1_1_0_1_0_0_1_0]; refine Gets.block ?_
  rw [MC1_1_1_1_0_1_0_0_1_0_0]; refine Gets.seq ?_
  refine Mgo (x := .normal) (s' := (MS32 boxW ks vs off n c k w j x l e)) ((MR28 boxW mkA mkAt mkOver ks vs off n c k w j x l e).trans (by rw [if_pos (⟨by omega, by omega⟩), condT (and_t (ble_t (by omega)) (ble_t (by omega))), condF (nbeq_f (by omega))])) ?_
  rw [MC1_1_1_1_0_1_0_0_1_0_0_1]; refine Gets.seq ?_
  refine Mgo (x := .normal) (s' := (MS33 boxW mkA mkAt mkOver ks vs off n c k l w j x e)) ((MR29 boxW mkA mkAt mkOver ks vs off n c k w j x l e).trans (by rw [condT (ble_t (by omega)), condT (ble_t (by (first | omega | ((try simp (disch := omega) only [wrap_i64_id]) <;> omega)))), condT (and_t (decide_eq_true (by omega)) (and_t (not_t (rfl)) (and_t (Nat.ble_eq_true_of_le (by simp <;> omega)) (and_t (Nat.ble_eq_true_of_le h16) (Nat.ble_eq_true_of_le h24)))))])) ?_
  rw [MC1_1_1_1_0_1_0_0_1_0_0_1_1]; refine Gets.seq ?_
  refine Mgo (x := .normal) (s' := (MS34 boxW mkA mkAt mkOver ks vs off n c k l w j x e)) ((MR30 boxW mkA mkAt mkOver ks vs off n c k l w j x e).trans (by rw [condT (not_t (and_f1 (rfl)))])) ?_
  rw [MC1_1_1_1_0_1_0_0_1_0_0_1_1_1]; refine Gets.seq ?_
  refine Mgo (x := .normal) (s' := (MS37 boxW mkA mkAt mkOver ks vs off n c k l w j x e)) ((MR31 boxW mkA mkAt mkOver ks vs off n c k l w j x e).trans (by rw [condF (and_f1 (rfl)), condF (not_f (decide_eq_true (by omega)))])) ?_
  rw [MC1_1_1_1_0_1_0_0_1_0_0_1_1_1_1]; refine Gets.seq ?_
  rw [MC1_1_1_1_0_1_0_0_1_0_0_1_1_1_1_0]; refine Gets.seq ?_
  refine Mgo (x := .normal) (s' := (MS39 boxW ks vs off n c k w j x l e)) ((MR32 boxW mkA mkAt mkOver ks vs off n c k l w j x e).trans (by rw [condF (not_f (by rw [hov]; rfl)), condF (not_f (and_t (by rw [a0]; exact beq_self_eq_true _) (and_t (by rw [a1]; exact beq_self_eq_true _) (and_t (by rw [a2]; exact beq_self_eq_true _) (and_t (by rw [a3]; exact beq_self_eq_true _) (and_t (by rw [a4]; exact beq_self_eq_true _) (rfl))))))), condF (by rw [hov]; rfl)])) ?_
  rw [MC1_1_1_1_0_1_0_0_1_0_0_1_1_1_1_0_1]; refine Gets.cond false (by kernel_rfl) (by kernel_rfl) ?_; show Gets _ _ (codeAt [1, 1, 1, 1, 0, 1, 0, 0, 1, 0, 0, 1, 1, 1, 1, 0, 1, 1] BM) _ _
  refine Mgo (MR33 boxW mkA mkAt mkOver ks vs off n c k w j x l e) ?_
  rw [MC1_1_1_1_0_1_0_0_1_0_0_1_1_1_1_1]; refine Gets.seq ?_
  refine Mgo (MR34 boxW mkA mkAt mkOver ks vs off n c k w j x l e) ?_
  rw [MC1_1_1_1_0_1_0_0_1_0_0_1_1_1_1_1_1]; refine Gets.cond true (by kernel_rfl) (MeX (b := (decide (((k : Nat) : Int) < ((n : Nat) : Int)))) (by kernel_rfl) ((show (decide (((k : Nat) : Int) < ((n : Nat) : Int))) = true from decide_eq_true (by omega)))) ?_; show Gets _ _ (codeAt [1, 1, 1, 1, 0, 1, 0, 0, 1, 0, 0, 1, 1, 1, 1, 1, 1, 0] BM) _ _
  refine Mgo (x := .normal) (s' := (MS48 boxW ks vs off n c k w j l e)) ((MR37 boxW mkA mkAt mkOver ks vs off n c k w j x l e).trans (by rw [if_pos (⟨by omega, by omega⟩), condT (ble_t (by omega)), obind_at (k := ((Int.toNat ((k : Nat) : Int)) * 1)) (by omega) (by omega), condF (and_f1 (rfl)), condF (not_f (decide_eq_true (by omega))), condT (decide_eq_true (by omega)), condF (ibeq_f (by (first | omega | ((try simp (disch := omega) only [wrap_i64_id]) <;> omega)))), if_pos (⟨by (first | omega | ((try simp (disch := omega) only [wrap_i64_id]) <;> omega)), by (first | omega | ((try simp (disch := omega) only [wrap_i64_id]) <;> omega))⟩), obind_at (k := 0 + ((Int.toNat (IntKind.wrap .i64 (j + 1))) * 1)) (by (first | omega | ((try simp (disch := omega) only [wrap_i64_id]) <;> omega))) (by (first | omega | ((try simp (disch := omega) only [wrap_i64_id]) <;> omega)))] <;> (show some (Ex.normal, (MS49 boxW ks vs off n c k w j l e)) = some (Ex.normal, (MS48 boxW ks vs off n c k w j l e)); unfold MS49 MS48; rw [(show (IntKind.wrap .i64 (j + 1)) = (j + 1) from wrap_i64_id (by omega) (by omega))]))) ?_
  refine Mgo (x := .normal) (s' := (MS51 boxW ks vs off n c k w j l e)) ((MR38 boxW mkA mkAt mkOver ks vs off n c k w j l e).trans (by (show some (Ex.normal, (MS50 boxW ks vs off n c k w j l e)) = some (Ex.normal, (MS51 boxW ks vs off n c k w j l e)); unfold MS50 MS51; rw [(show (IntKind.wrap .i64 (((k : Nat) : Int) + 1)) = (((k : Nat) : Int) + 1) from wrap_i64_id (by omega) (by omega))]))) ?_
  exact hq
theorem Mpd {ks : ByteArray} {vs : ByteArray} {n : Nat} {c : Nat} {l : List Int} {j : Int} {k : Nat} {off : Nat} {w : Int} {x : Int} {e : TypeId} (h16 : ks.size ≤ 16) (h24 : vs.size ≤ 24) (hn20 : n ≤ 20) (hc : n ≤ c) (hc0 : 0 < c) (hl : l.length = c) (hM1 : 1 ≤ (boxW ks vs).length) (hM6 : (boxW ks vs).length ≤ 6) (hj : 0 ≤ j) (hjk : j + 1 = (k : Int)) (hjM : j < (((List.length (boxW ks vs)) : Nat) : Int)) (hin : k < n) (hm : j + 1 = (((List.length (boxW ks vs)) : Nat) : Int)) (hov : mkOver (List.take ((Int.toNat ((k : Nat) : Int)) - 0) (List.drop ((off + 0) - off) l)) (boxW ks vs) = true) (a0 : ∀ y, mkA (List.take ((Int.toNat ((k : Nat) : Int)) - 0) (List.drop ((off + 0) - off) l)) (boxW ks vs) 0 y = 2) (a1 : ∀ y, mkA (List.take ((Int.toNat ((k : Nat) : Int)) - 0) (List.drop ((off + 0) - off) l)) (boxW ks vs) 1 y = w) (a2 : ∀ y, mkA (List.take ((Int.toNat ((k : Nat) : Int)) - 0) (List.drop ((off + 0) - off) l)) (boxW ks vs) 2 y = j) (a3 : ∀ y, mkA (List.take ((Int.toNat ((k : Nat) : Int)) - 0) (List.drop ((off + 0) - off) l)) (boxW ks vs) 3 y = 0) (a4 : ∀ y, mkA (List.take ((Int.toNat ((k : Nat) : Int)) - 0) (List.drop ((off + 0) - off) l)) (boxW ks vs) 4 y = x)   {Q : Ex → St → Prop} (hq : Q .normal (KSt.low (MS54 boxW ks vs off n c k w j l e))) : Gets Try.prog (KH.low ⟨1, 1, [(0, 0, .tail off .u64 l e)]⟩) (codeAt [1, 1, 1, 1, 0, 1, 0, 0] BM) (KSt.low (MS29 boxW ks vs off n c k w j x l e)) Q := by
  rw [MC1_1_1_1_0_1_0_0]; refine Gets.seq ?_
  rw [MC1_1_1_1_0_1_0_0_0]; refine Gets.seq ?_
  refine Mgo (MR26 boxW mkA mkAt mkOver ks vs off n c k w j x l e) ?_
  rw [MC1_1_1_1_0_1_0_0_0_1]; refine Gets.cond true (by kernel_rfl) (MeX (b := (decide (((k : Nat) : Int) ≤ ((n : Nat) : Int)))) (by kernel_rfl) ((show (decide (((k : Nat) : Int) ≤ ((n : Nat) : Int))) = true from decide_eq_true (by omega)))) ?_; show Gets _ _ (codeAt [1, 1, 1, 1, 0, 1, 0, 0, 0, 1, 0] BM) _ _
  refine Mgo (MR27 boxW mkA mkAt mkOver ks vs off n c k w j x l e) ?_
  rw [MC1_1_1_1_0_1_0_0_1]; refine Gets.seq ?_
  rw [MC1_1_1_1_0_1_0_0_1_0]; refine Gets.block ?_
  rw [MC1_1_1_1_0_1_0_0_1_0_0]; refine Gets.seq ?_
  refine Mgo (x := .normal) (s' := (MS32 boxW ks vs off n c k w j x l e)) ((MR28 boxW mkA mkAt mkOver ks vs off n c k w j x l e).trans (by rw [if_pos (⟨by omega, by omega⟩), condT (and_t (ble_t (by omega)) (ble_t (by omega))), condF (nbeq_f (by omega))])) ?_
  rw [MC1_1_1_1_0_1_0_0_1_0_0_1]; refine Gets.seq ?_
  refine Mgo (x := .normal) (s' := (MS33 boxW mkA mkAt mkOver ks vs off n c k l w j x e)) ((MR29 boxW mkA mkAt mkOver ks vs off n c k w j x l e).trans (by rw [condT (ble_t (by omega)), condT (ble_t (by (first | omega | ((try simp (disch := omega) only [wrap_i64_id]) <;> omega)))), condT (and_t (decide_eq_true (by omega)) (and_t (not_t (rfl)) (and_t (Nat.ble_eq_true_of_le (by simp <;> omega)) (and_t (Nat.ble_eq_true_of_le h16) (Nat.ble_eq_true_of_le h24)))))])) ?_
  rw [MC1_1_1_1_0_1_0_0_1_0_0_1_1]; refine Gets.seq ?_
  refine Mgo (x := .normal) (s' := (MS34 boxW mkA mkAt mkOver ks vs off n c k l w j x e)) ((MR30 boxW mkA mkAt mkOver ks vs off n c k l w j x e).trans (by rw [condT (not_t (and_f1 (rfl)))])) ?_
  rw [MC1_1_1_1_0_1_0_0_1_0_0_1_1_1]; refine Gets.seq ?_
  refine Mgo (x := .normal) (s' := (MS37 boxW mkA mkAt mkOver ks vs off n c k l w j x e)) ((MR31 boxW mkA mkAt mkOver ks vs off n c k l w j x e).trans (by rw [condF (and_f1 (rfl)), condF (not_f (decide_eq_true (by omega)))])) ?_
  rw [MC1_1_1_1_0_1_0_0_1_0_0_1_1_1_1]; refine Gets.seq ?_
  rw [MC1_1_1_1_0_1_0_0_1_0_0_1_1_1_1_0]; refine Gets.seq ?_
  refine Mgo (x := .normal) (s' := (MS39 boxW ks vs off n c k w j x l e)) ((MR32 boxW mkA mkAt mkOver ks vs off n c k l w j x e).trans (by rw [condF (not_f (by rw [hov]; rfl)), condF (not_f (and_t (by rw [a0]; exact beq_self_eq_true _) (and_t (by rw [a1]; exact beq_self_eq_true _) (and_t (by rw [a2]; exact beq_self_eq_true _) (and_t (by rw [a3]; exact beq_self_eq_true _) (and_t (by rw [a4]; exact beq_self_eq_true _) (rfl))))))), condF (by rw [hov]; rfl)])) ?_
  rw [MC1_1_1_1_0_1_0_0_1_0_0_1_1_1_1_0_1]; refine Gets.cond false (by kernel_rfl) (by kernel_rfl) ?_; show Gets _ _ (codeAt [1, 1, 1, 1, 0, 1, 0, 0, 1, 0, 0, 1, 1, 1, 1, 0, 1, 1] BM) _ _
  refine Mgo (MR33 boxW mkA mkAt mkOver ks vs off n c k w j x l e) ?_
  rw [MC1_1_1_1_0_1_0_0_1_0_0_1_1_1_1_1]; refine Gets.seq ?_
  refine Mgo (MR34 boxW mkA mkAt mkOver ks vs off n c k w j x l e) ?_
  rw [MC1_1_1_1_0_1_0_0_1_0_0_1_1_1_1_1_1]; refine Gets.cond true (by kernel_rfl) (MeX (b := (decide (((k : Nat) : Int) < ((n : Nat) : Int)))) (by kernel_rfl) ((show (decide (((k : Nat) : Int) < ((n : Nat) : Int))) = true from decide_eq_true (by omega)))) ?_; show Gets _ _ (codeAt [1, 1, 1, 1, 0, 1, 0, 0, 1, 0, 0, 1, 1, 1, 1, 1, 1, 0] BM) _ _
  refine Mgo (x := .normal) (s' := (MS52 boxW ks vs off n c k w j l e)) ((MR37 boxW mkA mkAt mkOver ks vs off n c k w j x l e).trans (by rw [if_pos (⟨by omega, by omega⟩), condT (ble_t (by omega)), obind_at (k := ((Int.toNat ((k : Nat) : Int)) * 1)) (by omega) (by omega), condF (and_f1 (rfl)), condF (not_f (decide_eq_true (by omega))), condT (decide_eq_true (by omega)), condT (ibeq_t (by (first | omega | ((try simp (disch := omega) only [wrap_i64_id]) <;> omega))))] <;> (show some (Ex.normal, (MS43 boxW ks vs off n c k w j l e)) = some (Ex.normal, (MS52 boxW ks vs off n c k w j l e)); unfold MS43 MS52; rw [(show (IntKind.wrap .i64 (j + 1)) = (j + 1) from wrap_i64_id (by omega) (by omega))]))) ?_
  refine Mgo (x := .normal) (s' := (MS54 boxW ks vs off n c k w j l e)) ((MR39 boxW mkA mkAt mkOver ks vs off n c k w j l e).trans (by (show some (Ex.normal, (MS53 boxW ks vs off n c k w j l e)) = some (Ex.normal, (MS54 boxW ks vs off n c k w j l e)); unfold MS53 MS54; rw [(show (IntKind.wrap .i64 (((k : Nat) : Int) + 1)) = (((k : Nat) : Int) + 1) from wrap_i64_id (by omega) (by omega))]))) ?_
  exact hq
theorem Md0 {ks : ByteArray} {vs : ByteArray} {n : Nat} {c : Nat} {l : List Int} {k : Nat} {off : Nat} {w : Int} {j : Int} {e : TypeId} (h16 : ks.size ≤ 16) (h24 : vs.size ≤ 24) (hn20 : n ≤ 20) (hc : n ≤ c) (hc0 : 0 < c) (hl : l.length = c) (hM1 : 1 ≤ (boxW ks vs).length) (hM6 : (boxW ks vs).length ≤ 6) (hin : k = n) (hov : mkOver (List.take ((Int.toNat ((k : Nat) : Int)) - 0) (List.drop ((off + 0) - off) l)) (boxW ks vs) = false) (a0 : ∀ y, mkA (List.take ((Int.toNat ((k : Nat) : Int)) - 0) (List.drop ((off + 0) - off) l)) (boxW ks vs) 0 y = y) (a1 : ∀ y, mkA (List.take ((Int.toNat ((k : Nat) : Int)) - 0) (List.drop ((off + 0) - off) l)) (boxW ks vs) 1 y = y) (a2 : ∀ y, mkA (List.take ((Int.toNat ((k : Nat) : Int)) - 0) (List.drop ((off + 0) - off) l)) (boxW ks vs) 2 y = y) (a3 : ∀ y, mkA (List.take ((Int.toNat ((k : Nat) : Int)) - 0) (List.drop ((off + 0) - off) l)) (boxW ks vs) 3 y = y) (a4 : ∀ y, mkA (List.take ((Int.toNat ((k : Nat) : Int)) - 0) (List.drop ((off + 0) - off) l)) (boxW ks vs) 4 y = y) (hwL : List.getD (List.take ((Int.toNat ((k : Nat) : Int)) - 0) (List.drop ((off + 0) - off) l)) 0 0 = w)   {Q : Ex → St → Prop} (hq : Q .normal (KSt.low (MS66 boxW ks vs off n c k w j l e))) : Gets Try.prog (KH.low ⟨1, 1, [(0, 0, .tail off .u64 l e)]⟩) (codeAt [1, 1, 1, 1, 0, 1, 0, 0] BM) (KSt.low (MS55 boxW ks vs off n c k w j l e)) Q := by
  rw [MC1_1_1_1_0_1_0_0]; refine Gets.seq ?_
  rw [MC1_1_1_1_0_1_0_0_0]; refine Gets.seq ?_
  refine Mgo (MR40 boxW mkA mkAt mkOver ks vs off n c k w j l e) ?_
  rw [MC1_1_1_1_0_1_0_0_0_1]; refine Gets.cond true (by kernel_rfl) (MeX (b := (decide (((k : Nat) : Int) ≤ ((n : Nat) : Int)))) (by kernel_rfl) ((show (decide (((k : Nat) : Int) ≤ ((n : Nat) : Int))) = true from decide_eq_true (by omega)))) ?_; show Gets _ _ (codeAt [1, 1, 1, 1, 0, 1, 0, 0, 0, 1, 0] BM) _ _
  refine Mgo (MR41 boxW mkA mkAt mkOver ks vs off n c k w j l e) ?_
  rw [MC1_1_1_1_0_1_0_0_1]; refine Gets.seq ?_
  rw [MC1_1_1_1_0_1_0_0_1_0]; refine Gets.block ?_
  rw [MC1_1_1_1_0_1_0_0_1_0_0]; refine Gets.seq ?_
  refine Mgo (x := .normal) (s' := (MS58 boxW ks vs off n c k w j l e)) ((MR42 boxW mkA mkAt mkOver ks vs off n c k w j l e).trans (by rw [if_pos (⟨by omega, by omega⟩), condT (and_t (ble_t (by omega)) (ble_t (by omega))), condF (nbeq_f (by omega))])) ?_
  rw [MC1_1_1_1_0_1_0_0_1_0_0_1]; refine Gets.seq ?_
  refine Mgo (x := .normal) (s' := (MS59 boxW mkA mkAt mkOver ks vs off n c k l w j e)) ((MR43 boxW mkA mkAt mkOver ks vs off n c k w j l e).trans (by rw [condT (ble_t (by omega)), condT (ble_t (by (first | omega | ((try simp (disch := omega) only [wrap_i64_id]) <;> omega)))), condT (and_t (decide_eq_true (by omega)) (and_t (not_t (rfl)) (and_t (Nat.ble_eq_true_of_le (by simp <;> omega)) (and_t (Nat.ble_eq_true_of_le h16) (Nat.ble_eq_true_of_le h24)))))])) ?_
  rw [MC1_1_1_1_0_1_0_0_1_0_0_1_1]; refine Gets.seq ?_
  refine Mgo (MR44 boxW mkA mkAt mkOver ks vs off n c k l w j e) ?_
  rw [MC1_1_1_1_0_1_0_0_1_0_0_1_1_1]; refine Gets.seq ?_
  refine Mgo (MR45 boxW mkA mkAt mkOver ks vs off n c k l w j e) ?_
  rw [MC1_1_1_1_0_1_0_0_1_0_0_1_1_1_1]; refine Gets.seq ?_
  rw [MC1_1_1_1_0_1_0_0_1_0_0_1_1_1_1_0]; refine Gets.seq ?_
  refine Mgo (x := .normal) (s' := (MS63 boxW ks vs off n c k w j l e)) ((MR46 boxW mkA mkAt mkOver ks vs off n c k l w j e).trans (by rw [condF (not_f (by rw [hov]; rfl)), condF (not_f (and_t (by rw [a0]; exact beq_self_eq_true _) (and_t (by rw [a1]; exact beq_self_eq_true _) (and_t (by rw [a2]; exact beq_self_eq_true _) (and_t (by rw [a3]; exact beq_self_eq_true _) (and_t (by rw [a4]; exact beq_self_eq_true _) (rfl))))))), condF (by rw [hov]; rfl), condF (ibne_f (by (first | omega | ((try simp (disch := omega) only [wrap_i64_id]) <;> omega))))])) ?_
  rw [MC1_1_1_1_0_1_0_0_1_0_0_1_1_1_1_0_1]; refine Gets.cond false (by kernel_rfl) (by kernel_rfl) ?_; show Gets _ _ (codeAt [1, 1, 1, 1, 0, 1, 0, 0, 1, 0, 0, 1, 1, 1, 1, 0, 1, 1] BM) _ _
  refine Mgo (MR47 boxW mkA mkAt mkOver ks vs off n c k w j l e) ?_
  rw [MC1_1_1_1_0_1_0_0_1_0_0_1_1_1_1_1]; refine Gets.seq ?_
  refine Mgo (MR48 boxW mkA mkAt mkOver ks vs off n c k w j l e) ?_
  rw [MC1_1_1_1_0_1_0_0_1_0_0_1_1_1_1_1_1]; refine Gets.cond false (by kernel_rfl) (MeX (b := (decide (((k : Nat) : Int) < ((n : Nat) : Int)))) (by kernel_rfl) ((show (decide (((k : Nat) : Int) < ((n : Nat) : Int))) = false from decide_eq_false (by omega)))) ?_; show Gets _ _ (codeAt [1, 1, 1, 1, 0, 1, 0, 0, 1, 0, 0, 1, 1, 1, 1, 1, 1, 1] BM) _ _
  refine Mgo (MR49 boxW mkA mkAt mkOver ks vs off n c k w j l e) ?_
  refine Mgo (x := .normal) (s' := (MS66 boxW ks vs off n c k w j l e)) ((MR50 boxW mkA mkAt mkOver ks vs off n c k w j l e).trans (by (show some (Ex.normal, (MS65 boxW ks vs off n c k w j l e)) = some (Ex.normal, (MS66 boxW ks vs off n c k w j l e)); unfold MS65 MS66; rw [(show (IntKind.wrap .i64 (((k : Nat) : Int) + 1)) = (((k : Nat) : Int) + 1) from wrap_i64_id (by omega) (by omega))]))) ?_
  exact hq
theorem Md1 {ks : ByteArray} {vs : ByteArray} {n : Nat} {c : Nat} {l : List Int} {k : Nat} {off : Nat} {w : Int} {j : Int} {e : TypeId} (h16 : ks.size ≤ 16) (h24 : vs.size ≤ 24) (hn20 : n ≤ 20) (hc : n ≤ c) (hc0 : 0 < c) (hl : l.length = c) (hM1 : 1 ≤ (boxW ks vs).length) (hM6 : (boxW ks vs).length ≤ 6) (hin : k < n) (hov : mkOver (List.take ((Int.toNat ((k : Nat) : Int)) - 0) (List.drop ((off + 0) - off) l)) (boxW ks vs) = false) (a0 : ∀ y, mkA (List.take ((Int.toNat ((k : Nat) : Int)) - 0) (List.drop ((off + 0) - off) l)) (boxW ks vs) 0 y = y) (a1 : ∀ y, mkA (List.take ((Int.toNat ((k : Nat) : Int)) - 0) (List.drop ((off + 0) - off) l)) (boxW ks vs) 1 y = y) (a2 : ∀ y, mkA (List.take ((Int.toNat ((k : Nat) : Int)) - 0) (List.drop ((off + 0) - off) l)) (boxW ks vs) 2 y = y) (a3 : ∀ y, mkA (List.take ((Int.toNat ((k : Nat) : Int)) - 0) (List.drop ((off + 0) - off) l)) (boxW ks vs) 3 y = y) (a4 : ∀ y, mkA (List.take ((Int.toNat ((k : Nat) : Int)) - 0) (List.drop ((off + 0) - off) l)) (boxW ks vs) 4 y = y) (hwL : List.getD (List.take ((Int.toNat ((k : Nat) : Int)) - 0) (List.drop ((off + 0) - off) l)) 0 0 = w)   {Q : Ex → St → Prop} (hq : Q .normal (KSt.low (MS66 boxW ks vs off n c k w j l e))) : Gets Try.prog (KH.low ⟨1, 1, [(0, 0, .tail off .u64 l e)]⟩) (codeAt [1, 1, 1, 1, 0, 1, 0, 0] BM) (KSt.low (MS55 boxW ks vs off n c k w j l e)) Q := by
  rw [MC1_1_1_1_0_1_0_0]; refine Gets.seq ?_
  rw [MC1_1_1_1_0_1_0_0_0]; refine Gets.seq ?_
  refine Mgo (MR40 boxW mkA mkAt mkOver ks vs off n c k w j l e) ?_
  rw [MC1_1_1_1_0_1_0_0_0_1]; refine Gets.cond true (by kernel_rfl) (MeX (b := (decide (((k : Nat) : Int) ≤ ((n : Nat) : Int)))) (by kernel_rfl) ((show (decide (((k : Nat) : Int) ≤ ((n : Nat) : Int))) = true from decide_eq_true (by omega)))) ?_; show Gets _ _ (codeAt [1, 1, 1, 1, 0, 1, 0, 0, 0, 1, 0] BM) _ _
  refine Mgo (MR41 boxW mkA mkAt mkOver ks vs off n c k w j l e) ?_
  rw [MC1_1_1_1_0_1_0_0_1]; refine Gets.seq ?_
  rw [MC1_1_1_1_0_1_0_0_1_0]; refine Gets.block ?_
  rw [MC1_1_1_1_0_1_0_0_1_0_0]; refine Gets.seq ?_
  refine Mgo (x := .normal) (s' := (MS58 boxW ks vs off n c k w j l e)) ((MR42 boxW mkA mkAt mkOver ks vs off n c k w j l e).trans (by rw [if_pos (⟨by omega, by omega⟩), condT (and_t (ble_t (by omega)) (ble_t (by omega))), condF (nbeq_f (by omega))])) ?_
  rw [MC1_1_1_1_0_1_0_0_1_0_0_1]; refine Gets.seq ?_
  refine Mgo (x := .normal) (s' := (MS59 boxW mkA mkAt mkOver ks vs off n c k l w j e)) ((MR43 boxW mkA mkAt mkOver ks vs off n c k w j l e).trans (by rw [condT (ble_t (by omega)), condT (ble_t (by (first | omega | ((try simp (disch := omega) only [wrap_i64_id]) <;> omega)))), condT (and_t (decide_eq_true (by omega)) (and_t (not_t (rfl)) (and_t (Nat.ble_eq_true_of_le (by simp <;> omega)) (and_t (Nat.ble_eq_true_of_le h16) (Nat.ble_eq_true_of_le h24)))))])) ?_
  rw [MC1_1_1_1_0_1_0_0_1_0_0_1_1]; refine Gets.seq ?_
  refine Mgo (MR44 boxW mkA mkAt mkOver ks vs off n c k l w j e) ?_
  rw [MC1_1_1_1_0_1_0_0_1_0_0_1_1_1]; refine Gets.seq ?_
  refine Mgo (MR45 boxW mkA mkAt mkOver ks vs off n c k l w j e) ?_
  rw [MC1_1_1_1_0_1_0_0_1_0_0_1_1_1_1]; refine Gets.seq ?_
  rw [MC1_1_1_1_0_1_0_0_1_0_0_1_1_1_1_0]; refine Gets.seq ?_
  refine Mgo (x := .normal) (s' := (MS63 boxW ks vs off n c k w j l e)) ((MR46 boxW mkA mkAt mkOver ks vs off n c k l w j e).trans (by rw [condF (not_f (by rw [hov]; rfl)), condF (not_f (and_t (by rw [a0]; exact beq_self_eq_true _) (and_t (by rw [a1]; exact beq_self_eq_true _) (and_t (by rw [a2]; exact beq_self_eq_true _) (and_t (by rw [a3]; exact beq_self_eq_true _) (and_t (by rw [a4]; exact beq_self_eq_true _) (rfl))))))), condF (by rw [hov]; rfl), condF (ibne_f (by (first | omega | ((try simp (disch := omega) only [wrap_i64_id]) <;> omega))))])) ?_
  rw [MC1_1_1_1_0_1_0_0_1_0_0_1_1_1_1_0_1]; refine Gets.cond false (by kernel_rfl) (by kernel_rfl) ?_; show Gets _ _ (codeAt [1, 1, 1, 1, 0, 1, 0, 0, 1, 0, 0, 1, 1, 1, 1, 0, 1, 1] BM) _ _
  refine Mgo (MR47 boxW mkA mkAt mkOver ks vs off n c k w j l e) ?_
  rw [MC1_1_1_1_0_1_0_0_1_0_0_1_1_1_1_1]; refine Gets.seq ?_
  refine Mgo (MR48 boxW mkA mkAt mkOver ks vs off n c k w j l e) ?_
  rw [MC1_1_1_1_0_1_0_0_1_0_0_1_1_1_1_1_1]; refine Gets.cond true (by kernel_rfl) (MeX (b := (decide (((k : Nat) : Int) < ((n : Nat) : Int)))) (by kernel_rfl) ((show (decide (((k : Nat) : Int) < ((n : Nat) : Int))) = true from decide_eq_true (by omega)))) ?_; show Gets _ _ (codeAt [1, 1, 1, 1, 0, 1, 0, 0, 1, 0, 0, 1, 1, 1, 1, 1, 1, 0] BM) _ _
  refine Mgo (x := .normal) (s' := (MS55 boxW ks vs off n c k w j l e)) ((MR51 boxW mkA mkAt mkOver ks vs off n c k w j l e).trans (by rw [if_pos (⟨by omega, by omega⟩), condT (ble_t (by omega)), obind_at (k := ((Int.toNat ((k : Nat) : Int)) * 1)) (by omega) (by omega)] <;> rfl)) ?_
  refine Mgo (x := .normal) (s' := (MS66 boxW ks vs off n c k w j l e)) ((MR50 boxW mkA mkAt mkOver ks vs off n c k w j l e).trans (by (show some (Ex.normal, (MS65 boxW ks vs off n c k w j l e)) = some (Ex.normal, (MS66 boxW ks vs off n c k w j l e)); unfold MS65 MS66; rw [(show (IntKind.wrap .i64 (((k : Nat) : Int) + 1)) = (((k : Nat) : Int) + 1) from wrap_i64_id (by omega) (by omega))]))) ?_
  exact hq
theorem MxP {n : Nat} {i : Int} {ks : ByteArray} {vs : ByteArray} {off : Nat} {c : Nat} {w : Int} {j : Int} {x : Int} {l : List Int} {e : TypeId} (hx : (n : Int) < i)   {Q : Ex → St → Prop} (hq : Q (.exit 0) (KSt.low (MS68 boxW ks vs off n c i w j x l e))) : Gets Try.prog (KH.low ⟨1, 1, [(0, 0, .tail off .u64 l e)]⟩) (codeAt [1, 1, 1, 1, 0, 1, 0, 0] BM) (KSt.low (MS67 boxW ks vs off n c i w j x l e)) Q := by
  rw [MC1_1_1_1_0_1_0_0]; refine Gets.seq ?_
  rw [MC1_1_1_1_0_1_0_0_0]; refine Gets.seq ?_
  refine Mgo (MR52 boxW mkA mkAt mkOver ks vs off n c i w j x l e) ?_
  rw [MC1_1_1_1_0_1_0_0_0_1]; refine Gets.cond false (by kernel_rfl) (MeX (b := (decide (i ≤ ((n : Nat) : Int)))) (by kernel_rfl) ((show (decide (i ≤ ((n : Nat) : Int))) = false from decide_eq_false (by omega)))) ?_; show Gets _ _ (codeAt [1, 1, 1, 1, 0, 1, 0, 0, 0, 1, 1] BM) _ _
  rw [MC1_1_1_1_0_1_0_0_0_1_1]; refine Gets.ev fitA7.mix fitA7.cfg (fitA7.sound wma_sound 14 0) 14 rfl (s' := KSt.low (MS68 boxW ks vs off n c i w j x l e)) (x := (.exit 0)) rfl ?_
  exact hq
theorem MfP {off : Nat} {l : List Int} {e : TypeId} {ks : ByteArray} {vs : ByteArray} {n : Nat} {c : Nat} {i : Int} {w : Int} {j : Int} {x : Int}   {Q : Ex → St → Prop} (hq : Q .ret (KSt.low (MS4 off l e))) : Gets Try.prog (KH.low ⟨1, 1, [(0, 0, .tail off .u64 l e)]⟩) (codeAt [1, 1, 1, 1, 1] BM) (KSt.low (MS68 boxW ks vs off n c i w j x l e)) Q := by
  rw [MC1_1_1_1_1]; refine Gets.seq ?_
  refine Mgo (MR53 boxW mkA mkAt mkOver ks vs off n c i w j x l e) ?_
  rw [MC1_1_1_1_1_1]; refine Gets.ev fitA7.mix fitA7.cfg (fitA7.sound wma_sound 14 0) 14 rfl (s' := KSt.low (MS4 off l e)) (x := .ret) rfl ?_
  exact hq
theorem MxD {n : Nat} {i : Int} {ks : ByteArray} {vs : ByteArray} {off : Nat} {c : Nat} {w : Int} {j : Int} {l : List Int} {e : TypeId} (hx : (n : Int) < i)   {Q : Ex → St → Prop} (hq : Q (.exit 0) (KSt.low (MS70 boxW ks vs off n c i w j l e))) : Gets Try.prog (KH.low ⟨1, 1, [(0, 0, .tail off .u64 l e)]⟩) (codeAt [1, 1, 1, 1, 0, 1, 0, 0] BM) (KSt.low (MS69 boxW ks vs off n c i w j l e)) Q := by
  rw [MC1_1_1_1_0_1_0_0]; refine Gets.seq ?_
  rw [MC1_1_1_1_0_1_0_0_0]; refine Gets.seq ?_
  refine Mgo (MR54 boxW mkA mkAt mkOver ks vs off n c i w j l e) ?_
  rw [MC1_1_1_1_0_1_0_0_0_1]; refine Gets.cond false (by kernel_rfl) (MeX (b := (decide (i ≤ ((n : Nat) : Int)))) (by kernel_rfl) ((show (decide (i ≤ ((n : Nat) : Int))) = false from decide_eq_false (by omega)))) ?_; show Gets _ _ (codeAt [1, 1, 1, 1, 0, 1, 0, 0, 0, 1, 1] BM) _ _
  rw [MC1_1_1_1_0_1_0_0_0_1_1]; refine Gets.ev fitA7.mix fitA7.cfg (fitA7.sound wma_sound 14 0) 14 rfl (s' := KSt.low (MS70 boxW ks vs off n c i w j l e)) (x := (.exit 0)) rfl ?_
  exact hq
theorem MfD {off : Nat} {l : List Int} {e : TypeId} {ks : ByteArray} {vs : ByteArray} {n : Nat} {c : Nat} {i : Int} {w : Int} {j : Int}   {Q : Ex → St → Prop} (hq : Q .ret (KSt.low (MS4 off l e))) : Gets Try.prog (KH.low ⟨1, 1, [(0, 0, .tail off .u64 l e)]⟩) (codeAt [1, 1, 1, 1, 1] BM) (KSt.low (MS70 boxW ks vs off n c i w j l e)) Q := by
  rw [MC1_1_1_1_1]; refine Gets.seq ?_
  refine Mgo (MR55 boxW mkA mkAt mkOver ks vs off n c i w j l e) ?_
  rw [MC1_1_1_1_1_1]; refine Gets.ev fitA7.mix fitA7.cfg (fitA7.sound wma_sound 14 0) 14 rfl (s' := KSt.low (MS4 off l e)) (x := .ret) rfl ?_
  exact hq
noncomputable def BN : Code := bodyOf Try.prog 8
theorem BN_is : Try.f8.body = some BN := by kernel_rfl
theorem BN_ok : okCode Try.prog.globals.size BN = true := by kernel_rfl
noncomputable abbrev NEV (boxW : ByteArray → ByteArray → List Int) (mkA : List Int → List Int → Nat → Int → Int) (mkAt : List Int → List Int → Int) (mkOver : List Int → List Int → Bool) (c : Code) (s : KSt) (lv : List Nat) : Option (Ex × KSt) := evCK Try.prog cfgA7 (runK Try.prog cfgA7 fsA7 (conTk wmaDom (rcK [] (wmaT boxW mkA mkAt mkOver))) 14 40) 14 c s (normC 0 lv)
theorem Ngo {lv_ : List Nat} {co_ : Code} {st_ s' : KSt} {x : Ex} {Q : Ex → St → Prop} (hE_ : NEV boxW mkA mkAt mkOver co_ st_ lv_ = some (x, s')) (hq_ : Q x s'.low) (hok_ : okCode Try.prog.globals.size co_ = true := by kernel_rfl) : Gets Try.prog (KH.low ⟨0, 1, []⟩) co_ st_.low Q := Gets.ofN fitA7 wma_sound (rc_agree _ _ _) 14 40 hok_ hE_ hq_
theorem NeX {v : Value} {b c : Bool} (h : v = .bool b) (hb : b = c) : v = .bool c := by rw [h, hb]
theorem NC : BN = .seq (codeAt [0] BN) (codeAt [1] BN) := by kernel_rfl
theorem NC1 : (codeAt [1] BN) = .seq (codeAt [1, 0] BN) (codeAt [1, 1] BN) := by kernel_rfl
theorem NC1_0 : (codeAt [1, 0] BN) = .seq (codeAt [1, 0, 0] BN) (codeAt [1, 0, 1] BN) := by kernel_rfl
theorem NC1_0_1 : (codeAt [1, 0, 1] BN) = .cond (.tmp 31) (codeAt [1, 0, 1, 0] BN) (codeAt [1, 0, 1, 1] BN) := by kernel_rfl
theorem NC1_0_1_0 : (codeAt [1, 0, 1, 0] BN) = .seq (codeAt [1, 0, 1, 0, 0] BN) (codeAt [1, 0, 1, 0, 1] BN) := by kernel_rfl
theorem NC1_0_1_0_1 : (codeAt [1, 0, 1, 0, 1] BN) = .ret := by kernel_rfl
theorem NC1_1 : (codeAt [1, 1] BN) = .seq (codeAt [1, 1, 0] BN) (codeAt [1, 1, 1] BN) := by kernel_rfl
theorem NC1_1_1 : (codeAt [1, 1, 1] BN) = .seq (codeAt [1, 1, 1, 0] BN) (codeAt [1, 1, 1, 1] BN) := by kernel_rfl
theorem NC1_1_1_0 : (codeAt [1, 1, 1, 0] BN) = .seq (codeAt [1, 1, 1, 0, 0] BN) (codeAt [1, 1, 1, 0, 1] BN) := by kernel_rfl
theorem NC1_1_1_0_1 : (codeAt [1, 1, 1, 0, 1] BN) = .cond (.tmp 43) (codeAt [1, 1, 1, 0, 1, 0] BN) (codeAt [1, 1, 1, 0, 1, 1] BN) := by kernel_rfl
theorem NC1_1_1_1 : (codeAt [1, 1, 1, 1] BN) = .seq (codeAt [1, 1, 1, 1, 0] BN) (codeAt [1, 1, 1, 1, 1] BN) := by kernel_rfl
theorem NC1_1_1_1_0 : (codeAt [1, 1, 1, 1, 0] BN) = .seq (codeAt [1, 1, 1, 1, 0, 0] BN) (codeAt [1, 1, 1, 1, 0, 1] BN) := by kernel_rfl
theorem NC1_1_1_1_0_1_0_0 : (codeAt [1, 1, 1, 1, 0, 1, 0, 0] BN) = .seq (codeAt [1, 1, 1, 1, 0, 1, 0, 0, 0] BN) (codeAt [1, 1, 1, 1, 0, 1, 0, 0, 1] BN) := by kernel_rfl
theorem NC1_1_1_1_0_1_0_0_0 : (codeAt [1, 1, 1, 1, 0, 1, 0, 0, 0] BN) = .seq (codeAt [1, 1, 1, 1, 0, 1, 0, 0, 0, 0] BN) (codeAt [1, 1, 1, 1, 0, 1, 0, 0, 0, 1] BN) := by kernel_rfl
theorem NC1_1_1_1_0_1_0_0_0_1 : (codeAt [1, 1, 1, 1, 0, 1, 0, 0, 0, 1] BN) = .cond (.tmp 68) (codeAt [1, 1, 1, 1, 0, 1, 0, 0, 0, 1, 0] BN) (codeAt [1, 1, 1, 1, 0, 1, 0, 0, 0, 1, 1] BN) := by kernel_rfl
theorem NC1_1_1_1_0_1_0_0_1 : (codeAt [1, 1, 1, 1, 0, 1, 0, 0, 1] BN) = .seq (codeAt [1, 1, 1, 1, 0, 1, 0, 0, 1, 0] BN) (codeAt [1, 1, 1, 1, 0, 1, 0, 0, 1, 1] BN) := by kernel_rfl
theorem NC1_1_1_1_0_1_0_0_1_0 : (codeAt [1, 1, 1, 1, 0, 1, 0, 0, 1, 0] BN) = .block 1 (codeAt [1, 1, 1, 1, 0, 1, 0, 0, 1, 0, 0] BN) := by kernel_rfl
theorem NC1_1_1_1_0_1_0_0_1_0_0 : (codeAt [1, 1, 1, 1, 0, 1, 0, 0, 1, 0, 0] BN) = .seq (codeAt [1, 1, 1, 1, 0, 1, 0, 0, 1, 0, 0, 0] BN) (codeAt [1, 1, 1, 1, 0, 1, 0, 0, 1, 0, 0, 1] BN) := by kernel_rfl
theorem NC1_1_1_1_0_1_0_0_1_0_0_1 : (codeAt [1, 1, 1, 1, 0, 1, 0, 0, 1, 0, 0, 1] BN) = .seq (codeAt [1, 1, 1, 1, 0, 1, 0, 0, 1, 0, 0, 1, 0] BN) (codeAt [1, 1, 1, 1, 0, 1, 0, 0, 1, 0, 0, 1, 1] BN) := by kernel_rfl
theorem NC1_1_1_1_0_1_0_0_1_0_0_1_1 : (codeAt [1, 1, 1, 1, 0, 1, 0, 0, 1, 0, 0, 1, 1] BN) = .seq (codeAt [1, 1, 1, 1, 0, 1, 0, 0, 1, 0, 0, 1, 1, 0] BN) (codeAt [1, 1, 1, 1, 0, 1, 0, 0, 1, 0, 0, 1, 1, 1] BN) := by kernel_rfl
theorem NC1_1_1_1_0_1_0_0_1_0_0_1_1_1 : (codeAt [1, 1, 1, 1, 0, 1, 0, 0, 1, 0, 0, 1, 1, 1] BN) = .seq (codeAt [1, 1, 1, 1, 0, 1, 0, 0, 1, 0, 0, 1, 1, 1, 0] BN) (codeAt [1, 1, 1, 1, 0, 1, 0, 0, 1, 0, 0, 1, 1, 1, 1] BN) := by kernel_rfl
theorem NC1_1_1_1_0_1_0_0_1_0_0_1_1_1_1 : (codeAt [1, 1, 1, 1, 0, 1, 0, 0, 1, 0, 0, 1, 1, 1, 1] BN) = .seq (codeAt [1, 1, 1, 1, 0, 1, 0, 0, 1, 0, 0, 1, 1, 1, 1, 0] BN) (codeAt [1, 1, 1, 1, 0, 1, 0, 0, 1, 0, 0, 1, 1, 1, 1, 1] BN) := by kernel_rfl
theorem NC1_1_1_1_0_1_0_0_1_0_0_1_1_1_1_0 : (codeAt [1, 1, 1, 1, 0, 1, 0, 0, 1, 0, 0, 1, 1, 1, 1, 0] BN) = .seq (codeAt [1, 1, 1, 1, 0, 1, 0, 0, 1, 0, 0, 1, 1, 1, 1, 0, 0] BN) (codeAt [1, 1, 1, 1, 0, 1, 0, 0, 1, 0, 0, 1, 1, 1, 1, 0, 1] BN) := by kernel_rfl
theorem NC1_1_1_1_0_1_0_0_1_0_0_1_1_1_1_0_1 : (codeAt [1, 1, 1, 1, 0, 1, 0, 0, 1, 0, 0, 1, 1, 1, 1, 0, 1] BN) = .cond (.tmp 127) (codeAt [1, 1, 1, 1, 0, 1, 0, 0, 1, 0, 0, 1, 1, 1, 1, 0, 1, 0] BN) (codeAt [1, 1, 1, 1, 0, 1, 0, 0, 1, 0, 0, 1, 1, 1, 1, 0, 1, 1] BN) := by kernel_rfl
theorem NC1_1_1_1_0_1_0_0_1_0_0_1_1_1_1_1 : (codeAt [1, 1, 1, 1, 0, 1, 0, 0, 1, 0, 0, 1, 1, 1, 1, 1] BN) = .seq (codeAt [1, 1, 1, 1, 0, 1, 0, 0, 1, 0, 0, 1, 1, 1, 1, 1, 0] BN) (codeAt [1, 1, 1, 1, 0, 1, 0, 0, 1, 0, 0, 1, 1, 1, 1, 1, 1] BN) := by kernel_rfl
theorem NC1_1_1_1_0_1_0_0_1_0_0_1_1_1_1_1_1 : (codeAt [1, 1, 1, 1, 0, 1, 0, 0, 1, 0, 0, 1, 1, 1, 1, 1, 1] BN) = .cond (.tmp 131) (codeAt [1, 1, 1, 1, 0, 1, 0, 0, 1, 0, 0, 1, 1, 1, 1, 1, 1, 0] BN) (codeAt [1, 1, 1, 1, 0, 1, 0, 0, 1, 0, 0, 1, 1, 1, 1, 1, 1, 1] BN) := by kernel_rfl
theorem NC1_1_1_1_0_1_0_0_0_1_1 : (codeAt [1, 1, 1, 1, 0, 1, 0, 0, 0, 1, 1] BN) = .exit 0 := by kernel_rfl
theorem NC1_1_1_1_1 : (codeAt [1, 1, 1, 1, 1] BN) = .seq (codeAt [1, 1, 1, 1, 1, 0] BN) (codeAt [1, 1, 1, 1, 1, 1] BN) := by kernel_rfl
theorem NC1_1_1_1_1_1 : (codeAt [1, 1, 1, 1, 1, 1] BN) = .ret := by kernel_rfl
theorem NC1_1_1_1_0_1 : (codeAt [1, 1, 1, 1, 0, 1] BN) = .block 0 (codeAt [1, 1, 1, 1, 0, 1, 0] BN) := by kernel_rfl
theorem NC1_1_1_1_0_1_0 : (codeAt [1, 1, 1, 1, 0, 1, 0] BN) = .loop (codeAt [1, 1, 1, 1, 0, 1, 0, 0] BN) := by kernel_rfl
section
variable (boxW : ByteArray → ByteArray → List Int) (mkA : List Int → List Int → Nat → Int → Int) (mkAt : List Int → List Int → Int) (mkOver : List Int → List Int → Bool)
noncomputable def NS0 (ks : ByteArray) (vs : ByteArray) : KSt := (firstK [(.string ks), (.string vs), (.slice (some ⟨0, 0, some 0⟩) 0 0)] 139 ⟨0, 1, []⟩)
noncomputable def NS1 (ks : ByteArray) (vs : ByteArray) : KSt := ⟨(frameL 139 [(0, (.string ks)), (1, (.string vs)), (2, (.slice (some ⟨0, 0, some 0⟩) 0 0))]), ⟨0, 1, []⟩⟩
theorem NR1 (ks : ByteArray) (vs : ByteArray) : NEV boxW mkA mkAt mkOver (codeAt [0] BN) (NS0 ks vs) [0, 1, 2] =
  some (.normal, (NS1 ks vs)) := by kernel_rfl
noncomputable def NS2 (ks : ByteArray) (vs : ByteArray) : KSt := ⟨(frameL 139 [(0, (.string ks)), (1, (.string vs)), (2, (.slice (some ⟨0, 0, some 0⟩) 0 0)), (31, (.bool true))]), ⟨0, 1, []⟩⟩
noncomputable def NS3 (ks : ByteArray) (vs : ByteArray) : KSt := ⟨(frameL 139 [(0, (.string ks)), (1, (.string vs)), (2, (.slice (some ⟨0, 0, some 0⟩) 0 0)), (31, (.bool (decide ((((ByteArray.size vs) : Nat) : Int) > 1000))))]), ⟨0, 1, []⟩⟩
theorem NR2 (ks : ByteArray) (vs : ByteArray) : NEV boxW mkA mkAt mkOver (codeAt [1, 0, 0] BN) (NS1 ks vs) [0, 1, 2, 31] =
  bif (decide ((((ByteArray.size ks) : Nat) : Int) > 1000)) then
    some (.normal, (NS2 ks vs))
  else
    some (.normal, (NS3 ks vs)) := by kernel_rfl
noncomputable def NS4  : KSt := ⟨(frameL 139 [(6, (.bool true))]), ⟨0, 1, []⟩⟩
theorem NR3 (ks : ByteArray) (vs : ByteArray) : NEV boxW mkA mkAt mkOver (codeAt [1, 0, 1, 0, 0] BN) (NS2 ks vs) [6] =
  some (.normal, NS4) := by kernel_rfl
theorem NR4 (ks : ByteArray) (vs : ByteArray) : NEV boxW mkA mkAt mkOver (codeAt [1, 0, 1, 0, 0] BN) (NS3 ks vs) [6] =
  some (.normal, NS4) := by kernel_rfl
theorem NR5 (ks : ByteArray) (vs : ByteArray) : NEV boxW mkA mkAt mkOver (codeAt [1, 0, 1, 1] BN) (NS3 ks vs) [0, 1, 2] =
  some (.normal, (NS1 ks vs)) := by kernel_rfl
noncomputable def NS5 (ks : ByteArray) (vs : ByteArray) : KSt := ⟨(frameL 139 [(0, (.string ks)), (1, (.string vs)), (2, (.slice (some ⟨0, 0, some 0⟩) 0 0)), (7, (.pointer (some ⟨0, 0, none⟩)))]), ⟨2, 1, [(1, 0, .ints .u64 (boxW ks vs) 30 true), (0, 0, .cells [(.bool true), (.slice (some ⟨1, 0, none⟩) (List.length (boxW ks vs)) (List.length (boxW ks vs))), (.int .u64 0), (.int .i64 (-1)), (.int .i64 5), (.int .u64 0), (.int .i64 (((List.length (boxW ks vs)) : Nat) : Int)), (.int .u64 0), (.int .u64 0)] 88 true)]⟩⟩
theorem NR6 (ks : ByteArray) (vs : ByteArray) : NEV boxW mkA mkAt mkOver (codeAt [1, 1, 0] BN) (NS1 ks vs) [0, 1, 2, 7] =
  bif ((Nat.ble (ByteArray.size ks) 16) && (Nat.ble (ByteArray.size vs) 24)) then
    some (.normal, (NS5 boxW ks vs))
  else
    none := by kernel_rfl
noncomputable def NS6 (ks : ByteArray) (vs : ByteArray) : KSt := ⟨(frameL 139 [(0, (.string ks)), (1, (.string vs)), (2, (.slice (some ⟨0, 0, some 0⟩) 0 0)), (7, (.pointer (some ⟨0, 0, none⟩))), (43, (.bool true))]), ⟨2, 1, [(1, 0, .ints .u64 (boxW ks vs) 30 true), (0, 0, .cells [(.bool true), (.slice (some ⟨1, 0, none⟩) (List.length (boxW ks vs)) (List.length (boxW ks vs))), (.int .u64 0), (.int .i64 (-1)), (.int .i64 5), (.int .u64 0), (.int .i64 (((List.length (boxW ks vs)) : Nat) : Int)), (.int .u64 0), (.int .u64 0)] 88 true)]⟩⟩
noncomputable def NS7 (ks : ByteArray) (vs : ByteArray) : KSt := ⟨(frameL 139 [(0, (.string ks)), (1, (.string vs)), (2, (.slice (some ⟨0, 0, some 0⟩) 0 0)), (7, (.pointer (some ⟨0, 0, none⟩))), (43, (.bool (decide ((((ByteArray.size vs) : Nat) : Int) > 24))))]), ⟨2, 1, [(1, 0, .ints .u64 (boxW ks vs) 30 true), (0, 0, .cells [(.bool true), (.slice (some ⟨1, 0, none⟩) (List.length (boxW ks vs)) (List.length (boxW ks vs))), (.int .u64 0), (.int .i64 (-1)), (.int .i64 5), (.int .u64 0), (.int .i64 (((List.length (boxW ks vs)) : Nat) : Int)), (.int .u64 0), (.int .u64 0)] 88 true)]⟩⟩
theorem NR7 (ks : ByteArray) (vs : ByteArray) : NEV boxW mkA mkAt mkOver (codeAt [1, 1, 1, 0, 0] BN) (NS5 boxW ks vs) [0, 1, 2, 7, 43] =
  bif (decide ((((ByteArray.size ks) : Nat) : Int) > 16)) then
    some (.normal, (NS6 boxW ks vs))
  else
    some (.normal, (NS7 boxW ks vs)) := by kernel_rfl
theorem NR8 (ks : ByteArray) (vs : ByteArray) : NEV boxW mkA mkAt mkOver (codeAt [1, 1, 1, 0, 1, 1] BN) (NS7 boxW ks vs) [0, 1, 2, 7] =
  some (.normal, (NS5 boxW ks vs)) := by kernel_rfl
noncomputable def NS8 (ks : ByteArray) (vs : ByteArray) : KSt := ⟨(frameL 139 [(0, (.string ks)), (1, (.string vs)), (2, (.slice (some ⟨0, 0, some 0⟩) 0 0)), (7, (.pointer (some ⟨0, 0, none⟩))), (12, (.int .i64 0))]), ⟨2, 1, [(1, 0, .ints .u64 (boxW ks vs) 30 true), (0, 0, .cells [(.bool true), (.slice (some ⟨1, 0, none⟩) (List.length (boxW ks vs)) (List.length (boxW ks vs))), (.int .u64 0), (.int .i64 (-1)), (.int .i64 5), (.int .u64 0), (.int .i64 (((List.length (boxW ks vs)) : Nat) : Int)), (.int .u64 0), (.int .u64 0)] 88 true)]⟩⟩
theorem NR9 (ks : ByteArray) (vs : ByteArray) : NEV boxW mkA mkAt mkOver (codeAt [1, 1, 1, 1, 0, 0] BN) (NS5 boxW ks vs) [0, 1, 2, 7, 12] =
  some (.normal, (NS8 boxW ks vs)) := by kernel_rfl
noncomputable def NS9 (ks : ByteArray) (vs : ByteArray) : KSt := ⟨(frameL 139 [(0, (.string ks)), (1, (.string vs)), (2, (.slice (some ⟨0, 0, some 0⟩) 0 0)), (7, (.pointer (some ⟨0, 0, none⟩))), (12, (.int .i64 0)), (68, (.bool true))]), ⟨2, 1, [(1, 0, .ints .u64 (boxW ks vs) 30 true), (0, 0, .cells [(.bool true), (.slice (some ⟨1, 0, none⟩) (List.length (boxW ks vs)) (List.length (boxW ks vs))), (.int .u64 0), (.int .i64 (-1)), (.int .i64 5), (.int .u64 0), (.int .i64 (((List.length (boxW ks vs)) : Nat) : Int)), (.int .u64 0), (.int .u64 0)] 88 true)]⟩⟩
theorem NR10 (ks : ByteArray) (vs : ByteArray) : NEV boxW mkA mkAt mkOver (codeAt [1, 1, 1, 1, 0, 1, 0, 0, 0, 0] BN) (NS8 boxW ks vs) [0, 1, 2, 7, 12, 68] =
  some (.normal, (NS9 boxW ks vs)) := by kernel_rfl
theorem NR11 (ks : ByteArray) (vs : ByteArray) : NEV boxW mkA mkAt mkOver (codeAt [1, 1, 1, 1, 0, 1, 0, 0, 0, 1, 0] BN) (NS9 boxW ks vs) [0, 1, 2, 7, 12] =
  some (.normal, (NS8 boxW ks vs)) := by kernel_rfl
noncomputable def NS10 (ks : ByteArray) (vs : ByteArray) : KSt := ⟨(frameL 139 [(0, (.string ks)), (1, (.string vs)), (2, (.slice (some ⟨0, 0, some 0⟩) 0 0)), (7, (.pointer (some ⟨0, 0, none⟩))), (12, (.int .i64 0)), (13, (.pointer (some ⟨1, 0, none⟩)))]), ⟨3, 1, [(2, 0, .ints .u64 (boxW ks vs) 30 true), (1, 0, .cells [(.slice (some ⟨0, 0, some 0⟩) 0 0), (.int .i64 0), (.bool false), (.int .i64 0), (.int .u64 0), (.int .i64 0), (.int .u64 0), (.int .u64 0)] 37 true), (0, 0, .cells [(.bool true), (.slice (some ⟨2, 0, none⟩) (List.length (boxW ks vs)) (List.length (boxW ks vs))), (.int .u64 0), (.int .i64 (-1)), (.int .i64 5), (.int .u64 0), (.int .i64 (((List.length (boxW ks vs)) : Nat) : Int)), (.int .u64 0), (.int .u64 0)] 88 true)]⟩⟩
theorem NR12 (ks : ByteArray) (vs : ByteArray) : NEV boxW mkA mkAt mkOver (codeAt [1, 1, 1, 1, 0, 1, 0, 0, 1, 0, 0, 0] BN) (NS8 boxW ks vs) [0, 1, 2, 7, 12, 13] =
  some (.normal, (NS10 boxW ks vs)) := by kernel_rfl
noncomputable def NS11 (ks : ByteArray) (vs : ByteArray) : KSt := ⟨(frameL 139 [(0, (.string ks)), (1, (.string vs)), (2, (.slice (some ⟨0, 0, some 0⟩) 0 0)), (7, (.pointer (some ⟨0, 0, none⟩))), (12, (.int .i64 0)), (13, (.pointer (some ⟨1, 0, none⟩))), (14, (.int .u64 (List.getD ([] : List Int) 0 0)))]), ⟨3, 1, [(2, 0, .ints .u64 (boxW ks vs) 30 true), (1, 0, .cells [(.slice (some ⟨0, 0, some 0⟩) 0 0), (.int .i64 (mkAt ([] : List Int) (boxW ks vs))), (.bool (mkOver ([] : List Int) (boxW ks vs))), (.int .i64 (mkA ([] : List Int) (boxW ks vs) 0 0)), (.int .u64 (mkA ([] : List Int) (boxW ks vs) 1 0)), (.int .i64 (mkA ([] : List Int) (boxW ks vs) 2 0)), (.int .u64 (mkA ([] : List Int) (boxW ks vs) 3 0)), (.int .u64 (mkA ([] : List Int) (boxW ks vs) 4 0))] 37 true), (0, 0, .cells [(.bool true), (.slice (some ⟨2, 0, none⟩) (List.length (boxW ks vs)) (List.length (boxW ks vs))), (.int .u64 0), (.int .i64 (-1)), (.int .i64 5), (.int .u64 0), (.int .i64 (((List.length (boxW ks vs)) : Nat) : Int)), (.int .u64 0), (.int .u64 0)] 88 true)]⟩⟩
theorem NR13 (ks : ByteArray) (vs : ByteArray) : NEV boxW mkA mkAt mkOver (codeAt [1, 1, 1, 1, 0, 1, 0, 0, 1, 0, 0, 1, 0] BN) (NS10 boxW ks vs) [0, 1, 2, 7, 12, 13, 14] =
  bif ((decide (0 = 0)) && ((!false) && ((Nat.ble (List.length ([] : List Int)) 999) && ((Nat.ble (ByteArray.size ks) 16) && (Nat.ble (ByteArray.size vs) 24))))) then
    some (.normal, (NS11 boxW mkA mkAt mkOver ks vs))
  else
    none := by kernel_rfl
noncomputable def NS12 (ks : ByteArray) (vs : ByteArray) : KSt := ⟨(frameL 139 [(0, (.string ks)), (1, (.string vs)), (2, (.slice (some ⟨0, 0, some 0⟩) 0 0)), (7, (.pointer (some ⟨0, 0, none⟩))), (12, (.int .i64 0)), (13, (.pointer (some ⟨1, 0, none⟩))), (14, (.int .u64 (List.getD ([] : List Int) 0 0))), (15, (.int .u64 0)), (16, (.bool false))]), ⟨3, 1, [(2, 0, .ints .u64 (boxW ks vs) 30 true), (1, 0, .cells [(.slice (some ⟨0, 0, some 0⟩) 0 0), (.int .i64 (mkAt ([] : List Int) (boxW ks vs))), (.bool (mkOver ([] : List Int) (boxW ks vs))), (.int .i64 (mkA ([] : List Int) (boxW ks vs) 0 0)), (.int .u64 (mkA ([] : List Int) (boxW ks vs) 1 0)), (.int .i64 (mkA ([] : List Int) (boxW ks vs) 2 0)), (.int .u64 (mkA ([] : List Int) (boxW ks vs) 3 0)), (.int .u64 (mkA ([] : List Int) (boxW ks vs) 4 0))] 37 true), (0, 0, .cells [(.bool true), (.slice (some ⟨2, 0, none⟩) (List.length (boxW ks vs)) (List.length (boxW ks vs))), (.int .u64 0), (.int .i64 (-1)), (.int .i64 5), (.int .u64 0), (.int .i64 (((List.length (boxW ks vs)) : Nat) : Int)), (.int .u64 0), (.int .u64 0)] 88 true)]⟩⟩
noncomputable def NS13 (ks : ByteArray) (vs : ByteArray) : KSt := ⟨(frameL 139 [(0, (.string ks)), (1, (.string vs)), (2, (.slice (some ⟨0, 0, some 0⟩) 0 0)), (7, (.pointer (some ⟨0, 0, none⟩))), (12, (.int .i64 0)), (13, (.pointer (some ⟨1, 0, none⟩))), (14, (.int .u64 (List.getD ([] : List Int) 0 0))), (15, (.int .u64 0)), (16, (.bool true))]), ⟨3, 1, [(2, 0, .ints .u64 (boxW ks vs) 30 true), (1, 0, .cells [(.slice (some ⟨0, 0, some 0⟩) 0 0), (.int .i64 (mkAt ([] : List Int) (boxW ks vs))), (.bool (mkOver ([] : List Int) (boxW ks vs))), (.int .i64 (mkA ([] : List Int) (boxW ks vs) 0 0)), (.int .u64 (mkA ([] : List Int) (boxW ks vs) 1 0)), (.int .i64 (mkA ([] : List Int) (boxW ks vs) 2 0)), (.int .u64 (mkA ([] : List Int) (boxW ks vs) 3 0)), (.int .u64 (mkA ([] : List Int) (boxW ks vs) 4 0))] 37 true), (0, 0, .cells [(.bool true), (.slice (some ⟨2, 0, none⟩) (List.length (boxW ks vs)) (List.length (boxW ks vs))), (.int .u64 0), (.int .i64 (-1)), (.int .i64 5), (.int .u64 0), (.int .i64 (((List.length (boxW ks vs)) : Nat) : Int)), (.int .u64 0), (.int .u64 0)] 88 true)]⟩⟩
theorem NR14 (ks : ByteArray) (vs : ByteArray) : NEV boxW mkA mkAt mkOver (codeAt [1, 1, 1, 1, 0, 1, 0, 0, 1, 0, 0, 1, 1, 0] BN) (NS11 boxW mkA mkAt mkOver ks vs) [0, 1, 2, 7, 12, 13, 14, 15, 16] =
  bif (!(false && (true && (((((List.length (boxW ks vs)) : Nat) : Int) == 0) && true)))) then
    some (.normal, (NS12 boxW mkA mkAt mkOver ks vs))
  else
    some (.normal, (NS13 boxW mkA mkAt mkOver ks vs)) := by kernel_rfl
noncomputable def NS14 (ks : ByteArray) (vs : ByteArray) : KSt := ⟨(frameL 139 [(0, (.string ks)), (1, (.string vs)), (2, (.slice (some ⟨0, 0, some 0⟩) 0 0)), (7, (.pointer (some ⟨0, 0, none⟩))), (12, (.int .i64 0)), (13, (.pointer (some ⟨1, 0, none⟩))), (14, (.int .u64 (List.getD ([] : List Int) 0 0))), (15, (.int .u64 0)), (16, (.bool false)), (17, (.pointer (some ⟨2, 0, none⟩))), (18, (.bool false))]), ⟨4, 1, [(3, 0, .ints .u64 (boxW ks vs) 30 true), (2, 0, .cells [(.int .i64 0), (.int .u64 0), (.int .i64 0), (.int .u64 0), (.int .u64 0)] 35 true), (1, 0, .cells [(.slice (some ⟨0, 0, some 0⟩) 0 0), (.int .i64 (mkAt ([] : List Int) (boxW ks vs))), (.bool (mkOver ([] : List Int) (boxW ks vs))), (.int .i64 (mkA ([] : List Int) (boxW ks vs) 0 0)), (.int .u64 (mkA ([] : List Int) (boxW ks vs) 1 0)), (.int .i64 (mkA ([] : List Int) (boxW ks vs) 2 0)), (.int .u64 (mkA ([] : List Int) (boxW ks vs) 3 0)), (.int .u64 (mkA ([] : List Int) (boxW ks vs) 4 0))] 37 true), (0, 0, .cells [(.bool true), (.slice (some ⟨3, 0, none⟩) (List.length (boxW ks vs)) (List.length (boxW ks vs))), (.int .u64 0), (.int .i64 (-1)), (.int .i64 5), (.int .u64 0), (.int .i64 (((List.length (boxW ks vs)) : Nat) : Int)), (.int .u64 0), (.int .u64 0)] 88 true)]⟩⟩
noncomputable def NS15 (ks : ByteArray) (vs : ByteArray) : KSt := ⟨(frameL 139 [(0, (.string ks)), (1, (.string vs)), (2, (.slice (some ⟨0, 0, some 0⟩) 0 0)), (7, (.pointer (some ⟨0, 0, none⟩))), (12, (.int .i64 0)), (13, (.pointer (some ⟨1, 0, none⟩))), (14, (.int .u64 (List.getD ([] : List Int) 0 0))), (15, (.int .u64 0)), (16, (.bool false)), (17, (.pointer (some ⟨2, 0, none⟩))), (18, (.bool true))]), ⟨4, 1, [(3, 0, .ints .u64 (boxW ks vs) 30 true), (2, 0, .cells [(.int .i64 5), (.int .u64 0), (.int .i64 (((List.length (boxW ks vs)) : Nat) : Int)), (.int .u64 0), (.int .u64 0)] 35 true), (1, 0, .cells [(.slice (some ⟨0, 0, some 0⟩) 0 0), (.int .i64 (mkAt ([] : List Int) (boxW ks vs))), (.bool (mkOver ([] : List Int) (boxW ks vs))), (.int .i64 (mkA ([] : List Int) (boxW ks vs) 0 0)), (.int .u64 (mkA ([] : List Int) (boxW ks vs) 1 0)), (.int .i64 (mkA ([] : List Int) (boxW ks vs) 2 0)), (.int .u64 (mkA ([] : List Int) (boxW ks vs) 3 0)), (.int .u64 (mkA ([] : List Int) (boxW ks vs) 4 0))] 37 true), (0, 0, .cells [(.bool true), (.slice (some ⟨3, 0, none⟩) (List.length (boxW ks vs)) (List.length (boxW ks vs))), (.int .u64 0), (.int .i64 (-1)), (.int .i64 5), (.int .u64 0), (.int .i64 (((List.length (boxW ks vs)) : Nat) : Int)), (.int .u64 0), (.int .u64 0)] 88 true)]⟩⟩
theorem NR15 (ks : ByteArray) (vs : ByteArray) : NEV boxW mkA mkAt mkOver (codeAt [1, 1, 1, 1, 0, 1, 0, 0, 1, 0, 0, 1, 1, 1, 0] BN) (NS12 boxW mkA mkAt mkOver ks vs) [0, 1, 2, 7, 12, 13, 14, 15, 16, 17, 18] =
  bif (false && (true && (((((List.length (boxW ks vs)) : Nat) : Int) == 0) && true))) then
    some (.normal, (NS14 boxW mkA mkAt mkOver ks vs))
  else
    bif (true && (true && (((((List.length (boxW ks vs)) : Nat) : Int) == (((List.length (boxW ks vs)) : Nat) : Int)) && true))) then
      bif (!(decide ((((List.length (boxW ks vs)) : Nat) : Int) ≥ 1))) then
        some (.normal, (NS14 boxW mkA mkAt mkOver ks vs))
      else
        some (.normal, (NS15 boxW mkA mkAt mkOver ks vs))
    else
      some (.normal, (NS14 boxW mkA mkAt mkOver ks vs)) := by kernel_rfl
noncomputable def NS16 (ks : ByteArray) (vs : ByteArray) : KSt := ⟨(frameL 139 [(0, (.string ks)), (1, (.string vs)), (2, (.slice (some ⟨0, 0, some 0⟩) 0 0)), (7, (.pointer (some ⟨0, 0, none⟩))), (12, (.int .i64 0)), (127, (.bool true))]), ⟨2, 1, [(1, 0, .ints .u64 (boxW ks vs) 30 true), (0, 0, .cells [(.bool true), (.slice (some ⟨1, 0, none⟩) (List.length (boxW ks vs)) (List.length (boxW ks vs))), (.int .u64 0), (.int .i64 (-1)), (.int .i64 5), (.int .u64 0), (.int .i64 (((List.length (boxW ks vs)) : Nat) : Int)), (.int .u64 0), (.int .u64 0)] 88 true)]⟩⟩
noncomputable def NS17 (ks : ByteArray) (vs : ByteArray) : KSt := ⟨(frameL 139 [(0, (.string ks)), (1, (.string vs)), (2, (.slice (some ⟨0, 0, some 0⟩) 0 0)), (7, (.pointer (some ⟨0, 0, none⟩))), (12, (.int .i64 0)), (127, (.bool false))]), ⟨2, 1, [(1, 0, .ints .u64 (boxW ks vs) 30 true), (0, 0, .cells [(.bool true), (.slice (some ⟨1, 0, none⟩) (List.length (boxW ks vs)) (List.length (boxW ks vs))), (.int .u64 0), (.int .i64 (-1)), (.int .i64 5), (.int .u64 0), (.int .i64 (((List.length (boxW ks vs)) : Nat) : Int)), (.int .u64 0), (.int .u64 0)] 88 true)]⟩⟩
theorem NR16 (ks : ByteArray) (vs : ByteArray) : NEV boxW mkA mkAt mkOver (codeAt [1, 1, 1, 1, 0, 1, 0, 0, 1, 0, 0, 1, 1, 1, 1, 0, 0] BN) (NS15 boxW mkA mkAt mkOver ks vs) [0, 1, 2, 7, 12, 127] =
  bif (!(true == (mkOver ([] : List Int) (boxW ks vs)))) then
    some (.normal, (NS16 boxW ks vs))
  else
    bif (!((5 == (mkA ([] : List Int) (boxW ks vs) 0 0)) && ((0 == (mkA ([] : List Int) (boxW ks vs) 1 0)) && (((((List.length (boxW ks vs)) : Nat) : Int) == (mkA ([] : List Int) (boxW ks vs) 2 0)) && ((0 == (mkA ([] : List Int) (boxW ks vs) 3 0)) && ((0 == (mkA ([] : List Int) (boxW ks vs) 4 0)) && true)))))) then
      some (.normal, (NS16 boxW ks vs))
    else
      bif (false == (mkOver ([] : List Int) (boxW ks vs))) then
        some (.normal, (NS16 boxW ks vs))
      else
        some (.normal, (NS17 boxW ks vs)) := by kernel_rfl
theorem NR17 (ks : ByteArray) (vs : ByteArray) : NEV boxW mkA mkAt mkOver (codeAt [1, 1, 1, 1, 0, 1, 0, 0, 1, 0, 0, 1, 1, 1, 1, 0, 1, 1] BN) (NS17 boxW ks vs) [0, 1, 2, 7, 12] =
  some (.normal, (NS8 boxW ks vs)) := by kernel_rfl
noncomputable def NS18 (ks : ByteArray) (vs : ByteArray) : KSt := ⟨(frameL 139 [(0, (.string ks)), (1, (.string vs)), (2, (.slice (some ⟨0, 0, some 0⟩) 0 0)), (7, (.pointer (some ⟨0, 0, none⟩))), (12, (.int .i64 0)), (131, (.bool false))]), ⟨2, 1, [(1, 0, .ints .u64 (boxW ks vs) 30 true), (0, 0, .cells [(.bool true), (.slice (some ⟨1, 0, none⟩) (List.length (boxW ks vs)) (List.length (boxW ks vs))), (.int .u64 0), (.int .i64 (-1)), (.int .i64 5), (.int .u64 0), (.int .i64 (((List.length (boxW ks vs)) : Nat) : Int)), (.int .u64 0), (.int .u64 0)] 88 true)]⟩⟩
theorem NR18 (ks : ByteArray) (vs : ByteArray) : NEV boxW mkA mkAt mkOver (codeAt [1, 1, 1, 1, 0, 1, 0, 0, 1, 0, 0, 1, 1, 1, 1, 1, 0] BN) (NS8 boxW ks vs) [0, 1, 2, 7, 12, 131] =
  some (.normal, (NS18 boxW ks vs)) := by kernel_rfl
theorem NR19 (ks : ByteArray) (vs : ByteArray) : NEV boxW mkA mkAt mkOver (codeAt [1, 1, 1, 1, 0, 1, 0, 0, 1, 0, 0, 1, 1, 1, 1, 1, 1, 1] BN) (NS18 boxW ks vs) [0, 1, 2, 7, 12] =
  some (.normal, (NS8 boxW ks vs)) := by kernel_rfl
noncomputable def NS19 (ks : ByteArray) (vs : ByteArray) : KSt := ⟨(frameL 139 [(0, (.string ks)), (1, (.string vs)), (2, (.slice (some ⟨0, 0, some 0⟩) 0 0)), (7, (.pointer (some ⟨0, 0, none⟩))), (12, (.int .i64 1))]), ⟨2, 1, [(1, 0, .ints .u64 (boxW ks vs) 30 true), (0, 0, .cells [(.bool true), (.slice (some ⟨1, 0, none⟩) (List.length (boxW ks vs)) (List.length (boxW ks vs))), (.int .u64 0), (.int .i64 (-1)), (.int .i64 5), (.int .u64 0), (.int .i64 (((List.length (boxW ks vs)) : Nat) : Int)), (.int .u64 0), (.int .u64 0)] 88 true)]⟩⟩
theorem NR20 (ks : ByteArray) (vs : ByteArray) : NEV boxW mkA mkAt mkOver (codeAt [1, 1, 1, 1, 0, 1, 0, 0, 1, 1] BN) (NS8 boxW ks vs) [0, 1, 2, 7, 12] =
  some (.normal, (NS19 boxW ks vs)) := by kernel_rfl
noncomputable def NS20 (ks : ByteArray) (vs : ByteArray) : KSt := ⟨(frameL 139 [(0, (.string ks)), (1, (.string vs)), (2, (.slice (some ⟨0, 0, some 0⟩) 0 0)), (7, (.pointer (some ⟨0, 0, none⟩))), (12, (.int .i64 1)), (68, (.bool false))]), ⟨2, 1, [(1, 0, .ints .u64 (boxW ks vs) 30 true), (0, 0, .cells [(.bool true), (.slice (some ⟨1, 0, none⟩) (List.length (boxW ks vs)) (List.length (boxW ks vs))), (.int .u64 0), (.int .i64 (-1)), (.int .i64 5), (.int .u64 0), (.int .i64 (((List.length (boxW ks vs)) : Nat) : Int)), (.int .u64 0), (.int .u64 0)] 88 true)]⟩⟩
theorem NR21 (ks : ByteArray) (vs : ByteArray) : NEV boxW mkA mkAt mkOver (codeAt [1, 1, 1, 1, 0, 1, 0, 0, 0, 0] BN) (NS19 boxW ks vs) [0, 1, 2, 7, 12, 68] =
  some (.normal, (NS20 boxW ks vs)) := by kernel_rfl
theorem NR22 (ks : ByteArray) (vs : ByteArray) : NEV boxW mkA mkAt mkOver (codeAt [1, 1, 1, 1, 1, 0] BN) (NS20 boxW ks vs) [6] =
  some (.normal, NS4) := by kernel_rfl
end
theorem Ngk {ks : ByteArray} {vs : ByteArray} (hk : 1000 < ks.size)   {Q : Ex → St → Prop} (hq : Q .ret (KSt.low NS4)) : Gets Try.prog (KH.low ⟨0, 1, []⟩) BN (KSt.low (NS0 ks vs)) Q := by
  rw [NC]; refine Gets.seq ?_
  refine Ngo (NR1 boxW mkA mkAt mkOver ks vs) ?_
  rw [NC1]; refine Gets.seq ?_
  rw [NC1_0]; refine Gets.seq ?_
  refine Ngo (x := .normal) (s' := (NS2 ks vs)) ((NR2 boxW mkA mkAt mkOver ks vs).trans (by rw [condT (decide_eq_true (by omega))])) ?_
  rw [NC1_0_1]; refine Gets.cond true (by kernel_rfl) (by kernel_rfl) ?_; show Gets _ _ (codeAt [1, 0, 1, 0] BN) _ _
  rw [NC1_0_1_0]; refine Gets.seq ?_
  refine Ngo (NR3 boxW mkA mkAt mkOver ks vs) ?_
  rw [NC1_0_1_0_1]; refine Gets.ev fitA7.mix fitA7.cfg (fitA7.sound wma_sound 14 0) 14 rfl (s' := KSt.low NS4) (x := .ret) rfl ?_
  exact hq
theorem Ngv {ks : ByteArray} {vs : ByteArray} (hk : ks.size ≤ 1000) (hv : 1000 < vs.size)   {Q : Ex → St → Prop} (hq : Q .ret (KSt.low NS4)) : Gets Try.prog (KH.low ⟨0, 1, []⟩) BN (KSt.low (NS0 ks vs)) Q := by
  rw [NC]; refine Gets.seq ?_
  refine Ngo (NR1 boxW mkA mkAt mkOver ks vs) ?_
  rw [NC1]; refine Gets.seq ?_
  rw [NC1_0]; refine Gets.seq ?_
  refine Ngo (x := .normal) (s' := (NS3 ks vs)) ((NR2 boxW mkA mkAt mkOver ks vs).trans (by rw [condF (decide_eq_false (by omega))])) ?_
  rw [NC1_0_1]; refine Gets.cond true (by kernel_rfl) (NeX (b := (decide ((((ByteArray.size vs) : Nat) : Int) > 1000))) (by kernel_rfl) ((show (decide ((((ByteArray.size vs) : Nat) : Int) > 1000)) = true from decide_eq_true (by omega)))) ?_; show Gets _ _ (codeAt [1, 0, 1, 0] BN) _ _
  rw [NC1_0_1_0]; refine Gets.seq ?_
  refine Ngo (NR4 boxW mkA mkAt mkOver ks vs) ?_
  rw [NC1_0_1_0_1]; refine Gets.ev fitA7.mix fitA7.cfg (fitA7.sound wma_sound 14 0) 14 rfl (s' := KSt.low NS4) (x := .ret) rfl ?_
  exact hq
theorem Npre {ks : ByteArray} {vs : ByteArray} (hk : ks.size ≤ 1000) (hv : vs.size ≤ 1000) (h16 : ks.size ≤ 16) (h24 : vs.size ≤ 24)   {Q : Ex → St → Prop} (hq : Gets Try.prog (KH.low ⟨0, 1, []⟩) (codeAt [1, 1, 1, 1, 0, 1] BN) (KSt.low (NS8 boxW ks vs)) (onN (fun s => Gets Try.prog (KH.low ⟨0, 1, []⟩) (codeAt [1, 1, 1, 1, 1] BN) s (Q)) (Q))) : Gets Try.prog (KH.low ⟨0, 1, []⟩) BN (KSt.low (NS0 ks vs)) Q := by
  rw [NC]; refine Gets.seq ?_
  refine Ngo (NR1 boxW mkA mkAt mkOver ks vs) ?_
  rw [NC1]; refine Gets.seq ?_
  rw [NC1_0]; refine Gets.seq ?_
  refine Ngo (x := .normal) (s' := (NS3 ks vs)) ((NR2 boxW mkA mkAt mkOver ks vs).trans (by rw [condF (decide_eq_false (by omega))])) ?_
  rw [NC1_0_1]; refine Gets.cond false (by kernel_rfl) (NeX (b := (decide ((((ByteArray.size vs) : Nat) : Int) > 1000))) (by kernel_rfl) ((show (decide ((((ByteArray.size vs) : Nat) : Int) > 1000)) = false from decide_eq_false (by omega)))) ?_; show Gets _ _ (codeAt [1, 0, 1, 1] BN) _ _
  refine Ngo (NR5 boxW mkA mkAt mkOver ks vs) ?_
  rw [NC1_1]; refine Gets.seq ?_
  refine Ngo (x := .normal) (s' := (NS5 boxW ks vs)) ((NR6 boxW mkA mkAt mkOver ks vs).trans (by rw [condT (and_t (Nat.ble_eq_true_of_le h16) (Nat.ble_eq_true_of_le h24))])) ?_
  rw [NC1_1_1]; refine Gets.seq ?_
  rw [NC1_1_1_0]; refine Gets.seq ?_
  refine Ngo (x := .normal) (s' := (NS7 boxW ks vs)) ((NR7 boxW mkA mkAt mkOver ks vs).trans (by rw [condF (decide_eq_false (by omega))])) ?_
  rw [NC1_1_1_0_1]; refine Gets.cond false (by kernel_rfl) (NeX (b := (decide ((((ByteArray.size vs) : Nat) : Int) > 24))) (by kernel_rfl) ((show (decide ((((ByteArray.size vs) : Nat) : Int) > 24)) = false from decide_eq_false (by omega)))) ?_; show Gets _ _ (codeAt [1, 1, 1, 0, 1, 1] BN) _ _
  refine Ngo (NR8 boxW mkA mkAt mkOver ks vs) ?_
  rw [NC1_1_1_1]; refine Gets.seq ?_
  rw [NC1_1_1_1_0]; refine Gets.seq ?_
  refine Ngo (NR9 boxW mkA mkAt mkOver ks vs) ?_
  exact hq
theorem Nz0 {ks : ByteArray} {vs : ByteArray} (h16 : ks.size ≤ 16) (h24 : vs.size ≤ 24) (hM1 : 1 ≤ (boxW ks vs).length) (hM6 : (boxW ks vs).length ≤ 6) (hov : mkOver ([] : List Int) (boxW ks vs) = true) (a0 : ∀ y, mkA ([] : List Int) (boxW ks vs) 0 y = 5) (a1 : ∀ y, mkA ([] : List Int) (boxW ks vs) 1 y = 0) (a2 : ∀ y, mkA ([] : List Int) (boxW ks vs) 2 y = (((List.length (boxW ks vs)) : Nat) : Int)) (a3 : ∀ y, mkA ([] : List Int) (boxW ks vs) 3 y = 0) (a4 : ∀ y, mkA ([] : List Int) (boxW ks vs) 4 y = 0)   {Q : Ex → St → Prop} (hq : Q .normal (KSt.low (NS19 boxW ks vs))) : Gets Try.prog (KH.low ⟨0, 1, []⟩) (codeAt [1, 1, 1, 1, 0, 1, 0, 0] BN) (KSt.low (NS8 boxW ks vs)) Q := by
  rw [NC1_1_1_1_0_1_0_0]; refine Gets.seq ?_
  rw [NC1_1_1_1_0_1_0_0_0]; refine Gets.seq ?_
  refine Ngo (NR10 boxW mkA mkAt mkOver ks vs) ?_
  rw [NC1_1_1_1_0_1_0_0_0_1]; refine Gets.cond true (by kernel_rfl) (by kernel_rfl) ?_; show Gets _ _ (codeAt [1, 1, 1, 1, 0, 1, 0, 0, 0, 1, 0] BN) _ _
  refine Ngo (NR11 boxW mkA mkAt mkOver ks vs) ?_
  rw [NC1_1_1_1_0_1_0_0_1]; refine Gets.seq ?_
  rw [NC1_1_1_1_0_1_0_0_1_0]; refine Gets.block ?_
  rw [NC1_1_1_1_0_1_0_0_1_0_0]; refine Gets.seq ?_
  refine Ngo (NR12 boxW mkA mkAt mkOver ks vs) ?_
  rw [NC1_1_1_1_0_1_0_0_1_0_0_1]; refine Gets.seq ?_
  refine Ngo (x := .normal) (s' := (NS11 boxW mkA mkAt mkOver ks vs)) ((NR13 boxW mkA mkAt mkOver ks vs).trans (by rw [condT (and_t (decide_eq_true (by omega)) (and_t (not_t (rfl)) (and_t (Nat.ble_eq_true_of_le (show List.length ([] : List Int) ≤ 999 from Nat.zero_le _)) (and_t (Nat.ble_eq_true_of_le h16) (Nat.ble_eq_true_of_le h24)))))])) ?_
  rw [NC1_1_1_1_0_1_0_0_1_0_0_1_1]; refine Gets.seq ?_
  refine Ngo (x := .normal) (s' := (NS12 boxW mkA mkAt mkOver ks vs)) ((NR14 boxW mkA mkAt mkOver ks vs).trans (by rw [condT (not_t (and_f1 (rfl)))])) ?_
  rw [NC1_1_1_1_0_1_0_0_1_0_0_1_1_1]; refine Gets.seq ?_
  refine Ngo (x := .normal) (s' := (NS15 boxW mkA mkAt mkOver ks vs)) ((NR15 boxW mkA mkAt mkOver ks vs).trans (by rw [condF (and_f1 (rfl)), condT (and_t (rfl) (and_t (rfl) (and_t (beq_self_eq_true _) (rfl)))), condF (not_f (decide_eq_true (by (first | omega | ((try simp (disch := omega) only [wrap_i64_id]) <;> omega)))))])) ?_
  rw [NC1_1_1_1_0_1_0_0_1_0_0_1_1_1_1]; refine Gets.seq ?_
  rw [NC1_1_1_1_0_1_0_0_1_0_0_1_1_1_1_0]; refine Gets.seq ?_
  refine Ngo (x := .normal) (s' := (NS17 boxW ks vs)) ((NR16 boxW mkA mkAt mkOver ks vs).trans (by rw [condF (not_f (by rw [hov]; rfl)), condF (not_f (and_t (by rw [a0]; exact beq_self_eq_true _) (and_t (by rw [a1]; exact beq_self_eq_true _) (and_t (by rw [a2]; exact beq_self_eq_true _) (and_t (by rw [a3]; exact beq_self_eq_true _) (and_t (by rw [a4]; exact beq_self_eq_true _) (rfl))))))), condF (by rw [hov]; rfl)])) ?_
  rw [NC1_1_1_1_0_1_0_0_1_0_0_1_1_1_1_0_1]; refine Gets.cond false (by kernel_rfl) (by kernel_rfl) ?_; show Gets _ _ (codeAt [1, 1, 1, 1, 0, 1, 0, 0, 1, 0, 0, 1, 1, 1, 1, 0, 1, 1] BN) _ _
  refine Ngo (NR17 boxW mkA mkAt mkOver ks vs) ?_
  rw [NC1_1_1_1_0_1_0_0_1_0_0_1_1_1_1_1]; refine Gets.seq ?_
  refine Ngo (NR18 boxW mkA mkAt mkOver ks vs) ?_
  rw [NC1_1_1_1_0_1_0_0_1_0_0_1_1_1_1_1_1]; refine Gets.cond false (by kernel_rfl) (by kernel_rfl) ?_; show Gets _ _ (codeAt [1, 1, 1, 1, 0, 1, 0, 0, 1, 0, 0, 1, 1, 1, 1, 1, 1, 1] BN) _ _
  refine Ngo (NR19 boxW mkA mkAt mkOver ks vs) ?_
  refine Ngo (NR20 boxW mkA mkAt mkOver ks vs) ?_
  exact hq
theorem NxS {ks : ByteArray} {vs : ByteArray}   {Q : Ex → St → Prop} (hq : Q (.exit 0) (KSt.low (NS20 boxW ks vs))) : Gets Try.prog (KH.low ⟨0, 1, []⟩) (codeAt [1, 1, 1, 1, 0, 1, 0, 0] BN) (KSt.low (NS19 boxW ks vs)) Q := by
  rw [NC1_1_1_1_0_1_0_0]; refine Gets.seq ?_
  rw [NC1_1_1_1_0_1_0_0_0]; refine Gets.seq ?_
  refine Ngo (NR21 boxW mkA mkAt mkOver ks vs) ?_
  rw [NC1_1_1_1_0_1_0_0_0_1]; refine Gets.cond false (by kernel_rfl) (by kernel_rfl) ?_; show Gets _ _ (codeAt [1, 1, 1, 1, 0, 1, 0, 0, 0, 1, 1] BN) _ _
  rw [NC1_1_1_1_0_1_0_0_0_1_1]; refine Gets.ev fitA7.mix fitA7.cfg (fitA7.sound wma_sound 14 0) 14 rfl (s' := KSt.low (NS20 boxW ks vs)) (x := (.exit 0)) rfl ?_
  exact hq
theorem NfS {ks : ByteArray} {vs : ByteArray}   {Q : Ex → St → Prop} (hq : Q .ret (KSt.low NS4)) : Gets Try.prog (KH.low ⟨0, 1, []⟩) (codeAt [1, 1, 1, 1, 1] BN) (KSt.low (NS20 boxW ks vs)) Q := by
  rw [NC1_1_1_1_1]; refine Gets.seq ?_
  refine Ngo (NR22 boxW mkA mkAt mkOver ks vs) ?_
  rw [NC1_1_1_1_1_1]; refine Gets.ev fitA7.mix fitA7.cfg (fitA7.sound wma_sound 14 0) 14 rfl (s' := KSt.low NS4) (x := .ret) rfl ?_
  exact hq
noncomputable def BMn : Code := bodyOf Try.prog 8
theorem BMn_is : Try.f8.body = some BMn := by kernel_rfl
theorem BMn_ok : okCode Try.prog.globals.size BMn = true := by kernel_rfl
noncomputable abbrev MnEV (c : Code) (s : KSt) (lv : List Nat) : Option (Ex × KSt) := evCK Try.prog cfgA7 (runK Try.prog cfgA7 fsA7 (conTk wmnDom (rcK [] wmnT)) 14 40) 14 c s (normC 1 lv)
theorem Mngo {lv_ : List Nat} {co_ : Code} {st_ s' : KSt} {x : Ex} {Q : Ex → St → Prop} {off : Nat} {l : List Int} {e : TypeId} (hE_ : MnEV co_ st_ lv_ = some (x, s')) (hq_ : Q x s'.low) (hok_ : okCode Try.prog.globals.size co_ = true := by kernel_rfl) : Gets Try.prog (KH.low ⟨1, 1, [(0, 0, .tail off .u64 l e)]⟩) co_ st_.low Q := Gets.ofN fitA7 wmn_sound (rc_agree _ _ _) 14 40 hok_ hE_ hq_
theorem MneX {v : Value} {b c : Bool} (h : v = .bool b) (hb : b = c) : v = .bool c := by rw [h, hb]
theorem MnC : BMn = .seq (codeAt [0] BMn) (codeAt [1] BMn) := by kernel_rfl
theorem MnC1 : (codeAt [1] BMn) = .seq (codeAt [1, 0] BMn) (codeAt [1, 1] BMn) := by kernel_rfl
theorem MnC1_0 : (codeAt [1, 0] BMn) = .seq (codeAt [1, 0, 0] BMn) (codeAt [1, 0, 1] BMn) := by kernel_rfl
theorem MnC1_0_1 : (codeAt [1, 0, 1] BMn) = .cond (.tmp 31) (codeAt [1, 0, 1, 0] BMn) (codeAt [1, 0, 1, 1] BMn) := by kernel_rfl
theorem MnC1_1 : (codeAt [1, 1] BMn) = .seq (codeAt [1, 1, 0] BMn) (codeAt [1, 1, 1] BMn) := by kernel_rfl
theorem MnC1_1_1 : (codeAt [1, 1, 1] BMn) = .seq (codeAt [1, 1, 1, 0] BMn) (codeAt [1, 1, 1, 1] BMn) := by kernel_rfl
theorem MnC1_1_1_0 : (codeAt [1, 1, 1, 0] BMn) = .seq (codeAt [1, 1, 1, 0, 0] BMn) (codeAt [1, 1, 1, 0, 1] BMn) := by kernel_rfl
theorem MnC1_1_1_0_1 : (codeAt [1, 1, 1, 0, 1] BMn) = .cond (.tmp 43) (codeAt [1, 1, 1, 0, 1, 0] BMn) (codeAt [1, 1, 1, 0, 1, 1] BMn) := by kernel_rfl
theorem MnC1_1_1_0_1_0 : (codeAt [1, 1, 1, 0, 1, 0] BMn) = .seq (codeAt [1, 1, 1, 0, 1, 0, 0] BMn) (codeAt [1, 1, 1, 0, 1, 0, 1] BMn) := by kernel_rfl
theorem MnC1_1_1_0_1_0_1 : (codeAt [1, 1, 1, 0, 1, 0, 1] BMn) = .seq (codeAt [1, 1, 1, 0, 1, 0, 1, 0] BMn) (codeAt [1, 1, 1, 0, 1, 0, 1, 1] BMn) := by kernel_rfl
theorem MnC1_1_1_0_1_0_1_1 : (codeAt [1, 1, 1, 0, 1, 0, 1, 1] BMn) = .seq (codeAt [1, 1, 1, 0, 1, 0, 1, 1, 0] BMn) (codeAt [1, 1, 1, 0, 1, 0, 1, 1, 1] BMn) := by kernel_rfl
theorem MnC1_1_1_0_1_0_1_1_1 : (codeAt [1, 1, 1, 0, 1, 0, 1, 1, 1] BMn) = .seq (codeAt [1, 1, 1, 0, 1, 0, 1, 1, 1, 0] BMn) (codeAt [1, 1, 1, 0, 1, 0, 1, 1, 1, 1] BMn) := by kernel_rfl
theorem MnC1_1_1_0_1_0_1_1_1_1 : (codeAt [1, 1, 1, 0, 1, 0, 1, 1, 1, 1] BMn) = .ret := by kernel_rfl
noncomputable def MnS0 (ks : ByteArray) (vs : ByteArray) (off : Nat) (n : Nat) (c : Nat) (l : List Int) (e : TypeId) : KSt := (firstK [(.string ks), (.string vs), (.slice (some ⟨0, off, none⟩) n c)] 139 ⟨1, 1, [(0, 0, .tail off .u64 l e)]⟩)
noncomputable def MnS1 (ks : ByteArray) (vs : ByteArray) (off : Nat) (n : Nat) (c : Nat) (l : List Int) (e : TypeId) : KSt := ⟨(frameL 139 [(0, (.string ks)), (1, (.string vs)), (2, (.slice (some ⟨0, off, none⟩) n c))]), ⟨1, 1, [(0, 0, .tail off .u64 l e)]⟩⟩
theorem MnR1 (ks : ByteArray) (vs : ByteArray) (off : Nat) (n : Nat) (c : Nat) (l : List Int) (e : TypeId) : MnEV (codeAt [0] BMn) (MnS0 ks vs off n c l e) [0, 1, 2] =
  some (.normal, (MnS1 ks vs off n c l e)) := by kernel_rfl
noncomputable def MnS2 (ks : ByteArray) (vs : ByteArray) (off : Nat) (n : Nat) (c : Nat) (l : List Int) (e : TypeId) : KSt := ⟨(frameL 139 [(0, (.string ks)), (1, (.string vs)), (2, (.slice (some ⟨0, off, none⟩) n c)), (31, (.bool true))]), ⟨1, 1, [(0, 0, .tail off .u64 l e)]⟩⟩
noncomputable def MnS3 (ks : ByteArray) (vs : ByteArray) (off : Nat) (n : Nat) (c : Nat) (l : List Int) (e : TypeId) : KSt := ⟨(frameL 139 [(0, (.string ks)), (1, (.string vs)), (2, (.slice (some ⟨0, off, none⟩) n c)), (31, (.bool (decide ((((ByteArray.size vs) : Nat) : Int) > 1000))))]), ⟨1, 1, [(0, 0, .tail off .u64 l e)]⟩⟩
theorem MnR2 (ks : ByteArray) (vs : ByteArray) (off : Nat) (n : Nat) (c : Nat) (l : List Int) (e : TypeId) : MnEV (codeAt [1, 0, 0] BMn) (MnS1 ks vs off n c l e) [0, 1, 2, 31] =
  bif (decide (((n : Nat) : Int) > 20)) then
    some (.normal, (MnS2 ks vs off n c l e))
  else
    bif (decide ((((ByteArray.size ks) : Nat) : Int) > 1000)) then
      some (.normal, (MnS2 ks vs off n c l e))
    else
      some (.normal, (MnS3 ks vs off n c l e)) := by kernel_rfl
theorem MnR3 (ks : ByteArray) (vs : ByteArray) (off : Nat) (n : Nat) (c : Nat) (l : List Int) (e : TypeId) : MnEV (codeAt [1, 0, 1, 1] BMn) (MnS3 ks vs off n c l e) [0, 1, 2] =
  some (.normal, (MnS1 ks vs off n c l e)) := by kernel_rfl
noncomputable def MnS4 (ks : ByteArray) (vs : ByteArray) (off : Nat) (n : Nat) (c : Nat) (l : List Int) (e : TypeId) : KSt := ⟨(frameL 139 [(0, (.string ks)), (1, (.string vs)), (2, (.slice (some ⟨0, off, none⟩) n c)), (7, (.pointer (some ⟨1, 0, none⟩)))]), ⟨2, 1, [(1, 0, .cells [(.bool false), (.slice none 0 0), (.int .u64 0), (.int .i64 0), (.int .i64 0), (.int .u64 0), (.int .i64 0), (.int .u64 0), (.int .u64 0)] 88 true), (0, 0, .tail off .u64 l e)]⟩⟩
theorem MnR4 (ks : ByteArray) (vs : ByteArray) (off : Nat) (n : Nat) (c : Nat) (l : List Int) (e : TypeId) : MnEV (codeAt [1, 1, 0] BMn) (MnS1 ks vs off n c l e) [0, 1, 2, 7] =
  bif (!((Nat.ble (ByteArray.size ks) 16) && (Nat.ble (ByteArray.size vs) 24))) then
    some (.normal, (MnS4 ks vs off n c l e))
  else
    none := by kernel_rfl
noncomputable def MnS5 (ks : ByteArray) (vs : ByteArray) (off : Nat) (n : Nat) (c : Nat) (l : List Int) (e : TypeId) : KSt := ⟨(frameL 139 [(0, (.string ks)), (1, (.string vs)), (2, (.slice (some ⟨0, off, none⟩) n c)), (7, (.pointer (some ⟨1, 0, none⟩))), (43, (.bool true))]), ⟨2, 1, [(1, 0, .cells [(.bool false), (.slice none 0 0), (.int .u64 0), (.int .i64 0), (.int .i64 0), (.int .u64 0), (.int .i64 0), (.int .u64 0), (.int .u64 0)] 88 true), (0, 0, .tail off .u64 l e)]⟩⟩
noncomputable def MnS6 (ks : ByteArray) (vs : ByteArray) (off : Nat) (n : Nat) (c : Nat) (l : List Int) (e : TypeId) : KSt := ⟨(frameL 139 [(0, (.string ks)), (1, (.string vs)), (2, (.slice (some ⟨0, off, none⟩) n c)), (7, (.pointer (some ⟨1, 0, none⟩))), (43, (.bool (decide ((((ByteArray.size vs) : Nat) : Int) > 24))))]), ⟨2, 1, [(1, 0, .cells [(.bool false), (.slice none 0 0), (.int .u64 0), (.int .i64 0), (.int .i64 0), (.int .u64 0), (.int .i64 0), (.int .u64 0), (.int .u64 0)] 88 true), (0, 0, .tail off .u64 l e)]⟩⟩
theorem MnR5 (ks : ByteArray) (vs : ByteArray) (off : Nat) (n : Nat) (c : Nat) (l : List Int) (e : TypeId) : MnEV (codeAt [1, 1, 1, 0, 0] BMn) (MnS4 ks vs off n c l e) [0, 1, 2, 7, 43] =
  bif (decide ((((ByteArray.size ks) : Nat) : Int) > 16)) then
    some (.normal, (MnS5 ks vs off n c l e))
  else
    some (.normal, (MnS6 ks vs off n c l e)) := by kernel_rfl
noncomputable def MnS7 (off : Nat) (l : List Int) (e : TypeId) : KSt := ⟨(frameL 139 [(7, (.pointer (some ⟨1, 0, none⟩))), (9, (.bool false))]), ⟨2, 1, [(1, 0, .cells [(.bool false), (.slice none 0 0), (.int .u64 0), (.int .i64 0), (.int .i64 0), (.int .u64 0), (.int .i64 0), (.int .u64 0), (.int .u64 0)] 88 true), (0, 0, .tail off .u64 l e)]⟩⟩
theorem MnR6 (ks : ByteArray) (vs : ByteArray) (off : Nat) (n : Nat) (c : Nat) (l : List Int) (e : TypeId) : MnEV (codeAt [1, 1, 1, 0, 1, 0, 0] BMn) (MnS5 ks vs off n c l e) [7, 9] =
  some (.normal, (MnS7 off l e)) := by kernel_rfl
theorem MnR7 (off : Nat) (l : List Int) (e : TypeId) : MnEV (codeAt [1, 1, 1, 0, 1, 0, 1, 0] BMn) (MnS7 off l e) [7, 9] =
  some (.normal, (MnS7 off l e)) := by kernel_rfl
noncomputable def MnS8 (off : Nat) (l : List Int) (e : TypeId) : KSt := ⟨(frameL 139 [(9, (.bool false)), (11, (.bool false))]), ⟨1, 1, [(0, 0, .tail off .u64 l e)]⟩⟩
theorem MnR8 (off : Nat) (l : List Int) (e : TypeId) : MnEV (codeAt [1, 1, 1, 0, 1, 0, 1, 1, 0] BMn) (MnS7 off l e) [9, 11] =
  some (.normal, (MnS8 off l e)) := by kernel_rfl
noncomputable def MnS9 (off : Nat) (l : List Int) (e : TypeId) : KSt := ⟨(frameL 139 [(6, (.bool true))]), ⟨1, 1, [(0, 0, .tail off .u64 l e)]⟩⟩
theorem MnR9 (off : Nat) (l : List Int) (e : TypeId) : MnEV (codeAt [1, 1, 1, 0, 1, 0, 1, 1, 1, 0] BMn) (MnS8 off l e) [6] =
  some (.normal, (MnS9 off l e)) := by kernel_rfl
theorem MnR10 (ks : ByteArray) (vs : ByteArray) (off : Nat) (n : Nat) (c : Nat) (l : List Int) (e : TypeId) : MnEV (codeAt [1, 1, 1, 0, 1, 0, 0] BMn) (MnS6 ks vs off n c l e) [7, 9] =
  some (.normal, (MnS7 off l e)) := by kernel_rfl
theorem Mna {n : Nat} {ks : ByteArray} {vs : ByteArray} {off : Nat} {l : List Int} {e : TypeId} {c : Nat} (hn20 : n ≤ 20) (hk : ks.size ≤ 1000) (hv : vs.size ≤ 1000) (hno : 16 < ks.size)   {Q : Ex → St → Prop} (hq : Q .ret (KSt.low (MnS9 off l e))) : Gets Try.prog (KH.low ⟨1, 1, [(0, 0, .tail off .u64 l e)]⟩) BMn (KSt.low (MnS0 ks vs off n c l e)) Q := by
  rw [MnC]; refine Gets.seq ?_
  refine Mngo (MnR1 ks vs off n c l e) ?_
  rw [MnC1]; refine Gets.seq ?_
  rw [MnC1_0]; refine Gets.seq ?_
  refine Mngo (x := .normal) (s' := (MnS3 ks vs off n c l e)) ((MnR2 ks vs off n c l e).trans (by rw [condF (decide_eq_false (by omega)), condF (decide_eq_false (by omega))])) ?_
  rw [MnC1_0_1]; refine Gets.cond false (by kernel_rfl) (MneX (b := (decide ((((ByteArray.size vs) : Nat) : Int) > 1000))) (by kernel_rfl) ((show (decide ((((ByteArray.size vs) : Nat) : Int) > 1000)) = false from decide_eq_false (by omega)))) ?_; show Gets _ _ (codeAt [1, 0, 1, 1] BMn) _ _
  refine Mngo (MnR3 ks vs off n c l e) ?_
  rw [MnC1_1]; refine Gets.seq ?_
  refine Mngo (x := .normal) (s' := (MnS4 ks vs off n c l e)) ((MnR4 ks vs off n c l e).trans (by rw [condT (not_t (and_f1 (ble_f (by omega))))])) ?_
  rw [MnC1_1_1]; refine Gets.seq ?_
  rw [MnC1_1_1_0]; refine Gets.seq ?_
  refine Mngo (x := .normal) (s' := (MnS5 ks vs off n c l e)) ((MnR5 ks vs off n c l e).trans (by rw [condT (decide_eq_true (by omega))])) ?_
  rw [MnC1_1_1_0_1]; refine Gets.cond true (by kernel_rfl) (by kernel_rfl) ?_; show Gets _ _ (codeAt [1, 1, 1, 0, 1, 0] BMn) _ _
  rw [MnC1_1_1_0_1_0]; refine Gets.seq ?_
  refine Mngo (MnR6 ks vs off n c l e) ?_
  rw [MnC1_1_1_0_1_0_1]; refine Gets.seq ?_
  refine Mngo (MnR7 off l e) ?_
  rw [MnC1_1_1_0_1_0_1_1]; refine Gets.seq ?_
  refine Mngo (MnR8 off l e) ?_
  rw [MnC1_1_1_0_1_0_1_1_1]; refine Gets.seq ?_
  refine Mngo (MnR9 off l e) ?_
  rw [MnC1_1_1_0_1_0_1_1_1_1]; refine Gets.ev fitA7.mix fitA7.cfg (fitA7.sound wmn_sound 14 0) 14 rfl (s' := KSt.low (MnS9 off l e)) (x := .ret) rfl ?_
  exact hq
theorem Mnb {n : Nat} {ks : ByteArray} {vs : ByteArray} {off : Nat} {l : List Int} {e : TypeId} {c : Nat} (hn20 : n ≤ 20) (hk : ks.size ≤ 1000) (hv : vs.size ≤ 1000) (hno : ks.size ≤ 16) (hn2 : 24 < vs.size)   {Q : Ex → St → Prop} (hq : Q .ret (KSt.low (MnS9 off l e))) : Gets Try.prog (KH.low ⟨1, 1, [(0, 0, .tail off .u64 l e)]⟩) BMn (KSt.low (MnS0 ks vs off n c l e)) Q := by
  rw [MnC]; refine Gets.seq ?_
  refine Mngo (MnR1 ks vs off n c l e) ?_
  rw [MnC1]; refine Gets.seq ?_
  rw [MnC1_0]; refine Gets.seq ?_
  refine Mngo (x := .normal) (s' := (MnS3 ks vs off n c l e)) ((MnR2 ks vs off n c l e).trans (by rw [condF (decide_eq_false (by omega)), condF (decide_eq_false (by omega))])) ?_
  rw [MnC1_0_1]; refine Gets.cond false (by kernel_rfl) (MneX (b := (decide ((((ByteArray.size vs) : Nat) : Int) > 1000))) (by kernel_rfl) ((show (decide ((((ByteArray.size vs) : Nat) : Int) > 1000)) = false from decide_eq_false (by omega)))) ?_; show Gets _ _ (codeAt [1, 0, 1, 1] BMn) _ _
  refine Mngo (MnR3 ks vs off n c l e) ?_
  rw [MnC1_1]; refine Gets.seq ?_
  refine Mngo (x := .normal) (s' := (MnS4 ks vs off n c l e)) ((MnR4 ks vs off n c l e).trans (by rw [condT (not_t (and_f2 (ble_f (by omega))))])) ?_
  rw [MnC1_1_1]; refine Gets.seq ?_
  rw [MnC1_1_1_0]; refine Gets.seq ?_
  refine Mngo (x := .normal) (s' := (MnS6 ks vs off n c l e)) ((MnR5 ks vs off n c l e).trans (by rw [condF (decide_eq_false (by omega))])) ?_
  rw [MnC1_1_1_0_1]; refine Gets.cond true (by kernel_rfl) (MneX (b := (decide ((((ByteArray.size vs) : Nat) : Int) > 24))) (by kernel_rfl) ((show (decide ((((ByteArray.size vs) : Nat) : Int) > 24)) = true from decide_eq_true (by omega)))) ?_; show Gets _ _ (codeAt [1, 1, 1, 0, 1, 0] BMn) _ _
  rw [MnC1_1_1_0_1_0]; refine Gets.seq ?_
  refine Mngo (MnR10 ks vs off n c l e) ?_
  rw [MnC1_1_1_0_1_0_1]; refine Gets.seq ?_
  refine Mngo (MnR7 off l e) ?_
  rw [MnC1_1_1_0_1_0_1_1]; refine Gets.seq ?_
  refine Mngo (MnR8 off l e) ?_
  rw [MnC1_1_1_0_1_0_1_1_1]; refine Gets.seq ?_
  refine Mngo (MnR9 off l e) ?_
  rw [MnC1_1_1_0_1_0_1_1_1_1]; refine Gets.ev fitA7.mix fitA7.cfg (fitA7.sound wmn_sound 14 0) 14 rfl (s' := KSt.low (MnS9 off l e)) (x := .ret) rfl ?_
  exact hq
noncomputable def BNn : Code := bodyOf Try.prog 8
theorem BNn_is : Try.f8.body = some BNn := by kernel_rfl
theorem BNn_ok : okCode Try.prog.globals.size BNn = true := by kernel_rfl
noncomputable abbrev NnEV (c : Code) (s : KSt) (lv : List Nat) : Option (Ex × KSt) := evCK Try.prog cfgA7 (runK Try.prog cfgA7 fsA7 (conTk wmnDom (rcK [] wmnT)) 14 40) 14 c s (normC 0 lv)
theorem Nngo {lv_ : List Nat} {co_ : Code} {st_ s' : KSt} {x : Ex} {Q : Ex → St → Prop} (hE_ : NnEV co_ st_ lv_ = some (x, s')) (hq_ : Q x s'.low) (hok_ : okCode Try.prog.globals.size co_ = true := by kernel_rfl) : Gets Try.prog (KH.low ⟨0, 1, []⟩) co_ st_.low Q := Gets.ofN fitA7 wmn_sound (rc_agree _ _ _) 14 40 hok_ hE_ hq_
theorem NneX {v : Value} {b c : Bool} (h : v = .bool b) (hb : b = c) : v = .bool c := by rw [h, hb]
theorem NnC : BNn = .seq (codeAt [0] BNn) (codeAt [1] BNn) := by kernel_rfl
theorem NnC1 : (codeAt [1] BNn) = .seq (codeAt [1, 0] BNn) (codeAt [1, 1] BNn) := by kernel_rfl
theorem NnC1_0 : (codeAt [1, 0] BNn) = .seq (codeAt [1, 0, 0] BNn) (codeAt [1, 0, 1] BNn) := by kernel_rfl
theorem NnC1_0_1 : (codeAt [1, 0, 1] BNn) = .cond (.tmp 31) (codeAt [1, 0, 1, 0] BNn) (codeAt [1, 0, 1, 1] BNn) := by kernel_rfl
theorem NnC1_1 : (codeAt [1, 1] BNn) = .seq (codeAt [1, 1, 0] BNn) (codeAt [1, 1, 1] BNn) := by kernel_rfl
theorem NnC1_1_1 : (codeAt [1, 1, 1] BNn) = .seq (codeAt [1, 1, 1, 0] BNn) (codeAt [1, 1, 1, 1] BNn) := by kernel_rfl
theorem NnC1_1_1_0 : (codeAt [1, 1, 1, 0] BNn) = .seq (codeAt [1, 1, 1, 0, 0] BNn) (codeAt [1, 1, 1, 0, 1] BNn) := by kernel_rfl
theorem NnC1_1_1_0_1 : (codeAt [1, 1, 1, 0, 1] BNn) = .cond (.tmp 43) (codeAt [1, 1, 1, 0, 1, 0] BNn) (codeAt [1, 1, 1, 0, 1, 1] BNn) := by kernel_rfl
theorem NnC1_1_1_0_1_0 : (codeAt [1, 1, 1, 0, 1, 0] BNn) = .seq (codeAt [1, 1, 1, 0, 1, 0, 0] BNn) (codeAt [1, 1, 1, 0, 1, 0, 1] BNn) := by kernel_rfl
theorem NnC1_1_1_0_1_0_1 : (codeAt [1, 1, 1, 0, 1, 0, 1] BNn) = .seq (codeAt [1, 1, 1, 0, 1, 0, 1, 0] BNn) (codeAt [1, 1, 1, 0, 1, 0, 1, 1] BNn) := by kernel_rfl
theorem NnC1_1_1_0_1_0_1_1 : (codeAt [1, 1, 1, 0, 1, 0, 1, 1] BNn) = .seq (codeAt [1, 1, 1, 0, 1, 0, 1, 1, 0] BNn) (codeAt [1, 1, 1, 0, 1, 0, 1, 1, 1] BNn) := by kernel_rfl
theorem NnC1_1_1_0_1_0_1_1_1 : (codeAt [1, 1, 1, 0, 1, 0, 1, 1, 1] BNn) = .seq (codeAt [1, 1, 1, 0, 1, 0, 1, 1, 1, 0] BNn) (codeAt [1, 1, 1, 0, 1, 0, 1, 1, 1, 1] BNn) := by kernel_rfl
theorem NnC1_1_1_0_1_0_1_1_1_1 : (codeAt [1, 1, 1, 0, 1, 0, 1, 1, 1, 1] BNn) = .ret := by kernel_rfl
noncomputable def NnS0 (ks : ByteArray) (vs : ByteArray) : KSt := (firstK [(.string ks), (.string vs), (.slice (some ⟨0, 0, some 0⟩) 0 0)] 139 ⟨0, 1, []⟩)
noncomputable def NnS1 (ks : ByteArray) (vs : ByteArray) : KSt := ⟨(frameL 139 [(0, (.string ks)), (1, (.string vs)), (2, (.slice (some ⟨0, 0, some 0⟩) 0 0))]), ⟨0, 1, []⟩⟩
theorem NnR1 (ks : ByteArray) (vs : ByteArray) : NnEV (codeAt [0] BNn) (NnS0 ks vs) [0, 1, 2] =
  some (.normal, (NnS1 ks vs)) := by kernel_rfl
noncomputable def NnS2 (ks : ByteArray) (vs : ByteArray) : KSt := ⟨(frameL 139 [(0, (.string ks)), (1, (.string vs)), (2, (.slice (some ⟨0, 0, some 0⟩) 0 0)), (31, (.bool true))]), ⟨0, 1, []⟩⟩
noncomputable def NnS3 (ks : ByteArray) (vs : ByteArray) : KSt := ⟨(frameL 139 [(0, (.string ks)), (1, (.string vs)), (2, (.slice (some ⟨0, 0, some 0⟩) 0 0)), (31, (.bool (decide ((((ByteArray.size vs) : Nat) : Int) > 1000))))]), ⟨0, 1, []⟩⟩
theorem NnR2 (ks : ByteArray) (vs : ByteArray) : NnEV (codeAt [1, 0, 0] BNn) (NnS1 ks vs) [0, 1, 2, 31] =
  bif (decide ((((ByteArray.size ks) : Nat) : Int) > 1000)) then
    some (.normal, (NnS2 ks vs))
  else
    some (.normal, (NnS3 ks vs)) := by kernel_rfl
theorem NnR3 (ks : ByteArray) (vs : ByteArray) : NnEV (codeAt [1, 0, 1, 1] BNn) (NnS3 ks vs) [0, 1, 2] =
  some (.normal, (NnS1 ks vs)) := by kernel_rfl
noncomputable def NnS4 (ks : ByteArray) (vs : ByteArray) : KSt := ⟨(frameL 139 [(0, (.string ks)), (1, (.string vs)), (2, (.slice (some ⟨0, 0, some 0⟩) 0 0)), (7, (.pointer (some ⟨0, 0, none⟩)))]), ⟨1, 1, [(0, 0, .cells [(.bool false), (.slice none 0 0), (.int .u64 0), (.int .i64 0), (.int .i64 0), (.int .u64 0), (.int .i64 0), (.int .u64 0), (.int .u64 0)] 88 true)]⟩⟩
theorem NnR4 (ks : ByteArray) (vs : ByteArray) : NnEV (codeAt [1, 1, 0] BNn) (NnS1 ks vs) [0, 1, 2, 7] =
  bif (!((Nat.ble (ByteArray.size ks) 16) && (Nat.ble (ByteArray.size vs) 24))) then
    some (.normal, (NnS4 ks vs))
  else
    none := by kernel_rfl
noncomputable def NnS5 (ks : ByteArray) (vs : ByteArray) : KSt := ⟨(frameL 139 [(0, (.string ks)), (1, (.string vs)), (2, (.slice (some ⟨0, 0, some 0⟩) 0 0)), (7, (.pointer (some ⟨0, 0, none⟩))), (43, (.bool true))]), ⟨1, 1, [(0, 0, .cells [(.bool false), (.slice none 0 0), (.int .u64 0), (.int .i64 0), (.int .i64 0), (.int .u64 0), (.int .i64 0), (.int .u64 0), (.int .u64 0)] 88 true)]⟩⟩
noncomputable def NnS6 (ks : ByteArray) (vs : ByteArray) : KSt := ⟨(frameL 139 [(0, (.string ks)), (1, (.string vs)), (2, (.slice (some ⟨0, 0, some 0⟩) 0 0)), (7, (.pointer (some ⟨0, 0, none⟩))), (43, (.bool (decide ((((ByteArray.size vs) : Nat) : Int) > 24))))]), ⟨1, 1, [(0, 0, .cells [(.bool false), (.slice none 0 0), (.int .u64 0), (.int .i64 0), (.int .i64 0), (.int .u64 0), (.int .i64 0), (.int .u64 0), (.int .u64 0)] 88 true)]⟩⟩
theorem NnR5 (ks : ByteArray) (vs : ByteArray) : NnEV (codeAt [1, 1, 1, 0, 0] BNn) (NnS4 ks vs) [0, 1, 2, 7, 43] =
  bif (decide ((((ByteArray.size ks) : Nat) : Int) > 16)) then
    some (.normal, (NnS5 ks vs))
  else
    some (.normal, (NnS6 ks vs)) := by kernel_rfl
noncomputable def NnS7  : KSt := ⟨(frameL 139 [(7, (.pointer (some ⟨0, 0, none⟩))), (9, (.bool false))]), ⟨1, 1, [(0, 0, .cells [(.bool false), (.slice none 0 0), (.int .u64 0), (.int .i64 0), (.int .i64 0), (.int .u64 0), (.int .i64 0), (.int .u64 0), (.int .u64 0)] 88 true)]⟩⟩
theorem NnR6 (ks : ByteArray) (vs : ByteArray) : NnEV (codeAt [1, 1, 1, 0, 1, 0, 0] BNn) (NnS5 ks vs) [7, 9] =
  some (.normal, NnS7) := by kernel_rfl
theorem NnR7  : NnEV (codeAt [1, 1, 1, 0, 1, 0, 1, 0] BNn) NnS7 [7, 9] =
  some (.normal, NnS7) := by kernel_rfl
noncomputable def NnS8  : KSt := ⟨(frameL 139 [(9, (.bool false)), (11, (.bool false))]), ⟨0, 1, []⟩⟩
theorem NnR8  : NnEV (codeAt [1, 1, 1, 0, 1, 0, 1, 1, 0] BNn) NnS7 [9, 11] =
  some (.normal, NnS8) := by kernel_rfl
noncomputable def NnS9  : KSt := ⟨(frameL 139 [(6, (.bool true))]), ⟨0, 1, []⟩⟩
theorem NnR9  : NnEV (codeAt [1, 1, 1, 0, 1, 0, 1, 1, 1, 0] BNn) NnS8 [6] =
  some (.normal, NnS9) := by kernel_rfl
theorem NnR10 (ks : ByteArray) (vs : ByteArray) : NnEV (codeAt [1, 1, 1, 0, 1, 0, 0] BNn) (NnS6 ks vs) [7, 9] =
  some (.normal, NnS7) := by kernel_rfl
theorem Nna {ks : ByteArray} {vs : ByteArray} (hk : ks.size ≤ 1000) (hv : vs.size ≤ 1000) (hno : 16 < ks.size)   {Q : Ex → St → Prop} (hq : Q .ret (KSt.low NnS9)) : Gets Try.prog (KH.low ⟨0, 1, []⟩) BNn (KSt.low (NnS0 ks vs)) Q := by
  rw [NnC]; refine Gets.seq ?_
  refine Nngo (NnR1 ks vs) ?_
  rw [NnC1]; refine Gets.seq ?_
  rw [NnC1_0]; refine Gets.seq ?_
  refine Nngo (x := .normal) (s' := (NnS3 ks vs)) ((NnR2 ks vs).trans (by rw [condF (decide_eq_false (by omega))])) ?_
  rw [NnC1_0_1]; refine Gets.cond false (by kernel_rfl) (NneX (b := (decide ((((ByteArray.size vs) : Nat) : Int) > 1000))) (by kernel_rfl) ((show (decide ((((ByteArray.size vs) : Nat) : Int) > 1000)) = false from decide_eq_false (by omega)))) ?_; show Gets _ _ (codeAt [1, 0, 1, 1] BNn) _ _
  refine Nngo (NnR3 ks vs) ?_
  rw [NnC1_1]; refine Gets.seq ?_
  refine Nngo (x := .normal) (s' := (NnS4 ks vs)) ((NnR4 ks vs).trans (by rw [condT (not_t (and_f1 (ble_f (by omega))))])) ?_
  rw [NnC1_1_1]; refine Gets.seq ?_
  rw [NnC1_1_1_0]; refine Gets.seq ?_
  refine Nngo (x := .normal) (s' := (NnS5 ks vs)) ((NnR5 ks vs).trans (by rw [condT (decide_eq_true (by omega))])) ?_
  rw [NnC1_1_1_0_1]; refine Gets.cond true (by kernel_rfl) (by kernel_rfl) ?_; show Gets _ _ (codeAt [1, 1, 1, 0, 1, 0] BNn) _ _
  rw [NnC1_1_1_0_1_0]; refine Gets.seq ?_
  refine Nngo (NnR6 ks vs) ?_
  rw [NnC1_1_1_0_1_0_1]; refine Gets.seq ?_
  refine Nngo (NnR7) ?_
  rw [NnC1_1_1_0_1_0_1_1]; refine Gets.seq ?_
  refine Nngo (NnR8) ?_
  rw [NnC1_1_1_0_1_0_1_1_1]; refine Gets.seq ?_
  refine Nngo (NnR9) ?_
  rw [NnC1_1_1_0_1_0_1_1_1_1]; refine Gets.ev fitA7.mix fitA7.cfg (fitA7.sound wmn_sound 14 0) 14 rfl (s' := KSt.low NnS9) (x := .ret) rfl ?_
  exact hq
theorem Nnb {ks : ByteArray} {vs : ByteArray} (hk : ks.size ≤ 1000) (hv : vs.size ≤ 1000) (hno : ks.size ≤ 16) (hn2 : 24 < vs.size)   {Q : Ex → St → Prop} (hq : Q .ret (KSt.low NnS9)) : Gets Try.prog (KH.low ⟨0, 1, []⟩) BNn (KSt.low (NnS0 ks vs)) Q := by
  rw [NnC]; refine Gets.seq ?_
  refine Nngo (NnR1 ks vs) ?_
  rw [NnC1]; refine Gets.seq ?_
  rw [NnC1_0]; refine Gets.seq ?_
  refine Nngo (x := .normal) (s' := (NnS3 ks vs)) ((NnR2 ks vs).trans (by rw [condF (decide_eq_false (by omega))])) ?_
  rw [NnC1_0_1]; refine Gets.cond false (by kernel_rfl) (NneX (b := (decide ((((ByteArray.size vs) : Nat) : Int) > 1000))) (by kernel_rfl) ((show (decide ((((ByteArray.size vs) : Nat) : Int) > 1000)) = false from decide_eq_false (by omega)))) ?_; show Gets _ _ (codeAt [1, 0, 1, 1] BNn) _ _
  refine Nngo (NnR3 ks vs) ?_
  rw [NnC1_1]; refine Gets.seq ?_
  refine Nngo (x := .normal) (s' := (NnS4 ks vs)) ((NnR4 ks vs).trans (by rw [condT (not_t (and_f2 (ble_f (by omega))))])) ?_
  rw [NnC1_1_1]; refine Gets.seq ?_
  rw [NnC1_1_1_0]; refine Gets.seq ?_
  refine Nngo (x := .normal) (s' := (NnS6 ks vs)) ((NnR5 ks vs).trans (by rw [condF (decide_eq_false (by omega))])) ?_
  rw [NnC1_1_1_0_1]; refine Gets.cond true (by kernel_rfl) (NneX (b := (decide ((((ByteArray.size vs) : Nat) : Int) > 24))) (by kernel_rfl) ((show (decide ((((ByteArray.size vs) : Nat) : Int) > 24)) = true from decide_eq_true (by omega)))) ?_; show Gets _ _ (codeAt [1, 1, 1, 0, 1, 0] BNn) _ _
  rw [NnC1_1_1_0_1_0]; refine Gets.seq ?_
  refine Nngo (NnR10 ks vs) ?_
  rw [NnC1_1_1_0_1_0_1]; refine Gets.seq ?_
  refine Nngo (NnR7) ?_
  rw [NnC1_1_1_0_1_0_1_1]; refine Gets.seq ?_
  refine Nngo (NnR8) ?_
  rw [NnC1_1_1_0_1_0_1_1_1]; refine Gets.seq ?_
  refine Nngo (NnR9) ?_
  rw [NnC1_1_1_0_1_0_1_1_1_1]; refine Gets.ev fitA7.mix fitA7.cfg (fitA7.sound wmn_sound 14 0) 14 rfl (s' := KSt.low NnS9) (x := .ret) rfl ?_
  exact hq
noncomputable def QL : Ex → St → Prop := Eng.Ends Try.prog Try.f8.results.toList fun r _ => r = .bool true
theorem qL {s : KSt} (h : resL Try.prog s.low Try.f8.results.toList = some [.bool true]) : QL .ret s.low := Ends.of h rfl
theorem ro1 {off : Nat} {l : List Int} {e : TypeId} : Ro (mkH [.tail off .u64 l e]).low := fun a o ho => by
  obtain ⟨_, rfl⟩ := mkH1_get ho; rfl
theorem ro0 : Ro (mkH []).low := fun a o ho => by cases ho
inductive MaInv (ks vs : ByteArray) (off n c : Nat) (l : List Int) (e : TypeId) : Nat → KSt → Prop
  | z : MaInv ks vs off n c l e (n + 2) (MS8 boxW ks vs off n c l e)
  | zx (hn : n = 0) : MaInv ks vs off n c l e 0 (MS20 boxW ks vs off n c l e)
  | p (k : Nat) (w j x : Int) (hk1 : 1 ≤ k) (hkn : k ≤ n) (hw : w = l.getD 0 0) (hw0 : l.getD 0 0 ≠ 0) (hj : j + 1 = (k : Int)) (hjM : j < (((boxW ks vs).length : Nat) : Int)) (hx : x = (boxW ks vs).getD (k - 1) 0) : MaInv ks vs off n c l e (n + 1 - k) (MS29 boxW ks vs off n c k w j x l e)
  | d (k : Nat) (w j : Int) (hk1 : 1 ≤ k) (hkn : k ≤ n) (hw : w = l.getD 0 0) (hd : l.getD 0 0 = 0 ∨ 1 + (boxW ks vs).length ≤ k) : MaInv ks vs off n c l e (n + 1 - k) (MS55 boxW ks vs off n c k w j l e)
  | xp (i w j x : Int) (hi : (n : Int) < i) : MaInv ks vs off n c l e 0 (MS67 boxW ks vs off n c i w j x l e)
  | xd (i w j : Int) (hi : (n : Int) < i) : MaInv ks vs off n c l e 0 (MS69 boxW ks vs off n c i w j l e)
theorem loopMa (ks vs : ByteArray) (off n c : Nat) (l : List Int) (e : TypeId) (h16 : ks.size ≤ 16) (h24 : vs.size ≤ 24) (hn20 : n ≤ 20) (hc : n ≤ c) (hc0 : 0 < c) (hl : l.length = c) (z : Nat) (t : KSt) (hI : MaInv ks vs off n c l e z t) : Gets Try.prog (KH.low ⟨1, 1, [(0, 0, .tail off .u64 l e)]⟩) (codeAt [1, 1, 1, 1, 0, 1] BM) t.low (onN (fun s => Gets Try.prog (KH.low ⟨1, 1, [(0, 0, .tail off .u64 l e)]⟩) (codeAt [1, 1, 1, 1, 1] BM) s (QL)) (QL)) := by
  rw [MC1_1_1_1_0_1, MC1_1_1_1_0_1_0]
  refine Gets.loopG (fun z t => MaInv ks vs off n c l e z t) ?_ _ _ hI
  clear hI z t
  intro z t hI
  have hM1 := boxW_pos ks vs
  have hM6 := boxW_le h16 h24
  have hLk : ∀ k, List.take k (List.drop (off - off) l) = l.take k := fun k => by rw [Nat.sub_self, List.drop_zero]
  have hget : ∀ k, 1 ≤ k → (List.take k (List.drop (off - off) l)).getD 0 0 = l.getD 0 0 := fun k hk => by
    rw [hLk]
    cases l with
    | nil => simp
    | cons a r => cases k with
      | zero => omega
      | succ k => rfl
  have hlen : ∀ k, k ≤ n → (List.take k (List.drop (off - off) l)).length = k := fun k hk => by rw [hLk, List.length_take]; omega
  cases hI with
  | z =>
    have hov : mkOver (List.take 0 (List.drop (off - off) l)) (boxW ks vs) = true := by rw [List.take_zero]; rfl
    have a0 : ∀ x, mkA (List.take 0 (List.drop (off - off) l)) (boxW ks vs) 0 x = 5 := fun x => by rw [List.take_zero]; rfl
    have a1 : ∀ x, mkA (List.take 0 (List.drop (off - off) l)) (boxW ks vs) 1 x = 0 := fun x => by rw [List.take_zero]; rfl
    have a2 : ∀ x, mkA (List.take 0 (List.drop (off - off) l)) (boxW ks vs) 2 x = (((boxW ks vs).length : Nat) : Int) := fun x => by rw [List.take_zero]; rfl
    have a3 : ∀ x, mkA (List.take 0 (List.drop (off - off) l)) (boxW ks vs) 3 x = 0 := fun x => by rw [List.take_zero]; rfl
    have a4 : ∀ x, mkA (List.take 0 (List.drop (off - off) l)) (boxW ks vs) 4 x = 0 := fun x => by rw [List.take_zero]; rfl
    by_cases hn : n = 0
    · refine Mz0 h16 h24 hn20 hc hc0 hl hM1 hM6 hn hov a0 a1 a2 a3 a4 ?_
      exact ⟨0, _, by omega, rfl, .zx hn⟩
    · by_cases hz : l.getD 0 0 = 0
      · refine Mzd h16 h24 hn20 hc hc0 hl hM1 hM6 (by omega) hz hov a0 a1 a2 a3 a4 ?_
        exact ⟨n + 1 - 1, (MS55 boxW ks vs off n c (1) (l.getD 0 0) ((-1)) l e), by omega, rfl, .d 1 _ (-1) (by omega) (by omega) rfl (.inl hz)⟩
      · refine Mzs h16 h24 hn20 hc hc0 hl hM1 hM6 (by omega) hz hov a0 a1 a2 a3 a4 ?_
        exact ⟨n + 1 - 1, (MS29 boxW ks vs off n c (1) (l.getD 0 0) (0) ((boxW ks vs).getD 0 0) l e), by omega, rfl, .p 1 _ 0 _ (by omega) (by omega) rfl hz (by omega) (by omega) rfl⟩
  | zx hn =>
    refine MxS hn ?_
    exact ⟨fun _ => MfS (qL (by kernel_rfl)), fun h => by cases h⟩
  | p k w j x hk1 hkn hw hw0 hj hjM hx =>
    have hg := hget k hk1
    have hk := hlen k hkn
    have hov : mkOver (List.take k (List.drop (off - off) l)) (boxW ks vs) = true := mkOver_t (by rw [hg]; exact hw0) (by omega)
    obtain ⟨a0, b1, b2, a3, b4⟩ := mkA_t hov (by omega)
    have a1 : ∀ y, mkA (List.take k (List.drop (off - off) l)) (boxW ks vs) 1 y = w := fun y => by rw [b1, hg, hw]
    have a2 : ∀ y, mkA (List.take k (List.drop (off - off) l)) (boxW ks vs) 2 y = j := fun y => by rw [b2, hk]; omega
    have a4 : ∀ y, mkA (List.take k (List.drop (off - off) l)) (boxW ks vs) 4 y = x := fun y => by rw [b4, hk, hx]
    by_cases hin : k < n
    · by_cases hm : j + 1 < (((boxW ks vs).length : Nat) : Int)
      · refine Mps h16 h24 hn20 hc hc0 hl hM1 hM6 (by omega) hj hjM hin hm hov a0 a1 a2 a3 a4 ?_
        exact ⟨n + 1 - (k + 1), (MS29 boxW ks vs off n c (k + 1) w (j + 1) ((boxW ks vs).getD (0 + ((Int.toNat (j + 1)) * 1)) 0) l e), by omega, rfl, .p (k + 1) w (j + 1) _ (by omega) (by omega) hw hw0 (by omega) hm (by rw [Nat.zero_add, Nat.mul_one, show Int.toNat (j + 1) = k by omega]; rfl)⟩
      · refine Mpd h16 h24 hn20 hc hc0 hl hM1 hM6 (by omega) hj hjM hin (by omega) hov a0 a1 a2 a3 a4 ?_
        exact ⟨n + 1 - (k + 1), (MS55 boxW ks vs off n c (k + 1) w (j + 1) l e), by omega, rfl, .d (k + 1) w (j + 1) (by omega) (by omega) hw (.inr (by omega))⟩
    · refine Mp0 h16 h24 hn20 hc hc0 hl hM1 hM6 (by omega) hj hjM (by omega) hov a0 a1 a2 a3 a4 ?_
      exact ⟨0, (MS67 boxW ks vs off n c (((k : Nat) : Int) + 1) w j x l e), by omega, rfl, .xp _ w j x (by omega)⟩
  | d k w j hk1 hkn hw hd =>
    have hg := hget k hk1
    have hk := hlen k hkn
    have hov : mkOver (List.take k (List.drop (off - off) l)) (boxW ks vs) = false := by
      rcases hd with hd | hd
      · exact mkOver_b (by omega) (by rw [hg]; exact hd)
      · exact mkOver_f (by omega)
    by_cases hin : k < n
    · refine Md1 h16 h24 hn20 hc hc0 hl hM1 hM6 hin hov (mkA_no hov 0) (mkA_no hov 1) (mkA_no hov 2) (mkA_no hov 3) (mkA_no hov 4) (by rw [hw]; exact hg) ?_
      exact ⟨n + 1 - (k + 1), (MS55 boxW ks vs off n c (k + 1) w j l e), by omega, rfl, .d (k + 1) w j (by omega) (by omega) hw (hd.imp id (by omega))⟩
    · refine Md0 h16 h24 hn20 hc hc0 hl hM1 hM6 (by omega) hov (mkA_no hov 0) (mkA_no hov 1) (mkA_no hov 2) (mkA_no hov 3) (mkA_no hov 4) (by rw [hw]; exact hg) ?_
      exact ⟨0, (MS69 boxW ks vs off n c (((k : Nat) : Int) + 1) w j l e), by omega, rfl, .xd _ w j (by omega)⟩
  | xp i w j x hi =>
    refine MxP hi ?_
    exact ⟨fun _ => MfP (qL (by kernel_rfl)), fun h => by cases h⟩
  | xd i w j hi =>
    refine MxD hi ?_
    exact ⟨fun _ => MfD (qL (by kernel_rfl)), fun h => by cases h⟩
inductive MbInv (ks vs : ByteArray) : Nat → KSt → Prop
  | z : MbInv ks vs 1 (NS8 boxW ks vs)
  | zx : MbInv ks vs 0 (NS19 boxW ks vs)
theorem loopMb (ks vs : ByteArray) (h16 : ks.size ≤ 16) (h24 : vs.size ≤ 24) (z : Nat) (t : KSt) (hI : MbInv ks vs z t) : Gets Try.prog (KH.low ⟨0, 1, []⟩) (codeAt [1, 1, 1, 1, 0, 1] BN) t.low (onN (fun s => Gets Try.prog (KH.low ⟨0, 1, []⟩) (codeAt [1, 1, 1, 1, 1] BN) s (QL)) (QL)) := by
  rw [NC1_1_1_1_0_1, NC1_1_1_1_0_1_0]
  refine Gets.loopG (fun z t => MbInv ks vs z t) ?_ _ _ hI
  clear hI z t
  intro z t hI
  have hM1 := boxW_pos ks vs
  have hM6 := boxW_le h16 h24
  cases hI with
  | z =>
    refine Nz0 h16 h24 hM1 hM6 rfl (fun _ => rfl) (fun _ => rfl) (fun _ => rfl) (fun _ => rfl) (fun _ => rfl) ?_
    exact ⟨0, _, by omega, rfl, .zx⟩
  | zx =>
    refine NxS ?_
    exact ⟨fun _ => NfS (qL (by kernel_rfl)), fun h => by cases h⟩
theorem told (ks vs : ByteArray) (off n c : Nat) (l : List Int) (e : TypeId) (hl : l.length = c) (hc : n ≤ c) (hc0 : 0 < c) : Tells Try.prog 8 [(.string ks), (.string vs), (.slice (some ⟨0, off, none⟩) n c)] (mkH [.tail off .u64 l e]).low (.bool true) := by
  by_cases hn : 20 < n
  · refine Gets.tells Try.func8 BM_is (by rw [noVars]; exact Nat.zero_le _) rfl ?_ ro1
    show Gets Try.prog (KH.low ⟨1, 1, [(0, 0, .tail off .u64 l e)]⟩) BM (KSt.low (MS0 ks vs off n c l e)) QL
    exact Mgn hn (qL (by kernel_rfl))
  by_cases hk : 1000 < ks.size
  · refine Gets.tells Try.func8 BM_is (by rw [noVars]; exact Nat.zero_le _) rfl ?_ ro1
    show Gets Try.prog (KH.low ⟨1, 1, [(0, 0, .tail off .u64 l e)]⟩) BM (KSt.low (MS0 ks vs off n c l e)) QL
    exact Mgk (by omega) hk (qL (by kernel_rfl))
  by_cases hv : 1000 < vs.size
  · refine Gets.tells Try.func8 BM_is (by rw [noVars]; exact Nat.zero_le _) rfl ?_ ro1
    show Gets Try.prog (KH.low ⟨1, 1, [(0, 0, .tail off .u64 l e)]⟩) BM (KSt.low (MS0 ks vs off n c l e)) QL
    exact Mgv (by omega) (by omega) hv (qL (by kernel_rfl))
  by_cases h16 : 16 < ks.size
  · refine Gets.tells Try.func8 BMn_is (by rw [noVars]; exact Nat.zero_le _) rfl ?_ ro1
    show Gets Try.prog (KH.low ⟨1, 1, [(0, 0, .tail off .u64 l e)]⟩) BMn (KSt.low (MnS0 ks vs off n c l e)) QL
    exact Mna (by omega) (by omega) (by omega) h16 (qL (by kernel_rfl))
  by_cases h24 : 24 < vs.size
  · refine Gets.tells Try.func8 BMn_is (by rw [noVars]; exact Nat.zero_le _) rfl ?_ ro1
    show Gets Try.prog (KH.low ⟨1, 1, [(0, 0, .tail off .u64 l e)]⟩) BMn (KSt.low (MnS0 ks vs off n c l e)) QL
    exact Mnb (by omega) (by omega) (by omega) (by omega) h24 (qL (by kernel_rfl))
  refine Gets.tells Try.func8 BM_is (by rw [noVars]; exact Nat.zero_le _) rfl ?_ ro1
  show Gets Try.prog (KH.low ⟨1, 1, [(0, 0, .tail off .u64 l e)]⟩) BM (KSt.low (MS0 ks vs off n c l e)) QL
  refine Mpre (by omega) (by omega) (by omega) (by omega) (by omega) ?_
  exact loopMa ks vs off n c l e (by omega) (by omega) (by omega) hc hc0 hl (n + 2) (MS8 boxW ks vs off n c l e) .z
theorem toldV (ks vs : ByteArray) : Tells Try.prog 8 [(.string ks), (.string vs), (.slice (some ⟨0, 0, some 0⟩) 0 0)] (mkH []).low (.bool true) := by
  by_cases hk : 1000 < ks.size
  · refine Gets.tells Try.func8 BN_is (by rw [noVars]; exact Nat.zero_le _) rfl ?_ ro0
    show Gets Try.prog (KH.low ⟨0, 1, []⟩) BN (KSt.low (NS0 ks vs)) QL
    exact Ngk hk (qL (by kernel_rfl))
  by_cases hv : 1000 < vs.size
  · refine Gets.tells Try.func8 BN_is (by rw [noVars]; exact Nat.zero_le _) rfl ?_ ro0
    show Gets Try.prog (KH.low ⟨0, 1, []⟩) BN (KSt.low (NS0 ks vs)) QL
    exact Ngv (by omega) hv (qL (by kernel_rfl))
  by_cases h16 : 16 < ks.size
  · refine Gets.tells Try.func8 BNn_is (by rw [noVars]; exact Nat.zero_le _) rfl ?_ ro0
    show Gets Try.prog (KH.low ⟨0, 1, []⟩) BNn (KSt.low (NnS0 ks vs)) QL
    exact Nna (by omega) (by omega) h16 (qL (by kernel_rfl))
  by_cases h24 : 24 < vs.size
  · refine Gets.tells Try.func8 BNn_is (by rw [noVars]; exact Nat.zero_le _) rfl ?_ ro0
    show Gets Try.prog (KH.low ⟨0, 1, []⟩) BNn (KSt.low (NnS0 ks vs)) QL
    exact Nnb (by omega) (by omega) (by omega) h24 (qL (by kernel_rfl))
  refine Gets.tells Try.func8 BN_is (by rw [noVars]; exact Nat.zero_le _) rfl ?_ ro0
  show Gets Try.prog (KH.low ⟨0, 1, []⟩) BN (KSt.low (NS0 ks vs)) QL
  refine Npre (by omega) (by omega) (by omega) (by omega) ?_
  exact loopMb ks vs (by omega) (by omega) 1 (NS8 boxW ks vs) .z
theorem own : ownKnob Try.prog.godebug = none := by kernel_rfl
theorem lifted (os : Os) (started : os.Started) (H : Type) (enc : TypeId × Value → H) :
    ReturnsInHanded {} Try.checked os 8 .any (Rows.makerActsSpec.pre6 enc Try.prog Try.f8 Rows.makerActsRow.domain false) (Rows.makerActsSpec.post enc Try.prog Try.f8 false true false false) := by
  refine returnsInHanded_of_change_sized (C := Try.checked) own started (by kernel_rfl) Try.func8
    (ChangeSpec.witness6 (enc := enc) (C := Try.checked) false ⟨#[], #[.string ⟨#[]⟩, .string ⟨#[]⟩, .slice none 0 0], []⟩ 8 (by kernel_rfl) (by kernel_rfl) (by kernel_rfl) (by kernel_rfl)) ?_
  intro W base args ds gs before hval0 hW hcnd hsz0 _
  have hval : ∀ (j : Nat) t v, Try.f8.params[j]? = some t → args[j]? = some v → Value.okWide Try.prog W .any base t v := hval0
  have hW' := hW
  obtain ⟨p, q, hA0, hV, rfl, hfz, hnd⟩ := hW
  have hA : DataW.TrodAll enc Try.prog W 0 (fun _ => true) true Try.f8.params.toList args.toList ds p := hA0
  rw [Try.params8] at hA hval
  have hS := hA
  obtain ⟨v0, vs0, d0, ds0, p0, q0, hargs, rfl, rfl, h0, r0⟩ := trodAll_cons hA
  obtain ⟨v1, vs1, d1, ds1, p1, q1, rfl, rfl, rfl, h1, r1⟩ := trodAll_cons r0
  obtain ⟨v2, vs2, d2, ds2, p2, q2, rfl, rfl, rfl, h2, r2⟩ := trodAll_cons r1
  obtain ⟨rfl, rfl, rfl⟩ := trodAll_nil r2
  obtain rfl : args = #[v0, v1, v2] := by cases args; simp_all
  obtain ⟨rfl, rfl⟩ := trodVars_none hV
  suffices hc : Calls Try.prog 8 #[v0, v1, v2] W fun e W' => e = .returned (.bool true) ∧ Below W.heap.size W W' by
    refine hc.mono fun e W' ⟨he, bel⟩ => ?_
    subst he
    exact ⟨_, rfl, _, _, _, [], _, [], hW', trodAll_mk1 (shut_bool Try.underlying4 _), trodAll_stays fineA bel (by decide +kernel) hS, rfl, bel.frame _, fun h => by cases h⟩
  clear hS hW' hfz hnd
  obtain ⟨a0, rfl, rfl, rfl, w0⟩ := Go.ChangeMaps.open_string Try.underlying9 (hval 0 9 v0 rfl rfl) h0
  obtain ⟨a1, rfl, rfl, rfl, w1⟩ := Go.ChangeMaps.open_string Try.underlying9 (hval 1 9 v1 rfl rfl) h1
  have o2 := Go.Eng.open_row Try.underlying22 Try.underlying30 (by kernel_rfl) (hval 2 22 v2 rfl rfl) h2
  rcases o2 with ⟨x, rfl⟩ | ⟨a, len, cap, zs, rfl, h0, hle, hmx, hz, hcell, hwf⟩
  · exact toldV a0 a1 _ W _ (.cons (.of_plain rfl) (.cons (.of_plain rfl) (.cons (.slice0 _ _) (.nil _)))) (Sim.none noVars W _ _)
  · obtain ⟨e, hS, hsp⟩ := Sim.oneRow noVars (by omega) hcell
    obtain ⟨blk, off, spot⟩ := a
    simp only at hsp
    subst hsp
    exact told a0 a1 off len cap zs e hz hle h0 _ W _ (.cons (.of_plain rfl) (.cons (.of_plain rfl) (.cons (R.slice_row rfl) (.nil _)))) hS
theorem over : Rows.makerActsRow.holds Try.pinned (OpenSpec.ofChange Rows.makerActsSpec) :=
  OpenClaim.holds_of_wide 8 Try.f8 rfl rfl rfl rfl rfl rfl rfl ⟨rfl, rfl, rfl, rfl, rfl⟩ rfl rfl rfl rfl rfl (by kernel_rfl) Try.func8 (by kernel_rfl)
    (of_decide_eq_true (by kernel_rfl)) (by unfold Func.isWrapper; first | (rw [if_pos (by decide +kernel)]; kernel_rfl) | (rw [if_neg (by decide +kernel)]; exact ⟨rfl, rfl⟩))
    (fun os started H enc _ => lifted os started H enc)
end Go.Proofs.Ytnhdjmpbmecnoaa.makerActs
namespace Go.Proofs.Ytnhdjmpbmecnoaa
/-- The row, under a short name, for the claim. -/
theorem makerActs_holds : Rows.MakerActsSaid := makerActs.over
#print axioms makerActs_holds
end Go.Proofs.Ytnhdjmpbmecnoaa
