/- Where, as the program and as the reference tells it: roads. -/
import Derived.Test.YtgegcbeeljbiaaaTtC
import Derived.WalkKit
import Derived.ProofKit
import Derived.OpenShut
import Derived.ChangeOld
import Derived.Below
import Derived.SizedLaws
namespace Go.Proofs.Ytgegcbeeljbiaaa
open Go.Eng
open Go.ChangeShapes Go.WideShapes Go.ChangeAt Go.RowKit
set_option linter.unusedVariables false
set_option linter.unusedSimpArgs false
set_option maxRecDepth 100000
noncomputable def cfgW : Cfg := ⟨[33]⟩
noncomputable def fsW : List FuncId := [5, 8, 9, 12, 13, 16, 17, 18, 19, 20, 21, 26, 27]
theorem fitW : Fit Try.prog cfgW fsW := ⟨by kernel_rfl, Cfg.ok_of (by kernel_rfl), by kernel_rfl⟩
theorem groupsV_bounds (k : Int) : 0 ≤ groupsV k ∧ groupsV k ≤ 512 := by
  unfold groupsV
  by_cases h0 : k < 0
  · rw [if_pos (.inl h0)]; omega
  · by_cases h9 : 9 < k
    · rw [if_pos (.inr h9)]; omega
    · rcases small k h0 h9 with h | h | h | h | h | h | h | h | h | h <;> subst h <;> decide
theorem ends1 {P : Program} [ObjSem P] {rs : List ResultVar} {s : KSt} {v : Value} (h : resL P s.low rs = some [v]) : Eng.Ends P rs (fun r _ => r = v) .ret s.low := Ends.of h rfl
theorem groupsp_tree (a : Int) : runK Try.prog cfgW fsW noT 11 40 5 [.int .i64 a] (bareK Try.prog) valK =
  bif (decide (a < 0)) then
    some (.int .i64 0)
  else
    bif (decide (a > 9)) then
      some (.int .i64 0)
    else
      bif (decide (a < 0)) then
        none
      else
        some (.int .i64 (IntKind.wrap .i64 (1 * (2 ^ (min (Int.toNat a) (IntKind.bits .i64)))))) := by kernel_rfl
theorem groupsp_told (a : Int) : Tells Try.prog 5 [.int .i64 a] (bare Try.prog) (.int .i64 (groupsV a)) := by
  refine Tells.of_tree (h := bareK Try.prog) fitW SoundC.no AgreeT.no (by kernel_rfl) rfl (show Ro (bare Try.prog) from Ro.bare) (n := 11) (d := 40) ?_
  rw [groupsp_tree]
  unfold groupsV
  by_cases h0 : a < 0
  · rw [if_pos (.inl h0), decide_eq_true h0]; rfl
  · by_cases h9 : 9 < a
    · rw [if_pos (.inr h9), decide_eq_false h0, decide_eq_true (show a > 9 from h9)]; rfl
    · rcases small a h0 h9 with h | h | h | h | h | h | h | h | h | h <;> subst h <;> kernel_rfl
def nnG (k : Int) : Nat := (groupsV k).toNat
def placesN (k : Int) : Nat := if groupsV k = 0 then 0 else 7 + nnG k + 8 * nnG k
noncomputable def placesL (k : Int) : List Int := if groupsV k = 0 then [] else slL (nnG k) (nnG k)
def szV (k : Int) : Int := if groupsV k = 0 then 0 else 7 + 9 * groupsV k
def whP (k c : Int) : Int := if c < 0 ∨ szV k ≤ c then 0 else if c < 7 then 1 else if c < 7 + groupsV k then 2 else 3
def whG (k c : Int) : Int := if c < 0 ∨ szV k ≤ c then 0 else if c < 7 then 0 else if c < 7 + groupsV k then c - 7 else (c - 7 - groupsV k) / 8
def whS (k c : Int) : Int := if c < 0 ∨ szV k ≤ c then 0 else if c < 7 then 0 else if c < 7 + groupsV k then 0 else (c - 7 - groupsV k) % 8
def gcV (k g : Int) : Int := if 0 ≤ g ∧ g < groupsV k then 7 + g else -1
def scV (k g t : Int) : Int := if (0 ≤ g ∧ g < groupsV k) ∧ 0 ≤ t ∧ t ≤ 7 then 7 + groupsV k + 8 * g + t else -1
def stV (c : Int) : Int := 3 + c % 4
theorem nnG_eq (k : Int) : ((nnG k : Nat) : Int) = groupsV k := by
  have := groupsV_bounds k
  unfold nnG; omega
theorem placesN_eq (k : Int) : ((placesN k : Nat) : Int) = szV k := by
  have h := nnG_eq k
  unfold placesN szV
  by_cases e : groupsV k = 0
  · rw [if_pos e, if_pos e]; rfl
  · rw [if_neg e, if_neg e, ← h]; omega
theorem placesL_length (k : Int) : (placesL k).length = placesN k * 3 := by
  unfold placesN placesL
  by_cases e : groupsV k = 0
  · rw [if_pos e, if_pos e]; rfl
  · rw [if_neg e, if_neg e, slL_length]
theorem placesL_get (k : Int) (x j : Nat) (hx : x < placesN k) (hj : j < 3) : (placesL k).getD (x * 3 + j) 0 = if j = 0 then whP k x else if j = 1 then whG k x else whS k x := by
  have h := nnG_eq k
  have h1 := placesN_eq k
  have hn : ¬ ((x : Int) < 0 ∨ szV k ≤ (x : Int)) := by omega
  unfold whP whG whS
  rw [if_neg hn, if_neg hn, if_neg hn]
  unfold placesN at hx
  unfold placesL
  by_cases e : groupsV k = 0
  · rw [if_pos e] at hx; omega
  · rw [if_neg e] at hx ⊢
    rw [slL_get _ _ _ _ (by omega) hj]
    by_cases h2 : x < 7 + nnG k
    · rw [if_pos h2, grpL_get _ _ _ h2 hj]
      by_cases h3 : x < 7
      · rw [if_pos h3, if_pos (show ((x : Nat) : Int) < 7 by omega), if_pos (show ((x : Nat) : Int) < 7 by omega), if_pos (show ((x : Nat) : Int) < 7 by omega)]
        match j, hj with
        | 0, _ => rfl
        | 1, _ => rfl
        | 2, _ => rfl
      · rw [if_neg h3, if_neg (show ¬ ((x : Nat) : Int) < 7 by omega), if_neg (show ¬ ((x : Nat) : Int) < 7 by omega), if_neg (show ¬ ((x : Nat) : Int) < 7 by omega), if_pos (show ((x : Nat) : Int) < 7 + groupsV k by omega), if_pos (show ((x : Nat) : Int) < 7 + groupsV k by omega), if_pos (show ((x : Nat) : Int) < 7 + groupsV k by omega)]
        match j, hj with
        | 0, _ => rfl
        | 1, _ => show ((x - 7 : Nat) : Int) = x - 7; omega
        | 2, _ => rfl
    · rw [if_neg h2, if_neg (show ¬ ((x : Nat) : Int) < 7 by omega), if_neg (show ¬ ((x : Nat) : Int) < 7 by omega), if_neg (show ¬ ((x : Nat) : Int) < 7 by omega), if_neg (show ¬ ((x : Nat) : Int) < 7 + groupsV k by omega), if_neg (show ¬ ((x : Nat) : Int) < 7 + groupsV k by omega), if_neg (show ¬ ((x : Nat) : Int) < 7 + groupsV k by omega)]
      match j, hj with
      | 0, _ => rfl
      | 1, _ => show (((x - (7 + nnG k)) / 8 : Nat) : Int) = (x - 7 - groupsV k) / 8; omega
      | 2, _ => show (((x - (7 + nnG k)) % 8 : Nat) : Int) = (x - 7 - groupsV k) % 8; omega
noncomputable def rc_route_Groups : RC := ⟨[.int .i64], fun avs => match avs with | [.int k] => true | _ => false,
  fun N avs => match avs with | [.int k] => ((.int .i64 (groupsV k)), [], []) | _ => (.bool false, [], [])⟩
theorem rc_route_Groups_does : RcDoes Try.prog [] 5 rc_route_Groups := by
  intro vb avs args blks hv hs hp
  cases hv
  cases hs with
  | int k hs =>
    cases hs
    exact DoesC.bare noVars rfl (groupsp_told k)
noncomputable def rc_r15_All : RC := ⟨[.int .i64], fun avs => match avs with | [.int k] => true | _ => false,
  fun N avs => match avs with | [.int k] => ((.slice (some ⟨N, 0, none⟩) (placesN k) (placesN k)), [], [.recs [.i64, .i64, .i64] (placesL k) 35 true]) | _ => (.bool false, [], [])⟩
theorem allno_does (k : Int) (hg : groupsV k = 0) : DoesC Try.prog 26 [(.int .i64 k)] (mkH []).low ((.slice (some ⟨0, 0, none⟩) 0 0)) (effK (mkH []) [] [.recs [.i64, .i64, .i64] [] 35 true]).low := by
  refine EndsR.does Try.func26 BT_is (by rw [noVars]; exact Nat.zero_le _) ?_
  show Gets Try.prog (KH.low ⟨0, 1, []⟩) BT (KSt.low (TS0 k)) _
  exact Tno hg (EndsR.ret (l := [(.slice (some ⟨0, 0, none⟩) 0 0)]) (by kernel_rfl) (by rfl) (Fits.n1 rfl rfl rfl (Nat.le_refl _)))
theorem allk_does (k : Int) : DoesC Try.prog 26 [(.int .i64 k)] (mkH []).low ((.slice (some ⟨0, 0, none⟩) (placesN k) (placesN k))) (effK (mkH []) [] [.recs [.i64, .i64, .i64] (placesL k) 35 true]).low := by
  unfold placesN placesL
  have hb := groupsV_bounds k
  have hn := nnG_eq k
  by_cases e : groupsV k = 0
  · rw [if_pos e, if_pos e]; exact allno_does k e
  · rw [if_neg e, if_neg e]; exact all_does k (nnG k) hn.symm (by omega) (by omega)
theorem rc_r15_All_does : RcDoes Try.prog [] 26 rc_r15_All := by
  intro vb avs args blks hv hs hp
  cases hv
  cases hs with
  | int k hs =>
    cases hs
    exact allk_does k
noncomputable def twaT : RTab := fun f => match f with
  | 5 => some rc_route_Groups
  | 27 => some rc_r13_Groups
  | 26 => some rc_r15_All
  | _ => none
def twaDom : List FuncId := [5, 27, 26]
theorem twa_does : ∀ f rc, f ∈ twaDom → twaT f = some rc → RcDoes Try.prog [] f rc := by
  intro f rc hf hT
  simp only [twaDom, List.mem_cons, List.not_mem_nil, or_false] at hf
  rcases hf with rfl | rfl | rfl
  · cases hT; exact rc_route_Groups_does
  · cases hT; exact rc_r13_Groups_does
  · cases hT; exact rc_r15_All_does
theorem twa_fn : ∀ f ∈ twaDom, FnOk Try.prog f := fun f hf => fitW.fnOk f (by
    have h0 : (twaDom.all fun f => fsW.contains f) = true := by kernel_rfl
    simpa using List.all_eq_true.1 h0 f hf)
theorem twa_sound : SoundC Try.prog (conC twaDom (rcE [] twaT)) := rc_sound noVars twa_fn twa_does
noncomputable def BWr : Code := bodyOf Try.prog 9
theorem BWr_is : Try.f9.body = some BWr := by kernel_rfl
theorem BWr_ok : okCode Try.prog.globals.size BWr = true := by kernel_rfl
noncomputable abbrev WrEV (c : Code) (s : KSt) (lv : List Nat) : Option (Ex × KSt) := evCK Try.prog cfgW (runK Try.prog cfgW fsW (conTk twaDom (rcK [] twaT)) 14 40) 14 c s (normC 0 lv)
theorem Wrgo {lv_ : List Nat} {co_ : Code} {st_ s' : KSt} {x : Ex} {Q : Ex → St → Prop} (hE_ : WrEV co_ st_ lv_ = some (x, s')) (hq_ : Q x s'.low) (hok_ : okCode Try.prog.globals.size co_ = true := by kernel_rfl) : Gets Try.prog (KH.low ⟨0, 1, []⟩) co_ st_.low Q := Gets.ofN fitW twa_sound (rc_agree _ _ _) 14 40 hok_ hE_ hq_
theorem WreX {v : Value} {b c : Bool} (h : v = .bool b) (hb : b = c) : v = .bool c := by rw [h, hb]
theorem WrC : BWr = .seq (codeAt [0] BWr) (codeAt [1] BWr) := by kernel_rfl
theorem WrC1 : (codeAt [1] BWr) = .seq (codeAt [1, 0] BWr) (codeAt [1, 1] BWr) := by kernel_rfl
theorem WrC1_1 : (codeAt [1, 1] BWr) = .seq (codeAt [1, 1, 0] BWr) (codeAt [1, 1, 1] BWr) := by kernel_rfl
theorem WrC1_1_0 : (codeAt [1, 1, 0] BWr) = .seq (codeAt [1, 1, 0, 0] BWr) (codeAt [1, 1, 0, 1] BWr) := by kernel_rfl
theorem WrC1_1_0_1 : (codeAt [1, 1, 0, 1] BWr) = .cond (.tmp 15) (codeAt [1, 1, 0, 1, 0] BWr) (codeAt [1, 1, 0, 1, 1] BWr) := by kernel_rfl
theorem WrC1_1_0_1_0 : (codeAt [1, 1, 0, 1, 0] BWr) = .seq (codeAt [1, 1, 0, 1, 0, 0] BWr) (codeAt [1, 1, 0, 1, 0, 1] BWr) := by kernel_rfl
theorem WrC1_1_0_1_0_1 : (codeAt [1, 1, 0, 1, 0, 1] BWr) = .ret := by kernel_rfl
theorem WrC1_1_1 : (codeAt [1, 1, 1] BWr) = .seq (codeAt [1, 1, 1, 0] BWr) (codeAt [1, 1, 1, 1] BWr) := by kernel_rfl
theorem WrC1_1_1_1 : (codeAt [1, 1, 1, 1] BWr) = .ret := by kernel_rfl
noncomputable def WrS0 (k : Int) (c : Int) : KSt := (firstK [(.int .i64 k), (.int .i64 c)] 21 ⟨0, 1, []⟩)
noncomputable def WrS1 (k : Int) (c : Int) : KSt := ⟨(frameL 21 [(0, (.int .i64 k)), (1, (.int .i64 c)), (4, (.pointer (some ⟨0, 0, none⟩)))]), ⟨1, 1, [(0, 0, .cells [(.int .i64 0), (.int .i64 0), (.int .i64 0)] 35 true)]⟩⟩
theorem WrR1 (k : Int) (c : Int) : WrEV (codeAt [0] BWr) (WrS0 k c) [0, 1, 4] =
  some (.normal, (WrS1 k c)) := by kernel_rfl
noncomputable def WrS2 (c : Int) (k : Int) : KSt := ⟨(frameL 21 [(1, (.int .i64 c)), (4, (.pointer (some ⟨0, 0, none⟩))), (5, (.slice (some ⟨1, 0, none⟩) (placesN k) (placesN k)))]), ⟨2, 1, [(1, 0, .recs [.i64, .i64, .i64] (placesL k) 35 true), (0, 0, .cells [(.int .i64 0), (.int .i64 0), (.int .i64 0)] 35 true)]⟩⟩
theorem WrR2 (k : Int) (c : Int) : WrEV (codeAt [1, 0] BWr) (WrS1 k c) [1, 4, 5] =
  some (.normal, (WrS2 c k)) := by kernel_rfl
noncomputable def WrS3 (c : Int) (k : Int) : KSt := ⟨(frameL 21 [(1, (.int .i64 c)), (4, (.pointer (some ⟨0, 0, none⟩))), (5, (.slice (some ⟨1, 0, none⟩) (placesN k) (placesN k))), (15, (.bool true))]), ⟨2, 1, [(1, 0, .recs [.i64, .i64, .i64] (placesL k) 35 true), (0, 0, .cells [(.int .i64 0), (.int .i64 0), (.int .i64 0)] 35 true)]⟩⟩
noncomputable def WrS4 (c : Int) (k : Int) : KSt := ⟨(frameL 21 [(1, (.int .i64 c)), (4, (.pointer (some ⟨0, 0, none⟩))), (5, (.slice (some ⟨1, 0, none⟩) (placesN k) (placesN k))), (15, (.bool (decide (c ≥ (((placesN k) : Nat) : Int)))))]), ⟨2, 1, [(1, 0, .recs [.i64, .i64, .i64] (placesL k) 35 true), (0, 0, .cells [(.int .i64 0), (.int .i64 0), (.int .i64 0)] 35 true)]⟩⟩
theorem WrR3 (c : Int) (k : Int) : WrEV (codeAt [1, 1, 0, 0] BWr) (WrS2 c k) [1, 4, 5, 15] =
  bif (decide (c < 0)) then
    some (.normal, (WrS3 c k))
  else
    some (.normal, (WrS4 c k)) := by kernel_rfl
noncomputable def WrS5  : KSt := ⟨(frameL 21 [(4, (.pointer (some ⟨0, 0, none⟩)))]), ⟨1, 1, [(0, 0, .cells [(.int .i64 0), (.int .i64 0), (.int .i64 0)] 35 true)]⟩⟩
theorem WrR4 (c : Int) (k : Int) : WrEV (codeAt [1, 1, 0, 1, 0, 0] BWr) (WrS3 c k) [4] =
  some (.normal, WrS5) := by kernel_rfl
theorem WrR5 (c : Int) (k : Int) : WrEV (codeAt [1, 1, 0, 1, 0, 0] BWr) (WrS4 c k) [4] =
  some (.normal, WrS5) := by kernel_rfl
theorem WrR6 (c : Int) (k : Int) : WrEV (codeAt [1, 1, 0, 1, 1] BWr) (WrS4 c k) [1, 4, 5] =
  some (.normal, (WrS2 c k)) := by kernel_rfl
noncomputable def WrS6 (k : Int) (c : Int) : KSt := ⟨(frameL 21 [(4, (.pointer (some ⟨0, 0, none⟩)))]), ⟨1, 1, [(0, 0, .cells [(.int .i64 (List.getD (placesL k) (0 + ((Int.toNat c) * 3)) 0)), (.int .i64 (List.getD (placesL k) ((0 + ((Int.toNat c) * 3)) + 1) 0)), (.int .i64 (List.getD (placesL k) (((0 + ((Int.toNat c) * 3)) + 1) + 1) 0))] 35 true)]⟩⟩
theorem WrR7 (c : Int) (k : Int) : WrEV (codeAt [1, 1, 1, 0] BWr) (WrS2 c k) [4] =
  if 0 ≤ c ∧ c < (((placesN k) : Nat) : Int) then
    bif ((Nat.beq ((0 + ((Int.toNat c) * 3)) % 3) 0) && (Nat.ble ((0 + ((Int.toNat c) * 3)) + 3) (List.length (placesL k)))) then
      some (.normal, (WrS6 k c))
    else
      none
  else
    none := by kernel_rfl
theorem Wrneg {c : Int} {k : Int} (hc : c < 0)   {Q : Ex → St → Prop} (hq : Q .ret (KSt.low WrS5)) : Gets Try.prog (KH.low ⟨0, 1, []⟩) BWr (KSt.low (WrS0 k c)) Q := by
  rw [WrC]; refine Gets.seq ?_
  refine Wrgo (WrR1 k c) ?_
  rw [WrC1]; refine Gets.seq ?_
  refine Wrgo (WrR2 k c) ?_
  rw [WrC1_1]; refine Gets.seq ?_
  rw [WrC1_1_0]; refine Gets.seq ?_
  refine Wrgo (x := .normal) (s' := (WrS3 c k)) ((WrR3 c k).trans (by rw [condT (decide_eq_true (by omega))])) ?_
  rw [WrC1_1_0_1]; refine Gets.cond true (by kernel_rfl) (by kernel_rfl) ?_; show Gets _ _ (codeAt [1, 1, 0, 1, 0] BWr) _ _
  rw [WrC1_1_0_1_0]; refine Gets.seq ?_
  refine Wrgo (WrR4 c k) ?_
  rw [WrC1_1_0_1_0_1]; refine Gets.ev fitW.mix fitW.cfg (fitW.sound twa_sound 14 0) 14 rfl (s' := KSt.low WrS5) (x := .ret) rfl ?_
  exact hq
theorem Wrbig {c : Int} {k : Int} (hc : 0 ≤ c) (h1 : ((placesN k : Nat) : Int) ≤ c)   {Q : Ex → St → Prop} (hq : Q .ret (KSt.low WrS5)) : Gets Try.prog (KH.low ⟨0, 1, []⟩) BWr (KSt.low (WrS0 k c)) Q := by
  rw [WrC]; refine Gets.seq ?_
  refine Wrgo (WrR1 k c) ?_
  rw [WrC1]; refine Gets.seq ?_
  refine Wrgo (WrR2 k c) ?_
  rw [WrC1_1]; refine Gets.seq ?_
  rw [WrC1_1_0]; refine Gets.seq ?_
  refine Wrgo (x := .normal) (s' := (WrS4 c k)) ((WrR3 c k).trans (by rw [condF (decide_eq_false (by omega))])) ?_
  rw [WrC1_1_0_1]; refine Gets.cond true (by kernel_rfl) (WreX (b := (decide (c ≥ (((placesN k) : Nat) : Int)))) (by kernel_rfl) ((show (decide (c ≥ (((placesN k) : Nat) : Int))) = true from decide_eq_true (by omega)))) ?_; show Gets _ _ (codeAt [1, 1, 0, 1, 0] BWr) _ _
  rw [WrC1_1_0_1_0]; refine Gets.seq ?_
  refine Wrgo (WrR5 c k) ?_
  rw [WrC1_1_0_1_0_1]; refine Gets.ev fitW.mix fitW.cfg (fitW.sound twa_sound 14 0) 14 rfl (s' := KSt.low WrS5) (x := .ret) rfl ?_
  exact hq
theorem Wris {c : Int} {k : Int} (h0 : 0 ≤ c) (h1 : c < ((placesN k : Nat) : Int)) (hl : (placesL k).length = placesN k * 3)   {Q : Ex → St → Prop} (hq : Q .ret (KSt.low (WrS6 k c))) : Gets Try.prog (KH.low ⟨0, 1, []⟩) BWr (KSt.low (WrS0 k c)) Q := by
  rw [WrC]; refine Gets.seq ?_
  refine Wrgo (WrR1 k c) ?_
  rw [WrC1]; refine Gets.seq ?_
  refine Wrgo (WrR2 k c) ?_
  rw [WrC1_1]; refine Gets.seq ?_
  rw [WrC1_1_0]; refine Gets.seq ?_
  refine Wrgo (x := .normal) (s' := (WrS4 c k)) ((WrR3 c k).trans (by rw [condF (decide_eq_false (by omega))])) ?_
  rw [WrC1_1_0_1]; refine Gets.cond false (by kernel_rfl) (WreX (b := (decide (c ≥ (((placesN k) : Nat) : Int)))) (by kernel_rfl) ((show (decide (c ≥ (((placesN k) : Nat) : Int))) = false from decide_eq_false (by omega)))) ?_; show Gets _ _ (codeAt [1, 1, 0, 1, 1] BWr) _ _
  refine Wrgo (WrR6 c k) ?_
  rw [WrC1_1_1]; refine Gets.seq ?_
  refine Wrgo (x := .normal) (s' := (WrS6 k c)) ((WrR7 c k).trans (by rw [if_pos (⟨by omega, by omega⟩), condT (and_t (nbeq_t (by omega)) (ble_t (by (first | omega | ((try simp (disch := omega) only [wrap_i64_id]) <;> omega)))))])) ?_
  rw [WrC1_1_1_1]; refine Gets.ev fitW.mix fitW.cfg (fitW.sound twa_sound 14 0) 14 rfl (s' := KSt.low (WrS6 k c)) (x := .ret) rfl ?_
  exact hq
noncomputable def BWp : Code := bodyOf Try.prog 8
theorem BWp_is : Try.f8.body = some BWp := by kernel_rfl
theorem BWp_ok : okCode Try.prog.globals.size BWp = true := by kernel_rfl
noncomputable abbrev WpEV (c : Code) (s : KSt) (lv : List Nat) : Option (Ex × KSt) := evCK Try.prog cfgW (runK Try.prog cfgW fsW (conTk twaDom (rcK [] twaT)) 14 40) 14 c s (normC 0 lv)
theorem Wpgo {lv_ : List Nat} {co_ : Code} {st_ s' : KSt} {x : Ex} {Q : Ex → St → Prop} (hE_ : WpEV co_ st_ lv_ = some (x, s')) (hq_ : Q x s'.low) (hok_ : okCode Try.prog.globals.size co_ = true := by kernel_rfl) : Gets Try.prog (KH.low ⟨0, 1, []⟩) co_ st_.low Q := Gets.ofN fitW twa_sound (rc_agree _ _ _) 14 40 hok_ hE_ hq_
theorem WpeX {v : Value} {b c : Bool} (h : v = .bool b) (hb : b = c) : v = .bool c := by rw [h, hb]
theorem WpC : BWp = .seq (codeAt [0] BWp) (codeAt [1] BWp) := by kernel_rfl
noncomputable def WpS0 (k : Int) (c : Int) : KSt := (firstK [(.int .i64 k), (.int .i64 c)] 43 ⟨0, 1, []⟩)
noncomputable def WpS1 (k : Int) (c : Int) : KSt := ⟨(frameL 43 [(0, (.int .i64 k)), (1, (.int .i64 c)), (4, (.pointer (some ⟨0, 0, none⟩))), (5, undef), (6, undef), (7, undef), (8, undef), (9, undef), (10, undef), (11, undef), (12, undef), (13, undef), (14, undef), (15, undef), (16, undef), (17, undef), (18, undef), (19, undef), (20, undef), (21, undef), (22, undef), (23, undef), (24, undef), (25, undef), (26, undef), (27, undef), (28, undef), (29, undef), (30, undef), (31, undef), (32, undef), (33, undef), (34, undef), (35, undef), (36, undef), (37, undef), (38, undef), (39, undef), (40, undef), (41, undef), (42, undef)]), ⟨1, 1, [(0, 0, .cells [(.int .i64 0), (.int .i64 0), (.int .i64 0)] 33 true)]⟩⟩
theorem WpR1 (k : Int) (c : Int) : WpEV (codeAt [0] BWp) (WpS0 k c) [0, 1, 4, 5, 6, 7, 8, 9, 10, 11, 12, 13, 14, 15, 16, 17, 18, 19, 20, 21, 22, 23, 24, 25, 26, 27, 28, 29, 30, 31, 32, 33, 34, 35, 36, 37, 38, 39, 40, 41, 42] =
  some (.normal, (WpS1 k c)) := by kernel_rfl
noncomputable def WpS2  : KSt := ⟨(frameL 43 [(4, (.pointer (some ⟨0, 0, none⟩)))]), ⟨1, 1, [(0, 0, .cells [(.int .i64 0), (.int .i64 0), (.int .i64 0)] 33 true)]⟩⟩
noncomputable def WpS3  : KSt := ⟨(frameL 43 [(4, (.pointer (some ⟨0, 0, none⟩)))]), ⟨1, 1, [(0, 0, .cells [(.int .i64 1), (.int .i64 0), (.int .i64 0)] 33 true)]⟩⟩
noncomputable def WpS4 (c : Int) : KSt := ⟨(frameL 43 [(4, (.pointer (some ⟨0, 0, none⟩)))]), ⟨1, 1, [(0, 0, .cells [(.int .i64 2), (.int .i64 (IntKind.wrap .i64 (c - 7))), (.int .i64 0)] 33 true)]⟩⟩
noncomputable def WpS5 (c : Int) (k : Int) : KSt := ⟨(frameL 43 [(4, (.pointer (some ⟨0, 0, none⟩)))]), ⟨1, 1, [(0, 0, .cells [(.int .i64 3), (.int .i64 (IntKind.wrap .i64 (Int.tdiv (IntKind.wrap .i64 ((IntKind.wrap .i64 (c - 7)) - (groupsV k))) 8))), (.int .i64 (Int.tmod (IntKind.wrap .i64 ((IntKind.wrap .i64 (c - 7)) - (groupsV k))) 8))] 33 true)]⟩⟩
theorem WpR2 (k : Int) (c : Int) : WpEV (codeAt [1] BWp) (WpS1 k c) [4] =
  bif (decide (c < 0)) then
    some (.ret, WpS2)
  else
    bif ((groupsV k) == 0) then
      bif (decide (c ≥ 0)) then
        some (.ret, WpS2)
      else
        bif (decide (c < 7)) then
          some (.ret, WpS3)
        else
          bif (decide ((IntKind.wrap .i64 (c - 7)) < (groupsV k))) then
            some (.ret, (WpS4 c))
          else
            some (.ret, (WpS5 c k))
    else
      bif (decide (c ≥ (IntKind.wrap .i64 ((IntKind.wrap .i64 (7 + (groupsV k))) + (IntKind.wrap .i64 (8 * (groupsV k))))))) then
        some (.ret, WpS2)
      else
        bif (decide (c < 7)) then
          some (.ret, WpS3)
        else
          bif (decide ((IntKind.wrap .i64 (c - 7)) < (groupsV k))) then
            some (.ret, (WpS4 c))
          else
            some (.ret, (WpS5 c k)) := by kernel_rfl
noncomputable def WpS6 (c : Int) : KSt := ⟨(frameL 43 [(4, (.pointer (some ⟨0, 0, none⟩)))]), ⟨1, 1, [(0, 0, .cells [(.int .i64 2), (.int .i64 (c - 7)), (.int .i64 0)] 33 true)]⟩⟩
noncomputable def WpS7 (c : Int) (k : Int) : KSt := ⟨(frameL 43 [(4, (.pointer (some ⟨0, 0, none⟩)))]), ⟨1, 1, [(0, 0, .cells [(.int .i64 3), (.int .i64 (((c - 7) - (groupsV k)) / 8)), (.int .i64 (((c - 7) - (groupsV k)) % 8))] 33 true)]⟩⟩
theorem Wpneg {k : Int} {c : Int} (h0 : 0 ≤ groupsV k) (h5 : groupsV k ≤ 512) (hc : c < 0)   {Q : Ex → St → Prop} (hq : Q .ret (KSt.low WpS2)) : Gets Try.prog (KH.low ⟨0, 1, []⟩) BWp (KSt.low (WpS0 k c)) Q := by
  rw [WpC]; refine Gets.seq ?_
  refine Wpgo (WpR1 k c) ?_
  refine Wpgo (x := .ret) (s' := WpS2) ((WpR2 k c).trans (by rw [condT (decide_eq_true (by omega))])) ?_
  exact hq
theorem Wpno {k : Int} {c : Int} (h0 : 0 ≤ groupsV k) (h5 : groupsV k ≤ 512) (hc : 0 ≤ c) (hg : groupsV k = 0)   {Q : Ex → St → Prop} (hq : Q .ret (KSt.low WpS2)) : Gets Try.prog (KH.low ⟨0, 1, []⟩) BWp (KSt.low (WpS0 k c)) Q := by
  rw [WpC]; refine Gets.seq ?_
  refine Wpgo (WpR1 k c) ?_
  refine Wpgo (x := .ret) (s' := WpS2) ((WpR2 k c).trans (by rw [condF (decide_eq_false (by omega)), condT (ibeq_t (by omega)), condT (decide_eq_true (by omega))])) ?_
  exact hq
theorem Wpbig {k : Int} {c : Int} (h0 : 0 ≤ groupsV k) (h5 : groupsV k ≤ 512) (hc : 7 + 9 * groupsV k ≤ c) (h1 : 1 ≤ groupsV k)   {Q : Ex → St → Prop} (hq : Q .ret (KSt.low WpS2)) : Gets Try.prog (KH.low ⟨0, 1, []⟩) BWp (KSt.low (WpS0 k c)) Q := by
  rw [WpC]; refine Gets.seq ?_
  refine Wpgo (WpR1 k c) ?_
  refine Wpgo (x := .ret) (s' := WpS2) ((WpR2 k c).trans (by rw [condF (decide_eq_false (by omega)), condF (ibeq_f (by omega)), condT (decide_eq_true (by (first | omega | (simp (disch := omega) only [wrap_i64_id, Int.tdiv_eq_ediv_of_nonneg, Int.tmod_eq_emod_of_nonneg]; omega) | ((try simp (disch := omega) only [wrap_i64_id]) <;> omega))))])) ?_
  exact hq
theorem Wphd {k : Int} {c : Int} (h0 : 0 ≤ groupsV k) (h5 : groupsV k ≤ 512) (hc : 0 ≤ c) (hc7 : c < 7) (h1 : 1 ≤ groupsV k)   {Q : Ex → St → Prop} (hq : Q .ret (KSt.low WpS3)) : Gets Try.prog (KH.low ⟨0, 1, []⟩) BWp (KSt.low (WpS0 k c)) Q := by
  rw [WpC]; refine Gets.seq ?_
  refine Wpgo (WpR1 k c) ?_
  refine Wpgo (x := .ret) (s' := WpS3) ((WpR2 k c).trans (by rw [condF (decide_eq_false (by omega)), condF (ibeq_f (by omega)), condF (decide_eq_false (by (first | omega | (simp (disch := omega) only [wrap_i64_id, Int.tdiv_eq_ediv_of_nonneg, Int.tmod_eq_emod_of_nonneg]; omega) | ((try simp (disch := omega) only [wrap_i64_id]) <;> omega)))), condT (decide_eq_true (by omega))])) ?_
  exact hq
theorem Wpgr {k : Int} {c : Int} (h0 : 0 ≤ groupsV k) (h5 : groupsV k ≤ 512) (hc : 7 ≤ c) (hcg : c < 7 + groupsV k) (h1 : 1 ≤ groupsV k)   {Q : Ex → St → Prop} (hq : Q .ret (KSt.low (WpS6 c))) : Gets Try.prog (KH.low ⟨0, 1, []⟩) BWp (KSt.low (WpS0 k c)) Q := by
  rw [WpC]; refine Gets.seq ?_
  refine Wpgo (WpR1 k c) ?_
  refine Wpgo (x := .ret) (s' := (WpS6 c)) ((WpR2 k c).trans (by rw [condF (decide_eq_false (by omega)), condF (ibeq_f (by omega)), condF (decide_eq_false (by (first | omega | (simp (disch := omega) only [wrap_i64_id, Int.tdiv_eq_ediv_of_nonneg, Int.tmod_eq_emod_of_nonneg]; omega) | ((try simp (disch := omega) only [wrap_i64_id]) <;> omega)))), condF (decide_eq_false (by omega)), condT (decide_eq_true (by (first | omega | (simp (disch := omega) only [wrap_i64_id, Int.tdiv_eq_ediv_of_nonneg, Int.tmod_eq_emod_of_nonneg]; omega) | ((try simp (disch := omega) only [wrap_i64_id]) <;> omega))))] <;> (show some (Ex.ret, (WpS4 c)) = some (Ex.ret, (WpS6 c)); unfold WpS4 WpS6; rw [(show (IntKind.wrap .i64 (c - 7)) = (c - 7) from wrap_i64_id (by omega) (by omega))]))) ?_
  exact hq
theorem Wpsl {k : Int} {c : Int} (h0 : 0 ≤ groupsV k) (h5 : groupsV k ≤ 512) (hc : 7 + groupsV k ≤ c) (hcs : c < 7 + 9 * groupsV k) (h1 : 1 ≤ groupsV k)   {Q : Ex → St → Prop} (hq : Q .ret (KSt.low (WpS7 c k))) : Gets Try.prog (KH.low ⟨0, 1, []⟩) BWp (KSt.low (WpS0 k c)) Q := by
  rw [WpC]; refine Gets.seq ?_
  refine Wpgo (WpR1 k c) ?_
  refine Wpgo (x := .ret) (s' := (WpS7 c k)) ((WpR2 k c).trans (by rw [condF (decide_eq_false (by omega)), condF (ibeq_f (by omega)), condF (decide_eq_false (by (first | omega | (simp (disch := omega) only [wrap_i64_id, Int.tdiv_eq_ediv_of_nonneg, Int.tmod_eq_emod_of_nonneg]; omega) | ((try simp (disch := omega) only [wrap_i64_id]) <;> omega)))), condF (decide_eq_false (by omega)), condF (decide_eq_false (by (first | omega | (simp (disch := omega) only [wrap_i64_id, Int.tdiv_eq_ediv_of_nonneg, Int.tmod_eq_emod_of_nonneg]; omega) | ((try simp (disch := omega) only [wrap_i64_id]) <;> omega))))] <;> (show some (Ex.ret, (WpS5 c k)) = some (Ex.ret, (WpS7 c k)); unfold WpS5 WpS7; rw [(show (IntKind.wrap .i64 (c - 7)) = (c - 7) from wrap_i64_id (by omega) (by omega)), (show (IntKind.wrap .i64 ((c - 7) - (groupsV k))) = ((c - 7) - (groupsV k)) from wrap_i64_id (by omega) (by omega)), (show (Int.tmod ((c - 7) - (groupsV k)) 8) = (((c - 7) - (groupsV k)) % 8) from Int.tmod_eq_emod_of_nonneg (by omega)), (show (Int.tdiv ((c - 7) - (groupsV k)) 8) = (((c - 7) - (groupsV k)) / 8) from Int.tdiv_eq_ediv_of_nonneg (by omega)), (show (IntKind.wrap .i64 (((c - 7) - (groupsV k)) / 8)) = (((c - 7) - (groupsV k)) / 8) from wrap_i64_id (by omega) (by omega))]))) ?_
  exact hq
noncomputable def BGr : Code := bodyOf Try.prog 19
theorem BGr_is : Try.f19.body = some BGr := by kernel_rfl
theorem BGr_ok : okCode Try.prog.globals.size BGr = true := by kernel_rfl
noncomputable abbrev GrEV (c : Code) (s : KSt) (lv : List Nat) : Option (Ex × KSt) := evCK Try.prog cfgW (runK Try.prog cfgW fsW (conTk twaDom (rcK [] twaT)) 14 40) 14 c s (normC 0 lv)
theorem Grgo {lv_ : List Nat} {co_ : Code} {st_ s' : KSt} {x : Ex} {Q : Ex → St → Prop} (hE_ : GrEV co_ st_ lv_ = some (x, s')) (hq_ : Q x s'.low) (hok_ : okCode Try.prog.globals.size co_ = true := by kernel_rfl) : Gets Try.prog (KH.low ⟨0, 1, []⟩) co_ st_.low Q := Gets.ofN fitW twa_sound (rc_agree _ _ _) 14 40 hok_ hE_ hq_
theorem GreX {v : Value} {b c : Bool} (h : v = .bool b) (hb : b = c) : v = .bool c := by rw [h, hb]
theorem GrC : BGr = .seq (codeAt [0] BGr) (codeAt [1] BGr) := by kernel_rfl
theorem GrC1 : (codeAt [1] BGr) = .seq (codeAt [1, 0] BGr) (codeAt [1, 1] BGr) := by kernel_rfl
theorem GrC1_0 : (codeAt [1, 0] BGr) = .seq (codeAt [1, 0, 0] BGr) (codeAt [1, 0, 1] BGr) := by kernel_rfl
theorem GrC1_0_1 : (codeAt [1, 0, 1] BGr) = .cond (.tmp 12) (codeAt [1, 0, 1, 0] BGr) (codeAt [1, 0, 1, 1] BGr) := by kernel_rfl
theorem GrC1_0_1_0 : (codeAt [1, 0, 1, 0] BGr) = .seq (codeAt [1, 0, 1, 0, 0] BGr) (codeAt [1, 0, 1, 0, 1] BGr) := by kernel_rfl
theorem GrC1_0_1_0_1 : (codeAt [1, 0, 1, 0, 1] BGr) = .ret := by kernel_rfl
theorem GrC1_1 : (codeAt [1, 1] BGr) = .seq (codeAt [1, 1, 0] BGr) (codeAt [1, 1, 1] BGr) := by kernel_rfl
theorem GrC1_1_1 : (codeAt [1, 1, 1] BGr) = .ret := by kernel_rfl
noncomputable def GrS0 (k : Int) (g : Int) : KSt := (firstK [(.int .i64 k), (.int .i64 g)] 15 ⟨0, 1, []⟩)
noncomputable def GrS1 (k : Int) (g : Int) : KSt := ⟨(frameL 15 [(0, (.int .i64 k)), (1, (.int .i64 g))]), ⟨0, 1, []⟩⟩
theorem GrR1 (k : Int) (g : Int) : GrEV (codeAt [0] BGr) (GrS0 k g) [0, 1] =
  some (.normal, (GrS1 k g)) := by kernel_rfl
noncomputable def GrS2 (g : Int) : KSt := ⟨(frameL 15 [(1, (.int .i64 g)), (12, (.bool true))]), ⟨0, 1, []⟩⟩
noncomputable def GrS3 (g : Int) (k : Int) : KSt := ⟨(frameL 15 [(1, (.int .i64 g)), (12, (.bool (decide (g ≥ (groupsV k)))))]), ⟨0, 1, []⟩⟩
theorem GrR2 (k : Int) (g : Int) : GrEV (codeAt [1, 0, 0] BGr) (GrS1 k g) [1, 12] =
  bif (decide (g < 0)) then
    some (.normal, (GrS2 g))
  else
    some (.normal, (GrS3 g k)) := by kernel_rfl
noncomputable def GrS4  : KSt := ⟨(frameL 15 [(4, (.int .i64 (-1)))]), ⟨0, 1, []⟩⟩
theorem GrR3 (g : Int) : GrEV (codeAt [1, 0, 1, 0, 0] BGr) (GrS2 g) [4] =
  some (.normal, GrS4) := by kernel_rfl
theorem GrR4 (g : Int) (k : Int) : GrEV (codeAt [1, 0, 1, 0, 0] BGr) (GrS3 g k) [4] =
  some (.normal, GrS4) := by kernel_rfl
noncomputable def GrS5 (g : Int) : KSt := ⟨(frameL 15 [(1, (.int .i64 g))]), ⟨0, 1, []⟩⟩
theorem GrR5 (g : Int) (k : Int) : GrEV (codeAt [1, 0, 1, 1] BGr) (GrS3 g k) [1] =
  some (.normal, (GrS5 g)) := by kernel_rfl
noncomputable def GrS6 (g : Int) : KSt := ⟨(frameL 15 [(4, (.int .i64 (IntKind.wrap .i64 (7 + g))))]), ⟨0, 1, []⟩⟩
theorem GrR6 (g : Int) : GrEV (codeAt [1, 1, 0] BGr) (GrS5 g) [4] =
  some (.normal, (GrS6 g)) := by kernel_rfl
noncomputable def GrS7 (g : Int) : KSt := ⟨(frameL 15 [(4, (.int .i64 (7 + g)))]), ⟨0, 1, []⟩⟩
theorem Grneg {g : Int} {k : Int} (hc : g < 0)   {Q : Ex → St → Prop} (hq : Q .ret (KSt.low GrS4)) : Gets Try.prog (KH.low ⟨0, 1, []⟩) BGr (KSt.low (GrS0 k g)) Q := by
  rw [GrC]; refine Gets.seq ?_
  refine Grgo (GrR1 k g) ?_
  rw [GrC1]; refine Gets.seq ?_
  rw [GrC1_0]; refine Gets.seq ?_
  refine Grgo (x := .normal) (s' := (GrS2 g)) ((GrR2 k g).trans (by rw [condT (decide_eq_true (by omega))])) ?_
  rw [GrC1_0_1]; refine Gets.cond true (by kernel_rfl) (by kernel_rfl) ?_; show Gets _ _ (codeAt [1, 0, 1, 0] BGr) _ _
  rw [GrC1_0_1_0]; refine Gets.seq ?_
  refine Grgo (GrR3 g) ?_
  rw [GrC1_0_1_0_1]; refine Gets.ev fitW.mix fitW.cfg (fitW.sound twa_sound 14 0) 14 rfl (s' := KSt.low GrS4) (x := .ret) rfl ?_
  exact hq
theorem Grbig {g : Int} {k : Int} (hc : 0 ≤ g) (hc1 : groupsV k ≤ g)   {Q : Ex → St → Prop} (hq : Q .ret (KSt.low GrS4)) : Gets Try.prog (KH.low ⟨0, 1, []⟩) BGr (KSt.low (GrS0 k g)) Q := by
  rw [GrC]; refine Gets.seq ?_
  refine Grgo (GrR1 k g) ?_
  rw [GrC1]; refine Gets.seq ?_
  rw [GrC1_0]; refine Gets.seq ?_
  refine Grgo (x := .normal) (s' := (GrS3 g k)) ((GrR2 k g).trans (by rw [condF (decide_eq_false (by omega))])) ?_
  rw [GrC1_0_1]; refine Gets.cond true (by kernel_rfl) (GreX (b := (decide (g ≥ (groupsV k)))) (by kernel_rfl) ((show (decide (g ≥ (groupsV k))) = true from decide_eq_true (by omega)))) ?_; show Gets _ _ (codeAt [1, 0, 1, 0] BGr) _ _
  rw [GrC1_0_1_0]; refine Gets.seq ?_
  refine Grgo (GrR4 g k) ?_
  rw [GrC1_0_1_0_1]; refine Gets.ev fitW.mix fitW.cfg (fitW.sound twa_sound 14 0) 14 rfl (s' := KSt.low GrS4) (x := .ret) rfl ?_
  exact hq
theorem Grok {k : Int} {g : Int} (h0 : 0 ≤ groupsV k) (h5 : groupsV k ≤ 512) (hc : 0 ≤ g) (hc1 : g < groupsV k)   {Q : Ex → St → Prop} (hq : Q .ret (KSt.low (GrS7 g))) : Gets Try.prog (KH.low ⟨0, 1, []⟩) BGr (KSt.low (GrS0 k g)) Q := by
  rw [GrC]; refine Gets.seq ?_
  refine Grgo (GrR1 k g) ?_
  rw [GrC1]; refine Gets.seq ?_
  rw [GrC1_0]; refine Gets.seq ?_
  refine Grgo (x := .normal) (s' := (GrS3 g k)) ((GrR2 k g).trans (by rw [condF (decide_eq_false (by omega))])) ?_
  rw [GrC1_0_1]; refine Gets.cond false (by kernel_rfl) (GreX (b := (decide (g ≥ (groupsV k)))) (by kernel_rfl) ((show (decide (g ≥ (groupsV k))) = false from decide_eq_false (by omega)))) ?_; show Gets _ _ (codeAt [1, 0, 1, 1] BGr) _ _
  refine Grgo (GrR5 g k) ?_
  rw [GrC1_1]; refine Gets.seq ?_
  refine Grgo (x := .normal) (s' := (GrS7 g)) ((GrR6 g).trans (by (show some (Ex.normal, (GrS6 g)) = some (Ex.normal, (GrS7 g)); unfold GrS6 GrS7; rw [(show (IntKind.wrap .i64 (7 + g)) = (7 + g) from wrap_i64_id (by omega) (by omega))]))) ?_
  rw [GrC1_1_1]; refine Gets.ev fitW.mix fitW.cfg (fitW.sound twa_sound 14 0) 14 rfl (s' := KSt.low (GrS7 g)) (x := .ret) rfl ?_
  exact hq
noncomputable def BGp : Code := bodyOf Try.prog 18
theorem BGp_is : Try.f18.body = some BGp := by kernel_rfl
theorem BGp_ok : okCode Try.prog.globals.size BGp = true := by kernel_rfl
noncomputable abbrev GpEV (c : Code) (s : KSt) (lv : List Nat) : Option (Ex × KSt) := evCK Try.prog cfgW (runK Try.prog cfgW fsW (conTk twaDom (rcK [] twaT)) 14 40) 14 c s (normC 0 lv)
theorem Gpgo {lv_ : List Nat} {co_ : Code} {st_ s' : KSt} {x : Ex} {Q : Ex → St → Prop} (hE_ : GpEV co_ st_ lv_ = some (x, s')) (hq_ : Q x s'.low) (hok_ : okCode Try.prog.globals.size co_ = true := by kernel_rfl) : Gets Try.prog (KH.low ⟨0, 1, []⟩) co_ st_.low Q := Gets.ofN fitW twa_sound (rc_agree _ _ _) 14 40 hok_ hE_ hq_
theorem GpeX {v : Value} {b c : Bool} (h : v = .bool b) (hb : b = c) : v = .bool c := by rw [h, hb]
theorem GpC : BGp = .seq (codeAt [0] BGp) (codeAt [1] BGp) := by kernel_rfl
theorem GpC1 : (codeAt [1] BGp) = .seq (codeAt [1, 0] BGp) (codeAt [1, 1] BGp) := by kernel_rfl
theorem GpC1_0 : (codeAt [1, 0] BGp) = .seq (codeAt [1, 0, 0] BGp) (codeAt [1, 0, 1] BGp) := by kernel_rfl
theorem GpC1_0_1 : (codeAt [1, 0, 1] BGp) = .cond (.tmp 12) (codeAt [1, 0, 1, 0] BGp) (codeAt [1, 0, 1, 1] BGp) := by kernel_rfl
theorem GpC1_0_1_0 : (codeAt [1, 0, 1, 0] BGp) = .seq (codeAt [1, 0, 1, 0, 0] BGp) (codeAt [1, 0, 1, 0, 1] BGp) := by kernel_rfl
theorem GpC1_0_1_0_1 : (codeAt [1, 0, 1, 0, 1] BGp) = .ret := by kernel_rfl
theorem GpC1_1 : (codeAt [1, 1] BGp) = .seq (codeAt [1, 1, 0] BGp) (codeAt [1, 1, 1] BGp) := by kernel_rfl
theorem GpC1_1_1 : (codeAt [1, 1, 1] BGp) = .ret := by kernel_rfl
noncomputable def GpS0 (k : Int) (g : Int) : KSt := (firstK [(.int .i64 k), (.int .i64 g)] 15 ⟨0, 1, []⟩)
noncomputable def GpS1 (k : Int) (g : Int) : KSt := ⟨(frameL 15 [(0, (.int .i64 k)), (1, (.int .i64 g))]), ⟨0, 1, []⟩⟩
theorem GpR1 (k : Int) (g : Int) : GpEV (codeAt [0] BGp) (GpS0 k g) [0, 1] =
  some (.normal, (GpS1 k g)) := by kernel_rfl
noncomputable def GpS2 (g : Int) : KSt := ⟨(frameL 15 [(1, (.int .i64 g)), (12, (.bool true))]), ⟨0, 1, []⟩⟩
noncomputable def GpS3 (g : Int) (k : Int) : KSt := ⟨(frameL 15 [(1, (.int .i64 g)), (12, (.bool (decide (g ≥ (groupsV k)))))]), ⟨0, 1, []⟩⟩
theorem GpR2 (k : Int) (g : Int) : GpEV (codeAt [1, 0, 0] BGp) (GpS1 k g) [1, 12] =
  bif (decide (g < 0)) then
    some (.normal, (GpS2 g))
  else
    some (.normal, (GpS3 g k)) := by kernel_rfl
noncomputable def GpS4  : KSt := ⟨(frameL 15 [(4, (.int .i64 (-1)))]), ⟨0, 1, []⟩⟩
theorem GpR3 (g : Int) : GpEV (codeAt [1, 0, 1, 0, 0] BGp) (GpS2 g) [4] =
  some (.normal, GpS4) := by kernel_rfl
theorem GpR4 (g : Int) (k : Int) : GpEV (codeAt [1, 0, 1, 0, 0] BGp) (GpS3 g k) [4] =
  some (.normal, GpS4) := by kernel_rfl
noncomputable def GpS5 (g : Int) : KSt := ⟨(frameL 15 [(1, (.int .i64 g))]), ⟨0, 1, []⟩⟩
theorem GpR5 (g : Int) (k : Int) : GpEV (codeAt [1, 0, 1, 1] BGp) (GpS3 g k) [1] =
  some (.normal, (GpS5 g)) := by kernel_rfl
noncomputable def GpS6 (g : Int) : KSt := ⟨(frameL 15 [(4, (.int .i64 (IntKind.wrap .i64 (7 + g))))]), ⟨0, 1, []⟩⟩
theorem GpR6 (g : Int) : GpEV (codeAt [1, 1, 0] BGp) (GpS5 g) [4] =
  some (.normal, (GpS6 g)) := by kernel_rfl
noncomputable def GpS7 (g : Int) : KSt := ⟨(frameL 15 [(4, (.int .i64 (7 + g)))]), ⟨0, 1, []⟩⟩
theorem Gpneg {g : Int} {k : Int} (hc : g < 0)   {Q : Ex → St → Prop} (hq : Q .ret (KSt.low GpS4)) : Gets Try.prog (KH.low ⟨0, 1, []⟩) BGp (KSt.low (GpS0 k g)) Q := by
  rw [GpC]; refine Gets.seq ?_
  refine Gpgo (GpR1 k g) ?_
  rw [GpC1]; refine Gets.seq ?_
  rw [GpC1_0]; refine Gets.seq ?_
  refine Gpgo (x := .normal) (s' := (GpS2 g)) ((GpR2 k g).trans (by rw [condT (decide_eq_true (by omega))])) ?_
  rw [GpC1_0_1]; refine Gets.cond true (by kernel_rfl) (by kernel_rfl) ?_; show Gets _ _ (codeAt [1, 0, 1, 0] BGp) _ _
  rw [GpC1_0_1_0]; refine Gets.seq ?_
  refine Gpgo (GpR3 g) ?_
  rw [GpC1_0_1_0_1]; refine Gets.ev fitW.mix fitW.cfg (fitW.sound twa_sound 14 0) 14 rfl (s' := KSt.low GpS4) (x := .ret) rfl ?_
  exact hq
theorem Gpbig {g : Int} {k : Int} (hc : 0 ≤ g) (hc1 : groupsV k ≤ g)   {Q : Ex → St → Prop} (hq : Q .ret (KSt.low GpS4)) : Gets Try.prog (KH.low ⟨0, 1, []⟩) BGp (KSt.low (GpS0 k g)) Q := by
  rw [GpC]; refine Gets.seq ?_
  refine Gpgo (GpR1 k g) ?_
  rw [GpC1]; refine Gets.seq ?_
  rw [GpC1_0]; refine Gets.seq ?_
  refine Gpgo (x := .normal) (s' := (GpS3 g k)) ((GpR2 k g).trans (by rw [condF (decide_eq_false (by omega))])) ?_
  rw [GpC1_0_1]; refine Gets.cond true (by kernel_rfl) (GpeX (b := (decide (g ≥ (groupsV k)))) (by kernel_rfl) ((show (decide (g ≥ (groupsV k))) = true from decide_eq_true (by omega)))) ?_; show Gets _ _ (codeAt [1, 0, 1, 0] BGp) _ _
  rw [GpC1_0_1_0]; refine Gets.seq ?_
  refine Gpgo (GpR4 g k) ?_
  rw [GpC1_0_1_0_1]; refine Gets.ev fitW.mix fitW.cfg (fitW.sound twa_sound 14 0) 14 rfl (s' := KSt.low GpS4) (x := .ret) rfl ?_
  exact hq
theorem Gpok {k : Int} {g : Int} (h0 : 0 ≤ groupsV k) (h5 : groupsV k ≤ 512) (hc : 0 ≤ g) (hc1 : g < groupsV k)   {Q : Ex → St → Prop} (hq : Q .ret (KSt.low (GpS7 g))) : Gets Try.prog (KH.low ⟨0, 1, []⟩) BGp (KSt.low (GpS0 k g)) Q := by
  rw [GpC]; refine Gets.seq ?_
  refine Gpgo (GpR1 k g) ?_
  rw [GpC1]; refine Gets.seq ?_
  rw [GpC1_0]; refine Gets.seq ?_
  refine Gpgo (x := .normal) (s' := (GpS3 g k)) ((GpR2 k g).trans (by rw [condF (decide_eq_false (by omega))])) ?_
  rw [GpC1_0_1]; refine Gets.cond false (by kernel_rfl) (GpeX (b := (decide (g ≥ (groupsV k)))) (by kernel_rfl) ((show (decide (g ≥ (groupsV k))) = false from decide_eq_false (by omega)))) ?_; show Gets _ _ (codeAt [1, 0, 1, 1] BGp) _ _
  refine Gpgo (GpR5 g k) ?_
  rw [GpC1_1]; refine Gets.seq ?_
  refine Gpgo (x := .normal) (s' := (GpS7 g)) ((GpR6 g).trans (by (show some (Ex.normal, (GpS6 g)) = some (Ex.normal, (GpS7 g)); unfold GpS6 GpS7; rw [(show (IntKind.wrap .i64 (7 + g)) = (7 + g) from wrap_i64_id (by omega) (by omega))]))) ?_
  rw [GpC1_1_1]; refine Gets.ev fitW.mix fitW.cfg (fitW.sound twa_sound 14 0) 14 rfl (s' := KSt.low (GpS7 g)) (x := .ret) rfl ?_
  exact hq
noncomputable def BSr : Code := bodyOf Try.prog 21
theorem BSr_is : Try.f21.body = some BSr := by kernel_rfl
theorem BSr_ok : okCode Try.prog.globals.size BSr = true := by kernel_rfl
noncomputable abbrev SrEV (c : Code) (s : KSt) (lv : List Nat) : Option (Ex × KSt) := evCK Try.prog cfgW (runK Try.prog cfgW fsW (conTk twaDom (rcK [] twaT)) 14 40) 14 c s (normC 0 lv)
theorem Srgo {lv_ : List Nat} {co_ : Code} {st_ s' : KSt} {x : Ex} {Q : Ex → St → Prop} (hE_ : SrEV co_ st_ lv_ = some (x, s')) (hq_ : Q x s'.low) (hok_ : okCode Try.prog.globals.size co_ = true := by kernel_rfl) : Gets Try.prog (KH.low ⟨0, 1, []⟩) co_ st_.low Q := Gets.ofN fitW twa_sound (rc_agree _ _ _) 14 40 hok_ hE_ hq_
theorem SreX {v : Value} {b c : Bool} (h : v = .bool b) (hb : b = c) : v = .bool c := by rw [h, hb]
theorem SrC : BSr = .seq (codeAt [0] BSr) (codeAt [1] BSr) := by kernel_rfl
theorem SrC1 : (codeAt [1] BSr) = .seq (codeAt [1, 0] BSr) (codeAt [1, 1] BSr) := by kernel_rfl
theorem SrC1_1 : (codeAt [1, 1] BSr) = .seq (codeAt [1, 1, 0] BSr) (codeAt [1, 1, 1] BSr) := by kernel_rfl
theorem SrC1_1_0 : (codeAt [1, 1, 0] BSr) = .seq (codeAt [1, 1, 0, 0] BSr) (codeAt [1, 1, 0, 1] BSr) := by kernel_rfl
theorem SrC1_1_0_1 : (codeAt [1, 1, 0, 1] BSr) = .cond (.tmp 24) (codeAt [1, 1, 0, 1, 0] BSr) (codeAt [1, 1, 0, 1, 1] BSr) := by kernel_rfl
theorem SrC1_1_0_1_0 : (codeAt [1, 1, 0, 1, 0] BSr) = .seq (codeAt [1, 1, 0, 1, 0, 0] BSr) (codeAt [1, 1, 0, 1, 0, 1] BSr) := by kernel_rfl
theorem SrC1_1_0_1_0_1 : (codeAt [1, 1, 0, 1, 0, 1] BSr) = .ret := by kernel_rfl
theorem SrC1_1_1 : (codeAt [1, 1, 1] BSr) = .seq (codeAt [1, 1, 1, 0] BSr) (codeAt [1, 1, 1, 1] BSr) := by kernel_rfl
theorem SrC1_1_1_1 : (codeAt [1, 1, 1, 1] BSr) = .ret := by kernel_rfl
noncomputable def SrS0 (k : Int) (g : Int) (t : Int) : KSt := (firstK [(.int .i64 k), (.int .i64 g), (.int .i64 t)] 32 ⟨0, 1, []⟩)
noncomputable def SrS1 (k : Int) (g : Int) (t : Int) : KSt := ⟨(frameL 32 [(0, (.int .i64 k)), (1, (.int .i64 g)), (2, (.int .i64 t))]), ⟨0, 1, []⟩⟩
theorem SrR1 (k : Int) (g : Int) (t : Int) : SrEV (codeAt [0] BSr) (SrS0 k g t) [0, 1, 2] =
  some (.normal, (SrS1 k g t)) := by kernel_rfl
noncomputable def SrS2 (g : Int) (t : Int) (k : Int) : KSt := ⟨(frameL 32 [(1, (.int .i64 g)), (2, (.int .i64 t)), (7, (.int .i64 (groupsV k)))]), ⟨0, 1, []⟩⟩
theorem SrR2 (k : Int) (g : Int) (t : Int) : SrEV (codeAt [1, 0] BSr) (SrS1 k g t) [1, 2, 7] =
  some (.normal, (SrS2 g t k)) := by kernel_rfl
noncomputable def SrS3 (g : Int) (t : Int) (k : Int) : KSt := ⟨(frameL 32 [(1, (.int .i64 g)), (2, (.int .i64 t)), (7, (.int .i64 (groupsV k))), (24, (.bool true))]), ⟨0, 1, []⟩⟩
noncomputable def SrS4 (g : Int) (t : Int) (k : Int) : KSt := ⟨(frameL 32 [(1, (.int .i64 g)), (2, (.int .i64 t)), (7, (.int .i64 (groupsV k))), (24, (.bool (decide (t > 7))))]), ⟨0, 1, []⟩⟩
theorem SrR3 (g : Int) (t : Int) (k : Int) : SrEV (codeAt [1, 1, 0, 0] BSr) (SrS2 g t k) [1, 2, 7, 24] =
  bif (decide (g < 0)) then
    some (.normal, (SrS3 g t k))
  else
    bif (decide (g ≥ (groupsV k))) then
      some (.normal, (SrS3 g t k))
    else
      bif (decide (t < 0)) then
        some (.normal, (SrS3 g t k))
      else
        some (.normal, (SrS4 g t k)) := by kernel_rfl
noncomputable def SrS5  : KSt := ⟨(frameL 32 [(6, (.int .i64 (-1)))]), ⟨0, 1, []⟩⟩
theorem SrR4 (g : Int) (t : Int) (k : Int) : SrEV (codeAt [1, 1, 0, 1, 0, 0] BSr) (SrS3 g t k) [6] =
  some (.normal, SrS5) := by kernel_rfl
theorem SrR5 (g : Int) (t : Int) (k : Int) : SrEV (codeAt [1, 1, 0, 1, 0, 0] BSr) (SrS4 g t k) [6] =
  some (.normal, SrS5) := by kernel_rfl
theorem SrR6 (g : Int) (t : Int) (k : Int) : SrEV (codeAt [1, 1, 0, 1, 1] BSr) (SrS4 g t k) [1, 2, 7] =
  some (.normal, (SrS2 g t k)) := by kernel_rfl
noncomputable def SrS6 (k : Int) (g : Int) (t : Int) : KSt := ⟨(frameL 32 [(6, (.int .i64 (IntKind.wrap .i64 ((IntKind.wrap .i64 ((IntKind.wrap .i64 (7 + (groupsV k))) + (IntKind.wrap .i64 (8 * g)))) + t))))]), ⟨0, 1, []⟩⟩
theorem SrR7 (g : Int) (t : Int) (k : Int) : SrEV (codeAt [1, 1, 1, 0] BSr) (SrS2 g t k) [6] =
  some (.normal, (SrS6 k g t)) := by kernel_rfl
noncomputable def SrS7 (k : Int) (g : Int) (t : Int) : KSt := ⟨(frameL 32 [(6, (.int .i64 (((7 + (groupsV k)) + (8 * g)) + t)))]), ⟨0, 1, []⟩⟩
theorem Srneg {k : Int} {g : Int} {t : Int} (h0 : 0 ≤ groupsV k) (h5 : groupsV k ≤ 512) (hc : g < 0)   {Q : Ex → St → Prop} (hq : Q .ret (KSt.low SrS5)) : Gets Try.prog (KH.low ⟨0, 1, []⟩) BSr (KSt.low (SrS0 k g t)) Q := by
  rw [SrC]; refine Gets.seq ?_
  refine Srgo (SrR1 k g t) ?_
  rw [SrC1]; refine Gets.seq ?_
  refine Srgo (SrR2 k g t) ?_
  rw [SrC1_1]; refine Gets.seq ?_
  rw [SrC1_1_0]; refine Gets.seq ?_
  refine Srgo (x := .normal) (s' := (SrS3 g t k)) ((SrR3 g t k).trans (by rw [condT (decide_eq_true (by omega))])) ?_
  rw [SrC1_1_0_1]; refine Gets.cond true (by kernel_rfl) (by kernel_rfl) ?_; show Gets _ _ (codeAt [1, 1, 0, 1, 0] BSr) _ _
  rw [SrC1_1_0_1_0]; refine Gets.seq ?_
  refine Srgo (SrR4 g t k) ?_
  rw [SrC1_1_0_1_0_1]; refine Gets.ev fitW.mix fitW.cfg (fitW.sound twa_sound 14 0) 14 rfl (s' := KSt.low SrS5) (x := .ret) rfl ?_
  exact hq
theorem Srbig {k : Int} {g : Int} {t : Int} (h0 : 0 ≤ groupsV k) (h5 : groupsV k ≤ 512) (hc : 0 ≤ g) (hc1 : groupsV k ≤ g)   {Q : Ex → St → Prop} (hq : Q .ret (KSt.low SrS5)) : Gets Try.prog (KH.low ⟨0, 1, []⟩) BSr (KSt.low (SrS0 k g t)) Q := by
  rw [SrC]; refine Gets.seq ?_
  refine Srgo (SrR1 k g t) ?_
  rw [SrC1]; refine Gets.seq ?_
  refine Srgo (SrR2 k g t) ?_
  rw [SrC1_1]; refine Gets.seq ?_
  rw [SrC1_1_0]; refine Gets.seq ?_
  refine Srgo (x := .normal) (s' := (SrS3 g t k)) ((SrR3 g t k).trans (by rw [condF (decide_eq_false (by omega)), condT (decide_eq_true (by omega))])) ?_
  rw [SrC1_1_0_1]; refine Gets.cond true (by kernel_rfl) (by kernel_rfl) ?_; show Gets _ _ (codeAt [1, 1, 0, 1, 0] BSr) _ _
  rw [SrC1_1_0_1_0]; refine Gets.seq ?_
  refine Srgo (SrR4 g t k) ?_
  rw [SrC1_1_0_1_0_1]; refine Gets.ev fitW.mix fitW.cfg (fitW.sound twa_sound 14 0) 14 rfl (s' := KSt.low SrS5) (x := .ret) rfl ?_
  exact hq
theorem Srtn {k : Int} {g : Int} {t : Int} (h0 : 0 ≤ groupsV k) (h5 : groupsV k ≤ 512) (hc : 0 ≤ g) (hc1 : g < groupsV k) (ht : t < 0)   {Q : Ex → St → Prop} (hq : Q .ret (KSt.low SrS5)) : Gets Try.prog (KH.low ⟨0, 1, []⟩) BSr (KSt.low (SrS0 k g t)) Q := by
  rw [SrC]; refine Gets.seq ?_
  refine Srgo (SrR1 k g t) ?_
  rw [SrC1]; refine Gets.seq ?_
  refine Srgo (SrR2 k g t) ?_
  rw [SrC1_1]; refine Gets.seq ?_
  rw [SrC1_1_0]; refine Gets.seq ?_
  refine Srgo (x := .normal) (s' := (SrS3 g t k)) ((SrR3 g t k).trans (by rw [condF (decide_eq_false (by omega)), condF (decide_eq_false (by omega)), condT (decide_eq_true (by omega))])) ?_
  rw [SrC1_1_0_1]; refine Gets.cond true (by kernel_rfl) (by kernel_rfl) ?_; show Gets _ _ (codeAt [1, 1, 0, 1, 0] BSr) _ _
  rw [SrC1_1_0_1_0]; refine Gets.seq ?_
  refine Srgo (SrR4 g t k) ?_
  rw [SrC1_1_0_1_0_1]; refine Gets.ev fitW.mix fitW.cfg (fitW.sound twa_sound 14 0) 14 rfl (s' := KSt.low SrS5) (x := .ret) rfl ?_
  exact hq
theorem Srtb {k : Int} {g : Int} {t : Int} (h0 : 0 ≤ groupsV k) (h5 : groupsV k ≤ 512) (hc : 0 ≤ g) (hc1 : g < groupsV k) (ht : 7 < t)   {Q : Ex → St → Prop} (hq : Q .ret (KSt.low SrS5)) : Gets Try.prog (KH.low ⟨0, 1, []⟩) BSr (KSt.low (SrS0 k g t)) Q := by
  rw [SrC]; refine Gets.seq ?_
  refine Srgo (SrR1 k g t) ?_
  rw [SrC1]; refine Gets.seq ?_
  refine Srgo (SrR2 k g t) ?_
  rw [SrC1_1]; refine Gets.seq ?_
  rw [SrC1_1_0]; refine Gets.seq ?_
  refine Srgo (x := .normal) (s' := (SrS4 g t k)) ((SrR3 g t k).trans (by rw [condF (decide_eq_false (by omega)), condF (decide_eq_false (by omega)), condF (decide_eq_false (by omega))])) ?_
  rw [SrC1_1_0_1]; refine Gets.cond true (by kernel_rfl) (SreX (b := (decide (t > 7))) (by kernel_rfl) ((show (decide (t > 7)) = true from decide_eq_true (by omega)))) ?_; show Gets _ _ (codeAt [1, 1, 0, 1, 0] BSr) _ _
  rw [SrC1_1_0_1_0]; refine Gets.seq ?_
  refine Srgo (SrR5 g t k) ?_
  rw [SrC1_1_0_1_0_1]; refine Gets.ev fitW.mix fitW.cfg (fitW.sound twa_sound 14 0) 14 rfl (s' := KSt.low SrS5) (x := .ret) rfl ?_
  exact hq
theorem Srok {k : Int} {g : Int} {t : Int} (h0 : 0 ≤ groupsV k) (h5 : groupsV k ≤ 512) (hc : 0 ≤ g) (hc1 : g < groupsV k) (ht : 0 ≤ t) (ht7 : t ≤ 7)   {Q : Ex → St → Prop} (hq : Q .ret (KSt.low (SrS7 k g t))) : Gets Try.prog (KH.low ⟨0, 1, []⟩) BSr (KSt.low (SrS0 k g t)) Q := by
  rw [SrC]; refine Gets.seq ?_
  refine Srgo (SrR1 k g t) ?_
  rw [SrC1]; refine Gets.seq ?_
  refine Srgo (SrR2 k g t) ?_
  rw [SrC1_1]; refine Gets.seq ?_
  rw [SrC1_1_0]; refine Gets.seq ?_
  refine Srgo (x := .normal) (s' := (SrS4 g t k)) ((SrR3 g t k).trans (by rw [condF (decide_eq_false (by omega)), condF (decide_eq_false (by omega)), condF (decide_eq_false (by omega))])) ?_
  rw [SrC1_1_0_1]; refine Gets.cond false (by kernel_rfl) (SreX (b := (decide (t > 7))) (by kernel_rfl) ((show (decide (t > 7)) = false from decide_eq_false (by omega)))) ?_; show Gets _ _ (codeAt [1, 1, 0, 1, 1] BSr) _ _
  refine Srgo (SrR6 g t k) ?_
  rw [SrC1_1_1]; refine Gets.seq ?_
  refine Srgo (x := .normal) (s' := (SrS7 k g t)) ((SrR7 g t k).trans (by (show some (Ex.normal, (SrS6 k g t)) = some (Ex.normal, (SrS7 k g t)); unfold SrS6 SrS7; rw [(show (IntKind.wrap .i64 (7 + (groupsV k))) = (7 + (groupsV k)) from wrap_i64_id (by omega) (by omega)), (show (IntKind.wrap .i64 (8 * g)) = (8 * g) from wrap_i64_id (by omega) (by omega)), (show (IntKind.wrap .i64 ((7 + (groupsV k)) + (8 * g))) = ((7 + (groupsV k)) + (8 * g)) from wrap_i64_id (by omega) (by omega)), (show (IntKind.wrap .i64 (((7 + (groupsV k)) + (8 * g)) + t)) = (((7 + (groupsV k)) + (8 * g)) + t) from wrap_i64_id (by omega) (by omega))]))) ?_
  rw [SrC1_1_1_1]; refine Gets.ev fitW.mix fitW.cfg (fitW.sound twa_sound 14 0) 14 rfl (s' := KSt.low (SrS7 k g t)) (x := .ret) rfl ?_
  exact hq
noncomputable def BSp : Code := bodyOf Try.prog 20
theorem BSp_is : Try.f20.body = some BSp := by kernel_rfl
theorem BSp_ok : okCode Try.prog.globals.size BSp = true := by kernel_rfl
noncomputable abbrev SpEV (c : Code) (s : KSt) (lv : List Nat) : Option (Ex × KSt) := evCK Try.prog cfgW (runK Try.prog cfgW fsW (conTk twaDom (rcK [] twaT)) 14 40) 14 c s (normC 0 lv)
theorem Spgo {lv_ : List Nat} {co_ : Code} {st_ s' : KSt} {x : Ex} {Q : Ex → St → Prop} (hE_ : SpEV co_ st_ lv_ = some (x, s')) (hq_ : Q x s'.low) (hok_ : okCode Try.prog.globals.size co_ = true := by kernel_rfl) : Gets Try.prog (KH.low ⟨0, 1, []⟩) co_ st_.low Q := Gets.ofN fitW twa_sound (rc_agree _ _ _) 14 40 hok_ hE_ hq_
theorem SpeX {v : Value} {b c : Bool} (h : v = .bool b) (hb : b = c) : v = .bool c := by rw [h, hb]
theorem SpC : BSp = .seq (codeAt [0] BSp) (codeAt [1] BSp) := by kernel_rfl
theorem SpC1 : (codeAt [1] BSp) = .seq (codeAt [1, 0] BSp) (codeAt [1, 1] BSp) := by kernel_rfl
theorem SpC1_1 : (codeAt [1, 1] BSp) = .seq (codeAt [1, 1, 0] BSp) (codeAt [1, 1, 1] BSp) := by kernel_rfl
theorem SpC1_1_0 : (codeAt [1, 1, 0] BSp) = .seq (codeAt [1, 1, 0, 0] BSp) (codeAt [1, 1, 0, 1] BSp) := by kernel_rfl
theorem SpC1_1_0_1 : (codeAt [1, 1, 0, 1] BSp) = .cond (.tmp 20) (codeAt [1, 1, 0, 1, 0] BSp) (codeAt [1, 1, 0, 1, 1] BSp) := by kernel_rfl
theorem SpC1_1_0_1_0 : (codeAt [1, 1, 0, 1, 0] BSp) = .seq (codeAt [1, 1, 0, 1, 0, 0] BSp) (codeAt [1, 1, 0, 1, 0, 1] BSp) := by kernel_rfl
theorem SpC1_1_0_1_0_1 : (codeAt [1, 1, 0, 1, 0, 1] BSp) = .ret := by kernel_rfl
theorem SpC1_1_1 : (codeAt [1, 1, 1] BSp) = .seq (codeAt [1, 1, 1, 0] BSp) (codeAt [1, 1, 1, 1] BSp) := by kernel_rfl
theorem SpC1_1_1_1 : (codeAt [1, 1, 1, 1] BSp) = .ret := by kernel_rfl
noncomputable def SpS0 (k : Int) (g : Int) (t : Int) : KSt := (firstK [(.int .i64 k), (.int .i64 g), (.int .i64 t)] 30 ⟨0, 1, []⟩)
noncomputable def SpS1 (k : Int) (g : Int) (t : Int) : KSt := ⟨(frameL 30 [(0, (.int .i64 k)), (1, (.int .i64 g)), (2, (.int .i64 t))]), ⟨0, 1, []⟩⟩
theorem SpR1 (k : Int) (g : Int) (t : Int) : SpEV (codeAt [0] BSp) (SpS0 k g t) [0, 1, 2] =
  some (.normal, (SpS1 k g t)) := by kernel_rfl
noncomputable def SpS2 (k : Int) (g : Int) (t : Int) : KSt := ⟨(frameL 30 [(0, (.int .i64 k)), (1, (.int .i64 g)), (2, (.int .i64 t)), (7, (.int .i64 (-1)))]), ⟨0, 1, []⟩⟩
noncomputable def SpS3 (k : Int) (g : Int) (t : Int) : KSt := ⟨(frameL 30 [(0, (.int .i64 k)), (1, (.int .i64 g)), (2, (.int .i64 t)), (7, (.int .i64 (IntKind.wrap .i64 (7 + g))))]), ⟨0, 1, []⟩⟩
theorem SpR2 (k : Int) (g : Int) (t : Int) : SpEV (codeAt [1, 0] BSp) (SpS1 k g t) [0, 1, 2, 7] =
  bif (decide (g < 0)) then
    some (.normal, (SpS2 k g t))
  else
    bif (decide (g ≥ (groupsV k))) then
      some (.normal, (SpS2 k g t))
    else
      some (.normal, (SpS3 k g t)) := by kernel_rfl
noncomputable def SpS4 (k : Int) (g : Int) (t : Int) : KSt := ⟨(frameL 30 [(0, (.int .i64 k)), (1, (.int .i64 g)), (2, (.int .i64 t)), (7, (.int .i64 (-1))), (20, (.bool true))]), ⟨0, 1, []⟩⟩
theorem SpR3 (k : Int) (g : Int) (t : Int) : SpEV (codeAt [1, 1, 0, 0] BSp) (SpS2 k g t) [0, 1, 2, 7, 20] =
  some (.normal, (SpS4 k g t)) := by kernel_rfl
noncomputable def SpS5  : KSt := ⟨(frameL 30 [(6, (.int .i64 (-1)))]), ⟨0, 1, []⟩⟩
theorem SpR4 (k : Int) (g : Int) (t : Int) : SpEV (codeAt [1, 1, 0, 1, 0, 0] BSp) (SpS4 k g t) [6] =
  some (.normal, SpS5) := by kernel_rfl
noncomputable def SpS6 (k : Int) (g : Int) (t : Int) : KSt := ⟨(frameL 30 [(0, (.int .i64 k)), (1, (.int .i64 g)), (2, (.int .i64 t)), (7, (.int .i64 (7 + g)))]), ⟨0, 1, []⟩⟩
noncomputable def SpS7 (k : Int) (g : Int) (t : Int) : KSt := ⟨(frameL 30 [(0, (.int .i64 k)), (1, (.int .i64 g)), (2, (.int .i64 t)), (7, (.int .i64 (7 + g))), (20, (.bool true))]), ⟨0, 1, []⟩⟩
noncomputable def SpS8 (k : Int) (g : Int) (t : Int) : KSt := ⟨(frameL 30 [(0, (.int .i64 k)), (1, (.int .i64 g)), (2, (.int .i64 t)), (7, (.int .i64 (7 + g))), (20, (.bool (decide (t ≥ 8))))]), ⟨0, 1, []⟩⟩
theorem SpR5 (k : Int) (g : Int) (t : Int) : SpEV (codeAt [1, 1, 0, 0] BSp) (SpS6 k g t) [0, 1, 2, 7, 20] =
  bif (decide ((7 + g) < 0)) then
    some (.normal, (SpS7 k g t))
  else
    bif (decide (t < 0)) then
      some (.normal, (SpS7 k g t))
    else
      some (.normal, (SpS8 k g t)) := by kernel_rfl
theorem SpR6 (k : Int) (g : Int) (t : Int) : SpEV (codeAt [1, 1, 0, 1, 0, 0] BSp) (SpS7 k g t) [6] =
  some (.normal, SpS5) := by kernel_rfl
theorem SpR7 (k : Int) (g : Int) (t : Int) : SpEV (codeAt [1, 1, 0, 1, 0, 0] BSp) (SpS8 k g t) [6] =
  some (.normal, SpS5) := by kernel_rfl
theorem SpR8 (k : Int) (g : Int) (t : Int) : SpEV (codeAt [1, 1, 0, 1, 1] BSp) (SpS8 k g t) [0, 1, 2, 7] =
  some (.normal, (SpS6 k g t)) := by kernel_rfl
noncomputable def SpS9 (g : Int) (k : Int) (t : Int) : KSt := ⟨(frameL 30 [(6, (.int .i64 (IntKind.wrap .i64 ((IntKind.wrap .i64 ((IntKind.wrap .i64 ((7 + g) + (groupsV k))) + (IntKind.wrap .i64 (7 * g)))) + t))))]), ⟨0, 1, []⟩⟩
theorem SpR9 (k : Int) (g : Int) (t : Int) : SpEV (codeAt [1, 1, 1, 0] BSp) (SpS6 k g t) [6] =
  some (.normal, (SpS9 g k t)) := by kernel_rfl
noncomputable def SpS10 (g : Int) (k : Int) (t : Int) : KSt := ⟨(frameL 30 [(6, (.int .i64 ((((7 + g) + (groupsV k)) + (7 * g)) + t)))]), ⟨0, 1, []⟩⟩
theorem Spneg {k : Int} {g : Int} {t : Int} (h0 : 0 ≤ groupsV k) (h5 : groupsV k ≤ 512) (hc : g < 0)   {Q : Ex → St → Prop} (hq : Q .ret (KSt.low SpS5)) : Gets Try.prog (KH.low ⟨0, 1, []⟩) BSp (KSt.low (SpS0 k g t)) Q := by
  rw [SpC]; refine Gets.seq ?_
  refine Spgo (SpR1 k g t) ?_
  rw [SpC1]; refine Gets.seq ?_
  refine Spgo (x := .normal) (s' := (SpS2 k g t)) ((SpR2 k g t).trans (by rw [condT (decide_eq_true (by omega))])) ?_
  rw [SpC1_1]; refine Gets.seq ?_
  rw [SpC1_1_0]; refine Gets.seq ?_
  refine Spgo (SpR3 k g t) ?_
  rw [SpC1_1_0_1]; refine Gets.cond true (by kernel_rfl) (by kernel_rfl) ?_; show Gets _ _ (codeAt [1, 1, 0, 1, 0] BSp) _ _
  rw [SpC1_1_0_1_0]; refine Gets.seq ?_
  refine Spgo (SpR4 k g t) ?_
  rw [SpC1_1_0_1_0_1]; refine Gets.ev fitW.mix fitW.cfg (fitW.sound twa_sound 14 0) 14 rfl (s' := KSt.low SpS5) (x := .ret) rfl ?_
  exact hq
theorem Spbig {k : Int} {g : Int} {t : Int} (h0 : 0 ≤ groupsV k) (h5 : groupsV k ≤ 512) (hc : 0 ≤ g) (hc1 : groupsV k ≤ g)   {Q : Ex → St → Prop} (hq : Q .ret (KSt.low SpS5)) : Gets Try.prog (KH.low ⟨0, 1, []⟩) BSp (KSt.low (SpS0 k g t)) Q := by
  rw [SpC]; refine Gets.seq ?_
  refine Spgo (SpR1 k g t) ?_
  rw [SpC1]; refine Gets.seq ?_
  refine Spgo (x := .normal) (s' := (SpS2 k g t)) ((SpR2 k g t).trans (by rw [condF (decide_eq_false (by omega)), condT (decide_eq_true (by omega))])) ?_
  rw [SpC1_1]; refine Gets.seq ?_
  rw [SpC1_1_0]; refine Gets.seq ?_
  refine Spgo (SpR3 k g t) ?_
  rw [SpC1_1_0_1]; refine Gets.cond true (by kernel_rfl) (by kernel_rfl) ?_; show Gets _ _ (codeAt [1, 1, 0, 1, 0] BSp) _ _
  rw [SpC1_1_0_1_0]; refine Gets.seq ?_
  refine Spgo (SpR4 k g t) ?_
  rw [SpC1_1_0_1_0_1]; refine Gets.ev fitW.mix fitW.cfg (fitW.sound twa_sound 14 0) 14 rfl (s' := KSt.low SpS5) (x := .ret) rfl ?_
  exact hq
theorem Sptn {k : Int} {g : Int} {t : Int} (h0 : 0 ≤ groupsV k) (h5 : groupsV k ≤ 512) (hc : 0 ≤ g) (hc1 : g < groupsV k) (ht : t < 0)   {Q : Ex → St → Prop} (hq : Q .ret (KSt.low SpS5)) : Gets Try.prog (KH.low ⟨0, 1, []⟩) BSp (KSt.low (SpS0 k g t)) Q := by
  rw [SpC]; refine Gets.seq ?_
  refine Spgo (SpR1 k g t) ?_
  rw [SpC1]; refine Gets.seq ?_
  refine Spgo (x := .normal) (s' := (SpS6 k g t)) ((SpR2 k g t).trans (by rw [condF (decide_eq_false (by omega)), condF (decide_eq_false (by omega))] <;> (show some (Ex.normal, (SpS3 k g t)) = some (Ex.normal, (SpS6 k g t)); unfold SpS3 SpS6; rw [(show (IntKind.wrap .i64 (7 + g)) = (7 + g) from wrap_i64_id (by omega) (by omega))]))) ?_
  rw [SpC1_1]; refine Gets.seq ?_
  rw [SpC1_1_0]; refine Gets.seq ?_
  refine Spgo (x := .normal) (s' := (SpS7 k g t)) ((SpR5 k g t).trans (by rw [condF (decide_eq_false (by omega)), condT (decide_eq_true (by omega))])) ?_
  rw [SpC1_1_0_1]; refine Gets.cond true (by kernel_rfl) (by kernel_rfl) ?_; show Gets _ _ (codeAt [1, 1, 0, 1, 0] BSp) _ _
  rw [SpC1_1_0_1_0]; refine Gets.seq ?_
  refine Spgo (SpR6 k g t) ?_
  rw [SpC1_1_0_1_0_1]; refine Gets.ev fitW.mix fitW.cfg (fitW.sound twa_sound 14 0) 14 rfl (s' := KSt.low SpS5) (x := .ret) rfl ?_
  exact hq
theorem Sptb {k : Int} {g : Int} {t : Int} (h0 : 0 ≤ groupsV k) (h5 : groupsV k ≤ 512) (hc : 0 ≤ g) (hc1 : g < groupsV k) (ht : 7 < t)   {Q : Ex → St → Prop} (hq : Q .ret (KSt.low SpS5)) : Gets Try.prog (KH.low ⟨0, 1, []⟩) BSp (KSt.low (SpS0 k g t)) Q := by
  rw [SpC]; refine Gets.seq ?_
  refine Spgo (SpR1 k g t) ?_
  rw [SpC1]; refine Gets.seq ?_
  refine Spgo (x := .normal) (s' := (SpS6 k g t)) ((SpR2 k g t).trans (by rw [condF (decide_eq_false (by omega)), condF (decide_eq_false (by omega))] <;> (show some (Ex.normal, (SpS3 k g t)) = some (Ex.normal, (SpS6 k g t)); unfold SpS3 SpS6; rw [(show (IntKind.wrap .i64 (7 + g)) = (7 + g) from wrap_i64_id (by omega) (by omega))]))) ?_
  rw [SpC1_1]; refine Gets.seq ?_
  rw [SpC1_1_0]; refine Gets.seq ?_
  refine Spgo (x := .normal) (s' := (SpS8 k g t)) ((SpR5 k g t).trans (by rw [condF (decide_eq_false (by omega)), condF (decide_eq_false (by omega))])) ?_
  rw [SpC1_1_0_1]; refine Gets.cond true (by kernel_rfl) (SpeX (b := (decide (t ≥ 8))) (by kernel_rfl) ((show (decide (t ≥ 8)) = true from decide_eq_true (by omega)))) ?_; show Gets _ _ (codeAt [1, 1, 0, 1, 0] BSp) _ _
  rw [SpC1_1_0_1_0]; refine Gets.seq ?_
  refine Spgo (SpR7 k g t) ?_
  rw [SpC1_1_0_1_0_1]; refine Gets.ev fitW.mix fitW.cfg (fitW.sound twa_sound 14 0) 14 rfl (s' := KSt.low SpS5) (x := .ret) rfl ?_
  exact hq
theorem Spok {k : Int} {g : Int} {t : Int} (h0 : 0 ≤ groupsV k) (h5 : groupsV k ≤ 512) (hc : 0 ≤ g) (hc1 : g < groupsV k) (ht : 0 ≤ t) (ht7 : t ≤ 7)   {Q : Ex → St → Prop} (hq : Q .ret (KSt.low (SpS10 g k t))) : Gets Try.prog (KH.low ⟨0, 1, []⟩) BSp (KSt.low (SpS0 k g t)) Q := by
  rw [SpC]; refine Gets.seq ?_
  refine Spgo (SpR1 k g t) ?_
  rw [SpC1]; refine Gets.seq ?_
  refine Spgo (x := .normal) (s' := (SpS6 k g t)) ((SpR2 k g t).trans (by rw [condF (decide_eq_false (by omega)), condF (decide_eq_false (by omega))] <;> (show some (Ex.normal, (SpS3 k g t)) = some (Ex.normal, (SpS6 k g t)); unfold SpS3 SpS6; rw [(show (IntKind.wrap .i64 (7 + g)) = (7 + g) from wrap_i64_id (by omega) (by omega))]))) ?_
  rw [SpC1_1]; refine Gets.seq ?_
  rw [SpC1_1_0]; refine Gets.seq ?_
  refine Spgo (x := .normal) (s' := (SpS8 k g t)) ((SpR5 k g t).trans (by rw [condF (decide_eq_false (by omega)), condF (decide_eq_false (by omega))])) ?_
  rw [SpC1_1_0_1]; refine Gets.cond false (by kernel_rfl) (SpeX (b := (decide (t ≥ 8))) (by kernel_rfl) ((show (decide (t ≥ 8)) = false from decide_eq_false (by omega)))) ?_; show Gets _ _ (codeAt [1, 1, 0, 1, 1] BSp) _ _
  refine Spgo (SpR8 k g t) ?_
  rw [SpC1_1_1]; refine Gets.seq ?_
  refine Spgo (x := .normal) (s' := (SpS10 g k t)) ((SpR9 k g t).trans (by (show some (Ex.normal, (SpS9 g k t)) = some (Ex.normal, (SpS10 g k t)); unfold SpS9 SpS10; rw [(show (IntKind.wrap .i64 ((7 + g) + (groupsV k))) = ((7 + g) + (groupsV k)) from wrap_i64_id (by omega) (by omega)), (show (IntKind.wrap .i64 (7 * g)) = (7 * g) from wrap_i64_id (by omega) (by omega)), (show (IntKind.wrap .i64 (((7 + g) + (groupsV k)) + (7 * g))) = (((7 + g) + (groupsV k)) + (7 * g)) from wrap_i64_id (by omega) (by omega)), (show (IntKind.wrap .i64 ((((7 + g) + (groupsV k)) + (7 * g)) + t)) = ((((7 + g) + (groupsV k)) + (7 * g)) + t) from wrap_i64_id (by omega) (by omega))]))) ?_
  rw [SpC1_1_1_1]; refine Gets.ev fitW.mix fitW.cfg (fitW.sound twa_sound 14 0) 14 rfl (s' := KSt.low (SpS10 g k t)) (x := .ret) rfl ?_
  exact hq
noncomputable def BZr : Code := bodyOf Try.prog 13
theorem BZr_is : Try.f13.body = some BZr := by kernel_rfl
theorem BZr_ok : okCode Try.prog.globals.size BZr = true := by kernel_rfl
noncomputable abbrev ZrEV (c : Code) (s : KSt) (lv : List Nat) : Option (Ex × KSt) := evCK Try.prog cfgW (runK Try.prog cfgW fsW (conTk twaDom (rcK [] twaT)) 14 40) 14 c s (normC 0 lv)
theorem Zrgo {lv_ : List Nat} {co_ : Code} {st_ s' : KSt} {x : Ex} {Q : Ex → St → Prop} (hE_ : ZrEV co_ st_ lv_ = some (x, s')) (hq_ : Q x s'.low) (hok_ : okCode Try.prog.globals.size co_ = true := by kernel_rfl) : Gets Try.prog (KH.low ⟨0, 1, []⟩) co_ st_.low Q := Gets.ofN fitW twa_sound (rc_agree _ _ _) 14 40 hok_ hE_ hq_
theorem ZreX {v : Value} {b c : Bool} (h : v = .bool b) (hb : b = c) : v = .bool c := by rw [h, hb]
theorem ZrC : BZr = .seq (codeAt [0] BZr) (codeAt [1] BZr) := by kernel_rfl
theorem ZrC1 : (codeAt [1] BZr) = .seq (codeAt [1, 0] BZr) (codeAt [1, 1] BZr) := by kernel_rfl
theorem ZrC1_1 : (codeAt [1, 1] BZr) = .seq (codeAt [1, 1, 0] BZr) (codeAt [1, 1, 1] BZr) := by kernel_rfl
theorem ZrC1_1_0 : (codeAt [1, 1, 0] BZr) = .seq (codeAt [1, 1, 0, 0] BZr) (codeAt [1, 1, 0, 1] BZr) := by kernel_rfl
theorem ZrC1_1_0_1 : (codeAt [1, 1, 0, 1] BZr) = .cond (.tmp 7) (codeAt [1, 1, 0, 1, 0] BZr) (codeAt [1, 1, 0, 1, 1] BZr) := by kernel_rfl
theorem ZrC1_1_0_1_0 : (codeAt [1, 1, 0, 1, 0] BZr) = .seq (codeAt [1, 1, 0, 1, 0, 0] BZr) (codeAt [1, 1, 0, 1, 0, 1] BZr) := by kernel_rfl
theorem ZrC1_1_0_1_0_1 : (codeAt [1, 1, 0, 1, 0, 1] BZr) = .ret := by kernel_rfl
theorem ZrC1_1_1 : (codeAt [1, 1, 1] BZr) = .seq (codeAt [1, 1, 1, 0] BZr) (codeAt [1, 1, 1, 1] BZr) := by kernel_rfl
theorem ZrC1_1_1_1 : (codeAt [1, 1, 1, 1] BZr) = .ret := by kernel_rfl
noncomputable def ZrS0 (k : Int) : KSt := (firstK [(.int .i64 k)] 11 ⟨0, 1, []⟩)
noncomputable def ZrS1 (k : Int) : KSt := ⟨(frameL 11 [(0, (.int .i64 k))]), ⟨0, 1, []⟩⟩
theorem ZrR1 (k : Int) : ZrEV (codeAt [0] BZr) (ZrS0 k) [0] =
  some (.normal, (ZrS1 k)) := by kernel_rfl
noncomputable def ZrS2 (k : Int) : KSt := ⟨(frameL 11 [(3, (.int .i64 (groupsV k)))]), ⟨0, 1, []⟩⟩
theorem ZrR2 (k : Int) : ZrEV (codeAt [1, 0] BZr) (ZrS1 k) [3] =
  some (.normal, (ZrS2 k)) := by kernel_rfl
noncomputable def ZrS3 (k : Int) : KSt := ⟨(frameL 11 [(3, (.int .i64 (groupsV k))), (7, (.bool ((groupsV k) == 0)))]), ⟨0, 1, []⟩⟩
theorem ZrR3 (k : Int) : ZrEV (codeAt [1, 1, 0, 0] BZr) (ZrS2 k) [3, 7] =
  some (.normal, (ZrS3 k)) := by kernel_rfl
noncomputable def ZrS4  : KSt := ⟨(frameL 11 [(2, (.int .i64 0))]), ⟨0, 1, []⟩⟩
theorem ZrR4 (k : Int) : ZrEV (codeAt [1, 1, 0, 1, 0, 0] BZr) (ZrS3 k) [2] =
  some (.normal, ZrS4) := by kernel_rfl
theorem ZrR5 (k : Int) : ZrEV (codeAt [1, 1, 0, 1, 1] BZr) (ZrS3 k) [3] =
  some (.normal, (ZrS2 k)) := by kernel_rfl
noncomputable def ZrS5 (k : Int) : KSt := ⟨(frameL 11 [(2, (.int .i64 (IntKind.wrap .i64 (7 + (IntKind.wrap .i64 (9 * (groupsV k)))))))]), ⟨0, 1, []⟩⟩
theorem ZrR6 (k : Int) : ZrEV (codeAt [1, 1, 1, 0] BZr) (ZrS2 k) [2] =
  some (.normal, (ZrS5 k)) := by kernel_rfl
noncomputable def ZrS6 (k : Int) : KSt := ⟨(frameL 11 [(2, (.int .i64 (7 + (9 * (groupsV k)))))]), ⟨0, 1, []⟩⟩
theorem Zrno {k : Int} (hg : groupsV k = 0)   {Q : Ex → St → Prop} (hq : Q .ret (KSt.low ZrS4)) : Gets Try.prog (KH.low ⟨0, 1, []⟩) BZr (KSt.low (ZrS0 k)) Q := by
  rw [ZrC]; refine Gets.seq ?_
  refine Zrgo (ZrR1 k) ?_
  rw [ZrC1]; refine Gets.seq ?_
  refine Zrgo (ZrR2 k) ?_
  rw [ZrC1_1]; refine Gets.seq ?_
  rw [ZrC1_1_0]; refine Gets.seq ?_
  refine Zrgo (ZrR3 k) ?_
  rw [ZrC1_1_0_1]; refine Gets.cond true (by kernel_rfl) (ZreX (b := ((groupsV k) == 0)) (by kernel_rfl) ((show ((groupsV k) == 0) = true from ibeq_t (by omega)))) ?_; show Gets _ _ (codeAt [1, 1, 0, 1, 0] BZr) _ _
  rw [ZrC1_1_0_1_0]; refine Gets.seq ?_
  refine Zrgo (ZrR4 k) ?_
  rw [ZrC1_1_0_1_0_1]; refine Gets.ev fitW.mix fitW.cfg (fitW.sound twa_sound 14 0) 14 rfl (s' := KSt.low ZrS4) (x := .ret) rfl ?_
  exact hq
theorem Zrok {k : Int} (h0 : 0 ≤ groupsV k) (h5 : groupsV k ≤ 512) (hg : 1 ≤ groupsV k)   {Q : Ex → St → Prop} (hq : Q .ret (KSt.low (ZrS6 k))) : Gets Try.prog (KH.low ⟨0, 1, []⟩) BZr (KSt.low (ZrS0 k)) Q := by
  rw [ZrC]; refine Gets.seq ?_
  refine Zrgo (ZrR1 k) ?_
  rw [ZrC1]; refine Gets.seq ?_
  refine Zrgo (ZrR2 k) ?_
  rw [ZrC1_1]; refine Gets.seq ?_
  rw [ZrC1_1_0]; refine Gets.seq ?_
  refine Zrgo (ZrR3 k) ?_
  rw [ZrC1_1_0_1]; refine Gets.cond false (by kernel_rfl) (ZreX (b := ((groupsV k) == 0)) (by kernel_rfl) ((show ((groupsV k) == 0) = false from ibeq_f (by omega)))) ?_; show Gets _ _ (codeAt [1, 1, 0, 1, 1] BZr) _ _
  refine Zrgo (ZrR5 k) ?_
  rw [ZrC1_1_1]; refine Gets.seq ?_
  refine Zrgo (x := .normal) (s' := (ZrS6 k)) ((ZrR6 k).trans (by (show some (Ex.normal, (ZrS5 k)) = some (Ex.normal, (ZrS6 k)); unfold ZrS5 ZrS6; rw [(show (IntKind.wrap .i64 (9 * (groupsV k))) = (9 * (groupsV k)) from wrap_i64_id (by omega) (by omega)), (show (IntKind.wrap .i64 (7 + (9 * (groupsV k)))) = (7 + (9 * (groupsV k))) from wrap_i64_id (by omega) (by omega))]))) ?_
  rw [ZrC1_1_1_1]; refine Gets.ev fitW.mix fitW.cfg (fitW.sound twa_sound 14 0) 14 rfl (s' := KSt.low (ZrS6 k)) (x := .ret) rfl ?_
  exact hq
noncomputable def BZp : Code := bodyOf Try.prog 12
theorem BZp_is : Try.f12.body = some BZp := by kernel_rfl
theorem BZp_ok : okCode Try.prog.globals.size BZp = true := by kernel_rfl
noncomputable abbrev ZpEV (c : Code) (s : KSt) (lv : List Nat) : Option (Ex × KSt) := evCK Try.prog cfgW (runK Try.prog cfgW fsW (conTk twaDom (rcK [] twaT)) 14 40) 14 c s (normC 0 lv)
theorem Zpgo {lv_ : List Nat} {co_ : Code} {st_ s' : KSt} {x : Ex} {Q : Ex → St → Prop} (hE_ : ZpEV co_ st_ lv_ = some (x, s')) (hq_ : Q x s'.low) (hok_ : okCode Try.prog.globals.size co_ = true := by kernel_rfl) : Gets Try.prog (KH.low ⟨0, 1, []⟩) co_ st_.low Q := Gets.ofN fitW twa_sound (rc_agree _ _ _) 14 40 hok_ hE_ hq_
theorem ZpeX {v : Value} {b c : Bool} (h : v = .bool b) (hb : b = c) : v = .bool c := by rw [h, hb]
theorem ZpC : BZp = .seq (codeAt [0] BZp) (codeAt [1] BZp) := by kernel_rfl
theorem ZpC1 : (codeAt [1] BZp) = .seq (codeAt [1, 0] BZp) (codeAt [1, 1] BZp) := by kernel_rfl
theorem ZpC1_1 : (codeAt [1, 1] BZp) = .seq (codeAt [1, 1, 0] BZp) (codeAt [1, 1, 1] BZp) := by kernel_rfl
theorem ZpC1_1_0 : (codeAt [1, 1, 0] BZp) = .seq (codeAt [1, 1, 0, 0] BZp) (codeAt [1, 1, 0, 1] BZp) := by kernel_rfl
theorem ZpC1_1_0_1 : (codeAt [1, 1, 0, 1] BZp) = .cond (.tmp 7) (codeAt [1, 1, 0, 1, 0] BZp) (codeAt [1, 1, 0, 1, 1] BZp) := by kernel_rfl
theorem ZpC1_1_0_1_0 : (codeAt [1, 1, 0, 1, 0] BZp) = .seq (codeAt [1, 1, 0, 1, 0, 0] BZp) (codeAt [1, 1, 0, 1, 0, 1] BZp) := by kernel_rfl
theorem ZpC1_1_0_1_0_1 : (codeAt [1, 1, 0, 1, 0, 1] BZp) = .ret := by kernel_rfl
theorem ZpC1_1_1 : (codeAt [1, 1, 1] BZp) = .seq (codeAt [1, 1, 1, 0] BZp) (codeAt [1, 1, 1, 1] BZp) := by kernel_rfl
theorem ZpC1_1_1_1 : (codeAt [1, 1, 1, 1] BZp) = .ret := by kernel_rfl
noncomputable def ZpS0 (k : Int) : KSt := (firstK [(.int .i64 k)] 13 ⟨0, 1, []⟩)
noncomputable def ZpS1 (k : Int) : KSt := ⟨(frameL 13 [(0, (.int .i64 k))]), ⟨0, 1, []⟩⟩
theorem ZpR1 (k : Int) : ZpEV (codeAt [0] BZp) (ZpS0 k) [0] =
  some (.normal, (ZpS1 k)) := by kernel_rfl
noncomputable def ZpS2 (k : Int) : KSt := ⟨(frameL 13 [(3, (.int .i64 (groupsV k)))]), ⟨0, 1, []⟩⟩
theorem ZpR2 (k : Int) : ZpEV (codeAt [1, 0] BZp) (ZpS1 k) [3] =
  some (.normal, (ZpS2 k)) := by kernel_rfl
noncomputable def ZpS3 (k : Int) : KSt := ⟨(frameL 13 [(3, (.int .i64 (groupsV k))), (7, (.bool ((groupsV k) == 0)))]), ⟨0, 1, []⟩⟩
theorem ZpR3 (k : Int) : ZpEV (codeAt [1, 1, 0, 0] BZp) (ZpS2 k) [3, 7] =
  some (.normal, (ZpS3 k)) := by kernel_rfl
noncomputable def ZpS4  : KSt := ⟨(frameL 13 [(2, (.int .i64 0))]), ⟨0, 1, []⟩⟩
theorem ZpR4 (k : Int) : ZpEV (codeAt [1, 1, 0, 1, 0, 0] BZp) (ZpS3 k) [2] =
  some (.normal, ZpS4) := by kernel_rfl
theorem ZpR5 (k : Int) : ZpEV (codeAt [1, 1, 0, 1, 1] BZp) (ZpS3 k) [3] =
  some (.normal, (ZpS2 k)) := by kernel_rfl
noncomputable def ZpS5 (k : Int) : KSt := ⟨(frameL 13 [(2, (.int .i64 (IntKind.wrap .i64 ((IntKind.wrap .i64 (7 + (groupsV k))) + (IntKind.wrap .i64 (8 * (groupsV k)))))))]), ⟨0, 1, []⟩⟩
theorem ZpR6 (k : Int) : ZpEV (codeAt [1, 1, 1, 0] BZp) (ZpS2 k) [2] =
  some (.normal, (ZpS5 k)) := by kernel_rfl
noncomputable def ZpS6 (k : Int) : KSt := ⟨(frameL 13 [(2, (.int .i64 ((7 + (groupsV k)) + (8 * (groupsV k)))))]), ⟨0, 1, []⟩⟩
theorem Zpno {k : Int} (hg : groupsV k = 0)   {Q : Ex → St → Prop} (hq : Q .ret (KSt.low ZpS4)) : Gets Try.prog (KH.low ⟨0, 1, []⟩) BZp (KSt.low (ZpS0 k)) Q := by
  rw [ZpC]; refine Gets.seq ?_
  refine Zpgo (ZpR1 k) ?_
  rw [ZpC1]; refine Gets.seq ?_
  refine Zpgo (ZpR2 k) ?_
  rw [ZpC1_1]; refine Gets.seq ?_
  rw [ZpC1_1_0]; refine Gets.seq ?_
  refine Zpgo (ZpR3 k) ?_
  rw [ZpC1_1_0_1]; refine Gets.cond true (by kernel_rfl) (ZpeX (b := ((groupsV k) == 0)) (by kernel_rfl) ((show ((groupsV k) == 0) = true from ibeq_t (by omega)))) ?_; show Gets _ _ (codeAt [1, 1, 0, 1, 0] BZp) _ _
  rw [ZpC1_1_0_1_0]; refine Gets.seq ?_
  refine Zpgo (ZpR4 k) ?_
  rw [ZpC1_1_0_1_0_1]; refine Gets.ev fitW.mix fitW.cfg (fitW.sound twa_sound 14 0) 14 rfl (s' := KSt.low ZpS4) (x := .ret) rfl ?_
  exact hq
theorem Zpok {k : Int} (h0 : 0 ≤ groupsV k) (h5 : groupsV k ≤ 512) (hg : 1 ≤ groupsV k)   {Q : Ex → St → Prop} (hq : Q .ret (KSt.low (ZpS6 k))) : Gets Try.prog (KH.low ⟨0, 1, []⟩) BZp (KSt.low (ZpS0 k)) Q := by
  rw [ZpC]; refine Gets.seq ?_
  refine Zpgo (ZpR1 k) ?_
  rw [ZpC1]; refine Gets.seq ?_
  refine Zpgo (ZpR2 k) ?_
  rw [ZpC1_1]; refine Gets.seq ?_
  rw [ZpC1_1_0]; refine Gets.seq ?_
  refine Zpgo (ZpR3 k) ?_
  rw [ZpC1_1_0_1]; refine Gets.cond false (by kernel_rfl) (ZpeX (b := ((groupsV k) == 0)) (by kernel_rfl) ((show ((groupsV k) == 0) = false from ibeq_f (by omega)))) ?_; show Gets _ _ (codeAt [1, 1, 0, 1, 1] BZp) _ _
  refine Zpgo (ZpR5 k) ?_
  rw [ZpC1_1_1]; refine Gets.seq ?_
  refine Zpgo (x := .normal) (s' := (ZpS6 k)) ((ZpR6 k).trans (by (show some (Ex.normal, (ZpS5 k)) = some (Ex.normal, (ZpS6 k)); unfold ZpS5 ZpS6; rw [(show (IntKind.wrap .i64 (7 + (groupsV k))) = (7 + (groupsV k)) from wrap_i64_id (by omega) (by omega)), (show (IntKind.wrap .i64 (8 * (groupsV k))) = (8 * (groupsV k)) from wrap_i64_id (by omega) (by omega)), (show (IntKind.wrap .i64 ((7 + (groupsV k)) + (8 * (groupsV k)))) = ((7 + (groupsV k)) + (8 * (groupsV k))) from wrap_i64_id (by omega) (by omega))]))) ?_
  rw [ZpC1_1_1_1]; refine Gets.ev fitW.mix fitW.cfg (fitW.sound twa_sound 14 0) 14 rfl (s' := KSt.low (ZpS6 k)) (x := .ret) rfl ?_
  exact hq
noncomputable def BTr : Code := bodyOf Try.prog 17
theorem BTr_is : Try.f17.body = some BTr := by kernel_rfl
theorem BTr_ok : okCode Try.prog.globals.size BTr = true := by kernel_rfl
noncomputable abbrev TrEV (c : Code) (s : KSt) (lv : List Nat) : Option (Ex × KSt) := evCK Try.prog cfgW (runK Try.prog cfgW fsW (conTk twaDom (rcK [] twaT)) 14 40) 14 c s (normC 0 lv)
theorem Trgo {lv_ : List Nat} {co_ : Code} {st_ s' : KSt} {x : Ex} {Q : Ex → St → Prop} (hE_ : TrEV co_ st_ lv_ = some (x, s')) (hq_ : Q x s'.low) (hok_ : okCode Try.prog.globals.size co_ = true := by kernel_rfl) : Gets Try.prog (KH.low ⟨0, 1, []⟩) co_ st_.low Q := Gets.ofN fitW twa_sound (rc_agree _ _ _) 14 40 hok_ hE_ hq_
theorem TreX {v : Value} {b c : Bool} (h : v = .bool b) (hb : b = c) : v = .bool c := by rw [h, hb]
theorem TrC : BTr = .seq (codeAt [0] BTr) (codeAt [1] BTr) := by kernel_rfl
theorem TrC1 : (codeAt [1] BTr) = .seq (codeAt [1, 0] BTr) (codeAt [1, 1] BTr) := by kernel_rfl
theorem TrC1_1 : (codeAt [1, 1] BTr) = .seq (codeAt [1, 1, 0] BTr) (codeAt [1, 1, 1] BTr) := by kernel_rfl
theorem TrC1_1_0 : (codeAt [1, 1, 0] BTr) = .seq (codeAt [1, 1, 0, 0] BTr) (codeAt [1, 1, 0, 1] BTr) := by kernel_rfl
theorem TrC1_1_0_1 : (codeAt [1, 1, 0, 1] BTr) = .cond (.tmp 7) (codeAt [1, 1, 0, 1, 0] BTr) (codeAt [1, 1, 0, 1, 1] BTr) := by kernel_rfl
theorem TrC1_1_1 : (codeAt [1, 1, 1] BTr) = .seq (codeAt [1, 1, 1, 0] BTr) (codeAt [1, 1, 1, 1] BTr) := by kernel_rfl
theorem TrC1_1_1_1 : (codeAt [1, 1, 1, 1] BTr) = .ret := by kernel_rfl
noncomputable def TrS0 (c : Int) : KSt := (firstK [(.int .i64 c)] 12 ⟨0, 1, []⟩)
noncomputable def TrS1 (c : Int) : KSt := ⟨(frameL 12 [(0, (.int .i64 c))]), ⟨0, 1, []⟩⟩
theorem TrR1 (c : Int) : TrEV (codeAt [0] BTr) (TrS0 c) [0] =
  some (.normal, (TrS1 c)) := by kernel_rfl
noncomputable def TrS2 (c : Int) : KSt := ⟨(frameL 12 [(3, (.int .i64 (Int.tmod c 4)))]), ⟨0, 1, []⟩⟩
theorem TrR2 (c : Int) : TrEV (codeAt [1, 0] BTr) (TrS1 c) [3] =
  some (.normal, (TrS2 c)) := by kernel_rfl
noncomputable def TrS3 (c : Int) : KSt := ⟨(frameL 12 [(3, (.int .i64 (c % 4)))]), ⟨0, 1, []⟩⟩
noncomputable def TrS4 (c : Int) : KSt := ⟨(frameL 12 [(3, (.int .i64 (c % 4))), (7, (.bool (decide ((c % 4) < 0))))]), ⟨0, 1, []⟩⟩
theorem TrR3 (c : Int) : TrEV (codeAt [1, 1, 0, 0] BTr) (TrS3 c) [3, 7] =
  some (.normal, (TrS4 c)) := by kernel_rfl
theorem TrR4 (c : Int) : TrEV (codeAt [1, 1, 0, 1, 1] BTr) (TrS4 c) [3] =
  some (.normal, (TrS3 c)) := by kernel_rfl
noncomputable def TrS5 (c : Int) : KSt := ⟨(frameL 12 [(2, (.int .i64 (IntKind.wrap .i64 (3 + (c % 4)))))]), ⟨0, 1, []⟩⟩
theorem TrR5 (c : Int) : TrEV (codeAt [1, 1, 1, 0] BTr) (TrS3 c) [2] =
  some (.normal, (TrS5 c)) := by kernel_rfl
noncomputable def TrS6 (c : Int) : KSt := ⟨(frameL 12 [(2, (.int .i64 (3 + (c % 4))))]), ⟨0, 1, []⟩⟩
noncomputable def TrS7 (c : Int) : KSt := ⟨(frameL 12 [(3, (.int .i64 ((c % 4) - 4)))]), ⟨0, 1, []⟩⟩
noncomputable def TrS8 (c : Int) : KSt := ⟨(frameL 12 [(3, (.int .i64 ((c % 4) - 4))), (7, (.bool (decide (((c % 4) - 4) < 0))))]), ⟨0, 1, []⟩⟩
theorem TrR6 (c : Int) : TrEV (codeAt [1, 1, 0, 0] BTr) (TrS7 c) [3, 7] =
  some (.normal, (TrS8 c)) := by kernel_rfl
noncomputable def TrS9 (c : Int) : KSt := ⟨(frameL 12 [(3, (.int .i64 (IntKind.wrap .i64 (((c % 4) - 4) + 4))))]), ⟨0, 1, []⟩⟩
theorem TrR7 (c : Int) : TrEV (codeAt [1, 1, 0, 1, 0] BTr) (TrS8 c) [3] =
  some (.normal, (TrS9 c)) := by kernel_rfl
noncomputable def TrS10 (c : Int) : KSt := ⟨(frameL 12 [(3, (.int .i64 (((c % 4) - 4) + 4)))]), ⟨0, 1, []⟩⟩
noncomputable def TrS11 (c : Int) : KSt := ⟨(frameL 12 [(2, (.int .i64 (IntKind.wrap .i64 (3 + (((c % 4) - 4) + 4)))))]), ⟨0, 1, []⟩⟩
theorem TrR8 (c : Int) : TrEV (codeAt [1, 1, 1, 0] BTr) (TrS10 c) [2] =
  some (.normal, (TrS11 c)) := by kernel_rfl
noncomputable def TrS12 (c : Int) : KSt := ⟨(frameL 12 [(2, (.int .i64 (3 + (((c % 4) - 4) + 4))))]), ⟨0, 1, []⟩⟩
theorem Trpos {c : Int} (hm : (Int.tmod c 4) = c % 4)   {Q : Ex → St → Prop} (hq : Q .ret (KSt.low (TrS6 c))) : Gets Try.prog (KH.low ⟨0, 1, []⟩) BTr (KSt.low (TrS0 c)) Q := by
  rw [TrC]; refine Gets.seq ?_
  refine Trgo (TrR1 c) ?_
  rw [TrC1]; refine Gets.seq ?_
  refine Trgo (x := .normal) (s' := (TrS3 c)) ((TrR2 c).trans (by (show some (Ex.normal, (TrS2 c)) = some (Ex.normal, (TrS3 c)); unfold TrS2 TrS3; rw [(show (Int.tmod c 4) = (c % 4) from hm)]))) ?_
  rw [TrC1_1]; refine Gets.seq ?_
  rw [TrC1_1_0]; refine Gets.seq ?_
  refine Trgo (TrR3 c) ?_
  rw [TrC1_1_0_1]; refine Gets.cond false (by kernel_rfl) (TreX (b := (decide ((c % 4) < 0))) (by kernel_rfl) ((show (decide ((c % 4) < 0)) = false from decide_eq_false (by omega)))) ?_; show Gets _ _ (codeAt [1, 1, 0, 1, 1] BTr) _ _
  refine Trgo (TrR4 c) ?_
  rw [TrC1_1_1]; refine Gets.seq ?_
  refine Trgo (x := .normal) (s' := (TrS6 c)) ((TrR5 c).trans (by (show some (Ex.normal, (TrS5 c)) = some (Ex.normal, (TrS6 c)); unfold TrS5 TrS6; rw [(show (IntKind.wrap .i64 (3 + (c % 4))) = (3 + (c % 4)) from wrap_i64_id (by omega) (by omega))]))) ?_
  rw [TrC1_1_1_1]; refine Gets.ev fitW.mix fitW.cfg (fitW.sound twa_sound 14 0) 14 rfl (s' := KSt.low (TrS6 c)) (x := .ret) rfl ?_
  exact hq
theorem Trneg {c : Int} (hm : (Int.tmod c 4) = c % 4 - 4) (hn : c % 4 - 4 < 0)   {Q : Ex → St → Prop} (hq : Q .ret (KSt.low (TrS12 c))) : Gets Try.prog (KH.low ⟨0, 1, []⟩) BTr (KSt.low (TrS0 c)) Q := by
  rw [TrC]; refine Gets.seq ?_
  refine Trgo (TrR1 c) ?_
  rw [TrC1]; refine Gets.seq ?_
  refine Trgo (x := .normal) (s' := (TrS7 c)) ((TrR2 c).trans (by (show some (Ex.normal, (TrS2 c)) = some (Ex.normal, (TrS7 c)); unfold TrS2 TrS7; rw [(show (Int.tmod c 4) = ((c % 4) - 4) from hm)]))) ?_
  rw [TrC1_1]; refine Gets.seq ?_
  rw [TrC1_1_0]; refine Gets.seq ?_
  refine Trgo (TrR6 c) ?_
  rw [TrC1_1_0_1]; refine Gets.cond true (by kernel_rfl) (TreX (b := (decide (((c % 4) - 4) < 0))) (by kernel_rfl) ((show (decide (((c % 4) - 4) < 0)) = true from decide_eq_true (by omega)))) ?_; show Gets _ _ (codeAt [1, 1, 0, 1, 0] BTr) _ _
  refine Trgo (x := .normal) (s' := (TrS10 c)) ((TrR7 c).trans (by (show some (Ex.normal, (TrS9 c)) = some (Ex.normal, (TrS10 c)); unfold TrS9 TrS10; rw [(show (IntKind.wrap .i64 (((c % 4) - 4) + 4)) = (((c % 4) - 4) + 4) from wrap_i64_id (by omega) (by omega))]))) ?_
  rw [TrC1_1_1]; refine Gets.seq ?_
  refine Trgo (x := .normal) (s' := (TrS12 c)) ((TrR8 c).trans (by (show some (Ex.normal, (TrS11 c)) = some (Ex.normal, (TrS12 c)); unfold TrS11 TrS12; rw [(show (IntKind.wrap .i64 (3 + (((c % 4) - 4) + 4))) = (3 + (((c % 4) - 4) + 4)) from wrap_i64_id (by omega) (by omega))]))) ?_
  rw [TrC1_1_1_1]; refine Gets.ev fitW.mix fitW.cfg (fitW.sound twa_sound 14 0) 14 rfl (s' := KSt.low (TrS12 c)) (x := .ret) rfl ?_
  exact hq
noncomputable def BTp : Code := bodyOf Try.prog 16
theorem BTp_is : Try.f16.body = some BTp := by kernel_rfl
theorem BTp_ok : okCode Try.prog.globals.size BTp = true := by kernel_rfl
noncomputable abbrev TpEV (c : Code) (s : KSt) (lv : List Nat) : Option (Ex × KSt) := evCK Try.prog cfgW (runK Try.prog cfgW fsW (conTk twaDom (rcK [] twaT)) 14 40) 14 c s (normC 0 lv)
theorem Tpgo {lv_ : List Nat} {co_ : Code} {st_ s' : KSt} {x : Ex} {Q : Ex → St → Prop} (hE_ : TpEV co_ st_ lv_ = some (x, s')) (hq_ : Q x s'.low) (hok_ : okCode Try.prog.globals.size co_ = true := by kernel_rfl) : Gets Try.prog (KH.low ⟨0, 1, []⟩) co_ st_.low Q := Gets.ofN fitW twa_sound (rc_agree _ _ _) 14 40 hok_ hE_ hq_
theorem TpeX {v : Value} {b c : Bool} (h : v = .bool b) (hb : b = c) : v = .bool c := by rw [h, hb]
theorem TpC : BTp = .seq (codeAt [0] BTp) (codeAt [1] BTp) := by kernel_rfl
theorem TpC1 : (codeAt [1] BTp) = .seq (codeAt [1, 0] BTp) (codeAt [1, 1] BTp) := by kernel_rfl
theorem TpC1_1 : (codeAt [1, 1] BTp) = .ret := by kernel_rfl
noncomputable def TpS0 (c : Int) : KSt := (firstK [(.int .i64 c)] 6 ⟨0, 1, []⟩)
noncomputable def TpS1 (c : Int) : KSt := ⟨(frameL 6 [(0, (.int .i64 c))]), ⟨0, 1, []⟩⟩
theorem TpR1 (c : Int) : TpEV (codeAt [0] BTp) (TpS0 c) [0] =
  some (.normal, (TpS1 c)) := by kernel_rfl
noncomputable def TpS2 (c : Int) : KSt := ⟨(frameL 6 [(2, (.int .i64 (IntKind.wrap .i64 (3 + (bits .and .i64 c 3)))))]), ⟨0, 1, []⟩⟩
theorem TpR2 (c : Int) : TpEV (codeAt [1, 0] BTp) (TpS1 c) [2] =
  some (.normal, (TpS2 c)) := by kernel_rfl
noncomputable def TpS3 (c : Int) : KSt := ⟨(frameL 6 [(2, (.int .i64 (3 + (c % 4))))]), ⟨0, 1, []⟩⟩
theorem Tpok {c : Int}   {Q : Ex → St → Prop} (hq : Q .ret (KSt.low (TpS3 c))) : Gets Try.prog (KH.low ⟨0, 1, []⟩) BTp (KSt.low (TpS0 c)) Q := by
  rw [TpC]; refine Gets.seq ?_
  refine Tpgo (TpR1 c) ?_
  rw [TpC1]; refine Gets.seq ?_
  refine Tpgo (x := .normal) (s' := (TpS3 c)) ((TpR2 c).trans (by (show some (Ex.normal, (TpS2 c)) = some (Ex.normal, (TpS3 c)); unfold TpS2 TpS3; rw [(show (bits .and .i64 c 3) = (c % 4) from and_mask_i64 c 2 (by omega)), (show (IntKind.wrap .i64 (3 + (c % 4))) = (3 + (c % 4)) from wrap_i64_id (by omega) (by omega))]))) ?_
  rw [TpC1_1]; refine Gets.ev fitW.mix fitW.cfg (fitW.sound twa_sound 14 0) 14 rfl (s' := KSt.low (TpS3 c)) (x := .ret) rfl ?_
  exact hq

end Go.Proofs.Ytgegcbeeljbiaaa
