/- A driven maker makes the words of a box, or there is no room. -/
import Derived.Test.YtnhdjmpbmecnoaaMkA
import Derived.WalkKit
import Derived.ProofKit
import Derived.OpenShut
import Derived.ChangeOld
import Derived.Below
import Derived.SizedLaws
import Derived.ChangeMaps5
namespace Go.Proofs.Ytnhdjmpbmecnoaa.makerMakes
open Go.Eng
open Go.ChangeShapes Go.WideShapes Go.ChangeAt Go.RowKit
set_option linter.unusedVariables false
set_option linter.unusedSimpArgs false
set_option maxRecDepth 100000
noncomputable def cfgK : Cfg := ⟨[35]⟩
noncomputable def fsK : List FuncId := [9, 14, 15, 17, 26, 27, 33, 36, 37, 38, 39, 40, 42, 43, 44, 45, 46, 47, 58, 61, 62, 63, 67, 68, 69, 70, 73]
theorem fitK : Fit Try.prog cfgK fsK := ⟨by kernel_rfl, Cfg.ok_of (by kernel_rfl), by kernel_rfl⟩
theorem fd_ {p : Prop} [Decidable p] (h : ¬ p) : (false == decide p) = true := by rw [decide_eq_false h]; rfl
theorem td_ {p : Prop} [Decidable p] (h : p) : (true == decide p) = true := by rw [decide_eq_true h]; rfl
/-- A word of a box. -/
def wd (ks vs : ByteArray) (i : Nat) : Int := (boxW ks vs).getD i 0
theorem awake17_told : Tells Try.prog 36 [] (bare Try.prog) (.bool true) := by
  refine Tells.of_tree (h := (bareK Try.prog)) fitK SoundC.no AgreeT.no (by kernel_rfl) rfl (show Ro (bare Try.prog) from Ro.bare) (n := 70) (d := 40) ?_
  kernel_rfl
noncomputable def rc_sprocketlaw17_awake : RC := ⟨[], fun avs => match avs with | [] => true | _ => false,
  fun N avs => match avs with | [] => ((.bool true), [], []) | _ => (.bool false, [], [])⟩
theorem rc_sprocketlaw17_awake_does : RcDoes Try.prog [] 36 rc_sprocketlaw17_awake := by
  intro vb avs args blks hv hs hp
  cases hv
  cases hs
  exact DoesC.bare noVars rfl awake17_told
theorem eta1 (l : List Int) (h : l.length = 1) : l = [l.getD 0 0] := by
  match l, h with
  | [a0], _ => rfl
noncomputable def rc_bw1 (boxW : ByteArray → ByteArray → List Int) (wd : ByteArray → ByteArray → Nat → Int) : RC := ⟨[.str, .str], fun avs => match avs with | [.str ks, .str vs] => ((Nat.ble (ByteArray.size ks) 16) && ((Nat.ble (ByteArray.size vs) 24) && (Nat.beq (List.length (boxW ks vs)) 1))) | _ => false,
  fun N avs => match avs with | [.str ks, .str vs] => ((.tuple #[(.slice (some ⟨N, 0, none⟩) 1 1), (.bool true)]), [], [.cells [(.int .u64 (wd ks vs 0))] 30 true]) | _ => (.bool false, [], [])⟩
theorem rc_bw1_does : RcDoes Try.prog [] 26 (rc_bw1 boxW wd) := by
  intro vb avs args blks hv hs hp
  cases hv
  cases hs with
  | str ks hs =>
    cases hs with
    | str vs hs =>
      cases hs
      have hp : (Nat.ble (ByteArray.size ks) 16 && (Nat.ble (ByteArray.size vs) 24 && Nat.beq (List.length (boxW ks vs)) 1)) = true := hp
      simp only [Bool.and_eq_true] at hp
      have h := boxWords_does ks vs (Nat.le_of_ble_eq_true hp.1) (Nat.le_of_ble_eq_true hp.2.1)
      rw [show boxW ks vs = [(boxW ks vs).getD 0 0] from eta1 _ (Nat.eq_of_beq_eq_true hp.2.2)] at h
      exact h
noncomputable def rc_rw1 (boxW : ByteArray → ByteArray → List Int) (wd : ByteArray → ByteArray → Nat → Int) : RC := ⟨[.str, .str], fun avs => match avs with | [.str ks, .str vs] => ((Nat.ble (ByteArray.size ks) 16) && ((Nat.ble (ByteArray.size vs) 24) && (Nat.beq (List.length (boxW ks vs)) 1))) | _ => false,
  fun N avs => match avs with | [.str ks, .str vs] => ((.tuple #[(.slice (some ⟨N, 0, none⟩) 1 1), (.bool true)]), [], [.cells [(.int .u64 (wd ks vs 0))] 30 true]) | _ => (.bool false, [], [])⟩
theorem rc_rw1_does : RcDoes Try.prog [] 27 (rc_rw1 boxW wd) := by
  intro vb avs args blks hv hs hp
  cases hv
  cases hs with
  | str ks hs =>
    cases hs with
    | str vs hs =>
      cases hs
      have hp : (Nat.ble (ByteArray.size ks) 16 && (Nat.ble (ByteArray.size vs) 24 && Nat.beq (List.length (boxW ks vs)) 1)) = true := hp
      simp only [Bool.and_eq_true] at hp
      have h := boxWordsR_does ks vs (Nat.le_of_ble_eq_true hp.1) (Nat.le_of_ble_eq_true hp.2.1)
      rw [show boxW ks vs = [(boxW ks vs).getD 0 0] from eta1 _ (Nat.eq_of_beq_eq_true hp.2.2)] at h
      exact h
noncomputable def mm1T (boxW : ByteArray → ByteArray → List Int) (wd : ByteArray → ByteArray → Nat → Int) : RTab := fun f => match f with
  | 36 => some rc_sprocketlaw17_awake
  | 26 => some (rc_bw1 boxW wd)
  | 27 => some (rc_rw1 boxW wd)
  | _ => none
def mm1Dom : List FuncId := [36, 26, 27]
theorem mm1_does : ∀ f rc, f ∈ mm1Dom → (mm1T boxW wd) f = some rc → RcDoes Try.prog [] f rc := by
  intro f rc hf hT
  simp only [mm1Dom, List.mem_cons, List.not_mem_nil, or_false] at hf
  rcases hf with rfl | rfl | rfl
  · cases hT; exact rc_sprocketlaw17_awake_does
  · cases hT; exact rc_bw1_does
  · cases hT; exact rc_rw1_does
theorem mm1_fn : ∀ f ∈ mm1Dom, FnOk Try.prog f := fun f hf => fitK.fnOk f (by
    have h0 : (mm1Dom.all fun f => fsK.contains f) = true := by kernel_rfl
    simpa using List.all_eq_true.1 h0 f hf)
theorem mm1_sound : SoundC Try.prog (conC mm1Dom (rcE [] (mm1T boxW wd))) := rc_sound noVars mm1_fn mm1_does
theorem eta2 (l : List Int) (h : l.length = 2) : l = [l.getD 0 0, l.getD 1 0] := by
  match l, h with
  | [a0, a1], _ => rfl
noncomputable def rc_bw2 (boxW : ByteArray → ByteArray → List Int) (wd : ByteArray → ByteArray → Nat → Int) : RC := ⟨[.str, .str], fun avs => match avs with | [.str ks, .str vs] => ((Nat.ble (ByteArray.size ks) 16) && ((Nat.ble (ByteArray.size vs) 24) && (Nat.beq (List.length (boxW ks vs)) 2))) | _ => false,
  fun N avs => match avs with | [.str ks, .str vs] => ((.tuple #[(.slice (some ⟨N, 0, none⟩) 2 2), (.bool true)]), [], [.cells [(.int .u64 (wd ks vs 0)), (.int .u64 (wd ks vs 1))] 30 true]) | _ => (.bool false, [], [])⟩
theorem rc_bw2_does : RcDoes Try.prog [] 26 (rc_bw2 boxW wd) := by
  intro vb avs args blks hv hs hp
  cases hv
  cases hs with
  | str ks hs =>
    cases hs with
    | str vs hs =>
      cases hs
      have hp : (Nat.ble (ByteArray.size ks) 16 && (Nat.ble (ByteArray.size vs) 24 && Nat.beq (List.length (boxW ks vs)) 2)) = true := hp
      simp only [Bool.and_eq_true] at hp
      have h := boxWords_does ks vs (Nat.le_of_ble_eq_true hp.1) (Nat.le_of_ble_eq_true hp.2.1)
      rw [show boxW ks vs = [(boxW ks vs).getD 0 0, (boxW ks vs).getD 1 0] from eta2 _ (Nat.eq_of_beq_eq_true hp.2.2)] at h
      exact h
noncomputable def rc_rw2 (boxW : ByteArray → ByteArray → List Int) (wd : ByteArray → ByteArray → Nat → Int) : RC := ⟨[.str, .str], fun avs => match avs with | [.str ks, .str vs] => ((Nat.ble (ByteArray.size ks) 16) && ((Nat.ble (ByteArray.size vs) 24) && (Nat.beq (List.length (boxW ks vs)) 2))) | _ => false,
  fun N avs => match avs with | [.str ks, .str vs] => ((.tuple #[(.slice (some ⟨N, 0, none⟩) 2 2), (.bool true)]), [], [.cells [(.int .u64 (wd ks vs 0)), (.int .u64 (wd ks vs 1))] 30 true]) | _ => (.bool false, [], [])⟩
theorem rc_rw2_does : RcDoes Try.prog [] 27 (rc_rw2 boxW wd) := by
  intro vb avs args blks hv hs hp
  cases hv
  cases hs with
  | str ks hs =>
    cases hs with
    | str vs hs =>
      cases hs
      have hp : (Nat.ble (ByteArray.size ks) 16 && (Nat.ble (ByteArray.size vs) 24 && Nat.beq (List.length (boxW ks vs)) 2)) = true := hp
      simp only [Bool.and_eq_true] at hp
      have h := boxWordsR_does ks vs (Nat.le_of_ble_eq_true hp.1) (Nat.le_of_ble_eq_true hp.2.1)
      rw [show boxW ks vs = [(boxW ks vs).getD 0 0, (boxW ks vs).getD 1 0] from eta2 _ (Nat.eq_of_beq_eq_true hp.2.2)] at h
      exact h
noncomputable def mm2T (boxW : ByteArray → ByteArray → List Int) (wd : ByteArray → ByteArray → Nat → Int) : RTab := fun f => match f with
  | 36 => some rc_sprocketlaw17_awake
  | 26 => some (rc_bw2 boxW wd)
  | 27 => some (rc_rw2 boxW wd)
  | _ => none
def mm2Dom : List FuncId := [36, 26, 27]
theorem mm2_does : ∀ f rc, f ∈ mm2Dom → (mm2T boxW wd) f = some rc → RcDoes Try.prog [] f rc := by
  intro f rc hf hT
  simp only [mm2Dom, List.mem_cons, List.not_mem_nil, or_false] at hf
  rcases hf with rfl | rfl | rfl
  · cases hT; exact rc_sprocketlaw17_awake_does
  · cases hT; exact rc_bw2_does
  · cases hT; exact rc_rw2_does
theorem mm2_fn : ∀ f ∈ mm2Dom, FnOk Try.prog f := fun f hf => fitK.fnOk f (by
    have h0 : (mm2Dom.all fun f => fsK.contains f) = true := by kernel_rfl
    simpa using List.all_eq_true.1 h0 f hf)
theorem mm2_sound : SoundC Try.prog (conC mm2Dom (rcE [] (mm2T boxW wd))) := rc_sound noVars mm2_fn mm2_does
theorem eta3 (l : List Int) (h : l.length = 3) : l = [l.getD 0 0, l.getD 1 0, l.getD 2 0] := by
  match l, h with
  | [a0, a1, a2], _ => rfl
noncomputable def rc_bw3 (boxW : ByteArray → ByteArray → List Int) (wd : ByteArray → ByteArray → Nat → Int) : RC := ⟨[.str, .str], fun avs => match avs with | [.str ks, .str vs] => ((Nat.ble (ByteArray.size ks) 16) && ((Nat.ble (ByteArray.size vs) 24) && (Nat.beq (List.length (boxW ks vs)) 3))) | _ => false,
  fun N avs => match avs with | [.str ks, .str vs] => ((.tuple #[(.slice (some ⟨N, 0, none⟩) 3 3), (.bool true)]), [], [.cells [(.int .u64 (wd ks vs 0)), (.int .u64 (wd ks vs 1)), (.int .u64 (wd ks vs 2))] 30 true]) | _ => (.bool false, [], [])⟩
theorem rc_bw3_does : RcDoes Try.prog [] 26 (rc_bw3 boxW wd) := by
  intro vb avs args blks hv hs hp
  cases hv
  cases hs with
  | str ks hs =>
    cases hs with
    | str vs hs =>
      cases hs
      have hp : (Nat.ble (ByteArray.size ks) 16 && (Nat.ble (ByteArray.size vs) 24 && Nat.beq (List.length (boxW ks vs)) 3)) = true := hp
      simp only [Bool.and_eq_true] at hp
      have h := boxWords_does ks vs (Nat.le_of_ble_eq_true hp.1) (Nat.le_of_ble_eq_true hp.2.1)
      rw [show boxW ks vs = [(boxW ks vs).getD 0 0, (boxW ks vs).getD 1 0, (boxW ks vs).getD 2 0] from eta3 _ (Nat.eq_of_beq_eq_true hp.2.2)] at h
      exact h
noncomputable def rc_rw3 (boxW : ByteArray → ByteArray → List Int) (wd : ByteArray → ByteArray → Nat → Int) : RC := ⟨[.str, .str], fun avs => match avs with | [.str ks, .str vs] => ((Nat.ble (ByteArray.size ks) 16) && ((Nat.ble (ByteArray.size vs) 24) && (Nat.beq (List.length (boxW ks vs)) 3))) | _ => false,
  fun N avs => match avs with | [.str ks, .str vs] => ((.tuple #[(.slice (some ⟨N, 0, none⟩) 3 3), (.bool true)]), [], [.cells [(.int .u64 (wd ks vs 0)), (.int .u64 (wd ks vs 1)), (.int .u64 (wd ks vs 2))] 30 true]) | _ => (.bool false, [], [])⟩
theorem rc_rw3_does : RcDoes Try.prog [] 27 (rc_rw3 boxW wd) := by
  intro vb avs args blks hv hs hp
  cases hv
  cases hs with
  | str ks hs =>
    cases hs with
    | str vs hs =>
      cases hs
      have hp : (Nat.ble (ByteArray.size ks) 16 && (Nat.ble (ByteArray.size vs) 24 && Nat.beq (List.length (boxW ks vs)) 3)) = true := hp
      simp only [Bool.and_eq_true] at hp
      have h := boxWordsR_does ks vs (Nat.le_of_ble_eq_true hp.1) (Nat.le_of_ble_eq_true hp.2.1)
      rw [show boxW ks vs = [(boxW ks vs).getD 0 0, (boxW ks vs).getD 1 0, (boxW ks vs).getD 2 0] from eta3 _ (Nat.eq_of_beq_eq_true hp.2.2)] at h
      exact h
noncomputable def mm3T (boxW : ByteArray → ByteArray → List Int) (wd : ByteArray → ByteArray → Nat → Int) : RTab := fun f => match f with
  | 36 => some rc_sprocketlaw17_awake
  | 26 => some (rc_bw3 boxW wd)
  | 27 => some (rc_rw3 boxW wd)
  | _ => none
def mm3Dom : List FuncId := [36, 26, 27]
theorem mm3_does : ∀ f rc, f ∈ mm3Dom → (mm3T boxW wd) f = some rc → RcDoes Try.prog [] f rc := by
  intro f rc hf hT
  simp only [mm3Dom, List.mem_cons, List.not_mem_nil, or_false] at hf
  rcases hf with rfl | rfl | rfl
  · cases hT; exact rc_sprocketlaw17_awake_does
  · cases hT; exact rc_bw3_does
  · cases hT; exact rc_rw3_does
theorem mm3_fn : ∀ f ∈ mm3Dom, FnOk Try.prog f := fun f hf => fitK.fnOk f (by
    have h0 : (mm3Dom.all fun f => fsK.contains f) = true := by kernel_rfl
    simpa using List.all_eq_true.1 h0 f hf)
theorem mm3_sound : SoundC Try.prog (conC mm3Dom (rcE [] (mm3T boxW wd))) := rc_sound noVars mm3_fn mm3_does
theorem eta4 (l : List Int) (h : l.length = 4) : l = [l.getD 0 0, l.getD 1 0, l.getD 2 0, l.getD 3 0] := by
  match l, h with
  | [a0, a1, a2, a3], _ => rfl
noncomputable def rc_bw4 (boxW : ByteArray → ByteArray → List Int) (wd : ByteArray → ByteArray → Nat → Int) : RC := ⟨[.str, .str], fun avs => match avs with | [.str ks, .str vs] => ((Nat.ble (ByteArray.size ks) 16) && ((Nat.ble (ByteArray.size vs) 24) && (Nat.beq (List.length (boxW ks vs)) 4))) | _ => false,
  fun N avs => match avs with | [.str ks, .str vs] => ((.tuple #[(.slice (some ⟨N, 0, none⟩) 4 4), (.bool true)]), [], [.cells [(.int .u64 (wd ks vs 0)), (.int .u64 (wd ks vs 1)), (.int .u64 (wd ks vs 2)), (.int .u64 (wd ks vs 3))] 30 true]) | _ => (.bool false, [], [])⟩
theorem rc_bw4_does : RcDoes Try.prog [] 26 (rc_bw4 boxW wd) := by
  intro vb avs args blks hv hs hp
  cases hv
  cases hs with
  | str ks hs =>
    cases hs with
    | str vs hs =>
      cases hs
      have hp : (Nat.ble (ByteArray.size ks) 16 && (Nat.ble (ByteArray.size vs) 24 && Nat.beq (List.length (boxW ks vs)) 4)) = true := hp
      simp only [Bool.and_eq_true] at hp
      have h := boxWords_does ks vs (Nat.le_of_ble_eq_true hp.1) (Nat.le_of_ble_eq_true hp.2.1)
      rw [show boxW ks vs = [(boxW ks vs).getD 0 0, (boxW ks vs).getD 1 0, (boxW ks vs).getD 2 0, (boxW ks vs).getD 3 0] from eta4 _ (Nat.eq_of_beq_eq_true hp.2.2)] at h
      exact h
noncomputable def rc_rw4 (boxW : ByteArray → ByteArray → List Int) (wd : ByteArray → ByteArray → Nat → Int) : RC := ⟨[.str, .str], fun avs => match avs with | [.str ks, .str vs] => ((Nat.ble (ByteArray.size ks) 16) && ((Nat.ble (ByteArray.size vs) 24) && (Nat.beq (List.length (boxW ks vs)) 4))) | _ => false,
  fun N avs => match avs with | [.str ks, .str vs] => ((.tuple #[(.slice (some ⟨N, 0, none⟩) 4 4), (.bool true)]), [], [.cells [(.int .u64 (wd ks vs 0)), (.int .u64 (wd ks vs 1)), (.int .u64 (wd ks vs 2)), (.int .u64 (wd ks vs 3))] 30 true]) | _ => (.bool false, [], [])⟩
theorem rc_rw4_does : RcDoes Try.prog [] 27 (rc_rw4 boxW wd) := by
  intro vb avs args blks hv hs hp
  cases hv
  cases hs with
  | str ks hs =>
    cases hs with
    | str vs hs =>
      cases hs
      have hp : (Nat.ble (ByteArray.size ks) 16 && (Nat.ble (ByteArray.size vs) 24 && Nat.beq (List.length (boxW ks vs)) 4)) = true := hp
      simp only [Bool.and_eq_true] at hp
      have h := boxWordsR_does ks vs (Nat.le_of_ble_eq_true hp.1) (Nat.le_of_ble_eq_true hp.2.1)
      rw [show boxW ks vs = [(boxW ks vs).getD 0 0, (boxW ks vs).getD 1 0, (boxW ks vs).getD 2 0, (boxW ks vs).getD 3 0] from eta4 _ (Nat.eq_of_beq_eq_true hp.2.2)] at h
      exact h
noncomputable def mm4T (boxW : ByteArray → ByteArray → List Int) (wd : ByteArray → ByteArray → Nat → Int) : RTab := fun f => match f with
  | 36 => some rc_sprocketlaw17_awake
  | 26 => some (rc_bw4 boxW wd)
  | 27 => some (rc_rw4 boxW wd)
  | _ => none
def mm4Dom : List FuncId := [36, 26, 27]
theorem mm4_does : ∀ f rc, f ∈ mm4Dom → (mm4T boxW wd) f = some rc → RcDoes Try.prog [] f rc := by
  intro f rc hf hT
  simp only [mm4Dom, List.mem_cons, List.not_mem_nil, or_false] at hf
  rcases hf with rfl | rfl | rfl
  · cases hT; exact rc_sprocketlaw17_awake_does
  · cases hT; exact rc_bw4_does
  · cases hT; exact rc_rw4_does
theorem mm4_fn : ∀ f ∈ mm4Dom, FnOk Try.prog f := fun f hf => fitK.fnOk f (by
    have h0 : (mm4Dom.all fun f => fsK.contains f) = true := by kernel_rfl
    simpa using List.all_eq_true.1 h0 f hf)
theorem mm4_sound : SoundC Try.prog (conC mm4Dom (rcE [] (mm4T boxW wd))) := rc_sound noVars mm4_fn mm4_does
theorem eta5 (l : List Int) (h : l.length = 5) : l = [l.getD 0 0, l.getD 1 0, l.getD 2 0, l.getD 3 0, l.getD 4 0] := by
  match l, h with
  | [a0, a1, a2, a3, a4], _ => rfl
noncomputable def rc_bw5 (boxW : ByteArray → ByteArray → List Int) (wd : ByteArray → ByteArray → Nat → Int) : RC := ⟨[.str, .str], fun avs => match avs with | [.str ks, .str vs] => ((Nat.ble (ByteArray.size ks) 16) && ((Nat.ble (ByteArray.size vs) 24) && (Nat.beq (List.length (boxW ks vs)) 5))) | _ => false,
  fun N avs => match avs with | [.str ks, .str vs] => ((.tuple #[(.slice (some ⟨N, 0, none⟩) 5 5), (.bool true)]), [], [.cells [(.int .u64 (wd ks vs 0)), (.int .u64 (wd ks vs 1)), (.int .u64 (wd ks vs 2)), (.int .u64 (wd ks vs 3)), (.int .u64 (wd ks vs 4))] 30 true]) | _ => (.bool false, [], [])⟩
theorem rc_bw5_does : RcDoes Try.prog [] 26 (rc_bw5 boxW wd) := by
  intro vb avs args blks hv hs hp
  cases hv
  cases hs with
  | str ks hs =>
    cases hs with
    | str vs hs =>
      cases hs
      have hp : (Nat.ble (ByteArray.size ks) 16 && (Nat.ble (ByteArray.size vs) 24 && Nat.beq (List.length (boxW ks vs)) 5)) = true := hp
      simp only [Bool.and_eq_true] at hp
      have h := boxWords_does ks vs (Nat.le_of_ble_eq_true hp.1) (Nat.le_of_ble_eq_true hp.2.1)
      rw [show boxW ks vs = [(boxW ks vs).getD 0 0, (boxW ks vs).getD 1 0, (boxW ks vs).getD 2 0, (boxW ks vs).getD 3 0, (boxW ks vs).getD 4 0] from eta5 _ (Nat.eq_of_beq_eq_true hp.2.2)] at h
      exact h
noncomputable def rc_rw5 (boxW : ByteArray → ByteArray → List Int) (wd : ByteArray → ByteArray → Nat → Int) : RC := ⟨[.str, .str], fun avs => match avs with | [.str ks, .str vs] => ((Nat.ble (ByteArray.size ks) 16) && ((Nat.ble (ByteArray.size vs) 24) && (Nat.beq (List.length (boxW ks vs)) 5))) | _ => false,
  fun N avs => match avs with | [.str ks, .str vs] => ((.tuple #[(.slice (some ⟨N, 0, none⟩) 5 5), (.bool true)]), [], [.cells [(.int .u64 (wd ks vs 0)), (.int .u64 (wd ks vs 1)), (.int .u64 (wd ks vs 2)), (.int .u64 (wd ks vs 3)), (.int .u64 (wd ks vs 4))] 30 true]) | _ => (.bool false, [], [])⟩
theorem rc_rw5_does : RcDoes Try.prog [] 27 (rc_rw5 boxW wd) := by
  intro vb avs args blks hv hs hp
  cases hv
  cases hs with
  | str ks hs =>
    cases hs with
    | str vs hs =>
      cases hs
      have hp : (Nat.ble (ByteArray.size ks) 16 && (Nat.ble (ByteArray.size vs) 24 && Nat.beq (List.length (boxW ks vs)) 5)) = true := hp
      simp only [Bool.and_eq_true] at hp
      have h := boxWordsR_does ks vs (Nat.le_of_ble_eq_true hp.1) (Nat.le_of_ble_eq_true hp.2.1)
      rw [show boxW ks vs = [(boxW ks vs).getD 0 0, (boxW ks vs).getD 1 0, (boxW ks vs).getD 2 0, (boxW ks vs).getD 3 0, (boxW ks vs).getD 4 0] from eta5 _ (Nat.eq_of_beq_eq_true hp.2.2)] at h
      exact h
noncomputable def mm5T (boxW : ByteArray → ByteArray → List Int) (wd : ByteArray → ByteArray → Nat → Int) : RTab := fun f => match f with
  | 36 => some rc_sprocketlaw17_awake
  | 26 => some (rc_bw5 boxW wd)
  | 27 => some (rc_rw5 boxW wd)
  | _ => none
def mm5Dom : List FuncId := [36, 26, 27]
theorem mm5_does : ∀ f rc, f ∈ mm5Dom → (mm5T boxW wd) f = some rc → RcDoes Try.prog [] f rc := by
  intro f rc hf hT
  simp only [mm5Dom, List.mem_cons, List.not_mem_nil, or_false] at hf
  rcases hf with rfl | rfl | rfl
  · cases hT; exact rc_sprocketlaw17_awake_does
  · cases hT; exact rc_bw5_does
  · cases hT; exact rc_rw5_does
theorem mm5_fn : ∀ f ∈ mm5Dom, FnOk Try.prog f := fun f hf => fitK.fnOk f (by
    have h0 : (mm5Dom.all fun f => fsK.contains f) = true := by kernel_rfl
    simpa using List.all_eq_true.1 h0 f hf)
theorem mm5_sound : SoundC Try.prog (conC mm5Dom (rcE [] (mm5T boxW wd))) := rc_sound noVars mm5_fn mm5_does
theorem eta6 (l : List Int) (h : l.length = 6) : l = [l.getD 0 0, l.getD 1 0, l.getD 2 0, l.getD 3 0, l.getD 4 0, l.getD 5 0] := by
  match l, h with
  | [a0, a1, a2, a3, a4, a5], _ => rfl
noncomputable def rc_bw6 (boxW : ByteArray → ByteArray → List Int) (wd : ByteArray → ByteArray → Nat → Int) : RC := ⟨[.str, .str], fun avs => match avs with | [.str ks, .str vs] => ((Nat.ble (ByteArray.size ks) 16) && ((Nat.ble (ByteArray.size vs) 24) && (Nat.beq (List.length (boxW ks vs)) 6))) | _ => false,
  fun N avs => match avs with | [.str ks, .str vs] => ((.tuple #[(.slice (some ⟨N, 0, none⟩) 6 6), (.bool true)]), [], [.cells [(.int .u64 (wd ks vs 0)), (.int .u64 (wd ks vs 1)), (.int .u64 (wd ks vs 2)), (.int .u64 (wd ks vs 3)), (.int .u64 (wd ks vs 4)), (.int .u64 (wd ks vs 5))] 30 true]) | _ => (.bool false, [], [])⟩
theorem rc_bw6_does : RcDoes Try.prog [] 26 (rc_bw6 boxW wd) := by
  intro vb avs args blks hv hs hp
  cases hv
  cases hs with
  | str ks hs =>
    cases hs with
    | str vs hs =>
      cases hs
      have hp : (Nat.ble (ByteArray.size ks) 16 && (Nat.ble (ByteArray.size vs) 24 && Nat.beq (List.length (boxW ks vs)) 6)) = true := hp
      simp only [Bool.and_eq_true] at hp
      have h := boxWords_does ks vs (Nat.le_of_ble_eq_true hp.1) (Nat.le_of_ble_eq_true hp.2.1)
      rw [show boxW ks vs = [(boxW ks vs).getD 0 0, (boxW ks vs).getD 1 0, (boxW ks vs).getD 2 0, (boxW ks vs).getD 3 0, (boxW ks vs).getD 4 0, (boxW ks vs).getD 5 0] from eta6 _ (Nat.eq_of_beq_eq_true hp.2.2)] at h
      exact h
noncomputable def rc_rw6 (boxW : ByteArray → ByteArray → List Int) (wd : ByteArray → ByteArray → Nat → Int) : RC := ⟨[.str, .str], fun avs => match avs with | [.str ks, .str vs] => ((Nat.ble (ByteArray.size ks) 16) && ((Nat.ble (ByteArray.size vs) 24) && (Nat.beq (List.length (boxW ks vs)) 6))) | _ => false,
  fun N avs => match avs with | [.str ks, .str vs] => ((.tuple #[(.slice (some ⟨N, 0, none⟩) 6 6), (.bool true)]), [], [.cells [(.int .u64 (wd ks vs 0)), (.int .u64 (wd ks vs 1)), (.int .u64 (wd ks vs 2)), (.int .u64 (wd ks vs 3)), (.int .u64 (wd ks vs 4)), (.int .u64 (wd ks vs 5))] 30 true]) | _ => (.bool false, [], [])⟩
theorem rc_rw6_does : RcDoes Try.prog [] 27 (rc_rw6 boxW wd) := by
  intro vb avs args blks hv hs hp
  cases hv
  cases hs with
  | str ks hs =>
    cases hs with
    | str vs hs =>
      cases hs
      have hp : (Nat.ble (ByteArray.size ks) 16 && (Nat.ble (ByteArray.size vs) 24 && Nat.beq (List.length (boxW ks vs)) 6)) = true := hp
      simp only [Bool.and_eq_true] at hp
      have h := boxWordsR_does ks vs (Nat.le_of_ble_eq_true hp.1) (Nat.le_of_ble_eq_true hp.2.1)
      rw [show boxW ks vs = [(boxW ks vs).getD 0 0, (boxW ks vs).getD 1 0, (boxW ks vs).getD 2 0, (boxW ks vs).getD 3 0, (boxW ks vs).getD 4 0, (boxW ks vs).getD 5 0] from eta6 _ (Nat.eq_of_beq_eq_true hp.2.2)] at h
      exact h
noncomputable def mm6T (boxW : ByteArray → ByteArray → List Int) (wd : ByteArray → ByteArray → Nat → Int) : RTab := fun f => match f with
  | 36 => some rc_sprocketlaw17_awake
  | 26 => some (rc_bw6 boxW wd)
  | 27 => some (rc_rw6 boxW wd)
  | _ => none
def mm6Dom : List FuncId := [36, 26, 27]
theorem mm6_does : ∀ f rc, f ∈ mm6Dom → (mm6T boxW wd) f = some rc → RcDoes Try.prog [] f rc := by
  intro f rc hf hT
  simp only [mm6Dom, List.mem_cons, List.not_mem_nil, or_false] at hf
  rcases hf with rfl | rfl | rfl
  · cases hT; exact rc_sprocketlaw17_awake_does
  · cases hT; exact rc_bw6_does
  · cases hT; exact rc_rw6_does
theorem mm6_fn : ∀ f ∈ mm6Dom, FnOk Try.prog f := fun f hf => fitK.fnOk f (by
    have h0 : (mm6Dom.all fun f => fsK.contains f) = true := by kernel_rfl
    simpa using List.all_eq_true.1 h0 f hf)
theorem mm6_sound : SoundC Try.prog (conC mm6Dom (rcE [] (mm6T boxW wd))) := rc_sound noVars mm6_fn mm6_does
noncomputable def mmlT : RTab := fun f => match f with
  | 36 => some rc_sprocketlaw17_awake
  | 14 => some rc_r02_Words
  | _ => none
def mmlDom : List FuncId := [36, 14]
theorem mml_does : ∀ f rc, f ∈ mmlDom → mmlT f = some rc → RcDoes Try.prog [] f rc := by
  intro f rc hf hT
  simp only [mmlDom, List.mem_cons, List.not_mem_nil, or_false] at hf
  rcases hf with rfl | rfl
  · cases hT; exact rc_sprocketlaw17_awake_does
  · cases hT; exact rc_r02_Words_does
theorem mml_fn : ∀ f ∈ mmlDom, FnOk Try.prog f := fun f hf => fitK.fnOk f (by
    have h0 : (mmlDom.all fun f => fsK.contains f) = true := by kernel_rfl
    simpa using List.all_eq_true.1 h0 f hf)
theorem mml_sound : SoundC Try.prog (conC mmlDom (rcE [] mmlT)) := rc_sound noVars mml_fn mml_does
noncomputable def BKL : Code := bodyOf Try.prog 9
theorem BKL_is : Try.f9.body = some BKL := by kernel_rfl
theorem BKL_ok : okCode Try.prog.globals.size BKL = true := by kernel_rfl
noncomputable abbrev KLEV (c : Code) (s : KSt) (lv : List Nat) : Option (Ex × KSt) := evCK Try.prog cfgK (runK Try.prog cfgK fsK (conTk mmlDom (rcK [] mmlT)) 40 40) 40 c s (normC 0 lv)
theorem KLgo {lv_ : List Nat} {co_ : Code} {st_ s' : KSt} {x : Ex} {Q : Ex → St → Prop} (hE_ : KLEV co_ st_ lv_ = some (x, s')) (hq_ : Q x s'.low) (hok_ : okCode Try.prog.globals.size co_ = true := by kernel_rfl) : Gets Try.prog (KH.low ⟨0, 1, []⟩) co_ st_.low Q := Gets.ofN fitK mml_sound (rc_agree _ _ _) 40 40 hok_ hE_ hq_
theorem KLeX {v : Value} {b c : Bool} (h : v = .bool b) (hb : b = c) : v = .bool c := by rw [h, hb]
theorem KLC1_1_1_1_1_1_1_1_1_1_1_0_1_0_0 : (codeAt [1, 1, 1, 1, 1, 1, 1, 1, 1, 1, 1, 0, 1, 0, 0] BKL) = .seq (codeAt [1, 1, 1, 1, 1, 1, 1, 1, 1, 1, 1, 0, 1, 0, 0, 0] BKL) (codeAt [1, 1, 1, 1, 1, 1, 1, 1, 1, 1, 1, 0, 1, 0, 0, 1] BKL) := by kernel_rfl
theorem KLC1_1_1_1_1_1_1_1_1_1_1_0_1_0_0_0 : (codeAt [1, 1, 1, 1, 1, 1, 1, 1, 1, 1, 1, 0, 1, 0, 0, 0] BKL) = .seq (codeAt [1, 1, 1, 1, 1, 1, 1, 1, 1, 1, 1, 0, 1, 0, 0, 0, 0] BKL) (codeAt [1, 1, 1, 1, 1, 1, 1, 1, 1, 1, 1, 0, 1, 0, 0, 0, 1] BKL) := by kernel_rfl
theorem KLC1_1_1_1_1_1_1_1_1_1_1_0_1_0_0_0_1 : (codeAt [1, 1, 1, 1, 1, 1, 1, 1, 1, 1, 1, 0, 1, 0, 0, 0, 1] BKL) = .cond (.tmp 88) (codeAt [1, 1, 1, 1, 1, 1, 1, 1, 1, 1, 1, 0, 1, 0, 0, 0, 1, 0] BKL) (codeAt [1, 1, 1, 1, 1, 1, 1, 1, 1, 1, 1, 0, 1, 0, 0, 0, 1, 1] BKL) := by kernel_rfl
theorem KLC1_1_1_1_1_1_1_1_1_1_1_0_1_0_0_1 : (codeAt [1, 1, 1, 1, 1, 1, 1, 1, 1, 1, 1, 0, 1, 0, 0, 1] BKL) = .seq (codeAt [1, 1, 1, 1, 1, 1, 1, 1, 1, 1, 1, 0, 1, 0, 0, 1, 0] BKL) (codeAt [1, 1, 1, 1, 1, 1, 1, 1, 1, 1, 1, 0, 1, 0, 0, 1, 1] BKL) := by kernel_rfl
theorem KLC1_1_1_1_1_1_1_1_1_1_1_0_1_0_0_1_0 : (codeAt [1, 1, 1, 1, 1, 1, 1, 1, 1, 1, 1, 0, 1, 0, 0, 1, 0] BKL) = .block 1 (codeAt [1, 1, 1, 1, 1, 1, 1, 1, 1, 1, 1, 0, 1, 0, 0, 1, 0, 0] BKL) := by kernel_rfl
theorem KLC1_1_1_1_1_1_1_1_1_1_1_0_1_0_0_1_0_0 : (codeAt [1, 1, 1, 1, 1, 1, 1, 1, 1, 1, 1, 0, 1, 0, 0, 1, 0, 0] BKL) = .seq (codeAt [1, 1, 1, 1, 1, 1, 1, 1, 1, 1, 1, 0, 1, 0, 0, 1, 0, 0, 0] BKL) (codeAt [1, 1, 1, 1, 1, 1, 1, 1, 1, 1, 1, 0, 1, 0, 0, 1, 0, 0, 1] BKL) := by kernel_rfl
theorem KLC1_1_1_1_1_1_1_1_1_1_1_0_1_0_0_1_0_0_1 : (codeAt [1, 1, 1, 1, 1, 1, 1, 1, 1, 1, 1, 0, 1, 0, 0, 1, 0, 0, 1] BKL) = .seq (codeAt [1, 1, 1, 1, 1, 1, 1, 1, 1, 1, 1, 0, 1, 0, 0, 1, 0, 0, 1, 0] BKL) (codeAt [1, 1, 1, 1, 1, 1, 1, 1, 1, 1, 1, 0, 1, 0, 0, 1, 0, 0, 1, 1] BKL) := by kernel_rfl
theorem KLC1_1_1_1_1_1_1_1_1_1_1_0_1_0_0_1_0_0_1_0 : (codeAt [1, 1, 1, 1, 1, 1, 1, 1, 1, 1, 1, 0, 1, 0, 0, 1, 0, 0, 1, 0] BKL) = .seq (codeAt [1, 1, 1, 1, 1, 1, 1, 1, 1, 1, 1, 0, 1, 0, 0, 1, 0, 0, 1, 0, 0] BKL) (codeAt [1, 1, 1, 1, 1, 1, 1, 1, 1, 1, 1, 0, 1, 0, 0, 1, 0, 0, 1, 0, 1] BKL) := by kernel_rfl
theorem KLC1_1_1_1_1_1_1_1_1_1_1_0_1_0_0_1_0_0_1_0_1 : (codeAt [1, 1, 1, 1, 1, 1, 1, 1, 1, 1, 1, 0, 1, 0, 0, 1, 0, 0, 1, 0, 1] BKL) = .cond (.tmp 99) (codeAt [1, 1, 1, 1, 1, 1, 1, 1, 1, 1, 1, 0, 1, 0, 0, 1, 0, 0, 1, 0, 1, 0] BKL) (codeAt [1, 1, 1, 1, 1, 1, 1, 1, 1, 1, 1, 0, 1, 0, 0, 1, 0, 0, 1, 0, 1, 1] BKL) := by kernel_rfl
theorem KLC1_1_1_1_1_1_1_1_1_1_1_0_1_0_0_0_1_1 : (codeAt [1, 1, 1, 1, 1, 1, 1, 1, 1, 1, 1, 0, 1, 0, 0, 0, 1, 1] BKL) = .exit 0 := by kernel_rfl
theorem KLC1_1_1_1_1_1_1_1_1_1_1_1 : (codeAt [1, 1, 1, 1, 1, 1, 1, 1, 1, 1, 1, 1] BKL) = .seq (codeAt [1, 1, 1, 1, 1, 1, 1, 1, 1, 1, 1, 1, 0] BKL) (codeAt [1, 1, 1, 1, 1, 1, 1, 1, 1, 1, 1, 1, 1] BKL) := by kernel_rfl
theorem KLC1_1_1_1_1_1_1_1_1_1_1_1_1 : (codeAt [1, 1, 1, 1, 1, 1, 1, 1, 1, 1, 1, 1, 1] BKL) = .ret := by kernel_rfl
theorem KLC : BKL = .seq (codeAt [0] BKL) (codeAt [1] BKL) := by kernel_rfl
theorem KLC1 : (codeAt [1] BKL) = .seq (codeAt [1, 0] BKL) (codeAt [1, 1] BKL) := by kernel_rfl
theorem KLC1_0 : (codeAt [1, 0] BKL) = .seq (codeAt [1, 0, 0] BKL) (codeAt [1, 0, 1] BKL) := by kernel_rfl
theorem KLC1_0_1 : (codeAt [1, 0, 1] BKL) = .cond (.tmp 27) (codeAt [1, 0, 1, 0] BKL) (codeAt [1, 0, 1, 1] BKL) := by kernel_rfl
theorem KLC1_0_1_0 : (codeAt [1, 0, 1, 0] BKL) = .seq (codeAt [1, 0, 1, 0, 0] BKL) (codeAt [1, 0, 1, 0, 1] BKL) := by kernel_rfl
theorem KLC1_0_1_0_1 : (codeAt [1, 0, 1, 0, 1] BKL) = .ret := by kernel_rfl
theorem KLC1_1_1_1_1_1_1_1_1_1_1_0_1 : (codeAt [1, 1, 1, 1, 1, 1, 1, 1, 1, 1, 1, 0, 1] BKL) = .block 0 (codeAt [1, 1, 1, 1, 1, 1, 1, 1, 1, 1, 1, 0, 1, 0] BKL) := by kernel_rfl
theorem KLC1_1_1_1_1_1_1_1_1_1_1_0_1_0 : (codeAt [1, 1, 1, 1, 1, 1, 1, 1, 1, 1, 1, 0, 1, 0] BKL) = .loop (codeAt [1, 1, 1, 1, 1, 1, 1, 1, 1, 1, 1, 0, 1, 0, 0] BKL) := by kernel_rfl
noncomputable def KLS0 (m : Nat) (L : List Int) (X : List Int) (g : Int) : KSt := ⟨(frameL 130 [(8, (.pointer (some ⟨0, 0, none⟩))), (12, (.int .u64 1)), (14, (.slice (some ⟨1, 0, none⟩) m m)), (16, (.slice (some ⟨2, 0, none⟩) 0 0)), (17, (.int .i64 0))]), ⟨5, 1, [(4, 0, .ints .u64 L 30 true), (3, 0, .map [((.int .u64 1), (.slice (some ⟨4, 0, none⟩) m m), 0)] 1), (2, 0, .ints .u64 ([] : List Int) 30 true), (1, 0, .ints .u64 X 30 true), (0, 0, .cells [(.int .i64 g), (.int .i64 ((m : Nat) : Int)), (.int .i64 0), (.int .u64 1), (.map (some 3))] 94 true)]⟩⟩
noncomputable def KLS1 (m : Nat) (L : List Int) (X : List Int) (g : Int) : KSt := ⟨(frameL 130 [(8, (.pointer (some ⟨0, 0, none⟩))), (12, (.int .u64 1)), (14, (.slice (some ⟨1, 0, none⟩) m m)), (16, (.slice (some ⟨2, 0, none⟩) 0 0)), (17, (.int .i64 0)), (88, (.bool (decide (0 < ((m : Nat) : Int)))))]), ⟨5, 1, [(4, 0, .ints .u64 L 30 true), (3, 0, .map [((.int .u64 1), (.slice (some ⟨4, 0, none⟩) m m), 0)] 1), (2, 0, .ints .u64 ([] : List Int) 30 true), (1, 0, .ints .u64 X 30 true), (0, 0, .cells [(.int .i64 g), (.int .i64 ((m : Nat) : Int)), (.int .i64 0), (.int .u64 1), (.map (some 3))] 94 true)]⟩⟩
theorem KLR1 (m : Nat) (L : List Int) (X : List Int) (g : Int) : KLEV (codeAt [1, 1, 1, 1, 1, 1, 1, 1, 1, 1, 1, 0, 1, 0, 0, 0, 0] BKL) (KLS0 m L X g) [8, 12, 14, 16, 17, 88] =
  some (.normal, (KLS1 m L X g)) := by kernel_rfl
theorem KLR2 (m : Nat) (L : List Int) (X : List Int) (g : Int) : KLEV (codeAt [1, 1, 1, 1, 1, 1, 1, 1, 1, 1, 1, 0, 1, 0, 0, 0, 1, 0] BKL) (KLS1 m L X g) [8, 12, 14, 16, 17] =
  some (.normal, (KLS0 m L X g)) := by kernel_rfl
noncomputable def KLS2 (m : Nat) (L : List Int) (X : List Int) (g : Int) : KSt := ⟨(frameL 130 [(8, (.pointer (some ⟨0, 0, none⟩))), (12, (.int .u64 1)), (14, (.slice (some ⟨1, 0, none⟩) m m)), (16, (.slice (some ⟨2, 0, none⟩) 0 0)), (17, (.int .i64 0)), (18, (.int .u64 0)), (19, (.int .i64 14))]), ⟨5, 1, [(4, 0, .ints .u64 L 30 true), (3, 0, .map [((.int .u64 1), (.slice (some ⟨4, 0, none⟩) m m), 0)] 1), (2, 0, .ints .u64 ([] : List Int) 30 true), (1, 0, .ints .u64 X 30 true), (0, 0, .cells [(.int .i64 g), (.int .i64 ((m : Nat) : Int)), (.int .i64 1), (.int .u64 1), (.map (some 3))] 94 true)]⟩⟩
noncomputable def KLS3 (m : Nat) (n1 : Int) (L : List Int) (X : List Int) (g : Int) : KSt := ⟨(frameL 130 [(8, (.pointer (some ⟨0, 0, none⟩))), (12, (.int .u64 1)), (14, (.slice (some ⟨1, 0, none⟩) m m)), (16, (.slice (some ⟨2, 0, none⟩) 0 0)), (17, (.int .i64 0)), (18, (.int .u64 n1)), (19, (.int .i64 0))]), ⟨5, 1, [(4, 0, .ints .u64 L 30 true), (3, 0, .map [((.int .u64 1), (.slice (some ⟨4, 0, none⟩) m m), 0)] 1), (2, 0, .ints .u64 ([] : List Int) 30 true), (1, 0, .ints .u64 X 30 true), (0, 0, .cells [(.int .i64 g), (.int .i64 ((m : Nat) : Int)), (.int .i64 0), (.int .u64 1), (.map (some 3))] 94 true)]⟩⟩
theorem KLR3 (m : Nat) (L : List Int) (X : List Int) (g : Int) : KLEV (codeAt [1, 1, 1, 1, 1, 1, 1, 1, 1, 1, 1, 0, 1, 0, 0, 1, 0, 0, 0] BKL) (KLS0 m L X g) [8, 12, 14, 16, 17, 18, 19] =
  bif (decide (0 ≥ ((m : Nat) : Int))) then
    some (.normal, (KLS2 m L X g))
  else
    if (0 : Int) ≤ 0 ∧ 0 < ((m : Nat) : Int) then
      obind (L[0]?) fun n1 =>
        some (.normal, (KLS3 m n1 L X g))
    else
      none := by kernel_rfl
noncomputable def KLS4 (m : Nat) (L : List Int) (X : List Int) (g : Int) : KSt := ⟨(frameL 130 [(8, (.pointer (some ⟨0, 0, none⟩))), (12, (.int .u64 1)), (14, (.slice (some ⟨1, 0, none⟩) m m)), (16, (.slice (some ⟨2, 0, none⟩) 0 0)), (17, (.int .i64 0)), (18, (.int .u64 (L.getD 0 0))), (19, (.int .i64 0))]), ⟨5, 1, [(4, 0, .ints .u64 L 30 true), (3, 0, .map [((.int .u64 1), (.slice (some ⟨4, 0, none⟩) m m), 0)] 1), (2, 0, .ints .u64 ([] : List Int) 30 true), (1, 0, .ints .u64 X 30 true), (0, 0, .cells [(.int .i64 g), (.int .i64 ((m : Nat) : Int)), (.int .i64 0), (.int .u64 1), (.map (some 3))] 94 true)]⟩⟩
noncomputable def KLS5 (m : Nat) (L : List Int) (X : List Int) (g : Int) : KSt := ⟨(frameL 130 [(8, (.pointer (some ⟨0, 0, none⟩))), (12, (.int .u64 1)), (14, (.slice (some ⟨1, 0, none⟩) m m)), (16, (.slice (some ⟨2, 0, none⟩) 0 0)), (17, (.int .i64 0)), (18, (.int .u64 (L.getD 0 0))), (99, (.bool false))]), ⟨5, 1, [(4, 0, .ints .u64 L 30 true), (3, 0, .map [((.int .u64 1), (.slice (some ⟨4, 0, none⟩) m m), 0)] 1), (2, 0, .ints .u64 ([] : List Int) 30 true), (1, 0, .ints .u64 X 30 true), (0, 0, .cells [(.int .i64 g), (.int .i64 ((m : Nat) : Int)), (.int .i64 0), (.int .u64 1), (.map (some 3))] 94 true)]⟩⟩
theorem KLR4 (m : Nat) (L : List Int) (X : List Int) (g : Int) : KLEV (codeAt [1, 1, 1, 1, 1, 1, 1, 1, 1, 1, 1, 0, 1, 0, 0, 1, 0, 0, 1, 0, 0] BKL) (KLS4 m L X g) [8, 12, 14, 16, 17, 18, 99] =
  some (.normal, (KLS5 m L X g)) := by kernel_rfl
noncomputable def KLS6 (m : Nat) (L : List Int) (X : List Int) (g : Int) : KSt := ⟨(frameL 130 [(8, (.pointer (some ⟨0, 0, none⟩))), (12, (.int .u64 1)), (14, (.slice (some ⟨1, 0, none⟩) m m)), (16, (.slice (some ⟨2, 0, none⟩) 0 0)), (17, (.int .i64 0)), (18, (.int .u64 (L.getD 0 0)))]), ⟨5, 1, [(4, 0, .ints .u64 L 30 true), (3, 0, .map [((.int .u64 1), (.slice (some ⟨4, 0, none⟩) m m), 0)] 1), (2, 0, .ints .u64 ([] : List Int) 30 true), (1, 0, .ints .u64 X 30 true), (0, 0, .cells [(.int .i64 g), (.int .i64 ((m : Nat) : Int)), (.int .i64 0), (.int .u64 1), (.map (some 3))] 94 true)]⟩⟩
theorem KLR5 (m : Nat) (L : List Int) (X : List Int) (g : Int) : KLEV (codeAt [1, 1, 1, 1, 1, 1, 1, 1, 1, 1, 1, 0, 1, 0, 0, 1, 0, 0, 1, 0, 1, 1] BKL) (KLS5 m L X g) [8, 12, 14, 16, 17, 18] =
  some (.normal, (KLS6 m L X g)) := by kernel_rfl
noncomputable def KLS7 (m : Nat) (L : List Int) (X : List Int) (g : Int) : KSt := ⟨(frameL 130 [(8, (.pointer (some ⟨0, 0, none⟩))), (12, (.int .u64 1)), (14, (.slice (some ⟨1, 0, none⟩) m m)), (16, (.slice (some ⟨2, 0, none⟩) 1 1)), (17, (.int .i64 0))]), ⟨5, 1, [(4, 0, .ints .u64 L 30 true), (3, 0, .map [((.int .u64 1), (.slice (some ⟨4, 0, none⟩) m m), 0)] 1), (2, 0, .cells [(.int .u64 (L.getD 0 0))] 30 true), (1, 0, .ints .u64 X 30 true), (0, 0, .cells [(.int .i64 g), (.int .i64 ((m : Nat) : Int)), (.int .i64 0), (.int .u64 1), (.map (some 3))] 94 true)]⟩⟩
theorem KLR6 (m : Nat) (L : List Int) (X : List Int) (g : Int) : KLEV (codeAt [1, 1, 1, 1, 1, 1, 1, 1, 1, 1, 1, 0, 1, 0, 0, 1, 0, 0, 1, 1] BKL) (KLS6 m L X g) [8, 12, 14, 16, 17] =
  some (.normal, (KLS7 m L X g)) := by kernel_rfl
noncomputable def KLS8 (m : Nat) (L : List Int) (X : List Int) (g : Int) : KSt := ⟨(frameL 130 [(8, (.pointer (some ⟨0, 0, none⟩))), (12, (.int .u64 1)), (14, (.slice (some ⟨1, 0, none⟩) m m)), (16, (.slice (some ⟨2, 0, none⟩) 1 1)), (17, (.int .i64 1))]), ⟨5, 1, [(4, 0, .ints .u64 L 30 true), (3, 0, .map [((.int .u64 1), (.slice (some ⟨4, 0, none⟩) m m), 0)] 1), (2, 0, .cells [(.int .u64 (L.getD 0 0))] 30 true), (1, 0, .ints .u64 X 30 true), (0, 0, .cells [(.int .i64 g), (.int .i64 ((m : Nat) : Int)), (.int .i64 0), (.int .u64 1), (.map (some 3))] 94 true)]⟩⟩
theorem KLR7 (m : Nat) (L : List Int) (X : List Int) (g : Int) : KLEV (codeAt [1, 1, 1, 1, 1, 1, 1, 1, 1, 1, 1, 0, 1, 0, 0, 1, 1] BKL) (KLS7 m L X g) [8, 12, 14, 16, 17] =
  some (.normal, (KLS8 m L X g)) := by kernel_rfl
noncomputable def KLS9 (m : Nat) (k : Nat) (L : List Int) (q : List Int) (X : List Int) (g : Int) : KSt := ⟨(frameL 130 [(8, (.pointer (some ⟨0, 0, none⟩))), (12, (.int .u64 1)), (14, (.slice (some ⟨1, 0, none⟩) m m)), (16, (.slice (some ⟨2, 0, none⟩) k k)), (17, (.int .i64 ((k : Nat) : Int)))]), ⟨5, 1, [(4, 0, .ints .u64 L 30 true), (3, 0, .map [((.int .u64 1), (.slice (some ⟨4, 0, none⟩) m m), 0)] 1), (2, 0, .ints .u64 q 30 true), (1, 0, .ints .u64 X 30 true), (0, 0, .cells [(.int .i64 g), (.int .i64 ((m : Nat) : Int)), (.int .i64 0), (.int .u64 1), (.map (some 3))] 94 true)]⟩⟩
noncomputable def KLS10 (m : Nat) (k : Nat) (L : List Int) (q : List Int) (X : List Int) (g : Int) : KSt := ⟨(frameL 130 [(8, (.pointer (some ⟨0, 0, none⟩))), (12, (.int .u64 1)), (14, (.slice (some ⟨1, 0, none⟩) m m)), (16, (.slice (some ⟨2, 0, none⟩) k k)), (17, (.int .i64 ((k : Nat) : Int))), (88, (.bool (decide (((k : Nat) : Int) < ((m : Nat) : Int)))))]), ⟨5, 1, [(4, 0, .ints .u64 L 30 true), (3, 0, .map [((.int .u64 1), (.slice (some ⟨4, 0, none⟩) m m), 0)] 1), (2, 0, .ints .u64 q 30 true), (1, 0, .ints .u64 X 30 true), (0, 0, .cells [(.int .i64 g), (.int .i64 ((m : Nat) : Int)), (.int .i64 0), (.int .u64 1), (.map (some 3))] 94 true)]⟩⟩
theorem KLR8 (m : Nat) (k : Nat) (L : List Int) (q : List Int) (X : List Int) (g : Int) : KLEV (codeAt [1, 1, 1, 1, 1, 1, 1, 1, 1, 1, 1, 0, 1, 0, 0, 0, 0] BKL) (KLS9 m k L q X g) [8, 12, 14, 16, 17, 88] =
  some (.normal, (KLS10 m k L q X g)) := by kernel_rfl
theorem KLR9 (m : Nat) (k : Nat) (L : List Int) (q : List Int) (X : List Int) (g : Int) : KLEV (codeAt [1, 1, 1, 1, 1, 1, 1, 1, 1, 1, 1, 0, 1, 0, 0, 0, 1, 0] BKL) (KLS10 m k L q X g) [8, 12, 14, 16, 17] =
  some (.normal, (KLS9 m k L q X g)) := by kernel_rfl
noncomputable def KLS11 (m : Nat) (k : Nat) (L : List Int) (q : List Int) (X : List Int) (g : Int) : KSt := ⟨(frameL 130 [(8, (.pointer (some ⟨0, 0, none⟩))), (12, (.int .u64 1)), (14, (.slice (some ⟨1, 0, none⟩) m m)), (16, (.slice (some ⟨2, 0, none⟩) k k)), (17, (.int .i64 ((k : Nat) : Int))), (18, (.int .u64 0)), (19, (.int .i64 14))]), ⟨5, 1, [(4, 0, .ints .u64 L 30 true), (3, 0, .map [((.int .u64 1), (.slice (some ⟨4, 0, none⟩) m m), 0)] 1), (2, 0, .ints .u64 q 30 true), (1, 0, .ints .u64 X 30 true), (0, 0, .cells [(.int .i64 g), (.int .i64 ((m : Nat) : Int)), (.int .i64 1), (.int .u64 1), (.map (some 3))] 94 true)]⟩⟩
noncomputable def KLS12 (m : Nat) (k : Nat) (n1 : Int) (L : List Int) (q : List Int) (X : List Int) (g : Int) : KSt := ⟨(frameL 130 [(8, (.pointer (some ⟨0, 0, none⟩))), (12, (.int .u64 1)), (14, (.slice (some ⟨1, 0, none⟩) m m)), (16, (.slice (some ⟨2, 0, none⟩) k k)), (17, (.int .i64 ((k : Nat) : Int))), (18, (.int .u64 n1)), (19, (.int .i64 0))]), ⟨5, 1, [(4, 0, .ints .u64 L 30 true), (3, 0, .map [((.int .u64 1), (.slice (some ⟨4, 0, none⟩) m m), 0)] 1), (2, 0, .ints .u64 q 30 true), (1, 0, .ints .u64 X 30 true), (0, 0, .cells [(.int .i64 g), (.int .i64 ((m : Nat) : Int)), (.int .i64 0), (.int .u64 1), (.map (some 3))] 94 true)]⟩⟩
theorem KLR10 (m : Nat) (k : Nat) (L : List Int) (q : List Int) (X : List Int) (g : Int) : KLEV (codeAt [1, 1, 1, 1, 1, 1, 1, 1, 1, 1, 1, 0, 1, 0, 0, 1, 0, 0, 0] BKL) (KLS9 m k L q X g) [8, 12, 14, 16, 17, 18, 19] =
  bif (decide (((k : Nat) : Int) < 0)) then
    some (.normal, (KLS11 m k L q X g))
  else
    bif (decide (((k : Nat) : Int) ≥ ((m : Nat) : Int))) then
      some (.normal, (KLS11 m k L q X g))
    else
      if 0 ≤ ((k : Nat) : Int) ∧ ((k : Nat) : Int) < ((m : Nat) : Int) then
        obind (L[(0 + ((Int.toNat ((k : Nat) : Int)) * 1))]?) fun n1 =>
          some (.normal, (KLS12 m k n1 L q X g))
      else
        none := by kernel_rfl
noncomputable def KLS13 (m : Nat) (k : Nat) (L : List Int) (q : List Int) (X : List Int) (g : Int) : KSt := ⟨(frameL 130 [(8, (.pointer (some ⟨0, 0, none⟩))), (12, (.int .u64 1)), (14, (.slice (some ⟨1, 0, none⟩) m m)), (16, (.slice (some ⟨2, 0, none⟩) k k)), (17, (.int .i64 ((k : Nat) : Int))), (18, (.int .u64 (L.getD (0 + ((Int.toNat ((k : Nat) : Int)) * 1)) 0))), (19, (.int .i64 0))]), ⟨5, 1, [(4, 0, .ints .u64 L 30 true), (3, 0, .map [((.int .u64 1), (.slice (some ⟨4, 0, none⟩) m m), 0)] 1), (2, 0, .ints .u64 q 30 true), (1, 0, .ints .u64 X 30 true), (0, 0, .cells [(.int .i64 g), (.int .i64 ((m : Nat) : Int)), (.int .i64 0), (.int .u64 1), (.map (some 3))] 94 true)]⟩⟩
noncomputable def KLS14 (m : Nat) (k : Nat) (L : List Int) (q : List Int) (X : List Int) (g : Int) : KSt := ⟨(frameL 130 [(8, (.pointer (some ⟨0, 0, none⟩))), (12, (.int .u64 1)), (14, (.slice (some ⟨1, 0, none⟩) m m)), (16, (.slice (some ⟨2, 0, none⟩) k k)), (17, (.int .i64 ((k : Nat) : Int))), (18, (.int .u64 (L.getD (0 + ((Int.toNat ((k : Nat) : Int)) * 1)) 0))), (99, (.bool false))]), ⟨5, 1, [(4, 0, .ints .u64 L 30 true), (3, 0, .map [((.int .u64 1), (.slice (some ⟨4, 0, none⟩) m m), 0)] 1), (2, 0, .ints .u64 q 30 true), (1, 0, .ints .u64 X 30 true), (0, 0, .cells [(.int .i64 g), (.int .i64 ((m : Nat) : Int)), (.int .i64 0), (.int .u64 1), (.map (some 3))] 94 true)]⟩⟩
theorem KLR11 (m : Nat) (k : Nat) (L : List Int) (q : List Int) (X : List Int) (g : Int) : KLEV (codeAt [1, 1, 1, 1, 1, 1, 1, 1, 1, 1, 1, 0, 1, 0, 0, 1, 0, 0, 1, 0, 0] BKL) (KLS13 m k L q X g) [8, 12, 14, 16, 17, 18, 99] =
  some (.normal, (KLS14 m k L q X g)) := by kernel_rfl
noncomputable def KLS15 (m : Nat) (k : Nat) (L : List Int) (q : List Int) (X : List Int) (g : Int) : KSt := ⟨(frameL 130 [(8, (.pointer (some ⟨0, 0, none⟩))), (12, (.int .u64 1)), (14, (.slice (some ⟨1, 0, none⟩) m m)), (16, (.slice (some ⟨2, 0, none⟩) k k)), (17, (.int .i64 ((k : Nat) : Int))), (18, (.int .u64 (L.getD (0 + ((Int.toNat ((k : Nat) : Int)) * 1)) 0)))]), ⟨5, 1, [(4, 0, .ints .u64 L 30 true), (3, 0, .map [((.int .u64 1), (.slice (some ⟨4, 0, none⟩) m m), 0)] 1), (2, 0, .ints .u64 q 30 true), (1, 0, .ints .u64 X 30 true), (0, 0, .cells [(.int .i64 g), (.int .i64 ((m : Nat) : Int)), (.int .i64 0), (.int .u64 1), (.map (some 3))] 94 true)]⟩⟩
theorem KLR12 (m : Nat) (k : Nat) (L : List Int) (q : List Int) (X : List Int) (g : Int) : KLEV (codeAt [1, 1, 1, 1, 1, 1, 1, 1, 1, 1, 1, 0, 1, 0, 0, 1, 0, 0, 1, 0, 1, 1] BKL) (KLS14 m k L q X g) [8, 12, 14, 16, 17, 18] =
  some (.normal, (KLS15 m k L q X g)) := by kernel_rfl
noncomputable def KLS16 (m : Nat) (k : Nat) (L : List Int) (q : List Int) (X : List Int) (g : Int) : KSt := ⟨(frameL 130 [(8, (.pointer (some ⟨0, 0, none⟩))), (12, (.int .u64 1)), (14, (.slice (some ⟨1, 0, none⟩) m m)), (16, (.slice (some ⟨2, 0, none⟩) (k + 1) k)), (17, (.int .i64 ((k : Nat) : Int)))]), ⟨5, 1, [(4, 0, .ints .u64 L 30 true), (3, 0, .map [((.int .u64 1), (.slice (some ⟨4, 0, none⟩) m m), 0)] 1), (2, 0, .ints .u64 (List.take (0 + k) q ++ [(L.getD (0 + ((Int.toNat ((k : Nat) : Int)) * 1)) 0)] ++ List.drop ((0 + k) + (List.length [(L.getD (0 + ((Int.toNat ((k : Nat) : Int)) * 1)) 0)])) q) 30 true), (1, 0, .ints .u64 X 30 true), (0, 0, .cells [(.int .i64 g), (.int .i64 ((m : Nat) : Int)), (.int .i64 0), (.int .u64 1), (.map (some 3))] 94 true)]⟩⟩
noncomputable def KLS17 (m : Nat) (k : Nat) (L : List Int) (X : List Int) (g : Int) : KSt := ⟨(frameL 130 [(8, (.pointer (some ⟨0, 0, none⟩))), (12, (.int .u64 1)), (14, (.slice (some ⟨1, 0, none⟩) m m)), (16, (.slice (some ⟨2, 0, none⟩) 1 1)), (17, (.int .i64 ((k : Nat) : Int)))]), ⟨5, 1, [(4, 0, .ints .u64 L 30 true), (3, 0, .map [((.int .u64 1), (.slice (some ⟨4, 0, none⟩) m m), 0)] 1), (2, 0, .cells [(.int .u64 (L.getD (0 + ((Int.toNat ((k : Nat) : Int)) * 1)) 0))] 30 true), (1, 0, .ints .u64 X 30 true), (0, 0, .cells [(.int .i64 g), (.int .i64 ((m : Nat) : Int)), (.int .i64 0), (.int .u64 1), (.map (some 3))] 94 true)]⟩⟩
noncomputable def KLS18 (m : Nat) (k : Nat) (L : List Int) (q : List Int) (X : List Int) (g : Int) : KSt := ⟨(frameL 130 [(8, (.pointer (some ⟨0, 0, none⟩))), (12, (.int .u64 1)), (14, (.slice (some ⟨1, 0, none⟩) m m)), (16, (.slice (some ⟨2, 0, none⟩) (k + 1) (k + 1))), (17, (.int .i64 ((k : Nat) : Int)))]), ⟨5, 1, [(4, 0, .ints .u64 L 30 true), (3, 0, .map [((.int .u64 1), (.slice (some ⟨4, 0, none⟩) m m), 0)] 1), (2, 0, .ints .u64 (List.take k q ++ [(L.getD (0 + ((Int.toNat ((k : Nat) : Int)) * 1)) 0)]) 30 true), (1, 0, .ints .u64 X 30 true), (0, 0, .cells [(.int .i64 g), (.int .i64 ((m : Nat) : Int)), (.int .i64 0), (.int .u64 1), (.map (some 3))] 94 true)]⟩⟩
theorem KLR13 (m : Nat) (k : Nat) (L : List Int) (q : List Int) (X : List Int) (g : Int) : KLEV (codeAt [1, 1, 1, 1, 1, 1, 1, 1, 1, 1, 1, 0, 1, 0, 0, 1, 0, 0, 1, 1] BKL) (KLS15 m k L q X g) [8, 12, 14, 16, 17] =
  bif (Nat.ble ((k + 1) * 9) 1099511627776) then
    bif (Nat.ble (k + 1) k) then
      bif (Nat.ble (0 + (k + 1)) (List.length q)) then
        some (.normal, (KLS16 m k L q X g))
      else
        none
    else
      bif ((Nat.beq k 0) && (Nat.beq k 0)) then
        some (.normal, (KLS17 m k L X g))
      else
        bif ((Nat.ble k (List.length q)) && (Nat.ble 1 k)) then
          some (.normal, (KLS18 m k L q X g))
        else
          none
  else
    none := by kernel_rfl
noncomputable def KLS19 (m : Nat) (k : Nat) (L : List Int) (q : List Int) (X : List Int) (g : Int) : KSt := ⟨(frameL 130 [(8, (.pointer (some ⟨0, 0, none⟩))), (12, (.int .u64 1)), (14, (.slice (some ⟨1, 0, none⟩) m m)), (16, (.slice (some ⟨2, 0, none⟩) (k + 1) (k + 1))), (17, (.int .i64 (IntKind.wrap .i64 (((k : Nat) : Int) + 1))))]), ⟨5, 1, [(4, 0, .ints .u64 L 30 true), (3, 0, .map [((.int .u64 1), (.slice (some ⟨4, 0, none⟩) m m), 0)] 1), (2, 0, .ints .u64 (List.take k q ++ [(L.getD (0 + ((Int.toNat ((k : Nat) : Int)) * 1)) 0)]) 30 true), (1, 0, .ints .u64 X 30 true), (0, 0, .cells [(.int .i64 g), (.int .i64 ((m : Nat) : Int)), (.int .i64 0), (.int .u64 1), (.map (some 3))] 94 true)]⟩⟩
theorem KLR14 (m : Nat) (k : Nat) (L : List Int) (q : List Int) (X : List Int) (g : Int) : KLEV (codeAt [1, 1, 1, 1, 1, 1, 1, 1, 1, 1, 1, 0, 1, 0, 0, 1, 1] BKL) (KLS18 m k L q X g) [8, 12, 14, 16, 17] =
  some (.normal, (KLS19 m k L q X g)) := by kernel_rfl
noncomputable def KLS20 (m : Nat) (k : Nat) (L : List Int) (q : List Int) (X : List Int) (g : Int) : KSt := ⟨(frameL 130 [(8, (.pointer (some ⟨0, 0, none⟩))), (12, (.int .u64 1)), (14, (.slice (some ⟨1, 0, none⟩) m m)), (16, (.slice (some ⟨2, 0, none⟩) (k + 1) (k + 1))), (17, (.int .i64 (((k : Nat) : Int) + 1)))]), ⟨5, 1, [(4, 0, .ints .u64 L 30 true), (3, 0, .map [((.int .u64 1), (.slice (some ⟨4, 0, none⟩) m m), 0)] 1), (2, 0, .ints .u64 (List.take k q ++ [(L.getD (0 + ((Int.toNat ((k : Nat) : Int)) * 1)) 0)]) 30 true), (1, 0, .ints .u64 X 30 true), (0, 0, .cells [(.int .i64 g), (.int .i64 ((m : Nat) : Int)), (.int .i64 0), (.int .u64 1), (.map (some 3))] 94 true)]⟩⟩
noncomputable def KLS21  : KSt := ⟨(frameL 130 [(6, (.bool true))]), ⟨0, 1, []⟩⟩
noncomputable def KLS22  : KSt := ⟨(frameL 130 [(6, (.bool false))]), ⟨0, 1, []⟩⟩
theorem KLR15 (m : Nat) (k : Nat) (L : List Int) (q : List Int) (X : List Int) (g : Int) : KLEV (codeAt [1, 1, 1, 1, 1, 1, 1, 1, 1, 1, 1, 1, 0] BKL) (KLS10 m k L q X g) [6] =
  bif (Nat.ble (0 + k) (List.length q)) then
    bif (Nat.ble (0 + m) (List.length X)) then
      bif (Nat.ble (List.length (List.take k (List.drop 0 q))) 100000) then
        bif (decide ((List.take k (List.drop 0 q)) = (List.take m (List.drop 0 X)))) then
          bif (((m : Nat) : Int) == ((m : Nat) : Int)) then
            bif (((m : Nat) : Int) == ((m : Nat) : Int)) then
              some (.normal, KLS21)
            else
              some (.normal, KLS22)
          else
            some (.normal, KLS22)
        else
          some (.normal, KLS22)
      else
        none
    else
      none
  else
    none := by kernel_rfl
noncomputable def KLS23 (ks : ByteArray) (vs : ByteArray) (b : Int) : KSt := (firstK [(.string ks), (.string vs), (.int .u8 b)] 130 ⟨0, 1, []⟩)
noncomputable def KLS24 (ks : ByteArray) (vs : ByteArray) (b : Int) : KSt := ⟨(frameL 130 [(0, (.string ks)), (1, (.string vs)), (2, (.int .u8 b))]), ⟨0, 1, []⟩⟩
theorem KLR16 (ks : ByteArray) (vs : ByteArray) (b : Int) : KLEV (codeAt [0] BKL) (KLS23 ks vs b) [0, 1, 2] =
  some (.normal, (KLS24 ks vs b)) := by kernel_rfl
noncomputable def KLS25 (ks : ByteArray) (vs : ByteArray) (b : Int) : KSt := ⟨(frameL 130 [(0, (.string ks)), (1, (.string vs)), (2, (.int .u8 b)), (27, (.bool true))]), ⟨0, 1, []⟩⟩
noncomputable def KLS26 (ks : ByteArray) (vs : ByteArray) (b : Int) : KSt := ⟨(frameL 130 [(0, (.string ks)), (1, (.string vs)), (2, (.int .u8 b)), (27, (.bool (decide ((((ByteArray.size vs) : Nat) : Int) > 24))))]), ⟨0, 1, []⟩⟩
theorem KLR17 (ks : ByteArray) (vs : ByteArray) (b : Int) : KLEV (codeAt [1, 0, 0] BKL) (KLS24 ks vs b) [0, 1, 2, 27] =
  bif (decide ((((ByteArray.size ks) : Nat) : Int) > 16)) then
    some (.normal, (KLS25 ks vs b))
  else
    some (.normal, (KLS26 ks vs b)) := by kernel_rfl
theorem KLR18 (ks : ByteArray) (vs : ByteArray) (b : Int) : KLEV (codeAt [1, 0, 1, 0, 0] BKL) (KLS25 ks vs b) [6] =
  some (.normal, KLS21) := by kernel_rfl
theorem KLR19 (ks : ByteArray) (vs : ByteArray) (b : Int) : KLEV (codeAt [1, 0, 1, 0, 0] BKL) (KLS26 ks vs b) [6] =
  some (.normal, KLS21) := by kernel_rfl
theorem KLz0 {L : List Int} {m : Nat} {X : List Int} {g : Int} (hL : L.length = m) (hX : X.length = m) (hm6 : m ≤ 6) (hm : 1 ≤ m)   {Q : Ex → St → Prop} (hq : Q .normal (KSt.low (KLS8 m L X g))) : Gets Try.prog (KH.low ⟨0, 1, []⟩) (codeAt [1, 1, 1, 1, 1, 1, 1, 1, 1, 1, 1, 0, 1, 0, 0] BKL) (KSt.low (KLS0 m L X g)) Q := by
  rw [KLC1_1_1_1_1_1_1_1_1_1_1_0_1_0_0]; refine Gets.seq ?_
  rw [KLC1_1_1_1_1_1_1_1_1_1_1_0_1_0_0_0]; refine Gets.seq ?_
  refine KLgo (KLR1 m L X g) ?_
  rw [KLC1_1_1_1_1_1_1_1_1_1_1_0_1_0_0_0_1]; refine Gets.cond true (by kernel_rfl) (KLeX (b := (decide (0 < ((m : Nat) : Int)))) (by kernel_rfl) ((show (decide (0 < ((m : Nat) : Int))) = true from decide_eq_true (by omega)))) ?_; show Gets _ _ (codeAt [1, 1, 1, 1, 1, 1, 1, 1, 1, 1, 1, 0, 1, 0, 0, 0, 1, 0] BKL) _ _
  refine KLgo (KLR2 m L X g) ?_
  rw [KLC1_1_1_1_1_1_1_1_1_1_1_0_1_0_0_1]; refine Gets.seq ?_
  rw [KLC1_1_1_1_1_1_1_1_1_1_1_0_1_0_0_1_0]; refine Gets.block ?_
  rw [KLC1_1_1_1_1_1_1_1_1_1_1_0_1_0_0_1_0_0]; refine Gets.seq ?_
  refine KLgo (x := .normal) (s' := (KLS4 m L X g)) ((KLR3 m L X g).trans (by rw [condF (decide_eq_false (by omega)), if_pos (⟨by omega, by omega⟩), obind_at (k := 0) (by omega) (by omega)] <;> rfl)) ?_
  rw [KLC1_1_1_1_1_1_1_1_1_1_1_0_1_0_0_1_0_0_1]; refine Gets.seq ?_
  rw [KLC1_1_1_1_1_1_1_1_1_1_1_0_1_0_0_1_0_0_1_0]; refine Gets.seq ?_
  refine KLgo (KLR4 m L X g) ?_
  rw [KLC1_1_1_1_1_1_1_1_1_1_1_0_1_0_0_1_0_0_1_0_1]; refine Gets.cond false (by kernel_rfl) (by kernel_rfl) ?_; show Gets _ _ (codeAt [1, 1, 1, 1, 1, 1, 1, 1, 1, 1, 1, 0, 1, 0, 0, 1, 0, 0, 1, 0, 1, 1] BKL) _ _
  refine KLgo (KLR5 m L X g) ?_
  refine KLgo (KLR6 m L X g) ?_
  refine KLgo (KLR7 m L X g) ?_
  exact hq
theorem KLz1 {L : List Int} {m : Nat} {X : List Int} {q : List Int} {k : Nat} {g : Int} (hL : L.length = m) (hX : X.length = m) (hm6 : m ≤ 6) (hq : q.length = k) (hk : 1 ≤ k) (hkm : k < m)   {Q : Ex → St → Prop} (hq : Q .normal (KSt.low (KLS20 m k L q X g))) : Gets Try.prog (KH.low ⟨0, 1, []⟩) (codeAt [1, 1, 1, 1, 1, 1, 1, 1, 1, 1, 1, 0, 1, 0, 0] BKL) (KSt.low (KLS9 m k L q X g)) Q := by
  rw [KLC1_1_1_1_1_1_1_1_1_1_1_0_1_0_0]; refine Gets.seq ?_
  rw [KLC1_1_1_1_1_1_1_1_1_1_1_0_1_0_0_0]; refine Gets.seq ?_
  refine KLgo (KLR8 m k L q X g) ?_
  rw [KLC1_1_1_1_1_1_1_1_1_1_1_0_1_0_0_0_1]; refine Gets.cond true (by kernel_rfl) (KLeX (b := (decide (((k : Nat) : Int) < ((m : Nat) : Int)))) (by kernel_rfl) ((show (decide (((k : Nat) : Int) < ((m : Nat) : Int))) = true from decide_eq_true (by omega)))) ?_; show Gets _ _ (codeAt [1, 1, 1, 1, 1, 1, 1, 1, 1, 1, 1, 0, 1, 0, 0, 0, 1, 0] BKL) _ _
  refine KLgo (KLR9 m k L q X g) ?_
  rw [KLC1_1_1_1_1_1_1_1_1_1_1_0_1_0_0_1]; refine Gets.seq ?_
  rw [KLC1_1_1_1_1_1_1_1_1_1_1_0_1_0_0_1_0]; refine Gets.block ?_
  rw [KLC1_1_1_1_1_1_1_1_1_1_1_0_1_0_0_1_0_0]; refine Gets.seq ?_
  refine KLgo (x := .normal) (s' := (KLS13 m k L q X g)) ((KLR10 m k L q X g).trans (by rw [condF (decide_eq_false (by omega)), condF (decide_eq_false (by omega)), if_pos (⟨by omega, by omega⟩), obind_at (k := 0 + ((Int.toNat ((k : Nat) : Int)) * 1)) (by omega) (by omega)] <;> rfl)) ?_
  rw [KLC1_1_1_1_1_1_1_1_1_1_1_0_1_0_0_1_0_0_1]; refine Gets.seq ?_
  rw [KLC1_1_1_1_1_1_1_1_1_1_1_0_1_0_0_1_0_0_1_0]; refine Gets.seq ?_
  refine KLgo (KLR11 m k L q X g) ?_
  rw [KLC1_1_1_1_1_1_1_1_1_1_1_0_1_0_0_1_0_0_1_0_1]; refine Gets.cond false (by kernel_rfl) (by kernel_rfl) ?_; show Gets _ _ (codeAt [1, 1, 1, 1, 1, 1, 1, 1, 1, 1, 1, 0, 1, 0, 0, 1, 0, 0, 1, 0, 1, 1] BKL) _ _
  refine KLgo (KLR12 m k L q X g) ?_
  refine KLgo (x := .normal) (s' := (KLS18 m k L q X g)) ((KLR13 m k L q X g).trans (by rw [condT (ble_t (by omega)), condF (ble_f (by omega)), condF (and_f1 (nbeq_f (by omega))), condT (and_t (ble_t (by (first | omega | ((try simp (disch := omega) only [wrap_i64_id]) <;> omega)))) (ble_t (by omega)))])) ?_
  refine KLgo (x := .normal) (s' := (KLS20 m k L q X g)) ((KLR14 m k L q X g).trans (by (show some (Ex.normal, (KLS19 m k L q X g)) = some (Ex.normal, (KLS20 m k L q X g)); unfold KLS19 KLS20; rw [(show (IntKind.wrap .i64 (((k : Nat) : Int) + 1)) = (((k : Nat) : Int) + 1) from wrap_i64_id (by omega) (by omega))]))) ?_
  exact hq
theorem KLzx {m : Nat} {k : Nat} {L : List Int} {q : List Int} {X : List Int} {g : Int} (hkm : m ≤ k)   {Q : Ex → St → Prop} (hq : Q (.exit 0) (KSt.low (KLS10 m k L q X g))) : Gets Try.prog (KH.low ⟨0, 1, []⟩) (codeAt [1, 1, 1, 1, 1, 1, 1, 1, 1, 1, 1, 0, 1, 0, 0] BKL) (KSt.low (KLS9 m k L q X g)) Q := by
  rw [KLC1_1_1_1_1_1_1_1_1_1_1_0_1_0_0]; refine Gets.seq ?_
  rw [KLC1_1_1_1_1_1_1_1_1_1_1_0_1_0_0_0]; refine Gets.seq ?_
  refine KLgo (KLR8 m k L q X g) ?_
  rw [KLC1_1_1_1_1_1_1_1_1_1_1_0_1_0_0_0_1]; refine Gets.cond false (by kernel_rfl) (KLeX (b := (decide (((k : Nat) : Int) < ((m : Nat) : Int)))) (by kernel_rfl) ((show (decide (((k : Nat) : Int) < ((m : Nat) : Int))) = false from decide_eq_false (by omega)))) ?_; show Gets _ _ (codeAt [1, 1, 1, 1, 1, 1, 1, 1, 1, 1, 1, 0, 1, 0, 0, 0, 1, 1] BKL) _ _
  rw [KLC1_1_1_1_1_1_1_1_1_1_1_0_1_0_0_0_1_1]; refine Gets.ev fitK.mix fitK.cfg (fitK.sound mml_sound 40 0) 40 rfl (s' := KSt.low (KLS10 m k L q X g)) (x := (.exit 0)) rfl ?_
  exact hq
theorem KLfi {L : List Int} {m : Nat} {X : List Int} {k : Nat} {q : List Int} {g : Int} (hL : L.length = m) (hX : X.length = m) (hm6 : m ≤ 6) (hk : k = m) (hq : q.length = m) (hqX : List.take k (List.drop 0 q) = List.take m (List.drop 0 X))   {Q : Ex → St → Prop} (hq : Q .ret (KSt.low KLS21)) : Gets Try.prog (KH.low ⟨0, 1, []⟩) (codeAt [1, 1, 1, 1, 1, 1, 1, 1, 1, 1, 1, 1] BKL) (KSt.low (KLS10 m k L q X g)) Q := by
  rw [KLC1_1_1_1_1_1_1_1_1_1_1_1]; refine Gets.seq ?_
  refine KLgo (x := .normal) (s' := KLS21) ((KLR15 m k L q X g).trans (by rw [condT (ble_t (by (first | omega | ((try simp (disch := omega) only [wrap_i64_id]) <;> omega)))), condT (ble_t (by (first | omega | ((try simp (disch := omega) only [wrap_i64_id]) <;> omega)))), condT (Nat.ble_eq_true_of_le (by simp <;> omega)), condT (decide_eq_true hqX), condT (beq_self_eq_true _), condT (beq_self_eq_true _)])) ?_
  rw [KLC1_1_1_1_1_1_1_1_1_1_1_1_1]; refine Gets.ev fitK.mix fitK.cfg (fitK.sound mml_sound 40 0) 40 rfl (s' := KSt.low KLS21) (x := .ret) rfl ?_
  exact hq
theorem KLgk {ks : ByteArray} {vs : ByteArray} {b : Int} (hk : 16 < ks.size)   {Q : Ex → St → Prop} (hq : Q .ret (KSt.low KLS21)) : Gets Try.prog (KH.low ⟨0, 1, []⟩) BKL (KSt.low (KLS23 ks vs b)) Q := by
  rw [KLC]; refine Gets.seq ?_
  refine KLgo (KLR16 ks vs b) ?_
  rw [KLC1]; refine Gets.seq ?_
  rw [KLC1_0]; refine Gets.seq ?_
  refine KLgo (x := .normal) (s' := (KLS25 ks vs b)) ((KLR17 ks vs b).trans (by rw [condT (decide_eq_true (by omega))])) ?_
  rw [KLC1_0_1]; refine Gets.cond true (by kernel_rfl) (by kernel_rfl) ?_; show Gets _ _ (codeAt [1, 0, 1, 0] BKL) _ _
  rw [KLC1_0_1_0]; refine Gets.seq ?_
  refine KLgo (KLR18 ks vs b) ?_
  rw [KLC1_0_1_0_1]; refine Gets.ev fitK.mix fitK.cfg (fitK.sound mml_sound 40 0) 40 rfl (s' := KSt.low KLS21) (x := .ret) rfl ?_
  exact hq
theorem KLgv {ks : ByteArray} {vs : ByteArray} {b : Int} (hk : ks.size ≤ 16) (hv : 24 < vs.size)   {Q : Ex → St → Prop} (hq : Q .ret (KSt.low KLS21)) : Gets Try.prog (KH.low ⟨0, 1, []⟩) BKL (KSt.low (KLS23 ks vs b)) Q := by
  rw [KLC]; refine Gets.seq ?_
  refine KLgo (KLR16 ks vs b) ?_
  rw [KLC1]; refine Gets.seq ?_
  rw [KLC1_0]; refine Gets.seq ?_
  refine KLgo (x := .normal) (s' := (KLS26 ks vs b)) ((KLR17 ks vs b).trans (by rw [condF (decide_eq_false (by omega))])) ?_
  rw [KLC1_0_1]; refine Gets.cond true (by kernel_rfl) (KLeX (b := (decide ((((ByteArray.size vs) : Nat) : Int) > 24))) (by kernel_rfl) ((show (decide ((((ByteArray.size vs) : Nat) : Int) > 24)) = true from decide_eq_true (by omega)))) ?_; show Gets _ _ (codeAt [1, 0, 1, 0] BKL) _ _
  rw [KLC1_0_1_0]; refine Gets.seq ?_
  refine KLgo (KLR19 ks vs b) ?_
  rw [KLC1_0_1_0_1]; refine Gets.ev fitK.mix fitK.cfg (fitK.sound mml_sound 40 0) 40 rfl (s' := KSt.low KLS21) (x := .ret) rfl ?_
  exact hq
noncomputable def BK1 : Code := bodyOf Try.prog 9
theorem BK1_is : Try.f9.body = some BK1 := by kernel_rfl
theorem BK1_ok : okCode Try.prog.globals.size BK1 = true := by kernel_rfl
noncomputable abbrev K1EV (boxW : ByteArray → ByteArray → List Int) (wd : ByteArray → ByteArray → Nat → Int) (c : Code) (s : KSt) (lv : List Nat) : Option (Ex × KSt) := evCK Try.prog cfgK (runK Try.prog cfgK fsK (conTk mm1Dom (rcK [] (mm1T boxW wd))) 70 40) 70 c s (normC 0 lv)
theorem K1go {lv_ : List Nat} {co_ : Code} {st_ s' : KSt} {x : Ex} {Q : Ex → St → Prop} (hE_ : K1EV boxW wd co_ st_ lv_ = some (x, s')) (hq_ : Q x s'.low) (hok_ : okCode Try.prog.globals.size co_ = true := by kernel_rfl) : Gets Try.prog (KH.low ⟨0, 1, []⟩) co_ st_.low Q := Gets.ofN fitK mm1_sound (rc_agree _ _ _) 70 40 hok_ hE_ hq_
theorem K1eX {v : Value} {b c : Bool} (h : v = .bool b) (hb : b = c) : v = .bool c := by rw [h, hb]
theorem K1C : BK1 = .seq (codeAt [0] BK1) (codeAt [1] BK1) := by kernel_rfl
theorem K1C1 : (codeAt [1] BK1) = .seq (codeAt [1, 0] BK1) (codeAt [1, 1] BK1) := by kernel_rfl
theorem K1C1_0 : (codeAt [1, 0] BK1) = .seq (codeAt [1, 0, 0] BK1) (codeAt [1, 0, 1] BK1) := by kernel_rfl
theorem K1C1_0_1 : (codeAt [1, 0, 1] BK1) = .cond (.tmp 27) (codeAt [1, 0, 1, 0] BK1) (codeAt [1, 0, 1, 1] BK1) := by kernel_rfl
theorem K1C1_1 : (codeAt [1, 1] BK1) = .seq (codeAt [1, 1, 0] BK1) (codeAt [1, 1, 1] BK1) := by kernel_rfl
theorem K1C1_1_1 : (codeAt [1, 1, 1] BK1) = .seq (codeAt [1, 1, 1, 0] BK1) (codeAt [1, 1, 1, 1] BK1) := by kernel_rfl
theorem K1C1_1_1_1 : (codeAt [1, 1, 1, 1] BK1) = .seq (codeAt [1, 1, 1, 1, 0] BK1) (codeAt [1, 1, 1, 1, 1] BK1) := by kernel_rfl
theorem K1C1_1_1_1_1 : (codeAt [1, 1, 1, 1, 1] BK1) = .seq (codeAt [1, 1, 1, 1, 1, 0] BK1) (codeAt [1, 1, 1, 1, 1, 1] BK1) := by kernel_rfl
theorem K1C1_1_1_1_1_1 : (codeAt [1, 1, 1, 1, 1, 1] BK1) = .seq (codeAt [1, 1, 1, 1, 1, 1, 0] BK1) (codeAt [1, 1, 1, 1, 1, 1, 1] BK1) := by kernel_rfl
theorem K1C1_1_1_1_1_1_1 : (codeAt [1, 1, 1, 1, 1, 1, 1] BK1) = .seq (codeAt [1, 1, 1, 1, 1, 1, 1, 0] BK1) (codeAt [1, 1, 1, 1, 1, 1, 1, 1] BK1) := by kernel_rfl
theorem K1C1_1_1_1_1_1_1_1 : (codeAt [1, 1, 1, 1, 1, 1, 1, 1] BK1) = .seq (codeAt [1, 1, 1, 1, 1, 1, 1, 1, 0] BK1) (codeAt [1, 1, 1, 1, 1, 1, 1, 1, 1] BK1) := by kernel_rfl
theorem K1C1_1_1_1_1_1_1_1_0 : (codeAt [1, 1, 1, 1, 1, 1, 1, 1, 0] BK1) = .seq (codeAt [1, 1, 1, 1, 1, 1, 1, 1, 0, 0] BK1) (codeAt [1, 1, 1, 1, 1, 1, 1, 1, 0, 1] BK1) := by kernel_rfl
theorem K1C1_1_1_1_1_1_1_1_0_1 : (codeAt [1, 1, 1, 1, 1, 1, 1, 1, 0, 1] BK1) = .cond (.tmp 70) (codeAt [1, 1, 1, 1, 1, 1, 1, 1, 0, 1, 0] BK1) (codeAt [1, 1, 1, 1, 1, 1, 1, 1, 0, 1, 1] BK1) := by kernel_rfl
theorem K1C1_1_1_1_1_1_1_1_1 : (codeAt [1, 1, 1, 1, 1, 1, 1, 1, 1] BK1) = .seq (codeAt [1, 1, 1, 1, 1, 1, 1, 1, 1, 0] BK1) (codeAt [1, 1, 1, 1, 1, 1, 1, 1, 1, 1] BK1) := by kernel_rfl
theorem K1C1_1_1_1_1_1_1_1_1_0 : (codeAt [1, 1, 1, 1, 1, 1, 1, 1, 1, 0] BK1) = .seq (codeAt [1, 1, 1, 1, 1, 1, 1, 1, 1, 0, 0] BK1) (codeAt [1, 1, 1, 1, 1, 1, 1, 1, 1, 0, 1] BK1) := by kernel_rfl
theorem K1C1_1_1_1_1_1_1_1_1_0_1 : (codeAt [1, 1, 1, 1, 1, 1, 1, 1, 1, 0, 1] BK1) = .cond (.tmp 72) (codeAt [1, 1, 1, 1, 1, 1, 1, 1, 1, 0, 1, 0] BK1) (codeAt [1, 1, 1, 1, 1, 1, 1, 1, 1, 0, 1, 1] BK1) := by kernel_rfl
theorem K1C1_1_1_1_1_1_1_1_1_1 : (codeAt [1, 1, 1, 1, 1, 1, 1, 1, 1, 1] BK1) = .seq (codeAt [1, 1, 1, 1, 1, 1, 1, 1, 1, 1, 0] BK1) (codeAt [1, 1, 1, 1, 1, 1, 1, 1, 1, 1, 1] BK1) := by kernel_rfl
theorem K1C1_1_1_1_1_1_1_1_1_1_1 : (codeAt [1, 1, 1, 1, 1, 1, 1, 1, 1, 1, 1] BK1) = .seq (codeAt [1, 1, 1, 1, 1, 1, 1, 1, 1, 1, 1, 0] BK1) (codeAt [1, 1, 1, 1, 1, 1, 1, 1, 1, 1, 1, 1] BK1) := by kernel_rfl
theorem K1C1_1_1_1_1_1_1_1_1_1_1_0 : (codeAt [1, 1, 1, 1, 1, 1, 1, 1, 1, 1, 1, 0] BK1) = .seq (codeAt [1, 1, 1, 1, 1, 1, 1, 1, 1, 1, 1, 0, 0] BK1) (codeAt [1, 1, 1, 1, 1, 1, 1, 1, 1, 1, 1, 0, 1] BK1) := by kernel_rfl
section
variable (boxW : ByteArray → ByteArray → List Int) (wd : ByteArray → ByteArray → Nat → Int)
noncomputable def K1S0 (ks : ByteArray) (vs : ByteArray) (b : Int) : KSt := (firstK [(.string ks), (.string vs), (.int .u8 b)] 130 ⟨0, 1, []⟩)
noncomputable def K1S1 (ks : ByteArray) (vs : ByteArray) (b : Int) : KSt := ⟨(frameL 130 [(0, (.string ks)), (1, (.string vs)), (2, (.int .u8 b))]), ⟨0, 1, []⟩⟩
theorem K1R1 (ks : ByteArray) (vs : ByteArray) (b : Int) : K1EV boxW wd (codeAt [0] BK1) (K1S0 ks vs b) [0, 1, 2] =
  some (.normal, (K1S1 ks vs b)) := by kernel_rfl
noncomputable def K1S2 (ks : ByteArray) (vs : ByteArray) (b : Int) : KSt := ⟨(frameL 130 [(0, (.string ks)), (1, (.string vs)), (2, (.int .u8 b)), (27, (.bool true))]), ⟨0, 1, []⟩⟩
noncomputable def K1S3 (ks : ByteArray) (vs : ByteArray) (b : Int) : KSt := ⟨(frameL 130 [(0, (.string ks)), (1, (.string vs)), (2, (.int .u8 b)), (27, (.bool (decide ((((ByteArray.size vs) : Nat) : Int) > 24))))]), ⟨0, 1, []⟩⟩
theorem K1R2 (ks : ByteArray) (vs : ByteArray) (b : Int) : K1EV boxW wd (codeAt [1, 0, 0] BK1) (K1S1 ks vs b) [0, 1, 2, 27] =
  bif (decide ((((ByteArray.size ks) : Nat) : Int) > 16)) then
    some (.normal, (K1S2 ks vs b))
  else
    some (.normal, (K1S3 ks vs b)) := by kernel_rfl
theorem K1R3 (ks : ByteArray) (vs : ByteArray) (b : Int) : K1EV boxW wd (codeAt [1, 0, 1, 1] BK1) (K1S3 ks vs b) [0, 1, 2] =
  some (.normal, (K1S1 ks vs b)) := by kernel_rfl
noncomputable def K1S4 (ks : ByteArray) (vs : ByteArray) (b : Int) : KSt := ⟨(frameL 130 [(0, (.string ks)), (1, (.string vs)), (7, (.int .i64 (IntKind.wrap .i64 ((Int.tmod (IntKind.wrap .i64 b) 12) + 1))))]), ⟨0, 1, []⟩⟩
theorem K1R4 (ks : ByteArray) (vs : ByteArray) (b : Int) : K1EV boxW wd (codeAt [1, 1, 0] BK1) (K1S1 ks vs b) [0, 1, 7] =
  some (.normal, (K1S4 ks vs b)) := by kernel_rfl
noncomputable def K1S5 (ks : ByteArray) (vs : ByteArray) (b : Int) : KSt := ⟨(frameL 130 [(0, (.string ks)), (1, (.string vs)), (7, (.int .i64 ((b % 12) + 1)))]), ⟨0, 1, []⟩⟩
noncomputable def K1S6 (ks : ByteArray) (vs : ByteArray) (b : Int) : KSt := ⟨(frameL 130 [(0, (.string ks)), (1, (.string vs)), (7, (.int .i64 ((b % 12) + 1))), (8, (.pointer none))]), ⟨0, 1, []⟩⟩
noncomputable def K1S7 (ks : ByteArray) (vs : ByteArray) (b : Int) : KSt := ⟨(frameL 130 [(0, (.string ks)), (1, (.string vs)), (7, (.int .i64 ((b % 12) + 1))), (8, (.pointer (some ⟨0, 0, none⟩)))]), ⟨2, 1, [(1, 0, .map [] 0), (0, 0, .cells [(.int .i64 ((b % 12) + 1)), (.int .i64 0), (.int .i64 0), (.int .u64 0), (.map (some 1))] 94 true)]⟩⟩
theorem K1R5 (ks : ByteArray) (vs : ByteArray) (b : Int) : K1EV boxW wd (codeAt [1, 1, 1, 0] BK1) (K1S5 ks vs b) [0, 1, 7, 8] =
  bif (decide (((b % 12) + 1) < 1)) then
    some (.normal, (K1S6 ks vs b))
  else
    bif (decide (((b % 12) + 1) > 65536)) then
      some (.normal, (K1S6 ks vs b))
    else
      some (.normal, (K1S7 ks vs b)) := by kernel_rfl
noncomputable def K1S8 (ks : ByteArray) (vs : ByteArray) (b : Int) : KSt := ⟨(frameL 130 [(0, (.string ks)), (1, (.string vs)), (7, (.int .i64 ((b % 12) + 1))), (8, (.pointer (some ⟨0, 0, none⟩))), (9, (.pointer (some ⟨1, 0, none⟩)))]), ⟨4, 1, [(3, 0, .cells [(.int .u64 (wd ks vs 0))] 30 true), (2, 0, .map [] 0), (1, 0, .cells [(.bool true), (.slice (some ⟨3, 0, none⟩) 1 1), (.int .u64 0), (.int .i64 (-1)), (.int .i64 5), (.int .u64 0), (.int .i64 1), (.int .u64 0), (.int .u64 0)] 88 true), (0, 0, .cells [(.int .i64 ((b % 12) + 1)), (.int .i64 0), (.int .i64 0), (.int .u64 0), (.map (some 2))] 94 true)]⟩⟩
theorem K1R6 (ks : ByteArray) (vs : ByteArray) (b : Int) : K1EV boxW wd (codeAt [1, 1, 1, 1, 0] BK1) (K1S7 ks vs b) [0, 1, 7, 8, 9] =
  bif ((Nat.ble (ByteArray.size ks) 16) && ((Nat.ble (ByteArray.size vs) 24) && (Nat.beq (List.length (boxW ks vs)) 1))) then
    some (.normal, (K1S8 wd ks vs b))
  else
    none := by kernel_rfl
noncomputable def K1S9 (ks : ByteArray) (vs : ByteArray) (b : Int) : KSt := ⟨(frameL 130 [(0, (.string ks)), (1, (.string vs)), (7, (.int .i64 ((b % 12) + 1))), (8, (.pointer (some ⟨0, 0, none⟩))), (9, (.pointer (some ⟨1, 0, none⟩))), (11, (.bool true))]), ⟨4, 1, [(3, 0, .cells [(.int .u64 (wd ks vs 0))] 30 true), (2, 0, .map [] 0), (1, 0, .cells [(.bool true), (.slice (some ⟨3, 0, none⟩) 1 1), (.int .u64 0), (.int .i64 (-1)), (.int .i64 0), (.int .u64 0), (.int .i64 0), (.int .u64 0), (.int .u64 0)] 88 true), (0, 0, .cells [(.int .i64 ((b % 12) + 1)), (.int .i64 0), (.int .i64 0), (.int .u64 0), (.map (some 2))] 94 true)]⟩⟩
noncomputable def K1S10 (ks : ByteArray) (vs : ByteArray) (b : Int) : KSt := ⟨(frameL 130 [(0, (.string ks)), (1, (.string vs)), (7, (.int .i64 ((b % 12) + 1))), (8, (.pointer (some ⟨0, 0, none⟩))), (9, (.pointer (some ⟨1, 0, none⟩))), (11, (.bool true))]), ⟨5, 1, [(4, 0, .ints .u64 (List.set (List.replicate 1 (0 : Int)) 0 (wd ks vs 0)) 30 true), (3, 0, .cells [(.int .u64 (wd ks vs 0))] 30 true), (2, 0, .map [((.int .u64 1), (.slice (some ⟨4, 0, none⟩) 1 1), 0)] 1), (1, 0, .cells [(.bool true), (.slice (some ⟨3, 0, none⟩) 1 1), (.int .u64 1), (.int .i64 1), (.int .i64 0), (.int .u64 0), (.int .i64 0), (.int .u64 0), (.int .u64 0)] 88 true), (0, 0, .cells [(.int .i64 ((b % 12) + 1)), (.int .i64 1), (.int .i64 0), (.int .u64 1), (.map (some 2))] 94 true)]⟩⟩
theorem K1R7 (ks : ByteArray) (vs : ByteArray) (b : Int) : K1EV boxW wd (codeAt [1, 1, 1, 1, 1, 0] BK1) (K1S8 wd ks vs b) [0, 1, 7, 8, 9, 11] =
  bif (decide (1 > (IntKind.wrap .i64 (((b % 12) + 1) - 0)))) then
    some (.normal, (K1S9 wd ks vs b))
  else
    bif (Nat.ble 1 (List.length (List.replicate 1 (0 : Int)))) then
      some (.normal, (K1S10 wd ks vs b))
    else
      none := by kernel_rfl
noncomputable def K1S11 (ks : ByteArray) (vs : ByteArray) (b : Int) : KSt := ⟨(frameL 130 [(0, (.string ks)), (1, (.string vs)), (7, (.int .i64 ((b % 12) + 1))), (8, (.pointer (some ⟨0, 0, none⟩))), (11, (.bool true)), (12, (.int .u64 1)), (13, (.bool true))]), ⟨3, 1, [(2, 0, .ints .u64 (List.set (List.replicate 1 (0 : Int)) 0 (wd ks vs 0)) 30 true), (1, 0, .map [((.int .u64 1), (.slice (some ⟨2, 0, none⟩) 1 1), 0)] 1), (0, 0, .cells [(.int .i64 ((b % 12) + 1)), (.int .i64 1), (.int .i64 0), (.int .u64 1), (.map (some 1))] 94 true)]⟩⟩
theorem K1R8 (ks : ByteArray) (vs : ByteArray) (b : Int) : K1EV boxW wd (codeAt [1, 1, 1, 1, 1, 1, 0] BK1) (K1S10 wd ks vs b) [0, 1, 7, 8, 11, 12, 13] =
  some (.normal, (K1S11 wd ks vs b)) := by kernel_rfl
noncomputable def K1S12 (b : Int) (ks : ByteArray) (vs : ByteArray) : KSt := ⟨(frameL 130 [(7, (.int .i64 ((b % 12) + 1))), (8, (.pointer (some ⟨0, 0, none⟩))), (11, (.bool true)), (12, (.int .u64 1)), (13, (.bool true)), (14, (.slice (some ⟨1, 0, none⟩) 1 1))]), ⟨4, 1, [(3, 0, .ints .u64 (List.set (List.replicate 1 (0 : Int)) 0 (wd ks vs 0)) 30 true), (2, 0, .map [((.int .u64 1), (.slice (some ⟨3, 0, none⟩) 1 1), 0)] 1), (1, 0, .cells [(.int .u64 (wd ks vs 0))] 30 true), (0, 0, .cells [(.int .i64 ((b % 12) + 1)), (.int .i64 1), (.int .i64 0), (.int .u64 1), (.map (some 2))] 94 true)]⟩⟩
theorem K1R9 (ks : ByteArray) (vs : ByteArray) (b : Int) : K1EV boxW wd (codeAt [1, 1, 1, 1, 1, 1, 1, 0] BK1) (K1S11 wd ks vs b) [7, 8, 11, 12, 13, 14] =
  bif ((Nat.ble (ByteArray.size ks) 16) && ((Nat.ble (ByteArray.size vs) 24) && (Nat.beq (List.length (boxW ks vs)) 1))) then
    some (.normal, (K1S12 wd b ks vs))
  else
    none := by kernel_rfl
noncomputable def K1S13 (b : Int) (ks : ByteArray) (vs : ByteArray) : KSt := ⟨(frameL 130 [(8, (.pointer (some ⟨0, 0, none⟩))), (12, (.int .u64 1)), (14, (.slice (some ⟨1, 0, none⟩) 1 1)), (70, (.bool (!(false == (decide (1 > ((b % 12) + 1)))))))]), ⟨4, 1, [(3, 0, .ints .u64 (List.set (List.replicate 1 (0 : Int)) 0 (wd ks vs 0)) 30 true), (2, 0, .map [((.int .u64 1), (.slice (some ⟨3, 0, none⟩) 1 1), 0)] 1), (1, 0, .cells [(.int .u64 (wd ks vs 0))] 30 true), (0, 0, .cells [(.int .i64 ((b % 12) + 1)), (.int .i64 1), (.int .i64 0), (.int .u64 1), (.map (some 2))] 94 true)]⟩⟩
theorem K1R10 (b : Int) (ks : ByteArray) (vs : ByteArray) : K1EV boxW wd (codeAt [1, 1, 1, 1, 1, 1, 1, 1, 0, 0] BK1) (K1S12 wd b ks vs) [8, 12, 14, 70] =
  some (.normal, (K1S13 wd b ks vs)) := by kernel_rfl
noncomputable def K1S14 (ks : ByteArray) (vs : ByteArray) (b : Int) : KSt := ⟨(frameL 130 [(8, (.pointer (some ⟨0, 0, none⟩))), (12, (.int .u64 1)), (14, (.slice (some ⟨1, 0, none⟩) 1 1))]), ⟨4, 1, [(3, 0, .ints .u64 (List.set (List.replicate 1 (0 : Int)) 0 (wd ks vs 0)) 30 true), (2, 0, .map [((.int .u64 1), (.slice (some ⟨3, 0, none⟩) 1 1), 0)] 1), (1, 0, .cells [(.int .u64 (wd ks vs 0))] 30 true), (0, 0, .cells [(.int .i64 ((b % 12) + 1)), (.int .i64 1), (.int .i64 0), (.int .u64 1), (.map (some 2))] 94 true)]⟩⟩
theorem K1R11 (b : Int) (ks : ByteArray) (vs : ByteArray) : K1EV boxW wd (codeAt [1, 1, 1, 1, 1, 1, 1, 1, 0, 1, 1] BK1) (K1S13 wd b ks vs) [8, 12, 14] =
  some (.normal, (K1S14 wd ks vs b)) := by kernel_rfl
noncomputable def K1S15 (ks : ByteArray) (vs : ByteArray) (b : Int) : KSt := ⟨(frameL 130 [(8, (.pointer (some ⟨0, 0, none⟩))), (12, (.int .u64 1)), (14, (.slice (some ⟨1, 0, none⟩) 1 1)), (72, (.bool false))]), ⟨4, 1, [(3, 0, .ints .u64 (List.set (List.replicate 1 (0 : Int)) 0 (wd ks vs 0)) 30 true), (2, 0, .map [((.int .u64 1), (.slice (some ⟨3, 0, none⟩) 1 1), 0)] 1), (1, 0, .cells [(.int .u64 (wd ks vs 0))] 30 true), (0, 0, .cells [(.int .i64 ((b % 12) + 1)), (.int .i64 1), (.int .i64 0), (.int .u64 1), (.map (some 2))] 94 true)]⟩⟩
theorem K1R12 (ks : ByteArray) (vs : ByteArray) (b : Int) : K1EV boxW wd (codeAt [1, 1, 1, 1, 1, 1, 1, 1, 1, 0, 0] BK1) (K1S14 wd ks vs b) [8, 12, 14, 72] =
  some (.normal, (K1S15 wd ks vs b)) := by kernel_rfl
theorem K1R13 (ks : ByteArray) (vs : ByteArray) (b : Int) : K1EV boxW wd (codeAt [1, 1, 1, 1, 1, 1, 1, 1, 1, 0, 1, 1] BK1) (K1S15 wd ks vs b) [8, 12, 14] =
  some (.normal, (K1S14 wd ks vs b)) := by kernel_rfl
noncomputable def K1S16 (ks : ByteArray) (vs : ByteArray) (b : Int) : KSt := ⟨(frameL 130 [(8, (.pointer (some ⟨0, 0, none⟩))), (12, (.int .u64 1)), (14, (.slice (some ⟨1, 0, none⟩) 1 1)), (16, (.slice (some ⟨2, 0, none⟩) 0 0))]), ⟨5, 1, [(4, 0, .ints .u64 (List.set (List.replicate 1 (0 : Int)) 0 (wd ks vs 0)) 30 true), (3, 0, .map [((.int .u64 1), (.slice (some ⟨4, 0, none⟩) 1 1), 0)] 1), (2, 0, .cells [] 30 true), (1, 0, .cells [(.int .u64 (wd ks vs 0))] 30 true), (0, 0, .cells [(.int .i64 ((b % 12) + 1)), (.int .i64 1), (.int .i64 0), (.int .u64 1), (.map (some 3))] 94 true)]⟩⟩
theorem K1R14 (ks : ByteArray) (vs : ByteArray) (b : Int) : K1EV boxW wd (codeAt [1, 1, 1, 1, 1, 1, 1, 1, 1, 1, 0] BK1) (K1S14 wd ks vs b) [8, 12, 14, 16] =
  some (.normal, (K1S16 wd ks vs b)) := by kernel_rfl
noncomputable def K1S17 (ks : ByteArray) (vs : ByteArray) (b : Int) : KSt := ⟨(frameL 130 [(8, (.pointer (some ⟨0, 0, none⟩))), (12, (.int .u64 1)), (14, (.slice (some ⟨1, 0, none⟩) 1 1)), (16, (.slice (some ⟨2, 0, none⟩) 0 0)), (17, (.int .i64 0))]), ⟨5, 1, [(4, 0, .ints .u64 (List.set (List.replicate 1 (0 : Int)) 0 (wd ks vs 0)) 30 true), (3, 0, .map [((.int .u64 1), (.slice (some ⟨4, 0, none⟩) 1 1), 0)] 1), (2, 0, .cells [] 30 true), (1, 0, .cells [(.int .u64 (wd ks vs 0))] 30 true), (0, 0, .cells [(.int .i64 ((b % 12) + 1)), (.int .i64 1), (.int .i64 0), (.int .u64 1), (.map (some 3))] 94 true)]⟩⟩
theorem K1R15 (ks : ByteArray) (vs : ByteArray) (b : Int) : K1EV boxW wd (codeAt [1, 1, 1, 1, 1, 1, 1, 1, 1, 1, 1, 0, 0] BK1) (K1S16 wd ks vs b) [8, 12, 14, 16, 17] =
  some (.normal, (K1S17 wd ks vs b)) := by kernel_rfl
end
theorem K1in {b : Int} {ks : ByteArray} {vs : ByteArray} (hb : 0 ≤ b) (hb2 : b < 256) (h16 : ks.size ≤ 16) (h24 : vs.size ≤ 24) (hM : Nat.beq (boxW ks vs).length 1 = true) (hr : 1 ≤ b % 12 + 1)   {Q : Ex → St → Prop} (hq : Gets Try.prog (KH.low ⟨0, 1, []⟩) (codeAt [1, 1, 1, 1, 1, 1, 1, 1, 1, 1, 1, 0, 1] BK1) (KSt.low (K1S17 wd ks vs b)) (onN (fun s => Gets Try.prog (KH.low ⟨0, 1, []⟩) (codeAt [1, 1, 1, 1, 1, 1, 1, 1, 1, 1, 1, 1] BK1) s (Q)) (Q))) : Gets Try.prog (KH.low ⟨0, 1, []⟩) BK1 (KSt.low (K1S0 ks vs b)) Q := by
  rw [K1C]; refine Gets.seq ?_
  refine K1go (K1R1 boxW wd ks vs b) ?_
  rw [K1C1]; refine Gets.seq ?_
  rw [K1C1_0]; refine Gets.seq ?_
  refine K1go (x := .normal) (s' := (K1S3 ks vs b)) ((K1R2 boxW wd ks vs b).trans (by rw [condF (decide_eq_false (by omega))])) ?_
  rw [K1C1_0_1]; refine Gets.cond false (by kernel_rfl) (K1eX (b := (decide ((((ByteArray.size vs) : Nat) : Int) > 24))) (by kernel_rfl) ((show (decide ((((ByteArray.size vs) : Nat) : Int) > 24)) = false from decide_eq_false (by omega)))) ?_; show Gets _ _ (codeAt [1, 0, 1, 1] BK1) _ _
  refine K1go (K1R3 boxW wd ks vs b) ?_
  rw [K1C1_1]; refine Gets.seq ?_
  refine K1go (x := .normal) (s' := (K1S5 ks vs b)) ((K1R4 boxW wd ks vs b).trans (by (show some (Ex.normal, (K1S4 ks vs b)) = some (Ex.normal, (K1S5 ks vs b)); unfold K1S4 K1S5; rw [(show (IntKind.wrap .i64 ((Int.tmod (IntKind.wrap .i64 b) 12) + 1)) = ((b % 12) + 1) from by rw [wrap_i64_id (n := b) (by omega) (by omega), Int.tmod_eq_emod_of_nonneg hb, wrap_i64_id (by omega) (by omega)])]))) ?_
  rw [K1C1_1_1]; refine Gets.seq ?_
  refine K1go (x := .normal) (s' := (K1S7 ks vs b)) ((K1R5 boxW wd ks vs b).trans (by rw [condF (decide_eq_false (by omega)), condF (decide_eq_false (by omega))])) ?_
  rw [K1C1_1_1_1]; refine Gets.seq ?_
  refine K1go (x := .normal) (s' := (K1S8 wd ks vs b)) ((K1R6 boxW wd ks vs b).trans (by rw [condT (and_t (Nat.ble_eq_true_of_le h16) (and_t (Nat.ble_eq_true_of_le h24) (hM)))])) ?_
  rw [K1C1_1_1_1_1]; refine Gets.seq ?_
  refine K1go (x := .normal) (s' := (K1S10 wd ks vs b)) ((K1R7 boxW wd ks vs b).trans (by rw [condF (decide_eq_false (by (first | omega | ((try simp (disch := omega) only [wrap_i64_id]) <;> omega)))), condT (show (Nat.ble 1 (List.length (List.replicate 1 (0 : Int)))) = true from rfl)])) ?_
  rw [K1C1_1_1_1_1_1]; refine Gets.seq ?_
  refine K1go (K1R8 boxW wd ks vs b) ?_
  rw [K1C1_1_1_1_1_1_1]; refine Gets.seq ?_
  refine K1go (x := .normal) (s' := (K1S12 wd b ks vs)) ((K1R9 boxW wd ks vs b).trans (by rw [condT (and_t (Nat.ble_eq_true_of_le h16) (and_t (Nat.ble_eq_true_of_le h24) (hM)))])) ?_
  rw [K1C1_1_1_1_1_1_1_1]; refine Gets.seq ?_
  rw [K1C1_1_1_1_1_1_1_1_0]; refine Gets.seq ?_
  refine K1go (K1R10 boxW wd b ks vs) ?_
  rw [K1C1_1_1_1_1_1_1_1_0_1]; refine Gets.cond false (by kernel_rfl) (K1eX (b := (!(false == (decide (1 > ((b % 12) + 1)))))) (by kernel_rfl) ((show (!(false == (decide (1 > ((b % 12) + 1))))) = false from not_f (fd_ (by omega))))) ?_; show Gets _ _ (codeAt [1, 1, 1, 1, 1, 1, 1, 1, 0, 1, 1] BK1) _ _
  refine K1go (K1R11 boxW wd b ks vs) ?_
  rw [K1C1_1_1_1_1_1_1_1_1]; refine Gets.seq ?_
  rw [K1C1_1_1_1_1_1_1_1_1_0]; refine Gets.seq ?_
  refine K1go (K1R12 boxW wd ks vs b) ?_
  rw [K1C1_1_1_1_1_1_1_1_1_0_1]; refine Gets.cond false (by kernel_rfl) (by kernel_rfl) ?_; show Gets _ _ (codeAt [1, 1, 1, 1, 1, 1, 1, 1, 1, 0, 1, 1] BK1) _ _
  refine K1go (K1R13 boxW wd ks vs b) ?_
  rw [K1C1_1_1_1_1_1_1_1_1_1]; refine Gets.seq ?_
  refine K1go (K1R14 boxW wd ks vs b) ?_
  rw [K1C1_1_1_1_1_1_1_1_1_1_1]; refine Gets.seq ?_
  rw [K1C1_1_1_1_1_1_1_1_1_1_1_0]; refine Gets.seq ?_
  refine K1go (K1R15 boxW wd ks vs b) ?_
  exact hq
noncomputable def BK2 : Code := bodyOf Try.prog 9
theorem BK2_is : Try.f9.body = some BK2 := by kernel_rfl
theorem BK2_ok : okCode Try.prog.globals.size BK2 = true := by kernel_rfl
noncomputable abbrev K2EV (boxW : ByteArray → ByteArray → List Int) (wd : ByteArray → ByteArray → Nat → Int) (c : Code) (s : KSt) (lv : List Nat) : Option (Ex × KSt) := evCK Try.prog cfgK (runK Try.prog cfgK fsK (conTk mm2Dom (rcK [] (mm2T boxW wd))) 70 40) 70 c s (normC 0 lv)
theorem K2go {lv_ : List Nat} {co_ : Code} {st_ s' : KSt} {x : Ex} {Q : Ex → St → Prop} (hE_ : K2EV boxW wd co_ st_ lv_ = some (x, s')) (hq_ : Q x s'.low) (hok_ : okCode Try.prog.globals.size co_ = true := by kernel_rfl) : Gets Try.prog (KH.low ⟨0, 1, []⟩) co_ st_.low Q := Gets.ofN fitK mm2_sound (rc_agree _ _ _) 70 40 hok_ hE_ hq_
theorem K2eX {v : Value} {b c : Bool} (h : v = .bool b) (hb : b = c) : v = .bool c := by rw [h, hb]
theorem K2C : BK2 = .seq (codeAt [0] BK2) (codeAt [1] BK2) := by kernel_rfl
theorem K2C1 : (codeAt [1] BK2) = .seq (codeAt [1, 0] BK2) (codeAt [1, 1] BK2) := by kernel_rfl
theorem K2C1_0 : (codeAt [1, 0] BK2) = .seq (codeAt [1, 0, 0] BK2) (codeAt [1, 0, 1] BK2) := by kernel_rfl
theorem K2C1_0_1 : (codeAt [1, 0, 1] BK2) = .cond (.tmp 27) (codeAt [1, 0, 1, 0] BK2) (codeAt [1, 0, 1, 1] BK2) := by kernel_rfl
theorem K2C1_1 : (codeAt [1, 1] BK2) = .seq (codeAt [1, 1, 0] BK2) (codeAt [1, 1, 1] BK2) := by kernel_rfl
theorem K2C1_1_1 : (codeAt [1, 1, 1] BK2) = .seq (codeAt [1, 1, 1, 0] BK2) (codeAt [1, 1, 1, 1] BK2) := by kernel_rfl
theorem K2C1_1_1_1 : (codeAt [1, 1, 1, 1] BK2) = .seq (codeAt [1, 1, 1, 1, 0] BK2) (codeAt [1, 1, 1, 1, 1] BK2) := by kernel_rfl
theorem K2C1_1_1_1_1 : (codeAt [1, 1, 1, 1, 1] BK2) = .seq (codeAt [1, 1, 1, 1, 1, 0] BK2) (codeAt [1, 1, 1, 1, 1, 1] BK2) := by kernel_rfl
theorem K2C1_1_1_1_1_1 : (codeAt [1, 1, 1, 1, 1, 1] BK2) = .seq (codeAt [1, 1, 1, 1, 1, 1, 0] BK2) (codeAt [1, 1, 1, 1, 1, 1, 1] BK2) := by kernel_rfl
theorem K2C1_1_1_1_1_1_1 : (codeAt [1, 1, 1, 1, 1, 1, 1] BK2) = .seq (codeAt [1, 1, 1, 1, 1, 1, 1, 0] BK2) (codeAt [1, 1, 1, 1, 1, 1, 1, 1] BK2) := by kernel_rfl
theorem K2C1_1_1_1_1_1_1_1 : (codeAt [1, 1, 1, 1, 1, 1, 1, 1] BK2) = .seq (codeAt [1, 1, 1, 1, 1, 1, 1, 1, 0] BK2) (codeAt [1, 1, 1, 1, 1, 1, 1, 1, 1] BK2) := by kernel_rfl
theorem K2C1_1_1_1_1_1_1_1_0 : (codeAt [1, 1, 1, 1, 1, 1, 1, 1, 0] BK2) = .seq (codeAt [1, 1, 1, 1, 1, 1, 1, 1, 0, 0] BK2) (codeAt [1, 1, 1, 1, 1, 1, 1, 1, 0, 1] BK2) := by kernel_rfl
theorem K2C1_1_1_1_1_1_1_1_0_1 : (codeAt [1, 1, 1, 1, 1, 1, 1, 1, 0, 1] BK2) = .cond (.tmp 70) (codeAt [1, 1, 1, 1, 1, 1, 1, 1, 0, 1, 0] BK2) (codeAt [1, 1, 1, 1, 1, 1, 1, 1, 0, 1, 1] BK2) := by kernel_rfl
theorem K2C1_1_1_1_1_1_1_1_1 : (codeAt [1, 1, 1, 1, 1, 1, 1, 1, 1] BK2) = .seq (codeAt [1, 1, 1, 1, 1, 1, 1, 1, 1, 0] BK2) (codeAt [1, 1, 1, 1, 1, 1, 1, 1, 1, 1] BK2) := by kernel_rfl
theorem K2C1_1_1_1_1_1_1_1_1_0 : (codeAt [1, 1, 1, 1, 1, 1, 1, 1, 1, 0] BK2) = .seq (codeAt [1, 1, 1, 1, 1, 1, 1, 1, 1, 0, 0] BK2) (codeAt [1, 1, 1, 1, 1, 1, 1, 1, 1, 0, 1] BK2) := by kernel_rfl
theorem K2C1_1_1_1_1_1_1_1_1_0_1 : (codeAt [1, 1, 1, 1, 1, 1, 1, 1, 1, 0, 1] BK2) = .cond (.tmp 72) (codeAt [1, 1, 1, 1, 1, 1, 1, 1, 1, 0, 1, 0] BK2) (codeAt [1, 1, 1, 1, 1, 1, 1, 1, 1, 0, 1, 1] BK2) := by kernel_rfl
theorem K2C1_1_1_1_1_1_1_1_1_1 : (codeAt [1, 1, 1, 1, 1, 1, 1, 1, 1, 1] BK2) = .seq (codeAt [1, 1, 1, 1, 1, 1, 1, 1, 1, 1, 0] BK2) (codeAt [1, 1, 1, 1, 1, 1, 1, 1, 1, 1, 1] BK2) := by kernel_rfl
theorem K2C1_1_1_1_1_1_1_1_1_1_1 : (codeAt [1, 1, 1, 1, 1, 1, 1, 1, 1, 1, 1] BK2) = .seq (codeAt [1, 1, 1, 1, 1, 1, 1, 1, 1, 1, 1, 0] BK2) (codeAt [1, 1, 1, 1, 1, 1, 1, 1, 1, 1, 1, 1] BK2) := by kernel_rfl
theorem K2C1_1_1_1_1_1_1_1_1_1_1_0 : (codeAt [1, 1, 1, 1, 1, 1, 1, 1, 1, 1, 1, 0] BK2) = .seq (codeAt [1, 1, 1, 1, 1, 1, 1, 1, 1, 1, 1, 0, 0] BK2) (codeAt [1, 1, 1, 1, 1, 1, 1, 1, 1, 1, 1, 0, 1] BK2) := by kernel_rfl
theorem K2C1_1_1_1_1_1_1_1_1_0_1_0 : (codeAt [1, 1, 1, 1, 1, 1, 1, 1, 1, 0, 1, 0] BK2) = .seq (codeAt [1, 1, 1, 1, 1, 1, 1, 1, 1, 0, 1, 0, 0] BK2) (codeAt [1, 1, 1, 1, 1, 1, 1, 1, 1, 0, 1, 0, 1] BK2) := by kernel_rfl
theorem K2C1_1_1_1_1_1_1_1_1_0_1_0_1 : (codeAt [1, 1, 1, 1, 1, 1, 1, 1, 1, 0, 1, 0, 1] BK2) = .ret := by kernel_rfl
section
variable (boxW : ByteArray → ByteArray → List Int) (wd : ByteArray → ByteArray → Nat → Int)
noncomputable def K2S0 (ks : ByteArray) (vs : ByteArray) (b : Int) : KSt := (firstK [(.string ks), (.string vs), (.int .u8 b)] 130 ⟨0, 1, []⟩)
noncomputable def K2S1 (ks : ByteArray) (vs : ByteArray) (b : Int) : KSt := ⟨(frameL 130 [(0, (.string ks)), (1, (.string vs)), (2, (.int .u8 b))]), ⟨0, 1, []⟩⟩
theorem K2R1 (ks : ByteArray) (vs : ByteArray) (b : Int) : K2EV boxW wd (codeAt [0] BK2) (K2S0 ks vs b) [0, 1, 2] =
  some (.normal, (K2S1 ks vs b)) := by kernel_rfl
noncomputable def K2S2 (ks : ByteArray) (vs : ByteArray) (b : Int) : KSt := ⟨(frameL 130 [(0, (.string ks)), (1, (.string vs)), (2, (.int .u8 b)), (27, (.bool true))]), ⟨0, 1, []⟩⟩
noncomputable def K2S3 (ks : ByteArray) (vs : ByteArray) (b : Int) : KSt := ⟨(frameL 130 [(0, (.string ks)), (1, (.string vs)), (2, (.int .u8 b)), (27, (.bool (decide ((((ByteArray.size vs) : Nat) : Int) > 24))))]), ⟨0, 1, []⟩⟩
theorem K2R2 (ks : ByteArray) (vs : ByteArray) (b : Int) : K2EV boxW wd (codeAt [1, 0, 0] BK2) (K2S1 ks vs b) [0, 1, 2, 27] =
  bif (decide ((((ByteArray.size ks) : Nat) : Int) > 16)) then
    some (.normal, (K2S2 ks vs b))
  else
    some (.normal, (K2S3 ks vs b)) := by kernel_rfl
theorem K2R3 (ks : ByteArray) (vs : ByteArray) (b : Int) : K2EV boxW wd (codeAt [1, 0, 1, 1] BK2) (K2S3 ks vs b) [0, 1, 2] =
  some (.normal, (K2S1 ks vs b)) := by kernel_rfl
noncomputable def K2S4 (ks : ByteArray) (vs : ByteArray) (b : Int) : KSt := ⟨(frameL 130 [(0, (.string ks)), (1, (.string vs)), (7, (.int .i64 (IntKind.wrap .i64 ((Int.tmod (IntKind.wrap .i64 b) 12) + 1))))]), ⟨0, 1, []⟩⟩
theorem K2R4 (ks : ByteArray) (vs : ByteArray) (b : Int) : K2EV boxW wd (codeAt [1, 1, 0] BK2) (K2S1 ks vs b) [0, 1, 7] =
  some (.normal, (K2S4 ks vs b)) := by kernel_rfl
noncomputable def K2S5 (ks : ByteArray) (vs : ByteArray) (b : Int) : KSt := ⟨(frameL 130 [(0, (.string ks)), (1, (.string vs)), (7, (.int .i64 ((b % 12) + 1)))]), ⟨0, 1, []⟩⟩
noncomputable def K2S6 (ks : ByteArray) (vs : ByteArray) (b : Int) : KSt := ⟨(frameL 130 [(0, (.string ks)), (1, (.string vs)), (7, (.int .i64 ((b % 12) + 1))), (8, (.pointer none))]), ⟨0, 1, []⟩⟩
noncomputable def K2S7 (ks : ByteArray) (vs : ByteArray) (b : Int) : KSt := ⟨(frameL 130 [(0, (.string ks)), (1, (.string vs)), (7, (.int .i64 ((b % 12) + 1))), (8, (.pointer (some ⟨0, 0, none⟩)))]), ⟨2, 1, [(1, 0, .map [] 0), (0, 0, .cells [(.int .i64 ((b % 12) + 1)), (.int .i64 0), (.int .i64 0), (.int .u64 0), (.map (some 1))] 94 true)]⟩⟩
theorem K2R5 (ks : ByteArray) (vs : ByteArray) (b : Int) : K2EV boxW wd (codeAt [1, 1, 1, 0] BK2) (K2S5 ks vs b) [0, 1, 7, 8] =
  bif (decide (((b % 12) + 1) < 1)) then
    some (.normal, (K2S6 ks vs b))
  else
    bif (decide (((b % 12) + 1) > 65536)) then
      some (.normal, (K2S6 ks vs b))
    else
      some (.normal, (K2S7 ks vs b)) := by kernel_rfl
noncomputable def K2S8 (ks : ByteArray) (vs : ByteArray) (b : Int) : KSt := ⟨(frameL 130 [(0, (.string ks)), (1, (.string vs)), (7, (.int .i64 ((b % 12) + 1))), (8, (.pointer (some ⟨0, 0, none⟩))), (9, (.pointer (some ⟨1, 0, none⟩)))]), ⟨4, 1, [(3, 0, .cells [(.int .u64 (wd ks vs 0)), (.int .u64 (wd ks vs 1))] 30 true), (2, 0, .map [] 0), (1, 0, .cells [(.bool true), (.slice (some ⟨3, 0, none⟩) 2 2), (.int .u64 0), (.int .i64 (-1)), (.int .i64 5), (.int .u64 0), (.int .i64 2), (.int .u64 0), (.int .u64 0)] 88 true), (0, 0, .cells [(.int .i64 ((b % 12) + 1)), (.int .i64 0), (.int .i64 0), (.int .u64 0), (.map (some 2))] 94 true)]⟩⟩
theorem K2R6 (ks : ByteArray) (vs : ByteArray) (b : Int) : K2EV boxW wd (codeAt [1, 1, 1, 1, 0] BK2) (K2S7 ks vs b) [0, 1, 7, 8, 9] =
  bif ((Nat.ble (ByteArray.size ks) 16) && ((Nat.ble (ByteArray.size vs) 24) && (Nat.beq (List.length (boxW ks vs)) 2))) then
    some (.normal, (K2S8 wd ks vs b))
  else
    none := by kernel_rfl
noncomputable def K2S9 (ks : ByteArray) (vs : ByteArray) (b : Int) : KSt := ⟨(frameL 130 [(0, (.string ks)), (1, (.string vs)), (7, (.int .i64 ((b % 12) + 1))), (8, (.pointer (some ⟨0, 0, none⟩))), (9, (.pointer (some ⟨1, 0, none⟩))), (11, (.bool true))]), ⟨4, 1, [(3, 0, .cells [(.int .u64 (wd ks vs 0)), (.int .u64 (wd ks vs 1))] 30 true), (2, 0, .map [] 0), (1, 0, .cells [(.bool true), (.slice (some ⟨3, 0, none⟩) 2 2), (.int .u64 0), (.int .i64 (-1)), (.int .i64 0), (.int .u64 0), (.int .i64 0), (.int .u64 0), (.int .u64 0)] 88 true), (0, 0, .cells [(.int .i64 ((b % 12) + 1)), (.int .i64 0), (.int .i64 0), (.int .u64 0), (.map (some 2))] 94 true)]⟩⟩
noncomputable def K2S10 (ks : ByteArray) (vs : ByteArray) (b : Int) : KSt := ⟨(frameL 130 [(0, (.string ks)), (1, (.string vs)), (7, (.int .i64 ((b % 12) + 1))), (8, (.pointer (some ⟨0, 0, none⟩))), (9, (.pointer (some ⟨1, 0, none⟩))), (11, (.bool true))]), ⟨5, 1, [(4, 0, .ints .u64 (List.set (List.set (List.replicate 2 (0 : Int)) 0 (wd ks vs 0)) 1 (wd ks vs 1)) 30 true), (3, 0, .cells [(.int .u64 (wd ks vs 0)), (.int .u64 (wd ks vs 1))] 30 true), (2, 0, .map [((.int .u64 1), (.slice (some ⟨4, 0, none⟩) 2 2), 0)] 1), (1, 0, .cells [(.bool true), (.slice (some ⟨3, 0, none⟩) 2 2), (.int .u64 1), (.int .i64 2), (.int .i64 0), (.int .u64 0), (.int .i64 0), (.int .u64 0), (.int .u64 0)] 88 true), (0, 0, .cells [(.int .i64 ((b % 12) + 1)), (.int .i64 2), (.int .i64 0), (.int .u64 1), (.map (some 2))] 94 true)]⟩⟩
theorem K2R7 (ks : ByteArray) (vs : ByteArray) (b : Int) : K2EV boxW wd (codeAt [1, 1, 1, 1, 1, 0] BK2) (K2S8 wd ks vs b) [0, 1, 7, 8, 9, 11] =
  bif (decide (2 > (IntKind.wrap .i64 (((b % 12) + 1) - 0)))) then
    some (.normal, (K2S9 wd ks vs b))
  else
    bif (Nat.ble 1 (List.length (List.replicate 2 (0 : Int)))) then
      bif (Nat.ble 2 (List.length (List.set (List.replicate 2 (0 : Int)) 0 (wd ks vs 0)))) then
        some (.normal, (K2S10 wd ks vs b))
      else
        none
    else
      none := by kernel_rfl
noncomputable def K2S11 (ks : ByteArray) (vs : ByteArray) (b : Int) : KSt := ⟨(frameL 130 [(0, (.string ks)), (1, (.string vs)), (7, (.int .i64 ((b % 12) + 1))), (8, (.pointer (some ⟨0, 0, none⟩))), (11, (.bool true)), (12, (.int .u64 1)), (13, (.bool true))]), ⟨3, 1, [(2, 0, .ints .u64 (List.set (List.set (List.replicate 2 (0 : Int)) 0 (wd ks vs 0)) 1 (wd ks vs 1)) 30 true), (1, 0, .map [((.int .u64 1), (.slice (some ⟨2, 0, none⟩) 2 2), 0)] 1), (0, 0, .cells [(.int .i64 ((b % 12) + 1)), (.int .i64 2), (.int .i64 0), (.int .u64 1), (.map (some 1))] 94 true)]⟩⟩
theorem K2R8 (ks : ByteArray) (vs : ByteArray) (b : Int) : K2EV boxW wd (codeAt [1, 1, 1, 1, 1, 1, 0] BK2) (K2S10 wd ks vs b) [0, 1, 7, 8, 11, 12, 13] =
  some (.normal, (K2S11 wd ks vs b)) := by kernel_rfl
noncomputable def K2S12 (b : Int) (ks : ByteArray) (vs : ByteArray) : KSt := ⟨(frameL 130 [(7, (.int .i64 ((b % 12) + 1))), (8, (.pointer (some ⟨0, 0, none⟩))), (11, (.bool true)), (12, (.int .u64 1)), (13, (.bool true)), (14, (.slice (some ⟨1, 0, none⟩) 2 2))]), ⟨4, 1, [(3, 0, .ints .u64 (List.set (List.set (List.replicate 2 (0 : Int)) 0 (wd ks vs 0)) 1 (wd ks vs 1)) 30 true), (2, 0, .map [((.int .u64 1), (.slice (some ⟨3, 0, none⟩) 2 2), 0)] 1), (1, 0, .cells [(.int .u64 (wd ks vs 0)), (.int .u64 (wd ks vs 1))] 30 true), (0, 0, .cells [(.int .i64 ((b % 12) + 1)), (.int .i64 2), (.int .i64 0), (.int .u64 1), (.map (some 2))] 94 true)]⟩⟩
theorem K2R9 (ks : ByteArray) (vs : ByteArray) (b : Int) : K2EV boxW wd (codeAt [1, 1, 1, 1, 1, 1, 1, 0] BK2) (K2S11 wd ks vs b) [7, 8, 11, 12, 13, 14] =
  bif ((Nat.ble (ByteArray.size ks) 16) && ((Nat.ble (ByteArray.size vs) 24) && (Nat.beq (List.length (boxW ks vs)) 2))) then
    some (.normal, (K2S12 wd b ks vs))
  else
    none := by kernel_rfl
noncomputable def K2S13 (b : Int) (ks : ByteArray) (vs : ByteArray) : KSt := ⟨(frameL 130 [(8, (.pointer (some ⟨0, 0, none⟩))), (12, (.int .u64 1)), (14, (.slice (some ⟨1, 0, none⟩) 2 2)), (70, (.bool (!(false == (decide (2 > ((b % 12) + 1)))))))]), ⟨4, 1, [(3, 0, .ints .u64 (List.set (List.set (List.replicate 2 (0 : Int)) 0 (wd ks vs 0)) 1 (wd ks vs 1)) 30 true), (2, 0, .map [((.int .u64 1), (.slice (some ⟨3, 0, none⟩) 2 2), 0)] 1), (1, 0, .cells [(.int .u64 (wd ks vs 0)), (.int .u64 (wd ks vs 1))] 30 true), (0, 0, .cells [(.int .i64 ((b % 12) + 1)), (.int .i64 2), (.int .i64 0), (.int .u64 1), (.map (some 2))] 94 true)]⟩⟩
theorem K2R10 (b : Int) (ks : ByteArray) (vs : ByteArray) : K2EV boxW wd (codeAt [1, 1, 1, 1, 1, 1, 1, 1, 0, 0] BK2) (K2S12 wd b ks vs) [8, 12, 14, 70] =
  some (.normal, (K2S13 wd b ks vs)) := by kernel_rfl
noncomputable def K2S14 (ks : ByteArray) (vs : ByteArray) (b : Int) : KSt := ⟨(frameL 130 [(8, (.pointer (some ⟨0, 0, none⟩))), (12, (.int .u64 1)), (14, (.slice (some ⟨1, 0, none⟩) 2 2))]), ⟨4, 1, [(3, 0, .ints .u64 (List.set (List.set (List.replicate 2 (0 : Int)) 0 (wd ks vs 0)) 1 (wd ks vs 1)) 30 true), (2, 0, .map [((.int .u64 1), (.slice (some ⟨3, 0, none⟩) 2 2), 0)] 1), (1, 0, .cells [(.int .u64 (wd ks vs 0)), (.int .u64 (wd ks vs 1))] 30 true), (0, 0, .cells [(.int .i64 ((b % 12) + 1)), (.int .i64 2), (.int .i64 0), (.int .u64 1), (.map (some 2))] 94 true)]⟩⟩
theorem K2R11 (b : Int) (ks : ByteArray) (vs : ByteArray) : K2EV boxW wd (codeAt [1, 1, 1, 1, 1, 1, 1, 1, 0, 1, 1] BK2) (K2S13 wd b ks vs) [8, 12, 14] =
  some (.normal, (K2S14 wd ks vs b)) := by kernel_rfl
noncomputable def K2S15 (ks : ByteArray) (vs : ByteArray) (b : Int) : KSt := ⟨(frameL 130 [(8, (.pointer (some ⟨0, 0, none⟩))), (12, (.int .u64 1)), (14, (.slice (some ⟨1, 0, none⟩) 2 2)), (72, (.bool false))]), ⟨4, 1, [(3, 0, .ints .u64 (List.set (List.set (List.replicate 2 (0 : Int)) 0 (wd ks vs 0)) 1 (wd ks vs 1)) 30 true), (2, 0, .map [((.int .u64 1), (.slice (some ⟨3, 0, none⟩) 2 2), 0)] 1), (1, 0, .cells [(.int .u64 (wd ks vs 0)), (.int .u64 (wd ks vs 1))] 30 true), (0, 0, .cells [(.int .i64 ((b % 12) + 1)), (.int .i64 2), (.int .i64 0), (.int .u64 1), (.map (some 2))] 94 true)]⟩⟩
theorem K2R12 (ks : ByteArray) (vs : ByteArray) (b : Int) : K2EV boxW wd (codeAt [1, 1, 1, 1, 1, 1, 1, 1, 1, 0, 0] BK2) (K2S14 wd ks vs b) [8, 12, 14, 72] =
  some (.normal, (K2S15 wd ks vs b)) := by kernel_rfl
theorem K2R13 (ks : ByteArray) (vs : ByteArray) (b : Int) : K2EV boxW wd (codeAt [1, 1, 1, 1, 1, 1, 1, 1, 1, 0, 1, 1] BK2) (K2S15 wd ks vs b) [8, 12, 14] =
  some (.normal, (K2S14 wd ks vs b)) := by kernel_rfl
noncomputable def K2S16 (ks : ByteArray) (vs : ByteArray) (b : Int) : KSt := ⟨(frameL 130 [(8, (.pointer (some ⟨0, 0, none⟩))), (12, (.int .u64 1)), (14, (.slice (some ⟨1, 0, none⟩) 2 2)), (16, (.slice (some ⟨2, 0, none⟩) 0 0))]), ⟨5, 1, [(4, 0, .ints .u64 (List.set (List.set (List.replicate 2 (0 : Int)) 0 (wd ks vs 0)) 1 (wd ks vs 1)) 30 true), (3, 0, .map [((.int .u64 1), (.slice (some ⟨4, 0, none⟩) 2 2), 0)] 1), (2, 0, .cells [] 30 true), (1, 0, .cells [(.int .u64 (wd ks vs 0)), (.int .u64 (wd ks vs 1))] 30 true), (0, 0, .cells [(.int .i64 ((b % 12) + 1)), (.int .i64 2), (.int .i64 0), (.int .u64 1), (.map (some 3))] 94 true)]⟩⟩
theorem K2R14 (ks : ByteArray) (vs : ByteArray) (b : Int) : K2EV boxW wd (codeAt [1, 1, 1, 1, 1, 1, 1, 1, 1, 1, 0] BK2) (K2S14 wd ks vs b) [8, 12, 14, 16] =
  some (.normal, (K2S16 wd ks vs b)) := by kernel_rfl
noncomputable def K2S17 (ks : ByteArray) (vs : ByteArray) (b : Int) : KSt := ⟨(frameL 130 [(8, (.pointer (some ⟨0, 0, none⟩))), (12, (.int .u64 1)), (14, (.slice (some ⟨1, 0, none⟩) 2 2)), (16, (.slice (some ⟨2, 0, none⟩) 0 0)), (17, (.int .i64 0))]), ⟨5, 1, [(4, 0, .ints .u64 (List.set (List.set (List.replicate 2 (0 : Int)) 0 (wd ks vs 0)) 1 (wd ks vs 1)) 30 true), (3, 0, .map [((.int .u64 1), (.slice (some ⟨4, 0, none⟩) 2 2), 0)] 1), (2, 0, .cells [] 30 true), (1, 0, .cells [(.int .u64 (wd ks vs 0)), (.int .u64 (wd ks vs 1))] 30 true), (0, 0, .cells [(.int .i64 ((b % 12) + 1)), (.int .i64 2), (.int .i64 0), (.int .u64 1), (.map (some 3))] 94 true)]⟩⟩
theorem K2R15 (ks : ByteArray) (vs : ByteArray) (b : Int) : K2EV boxW wd (codeAt [1, 1, 1, 1, 1, 1, 1, 1, 1, 1, 1, 0, 0] BK2) (K2S16 wd ks vs b) [8, 12, 14, 16, 17] =
  some (.normal, (K2S17 wd ks vs b)) := by kernel_rfl
noncomputable def K2S18 (ks : ByteArray) (vs : ByteArray) (b : Int) : KSt := ⟨(frameL 130 [(0, (.string ks)), (1, (.string vs)), (7, (.int .i64 ((b % 12) + 1))), (8, (.pointer (some ⟨0, 0, none⟩))), (11, (.bool true)), (12, (.int .u64 0)), (13, (.bool true))]), ⟨2, 1, [(1, 0, .map [] 0), (0, 0, .cells [(.int .i64 ((b % 12) + 1)), (.int .i64 0), (.int .i64 0), (.int .u64 0), (.map (some 1))] 94 true)]⟩⟩
theorem K2R16 (ks : ByteArray) (vs : ByteArray) (b : Int) : K2EV boxW wd (codeAt [1, 1, 1, 1, 1, 1, 0] BK2) (K2S9 wd ks vs b) [0, 1, 7, 8, 11, 12, 13] =
  some (.normal, (K2S18 ks vs b)) := by kernel_rfl
noncomputable def K2S19 (b : Int) (ks : ByteArray) (vs : ByteArray) : KSt := ⟨(frameL 130 [(7, (.int .i64 ((b % 12) + 1))), (8, (.pointer (some ⟨0, 0, none⟩))), (11, (.bool true)), (12, (.int .u64 0)), (13, (.bool true)), (14, (.slice (some ⟨1, 0, none⟩) 2 2))]), ⟨3, 1, [(2, 0, .map [] 0), (1, 0, .cells [(.int .u64 (wd ks vs 0)), (.int .u64 (wd ks vs 1))] 30 true), (0, 0, .cells [(.int .i64 ((b % 12) + 1)), (.int .i64 0), (.int .i64 0), (.int .u64 0), (.map (some 2))] 94 true)]⟩⟩
theorem K2R17 (ks : ByteArray) (vs : ByteArray) (b : Int) : K2EV boxW wd (codeAt [1, 1, 1, 1, 1, 1, 1, 0] BK2) (K2S18 ks vs b) [7, 8, 11, 12, 13, 14] =
  bif ((Nat.ble (ByteArray.size ks) 16) && ((Nat.ble (ByteArray.size vs) 24) && (Nat.beq (List.length (boxW ks vs)) 2))) then
    some (.normal, (K2S19 wd b ks vs))
  else
    none := by kernel_rfl
noncomputable def K2S20 (b : Int) (ks : ByteArray) (vs : ByteArray) : KSt := ⟨(frameL 130 [(8, (.pointer (some ⟨0, 0, none⟩))), (12, (.int .u64 0)), (14, (.slice (some ⟨1, 0, none⟩) 2 2)), (70, (.bool (!(true == (decide (2 > ((b % 12) + 1)))))))]), ⟨3, 1, [(2, 0, .map [] 0), (1, 0, .cells [(.int .u64 (wd ks vs 0)), (.int .u64 (wd ks vs 1))] 30 true), (0, 0, .cells [(.int .i64 ((b % 12) + 1)), (.int .i64 0), (.int .i64 0), (.int .u64 0), (.map (some 2))] 94 true)]⟩⟩
theorem K2R18 (b : Int) (ks : ByteArray) (vs : ByteArray) : K2EV boxW wd (codeAt [1, 1, 1, 1, 1, 1, 1, 1, 0, 0] BK2) (K2S19 wd b ks vs) [8, 12, 14, 70] =
  some (.normal, (K2S20 wd b ks vs)) := by kernel_rfl
noncomputable def K2S21 (ks : ByteArray) (vs : ByteArray) (b : Int) : KSt := ⟨(frameL 130 [(8, (.pointer (some ⟨0, 0, none⟩))), (12, (.int .u64 0)), (14, (.slice (some ⟨1, 0, none⟩) 2 2))]), ⟨3, 1, [(2, 0, .map [] 0), (1, 0, .cells [(.int .u64 (wd ks vs 0)), (.int .u64 (wd ks vs 1))] 30 true), (0, 0, .cells [(.int .i64 ((b % 12) + 1)), (.int .i64 0), (.int .i64 0), (.int .u64 0), (.map (some 2))] 94 true)]⟩⟩
theorem K2R19 (b : Int) (ks : ByteArray) (vs : ByteArray) : K2EV boxW wd (codeAt [1, 1, 1, 1, 1, 1, 1, 1, 0, 1, 1] BK2) (K2S20 wd b ks vs) [8, 12, 14] =
  some (.normal, (K2S21 wd ks vs b)) := by kernel_rfl
noncomputable def K2S22 (ks : ByteArray) (vs : ByteArray) (b : Int) : KSt := ⟨(frameL 130 [(8, (.pointer (some ⟨0, 0, none⟩))), (12, (.int .u64 0)), (14, (.slice (some ⟨1, 0, none⟩) 2 2)), (72, (.bool true))]), ⟨3, 1, [(2, 0, .map [] 0), (1, 0, .cells [(.int .u64 (wd ks vs 0)), (.int .u64 (wd ks vs 1))] 30 true), (0, 0, .cells [(.int .i64 ((b % 12) + 1)), (.int .i64 0), (.int .i64 0), (.int .u64 0), (.map (some 2))] 94 true)]⟩⟩
theorem K2R20 (ks : ByteArray) (vs : ByteArray) (b : Int) : K2EV boxW wd (codeAt [1, 1, 1, 1, 1, 1, 1, 1, 1, 0, 0] BK2) (K2S21 wd ks vs b) [8, 12, 14, 72] =
  some (.normal, (K2S22 wd ks vs b)) := by kernel_rfl
noncomputable def K2S23  : KSt := ⟨(frameL 130 [(6, (.bool true))]), ⟨0, 1, []⟩⟩
theorem K2R21 (ks : ByteArray) (vs : ByteArray) (b : Int) : K2EV boxW wd (codeAt [1, 1, 1, 1, 1, 1, 1, 1, 1, 0, 1, 0, 0] BK2) (K2S22 wd ks vs b) [6] =
  some (.normal, K2S23) := by kernel_rfl
end
theorem K2in {b : Int} {ks : ByteArray} {vs : ByteArray} (hb : 0 ≤ b) (hb2 : b < 256) (h16 : ks.size ≤ 16) (h24 : vs.size ≤ 24) (hM : Nat.beq (boxW ks vs).length 2 = true) (hr : 2 ≤ b % 12 + 1)   {Q : Ex → St → Prop} (hq : Gets Try.prog (KH.low ⟨0, 1, []⟩) (codeAt [1, 1, 1, 1, 1, 1, 1, 1, 1, 1, 1, 0, 1] BK2) (KSt.low (K2S17 wd ks vs b)) (onN (fun s => Gets Try.prog (KH.low ⟨0, 1, []⟩) (codeAt [1, 1, 1, 1, 1, 1, 1, 1, 1, 1, 1, 1] BK2) s (Q)) (Q))) : Gets Try.prog (KH.low ⟨0, 1, []⟩) BK2 (KSt.low (K2S0 ks vs b)) Q := by
  rw [K2C]; refine Gets.seq ?_
  refine K2go (K2R1 boxW wd ks vs b) ?_
  rw [K2C1]; refine Gets.seq ?_
  rw [K2C1_0]; refine Gets.seq ?_
  refine K2go (x := .normal) (s' := (K2S3 ks vs b)) ((K2R2 boxW wd ks vs b).trans (by rw [condF (decide_eq_false (by omega))])) ?_
  rw [K2C1_0_1]; refine Gets.cond false (by kernel_rfl) (K2eX (b := (decide ((((ByteArray.size vs) : Nat) : Int) > 24))) (by kernel_rfl) ((show (decide ((((ByteArray.size vs) : Nat) : Int) > 24)) = false from decide_eq_false (by omega)))) ?_; show Gets _ _ (codeAt [1, 0, 1, 1] BK2) _ _
  refine K2go (K2R3 boxW wd ks vs b) ?_
  rw [K2C1_1]; refine Gets.seq ?_
  refine K2go (x := .normal) (s' := (K2S5 ks vs b)) ((K2R4 boxW wd ks vs b).trans (by (show some (Ex.normal, (K2S4 ks vs b)) = some (Ex.normal, (K2S5 ks vs b)); unfold K2S4 K2S5; rw [(show (IntKind.wrap .i64 ((Int.tmod (IntKind.wrap .i64 b) 12) + 1)) = ((b % 12) + 1) from by rw [wrap_i64_id (n := b) (by omega) (by omega), Int.tmod_eq_emod_of_nonneg hb, wrap_i64_id (by omega) (by omega)])]))) ?_
  rw [K2C1_1_1]; refine Gets.seq ?_
  refine K2go (x := .normal) (s' := (K2S7 ks vs b)) ((K2R5 boxW wd ks vs b).trans (by rw [condF (decide_eq_false (by omega)), condF (decide_eq_false (by omega))])) ?_
  rw [K2C1_1_1_1]; refine Gets.seq ?_
  refine K2go (x := .normal) (s' := (K2S8 wd ks vs b)) ((K2R6 boxW wd ks vs b).trans (by rw [condT (and_t (Nat.ble_eq_true_of_le h16) (and_t (Nat.ble_eq_true_of_le h24) (hM)))])) ?_
  rw [K2C1_1_1_1_1]; refine Gets.seq ?_
  refine K2go (x := .normal) (s' := (K2S10 wd ks vs b)) ((K2R7 boxW wd ks vs b).trans (by rw [condF (decide_eq_false (by (first | omega | ((try simp (disch := omega) only [wrap_i64_id]) <;> omega)))), condT (show (Nat.ble 1 (List.length (List.replicate 2 (0 : Int)))) = true from rfl), condT (show (Nat.ble 2 (List.length (List.set (List.replicate 2 (0 : Int)) 0 (wd ks vs 0)))) = true from rfl)])) ?_
  rw [K2C1_1_1_1_1_1]; refine Gets.seq ?_
  refine K2go (K2R8 boxW wd ks vs b) ?_
  rw [K2C1_1_1_1_1_1_1]; refine Gets.seq ?_
  refine K2go (x := .normal) (s' := (K2S12 wd b ks vs)) ((K2R9 boxW wd ks vs b).trans (by rw [condT (and_t (Nat.ble_eq_true_of_le h16) (and_t (Nat.ble_eq_true_of_le h24) (hM)))])) ?_
  rw [K2C1_1_1_1_1_1_1_1]; refine Gets.seq ?_
  rw [K2C1_1_1_1_1_1_1_1_0]; refine Gets.seq ?_
  refine K2go (K2R10 boxW wd b ks vs) ?_
  rw [K2C1_1_1_1_1_1_1_1_0_1]; refine Gets.cond false (by kernel_rfl) (K2eX (b := (!(false == (decide (2 > ((b % 12) + 1)))))) (by kernel_rfl) ((show (!(false == (decide (2 > ((b % 12) + 1))))) = false from not_f (fd_ (by omega))))) ?_; show Gets _ _ (codeAt [1, 1, 1, 1, 1, 1, 1, 1, 0, 1, 1] BK2) _ _
  refine K2go (K2R11 boxW wd b ks vs) ?_
  rw [K2C1_1_1_1_1_1_1_1_1]; refine Gets.seq ?_
  rw [K2C1_1_1_1_1_1_1_1_1_0]; refine Gets.seq ?_
  refine K2go (K2R12 boxW wd ks vs b) ?_
  rw [K2C1_1_1_1_1_1_1_1_1_0_1]; refine Gets.cond false (by kernel_rfl) (by kernel_rfl) ?_; show Gets _ _ (codeAt [1, 1, 1, 1, 1, 1, 1, 1, 1, 0, 1, 1] BK2) _ _
  refine K2go (K2R13 boxW wd ks vs b) ?_
  rw [K2C1_1_1_1_1_1_1_1_1_1]; refine Gets.seq ?_
  refine K2go (K2R14 boxW wd ks vs b) ?_
  rw [K2C1_1_1_1_1_1_1_1_1_1_1]; refine Gets.seq ?_
  rw [K2C1_1_1_1_1_1_1_1_1_1_1_0]; refine Gets.seq ?_
  refine K2go (K2R15 boxW wd ks vs b) ?_
  exact hq
theorem K2no {b : Int} {ks : ByteArray} {vs : ByteArray} (hb : 0 ≤ b) (hb2 : b < 256) (h16 : ks.size ≤ 16) (h24 : vs.size ≤ 24) (hM : Nat.beq (boxW ks vs).length 2 = true) (hr : b % 12 + 1 < 2)   {Q : Ex → St → Prop} (hq : Q .ret (KSt.low K2S23)) : Gets Try.prog (KH.low ⟨0, 1, []⟩) BK2 (KSt.low (K2S0 ks vs b)) Q := by
  rw [K2C]; refine Gets.seq ?_
  refine K2go (K2R1 boxW wd ks vs b) ?_
  rw [K2C1]; refine Gets.seq ?_
  rw [K2C1_0]; refine Gets.seq ?_
  refine K2go (x := .normal) (s' := (K2S3 ks vs b)) ((K2R2 boxW wd ks vs b).trans (by rw [condF (decide_eq_false (by omega))])) ?_
  rw [K2C1_0_1]; refine Gets.cond false (by kernel_rfl) (K2eX (b := (decide ((((ByteArray.size vs) : Nat) : Int) > 24))) (by kernel_rfl) ((show (decide ((((ByteArray.size vs) : Nat) : Int) > 24)) = false from decide_eq_false (by omega)))) ?_; show Gets _ _ (codeAt [1, 0, 1, 1] BK2) _ _
  refine K2go (K2R3 boxW wd ks vs b) ?_
  rw [K2C1_1]; refine Gets.seq ?_
  refine K2go (x := .normal) (s' := (K2S5 ks vs b)) ((K2R4 boxW wd ks vs b).trans (by (show some (Ex.normal, (K2S4 ks vs b)) = some (Ex.normal, (K2S5 ks vs b)); unfold K2S4 K2S5; rw [(show (IntKind.wrap .i64 ((Int.tmod (IntKind.wrap .i64 b) 12) + 1)) = ((b % 12) + 1) from by rw [wrap_i64_id (n := b) (by omega) (by omega), Int.tmod_eq_emod_of_nonneg hb, wrap_i64_id (by omega) (by omega)])]))) ?_
  rw [K2C1_1_1]; refine Gets.seq ?_
  refine K2go (x := .normal) (s' := (K2S7 ks vs b)) ((K2R5 boxW wd ks vs b).trans (by rw [condF (decide_eq_false (by omega)), condF (decide_eq_false (by omega))])) ?_
  rw [K2C1_1_1_1]; refine Gets.seq ?_
  refine K2go (x := .normal) (s' := (K2S8 wd ks vs b)) ((K2R6 boxW wd ks vs b).trans (by rw [condT (and_t (Nat.ble_eq_true_of_le h16) (and_t (Nat.ble_eq_true_of_le h24) (hM)))])) ?_
  rw [K2C1_1_1_1_1]; refine Gets.seq ?_
  refine K2go (x := .normal) (s' := (K2S9 wd ks vs b)) ((K2R7 boxW wd ks vs b).trans (by rw [condT (decide_eq_true (by (first | omega | ((try simp (disch := omega) only [wrap_i64_id]) <;> omega))))])) ?_
  rw [K2C1_1_1_1_1_1]; refine Gets.seq ?_
  refine K2go (K2R16 boxW wd ks vs b) ?_
  rw [K2C1_1_1_1_1_1_1]; refine Gets.seq ?_
  refine K2go (x := .normal) (s' := (K2S19 wd b ks vs)) ((K2R17 boxW wd ks vs b).trans (by rw [condT (and_t (Nat.ble_eq_true_of_le h16) (and_t (Nat.ble_eq_true_of_le h24) (hM)))])) ?_
  rw [K2C1_1_1_1_1_1_1_1]; refine Gets.seq ?_
  rw [K2C1_1_1_1_1_1_1_1_0]; refine Gets.seq ?_
  refine K2go (K2R18 boxW wd b ks vs) ?_
  rw [K2C1_1_1_1_1_1_1_1_0_1]; refine Gets.cond false (by kernel_rfl) (K2eX (b := (!(true == (decide (2 > ((b % 12) + 1)))))) (by kernel_rfl) ((show (!(true == (decide (2 > ((b % 12) + 1))))) = false from not_f (td_ (by omega))))) ?_; show Gets _ _ (codeAt [1, 1, 1, 1, 1, 1, 1, 1, 0, 1, 1] BK2) _ _
  refine K2go (K2R19 boxW wd b ks vs) ?_
  rw [K2C1_1_1_1_1_1_1_1_1]; refine Gets.seq ?_
  rw [K2C1_1_1_1_1_1_1_1_1_0]; refine Gets.seq ?_
  refine K2go (K2R20 boxW wd ks vs b) ?_
  rw [K2C1_1_1_1_1_1_1_1_1_0_1]; refine Gets.cond true (by kernel_rfl) (by kernel_rfl) ?_; show Gets _ _ (codeAt [1, 1, 1, 1, 1, 1, 1, 1, 1, 0, 1, 0] BK2) _ _
  rw [K2C1_1_1_1_1_1_1_1_1_0_1_0]; refine Gets.seq ?_
  refine K2go (K2R21 boxW wd ks vs b) ?_
  rw [K2C1_1_1_1_1_1_1_1_1_0_1_0_1]; refine Gets.ev fitK.mix fitK.cfg (fitK.sound mm2_sound 70 0) 70 rfl (s' := KSt.low K2S23) (x := .ret) rfl ?_
  exact hq
noncomputable def BK3 : Code := bodyOf Try.prog 9
theorem BK3_is : Try.f9.body = some BK3 := by kernel_rfl
theorem BK3_ok : okCode Try.prog.globals.size BK3 = true := by kernel_rfl
noncomputable abbrev K3EV (boxW : ByteArray → ByteArray → List Int) (wd : ByteArray → ByteArray → Nat → Int) (c : Code) (s : KSt) (lv : List Nat) : Option (Ex × KSt) := evCK Try.prog cfgK (runK Try.prog cfgK fsK (conTk mm3Dom (rcK [] (mm3T boxW wd))) 70 40) 70 c s (normC 0 lv)
theorem K3go {lv_ : List Nat} {co_ : Code} {st_ s' : KSt} {x : Ex} {Q : Ex → St → Prop} (hE_ : K3EV boxW wd co_ st_ lv_ = some (x, s')) (hq_ : Q x s'.low) (hok_ : okCode Try.prog.globals.size co_ = true := by kernel_rfl) : Gets Try.prog (KH.low ⟨0, 1, []⟩) co_ st_.low Q := Gets.ofN fitK mm3_sound (rc_agree _ _ _) 70 40 hok_ hE_ hq_
theorem K3eX {v : Value} {b c : Bool} (h : v = .bool b) (hb : b = c) : v = .bool c := by rw [h, hb]
theorem K3C : BK3 = .seq (codeAt [0] BK3) (codeAt [1] BK3) := by kernel_rfl
theorem K3C1 : (codeAt [1] BK3) = .seq (codeAt [1, 0] BK3) (codeAt [1, 1] BK3) := by kernel_rfl
theorem K3C1_0 : (codeAt [1, 0] BK3) = .seq (codeAt [1, 0, 0] BK3) (codeAt [1, 0, 1] BK3) := by kernel_rfl
theorem K3C1_0_1 : (codeAt [1, 0, 1] BK3) = .cond (.tmp 27) (codeAt [1, 0, 1, 0] BK3) (codeAt [1, 0, 1, 1] BK3) := by kernel_rfl
theorem K3C1_1 : (codeAt [1, 1] BK3) = .seq (codeAt [1, 1, 0] BK3) (codeAt [1, 1, 1] BK3) := by kernel_rfl
theorem K3C1_1_1 : (codeAt [1, 1, 1] BK3) = .seq (codeAt [1, 1, 1, 0] BK3) (codeAt [1, 1, 1, 1] BK3) := by kernel_rfl
theorem K3C1_1_1_1 : (codeAt [1, 1, 1, 1] BK3) = .seq (codeAt [1, 1, 1, 1, 0] BK3) (codeAt [1, 1, 1, 1, 1] BK3) := by kernel_rfl
theorem K3C1_1_1_1_1 : (codeAt [1, 1, 1, 1, 1] BK3) = .seq (codeAt [1, 1, 1, 1, 1, 0] BK3) (codeAt [1, 1, 1, 1, 1, 1] BK3) := by kernel_rfl
theorem K3C1_1_1_1_1_1 : (codeAt [1, 1, 1, 1, 1, 1] BK3) = .seq (codeAt [1, 1, 1, 1, 1, 1, 0] BK3) (codeAt [1, 1, 1, 1, 1, 1, 1] BK3) := by kernel_rfl
theorem K3C1_1_1_1_1_1_1 : (codeAt [1, 1, 1, 1, 1, 1, 1] BK3) = .seq (codeAt [1, 1, 1, 1, 1, 1, 1, 0] BK3) (codeAt [1, 1, 1, 1, 1, 1, 1, 1] BK3) := by kernel_rfl
theorem K3C1_1_1_1_1_1_1_1 : (codeAt [1, 1, 1, 1, 1, 1, 1, 1] BK3) = .seq (codeAt [1, 1, 1, 1, 1, 1, 1, 1, 0] BK3) (codeAt [1, 1, 1, 1, 1, 1, 1, 1, 1] BK3) := by kernel_rfl
theorem K3C1_1_1_1_1_1_1_1_0 : (codeAt [1, 1, 1, 1, 1, 1, 1, 1, 0] BK3) = .seq (codeAt [1, 1, 1, 1, 1, 1, 1, 1, 0, 0] BK3) (codeAt [1, 1, 1, 1, 1, 1, 1, 1, 0, 1] BK3) := by kernel_rfl
theorem K3C1_1_1_1_1_1_1_1_0_1 : (codeAt [1, 1, 1, 1, 1, 1, 1, 1, 0, 1] BK3) = .cond (.tmp 70) (codeAt [1, 1, 1, 1, 1, 1, 1, 1, 0, 1, 0] BK3) (codeAt [1, 1, 1, 1, 1, 1, 1, 1, 0, 1, 1] BK3) := by kernel_rfl
theorem K3C1_1_1_1_1_1_1_1_1 : (codeAt [1, 1, 1, 1, 1, 1, 1, 1, 1] BK3) = .seq (codeAt [1, 1, 1, 1, 1, 1, 1, 1, 1, 0] BK3) (codeAt [1, 1, 1, 1, 1, 1, 1, 1, 1, 1] BK3) := by kernel_rfl
theorem K3C1_1_1_1_1_1_1_1_1_0 : (codeAt [1, 1, 1, 1, 1, 1, 1, 1, 1, 0] BK3) = .seq (codeAt [1, 1, 1, 1, 1, 1, 1, 1, 1, 0, 0] BK3) (codeAt [1, 1, 1, 1, 1, 1, 1, 1, 1, 0, 1] BK3) := by kernel_rfl
theorem K3C1_1_1_1_1_1_1_1_1_0_1 : (codeAt [1, 1, 1, 1, 1, 1, 1, 1, 1, 0, 1] BK3) = .cond (.tmp 72) (codeAt [1, 1, 1, 1, 1, 1, 1, 1, 1, 0, 1, 0] BK3) (codeAt [1, 1, 1, 1, 1, 1, 1, 1, 1, 0, 1, 1] BK3) := by kernel_rfl
theorem K3C1_1_1_1_1_1_1_1_1_1 : (codeAt [1, 1, 1, 1, 1, 1, 1, 1, 1, 1] BK3) = .seq (codeAt [1, 1, 1, 1, 1, 1, 1, 1, 1, 1, 0] BK3) (codeAt [1, 1, 1, 1, 1, 1, 1, 1, 1, 1, 1] BK3) := by kernel_rfl
theorem K3C1_1_1_1_1_1_1_1_1_1_1 : (codeAt [1, 1, 1, 1, 1, 1, 1, 1, 1, 1, 1] BK3) = .seq (codeAt [1, 1, 1, 1, 1, 1, 1, 1, 1, 1, 1, 0] BK3) (codeAt [1, 1, 1, 1, 1, 1, 1, 1, 1, 1, 1, 1] BK3) := by kernel_rfl
theorem K3C1_1_1_1_1_1_1_1_1_1_1_0 : (codeAt [1, 1, 1, 1, 1, 1, 1, 1, 1, 1, 1, 0] BK3) = .seq (codeAt [1, 1, 1, 1, 1, 1, 1, 1, 1, 1, 1, 0, 0] BK3) (codeAt [1, 1, 1, 1, 1, 1, 1, 1, 1, 1, 1, 0, 1] BK3) := by kernel_rfl
theorem K3C1_1_1_1_1_1_1_1_1_0_1_0 : (codeAt [1, 1, 1, 1, 1, 1, 1, 1, 1, 0, 1, 0] BK3) = .seq (codeAt [1, 1, 1, 1, 1, 1, 1, 1, 1, 0, 1, 0, 0] BK3) (codeAt [1, 1, 1, 1, 1, 1, 1, 1, 1, 0, 1, 0, 1] BK3) := by kernel_rfl
theorem K3C1_1_1_1_1_1_1_1_1_0_1_0_1 : (codeAt [1, 1, 1, 1, 1, 1, 1, 1, 1, 0, 1, 0, 1] BK3) = .ret := by kernel_rfl
section
variable (boxW : ByteArray → ByteArray → List Int) (wd : ByteArray → ByteArray → Nat → Int)
noncomputable def K3S0 (ks : ByteArray) (vs : ByteArray) (b : Int) : KSt := (firstK [(.string ks), (.string vs), (.int .u8 b)] 130 ⟨0, 1, []⟩)
noncomputable def K3S1 (ks : ByteArray) (vs : ByteArray) (b : Int) : KSt := ⟨(frameL 130 [(0, (.string ks)), (1, (.string vs)), (2, (.int .u8 b))]), ⟨0, 1, []⟩⟩
theorem K3R1 (ks : ByteArray) (vs : ByteArray) (b : Int) : K3EV boxW wd (codeAt [0] BK3) (K3S0 ks vs b) [0, 1, 2] =
  some (.normal, (K3S1 ks vs b)) := by kernel_rfl
noncomputable def K3S2 (ks : ByteArray) (vs : ByteArray) (b : Int) : KSt := ⟨(frameL 130 [(0, (.string ks)), (1, (.string vs)), (2, (.int .u8 b)), (27, (.bool true))]), ⟨0, 1, []⟩⟩
noncomputable def K3S3 (ks : ByteArray) (vs : ByteArray) (b : Int) : KSt := ⟨(frameL 130 [(0, (.string ks)), (1, (.string vs)), (2, (.int .u8 b)), (27, (.bool (decide ((((ByteArray.size vs) : Nat) : Int) > 24))))]), ⟨0, 1, []⟩⟩
theorem K3R2 (ks : ByteArray) (vs : ByteArray) (b : Int) : K3EV boxW wd (codeAt [1, 0, 0] BK3) (K3S1 ks vs b) [0, 1, 2, 27] =
  bif (decide ((((ByteArray.size ks) : Nat) : Int) > 16)) then
    some (.normal, (K3S2 ks vs b))
  else
    some (.normal, (K3S3 ks vs b)) := by kernel_rfl
theorem K3R3 (ks : ByteArray) (vs : ByteArray) (b : Int) : K3EV boxW wd (codeAt [1, 0, 1, 1] BK3) (K3S3 ks vs b) [0, 1, 2] =
  some (.normal, (K3S1 ks vs b)) := by kernel_rfl
noncomputable def K3S4 (ks : ByteArray) (vs : ByteArray) (b : Int) : KSt := ⟨(frameL 130 [(0, (.string ks)), (1, (.string vs)), (7, (.int .i64 (IntKind.wrap .i64 ((Int.tmod (IntKind.wrap .i64 b) 12) + 1))))]), ⟨0, 1, []⟩⟩
theorem K3R4 (ks : ByteArray) (vs : ByteArray) (b : Int) : K3EV boxW wd (codeAt [1, 1, 0] BK3) (K3S1 ks vs b) [0, 1, 7] =
  some (.normal, (K3S4 ks vs b)) := by kernel_rfl
noncomputable def K3S5 (ks : ByteArray) (vs : ByteArray) (b : Int) : KSt := ⟨(frameL 130 [(0, (.string ks)), (1, (.string vs)), (7, (.int .i64 ((b % 12) + 1)))]), ⟨0, 1, []⟩⟩
noncomputable def K3S6 (ks : ByteArray) (vs : ByteArray) (b : Int) : KSt := ⟨(frameL 130 [(0, (.string ks)), (1, (.string vs)), (7, (.int .i64 ((b % 12) + 1))), (8, (.pointer none))]), ⟨0, 1, []⟩⟩
noncomputable def K3S7 (ks : ByteArray) (vs : ByteArray) (b : Int) : KSt := ⟨(frameL 130 [(0, (.string ks)), (1, (.string vs)), (7, (.int .i64 ((b % 12) + 1))), (8, (.pointer (some ⟨0, 0, none⟩)))]), ⟨2, 1, [(1, 0, .map [] 0), (0, 0, .cells [(.int .i64 ((b % 12) + 1)), (.int .i64 0), (.int .i64 0), (.int .u64 0), (.map (some 1))] 94 true)]⟩⟩
theorem K3R5 (ks : ByteArray) (vs : ByteArray) (b : Int) : K3EV boxW wd (codeAt [1, 1, 1, 0] BK3) (K3S5 ks vs b) [0, 1, 7, 8] =
  bif (decide (((b % 12) + 1) < 1)) then
    some (.normal, (K3S6 ks vs b))
  else
    bif (decide (((b % 12) + 1) > 65536)) then
      some (.normal, (K3S6 ks vs b))
    else
      some (.normal, (K3S7 ks vs b)) := by kernel_rfl
noncomputable def K3S8 (ks : ByteArray) (vs : ByteArray) (b : Int) : KSt := ⟨(frameL 130 [(0, (.string ks)), (1, (.string vs)), (7, (.int .i64 ((b % 12) + 1))), (8, (.pointer (some ⟨0, 0, none⟩))), (9, (.pointer (some ⟨1, 0, none⟩)))]), ⟨4, 1, [(3, 0, .cells [(.int .u64 (wd ks vs 0)), (.int .u64 (wd ks vs 1)), (.int .u64 (wd ks vs 2))] 30 true), (2, 0, .map [] 0), (1, 0, .cells [(.bool true), (.slice (some ⟨3, 0, none⟩) 3 3), (.int .u64 0), (.int .i64 (-1)), (.int .i64 5), (.int .u64 0), (.int .i64 3), (.int .u64 0), (.int .u64 0)] 88 true), (0, 0, .cells [(.int .i64 ((b % 12) + 1)), (.int .i64 0), (.int .i64 0), (.int .u64 0), (.map (some 2))] 94 true)]⟩⟩
theorem K3R6 (ks : ByteArray) (vs : ByteArray) (b : Int) : K3EV boxW wd (codeAt [1, 1, 1, 1, 0] BK3) (K3S7 ks vs b) [0, 1, 7, 8, 9] =
  bif ((Nat.ble (ByteArray.size ks) 16) && ((Nat.ble (ByteArray.size vs) 24) && (Nat.beq (List.length (boxW ks vs)) 3))) then
    some (.normal, (K3S8 wd ks vs b))
  else
    none := by kernel_rfl
noncomputable def K3S9 (ks : ByteArray) (vs : ByteArray) (b : Int) : KSt := ⟨(frameL 130 [(0, (.string ks)), (1, (.string vs)), (7, (.int .i64 ((b % 12) + 1))), (8, (.pointer (some ⟨0, 0, none⟩))), (9, (.pointer (some ⟨1, 0, none⟩))), (11, (.bool true))]), ⟨4, 1, [(3, 0, .cells [(.int .u64 (wd ks vs 0)), (.int .u64 (wd ks vs 1)), (.int .u64 (wd ks vs 2))] 30 true), (2, 0, .map [] 0), (1, 0, .cells [(.bool true), (.slice (some ⟨3, 0, none⟩) 3 3), (.int .u64 0), (.int .i64 (-1)), (.int .i64 0), (.int .u64 0), (.int .i64 0), (.int .u64 0), (.int .u64 0)] 88 true), (0, 0, .cells [(.int .i64 ((b % 12) + 1)), (.int .i64 0), (.int .i64 0), (.int .u64 0), (.map (some 2))] 94 true)]⟩⟩
noncomputable def K3S10 (ks : ByteArray) (vs : ByteArray) (b : Int) : KSt := ⟨(frameL 130 [(0, (.string ks)), (1, (.string vs)), (7, (.int .i64 ((b % 12) + 1))), (8, (.pointer (some ⟨0, 0, none⟩))), (9, (.pointer (some ⟨1, 0, none⟩))), (11, (.bool true))]), ⟨5, 1, [(4, 0, .ints .u64 (List.set (List.set (List.set (List.replicate 3 (0 : Int)) 0 (wd ks vs 0)) 1 (wd ks vs 1)) 2 (wd ks vs 2)) 30 true), (3, 0, .cells [(.int .u64 (wd ks vs 0)), (.int .u64 (wd ks vs 1)), (.int .u64 (wd ks vs 2))] 30 true), (2, 0, .map [((.int .u64 1), (.slice (some ⟨4, 0, none⟩) 3 3), 0)] 1), (1, 0, .cells [(.bool true), (.slice (some ⟨3, 0, none⟩) 3 3), (.int .u64 1), (.int .i64 3), (.int .i64 0), (.int .u64 0), (.int .i64 0), (.int .u64 0), (.int .u64 0)] 88 true), (0, 0, .cells [(.int .i64 ((b % 12) + 1)), (.int .i64 3), (.int .i64 0), (.int .u64 1), (.map (some 2))] 94 true)]⟩⟩
theorem K3R7 (ks : ByteArray) (vs : ByteArray) (b : Int) : K3EV boxW wd (codeAt [1, 1, 1, 1, 1, 0] BK3) (K3S8 wd ks vs b) [0, 1, 7, 8, 9, 11] =
  bif (decide (3 > (IntKind.wrap .i64 (((b % 12) + 1) - 0)))) then
    some (.normal, (K3S9 wd ks vs b))
  else
    bif (Nat.ble 1 (List.length (List.replicate 3 (0 : Int)))) then
      bif (Nat.ble 2 (List.length (List.set (List.replicate 3 (0 : Int)) 0 (wd ks vs 0)))) then
        bif (Nat.ble 3 (List.length (List.set (List.set (List.replicate 3 (0 : Int)) 0 (wd ks vs 0)) 1 (wd ks vs 1)))) then
          some (.normal, (K3S10 wd ks vs b))
        else
          none
      else
        none
    else
      none := by kernel_rfl
noncomputable def K3S11 (ks : ByteArray) (vs : ByteArray) (b : Int) : KSt := ⟨(frameL 130 [(0, (.string ks)), (1, (.string vs)), (7, (.int .i64 ((b % 12) + 1))), (8, (.pointer (some ⟨0, 0, none⟩))), (11, (.bool true)), (12, (.int .u64 1)), (13, (.bool true))]), ⟨3, 1, [(2, 0, .ints .u64 (List.set (List.set (List.set (List.replicate 3 (0 : Int)) 0 (wd ks vs 0)) 1 (wd ks vs 1)) 2 (wd ks vs 2)) 30 true), (1, 0, .map [((.int .u64 1), (.slice (some ⟨2, 0, none⟩) 3 3), 0)] 1), (0, 0, .cells [(.int .i64 ((b % 12) + 1)), (.int .i64 3), (.int .i64 0), (.int .u64 1), (.map (some 1))] 94 true)]⟩⟩
theorem K3R8 (ks : ByteArray) (vs : ByteArray) (b : Int) : K3EV boxW wd (codeAt [1, 1, 1, 1, 1, 1, 0] BK3) (K3S10 wd ks vs b) [0, 1, 7, 8, 11, 12, 13] =
  some (.normal, (K3S11 wd ks vs b)) := by kernel_rfl
noncomputable def K3S12 (b : Int) (ks : ByteArray) (vs : ByteArray) : KSt := ⟨(frameL 130 [(7, (.int .i64 ((b % 12) + 1))), (8, (.pointer (some ⟨0, 0, none⟩))), (11, (.bool true)), (12, (.int .u64 1)), (13, (.bool true)), (14, (.slice (some ⟨1, 0, none⟩) 3 3))]), ⟨4, 1, [(3, 0, .ints .u64 (List.set (List.set (List.set (List.replicate 3 (0 : Int)) 0 (wd ks vs 0)) 1 (wd ks vs 1)) 2 (wd ks vs 2)) 30 true), (2, 0, .map [((.int .u64 1), (.slice (some ⟨3, 0, none⟩) 3 3), 0)] 1), (1, 0, .cells [(.int .u64 (wd ks vs 0)), (.int .u64 (wd ks vs 1)), (.int .u64 (wd ks vs 2))] 30 true), (0, 0, .cells [(.int .i64 ((b % 12) + 1)), (.int .i64 3), (.int .i64 0), (.int .u64 1), (.map (some 2))] 94 true)]⟩⟩
theorem K3R9 (ks : ByteArray) (vs : ByteArray) (b : Int) : K3EV boxW wd (codeAt [1, 1, 1, 1, 1, 1, 1, 0] BK3) (K3S11 wd ks vs b) [7, 8, 11, 12, 13, 14] =
  bif ((Nat.ble (ByteArray.size ks) 16) && ((Nat.ble (ByteArray.size vs) 24) && (Nat.beq (List.length (boxW ks vs)) 3))) then
    some (.normal, (K3S12 wd b ks vs))
  else
    none := by kernel_rfl
noncomputable def K3S13 (b : Int) (ks : ByteArray) (vs : ByteArray) : KSt := ⟨(frameL 130 [(8, (.pointer (some ⟨0, 0, none⟩))), (12, (.int .u64 1)), (14, (.slice (some ⟨1, 0, none⟩) 3 3)), (70, (.bool (!(false == (decide (3 > ((b % 12) + 1)))))))]), ⟨4, 1, [(3, 0, .ints .u64 (List.set (List.set (List.set (List.replicate 3 (0 : Int)) 0 (wd ks vs 0)) 1 (wd ks vs 1)) 2 (wd ks vs 2)) 30 true), (2, 0, .map [((.int .u64 1), (.slice (some ⟨3, 0, none⟩) 3 3), 0)] 1), (1, 0, .cells [(.int .u64 (wd ks vs 0)), (.int .u64 (wd ks vs 1)), (.int .u64 (wd ks vs 2))] 30 true), (0, 0, .cells [(.int .i64 ((b % 12) + 1)), (.int .i64 3), (.int .i64 0), (.int .u64 1), (.map (some 2))] 94 true)]⟩⟩
theorem K3R10 (b : Int) (ks : ByteArray) (vs : ByteArray) : K3EV boxW wd (codeAt [1, 1, 1, 1, 1, 1, 1, 1, 0, 0] BK3) (K3S12 wd b ks vs) [8, 12, 14, 70] =
  some (.normal, (K3S13 wd b ks vs)) := by kernel_rfl
noncomputable def K3S14 (ks : ByteArray) (vs : ByteArray) (b : Int) : KSt := ⟨(frameL 130 [(8, (.pointer (some ⟨0, 0, none⟩))), (12, (.int .u64 1)), (14, (.slice (some ⟨1, 0, none⟩) 3 3))]), ⟨4, 1, [(3, 0, .ints .u64 (List.set (List.set (List.set (List.replicate 3 (0 : Int)) 0 (wd ks vs 0)) 1 (wd ks vs 1)) 2 (wd ks vs 2)) 30 true), (2, 0, .map [((.int .u64 1), (.slice (some ⟨3, 0, none⟩) 3 3), 0)] 1), (1, 0, .cells [(.int .u64 (wd ks vs 0)), (.int .u64 (wd ks vs 1)), (.int .u64 (wd ks vs 2))] 30 true), (0, 0, .cells [(.int .i64 ((b % 12) + 1)), (.int .i64 3), (.int .i64 0), (.int .u64 1), (.map (some 2))] 94 true)]⟩⟩
theorem K3R11 (b : Int) (ks : ByteArray) (vs : ByteArray) : K3EV boxW wd (codeAt [1, 1, 1, 1, 1, 1, 1, 1, 0, 1, 1] BK3) (K3S13 wd b ks vs) [8, 12, 14] =
  some (.normal, (K3S14 wd ks vs b)) := by kernel_rfl
noncomputable def K3S15 (ks : ByteArray) (vs : ByteArray) (b : Int) : KSt := ⟨(frameL 130 [(8, (.pointer (some ⟨0, 0, none⟩))), (12, (.int .u64 1)), (14, (.slice (some ⟨1, 0, none⟩) 3 3)), (72, (.bool false))]), ⟨4, 1, [(3, 0, .ints .u64 (List.set (List.set (List.set (List.replicate 3 (0 : Int)) 0 (wd ks vs 0)) 1 (wd ks vs 1)) 2 (wd ks vs 2)) 30 true), (2, 0, .map [((.int .u64 1), (.slice (some ⟨3, 0, none⟩) 3 3), 0)] 1), (1, 0, .cells [(.int .u64 (wd ks vs 0)), (.int .u64 (wd ks vs 1)), (.int .u64 (wd ks vs 2))] 30 true), (0, 0, .cells [(.int .i64 ((b % 12) + 1)), (.int .i64 3), (.int .i64 0), (.int .u64 1), (.map (some 2))] 94 true)]⟩⟩
theorem K3R12 (ks : ByteArray) (vs : ByteArray) (b : Int) : K3EV boxW wd (codeAt [1, 1, 1, 1, 1, 1, 1, 1, 1, 0, 0] BK3) (K3S14 wd ks vs b) [8, 12, 14, 72] =
  some (.normal, (K3S15 wd ks vs b)) := by kernel_rfl
theorem K3R13 (ks : ByteArray) (vs : ByteArray) (b : Int) : K3EV boxW wd (codeAt [1, 1, 1, 1, 1, 1, 1, 1, 1, 0, 1, 1] BK3) (K3S15 wd ks vs b) [8, 12, 14] =
  some (.normal, (K3S14 wd ks vs b)) := by kernel_rfl
noncomputable def K3S16 (ks : ByteArray) (vs : ByteArray) (b : Int) : KSt := ⟨(frameL 130 [(8, (.pointer (some ⟨0, 0, none⟩))), (12, (.int .u64 1)), (14, (.slice (some ⟨1, 0, none⟩) 3 3)), (16, (.slice (some ⟨2, 0, none⟩) 0 0))]), ⟨5, 1, [(4, 0, .ints .u64 (List.set (List.set (List.set (List.replicate 3 (0 : Int)) 0 (wd ks vs 0)) 1 (wd ks vs 1)) 2 (wd ks vs 2)) 30 true), (3, 0, .map [((.int .u64 1), (.slice (some ⟨4, 0, none⟩) 3 3), 0)] 1), (2, 0, .cells [] 30 true), (1, 0, .cells [(.int .u64 (wd ks vs 0)), (.int .u64 (wd ks vs 1)), (.int .u64 (wd ks vs 2))] 30 true), (0, 0, .cells [(.int .i64 ((b % 12) + 1)), (.int .i64 3), (.int .i64 0), (.int .u64 1), (.map (some 3))] 94 true)]⟩⟩
theorem K3R14 (ks : ByteArray) (vs : ByteArray) (b : Int) : K3EV boxW wd (codeAt [1, 1, 1, 1, 1, 1, 1, 1, 1, 1, 0] BK3) (K3S14 wd ks vs b) [8, 12, 14, 16] =
  some (.normal, (K3S16 wd ks vs b)) := by kernel_rfl
noncomputable def K3S17 (ks : ByteArray) (vs : ByteArray) (b : Int) : KSt := ⟨(frameL 130 [(8, (.pointer (some ⟨0, 0, none⟩))), (12, (.int .u64 1)), (14, (.slice (some ⟨1, 0, none⟩) 3 3)), (16, (.slice (some ⟨2, 0, none⟩) 0 0)), (17, (.int .i64 0))]), ⟨5, 1, [(4, 0, .ints .u64 (List.set (List.set (List.set (List.replicate 3 (0 : Int)) 0 (wd ks vs 0)) 1 (wd ks vs 1)) 2 (wd ks vs 2)) 30 true), (3, 0, .map [((.int .u64 1), (.slice (some ⟨4, 0, none⟩) 3 3), 0)] 1), (2, 0, .cells [] 30 true), (1, 0, .cells [(.int .u64 (wd ks vs 0)), (.int .u64 (wd ks vs 1)), (.int .u64 (wd ks vs 2))] 30 true), (0, 0, .cells [(.int .i64 ((b % 12) + 1)), (.int .i64 3), (.int .i64 0), (.int .u64 1), (.map (some 3))] 94 true)]⟩⟩
theorem K3R15 (ks : ByteArray) (vs : ByteArray) (b : Int) : K3EV boxW wd (codeAt [1, 1, 1, 1, 1, 1, 1, 1, 1, 1, 1, 0, 0] BK3) (K3S16 wd ks vs b) [8, 12, 14, 16, 17] =
  some (.normal, (K3S17 wd ks vs b)) := by kernel_rfl
noncomputable def K3S18 (ks : ByteArray) (vs : ByteArray) (b : Int) : KSt := ⟨(frameL 130 [(0, (.string ks)), (1, (.string vs)), (7, (.int .i64 ((b % 12) + 1))), (8, (.pointer (some ⟨0, 0, none⟩))), (11, (.bool true)), (12, (.int .u64 0)), (13, (.bool true))]), ⟨2, 1, [(1, 0, .map [] 0), (0, 0, .cells [(.int .i64 ((b % 12) + 1)), (.int .i64 0), (.int .i64 0), (.int .u64 0), (.map (some 1))] 94 true)]⟩⟩
theorem K3R16 (ks : ByteArray) (vs : ByteArray) (b : Int) : K3EV boxW wd (codeAt [1, 1, 1, 1, 1, 1, 0] BK3) (K3S9 wd ks vs b) [0, 1, 7, 8, 11, 12, 13] =
  some (.normal, (K3S18 ks vs b)) := by kernel_rfl
noncomputable def K3S19 (b : Int) (ks : ByteArray) (vs : ByteArray) : KSt := ⟨(frameL 130 [(7, (.int .i64 ((b % 12) + 1))), (8, (.pointer (some ⟨0, 0, none⟩))), (11, (.bool true)), (12, (.int .u64 0)), (13, (.bool true)), (14, (.slice (some ⟨1, 0, none⟩) 3 3))]), ⟨3, 1, [(2, 0, .map [] 0), (1, 0, .cells [(.int .u64 (wd ks vs 0)), (.int .u64 (wd ks vs 1)), (.int .u64 (wd ks vs 2))] 30 true), (0, 0, .cells [(.int .i64 ((b % 12) + 1)), (.int .i64 0), (.int .i64 0), (.int .u64 0), (.map (some 2))] 94 true)]⟩⟩
theorem K3R17 (ks : ByteArray) (vs : ByteArray) (b : Int) : K3EV boxW wd (codeAt [1, 1, 1, 1, 1, 1, 1, 0] BK3) (K3S18 ks vs b) [7, 8, 11, 12, 13, 14] =
  bif ((Nat.ble (ByteArray.size ks) 16) && ((Nat.ble (ByteArray.size vs) 24) && (Nat.beq (List.length (boxW ks vs)) 3))) then
    some (.normal, (K3S19 wd b ks vs))
  else
    none := by kernel_rfl
noncomputable def K3S20 (b : Int) (ks : ByteArray) (vs : ByteArray) : KSt := ⟨(frameL 130 [(8, (.pointer (some ⟨0, 0, none⟩))), (12, (.int .u64 0)), (14, (.slice (some ⟨1, 0, none⟩) 3 3)), (70, (.bool (!(true == (decide (3 > ((b % 12) + 1)))))))]), ⟨3, 1, [(2, 0, .map [] 0), (1, 0, .cells [(.int .u64 (wd ks vs 0)), (.int .u64 (wd ks vs 1)), (.int .u64 (wd ks vs 2))] 30 true), (0, 0, .cells [(.int .i64 ((b % 12) + 1)), (.int .i64 0), (.int .i64 0), (.int .u64 0), (.map (some 2))] 94 true)]⟩⟩
theorem K3R18 (b : Int) (ks : ByteArray) (vs : ByteArray) : K3EV boxW wd (codeAt [1, 1, 1, 1, 1, 1, 1, 1, 0, 0] BK3) (K3S19 wd b ks vs) [8, 12, 14, 70] =
  some (.normal, (K3S20 wd b ks vs)) := by kernel_rfl
noncomputable def K3S21 (ks : ByteArray) (vs : ByteArray) (b : Int) : KSt := ⟨(frameL 130 [(8, (.pointer (some ⟨0, 0, none⟩))), (12, (.int .u64 0)), (14, (.slice (some ⟨1, 0, none⟩) 3 3))]), ⟨3, 1, [(2, 0, .map [] 0), (1, 0, .cells [(.int .u64 (wd ks vs 0)), (.int .u64 (wd ks vs 1)), (.int .u64 (wd ks vs 2))] 30 true), (0, 0, .cells [(.int .i64 ((b % 12) + 1)), (.int .i64 0), (.int .i64 0), (.int .u64 0), (.map (some 2))] 94 true)]⟩⟩
theorem K3R19 (b : Int) (ks : ByteArray) (vs : ByteArray) : K3EV boxW wd (codeAt [1, 1, 1, 1, 1, 1, 1, 1, 0, 1, 1] BK3) (K3S20 wd b ks vs) [8, 12, 14] =
  some (.normal, (K3S21 wd ks vs b)) := by kernel_rfl
noncomputable def K3S22 (ks : ByteArray) (vs : ByteArray) (b : Int) : KSt := ⟨(frameL 130 [(8, (.pointer (some ⟨0, 0, none⟩))), (12, (.int .u64 0)), (14, (.slice (some ⟨1, 0, none⟩) 3 3)), (72, (.bool true))]), ⟨3, 1, [(2, 0, .map [] 0), (1, 0, .cells [(.int .u64 (wd ks vs 0)), (.int .u64 (wd ks vs 1)), (.int .u64 (wd ks vs 2))] 30 true), (0, 0, .cells [(.int .i64 ((b % 12) + 1)), (.int .i64 0), (.int .i64 0), (.int .u64 0), (.map (some 2))] 94 true)]⟩⟩
theorem K3R20 (ks : ByteArray) (vs : ByteArray) (b : Int) : K3EV boxW wd (codeAt [1, 1, 1, 1, 1, 1, 1, 1, 1, 0, 0] BK3) (K3S21 wd ks vs b) [8, 12, 14, 72] =
  some (.normal, (K3S22 wd ks vs b)) := by kernel_rfl
noncomputable def K3S23  : KSt := ⟨(frameL 130 [(6, (.bool true))]), ⟨0, 1, []⟩⟩
theorem K3R21 (ks : ByteArray) (vs : ByteArray) (b : Int) : K3EV boxW wd (codeAt [1, 1, 1, 1, 1, 1, 1, 1, 1, 0, 1, 0, 0] BK3) (K3S22 wd ks vs b) [6] =
  some (.normal, K3S23) := by kernel_rfl
end
theorem K3in {b : Int} {ks : ByteArray} {vs : ByteArray} (hb : 0 ≤ b) (hb2 : b < 256) (h16 : ks.size ≤ 16) (h24 : vs.size ≤ 24) (hM : Nat.beq (boxW ks vs).length 3 = true) (hr : 3 ≤ b % 12 + 1)   {Q : Ex → St → Prop} (hq : Gets Try.prog (KH.low ⟨0, 1, []⟩) (codeAt [1, 1, 1, 1, 1, 1, 1, 1, 1, 1, 1, 0, 1] BK3) (KSt.low (K3S17 wd ks vs b)) (onN (fun s => Gets Try.prog (KH.low ⟨0, 1, []⟩) (codeAt [1, 1, 1, 1, 1, 1, 1, 1, 1, 1, 1, 1] BK3) s (Q)) (Q))) : Gets Try.prog (KH.low ⟨0, 1, []⟩) BK3 (KSt.low (K3S0 ks vs b)) Q := by
  rw [K3C]; refine Gets.seq ?_
  refine K3go (K3R1 boxW wd ks vs b) ?_
  rw [K3C1]; refine Gets.seq ?_
  rw [K3C1_0]; refine Gets.seq ?_
  refine K3go (x := .normal) (s' := (K3S3 ks vs b)) ((K3R2 boxW wd ks vs b).trans (by rw [condF (decide_eq_false (by omega))])) ?_
  rw [K3C1_0_1]; refine Gets.cond false (by kernel_rfl) (K3eX (b := (decide ((((ByteArray.size vs) : Nat) : Int) > 24))) (by kernel_rfl) ((show (decide ((((ByteArray.size vs) : Nat) : Int) > 24)) = false from decide_eq_false (by omega)))) ?_; show Gets _ _ (codeAt [1, 0, 1, 1] BK3) _ _
  refine K3go (K3R3 boxW wd ks vs b) ?_
  rw [K3C1_1]; refine Gets.seq ?_
  refine K3go (x := .normal) (s' := (K3S5 ks vs b)) ((K3R4 boxW wd ks vs b).trans (by (show some (Ex.normal, (K3S4 ks vs b)) = some (Ex.normal, (K3S5 ks vs b)); unfold K3S4 K3S5; rw [(show (IntKind.wrap .i64 ((Int.tmod (IntKind.wrap .i64 b) 12) + 1)) = ((b % 12) + 1) from by rw [wrap_i64_id (n := b) (by omega) (by omega), Int.tmod_eq_emod_of_nonneg hb, wrap_i64_id (by omega) (by omega)])]))) ?_
  rw [K3C1_1_1]; refine Gets.seq ?_
  refine K3go (x := .normal) (s' := (K3S7 ks vs b)) ((K3R5 boxW wd ks vs b).trans (by rw [condF (decide_eq_false (by omega)), condF (decide_eq_false (by omega))])) ?_
  rw [K3C1_1_1_1]; refine Gets.seq ?_
  refine K3go (x := .normal) (s' := (K3S8 wd ks vs b)) ((K3R6 boxW wd ks vs b).trans (by rw [condT (and_t (Nat.ble_eq_true_of_le h16) (and_t (Nat.ble_eq_true_of_le h24) (hM)))])) ?_
  rw [K3C1_1_1_1_1]; refine Gets.seq ?_
  refine K3go (x := .normal) (s' := (K3S10 wd ks vs b)) ((K3R7 boxW wd ks vs b).trans (by rw [condF (decide_eq_false (by (first | omega | ((try simp (disch := omega) only [wrap_i64_id]) <;> omega)))), condT (show (Nat.ble 1 (List.length (List.replicate 3 (0 : Int)))) = true from rfl), condT (show (Nat.ble 2 (List.length (List.set (List.replicate 3 (0 : Int)) 0 (wd ks vs 0)))) = true from rfl), condT (show (Nat.ble 3 (List.length (List.set (List.set (List.replicate 3 (0 : Int)) 0 (wd ks vs 0)) 1 (wd ks vs 1)))) = true from rfl)])) ?_
  rw [K3C1_1_1_1_1_1]; refine Gets.seq ?_
  refine K3go (K3R8 boxW wd ks vs b) ?_
  rw [K3C1_1_1_1_1_1_1]; refine Gets.seq ?_
  refine K3go (x := .normal) (s' := (K3S12 wd b ks vs)) ((K3R9 boxW wd ks vs b).trans (by rw [condT (and_t (Nat.ble_eq_true_of_le h16) (and_t (Nat.ble_eq_true_of_le h24) (hM)))])) ?_
  rw [K3C1_1_1_1_1_1_1_1]; refine Gets.seq ?_
  rw [K3C1_1_1_1_1_1_1_1_0]; refine Gets.seq ?_
  refine K3go (K3R10 boxW wd b ks vs) ?_
  rw [K3C1_1_1_1_1_1_1_1_0_1]; refine Gets.cond false (by kernel_rfl) (K3eX (b := (!(false == (decide (3 > ((b % 12) + 1)))))) (by kernel_rfl) ((show (!(false == (decide (3 > ((b % 12) + 1))))) = false from not_f (fd_ (by omega))))) ?_; show Gets _ _ (codeAt [1, 1, 1, 1, 1, 1, 1, 1, 0, 1, 1] BK3) _ _
  refine K3go (K3R11 boxW wd b ks vs) ?_
  rw [K3C1_1_1_1_1_1_1_1_1]; refine Gets.seq ?_
  rw [K3C1_1_1_1_1_1_1_1_1_0]; refine Gets.seq ?_
  refine K3go (K3R12 boxW wd ks vs b) ?_
  rw [K3C1_1_1_1_1_1_1_1_1_0_1]; refine Gets.cond false (by kernel_rfl) (by kernel_rfl) ?_; show Gets _ _ (codeAt [1, 1, 1, 1, 1, 1, 1, 1, 1, 0, 1, 1] BK3) _ _
  refine K3go (K3R13 boxW wd ks vs b) ?_
  rw [K3C1_1_1_1_1_1_1_1_1_1]; refine Gets.seq ?_
  refine K3go (K3R14 boxW wd ks vs b) ?_
  rw [K3C1_1_1_1_1_1_1_1_1_1_1]; refine Gets.seq ?_
  rw [K3C1_1_1_1_1_1_1_1_1_1_1_0]; refine Gets.seq ?_
  refine K3go (K3R15 boxW wd ks vs b) ?_
  exact hq
theorem K3no {b : Int} {ks : ByteArray} {vs : ByteArray} (hb : 0 ≤ b) (hb2 : b < 256) (h16 : ks.size ≤ 16) (h24 : vs.size ≤ 24) (hM : Nat.beq (boxW ks vs).length 3 = true) (hr : b % 12 + 1 < 3)   {Q : Ex → St → Prop} (hq : Q .ret (KSt.low K3S23)) : Gets Try.prog (KH.low ⟨0, 1, []⟩) BK3 (KSt.low (K3S0 ks vs b)) Q := by
  rw [K3C]; refine Gets.seq ?_
  refine K3go (K3R1 boxW wd ks vs b) ?_
  rw [K3C1]; refine Gets.seq ?_
  rw [K3C1_0]; refine Gets.seq ?_
  refine K3go (x := .normal) (s' := (K3S3 ks vs b)) ((K3R2 boxW wd ks vs b).trans (by rw [condF (decide_eq_false (by omega))])) ?_
  rw [K3C1_0_1]; refine Gets.cond false (by kernel_rfl) (K3eX (b := (decide ((((ByteArray.size vs) : Nat) : Int) > 24))) (by kernel_rfl) ((show (decide ((((ByteArray.size vs) : Nat) : Int) > 24)) = false from decide_eq_false (by omega)))) ?_; show Gets _ _ (codeAt [1, 0, 1, 1] BK3) _ _
  refine K3go (K3R3 boxW wd ks vs b) ?_
  rw [K3C1_1]; refine Gets.seq ?_
  refine K3go (x := .normal) (s' := (K3S5 ks vs b)) ((K3R4 boxW wd ks vs b).trans (by (show some (Ex.normal, (K3S4 ks vs b)) = some (Ex.normal, (K3S5 ks vs b)); unfold K3S4 K3S5; rw [(show (IntKind.wrap .i64 ((Int.tmod (IntKind.wrap .i64 b) 12) + 1)) = ((b % 12) + 1) from by rw [wrap_i64_id (n := b) (by omega) (by omega), Int.tmod_eq_emod_of_nonneg hb, wrap_i64_id (by omega) (by omega)])]))) ?_
  rw [K3C1_1_1]; refine Gets.seq ?_
  refine K3go (x := .normal) (s' := (K3S7 ks vs b)) ((K3R5 boxW wd ks vs b).trans (by rw [condF (decide_eq_false (by omega)), condF (decide_eq_false (by omega))])) ?_
  rw [K3C1_1_1_1]; refine Gets.seq ?_
  refine K3go (x := .normal) (s' := (K3S8 wd ks vs b)) ((K3R6 boxW wd ks vs b).trans (by rw [condT (and_t (Nat.ble_eq_true_of_le h16) (and_t (Nat.ble_eq_true_of_le h24) (hM)))])) ?_
  rw [K3C1_1_1_1_1]; refine Gets.seq ?_
  refine K3go (x := .normal) (s' := (K3S9 wd ks vs b)) ((K3R7 boxW wd ks vs b).trans (by rw [condT (decide_eq_true (by (first | omega | ((try simp (disch := omega) only [wrap_i64_id]) <;> omega))))])) ?_
  rw [K3C1_1_1_1_1_1]; refine Gets.seq ?_
  refine K3go (K3R16 boxW wd ks vs b) ?_
  rw [K3C1_1_1_1_1_1_1]; refine Gets.seq ?_
  refine K3go (x := .normal) (s' := (K3S19 wd b ks vs)) ((K3R17 boxW wd ks vs b).trans (by rw [condT (and_t (Nat.ble_eq_true_of_le h16) (and_t (Nat.ble_eq_true_of_le h24) (hM)))])) ?_
  rw [K3C1_1_1_1_1_1_1_1]; refine Gets.seq ?_
  rw [K3C1_1_1_1_1_1_1_1_0]; refine Gets.seq ?_
  refine K3go (K3R18 boxW wd b ks vs) ?_
  rw [K3C1_1_1_1_1_1_1_1_0_1]; refine Gets.cond false (by kernel_rfl) (K3eX (b := (!(true == (decide (3 > ((b % 12) + 1)))))) (by kernel_rfl) ((show (!(true == (decide (3 > ((b % 12) + 1))))) = false from not_f (td_ (by omega))))) ?_; show Gets _ _ (codeAt [1, 1, 1, 1, 1, 1, 1, 1, 0, 1, 1] BK3) _ _
  refine K3go (K3R19 boxW wd b ks vs) ?_
  rw [K3C1_1_1_1_1_1_1_1_1]; refine Gets.seq ?_
  rw [K3C1_1_1_1_1_1_1_1_1_0]; refine Gets.seq ?_
  refine K3go (K3R20 boxW wd ks vs b) ?_
  rw [K3C1_1_1_1_1_1_1_1_1_0_1]; refine Gets.cond true (by kernel_rfl) (by kernel_rfl) ?_; show Gets _ _ (codeAt [1, 1, 1, 1, 1, 1, 1, 1, 1, 0, 1, 0] BK3) _ _
  rw [K3C1_1_1_1_1_1_1_1_1_0_1_0]; refine Gets.seq ?_
  refine K3go (K3R21 boxW wd ks vs b) ?_
  rw [K3C1_1_1_1_1_1_1_1_1_0_1_0_1]; refine Gets.ev fitK.mix fitK.cfg (fitK.sound mm3_sound 70 0) 70 rfl (s' := KSt.low K3S23) (x := .ret) rfl ?_
  exact hq
noncomputable def BK4 : Code := bodyOf Try.prog 9
theorem BK4_is : Try.f9.body = some BK4 := by kernel_rfl
theorem BK4_ok : okCode Try.prog.globals.size BK4 = true := by kernel_rfl
noncomputable abbrev K4EV (boxW : ByteArray → ByteArray → List Int) (wd : ByteArray → ByteArray → Nat → Int) (c : Code) (s : KSt) (lv : List Nat) : Option (Ex × KSt) := evCK Try.prog cfgK (runK Try.prog cfgK fsK (conTk mm4Dom (rcK [] (mm4T boxW wd))) 70 40) 70 c s (normC 0 lv)
theorem K4go {lv_ : List Nat} {co_ : Code} {st_ s' : KSt} {x : Ex} {Q : Ex → St → Prop} (hE_ : K4EV boxW wd co_ st_ lv_ = some (x, s')) (hq_ : Q x s'.low) (hok_ : okCode Try.prog.globals.size co_ = true := by kernel_rfl) : Gets Try.prog (KH.low ⟨0, 1, []⟩) co_ st_.low Q := Gets.ofN fitK mm4_sound (rc_agree _ _ _) 70 40 hok_ hE_ hq_
theorem K4eX {v : Value} {b c : Bool} (h : v = .bool b) (hb : b = c) : v = .bool c := by rw [h, hb]
theorem K4C : BK4 = .seq (codeAt [0] BK4) (codeAt [1] BK4) := by kernel_rfl
theorem K4C1 : (codeAt [1] BK4) = .seq (codeAt [1, 0] BK4) (codeAt [1, 1] BK4) := by kernel_rfl
theorem K4C1_0 : (codeAt [1, 0] BK4) = .seq (codeAt [1, 0, 0] BK4) (codeAt [1, 0, 1] BK4) := by kernel_rfl
theorem K4C1_0_1 : (codeAt [1, 0, 1] BK4) = .cond (.tmp 27) (codeAt [1, 0, 1, 0] BK4) (codeAt [1, 0, 1, 1] BK4) := by kernel_rfl
theorem K4C1_1 : (codeAt [1, 1] BK4) = .seq (codeAt [1, 1, 0] BK4) (codeAt [1, 1, 1] BK4) := by kernel_rfl
theorem K4C1_1_1 : (codeAt [1, 1, 1] BK4) = .seq (codeAt [1, 1, 1, 0] BK4) (codeAt [1, 1, 1, 1] BK4) := by kernel_rfl
theorem K4C1_1_1_1 : (codeAt [1, 1, 1, 1] BK4) = .seq (codeAt [1, 1, 1, 1, 0] BK4) (codeAt [1, 1, 1, 1, 1] BK4) := by kernel_rfl
theorem K4C1_1_1_1_1 : (codeAt [1, 1, 1, 1, 1] BK4) = .seq (codeAt [1, 1, 1, 1, 1, 0] BK4) (codeAt [1, 1, 1, 1, 1, 1] BK4) := by kernel_rfl
theorem K4C1_1_1_1_1_1 : (codeAt [1, 1, 1, 1, 1, 1] BK4) = .seq (codeAt [1, 1, 1, 1, 1, 1, 0] BK4) (codeAt [1, 1, 1, 1, 1, 1, 1] BK4) := by kernel_rfl
theorem K4C1_1_1_1_1_1_1 : (codeAt [1, 1, 1, 1, 1, 1, 1] BK4) = .seq (codeAt [1, 1, 1, 1, 1, 1, 1, 0] BK4) (codeAt [1, 1, 1, 1, 1, 1, 1, 1] BK4) := by kernel_rfl
theorem K4C1_1_1_1_1_1_1_1 : (codeAt [1, 1, 1, 1, 1, 1, 1, 1] BK4) = .seq (codeAt [1, 1, 1, 1, 1, 1, 1, 1, 0] BK4) (codeAt [1, 1, 1, 1, 1, 1, 1, 1, 1] BK4) := by kernel_rfl
theorem K4C1_1_1_1_1_1_1_1_0 : (codeAt [1, 1, 1, 1, 1, 1, 1, 1, 0] BK4) = .seq (codeAt [1, 1, 1, 1, 1, 1, 1, 1, 0, 0] BK4) (codeAt [1, 1, 1, 1, 1, 1, 1, 1, 0, 1] BK4) := by kernel_rfl
theorem K4C1_1_1_1_1_1_1_1_0_1 : (codeAt [1, 1, 1, 1, 1, 1, 1, 1, 0, 1] BK4) = .cond (.tmp 70) (codeAt [1, 1, 1, 1, 1, 1, 1, 1, 0, 1, 0] BK4) (codeAt [1, 1, 1, 1, 1, 1, 1, 1, 0, 1, 1] BK4) := by kernel_rfl
theorem K4C1_1_1_1_1_1_1_1_1 : (codeAt [1, 1, 1, 1, 1, 1, 1, 1, 1] BK4) = .seq (codeAt [1, 1, 1, 1, 1, 1, 1, 1, 1, 0] BK4) (codeAt [1, 1, 1, 1, 1, 1, 1, 1, 1, 1] BK4) := by kernel_rfl
theorem K4C1_1_1_1_1_1_1_1_1_0 : (codeAt [1, 1, 1, 1, 1, 1, 1, 1, 1, 0] BK4) = .seq (codeAt [1, 1, 1, 1, 1, 1, 1, 1, 1, 0, 0] BK4) (codeAt [1, 1, 1, 1, 1, 1, 1, 1, 1, 0, 1] BK4) := by kernel_rfl
theorem K4C1_1_1_1_1_1_1_1_1_0_1 : (codeAt [1, 1, 1, 1, 1, 1, 1, 1, 1, 0, 1] BK4) = .cond (.tmp 72) (codeAt [1, 1, 1, 1, 1, 1, 1, 1, 1, 0, 1, 0] BK4) (codeAt [1, 1, 1, 1, 1, 1, 1, 1, 1, 0, 1, 1] BK4) := by kernel_rfl
theorem K4C1_1_1_1_1_1_1_1_1_1 : (codeAt [1, 1, 1, 1, 1, 1, 1, 1, 1, 1] BK4) = .seq (codeAt [1, 1, 1, 1, 1, 1, 1, 1, 1, 1, 0] BK4) (codeAt [1, 1, 1, 1, 1, 1, 1, 1, 1, 1, 1] BK4) := by kernel_rfl
theorem K4C1_1_1_1_1_1_1_1_1_1_1 : (codeAt [1, 1, 1, 1, 1, 1, 1, 1, 1, 1, 1] BK4) = .seq (codeAt [1, 1, 1, 1, 1, 1, 1, 1, 1, 1, 1, 0] BK4) (codeAt [1, 1, 1, 1, 1, 1, 1, 1, 1, 1, 1, 1] BK4) := by kernel_rfl
theorem K4C1_1_1_1_1_1_1_1_1_1_1_0 : (codeAt [1, 1, 1, 1, 1, 1, 1, 1, 1, 1, 1, 0] BK4) = .seq (codeAt [1, 1, 1, 1, 1, 1, 1, 1, 1, 1, 1, 0, 0] BK4) (codeAt [1, 1, 1, 1, 1, 1, 1, 1, 1, 1, 1, 0, 1] BK4) := by kernel_rfl
theorem K4C1_1_1_1_1_1_1_1_1_0_1_0 : (codeAt [1, 1, 1, 1, 1, 1, 1, 1, 1, 0, 1, 0] BK4) = .seq (codeAt [1, 1, 1, 1, 1, 1, 1, 1, 1, 0, 1, 0, 0] BK4) (codeAt [1, 1, 1, 1, 1, 1, 1, 1, 1, 0, 1, 0, 1] BK4) := by kernel_rfl
theorem K4C1_1_1_1_1_1_1_1_1_0_1_0_1 : (codeAt [1, 1, 1, 1, 1, 1, 1, 1, 1, 0, 1, 0, 1] BK4) = .ret := by kernel_rfl
section
variable (boxW : ByteArray → ByteArray → List Int) (wd : ByteArray → ByteArray → Nat → Int)
noncomputable def K4S0 (ks : ByteArray) (vs : ByteArray) (b : Int) : KSt := (firstK [(.string ks), (.string vs), (.int .u8 b)] 130 ⟨0, 1, []⟩)
noncomputable def K4S1 (ks : ByteArray) (vs : ByteArray) (b : Int) : KSt := ⟨(frameL 130 [(0, (.string ks)), (1, (.string vs)), (2, (.int .u8 b))]), ⟨0, 1, []⟩⟩
theorem K4R1 (ks : ByteArray) (vs : ByteArray) (b : Int) : K4EV boxW wd (codeAt [0] BK4) (K4S0 ks vs b) [0, 1, 2] =
  some (.normal, (K4S1 ks vs b)) := by kernel_rfl
noncomputable def K4S2 (ks : ByteArray) (vs : ByteArray) (b : Int) : KSt := ⟨(frameL 130 [(0, (.string ks)), (1, (.string vs)), (2, (.int .u8 b)), (27, (.bool true))]), ⟨0, 1, []⟩⟩
noncomputable def K4S3 (ks : ByteArray) (vs : ByteArray) (b : Int) : KSt := ⟨(frameL 130 [(0, (.string ks)), (1, (.string vs)), (2, (.int .u8 b)), (27, (.bool (decide ((((ByteArray.size vs) : Nat) : Int) > 24))))]), ⟨0, 1, []⟩⟩
theorem K4R2 (ks : ByteArray) (vs : ByteArray) (b : Int) : K4EV boxW wd (codeAt [1, 0, 0] BK4) (K4S1 ks vs b) [0, 1, 2, 27] =
  bif (decide ((((ByteArray.size ks) : Nat) : Int) > 16)) then
    some (.normal, (K4S2 ks vs b))
  else
    some (.normal, (K4S3 ks vs b)) := by kernel_rfl
theorem K4R3 (ks : ByteArray) (vs : ByteArray) (b : Int) : K4EV boxW wd (codeAt [1, 0, 1, 1] BK4) (K4S3 ks vs b) [0, 1, 2] =
  some (.normal, (K4S1 ks vs b)) := by kernel_rfl
noncomputable def K4S4 (ks : ByteArray) (vs : ByteArray) (b : Int) : KSt := ⟨(frameL 130 [(0, (.string ks)), (1, (.string vs)), (7, (.int .i64 (IntKind.wrap .i64 ((Int.tmod (IntKind.wrap .i64 b) 12) + 1))))]), ⟨0, 1, []⟩⟩
theorem K4R4 (ks : ByteArray) (vs : ByteArray) (b : Int) : K4EV boxW wd (codeAt [1, 1, 0] BK4) (K4S1 ks vs b) [0, 1, 7] =
  some (.normal, (K4S4 ks vs b)) := by kernel_rfl
noncomputable def K4S5 (ks : ByteArray) (vs : ByteArray) (b : Int) : KSt := ⟨(frameL 130 [(0, (.string ks)), (1, (.string vs)), (7, (.int .i64 ((b % 12) + 1)))]), ⟨0, 1, []⟩⟩
noncomputable def K4S6 (ks : ByteArray) (vs : ByteArray) (b : Int) : KSt := ⟨(frameL 130 [(0, (.string ks)), (1, (.string vs)), (7, (.int .i64 ((b % 12) + 1))), (8, (.pointer none))]), ⟨0, 1, []⟩⟩
noncomputable def K4S7 (ks : ByteArray) (vs : ByteArray) (b : Int) : KSt := ⟨(frameL 130 [(0, (.string ks)), (1, (.string vs)), (7, (.int .i64 ((b % 12) + 1))), (8, (.pointer (some ⟨0, 0, none⟩)))]), ⟨2, 1, [(1, 0, .map [] 0), (0, 0, .cells [(.int .i64 ((b % 12) + 1)), (.int .i64 0), (.int .i64 0), (.int .u64 0), (.map (some 1))] 94 true)]⟩⟩
theorem K4R5 (ks : ByteArray) (vs : ByteArray) (b : Int) : K4EV boxW wd (codeAt [1, 1, 1, 0] BK4) (K4S5 ks vs b) [0, 1, 7, 8] =
  bif (decide (((b % 12) + 1) < 1)) then
    some (.normal, (K4S6 ks vs b))
  else
    bif (decide (((b % 12) + 1) > 65536)) then
      some (.normal, (K4S6 ks vs b))
    else
      some (.normal, (K4S7 ks vs b)) := by kernel_rfl
noncomputable def K4S8 (ks : ByteArray) (vs : ByteArray) (b : Int) : KSt := ⟨(frameL 130 [(0, (.string ks)), (1, (.string vs)), (7, (.int .i64 ((b % 12) + 1))), (8, (.pointer (some ⟨0, 0, none⟩))), (9, (.pointer (some ⟨1, 0, none⟩)))]), ⟨4, 1, [(3, 0, .cells [(.int .u64 (wd ks vs 0)), (.int .u64 (wd ks vs 1)), (.int .u64 (wd ks vs 2)), (.int .u64 (wd ks vs 3))] 30 true), (2, 0, .map [] 0), (1, 0, .cells [(.bool true), (.slice (some ⟨3, 0, none⟩) 4 4), (.int .u64 0), (.int .i64 (-1)), (.int .i64 5), (.int .u64 0), (.int .i64 4), (.int .u64 0), (.int .u64 0)] 88 true), (0, 0, .cells [(.int .i64 ((b % 12) + 1)), (.int .i64 0), (.int .i64 0), (.int .u64 0), (.map (some 2))] 94 true)]⟩⟩
theorem K4R6 (ks : ByteArray) (vs : ByteArray) (b : Int) : K4EV boxW wd (codeAt [1, 1, 1, 1, 0] BK4) (K4S7 ks vs b) [0, 1, 7, 8, 9] =
  bif ((Nat.ble (ByteArray.size ks) 16) && ((Nat.ble (ByteArray.size vs) 24) && (Nat.beq (List.length (boxW ks vs)) 4))) then
    some (.normal, (K4S8 wd ks vs b))
  else
    none := by kernel_rfl
noncomputable def K4S9 (ks : ByteArray) (vs : ByteArray) (b : Int) : KSt := ⟨(frameL 130 [(0, (.string ks)), (1, (.string vs)), (7, (.int .i64 ((b % 12) + 1))), (8, (.pointer (some ⟨0, 0, none⟩))), (9, (.pointer (some ⟨1, 0, none⟩))), (11, (.bool true))]), ⟨4, 1, [(3, 0, .cells [(.int .u64 (wd ks vs 0)), (.int .u64 (wd ks vs 1)), (.int .u64 (wd ks vs 2)), (.int .u64 (wd ks vs 3))] 30 true), (2, 0, .map [] 0), (1, 0, .cells [(.bool true), (.slice (some ⟨3, 0, none⟩) 4 4), (.int .u64 0), (.int .i64 (-1)), (.int .i64 0), (.int .u64 0), (.int .i64 0), (.int .u64 0), (.int .u64 0)] 88 true), (0, 0, .cells [(.int .i64 ((b % 12) + 1)), (.int .i64 0), (.int .i64 0), (.int .u64 0), (.map (some 2))] 94 true)]⟩⟩
noncomputable def K4S10 (ks : ByteArray) (vs : ByteArray) (b : Int) : KSt := ⟨(frameL 130 [(0, (.string ks)), (1, (.string vs)), (7, (.int .i64 ((b % 12) + 1))), (8, (.pointer (some ⟨0, 0, none⟩))), (9, (.pointer (some ⟨1, 0, none⟩))), (11, (.bool true))]), ⟨5, 1, [(4, 0, .ints .u64 (List.set (List.set (List.set (List.set (List.replicate 4 (0 : Int)) 0 (wd ks vs 0)) 1 (wd ks vs 1)) 2 (wd ks vs 2)) 3 (wd ks vs 3)) 30 true), (3, 0, .cells [(.int .u64 (wd ks vs 0)), (.int .u64 (wd ks vs 1)), (.int .u64 (wd ks vs 2)), (.int .u64 (wd ks vs 3))] 30 true), (2, 0, .map [((.int .u64 1), (.slice (some ⟨4, 0, none⟩) 4 4), 0)] 1), (1, 0, .cells [(.bool true), (.slice (some ⟨3, 0, none⟩) 4 4), (.int .u64 1), (.int .i64 4), (.int .i64 0), (.int .u64 0), (.int .i64 0), (.int .u64 0), (.int .u64 0)] 88 true), (0, 0, .cells [(.int .i64 ((b % 12) + 1)), (.int .i64 4), (.int .i64 0), (.int .u64 1), (.map (some 2))] 94 true)]⟩⟩
theorem K4R7 (ks : ByteArray) (vs : ByteArray) (b : Int) : K4EV boxW wd (codeAt [1, 1, 1, 1, 1, 0] BK4) (K4S8 wd ks vs b) [0, 1, 7, 8, 9, 11] =
  bif (decide (4 > (IntKind.wrap .i64 (((b % 12) + 1) - 0)))) then
    some (.normal, (K4S9 wd ks vs b))
  else
    bif (Nat.ble 1 (List.length (List.replicate 4 (0 : Int)))) then
      bif (Nat.ble 2 (List.length (List.set (List.replicate 4 (0 : Int)) 0 (wd ks vs 0)))) then
        bif (Nat.ble 3 (List.length (List.set (List.set (List.replicate 4 (0 : Int)) 0 (wd ks vs 0)) 1 (wd ks vs 1)))) then
          bif (Nat.ble 4 (List.length (List.set (List.set (List.set (List.replicate 4 (0 : Int)) 0 (wd ks vs 0)) 1 (wd ks vs 1)) 2 (wd ks vs 2)))) then
            some (.normal, (K4S10 wd ks vs b))
          else
            none
        else
          none
      else
        none
    else
      none := by kernel_rfl
noncomputable def K4S11 (ks : ByteArray) (vs : ByteArray) (b : Int) : KSt := ⟨(frameL 130 [(0, (.string ks)), (1, (.string vs)), (7, (.int .i64 ((b % 12) + 1))), (8, (.pointer (some ⟨0, 0, none⟩))), (11, (.bool true)), (12, (.int .u64 1)), (13, (.bool true))]), ⟨3, 1, [(2, 0, .ints .u64 (List.set (List.set (List.set (List.set (List.replicate 4 (0 : Int)) 0 (wd ks vs 0)) 1 (wd ks vs 1)) 2 (wd ks vs 2)) 3 (wd ks vs 3)) 30 true), (1, 0, .map [((.int .u64 1), (.slice (some ⟨2, 0, none⟩) 4 4), 0)] 1), (0, 0, .cells [(.int .i64 ((b % 12) + 1)), (.int .i64 4), (.int .i64 0), (.int .u64 1), (.map (some 1))] 94 true)]⟩⟩
theorem K4R8 (ks : ByteArray) (vs : ByteArray) (b : Int) : K4EV boxW wd (codeAt [1, 1, 1, 1, 1, 1, 0] BK4) (K4S10 wd ks vs b) [0, 1, 7, 8, 11, 12, 13] =
  some (.normal, (K4S11 wd ks vs b)) := by kernel_rfl
noncomputable def K4S12 (b : Int) (ks : ByteArray) (vs : ByteArray) : KSt := ⟨(frameL 130 [(7, (.int .i64 ((b % 12) + 1))), (8, (.pointer (some ⟨0, 0, none⟩))), (11, (.bool true)), (12, (.int .u64 1)), (13, (.bool true)), (14, (.slice (some ⟨1, 0, none⟩) 4 4))]), ⟨4, 1, [(3, 0, .ints .u64 (List.set (List.set (List.set (List.set (List.replicate 4 (0 : Int)) 0 (wd ks vs 0)) 1 (wd ks vs 1)) 2 (wd ks vs 2)) 3 (wd ks vs 3)) 30 true), (2, 0, .map [((.int .u64 1), (.slice (some ⟨3, 0, none⟩) 4 4), 0)] 1), (1, 0, .cells [(.int .u64 (wd ks vs 0)), (.int .u64 (wd ks vs 1)), (.int .u64 (wd ks vs 2)), (.int .u64 (wd ks vs 3))] 30 true), (0, 0, .cells [(.int .i64 ((b % 12) + 1)), (.int .i64 4), (.int .i64 0), (.int .u64 1), (.map (some 2))] 94 true)]⟩⟩
theorem K4R9 (ks : ByteArray) (vs : ByteArray) (b : Int) : K4EV boxW wd (codeAt [1, 1, 1, 1, 1, 1, 1, 0] BK4) (K4S11 wd ks vs b) [7, 8, 11, 12, 13, 14] =
  bif ((Nat.ble (ByteArray.size ks) 16) && ((Nat.ble (ByteArray.size vs) 24) && (Nat.beq (List.length (boxW ks vs)) 4))) then
    some (.normal, (K4S12 wd b ks vs))
  else
    none := by kernel_rfl
noncomputable def K4S13 (b : Int) (ks : ByteArray) (vs : ByteArray) : KSt := ⟨(frameL 130 [(8, (.pointer (some ⟨0, 0, none⟩))), (12, (.int .u64 1)), (14, (.slice (some ⟨1, 0, none⟩) 4 4)), (70, (.bool (!(false == (decide (4 > ((b % 12) + 1)))))))]), ⟨4, 1, [(3, 0, .ints .u64 (List.set (List.set (List.set (List.set (List.replicate 4 (0 : Int)) 0 (wd ks vs 0)) 1 (wd ks vs 1)) 2 (wd ks vs 2)) 3 (wd ks vs 3)) 30 true), (2, 0, .map [((.int .u64 1), (.slice (some ⟨3, 0, none⟩) 4 4), 0)] 1), (1, 0, .cells [(.int .u64 (wd ks vs 0)), (.int .u64 (wd ks vs 1)), (.int .u64 (wd ks vs 2)), (.int .u64 (wd ks vs 3))] 30 true), (0, 0, .cells [(.int .i64 ((b % 12) + 1)), (.int .i64 4), (.int .i64 0), (.int .u64 1), (.map (some 2))] 94 true)]⟩⟩
theorem K4R10 (b : Int) (ks : ByteArray) (vs : ByteArray) : K4EV boxW wd (codeAt [1, 1, 1, 1, 1, 1, 1, 1, 0, 0] BK4) (K4S12 wd b ks vs) [8, 12, 14, 70] =
  some (.normal, (K4S13 wd b ks vs)) := by kernel_rfl
noncomputable def K4S14 (ks : ByteArray) (vs : ByteArray) (b : Int) : KSt := ⟨(frameL 130 [(8, (.pointer (some ⟨0, 0, none⟩))), (12, (.int .u64 1)), (14, (.slice (some ⟨1, 0, none⟩) 4 4))]), ⟨4, 1, [(3, 0, .ints .u64 (List.set (List.set (List.set (List.set (List.replicate 4 (0 : Int)) 0 (wd ks vs 0)) 1 (wd ks vs 1)) 2 (wd ks vs 2)) 3 (wd ks vs 3)) 30 true), (2, 0, .map [((.int .u64 1), (.slice (some ⟨3, 0, none⟩) 4 4), 0)] 1), (1, 0, .cells [(.int .u64 (wd ks vs 0)), (.int .u64 (wd ks vs 1)), (.int .u64 (wd ks vs 2)), (.int .u64 (wd ks vs 3))] 30 true), (0, 0, .cells [(.int .i64 ((b % 12) + 1)), (.int .i64 4), (.int .i64 0), (.int .u64 1), (.map (some 2))] 94 true)]⟩⟩
theorem K4R11 (b : Int) (ks : ByteArray) (vs : ByteArray) : K4EV boxW wd (codeAt [1, 1, 1, 1, 1, 1, 1, 1, 0, 1, 1] BK4) (K4S13 wd b ks vs) [8, 12, 14] =
  some (.normal, (K4S14 wd ks vs b)) := by kernel_rfl
noncomputable def K4S15 (ks : ByteArray) (vs : ByteArray) (b : Int) : KSt := ⟨(frameL 130 [(8, (.pointer (some ⟨0, 0, none⟩))), (12, (.int .u64 1)), (14, (.slice (some ⟨1, 0, none⟩) 4 4)), (72, (.bool false))]), ⟨4, 1, [(3, 0, .ints .u64 (List.set (List.set (List.set (List.set (List.replicate 4 (0 : Int)) 0 (wd ks vs 0)) 1 (wd ks vs 1)) 2 (wd ks vs 2)) 3 (wd ks vs 3)) 30 true), (2, 0, .map [((.int .u64 1), (.slice (some ⟨3, 0, none⟩) 4 4), 0)] 1), (1, 0, .cells [(.int .u64 (wd ks vs 0)), (.int .u64 (wd ks vs 1)), (.int .u64 (wd ks vs 2)), (.int .u64 (wd ks vs 3))] 30 true), (0, 0, .cells [(.int .i64 ((b % 12) + 1)), (.int .i64 4), (.int .i64 0), (.int .u64 1), (.map (some 2))] 94 true)]⟩⟩
theorem K4R12 (ks : ByteArray) (vs : ByteArray) (b : Int) : K4EV boxW wd (codeAt [1, 1, 1, 1, 1, 1, 1, 1, 1, 0, 0] BK4) (K4S14 wd ks vs b) [8, 12, 14, 72] =
  some (.normal, (K4S15 wd ks vs b)) := by kernel_rfl
theorem K4R13 (ks : ByteArray) (vs : ByteArray) (b : Int) : K4EV boxW wd (codeAt [1, 1, 1, 1, 1, 1, 1, 1, 1, 0, 1, 1] BK4) (K4S15 wd ks vs b) [8, 12, 14] =
  some (.normal, (K4S14 wd ks vs b)) := by kernel_rfl
noncomputable def K4S16 (ks : ByteArray) (vs : ByteArray) (b : Int) : KSt := ⟨(frameL 130 [(8, (.pointer (some ⟨0, 0, none⟩))), (12, (.int .u64 1)), (14, (.slice (some ⟨1, 0, none⟩) 4 4)), (16, (.slice (some ⟨2, 0, none⟩) 0 0))]), ⟨5, 1, [(4, 0, .ints .u64 (List.set (List.set (List.set (List.set (List.replicate 4 (0 : Int)) 0 (wd ks vs 0)) 1 (wd ks vs 1)) 2 (wd ks vs 2)) 3 (wd ks vs 3)) 30 true), (3, 0, .map [((.int .u64 1), (.slice (some ⟨4, 0, none⟩) 4 4), 0)] 1), (2, 0, .cells [] 30 true), (1, 0, .cells [(.int .u64 (wd ks vs 0)), (.int .u64 (wd ks vs 1)), (.int .u64 (wd ks vs 2)), (.int .u64 (wd ks vs 3))] 30 true), (0, 0, .cells [(.int .i64 ((b % 12) + 1)), (.int .i64 4), (.int .i64 0), (.int .u64 1), (.map (some 3))] 94 true)]⟩⟩
theorem K4R14 (ks : ByteArray) (vs : ByteArray) (b : Int) : K4EV boxW wd (codeAt [1, 1, 1, 1, 1, 1, 1, 1, 1, 1, 0] BK4) (K4S14 wd ks vs b) [8, 12, 14, 16] =
  some (.normal, (K4S16 wd ks vs b)) := by kernel_rfl
noncomputable def K4S17 (ks : ByteArray) (vs : ByteArray) (b : Int) : KSt := ⟨(frameL 130 [(8, (.pointer (some ⟨0, 0, none⟩))), (12, (.int .u64 1)), (14, (.slice (some ⟨1, 0, none⟩) 4 4)), (16, (.slice (some ⟨2, 0, none⟩) 0 0)), (17, (.int .i64 0))]), ⟨5, 1, [(4, 0, .ints .u64 (List.set (List.set (List.set (List.set (List.replicate 4 (0 : Int)) 0 (wd ks vs 0)) 1 (wd ks vs 1)) 2 (wd ks vs 2)) 3 (wd ks vs 3)) 30 true), (3, 0, .map [((.int .u64 1), (.slice (some ⟨4, 0, none⟩) 4 4), 0)] 1), (2, 0, .cells [] 30 true), (1, 0, .cells [(.int .u64 (wd ks vs 0)), (.int .u64 (wd ks vs 1)), (.int .u64 (wd ks vs 2)), (.int .u64 (wd ks vs 3))] 30 true), (0, 0, .cells [(.int .i64 ((b % 12) + 1)), (.int .i64 4), (.int .i64 0), (.int .u64 1), (.map (some 3))] 94 true)]⟩⟩
theorem K4R15 (ks : ByteArray) (vs : ByteArray) (b : Int) : K4EV boxW wd (codeAt [1, 1, 1, 1, 1, 1, 1, 1, 1, 1, 1, 0, 0] BK4) (K4S16 wd ks vs b) [8, 12, 14, 16, 17] =
  some (.normal, (K4S17 wd ks vs b)) := by kernel_rfl
noncomputable def K4S18 (ks : ByteArray) (vs : ByteArray) (b : Int) : KSt := ⟨(frameL 130 [(0, (.string ks)), (1, (.string vs)), (7, (.int .i64 ((b % 12) + 1))), (8, (.pointer (some ⟨0, 0, none⟩))), (11, (.bool true)), (12, (.int .u64 0)), (13, (.bool true))]), ⟨2, 1, [(1, 0, .map [] 0), (0, 0, .cells [(.int .i64 ((b % 12) + 1)), (.int .i64 0), (.int .i64 0), (.int .u64 0), (.map (some 1))] 94 true)]⟩⟩
theorem K4R16 (ks : ByteArray) (vs : ByteArray) (b : Int) : K4EV boxW wd (codeAt [1, 1, 1, 1, 1, 1, 0] BK4) (K4S9 wd ks vs b) [0, 1, 7, 8, 11, 12, 13] =
  some (.normal, (K4S18 ks vs b)) := by kernel_rfl
noncomputable def K4S19 (b : Int) (ks : ByteArray) (vs : ByteArray) : KSt := ⟨(frameL 130 [(7, (.int .i64 ((b % 12) + 1))), (8, (.pointer (some ⟨0, 0, none⟩))), (11, (.bool true)), (12, (.int .u64 0)), (13, (.bool true)), (14, (.slice (some ⟨1, 0, none⟩) 4 4))]), ⟨3, 1, [(2, 0, .map [] 0), (1, 0, .cells [(.int .u64 (wd ks vs 0)), (.int .u64 (wd ks vs 1)), (.int .u64 (wd ks vs 2)), (.int .u64 (wd ks vs 3))] 30 true), (0, 0, .cells [(.int .i64 ((b % 12) + 1)), (.int .i64 0), (.int .i64 0), (.int .u64 0), (.map (some 2))] 94 true)]⟩⟩
theorem K4R17 (ks : ByteArray) (vs : ByteArray) (b : Int) : K4EV boxW wd (codeAt [1, 1, 1, 1, 1, 1, 1, 0] BK4) (K4S18 ks vs b) [7, 8, 11, 12, 13, 14] =
  bif ((Nat.ble (ByteArray.size ks) 16) && ((Nat.ble (ByteArray.size vs) 24) && (Nat.beq (List.length (boxW ks vs)) 4))) then
    some (.normal, (K4S19 wd b ks vs))
  else
    none := by kernel_rfl
noncomputable def K4S20 (b : Int) (ks : ByteArray) (vs : ByteArray) : KSt := ⟨(frameL 130 [(8, (.pointer (some ⟨0, 0, none⟩))), (12, (.int .u64 0)), (14, (.slice (some ⟨1, 0, none⟩) 4 4)), (70, (.bool (!(true == (decide (4 > ((b % 12) + 1)))))))]), ⟨3, 1, [(2, 0, .map [] 0), (1, 0, .cells [(.int .u64 (wd ks vs 0)), (.int .u64 (wd ks vs 1)), (.int .u64 (wd ks vs 2)), (.int .u64 (wd ks vs 3))] 30 true), (0, 0, .cells [(.int .i64 ((b % 12) + 1)), (.int .i64 0), (.int .i64 0), (.int .u64 0), (.map (some 2))] 94 true)]⟩⟩
theorem K4R18 (b : Int) (ks : ByteArray) (vs : ByteArray) : K4EV boxW wd (codeAt [1, 1, 1, 1, 1, 1, 1, 1, 0, 0] BK4) (K4S19 wd b ks vs) [8, 12, 14, 70] =
  some (.normal, (K4S20 wd b ks vs)) := by kernel_rfl
noncomputable def K4S21 (ks : ByteArray) (vs : ByteArray) (b : Int) : KSt := ⟨(frameL 130 [(8, (.pointer (some ⟨0, 0, none⟩))), (12, (.int .u64 0)), (14, (.slice (some ⟨1, 0, none⟩) 4 4))]), ⟨3, 1, [(2, 0, .map [] 0), (1, 0, .cells [(.int .u64 (wd ks vs 0)), (.int .u64 (wd ks vs 1)), (.int .u64 (wd ks vs 2)), (.int .u64 (wd ks vs 3))] 30 true), (0, 0, .cells [(.int .i64 ((b % 12) + 1)), (.int .i64 0), (.int .i64 0), (.int .u64 0), (.map (some 2))] 94 true)]⟩⟩
theorem K4R19 (b : Int) (ks : ByteArray) (vs : ByteArray) : K4EV boxW wd (codeAt [1, 1, 1, 1, 1, 1, 1, 1, 0, 1, 1] BK4) (K4S20 wd b ks vs) [8, 12, 14] =
  some (.normal, (K4S21 wd ks vs b)) := by kernel_rfl
noncomputable def K4S22 (ks : ByteArray) (vs : ByteArray) (b : Int) : KSt := ⟨(frameL 130 [(8, (.pointer (some ⟨0, 0, none⟩))), (12, (.int .u64 0)), (14, (.slice (some ⟨1, 0, none⟩) 4 4)), (72, (.bool true))]), ⟨3, 1, [(2, 0, .map [] 0), (1, 0, .cells [(.int .u64 (wd ks vs 0)), (.int .u64 (wd ks vs 1)), (.int .u64 (wd ks vs 2)), (.int .u64 (wd ks vs 3))] 30 true), (0, 0, .cells [(.int .i64 ((b % 12) + 1)), (.int .i64 0), (.int .i64 0), (.int .u64 0), (.map (some 2))] 94 true)]⟩⟩
theorem K4R20 (ks : ByteArray) (vs : ByteArray) (b : Int) : K4EV boxW wd (codeAt [1, 1, 1, 1, 1, 1, 1, 1, 1, 0, 0] BK4) (K4S21 wd ks vs b) [8, 12, 14, 72] =
  some (.normal, (K4S22 wd ks vs b)) := by kernel_rfl
noncomputable def K4S23  : KSt := ⟨(frameL 130 [(6, (.bool true))]), ⟨0, 1, []⟩⟩
theorem K4R21 (ks : ByteArray) (vs : ByteArray) (b : Int) : K4EV boxW wd (codeAt [1, 1, 1, 1, 1, 1, 1, 1, 1, 0, 1, 0, 0] BK4) (K4S22 wd ks vs b) [6] =
  some (.normal, K4S23) := by kernel_rfl
end
theorem K4in {b : Int} {ks : ByteArray} {vs : ByteArray} (hb : 0 ≤ b) (hb2 : b < 256) (h16 : ks.size ≤ 16) (h24 : vs.size ≤ 24) (hM : Nat.beq (boxW ks vs).length 4 = true) (hr : 4 ≤ b % 12 + 1)   {Q : Ex → St → Prop} (hq : Gets Try.prog (KH.low ⟨0, 1, []⟩) (codeAt [1, 1, 1, 1, 1, 1, 1, 1, 1, 1, 1, 0, 1] BK4) (KSt.low (K4S17 wd ks vs b)) (onN (fun s => Gets Try.prog (KH.low ⟨0, 1, []⟩) (codeAt [1, 1, 1, 1, 1, 1, 1, 1, 1, 1, 1, 1] BK4) s (Q)) (Q))) : Gets Try.prog (KH.low ⟨0, 1, []⟩) BK4 (KSt.low (K4S0 ks vs b)) Q := by
  rw [K4C]; refine Gets.seq ?_
  refine K4go (K4R1 boxW wd ks vs b) ?_
  rw [K4C1]; refine Gets.seq ?_
  rw [K4C1_0]; refine Gets.seq ?_
  refine K4go (x := .normal) (s' := (K4S3 ks vs b)) ((K4R2 boxW wd ks vs b).trans (by rw [condF (decide_eq_false (by omega))])) ?_
  rw [K4C1_0_1]; refine Gets.cond false (by kernel_rfl) (K4eX (b := (decide ((((ByteArray.size vs) : Nat) : Int) > 24))) (by kernel_rfl) ((show (decide ((((ByteArray.size vs) : Nat) : Int) > 24)) = false from decide_eq_false (by omega)))) ?_; show Gets _ _ (codeAt [1, 0, 1, 1] BK4) _ _
  refine K4go (K4R3 boxW wd ks vs b) ?_
  rw [K4C1_1]; refine Gets.seq ?_
  refine K4go (x := .normal) (s' := (K4S5 ks vs b)) ((K4R4 boxW wd ks vs b).trans (by (show some (Ex.normal, (K4S4 ks vs b)) = some (Ex.normal, (K4S5 ks vs b)); unfold K4S4 K4S5; rw [(show (IntKind.wrap .i64 ((Int.tmod (IntKind.wrap .i64 b) 12) + 1)) = ((b % 12) + 1) from by rw [wrap_i64_id (n := b) (by omega) (by omega), Int.tmod_eq_emod_of_nonneg hb, wrap_i64_id (by omega) (by omega)])]))) ?_
  rw [K4C1_1_1]; refine Gets.seq ?_
  refine K4go (x := .normal) (s' := (K4S7 ks vs b)) ((K4R5 boxW wd ks vs b).trans (by rw [condF (decide_eq_false (by omega)), condF (decide_eq_false (by omega))])) ?_
  rw [K4C1_1_1_1]; refine Gets.seq ?_
  refine K4go (x := .normal) (s' := (K4S8 wd ks vs b)) ((K4R6 boxW wd ks vs b).trans (by rw [condT (and_t (Nat.ble_eq_true_of_le h16) (and_t (Nat.ble_eq_true_of_le h24) (hM)))])) ?_
  rw [K4C1_1_1_1_1]; refine Gets.seq ?_
  refine K4go (x := .normal) (s' := (K4S10 wd ks vs b)) ((K4R7 boxW wd ks vs b).trans (by rw [condF (decide_eq_false (by (first | omega | ((try simp (disch := omega) only [wrap_i64_id]) <;> omega)))), condT (show (Nat.ble 1 (List.length (List.replicate 4 (0 : Int)))) = true from rfl), condT (show (Nat.ble 2 (List.length (List.set (List.replicate 4 (0 : Int)) 0 (wd ks vs 0)))) = true from rfl), condT (show (Nat.ble 3 (List.length (List.set (List.set (List.replicate 4 (0 : Int)) 0 (wd ks vs 0)) 1 (wd ks vs 1)))) = true from rfl), condT (show (Nat.ble 4 (List.length (List.set (List.set (List.set (List.replicate 4 (0 : Int)) 0 (wd ks vs 0)) 1 (wd ks vs 1)) 2 (wd ks vs 2)))) = true from rfl)])) ?_
  rw [K4C1_1_1_1_1_1]; refine Gets.seq ?_
  refine K4go (K4R8 boxW wd ks vs b) ?_
  rw [K4C1_1_1_1_1_1_1]; refine Gets.seq ?_
  refine K4go (x := .normal) (s' := (K4S12 wd b ks vs)) ((K4R9 boxW wd ks vs b).trans (by rw [condT (and_t (Nat.ble_eq_true_of_le h16) (and_t (Nat.ble_eq_true_of_le h24) (hM)))])) ?_
  rw [K4C1_1_1_1_1_1_1_1]; refine Gets.seq ?_
  rw [K4C1_1_1_1_1_1_1_1_0]; refine Gets.seq ?_
  refine K4go (K4R10 boxW wd b ks vs) ?_
  rw [K4C1_1_1_1_1_1_1_1_0_1]; refine Gets.cond false (by kernel_rfl) (K4eX (b := (!(false == (decide (4 > ((b % 12) + 1)))))) (by kernel_rfl) ((show (!(false == (decide (4 > ((b % 12) + 1))))) = false from not_f (fd_ (by omega))))) ?_; show Gets _ _ (codeAt [1, 1, 1, 1, 1, 1, 1, 1, 0, 1, 1] BK4) _ _
  refine K4go (K4R11 boxW wd b ks vs) ?_
  rw [K4C1_1_1_1_1_1_1_1_1]; refine Gets.seq ?_
  rw [K4C1_1_1_1_1_1_1_1_1_0]; refine Gets.seq ?_
  refine K4go (K4R12 boxW wd ks vs b) ?_
  rw [K4C1_1_1_1_1_1_1_1_1_0_1]; refine Gets.cond false (by kernel_rfl) (by kernel_rfl) ?_; show Gets _ _ (codeAt [1, 1, 1, 1, 1, 1, 1, 1, 1, 0, 1, 1] BK4) _ _
  refine K4go (K4R13 boxW wd ks vs b) ?_
  rw [K4C1_1_1_1_1_1_1_1_1_1]; refine Gets.seq ?_
  refine K4go (K4R14 boxW wd ks vs b) ?_
  rw [K4C1_1_1_1_1_1_1_1_1_1_1]; refine Gets.seq ?_
  rw [K4C1_1_1_1_1_1_1_1_1_1_1_0]; refine Gets.seq ?_
  refine K4go (K4R15 boxW wd ks vs b) ?_
  exact hq
theorem K4no {b : Int} {ks : ByteArray} {vs : ByteArray} (hb : 0 ≤ b) (hb2 : b < 256) (h16 : ks.size ≤ 16) (h24 : vs.size ≤ 24) (hM : Nat.beq (boxW ks vs).length 4 = true) (hr : b % 12 + 1 < 4)   {Q : Ex → St → Prop} (hq : Q .ret (KSt.low K4S23)) : Gets Try.prog (KH.low ⟨0, 1, []⟩) BK4 (KSt.low (K4S0 ks vs b)) Q := by
  rw [K4C]; refine Gets.seq ?_
  refine K4go (K4R1 boxW wd ks vs b) ?_
  rw [K4C1]; refine Gets.seq ?_
  rw [K4C1_0]; refine Gets.seq ?_
  refine K4go (x := .normal) (s' := (K4S3 ks vs b)) ((K4R2 boxW wd ks vs b).trans (by rw [condF (decide_eq_false (by omega))])) ?_
  rw [K4C1_0_1]; refine Gets.cond false (by kernel_rfl) (K4eX (b := (decide ((((ByteArray.size vs) : Nat) : Int) > 24))) (by kernel_rfl) ((show (decide ((((ByteArray.size vs) : Nat) : Int) > 24)) = false from decide_eq_false (by omega)))) ?_; show Gets _ _ (codeAt [1, 0, 1, 1] BK4) _ _
  refine K4go (K4R3 boxW wd ks vs b) ?_
  rw [K4C1_1]; refine Gets.seq ?_
  refine K4go (x := .normal) (s' := (K4S5 ks vs b)) ((K4R4 boxW wd ks vs b).trans (by (show some (Ex.normal, (K4S4 ks vs b)) = some (Ex.normal, (K4S5 ks vs b)); unfold K4S4 K4S5; rw [(show (IntKind.wrap .i64 ((Int.tmod (IntKind.wrap .i64 b) 12) + 1)) = ((b % 12) + 1) from by rw [wrap_i64_id (n := b) (by omega) (by omega), Int.tmod_eq_emod_of_nonneg hb, wrap_i64_id (by omega) (by omega)])]))) ?_
  rw [K4C1_1_1]; refine Gets.seq ?_
  refine K4go (x := .normal) (s' := (K4S7 ks vs b)) ((K4R5 boxW wd ks vs b).trans (by rw [condF (decide_eq_false (by omega)), condF (decide_eq_false (by omega))])) ?_
  rw [K4C1_1_1_1]; refine Gets.seq ?_
  refine K4go (x := .normal) (s' := (K4S8 wd ks vs b)) ((K4R6 boxW wd ks vs b).trans (by rw [condT (and_t (Nat.ble_eq_true_of_le h16) (and_t (Nat.ble_eq_true_of_le h24) (hM)))])) ?_
  rw [K4C1_1_1_1_1]; refine Gets.seq ?_
  refine K4go (x := .normal) (s' := (K4S9 wd ks vs b)) ((K4R7 boxW wd ks vs b).trans (by rw [condT (decide_eq_true (by (first | omega | ((try simp (disch := omega) only [wrap_i64_id]) <;> omega))))])) ?_
  rw [K4C1_1_1_1_1_1]; refine Gets.seq ?_
  refine K4go (K4R16 boxW wd ks vs b) ?_
  rw [K4C1_1_1_1_1_1_1]; refine Gets.seq ?_
  refine K4go (x := .normal) (s' := (K4S19 wd b ks vs)) ((K4R17 boxW wd ks vs b).trans (by rw [condT (and_t (Nat.ble_eq_true_of_le h16) (and_t (Nat.ble_eq_true_of_le h24) (hM)))])) ?_
  rw [K4C1_1_1_1_1_1_1_1]; refine Gets.seq ?_
  rw [K4C1_1_1_1_1_1_1_1_0]; refine Gets.seq ?_
  refine K4go (K4R18 boxW wd b ks vs) ?_
  rw [K4C1_1_1_1_1_1_1_1_0_1]; refine Gets.cond false (by kernel_rfl) (K4eX (b := (!(true == (decide (4 > ((b % 12) + 1)))))) (by kernel_rfl) ((show (!(true == (decide (4 > ((b % 12) + 1))))) = false from not_f (td_ (by omega))))) ?_; show Gets _ _ (codeAt [1, 1, 1, 1, 1, 1, 1, 1, 0, 1, 1] BK4) _ _
  refine K4go (K4R19 boxW wd b ks vs) ?_
  rw [K4C1_1_1_1_1_1_1_1_1]; refine Gets.seq ?_
  rw [K4C1_1_1_1_1_1_1_1_1_0]; refine Gets.seq ?_
  refine K4go (K4R20 boxW wd ks vs b) ?_
  rw [K4C1_1_1_1_1_1_1_1_1_0_1]; refine Gets.cond true (by kernel_rfl) (by kernel_rfl) ?_; show Gets _ _ (codeAt [1, 1, 1, 1, 1, 1, 1, 1, 1, 0, 1, 0] BK4) _ _
  rw [K4C1_1_1_1_1_1_1_1_1_0_1_0]; refine Gets.seq ?_
  refine K4go (K4R21 boxW wd ks vs b) ?_
  rw [K4C1_1_1_1_1_1_1_1_1_0_1_0_1]; refine Gets.ev fitK.mix fitK.cfg (fitK.sound mm4_sound 70 0) 70 rfl (s' := KSt.low K4S23) (x := .ret) rfl ?_
  exact hq
noncomputable def BK5 : Code := bodyOf Try.prog 9
theorem BK5_is : Try.f9.body = some BK5 := by kernel_rfl
theorem BK5_ok : okCode Try.prog.globals.size BK5 = true := by kernel_rfl
noncomputable abbrev K5EV (boxW : ByteArray → ByteArray → List Int) (wd : ByteArray → ByteArray → Nat → Int) (c : Code) (s : KSt) (lv : List Nat) : Option (Ex × KSt) := evCK Try.prog cfgK (runK Try.prog cfgK fsK (conTk mm5Dom (rcK [] (mm5T boxW wd))) 70 40) 70 c s (normC 0 lv)
theorem K5go {lv_ : List Nat} {co_ : Code} {st_ s' : KSt} {x : Ex} {Q : Ex → St → Prop} (hE_ : K5EV boxW wd co_ st_ lv_ = some (x, s')) (hq_ : Q x s'.low) (hok_ : okCode Try.prog.globals.size co_ = true := by kernel_rfl) : Gets Try.prog (KH.low ⟨0, 1, []⟩) co_ st_.low Q := Gets.ofN fitK mm5_sound (rc_agree _ _ _) 70 40 hok_ hE_ hq_
theorem K5eX {v : Value} {b c : Bool} (h : v = .bool b) (hb : b = c) : v = .bool c := by rw [h, hb]
theorem K5C : BK5 = .seq (codeAt [0] BK5) (codeAt [1] BK5) := by kernel_rfl
theorem K5C1 : (codeAt [1] BK5) = .seq (codeAt [1, 0] BK5) (codeAt [1, 1] BK5) := by kernel_rfl
theorem K5C1_0 : (codeAt [1, 0] BK5) = .seq (codeAt [1, 0, 0] BK5) (codeAt [1, 0, 1] BK5) := by kernel_rfl
theorem K5C1_0_1 : (codeAt [1, 0, 1] BK5) = .cond (.tmp 27) (codeAt [1, 0, 1, 0] BK5) (codeAt [1, 0, 1, 1] BK5) := by kernel_rfl
theorem K5C1_1 : (codeAt [1, 1] BK5) = .seq (codeAt [1, 1, 0] BK5) (codeAt [1, 1, 1] BK5) := by kernel_rfl
theorem K5C1_1_1 : (codeAt [1, 1, 1] BK5) = .seq (codeAt [1, 1, 1, 0] BK5) (codeAt [1, 1, 1, 1] BK5) := by kernel_rfl
theorem K5C1_1_1_1 : (codeAt [1, 1, 1, 1] BK5) = .seq (codeAt [1, 1, 1, 1, 0] BK5) (codeAt [1, 1, 1, 1, 1] BK5) := by kernel_rfl
theorem K5C1_1_1_1_1 : (codeAt [1, 1, 1, 1, 1] BK5) = .seq (codeAt [1, 1, 1, 1, 1, 0] BK5) (codeAt [1, 1, 1, 1, 1, 1] BK5) := by kernel_rfl
theorem K5C1_1_1_1_1_1 : (codeAt [1, 1, 1, 1, 1, 1] BK5) = .seq (codeAt [1, 1, 1, 1, 1, 1, 0] BK5) (codeAt [1, 1, 1, 1, 1, 1, 1] BK5) := by kernel_rfl
theorem K5C1_1_1_1_1_1_1 : (codeAt [1, 1, 1, 1, 1, 1, 1] BK5) = .seq (codeAt [1, 1, 1, 1, 1, 1, 1, 0] BK5) (codeAt [1, 1, 1, 1, 1, 1, 1, 1] BK5) := by kernel_rfl
theorem K5C1_1_1_1_1_1_1_1 : (codeAt [1, 1, 1, 1, 1, 1, 1, 1] BK5) = .seq (codeAt [1, 1, 1, 1, 1, 1, 1, 1, 0] BK5) (codeAt [1, 1, 1, 1, 1, 1, 1, 1, 1] BK5) := by kernel_rfl
theorem K5C1_1_1_1_1_1_1_1_0 : (codeAt [1, 1, 1, 1, 1, 1, 1, 1, 0] BK5) = .seq (codeAt [1, 1, 1, 1, 1, 1, 1, 1, 0, 0] BK5) (codeAt [1, 1, 1, 1, 1, 1, 1, 1, 0, 1] BK5) := by kernel_rfl
theorem K5C1_1_1_1_1_1_1_1_0_1 : (codeAt [1, 1, 1, 1, 1, 1, 1, 1, 0, 1] BK5) = .cond (.tmp 70) (codeAt [1, 1, 1, 1, 1, 1, 1, 1, 0, 1, 0] BK5) (codeAt [1, 1, 1, 1, 1, 1, 1, 1, 0, 1, 1] BK5) := by kernel_rfl
theorem K5C1_1_1_1_1_1_1_1_1 : (codeAt [1, 1, 1, 1, 1, 1, 1, 1, 1] BK5) = .seq (codeAt [1, 1, 1, 1, 1, 1, 1, 1, 1, 0] BK5) (codeAt [1, 1, 1, 1, 1, 1, 1, 1, 1, 1] BK5) := by kernel_rfl
theorem K5C1_1_1_1_1_1_1_1_1_0 : (codeAt [1, 1, 1, 1, 1, 1, 1, 1, 1, 0] BK5) = .seq (codeAt [1, 1, 1, 1, 1, 1, 1, 1, 1, 0, 0] BK5) (codeAt [1, 1, 1, 1, 1, 1, 1, 1, 1, 0, 1] BK5) := by kernel_rfl
theorem K5C1_1_1_1_1_1_1_1_1_0_1 : (codeAt [1, 1, 1, 1, 1, 1, 1, 1, 1, 0, 1] BK5) = .cond (.tmp 72) (codeAt [1, 1, 1, 1, 1, 1, 1, 1, 1, 0, 1, 0] BK5) (codeAt [1, 1, 1, 1, 1, 1, 1, 1, 1, 0, 1, 1] BK5) := by kernel_rfl
theorem K5C1_1_1_1_1_1_1_1_1_1 : (codeAt [1, 1, 1, 1, 1, 1, 1, 1, 1, 1] BK5) = .seq (codeAt [1, 1, 1, 1, 1, 1, 1, 1, 1, 1, 0] BK5) (codeAt [1, 1, 1, 1, 1, 1, 1, 1, 1, 1, 1] BK5) := by kernel_rfl
theorem K5C1_1_1_1_1_1_1_1_1_1_1 : (codeAt [1, 1, 1, 1, 1, 1, 1, 1, 1, 1, 1] BK5) = .seq (codeAt [1, 1, 1, 1, 1, 1, 1, 1, 1, 1, 1, 0] BK5) (codeAt [1, 1, 1, 1, 1, 1, 1, 1, 1, 1, 1, 1] BK5) := by kernel_rfl
theorem K5C1_1_1_1_1_1_1_1_1_1_1_0 : (codeAt [1, 1, 1, 1, 1, 1, 1, 1, 1, 1, 1, 0] BK5) = .seq (codeAt [1, 1, 1, 1, 1, 1, 1, 1, 1, 1, 1, 0, 0] BK5) (codeAt [1, 1, 1, 1, 1, 1, 1, 1, 1, 1, 1, 0, 1] BK5) := by kernel_rfl
theorem K5C1_1_1_1_1_1_1_1_1_0_1_0 : (codeAt [1, 1, 1, 1, 1, 1, 1, 1, 1, 0, 1, 0] BK5) = .seq (codeAt [1, 1, 1, 1, 1, 1, 1, 1, 1, 0, 1, 0, 0] BK5) (codeAt [1, 1, 1, 1, 1, 1, 1, 1, 1, 0, 1, 0, 1] BK5) := by kernel_rfl
theorem K5C1_1_1_1_1_1_1_1_1_0_1_0_1 : (codeAt [1, 1, 1, 1, 1, 1, 1, 1, 1, 0, 1, 0, 1] BK5) = .ret := by kernel_rfl
section
variable (boxW : ByteArray → ByteArray → List Int) (wd : ByteArray → ByteArray → Nat → Int)
noncomputable def K5S0 (ks : ByteArray) (vs : ByteArray) (b : Int) : KSt := (firstK [(.string ks), (.string vs), (.int .u8 b)] 130 ⟨0, 1, []⟩)
noncomputable def K5S1 (ks : ByteArray) (vs : ByteArray) (b : Int) : KSt := ⟨(frameL 130 [(0, (.string ks)), (1, (.string vs)), (2, (.int .u8 b))]), ⟨0, 1, []⟩⟩
theorem K5R1 (ks : ByteArray) (vs : ByteArray) (b : Int) : K5EV boxW wd (codeAt [0] BK5) (K5S0 ks vs b) [0, 1, 2] =
  some (.normal, (K5S1 ks vs b)) := by kernel_rfl
noncomputable def K5S2 (ks : ByteArray) (vs : ByteArray) (b : Int) : KSt := ⟨(frameL 130 [(0, (.string ks)), (1, (.string vs)), (2, (.int .u8 b)), (27, (.bool true))]), ⟨0, 1, []⟩⟩
noncomputable def K5S3 (ks : ByteArray) (vs : ByteArray) (b : Int) : KSt := ⟨(frameL 130 [(0, (.string ks)), (1, (.string vs)), (2, (.int .u8 b)), (27, (.bool (decide ((((ByteArray.size vs) : Nat) : Int) > 24))))]), ⟨0, 1, []⟩⟩
theorem K5R2 (ks : ByteArray) (vs : ByteArray) (b : Int) : K5EV boxW wd (codeAt [1, 0, 0] BK5) (K5S1 ks vs b) [0, 1, 2, 27] =
  bif (decide ((((ByteArray.size ks) : Nat) : Int) > 16)) then
    some (.normal, (K5S2 ks vs b))
  else
    some (.normal, (K5S3 ks vs b)) := by kernel_rfl
theorem K5R3 (ks : ByteArray) (vs : ByteArray) (b : Int) : K5EV boxW wd (codeAt [1, 0, 1, 1] BK5) (K5S3 ks vs b) [0, 1, 2] =
  some (.normal, (K5S1 ks vs b)) := by kernel_rfl
noncomputable def K5S4 (ks : ByteArray) (vs : ByteArray) (b : Int) : KSt := ⟨(frameL 130 [(0, (.string ks)), (1, (.string vs)), (7, (.int .i64 (IntKind.wrap .i64 ((Int.tmod (IntKind.wrap .i64 b) 12) + 1))))]), ⟨0, 1, []⟩⟩
theorem K5R4 (ks : ByteArray) (vs : ByteArray) (b : Int) : K5EV boxW wd (codeAt [1, 1, 0] BK5) (K5S1 ks vs b) [0, 1, 7] =
  some (.normal, (K5S4 ks vs b)) := by kernel_rfl
noncomputable def K5S5 (ks : ByteArray) (vs : ByteArray) (b : Int) : KSt := ⟨(frameL 130 [(0, (.string ks)), (1, (.string vs)), (7, (.int .i64 ((b % 12) + 1)))]), ⟨0, 1, []⟩⟩
noncomputable def K5S6 (ks : ByteArray) (vs : ByteArray) (b : Int) : KSt := ⟨(frameL 130 [(0, (.string ks)), (1, (.string vs)), (7, (.int .i64 ((b % 12) + 1))), (8, (.pointer none))]), ⟨0, 1, []⟩⟩
noncomputable def K5S7 (ks : ByteArray) (vs : ByteArray) (b : Int) : KSt := ⟨(frameL 130 [(0, (.string ks)), (1, (.string vs)), (7, (.int .i64 ((b % 12) + 1))), (8, (.pointer (some ⟨0, 0, none⟩)))]), ⟨2, 1, [(1, 0, .map [] 0), (0, 0, .cells [(.int .i64 ((b % 12) + 1)), (.int .i64 0), (.int .i64 0), (.int .u64 0), (.map (some 1))] 94 true)]⟩⟩
theorem K5R5 (ks : ByteArray) (vs : ByteArray) (b : Int) : K5EV boxW wd (codeAt [1, 1, 1, 0] BK5) (K5S5 ks vs b) [0, 1, 7, 8] =
  bif (decide (((b % 12) + 1) < 1)) then
    some (.normal, (K5S6 ks vs b))
  else
    bif (decide (((b % 12) + 1) > 65536)) then
      some (.normal, (K5S6 ks vs b))
    else
      some (.normal, (K5S7 ks vs b)) := by kernel_rfl
noncomputable def K5S8 (ks : ByteArray) (vs : ByteArray) (b : Int) : KSt := ⟨(frameL 130 [(0, (.string ks)), (1, (.string vs)), (7, (.int .i64 ((b % 12) + 1))), (8, (.pointer (some ⟨0, 0, none⟩))), (9, (.pointer (some ⟨1, 0, none⟩)))]), ⟨4, 1, [(3, 0, .cells [(.int .u64 (wd ks vs 0)), (.int .u64 (wd ks vs 1)), (.int .u64 (wd ks vs 2)), (.int .u64 (wd ks vs 3)), (.int .u64 (wd ks vs 4))] 30 true), (2, 0, .map [] 0), (1, 0, .cells [(.bool true), (.slice (some ⟨3, 0, none⟩) 5 5), (.int .u64 0), (.int .i64 (-1)), (.int .i64 5), (.int .u64 0), (.int .i64 5), (.int .u64 0), (.int .u64 0)] 88 true), (0, 0, .cells [(.int .i64 ((b % 12) + 1)), (.int .i64 0), (.int .i64 0), (.int .u64 0), (.map (some 2))] 94 true)]⟩⟩
theorem K5R6 (ks : ByteArray) (vs : ByteArray) (b : Int) : K5EV boxW wd (codeAt [1, 1, 1, 1, 0] BK5) (K5S7 ks vs b) [0, 1, 7, 8, 9] =
  bif ((Nat.ble (ByteArray.size ks) 16) && ((Nat.ble (ByteArray.size vs) 24) && (Nat.beq (List.length (boxW ks vs)) 5))) then
    some (.normal, (K5S8 wd ks vs b))
  else
    none := by kernel_rfl
noncomputable def K5S9 (ks : ByteArray) (vs : ByteArray) (b : Int) : KSt := ⟨(frameL 130 [(0, (.string ks)), (1, (.string vs)), (7, (.int .i64 ((b % 12) + 1))), (8, (.pointer (some ⟨0, 0, none⟩))), (9, (.pointer (some ⟨1, 0, none⟩))), (11, (.bool true))]), ⟨4, 1, [(3, 0, .cells [(.int .u64 (wd ks vs 0)), (.int .u64 (wd ks vs 1)), (.int .u64 (wd ks vs 2)), (.int .u64 (wd ks vs 3)), (.int .u64 (wd ks vs 4))] 30 true), (2, 0, .map [] 0), (1, 0, .cells [(.bool true), (.slice (some ⟨3, 0, none⟩) 5 5), (.int .u64 0), (.int .i64 (-1)), (.int .i64 0), (.int .u64 0), (.int .i64 0), (.int .u64 0), (.int .u64 0)] 88 true), (0, 0, .cells [(.int .i64 ((b % 12) + 1)), (.int .i64 0), (.int .i64 0), (.int .u64 0), (.map (some 2))] 94 true)]⟩⟩
noncomputable def K5S10 (ks : ByteArray) (vs : ByteArray) (b : Int) : KSt := ⟨(frameL 130 [(0, (.string ks)), (1, (.string vs)), (7, (.int .i64 ((b % 12) + 1))), (8, (.pointer (some ⟨0, 0, none⟩))), (9, (.pointer (some ⟨1, 0, none⟩))), (11, (.bool true))]), ⟨5, 1, [(4, 0, .ints .u64 (List.set (List.set (List.set (List.set (List.set (List.replicate 5 (0 : Int)) 0 (wd ks vs 0)) 1 (wd ks vs 1)) 2 (wd ks vs 2)) 3 (wd ks vs 3)) 4 (wd ks vs 4)) 30 true), (3, 0, .cells [(.int .u64 (wd ks vs 0)), (.int .u64 (wd ks vs 1)), (.int .u64 (wd ks vs 2)), (.int .u64 (wd ks vs 3)), (.int .u64 (wd ks vs 4))] 30 true), (2, 0, .map [((.int .u64 1), (.slice (some ⟨4, 0, none⟩) 5 5), 0)] 1), (1, 0, .cells [(.bool true), (.slice (some ⟨3, 0, none⟩) 5 5), (.int .u64 1), (.int .i64 5), (.int .i64 0), (.int .u64 0), (.int .i64 0), (.int .u64 0), (.int .u64 0)] 88 true), (0, 0, .cells [(.int .i64 ((b % 12) + 1)), (.int .i64 5), (.int .i64 0), (.int .u64 1), (.map (some 2))] 94 true)]⟩⟩
theorem K5R7 (ks : ByteArray) (vs : ByteArray) (b : Int) : K5EV boxW wd (codeAt [1, 1, 1, 1, 1, 0] BK5) (K5S8 wd ks vs b) [0, 1, 7, 8, 9, 11] =
  bif (decide (5 > (IntKind.wrap .i64 (((b % 12) + 1) - 0)))) then
    some (.normal, (K5S9 wd ks vs b))
  else
    bif (Nat.ble 1 (List.length (List.replicate 5 (0 : Int)))) then
      bif (Nat.ble 2 (List.length (List.set (List.replicate 5 (0 : Int)) 0 (wd ks vs 0)))) then
        bif (Nat.ble 3 (List.length (List.set (List.set (List.replicate 5 (0 : Int)) 0 (wd ks vs 0)) 1 (wd ks vs 1)))) then
          bif (Nat.ble 4 (List.length (List.set (List.set (List.set (List.replicate 5 (0 : Int)) 0 (wd ks vs 0)) 1 (wd ks vs 1)) 2 (wd ks vs 2)))) then
            bif (Nat.ble 5 (List.length (List.set (List.set (List.set (List.set (List.replicate 5 (0 : Int)) 0 (wd ks vs 0)) 1 (wd ks vs 1)) 2 (wd ks vs 2)) 3 (wd ks vs 3)))) then
              some (.normal, (K5S10 wd ks vs b))
            else
              none
          else
            none
        else
          none
      else
        none
    else
      none := by kernel_rfl
noncomputable def K5S11 (ks : ByteArray) (vs : ByteArray) (b : Int) : KSt := ⟨(frameL 130 [(0, (.string ks)), (1, (.string vs)), (7, (.int .i64 ((b % 12) + 1))), (8, (.pointer (some ⟨0, 0, none⟩))), (11, (.bool true)), (12, (.int .u64 1)), (13, (.bool true))]), ⟨3, 1, [(2, 0, .ints .u64 (List.set (List.set (List.set (List.set (List.set (List.replicate 5 (0 : Int)) 0 (wd ks vs 0)) 1 (wd ks vs 1)) 2 (wd ks vs 2)) 3 (wd ks vs 3)) 4 (wd ks vs 4)) 30 true), (1, 0, .map [((.int .u64 1), (.slice (some ⟨2, 0, none⟩) 5 5), 0)] 1), (0, 0, .cells [(.int .i64 ((b % 12) + 1)), (.int .i64 5), (.int .i64 0), (.int .u64 1), (.map (some 1))] 94 true)]⟩⟩
theorem K5R8 (ks : ByteArray) (vs : ByteArray) (b : Int) : K5EV boxW wd (codeAt [1, 1, 1, 1, 1, 1, 0] BK5) (K5S10 wd ks vs b) [0, 1, 7, 8, 11, 12, 13] =
  some (.normal, (K5S11 wd ks vs b)) := by kernel_rfl
noncomputable def K5S12 (b : Int) (ks : ByteArray) (vs : ByteArray) : KSt := ⟨(frameL 130 [(7, (.int .i64 ((b % 12) + 1))), (8, (.pointer (some ⟨0, 0, none⟩))), (11, (.bool true)), (12, (.int .u64 1)), (13, (.bool true)), (14, (.slice (some ⟨1, 0, none⟩) 5 5))]), ⟨4, 1, [(3, 0, .ints .u64 (List.set (List.set (List.set (List.set (List.set (List.replicate 5 (0 : Int)) 0 (wd ks vs 0)) 1 (wd ks vs 1)) 2 (wd ks vs 2)) 3 (wd ks vs 3)) 4 (wd ks vs 4)) 30 true), (2, 0, .map [((.int .u64 1), (.slice (some ⟨3, 0, none⟩) 5 5), 0)] 1), (1, 0, .cells [(.int .u64 (wd ks vs 0)), (.int .u64 (wd ks vs 1)), (.int .u64 (wd ks vs 2)), (.int .u64 (wd ks vs 3)), (.int .u64 (wd ks vs 4))] 30 true), (0, 0, .cells [(.int .i64 ((b % 12) + 1)), (.int .i64 5), (.int .i64 0), (.int .u64 1), (.map (some 2))] 94 true)]⟩⟩
theorem K5R9 (ks : ByteArray) (vs : ByteArray) (b : Int) : K5EV boxW wd (codeAt [1, 1, 1, 1, 1, 1, 1, 0] BK5) (K5S11 wd ks vs b) [7, 8, 11, 12, 13, 14] =
  bif ((Nat.ble (ByteArray.size ks) 16) && ((Nat.ble (ByteArray.size vs) 24) && (Nat.beq (List.length (boxW ks vs)) 5))) then
    some (.normal, (K5S12 wd b ks vs))
  else
    none := by kernel_rfl
noncomputable def K5S13 (b : Int) (ks : ByteArray) (vs : ByteArray) : KSt := ⟨(frameL 130 [(8, (.pointer (some ⟨0, 0, none⟩))), (12, (.int .u64 1)), (14, (.slice (some ⟨1, 0, none⟩) 5 5)), (70, (.bool (!(false == (decide (5 > ((b % 12) + 1)))))))]), ⟨4, 1, [(3, 0, .ints .u64 (List.set (List.set (List.set (List.set (List.set (List.replicate 5 (0 : Int)) 0 (wd ks vs 0)) 1 (wd ks vs 1)) 2 (wd ks vs 2)) 3 (wd ks vs 3)) 4 (wd ks vs 4)) 30 true), (2, 0, .map [((.int .u64 1), (.slice (some ⟨3, 0, none⟩) 5 5), 0)] 1), (1, 0, .cells [(.int .u64 (wd ks vs 0)), (.int .u64 (wd ks vs 1)), (.int .u64 (wd ks vs 2)), (.int .u64 (wd ks vs 3)), (.int .u64 (wd ks vs 4))] 30 true), (0, 0, .cells [(.int .i64 ((b % 12) + 1)), (.int .i64 5), (.int .i64 0), (.int .u64 1), (.map (some 2))] 94 true)]⟩⟩
theorem K5R10 (b : Int) (ks : ByteArray) (vs : ByteArray) : K5EV boxW wd (codeAt [1, 1, 1, 1, 1, 1, 1, 1, 0, 0] BK5) (K5S12 wd b ks vs) [8, 12, 14, 70] =
  some (.normal, (K5S13 wd b ks vs)) := by kernel_rfl
noncomputable def K5S14 (ks : ByteArray) (vs : ByteArray) (b : Int) : KSt := ⟨(frameL 130 [(8, (.pointer (some ⟨0, 0, none⟩))), (12, (.int .u64 1)), (14, (.slice (some ⟨1, 0, none⟩) 5 5))]), ⟨4, 1, [(3, 0, .ints .u64 (List.set (List.set (List.set (List.set (List.set (List.replicate 5 (0 : Int)) 0 (wd ks vs 0)) 1 (wd ks vs 1)) 2 (wd ks vs 2)) 3 (wd ks vs 3)) 4 (wd ks vs 4)) 30 true), (2, 0, .map [((.int .u64 1), (.slice (some ⟨3, 0, none⟩) 5 5), 0)] 1), (1, 0, .cells [(.int .u64 (wd ks vs 0)), (.int .u64 (wd ks vs 1)), (.int .u64 (wd ks vs 2)), (.int .u64 (wd ks vs 3)), (.int .u64 (wd ks vs 4))] 30 true), (0, 0, .cells [(.int .i64 ((b % 12) + 1)), (.int .i64 5), (.int .i64 0), (.int .u64 1), (.map (some 2))] 94 true)]⟩⟩
theorem K5R11 (b : Int) (ks : ByteArray) (vs : ByteArray) : K5EV boxW wd (codeAt [1, 1, 1, 1, 1, 1, 1, 1, 0, 1, 1] BK5) (K5S13 wd b ks vs) [8, 12, 14] =
  some (.normal, (K5S14 wd ks vs b)) := by kernel_rfl
noncomputable def K5S15 (ks : ByteArray) (vs : ByteArray) (b : Int) : KSt := ⟨(frameL 130 [(8, (.pointer (some ⟨0, 0, none⟩))), (12, (.int .u64 1)), (14, (.slice (some ⟨1, 0, none⟩) 5 5)), (72, (.bool false))]), ⟨4, 1, [(3, 0, .ints .u64 (List.set (List.set (List.set (List.set (List.set (List.replicate 5 (0 : Int)) 0 (wd ks vs 0)) 1 (wd ks vs 1)) 2 (wd ks vs 2)) 3 (wd ks vs 3)) 4 (wd ks vs 4)) 30 true), (2, 0, .map [((.int .u64 1), (.slice (some ⟨3, 0, none⟩) 5 5), 0)] 1), (1, 0, .cells [(.int .u64 (wd ks vs 0)), (.int .u64 (wd ks vs 1)), (.int .u64 (wd ks vs 2)), (.int .u64 (wd ks vs 3)), (.int .u64 (wd ks vs 4))] 30 true), (0, 0, .cells [(.int .i64 ((b % 12) + 1)), (.int .i64 5), (.int .i64 0), (.int .u64 1), (.map (some 2))] 94 true)]⟩⟩
theorem K5R12 (ks : ByteArray) (vs : ByteArray) (b : Int) : K5EV boxW wd (codeAt [1, 1, 1, 1, 1, 1, 1, 1, 1, 0, 0] BK5) (K5S14 wd ks vs b) [8, 12, 14, 72] =
  some (.normal, (K5S15 wd ks vs b)) := by kernel_rfl
theorem K5R13 (ks : ByteArray) (vs : ByteArray) (b : Int) : K5EV boxW wd (codeAt [1, 1, 1, 1, 1, 1, 1, 1, 1, 0, 1, 1] BK5) (K5S15 wd ks vs b) [8, 12, 14] =
  some (.normal, (K5S14 wd ks vs b)) := by kernel_rfl
noncomputable def K5S16 (ks : ByteArray) (vs : ByteArray) (b : Int) : KSt := ⟨(frameL 130 [(8, (.pointer (some ⟨0, 0, none⟩))), (12, (.int .u64 1)), (14, (.slice (some ⟨1, 0, none⟩) 5 5)), (16, (.slice (some ⟨2, 0, none⟩) 0 0))]), ⟨5, 1, [(4, 0, .ints .u64 (List.set (List.set (List.set (List.set (List.set (List.replicate 5 (0 : Int)) 0 (wd ks vs 0)) 1 (wd ks vs 1)) 2 (wd ks vs 2)) 3 (wd ks vs 3)) 4 (wd ks vs 4)) 30 true), (3, 0, .map [((.int .u64 1), (.slice (some ⟨4, 0, none⟩) 5 5), 0)] 1), (2, 0, .cells [] 30 true), (1, 0, .cells [(.int .u64 (wd ks vs 0)), (.int .u64 (wd ks vs 1)), (.int .u64 (wd ks vs 2)), (.int .u64 (wd ks vs 3)), (.int .u64 (wd ks vs 4))] 30 true), (0, 0, .cells [(.int .i64 ((b % 12) + 1)), (.int .i64 5), (.int .i64 0), (.int .u64 1), (.map (some 3))] 94 true)]⟩⟩
theorem K5R14 (ks : ByteArray) (vs : ByteArray) (b : Int) : K5EV boxW wd (codeAt [1, 1, 1, 1, 1, 1, 1, 1, 1, 1, 0] BK5) (K5S14 wd ks vs b) [8, 12, 14, 16] =
  some (.normal, (K5S16 wd ks vs b)) := by kernel_rfl
noncomputable def K5S17 (ks : ByteArray) (vs : ByteArray) (b : Int) : KSt := ⟨(frameL 130 [(8, (.pointer (some ⟨0, 0, none⟩))), (12, (.int .u64 1)), (14, (.slice (some ⟨1, 0, none⟩) 5 5)), (16, (.slice (some ⟨2, 0, none⟩) 0 0)), (17, (.int .i64 0))]), ⟨5, 1, [(4, 0, .ints .u64 (List.set (List.set (List.set (List.set (List.set (List.replicate 5 (0 : Int)) 0 (wd ks vs 0)) 1 (wd ks vs 1)) 2 (wd ks vs 2)) 3 (wd ks vs 3)) 4 (wd ks vs 4)) 30 true), (3, 0, .map [((.int .u64 1), (.slice (some ⟨4, 0, none⟩) 5 5), 0)] 1), (2, 0, .cells [] 30 true), (1, 0, .cells [(.int .u64 (wd ks vs 0)), (.int .u64 (wd ks vs 1)), (.int .u64 (wd ks vs 2)), (.int .u64 (wd ks vs 3)), (.int .u64 (wd ks vs 4))] 30 true), (0, 0, .cells [(.int .i64 ((b % 12) + 1)), (.int .i64 5), (.int .i64 0), (.int .u64 1), (.map (some 3))] 94 true)]⟩⟩
theorem K5R15 (ks : ByteArray) (vs : ByteArray) (b : Int) : K5EV boxW wd (codeAt [1, 1, 1, 1, 1, 1, 1, 1, 1, 1, 1, 0, 0] BK5) (K5S16 wd ks vs b) [8, 12, 14, 16, 17] =
  some (.normal, (K5S17 wd ks vs b)) := by kernel_rfl
noncomputable def K5S18 (ks : ByteArray) (vs : ByteArray) (b : Int) : KSt := ⟨(frameL 130 [(0, (.string ks)), (1, (.string vs)), (7, (.int .i64 ((b % 12) + 1))), (8, (.pointer (some ⟨0, 0, none⟩))), (11, (.bool true)), (12, (.int .u64 0)), (13, (.bool true))]), ⟨2, 1, [(1, 0, .map [] 0), (0, 0, .cells [(.int .i64 ((b % 12) + 1)), (.int .i64 0), (.int .i64 0), (.int .u64 0), (.map (some 1))] 94 true)]⟩⟩
theorem K5R16 (ks : ByteArray) (vs : ByteArray) (b : Int) : K5EV boxW wd (codeAt [1, 1, 1, 1, 1, 1, 0] BK5) (K5S9 wd ks vs b) [0, 1, 7, 8, 11, 12, 13] =
  some (.normal, (K5S18 ks vs b)) := by kernel_rfl
noncomputable def K5S19 (b : Int) (ks : ByteArray) (vs : ByteArray) : KSt := ⟨(frameL 130 [(7, (.int .i64 ((b % 12) + 1))), (8, (.pointer (some ⟨0, 0, none⟩))), (11, (.bool true)), (12, (.int .u64 0)), (13, (.bool true)), (14, (.slice (some ⟨1, 0, none⟩) 5 5))]), ⟨3, 1, [(2, 0, .map [] 0), (1, 0, .cells [(.int .u64 (wd ks vs 0)), (.int .u64 (wd ks vs 1)), (.int .u64 (wd ks vs 2)), (.int .u64 (wd ks vs 3)), (.int .u64 (wd ks vs 4))] 30 true), (0, 0, .cells [(.int .i64 ((b % 12) + 1)), (.int .i64 0), (.int .i64 0), (.int .u64 0), (.map (some 2))] 94 true)]⟩⟩
theorem K5R17 (ks : ByteArray) (vs : ByteArray) (b : Int) : K5EV boxW wd (codeAt [1, 1, 1, 1, 1, 1, 1, 0] BK5) (K5S18 ks vs b) [7, 8, 11, 12, 13, 14] =
  bif ((Nat.ble (ByteArray.size ks) 16) && ((Nat.ble (ByteArray.size vs) 24) && (Nat.beq (List.length (boxW ks vs)) 5))) then
    some (.normal, (K5S19 wd b ks vs))
  else
    none := by kernel_rfl
noncomputable def K5S20 (b : Int) (ks : ByteArray) (vs : ByteArray) : KSt := ⟨(frameL 130 [(8, (.pointer (some ⟨0, 0, none⟩))), (12, (.int .u64 0)), (14, (.slice (some ⟨1, 0, none⟩) 5 5)), (70, (.bool (!(true == (decide (5 > ((b % 12) + 1)))))))]), ⟨3, 1, [(2, 0, .map [] 0), (1, 0, .cells [(.int .u64 (wd ks vs 0)), (.int .u64 (wd ks vs 1)), (.int .u64 (wd ks vs 2)), (.int .u64 (wd ks vs 3)), (.int .u64 (wd ks vs 4))] 30 true), (0, 0, .cells [(.int .i64 ((b % 12) + 1)), (.int .i64 0), (.int .i64 0), (.int .u64 0), (.map (some 2))] 94 true)]⟩⟩
theorem K5R18 (b : Int) (ks : ByteArray) (vs : ByteArray) : K5EV boxW wd (codeAt [1, 1, 1, 1, 1, 1, 1, 1, 0, 0] BK5) (K5S19 wd b ks vs) [8, 12, 14, 70] =
  some (.normal, (K5S20 wd b ks vs)) := by kernel_rfl
noncomputable def K5S21 (ks : ByteArray) (vs : ByteArray) (b : Int) : KSt := ⟨(frameL 130 [(8, (.pointer (some ⟨0, 0, none⟩))), (12, (.int .u64 0)), (14, (.slice (some ⟨1, 0, none⟩) 5 5))]), ⟨3, 1, [(2, 0, .map [] 0), (1, 0, .cells [(.int .u64 (wd ks vs 0)), (.int .u64 (wd ks vs 1)), (.int .u64 (wd ks vs 2)), (.int .u64 (wd ks vs 3)), (.int .u64 (wd ks vs 4))] 30 true), (0, 0, .cells [(.int .i64 ((b % 12) + 1)), (.int .i64 0), (.int .i64 0), (.int .u64 0), (.map (some 2))] 94 true)]⟩⟩
theorem K5R19 (b : Int) (ks : ByteArray) (vs : ByteArray) : K5EV boxW wd (codeAt [1, 1, 1, 1, 1, 1, 1, 1, 0, 1, 1] BK5) (K5S20 wd b ks vs) [8, 12, 14] =
  some (.normal, (K5S21 wd ks vs b)) := by kernel_rfl
noncomputable def K5S22 (ks : ByteArray) (vs : ByteArray) (b : Int) : KSt := ⟨(frameL 130 [(8, (.pointer (some ⟨0, 0, none⟩))), (12, (.int .u64 0)), (14, (.slice (some ⟨1, 0, none⟩) 5 5)), (72, (.bool true))]), ⟨3, 1, [(2, 0, .map [] 0), (1, 0, .cells [(.int .u64 (wd ks vs 0)), (.int .u64 (wd ks vs 1)), (.int .u64 (wd ks vs 2)), (.int .u64 (wd ks vs 3)), (.int .u64 (wd ks vs 4))] 30 true), (0, 0, .cells [(.int .i64 ((b % 12) + 1)), (.int .i64 0), (.int .i64 0), (.int .u64 0), (.map (some 2))] 94 true)]⟩⟩
theorem K5R20 (ks : ByteArray) (vs : ByteArray) (b : Int) : K5EV boxW wd (codeAt [1, 1, 1, 1, 1, 1, 1, 1, 1, 0, 0] BK5) (K5S21 wd ks vs b) [8, 12, 14, 72] =
  some (.normal, (K5S22 wd ks vs b)) := by kernel_rfl
noncomputable def K5S23  : KSt := ⟨(frameL 130 [(6, (.bool true))]), ⟨0, 1, []⟩⟩
theorem K5R21 (ks : ByteArray) (vs : ByteArray) (b : Int) : K5EV boxW wd (codeAt [1, 1, 1, 1, 1, 1, 1, 1, 1, 0, 1, 0, 0] BK5) (K5S22 wd ks vs b) [6] =
  some (.normal, K5S23) := by kernel_rfl
end
theorem K5in {b : Int} {ks : ByteArray} {vs : ByteArray} (hb : 0 ≤ b) (hb2 : b < 256) (h16 : ks.size ≤ 16) (h24 : vs.size ≤ 24) (hM : Nat.beq (boxW ks vs).length 5 = true) (hr : 5 ≤ b % 12 + 1)   {Q : Ex → St → Prop} (hq : Gets Try.prog (KH.low ⟨0, 1, []⟩) (codeAt [1, 1, 1, 1, 1, 1, 1, 1, 1, 1, 1, 0, 1] BK5) (KSt.low (K5S17 wd ks vs b)) (onN (fun s => Gets Try.prog (KH.low ⟨0, 1, []⟩) (codeAt [1, 1, 1, 1, 1, 1, 1, 1, 1, 1, 1, 1] BK5) s (Q)) (Q))) : Gets Try.prog (KH.low ⟨0, 1, []⟩) BK5 (KSt.low (K5S0 ks vs b)) Q := by
  rw [K5C]; refine Gets.seq ?_
  refine K5go (K5R1 boxW wd ks vs b) ?_
  rw [K5C1]; refine Gets.seq ?_
  rw [K5C1_0]; refine Gets.seq ?_
  refine K5go (x := .normal) (s' := (K5S3 ks vs b)) ((K5R2 boxW wd ks vs b).trans (by rw [condF (decide_eq_false (by omega))])) ?_
  rw [K5C1_0_1]; refine Gets.cond false (by kernel_rfl) (K5eX (b := (decide ((((ByteArray.size vs) : Nat) : Int) > 24))) (by kernel_rfl) ((show (decide ((((ByteArray.size vs) : Nat) : Int) > 24)) = false from decide_eq_false (by omega)))) ?_; show Gets _ _ (codeAt [1, 0, 1, 1] BK5) _ _
  refine K5go (K5R3 boxW wd ks vs b) ?_
  rw [K5C1_1]; refine Gets.seq ?_
  refine K5go (x := .normal) (s' := (K5S5 ks vs b)) ((K5R4 boxW wd ks vs b).trans (by (show some (Ex.normal, (K5S4 ks vs b)) = some (Ex.normal, (K5S5 ks vs b)); unfold K5S4 K5S5; rw [(show (IntKind.wrap .i64 ((Int.tmod (IntKind.wrap .i64 b) 12) + 1)) = ((b % 12) + 1) from by rw [wrap_i64_id (n := b) (by omega) (by omega), Int.tmod_eq_emod_of_nonneg hb, wrap_i64_id (by omega) (by omega)])]))) ?_
  rw [K5C1_1_1]; refine Gets.seq ?_
  refine K5go (x := .normal) (s' := (K5S7 ks vs b)) ((K5R5 boxW wd ks vs b).trans (by rw [condF (decide_eq_false (by omega)), condF (decide_eq_false (by omega))])) ?_
  rw [K5C1_1_1_1]; refine Gets.seq ?_
  refine K5go (x := .normal) (s' := (K5S8 wd ks vs b)) ((K5R6 boxW wd ks vs b).trans (by rw [condT (and_t (Nat.ble_eq_true_of_le h16) (and_t (Nat.ble_eq_true_of_le h24) (hM)))])) ?_
  rw [K5C1_1_1_1_1]; refine Gets.seq ?_
  refine K5go (x := .normal) (s' := (K5S10 wd ks vs b)) ((K5R7 boxW wd ks vs b).trans (by rw [condF (decide_eq_false (by (first | omega | ((try simp (disch := omega) only [wrap_i64_id]) <;> omega)))), condT (show (Nat.ble 1 (List.length (List.replicate 5 (0 : Int)))) = true from rfl), condT (show (Nat.ble 2 (List.length (List.set (List.replicate 5 (0 : Int)) 0 (wd ks vs 0)))) = true from rfl), condT (show (Nat.ble 3 (List.length (List.set (List.set (List.replicate 5 (0 : Int)) 0 (wd ks vs 0)) 1 (wd ks vs 1)))) = true from rfl), condT (show (Nat.ble 4 (List.length (List.set (List.set (List.set (List.replicate 5 (0 : Int)) 0 (wd ks vs 0)) 1 (wd ks vs 1)) 2 (wd ks vs 2)))) = true from rfl), condT (show (Nat.ble 5 (List.length (List.set (List.set (List.set (List.set (List.replicate 5 (0 : Int)) 0 (wd ks vs 0)) 1 (wd ks vs 1)) 2 (wd ks vs 2)) 3 (wd ks vs 3)))) = true from rfl)])) ?_
  rw [K5C1_1_1_1_1_1]; refine Gets.seq ?_
  refine K5go (K5R8 boxW wd ks vs b) ?_
  rw [K5C1_1_1_1_1_1_1]; refine Gets.seq ?_
  refine K5go (x := .normal) (s' := (K5S12 wd b ks vs)) ((K5R9 boxW wd ks vs b).trans (by rw [condT (and_t (Nat.ble_eq_true_of_le h16) (and_t (Nat.ble_eq_true_of_le h24) (hM)))])) ?_
  rw [K5C1_1_1_1_1_1_1_1]; refine Gets.seq ?_
  rw [K5C1_1_1_1_1_1_1_1_0]; refine Gets.seq ?_
  refine K5go (K5R10 boxW wd b ks vs) ?_
  rw [K5C1_1_1_1_1_1_1_1_0_1]; refine Gets.cond false (by kernel_rfl) (K5eX (b := (!(false == (decide (5 > ((b % 12) + 1)))))) (by kernel_rfl) ((show (!(false == (decide (5 > ((b % 12) + 1))))) = false from not_f (fd_ (by omega))))) ?_; show Gets _ _ (codeAt [1, 1, 1, 1, 1, 1, 1, 1, 0, 1, 1] BK5) _ _
  refine K5go (K5R11 boxW wd b ks vs) ?_
  rw [K5C1_1_1_1_1_1_1_1_1]; refine Gets.seq ?_
  rw [K5C1_1_1_1_1_1_1_1_1_0]; refine Gets.seq ?_
  refine K5go (K5R12 boxW wd ks vs b) ?_
  rw [K5C1_1_1_1_1_1_1_1_1_0_1]; refine Gets.cond false (by kernel_rfl) (by kernel_rfl) ?_; show Gets _ _ (codeAt [1, 1, 1, 1, 1, 1, 1, 1, 1, 0, 1, 1] BK5) _ _
  refine K5go (K5R13 boxW wd ks vs b) ?_
  rw [K5C1_1_1_1_1_1_1_1_1_1]; refine Gets.seq ?_
  refine K5go (K5R14 boxW wd ks vs b) ?_
  rw [K5C1_1_1_1_1_1_1_1_1_1_1]; refine Gets.seq ?_
  rw [K5C1_1_1_1_1_1_1_1_1_1_1_0]; refine Gets.seq ?_
  refine K5go (K5R15 boxW wd ks vs b) ?_
  exact hq
theorem K5no {b : Int} {ks : ByteArray} {vs : ByteArray} (hb : 0 ≤ b) (hb2 : b < 256) (h16 : ks.size ≤ 16) (h24 : vs.size ≤ 24) (hM : Nat.beq (boxW ks vs).length 5 = true) (hr : b % 12 + 1 < 5)   {Q : Ex → St → Prop} (hq : Q .ret (KSt.low K5S23)) : Gets Try.prog (KH.low ⟨0, 1, []⟩) BK5 (KSt.low (K5S0 ks vs b)) Q := by
  rw [K5C]; refine Gets.seq ?_
  refine K5go (K5R1 boxW wd ks vs b) ?_
  rw [K5C1]; refine Gets.seq ?_
  rw [K5C1_0]; refine Gets.seq ?_
  refine K5go (x := .normal) (s' := (K5S3 ks vs b)) ((K5R2 boxW wd ks vs b).trans (by rw [condF (decide_eq_false (by omega))])) ?_
  rw [K5C1_0_1]; refine Gets.cond false (by kernel_rfl) (K5eX (b := (decide ((((ByteArray.size vs) : Nat) : Int) > 24))) (by kernel_rfl) ((show (decide ((((ByteArray.size vs) : Nat) : Int) > 24)) = false from decide_eq_false (by omega)))) ?_; show Gets _ _ (codeAt [1, 0, 1, 1] BK5) _ _
  refine K5go (K5R3 boxW wd ks vs b) ?_
  rw [K5C1_1]; refine Gets.seq ?_
  refine K5go (x := .normal) (s' := (K5S5 ks vs b)) ((K5R4 boxW wd ks vs b).trans (by (show some (Ex.normal, (K5S4 ks vs b)) = some (Ex.normal, (K5S5 ks vs b)); unfold K5S4 K5S5; rw [(show (IntKind.wrap .i64 ((Int.tmod (IntKind.wrap .i64 b) 12) + 1)) = ((b % 12) + 1) from by rw [wrap_i64_id (n := b) (by omega) (by omega), Int.tmod_eq_emod_of_nonneg hb, wrap_i64_id (by omega) (by omega)])]))) ?_
  rw [K5C1_1_1]; refine Gets.seq ?_
  refine K5go (x := .normal) (s' := (K5S7 ks vs b)) ((K5R5 boxW wd ks vs b).trans (by rw [condF (decide_eq_false (by omega)), condF (decide_eq_false (by omega))])) ?_
  rw [K5C1_1_1_1]; refine Gets.seq ?_
  refine K5go (x := .normal) (s' := (K5S8 wd ks vs b)) ((K5R6 boxW wd ks vs b).trans (by rw [condT (and_t (Nat.ble_eq_true_of_le h16) (and_t (Nat.ble_eq_true_of_le h24) (hM)))])) ?_
  rw [K5C1_1_1_1_1]; refine Gets.seq ?_
  refine K5go (x := .normal) (s' := (K5S9 wd ks vs b)) ((K5R7 boxW wd ks vs b).trans (by rw [condT (decide_eq_true (by (first | omega | ((try simp (disch := omega) only [wrap_i64_id]) <;> omega))))])) ?_
  rw [K5C1_1_1_1_1_1]; refine Gets.seq ?_
  refine K5go (K5R16 boxW wd ks vs b) ?_
  rw [K5C1_1_1_1_1_1_1]; refine Gets.seq ?_
  refine K5go (x := .normal) (s' := (K5S19 wd b ks vs)) ((K5R17 boxW wd ks vs b).trans (by rw [condT (and_t (Nat.ble_eq_true_of_le h16) (and_t (Nat.ble_eq_true_of_le h24) (hM)))])) ?_
  rw [K5C1_1_1_1_1_1_1_1]; refine Gets.seq ?_
  rw [K5C1_1_1_1_1_1_1_1_0]; refine Gets.seq ?_
  refine K5go (K5R18 boxW wd b ks vs) ?_
  rw [K5C1_1_1_1_1_1_1_1_0_1]; refine Gets.cond false (by kernel_rfl) (K5eX (b := (!(true == (decide (5 > ((b % 12) + 1)))))) (by kernel_rfl) ((show (!(true == (decide (5 > ((b % 12) + 1))))) = false from not_f (td_ (by omega))))) ?_; show Gets _ _ (codeAt [1, 1, 1, 1, 1, 1, 1, 1, 0, 1, 1] BK5) _ _
  refine K5go (K5R19 boxW wd b ks vs) ?_
  rw [K5C1_1_1_1_1_1_1_1_1]; refine Gets.seq ?_
  rw [K5C1_1_1_1_1_1_1_1_1_0]; refine Gets.seq ?_
  refine K5go (K5R20 boxW wd ks vs b) ?_
  rw [K5C1_1_1_1_1_1_1_1_1_0_1]; refine Gets.cond true (by kernel_rfl) (by kernel_rfl) ?_; show Gets _ _ (codeAt [1, 1, 1, 1, 1, 1, 1, 1, 1, 0, 1, 0] BK5) _ _
  rw [K5C1_1_1_1_1_1_1_1_1_0_1_0]; refine Gets.seq ?_
  refine K5go (K5R21 boxW wd ks vs b) ?_
  rw [K5C1_1_1_1_1_1_1_1_1_0_1_0_1]; refine Gets.ev fitK.mix fitK.cfg (fitK.sound mm5_sound 70 0) 70 rfl (s' := KSt.low K5S23) (x := .ret) rfl ?_
  exact hq
noncomputable def BK6 : Code := bodyOf Try.prog 9
theorem BK6_is : Try.f9.body = some BK6 := by kernel_rfl
theorem BK6_ok : okCode Try.prog.globals.size BK6 = true := by kernel_rfl
noncomputable abbrev K6EV (boxW : ByteArray → ByteArray → List Int) (wd : ByteArray → ByteArray → Nat → Int) (c : Code) (s : KSt) (lv : List Nat) : Option (Ex × KSt) := evCK Try.prog cfgK (runK Try.prog cfgK fsK (conTk mm6Dom (rcK [] (mm6T boxW wd))) 70 40) 70 c s (normC 0 lv)
theorem K6go {lv_ : List Nat} {co_ : Code} {st_ s' : KSt} {x : Ex} {Q : Ex → St → Prop} (hE_ : K6EV boxW wd co_ st_ lv_ = some (x, s')) (hq_ : Q x s'.low) (hok_ : okCode Try.prog.globals.size co_ = true := by kernel_rfl) : Gets Try.prog (KH.low ⟨0, 1, []⟩) co_ st_.low Q := Gets.ofN fitK mm6_sound (rc_agree _ _ _) 70 40 hok_ hE_ hq_
theorem K6eX {v : Value} {b c : Bool} (h : v = .bool b) (hb : b = c) : v = .bool c := by rw [h, hb]
theorem K6C : BK6 = .seq (codeAt [0] BK6) (codeAt [1] BK6) := by kernel_rfl
theorem K6C1 : (codeAt [1] BK6) = .seq (codeAt [1, 0] BK6) (codeAt [1, 1] BK6) := by kernel_rfl
theorem K6C1_0 : (codeAt [1, 0] BK6) = .seq (codeAt [1, 0, 0] BK6) (codeAt [1, 0, 1] BK6) := by kernel_rfl
theorem K6C1_0_1 : (codeAt [1, 0, 1] BK6) = .cond (.tmp 27) (codeAt [1, 0, 1, 0] BK6) (codeAt [1, 0, 1, 1] BK6) := by kernel_rfl
theorem K6C1_1 : (codeAt [1, 1] BK6) = .seq (codeAt [1, 1, 0] BK6) (codeAt [1, 1, 1] BK6) := by kernel_rfl
theorem K6C1_1_1 : (codeAt [1, 1, 1] BK6) = .seq (codeAt [1, 1, 1, 0] BK6) (codeAt [1, 1, 1, 1] BK6) := by kernel_rfl
theorem K6C1_1_1_1 : (codeAt [1, 1, 1, 1] BK6) = .seq (codeAt [1, 1, 1, 1, 0] BK6) (codeAt [1, 1, 1, 1, 1] BK6) := by kernel_rfl
theorem K6C1_1_1_1_1 : (codeAt [1, 1, 1, 1, 1] BK6) = .seq (codeAt [1, 1, 1, 1, 1, 0] BK6) (codeAt [1, 1, 1, 1, 1, 1] BK6) := by kernel_rfl
theorem K6C1_1_1_1_1_1 : (codeAt [1, 1, 1, 1, 1, 1] BK6) = .seq (codeAt [1, 1, 1, 1, 1, 1, 0] BK6) (codeAt [1, 1, 1, 1, 1, 1, 1] BK6) := by kernel_rfl
theorem K6C1_1_1_1_1_1_1 : (codeAt [1, 1, 1, 1, 1, 1, 1] BK6) = .seq (codeAt [1, 1, 1, 1, 1, 1, 1, 0] BK6) (codeAt [1, 1, 1, 1, 1, 1, 1, 1] BK6) := by kernel_rfl
theorem K6C1_1_1_1_1_1_1_1 : (codeAt [1, 1, 1, 1, 1, 1, 1, 1] BK6) = .seq (codeAt [1, 1, 1, 1, 1, 1, 1, 1, 0] BK6) (codeAt [1, 1, 1, 1, 1, 1, 1, 1, 1] BK6) := by kernel_rfl
theorem K6C1_1_1_1_1_1_1_1_0 : (codeAt [1, 1, 1, 1, 1, 1, 1, 1, 0] BK6) = .seq (codeAt [1, 1, 1, 1, 1, 1, 1, 1, 0, 0] BK6) (codeAt [1, 1, 1, 1, 1, 1, 1, 1, 0, 1] BK6) := by kernel_rfl
theorem K6C1_1_1_1_1_1_1_1_0_1 : (codeAt [1, 1, 1, 1, 1, 1, 1, 1, 0, 1] BK6) = .cond (.tmp 70) (codeAt [1, 1, 1, 1, 1, 1, 1, 1, 0, 1, 0] BK6) (codeAt [1, 1, 1, 1, 1, 1, 1, 1, 0, 1, 1] BK6) := by kernel_rfl
theorem K6C1_1_1_1_1_1_1_1_1 : (codeAt [1, 1, 1, 1, 1, 1, 1, 1, 1] BK6) = .seq (codeAt [1, 1, 1, 1, 1, 1, 1, 1, 1, 0] BK6) (codeAt [1, 1, 1, 1, 1, 1, 1, 1, 1, 1] BK6) := by kernel_rfl
theorem K6C1_1_1_1_1_1_1_1_1_0 : (codeAt [1, 1, 1, 1, 1, 1, 1, 1, 1, 0] BK6) = .seq (codeAt [1, 1, 1, 1, 1, 1, 1, 1, 1, 0, 0] BK6) (codeAt [1, 1, 1, 1, 1, 1, 1, 1, 1, 0, 1] BK6) := by kernel_rfl
theorem K6C1_1_1_1_1_1_1_1_1_0_1 : (codeAt [1, 1, 1, 1, 1, 1, 1, 1, 1, 0, 1] BK6) = .cond (.tmp 72) (codeAt [1, 1, 1, 1, 1, 1, 1, 1, 1, 0, 1, 0] BK6) (codeAt [1, 1, 1, 1, 1, 1, 1, 1, 1, 0, 1, 1] BK6) := by kernel_rfl
theorem K6C1_1_1_1_1_1_1_1_1_1 : (codeAt [1, 1, 1, 1, 1, 1, 1, 1, 1, 1] BK6) = .seq (codeAt [1, 1, 1, 1, 1, 1, 1, 1, 1, 1, 0] BK6) (codeAt [1, 1, 1, 1, 1, 1, 1, 1, 1, 1, 1] BK6) := by kernel_rfl
theorem K6C1_1_1_1_1_1_1_1_1_1_1 : (codeAt [1, 1, 1, 1, 1, 1, 1, 1, 1, 1, 1] BK6) = .seq (codeAt [1, 1, 1, 1, 1, 1, 1, 1, 1, 1, 1, 0] BK6) (codeAt [1, 1, 1, 1, 1, 1, 1, 1, 1, 1, 1, 1] BK6) := by kernel_rfl
theorem K6C1_1_1_1_1_1_1_1_1_1_1_0 : (codeAt [1, 1, 1, 1, 1, 1, 1, 1, 1, 1, 1, 0] BK6) = .seq (codeAt [1, 1, 1, 1, 1, 1, 1, 1, 1, 1, 1, 0, 0] BK6) (codeAt [1, 1, 1, 1, 1, 1, 1, 1, 1, 1, 1, 0, 1] BK6) := by kernel_rfl
theorem K6C1_1_1_1_1_1_1_1_1_0_1_0 : (codeAt [1, 1, 1, 1, 1, 1, 1, 1, 1, 0, 1, 0] BK6) = .seq (codeAt [1, 1, 1, 1, 1, 1, 1, 1, 1, 0, 1, 0, 0] BK6) (codeAt [1, 1, 1, 1, 1, 1, 1, 1, 1, 0, 1, 0, 1] BK6) := by kernel_rfl
theorem K6C1_1_1_1_1_1_1_1_1_0_1_0_1 : (codeAt [1, 1, 1, 1, 1, 1, 1, 1, 1, 0, 1, 0, 1] BK6) = .ret := by kernel_rfl
section
variable (boxW : ByteArray → ByteArray → List Int) (wd : ByteArray → ByteArray → Nat → Int)
noncomputable def K6S0 (ks : ByteArray) (vs : ByteArray) (b : Int) : KSt := (firstK [(.string ks), (.string vs), (.int .u8 b)] 130 ⟨0, 1, []⟩)
noncomputable def K6S1 (ks : ByteArray) (vs : ByteArray) (b : Int) : KSt := ⟨(frameL 130 [(0, (.string ks)), (1, (.string vs)), (2, (.int .u8 b))]), ⟨0, 1, []⟩⟩
theorem K6R1 (ks : ByteArray) (vs : ByteArray) (b : Int) : K6EV boxW wd (codeAt [0] BK6) (K6S0 ks vs b) [0, 1, 2] =
  some (.normal, (K6S1 ks vs b)) := by kernel_rfl
noncomputable def K6S2 (ks : ByteArray) (vs : ByteArray) (b : Int) : KSt := ⟨(frameL 130 [(0, (.string ks)), (1, (.string vs)), (2, (.int .u8 b)), (27, (.bool true))]), ⟨0, 1, []⟩⟩
noncomputable def K6S3 (ks : ByteArray) (vs : ByteArray) (b : Int) : KSt := ⟨(frameL 130 [(0, (.string ks)), (1, (.string vs)), (2, (.int .u8 b)), (27, (.bool (decide ((((ByteArray.size vs) : Nat) : Int) > 24))))]), ⟨0, 1, []⟩⟩
theorem K6R2 (ks : ByteArray) (vs : ByteArray) (b : Int) : K6EV boxW wd (codeAt [1, 0, 0] BK6) (K6S1 ks vs b) [0, 1, 2, 27] =
  bif (decide ((((ByteArray.size ks) : Nat) : Int) > 16)) then
    some (.normal, (K6S2 ks vs b))
  else
    some (.normal, (K6S3 ks vs b)) := by kernel_rfl
theorem K6R3 (ks : ByteArray) (vs : ByteArray) (b : Int) : K6EV boxW wd (codeAt [1, 0, 1, 1] BK6) (K6S3 ks vs b) [0, 1, 2] =
  some (.normal, (K6S1 ks vs b)) := by kernel_rfl
noncomputable def K6S4 (ks : ByteArray) (vs : ByteArray) (b : Int) : KSt := ⟨(frameL 130 [(0, (.string ks)), (1, (.string vs)), (7, (.int .i64 (IntKind.wrap .i64 ((Int.tmod (IntKind.wrap .i64 b) 12) + 1))))]), ⟨0, 1, []⟩⟩
theorem K6R4 (ks : ByteArray) (vs : ByteArray) (b : Int) : K6EV boxW wd (codeAt [1, 1, 0] BK6) (K6S1 ks vs b) [0, 1, 7] =
  some (.normal, (K6S4 ks vs b)) := by kernel_rfl
noncomputable def K6S5 (ks : ByteArray) (vs : ByteArray) (b : Int) : KSt := ⟨(frameL 130 [(0, (.string ks)), (1, (.string vs)), (7, (.int .i64 ((b % 12) + 1)))]), ⟨0, 1, []⟩⟩
noncomputable def K6S6 (ks : ByteArray) (vs : ByteArray) (b : Int) : KSt := ⟨(frameL 130 [(0, (.string ks)), (1, (.string vs)), (7, (.int .i64 ((b % 12) + 1))), (8, (.pointer none))]), ⟨0, 1, []⟩⟩
noncomputable def K6S7 (ks : ByteArray) (vs : ByteArray) (b : Int) : KSt := ⟨(frameL 130 [(0, (.string ks)), (1, (.string vs)), (7, (.int .i64 ((b % 12) + 1))), (8, (.pointer (some ⟨0, 0, none⟩)))]), ⟨2, 1, [(1, 0, .map [] 0), (0, 0, .cells [(.int .i64 ((b % 12) + 1)), (.int .i64 0), (.int .i64 0), (.int .u64 0), (.map (some 1))] 94 true)]⟩⟩
theorem K6R5 (ks : ByteArray) (vs : ByteArray) (b : Int) : K6EV boxW wd (codeAt [1, 1, 1, 0] BK6) (K6S5 ks vs b) [0, 1, 7, 8] =
  bif (decide (((b % 12) + 1) < 1)) then
    some (.normal, (K6S6 ks vs b))
  else
    bif (decide (((b % 12) + 1) > 65536)) then
      some (.normal, (K6S6 ks vs b))
    else
      some (.normal, (K6S7 ks vs b)) := by kernel_rfl
noncomputable def K6S8 (ks : ByteArray) (vs : ByteArray) (b : Int) : KSt := ⟨(frameL 130 [(0, (.string ks)), (1, (.string vs)), (7, (.int .i64 ((b % 12) + 1))), (8, (.pointer (some ⟨0, 0, none⟩))), (9, (.pointer (some ⟨1, 0, none⟩)))]), ⟨4, 1, [(3, 0, .cells [(.int .u64 (wd ks vs 0)), (.int .u64 (wd ks vs 1)), (.int .u64 (wd ks vs 2)), (.int .u64 (wd ks vs 3)), (.int .u64 (wd ks vs 4)), (.int .u64 (wd ks vs 5))] 30 true), (2, 0, .map [] 0), (1, 0, .cells [(.bool true), (.slice (some ⟨3, 0, none⟩) 6 6), (.int .u64 0), (.int .i64 (-1)), (.int .i64 5), (.int .u64 0), (.int .i64 6), (.int .u64 0), (.int .u64 0)] 88 true), (0, 0, .cells [(.int .i64 ((b % 12) + 1)), (.int .i64 0), (.int .i64 0), (.int .u64 0), (.map (some 2))] 94 true)]⟩⟩
theorem K6R6 (ks : ByteArray) (vs : ByteArray) (b : Int) : K6EV boxW wd (codeAt [1, 1, 1, 1, 0] BK6) (K6S7 ks vs b) [0, 1, 7, 8, 9] =
  bif ((Nat.ble (ByteArray.size ks) 16) && ((Nat.ble (ByteArray.size vs) 24) && (Nat.beq (List.length (boxW ks vs)) 6))) then
    some (.normal, (K6S8 wd ks vs b))
  else
    none := by kernel_rfl
noncomputable def K6S9 (ks : ByteArray) (vs : ByteArray) (b : Int) : KSt := ⟨(frameL 130 [(0, (.string ks)), (1, (.string vs)), (7, (.int .i64 ((b % 12) + 1))), (8, (.pointer (some ⟨0, 0, none⟩))), (9, (.pointer (some ⟨1, 0, none⟩))), (11, (.bool true))]), ⟨4, 1, [(3, 0, .cells [(.int .u64 (wd ks vs 0)), (.int .u64 (wd ks vs 1)), (.int .u64 (wd ks vs 2)), (.int .u64 (wd ks vs 3)), (.int .u64 (wd ks vs 4)), (.int .u64 (wd ks vs 5))] 30 true), (2, 0, .map [] 0), (1, 0, .cells [(.bool true), (.slice (some ⟨3, 0, none⟩) 6 6), (.int .u64 0), (.int .i64 (-1)), (.int .i64 0), (.int .u64 0), (.int .i64 0), (.int .u64 0), (.int .u64 0)] 88 true), (0, 0, .cells [(.int .i64 ((b % 12) + 1)), (.int .i64 0), (.int .i64 0), (.int .u64 0), (.map (some 2))] 94 true)]⟩⟩
noncomputable def K6S10 (ks : ByteArray) (vs : ByteArray) (b : Int) : KSt := ⟨(frameL 130 [(0, (.string ks)), (1, (.string vs)), (7, (.int .i64 ((b % 12) + 1))), (8, (.pointer (some ⟨0, 0, none⟩))), (9, (.pointer (some ⟨1, 0, none⟩))), (11, (.bool true))]), ⟨5, 1, [(4, 0, .ints .u64 (List.set (List.set (List.set (List.set (List.set (List.set (List.replicate 6 (0 : Int)) 0 (wd ks vs 0)) 1 (wd ks vs 1)) 2 (wd ks vs 2)) 3 (wd ks vs 3)) 4 (wd ks vs 4)) 5 (wd ks vs 5)) 30 true), (3, 0, .cells [(.int .u64 (wd ks vs 0)), (.int .u64 (wd ks vs 1)), (.int .u64 (wd ks vs 2)), (.int .u64 (wd ks vs 3)), (.int .u64 (wd ks vs 4)), (.int .u64 (wd ks vs 5))] 30 true), (2, 0, .map [((.int .u64 1), (.slice (some ⟨4, 0, none⟩) 6 6), 0)] 1), (1, 0, .cells [(.bool true), (.slice (some ⟨3, 0, none⟩) 6 6), (.int .u64 1), (.int .i64 6), (.int .i64 0), (.int .u64 0), (.int .i64 0), (.int .u64 0), (.int .u64 0)] 88 true), (0, 0, .cells [(.int .i64 ((b % 12) + 1)), (.int .i64 6), (.int .i64 0), (.int .u64 1), (.map (some 2))] 94 true)]⟩⟩
theorem K6R7 (ks : ByteArray) (vs : ByteArray) (b : Int) : K6EV boxW wd (codeAt [1, 1, 1, 1, 1, 0] BK6) (K6S8 wd ks vs b) [0, 1, 7, 8, 9, 11] =
  bif (decide (6 > (IntKind.wrap .i64 (((b % 12) + 1) - 0)))) then
    some (.normal, (K6S9 wd ks vs b))
  else
    bif (Nat.ble 1 (List.length (List.replicate 6 (0 : Int)))) then
      bif (Nat.ble 2 (List.length (List.set (List.replicate 6 (0 : Int)) 0 (wd ks vs 0)))) then
        bif (Nat.ble 3 (List.length (List.set (List.set (List.replicate 6 (0 : Int)) 0 (wd ks vs 0)) 1 (wd ks vs 1)))) then
          bif (Nat.ble 4 (List.length (List.set (List.set (List.set (List.replicate 6 (0 : Int)) 0 (wd ks vs 0)) 1 (wd ks vs 1)) 2 (wd ks vs 2)))) then
            bif (Nat.ble 5 (List.length (List.set (List.set (List.set (List.set (List.replicate 6 (0 : Int)) 0 (wd ks vs 0)) 1 (wd ks vs 1)) 2 (wd ks vs 2)) 3 (wd ks vs 3)))) then
              bif (Nat.ble 6 (List.length (List.set (List.set (List.set (List.set (List.set (List.replicate 6 (0 : Int)) 0 (wd ks vs 0)) 1 (wd ks vs 1)) 2 (wd ks vs 2)) 3 (wd ks vs 3)) 4 (wd ks vs 4)))) then
                some (.normal, (K6S10 wd ks vs b))
              else
                none
            else
              none
          else
            none
        else
          none
      else
        none
    else
      none := by kernel_rfl
noncomputable def K6S11 (ks : ByteArray) (vs : ByteArray) (b : Int) : KSt := ⟨(frameL 130 [(0, (.string ks)), (1, (.string vs)), (7, (.int .i64 ((b % 12) + 1))), (8, (.pointer (some ⟨0, 0, none⟩))), (11, (.bool true)), (12, (.int .u64 1)), (13, (.bool true))]), ⟨3, 1, [(2, 0, .ints .u64 (List.set (List.set (List.set (List.set (List.set (List.set (List.replicate 6 (0 : Int)) 0 (wd ks vs 0)) 1 (wd ks vs 1)) 2 (wd ks vs 2)) 3 (wd ks vs 3)) 4 (wd ks vs 4)) 5 (wd ks vs 5)) 30 true), (1, 0, .map [((.int .u64 1), (.slice (some ⟨2, 0, none⟩) 6 6), 0)] 1), (0, 0, .cells [(.int .i64 ((b % 12) + 1)), (.int .i64 6), (.int .i64 0), (.int .u64 1), (.map (some 1))] 94 true)]⟩⟩
theorem K6R8 (ks : ByteArray) (vs : ByteArray) (b : Int) : K6EV boxW wd (codeAt [1, 1, 1, 1, 1, 1, 0] BK6) (K6S10 wd ks vs b) [0, 1, 7, 8, 11, 12, 13] =
  some (.normal, (K6S11 wd ks vs b)) := by kernel_rfl
noncomputable def K6S12 (b : Int) (ks : ByteArray) (vs : ByteArray) : KSt := ⟨(frameL 130 [(7, (.int .i64 ((b % 12) + 1))), (8, (.pointer (some ⟨0, 0, none⟩))), (11, (.bool true)), (12, (.int .u64 1)), (13, (.bool true)), (14, (.slice (some ⟨1, 0, none⟩) 6 6))]), ⟨4, 1, [(3, 0, .ints .u64 (List.set (List.set (List.set (List.set (List.set (List.set (List.replicate 6 (0 : Int)) 0 (wd ks vs 0)) 1 (wd ks vs 1)) 2 (wd ks vs 2)) 3 (wd ks vs 3)) 4 (wd ks vs 4)) 5 (wd ks vs 5)) 30 true), (2, 0, .map [((.int .u64 1), (.slice (some ⟨3, 0, none⟩) 6 6), 0)] 1), (1, 0, .cells [(.int .u64 (wd ks vs 0)), (.int .u64 (wd ks vs 1)), (.int .u64 (wd ks vs 2)), (.int .u64 (wd ks vs 3)), (.int .u64 (wd ks vs 4)), (.int .u64 (wd ks vs 5))] 30 true), (0, 0, .cells [(.int .i64 ((b % 12) + 1)), (.int .i64 6), (.int .i64 0), (.int .u64 1), (.map (some 2))] 94 true)]⟩⟩
theorem K6R9 (ks : ByteArray) (vs : ByteArray) (b : Int) : K6EV boxW wd (codeAt [1, 1, 1, 1, 1, 1, 1, 0] BK6) (K6S11 wd ks vs b) [7, 8, 11, 12, 13, 14] =
  bif ((Nat.ble (ByteArray.size ks) 16) && ((Nat.ble (ByteArray.size vs) 24) && (Nat.beq (List.length (boxW ks vs)) 6))) then
    some (.normal, (K6S12 wd b ks vs))
  else
    none := by kernel_rfl
noncomputable def K6S13 (b : Int) (ks : ByteArray) (vs : ByteArray) : KSt := ⟨(frameL 130 [(8, (.pointer (some ⟨0, 0, none⟩))), (12, (.int .u64 1)), (14, (.slice (some ⟨1, 0, none⟩) 6 6)), (70, (.bool (!(false == (decide (6 > ((b % 12) + 1)))))))]), ⟨4, 1, [(3, 0, .ints .u64 (List.set (List.set (List.set (List.set (List.set (List.set (List.replicate 6 (0 : Int)) 0 (wd ks vs 0)) 1 (wd ks vs 1)) 2 (wd ks vs 2)) 3 (wd ks vs 3)) 4 (wd ks vs 4)) 5 (wd ks vs 5)) 30 true), (2, 0, .map [((.int .u64 1), (.slice (some ⟨3, 0, none⟩) 6 6), 0)] 1), (1, 0, .cells [(.int .u64 (wd ks vs 0)), (.int .u64 (wd ks vs 1)), (.int .u64 (wd ks vs 2)), (.int .u64 (wd ks vs 3)), (.int .u64 (wd ks vs 4)), (.int .u64 (wd ks vs 5))] 30 true), (0, 0, .cells [(.int .i64 ((b % 12) + 1)), (.int .i64 6), (.int .i64 0), (.int .u64 1), (.map (some 2))] 94 true)]⟩⟩
theorem K6R10 (b : Int) (ks : ByteArray) (vs : ByteArray) : K6EV boxW wd (codeAt [1, 1, 1, 1, 1, 1, 1, 1, 0, 0] BK6) (K6S12 wd b ks vs) [8, 12, 14, 70] =
  some (.normal, (K6S13 wd b ks vs)) := by kernel_rfl
noncomputable def K6S14 (ks : ByteArray) (vs : ByteArray) (b : Int) : KSt := ⟨(frameL 130 [(8, (.pointer (some ⟨0, 0, none⟩))), (12, (.int .u64 1)), (14, (.slice (some ⟨1, 0, none⟩) 6 6))]), ⟨4, 1, [(3, 0, .ints .u64 (List.set (List.set (List.set (List.set (List.set (List.set (List.replicate 6 (0 : Int)) 0 (wd ks vs 0)) 1 (wd ks vs 1)) 2 (wd ks vs 2)) 3 (wd ks vs 3)) 4 (wd ks vs 4)) 5 (wd ks vs 5)) 30 true), (2, 0, .map [((.int .u64 1), (.slice (some ⟨3, 0, none⟩) 6 6), 0)] 1), (1, 0, .cells [(.int .u64 (wd ks vs 0)), (.int .u64 (wd ks vs 1)), (.int .u64 (wd ks vs 2)), (.int .u64 (wd ks vs 3)), (.int .u64 (wd ks vs 4)), (.int .u64 (wd ks vs 5))] 30 true), (0, 0, .cells [(.int .i64 ((b % 12) + 1)), (.int .i64 6), (.int .i64 0), (.int .u64 1), (.map (some 2))] 94 true)]⟩⟩
theorem K6R11 (b : Int) (ks : ByteArray) (vs : ByteArray) : K6EV boxW wd (codeAt [1, 1, 1, 1, 1, 1, 1, 1, 0, 1, 1] BK6) (K6S13 wd b ks vs) [8, 12, 14] =
  some (.normal, (K6S14 wd ks vs b)) := by kernel_rfl
noncomputable def K6S15 (ks : ByteArray) (vs : ByteArray) (b : Int) : KSt := ⟨(frameL 130 [(8, (.pointer (some ⟨0, 0, none⟩))), (12, (.int .u64 1)), (14, (.slice (some ⟨1, 0, none⟩) 6 6)), (72, (.bool false))]), ⟨4, 1, [(3, 0, .ints .u64 (List.set (List.set (List.set (List.set (List.set (List.set (List.replicate 6 (0 : Int)) 0 (wd ks vs 0)) 1 (wd ks vs 1)) 2 (wd ks vs 2)) 3 (wd ks vs 3)) 4 (wd ks vs 4)) 5 (wd ks vs 5)) 30 true), (2, 0, .map [((.int .u64 1), (.slice (some ⟨3, 0, none⟩) 6 6), 0)] 1), (1, 0, .cells [(.int .u64 (wd ks vs 0)), (.int .u64 (wd ks vs 1)), (.int .u64 (wd ks vs 2)), (.int .u64 (wd ks vs 3)), (.int .u64 (wd ks vs 4)), (.int .u64 (wd ks vs 5))] 30 true), (0, 0, .cells [(.int .i64 ((b % 12) + 1)), (.int .i64 6), (.int .i64 0), (.int .u64 1), (.map (some 2))] 94 true)]⟩⟩
theorem K6R12 (ks : ByteArray) (vs : ByteArray) (b : Int) : K6EV boxW wd (codeAt [1, 1, 1, 1, 1, 1, 1, 1, 1, 0, 0] BK6) (K6S14 wd ks vs b) [8, 12, 14, 72] =
  some (.normal, (K6S15 wd ks vs b)) := by kernel_rfl
theorem K6R13 (ks : ByteArray) (vs : ByteArray) (b : Int) : K6EV boxW wd (codeAt [1, 1, 1, 1, 1, 1, 1, 1, 1, 0, 1, 1] BK6) (K6S15 wd ks vs b) [8, 12, 14] =
  some (.normal, (K6S14 wd ks vs b)) := by kernel_rfl
noncomputable def K6S16 (ks : ByteArray) (vs : ByteArray) (b : Int) : KSt := ⟨(frameL 130 [(8, (.pointer (some ⟨0, 0, none⟩))), (12, (.int .u64 1)), (14, (.slice (some ⟨1, 0, none⟩) 6 6)), (16, (.slice (some ⟨2, 0, none⟩) 0 0))]), ⟨5, 1, [(4, 0, .ints .u64 (List.set (List.set (List.set (List.set (List.set (List.set (List.replicate 6 (0 : Int)) 0 (wd ks vs 0)) 1 (wd ks vs 1)) 2 (wd ks vs 2)) 3 (wd ks vs 3)) 4 (wd ks vs 4)) 5 (wd ks vs 5)) 30 true), (3, 0, .map [((.int .u64 1), (.slice (some ⟨4, 0, none⟩) 6 6), 0)] 1), (2, 0, .cells [] 30 true), (1, 0, .cells [(.int .u64 (wd ks vs 0)), (.int .u64 (wd ks vs 1)), (.int .u64 (wd ks vs 2)), (.int .u64 (wd ks vs 3)), (.int .u64 (wd ks vs 4)), (.int .u64 (wd ks vs 5))] 30 true), (0, 0, .cells [(.int .i64 ((b % 12) + 1)), (.int .i64 6), (.int .i64 0), (.int .u64 1), (.map (some 3))] 94 true)]⟩⟩
theorem K6R14 (ks : ByteArray) (vs : ByteArray) (b : Int) : K6EV boxW wd (codeAt [1, 1, 1, 1, 1, 1, 1, 1, 1, 1, 0] BK6) (K6S14 wd ks vs b) [8, 12, 14, 16] =
  some (.normal, (K6S16 wd ks vs b)) := by kernel_rfl
noncomputable def K6S17 (ks : ByteArray) (vs : ByteArray) (b : Int) : KSt := ⟨(frameL 130 [(8, (.pointer (some ⟨0, 0, none⟩))), (12, (.int .u64 1)), (14, (.slice (some ⟨1, 0, none⟩) 6 6)), (16, (.slice (some ⟨2, 0, none⟩) 0 0)), (17, (.int .i64 0))]), ⟨5, 1, [(4, 0, .ints .u64 (List.set (List.set (List.set (List.set (List.set (List.set (List.replicate 6 (0 : Int)) 0 (wd ks vs 0)) 1 (wd ks vs 1)) 2 (wd ks vs 2)) 3 (wd ks vs 3)) 4 (wd ks vs 4)) 5 (wd ks vs 5)) 30 true), (3, 0, .map [((.int .u64 1), (.slice (some ⟨4, 0, none⟩) 6 6), 0)] 1), (2, 0, .cells [] 30 true), (1, 0, .cells [(.int .u64 (wd ks vs 0)), (.int .u64 (wd ks vs 1)), (.int .u64 (wd ks vs 2)), (.int .u64 (wd ks vs 3)), (.int .u64 (wd ks vs 4)), (.int .u64 (wd ks vs 5))] 30 true), (0, 0, .cells [(.int .i64 ((b % 12) + 1)), (.int .i64 6), (.int .i64 0), (.int .u64 1), (.map (some 3))] 94 true)]⟩⟩
theorem K6R15 (ks : ByteArray) (vs : ByteArray) (b : Int) : K6EV boxW wd (codeAt [1, 1, 1, 1, 1, 1, 1, 1, 1, 1, 1, 0, 0] BK6) (K6S16 wd ks vs b) [8, 12, 14, 16, 17] =
  some (.normal, (K6S17 wd ks vs b)) := by kernel_rfl
noncomputable def K6S18 (ks : ByteArray) (vs : ByteArray) (b : Int) : KSt := ⟨(frameL 130 [(0, (.string ks)), (1, (.string vs)), (7, (.int .i64 ((b % 12) + 1))), (8, (.pointer (some ⟨0, 0, none⟩))), (11, (.bool true)), (12, (.int .u64 0)), (13, (.bool true))]), ⟨2, 1, [(1, 0, .map [] 0), (0, 0, .cells [(.int .i64 ((b % 12) + 1)), (.int .i64 0), (.int .i64 0), (.int .u64 0), (.map (some 1))] 94 true)]⟩⟩
theorem K6R16 (ks : ByteArray) (vs : ByteArray) (b : Int) : K6EV boxW wd (codeAt [1, 1, 1, 1, 1, 1, 0] BK6) (K6S9 wd ks vs b) [0, 1, 7, 8, 11, 12, 13] =
  some (.normal, (K6S18 ks vs b)) := by kernel_rfl
noncomputable def K6S19 (b : Int) (ks : ByteArray) (vs : ByteArray) : KSt := ⟨(frameL 130 [(7, (.int .i64 ((b % 12) + 1))), (8, (.pointer (some ⟨0, 0, none⟩))), (11, (.bool true)), (12, (.int .u64 0)), (13, (.bool true)), (14, (.slice (some ⟨1, 0, none⟩) 6 6))]), ⟨3, 1, [(2, 0, .map [] 0), (1, 0, .cells [(.int .u64 (wd ks vs 0)), (.int .u64 (wd ks vs 1)), (.int .u64 (wd ks vs 2)), (.int .u64 (wd ks vs 3)), (.int .u64 (wd ks vs 4)), (.int .u64 (wd ks vs 5))] 30 true), (0, 0, .cells [(.int .i64 ((b % 12) + 1)), (.int .i64 0), (.int .i64 0), (.int .u64 0), (.map (some 2))] 94 true)]⟩⟩
theorem K6R17 (ks : ByteArray) (vs : ByteArray) (b : Int) : K6EV boxW wd (codeAt [1, 1, 1, 1, 1, 1, 1, 0] BK6) (K6S18 ks vs b) [7, 8, 11, 12, 13, 14] =
  bif ((Nat.ble (ByteArray.size ks) 16) && ((Nat.ble (ByteArray.size vs) 24) && (Nat.beq (List.length (boxW ks vs)) 6))) then
    some (.normal, (K6S19 wd b ks vs))
  else
    none := by kernel_rfl
noncomputable def K6S20 (b : Int) (ks : ByteArray) (vs : ByteArray) : KSt := ⟨(frameL 130 [(8, (.pointer (some ⟨0, 0, none⟩))), (12, (.int .u64 0)), (14, (.slice (some ⟨1, 0, none⟩) 6 6)), (70, (.bool (!(true == (decide (6 > ((b % 12) + 1)))))))]), ⟨3, 1, [(2, 0, .map [] 0), (1, 0, .cells [(.int .u64 (wd ks vs 0)), (.int .u64 (wd ks vs 1)), (.int .u64 (wd ks vs 2)), (.int .u64 (wd ks vs 3)), (.int .u64 (wd ks vs 4)), (.int .u64 (wd ks vs 5))] 30 true), (0, 0, .cells [(.int .i64 ((b % 12) + 1)), (.int .i64 0), (.int .i64 0), (.int .u64 0), (.map (some 2))] 94 true)]⟩⟩
theorem K6R18 (b : Int) (ks : ByteArray) (vs : ByteArray) : K6EV boxW wd (codeAt [1, 1, 1, 1, 1, 1, 1, 1, 0, 0] BK6) (K6S19 wd b ks vs) [8, 12, 14, 70] =
  some (.normal, (K6S20 wd b ks vs)) := by kernel_rfl
noncomputable def K6S21 (ks : ByteArray) (vs : ByteArray) (b : Int) : KSt := ⟨(frameL 130 [(8, (.pointer (some ⟨0, 0, none⟩))), (12, (.int .u64 0)), (14, (.slice (some ⟨1, 0, none⟩) 6 6))]), ⟨3, 1, [(2, 0, .map [] 0), (1, 0, .cells [(.int .u64 (wd ks vs 0)), (.int .u64 (wd ks vs 1)), (.int .u64 (wd ks vs 2)), (.int .u64 (wd ks vs 3)), (.int .u64 (wd ks vs 4)), (.int .u64 (wd ks vs 5))] 30 true), (0, 0, .cells [(.int .i64 ((b % 12) + 1)), (.int .i64 0), (.int .i64 0), (.int .u64 0), (.map (some 2))] 94 true)]⟩⟩
theorem K6R19 (b : Int) (ks : ByteArray) (vs : ByteArray) : K6EV boxW wd (codeAt [1, 1, 1, 1, 1, 1, 1, 1, 0, 1, 1] BK6) (K6S20 wd b ks vs) [8, 12, 14] =
  some (.normal, (K6S21 wd ks vs b)) := by kernel_rfl
noncomputable def K6S22 (ks : ByteArray) (vs : ByteArray) (b : Int) : KSt := ⟨(frameL 130 [(8, (.pointer (some ⟨0, 0, none⟩))), (12, (.int .u64 0)), (14, (.slice (some ⟨1, 0, none⟩) 6 6)), (72, (.bool true))]), ⟨3, 1, [(2, 0, .map [] 0), (1, 0, .cells [(.int .u64 (wd ks vs 0)), (.int .u64 (wd ks vs 1)), (.int .u64 (wd ks vs 2)), (.int .u64 (wd ks vs 3)), (.int .u64 (wd ks vs 4)), (.int .u64 (wd ks vs 5))] 30 true), (0, 0, .cells [(.int .i64 ((b % 12) + 1)), (.int .i64 0), (.int .i64 0), (.int .u64 0), (.map (some 2))] 94 true)]⟩⟩
theorem K6R20 (ks : ByteArray) (vs : ByteArray) (b : Int) : K6EV boxW wd (codeAt [1, 1, 1, 1, 1, 1, 1, 1, 1, 0, 0] BK6) (K6S21 wd ks vs b) [8, 12, 14, 72] =
  some (.normal, (K6S22 wd ks vs b)) := by kernel_rfl
noncomputable def K6S23  : KSt := ⟨(frameL 130 [(6, (.bool true))]), ⟨0, 1, []⟩⟩
theorem K6R21 (ks : ByteArray) (vs : ByteArray) (b : Int) : K6EV boxW wd (codeAt [1, 1, 1, 1, 1, 1, 1, 1, 1, 0, 1, 0, 0] BK6) (K6S22 wd ks vs b) [6] =
  some (.normal, K6S23) := by kernel_rfl
end
theorem K6in {b : Int} {ks : ByteArray} {vs : ByteArray} (hb : 0 ≤ b) (hb2 : b < 256) (h16 : ks.size ≤ 16) (h24 : vs.size ≤ 24) (hM : Nat.beq (boxW ks vs).length 6 = true) (hr : 6 ≤ b % 12 + 1)   {Q : Ex → St → Prop} (hq : Gets Try.prog (KH.low ⟨0, 1, []⟩) (codeAt [1, 1, 1, 1, 1, 1, 1, 1, 1, 1, 1, 0, 1] BK6) (KSt.low (K6S17 wd ks vs b)) (onN (fun s => Gets Try.prog (KH.low ⟨0, 1, []⟩) (codeAt [1, 1, 1, 1, 1, 1, 1, 1, 1, 1, 1, 1] BK6) s (Q)) (Q))) : Gets Try.prog (KH.low ⟨0, 1, []⟩) BK6 (KSt.low (K6S0 ks vs b)) Q := by
  rw [K6C]; refine Gets.seq ?_
  refine K6go (K6R1 boxW wd ks vs b) ?_
  rw [K6C1]; refine Gets.seq ?_
  rw [K6C1_0]; refine Gets.seq ?_
  refine K6go (x := .normal) (s' := (K6S3 ks vs b)) ((K6R2 boxW wd ks vs b).trans (by rw [condF (decide_eq_false (by omega))])) ?_
  rw [K6C1_0_1]; refine Gets.cond false (by kernel_rfl) (K6eX (b := (decide ((((ByteArray.size vs) : Nat) : Int) > 24))) (by kernel_rfl) ((show (decide ((((ByteArray.size vs) : Nat) : Int) > 24)) = false from decide_eq_false (by omega)))) ?_; show Gets _ _ (codeAt [1, 0, 1, 1] BK6) _ _
  refine K6go (K6R3 boxW wd ks vs b) ?_
  rw [K6C1_1]; refine Gets.seq ?_
  refine K6go (x := .normal) (s' := (K6S5 ks vs b)) ((K6R4 boxW wd ks vs b).trans (by (show some (Ex.normal, (K6S4 ks vs b)) = some (Ex.normal, (K6S5 ks vs b)); unfold K6S4 K6S5; rw [(show (IntKind.wrap .i64 ((Int.tmod (IntKind.wrap .i64 b) 12) + 1)) = ((b % 12) + 1) from by rw [wrap_i64_id (n := b) (by omega) (by omega), Int.tmod_eq_emod_of_nonneg hb, wrap_i64_id (by omega) (by omega)])]))) ?_
  rw [K6C1_1_1]; refine Gets.seq ?_
  refine K6go (x := .normal) (s' := (K6S7 ks vs b)) ((K6R5 boxW wd ks vs b).trans (by rw [condF (decide_eq_false (by omega)), condF (decide_eq_false (by omega))])) ?_
  rw [K6C1_1_1_1]; refine Gets.seq ?_
  refine K6go (x := .normal) (s' := (K6S8 wd ks vs b)) ((K6R6 boxW wd ks vs b).trans (by rw [condT (and_t (Nat.ble_eq_true_of_le h16) (and_t (Nat.ble_eq_true_of_le h24) (hM)))])) ?_
  rw [K6C1_1_1_1_1]; refine Gets.seq ?_
  refine K6go (x := .normal) (s' := (K6S10 wd ks vs b)) ((K6R7 boxW wd ks vs b).trans (by rw [condF (decide_eq_false (by (first | omega | ((try simp (disch := omega) only [wrap_i64_id]) <;> omega)))), condT (show (Nat.ble 1 (List.length (List.replicate 6 (0 : Int)))) = true from rfl), condT (show (Nat.ble 2 (List.length (List.set (List.replicate 6 (0 : Int)) 0 (wd ks vs 0)))) = true from rfl), condT (show (Nat.ble 3 (List.length (List.set (List.set (List.replicate 6 (0 : Int)) 0 (wd ks vs 0)) 1 (wd ks vs 1)))) = true from rfl), condT (show (Nat.ble 4 (List.length (List.set (List.set (List.set (List.replicate 6 (0 : Int)) 0 (wd ks vs 0)) 1 (wd ks vs 1)) 2 (wd ks vs 2)))) = true from rfl), condT (show (Nat.ble 5 (List.length (List.set (List.set (List.set (List.set (List.replicate 6 (0 : Int)) 0 (wd ks vs 0)) 1 (wd ks vs 1)) 2 (wd ks vs 2)) 3 (wd ks vs 3)))) = true from rfl), condT (show (Nat.ble 6 (List.length (List.set (List.set (List.set (List.set (List.set (List.replicate 6 (0 : Int)) 0 (wd ks vs 0)) 1 (wd ks vs 1)) 2 (wd ks vs 2)) 3 (wd ks vs 3)) 4 (wd ks vs 4)))) = true from rfl)])) ?_
  rw [K6C1_1_1_1_1_1]; refine Gets.seq ?_
  refine K6go (K6R8 boxW wd ks vs b) ?_
  rw [K6C1_1_1_1_1_1_1]; refine Gets.seq ?_
  refine K6go (x := .normal) (s' := (K6S12 wd b ks vs)) ((K6R9 boxW wd ks vs b).trans (by rw [condT (and_t (Nat.ble_eq_true_of_le h16) (and_t (Nat.ble_eq_true_of_le h24) (hM)))])) ?_
  rw [K6C1_1_1_1_1_1_1_1]; refine Gets.seq ?_
  rw [K6C1_1_1_1_1_1_1_1_0]; refine Gets.seq ?_
  refine K6go (K6R10 boxW wd b ks vs) ?_
  rw [K6C1_1_1_1_1_1_1_1_0_1]; refine Gets.cond false (by kernel_rfl) (K6eX (b := (!(false == (decide (6 > ((b % 12) + 1)))))) (by kernel_rfl) ((show (!(false == (decide (6 > ((b % 12) + 1))))) = false from not_f (fd_ (by omega))))) ?_; show Gets _ _ (codeAt [1, 1, 1, 1, 1, 1, 1, 1, 0, 1, 1] BK6) _ _
  refine K6go (K6R11 boxW wd b ks vs) ?_
  rw [K6C1_1_1_1_1_1_1_1_1]; refine Gets.seq ?_
  rw [K6C1_1_1_1_1_1_1_1_1_0]; refine Gets.seq ?_
  refine K6go (K6R12 boxW wd ks vs b) ?_
  rw [K6C1_1_1_1_1_1_1_1_1_0_1]; refine Gets.cond false (by kernel_rfl) (by kernel_rfl) ?_; show Gets _ _ (codeAt [1, 1, 1, 1, 1, 1, 1, 1, 1, 0, 1, 1] BK6) _ _
  refine K6go (K6R13 boxW wd ks vs b) ?_
  rw [K6C1_1_1_1_1_1_1_1_1_1]; refine Gets.seq ?_
  refine K6go (K6R14 boxW wd ks vs b) ?_
  rw [K6C1_1_1_1_1_1_1_1_1_1_1]; refine Gets.seq ?_
  rw [K6C1_1_1_1_1_1_1_1_1_1_1_0]; refine Gets.seq ?_
  refine K6go (K6R15 boxW wd ks vs b) ?_
  exact hq
theorem K6no {b : Int} {ks : ByteArray} {vs : ByteArray} (hb : 0 ≤ b) (hb2 : b < 256) (h16 : ks.size ≤ 16) (h24 : vs.size ≤ 24) (hM : Nat.beq (boxW ks vs).length 6 = true) (hr : b % 12 + 1 < 6)   {Q : Ex → St → Prop} (hq : Q .ret (KSt.low K6S23)) : Gets Try.prog (KH.low ⟨0, 1, []⟩) BK6 (KSt.low (K6S0 ks vs b)) Q := by
  rw [K6C]; refine Gets.seq ?_
  refine K6go (K6R1 boxW wd ks vs b) ?_
  rw [K6C1]; refine Gets.seq ?_
  rw [K6C1_0]; refine Gets.seq ?_
  refine K6go (x := .normal) (s' := (K6S3 ks vs b)) ((K6R2 boxW wd ks vs b).trans (by rw [condF (decide_eq_false (by omega))])) ?_
  rw [K6C1_0_1]; refine Gets.cond false (by kernel_rfl) (K6eX (b := (decide ((((ByteArray.size vs) : Nat) : Int) > 24))) (by kernel_rfl) ((show (decide ((((ByteArray.size vs) : Nat) : Int) > 24)) = false from decide_eq_false (by omega)))) ?_; show Gets _ _ (codeAt [1, 0, 1, 1] BK6) _ _
  refine K6go (K6R3 boxW wd ks vs b) ?_
  rw [K6C1_1]; refine Gets.seq ?_
  refine K6go (x := .normal) (s' := (K6S5 ks vs b)) ((K6R4 boxW wd ks vs b).trans (by (show some (Ex.normal, (K6S4 ks vs b)) = some (Ex.normal, (K6S5 ks vs b)); unfold K6S4 K6S5; rw [(show (IntKind.wrap .i64 ((Int.tmod (IntKind.wrap .i64 b) 12) + 1)) = ((b % 12) + 1) from by rw [wrap_i64_id (n := b) (by omega) (by omega), Int.tmod_eq_emod_of_nonneg hb, wrap_i64_id (by omega) (by omega)])]))) ?_
  rw [K6C1_1_1]; refine Gets.seq ?_
  refine K6go (x := .normal) (s' := (K6S7 ks vs b)) ((K6R5 boxW wd ks vs b).trans (by rw [condF (decide_eq_false (by omega)), condF (decide_eq_false (by omega))])) ?_
  rw [K6C1_1_1_1]; refine Gets.seq ?_
  refine K6go (x := .normal) (s' := (K6S8 wd ks vs b)) ((K6R6 boxW wd ks vs b).trans (by rw [condT (and_t (Nat.ble_eq_true_of_le h16) (and_t (Nat.ble_eq_true_of_le h24) (hM)))])) ?_
  rw [K6C1_1_1_1_1]; refine Gets.seq ?_
  refine K6go (x := .normal) (s' := (K6S9 wd ks vs b)) ((K6R7 boxW wd ks vs b).trans (by rw [condT (decide_eq_true (by (first | omega | ((try simp (disch := omega) only [wrap_i64_id]) <;> omega))))])) ?_
  rw [K6C1_1_1_1_1_1]; refine Gets.seq ?_
  refine K6go (K6R16 boxW wd ks vs b) ?_
  rw [K6C1_1_1_1_1_1_1]; refine Gets.seq ?_
  refine K6go (x := .normal) (s' := (K6S19 wd b ks vs)) ((K6R17 boxW wd ks vs b).trans (by rw [condT (and_t (Nat.ble_eq_true_of_le h16) (and_t (Nat.ble_eq_true_of_le h24) (hM)))])) ?_
  rw [K6C1_1_1_1_1_1_1_1]; refine Gets.seq ?_
  rw [K6C1_1_1_1_1_1_1_1_0]; refine Gets.seq ?_
  refine K6go (K6R18 boxW wd b ks vs) ?_
  rw [K6C1_1_1_1_1_1_1_1_0_1]; refine Gets.cond false (by kernel_rfl) (K6eX (b := (!(true == (decide (6 > ((b % 12) + 1)))))) (by kernel_rfl) ((show (!(true == (decide (6 > ((b % 12) + 1))))) = false from not_f (td_ (by omega))))) ?_; show Gets _ _ (codeAt [1, 1, 1, 1, 1, 1, 1, 1, 0, 1, 1] BK6) _ _
  refine K6go (K6R19 boxW wd b ks vs) ?_
  rw [K6C1_1_1_1_1_1_1_1_1]; refine Gets.seq ?_
  rw [K6C1_1_1_1_1_1_1_1_1_0]; refine Gets.seq ?_
  refine K6go (K6R20 boxW wd ks vs b) ?_
  rw [K6C1_1_1_1_1_1_1_1_1_0_1]; refine Gets.cond true (by kernel_rfl) (by kernel_rfl) ?_; show Gets _ _ (codeAt [1, 1, 1, 1, 1, 1, 1, 1, 1, 0, 1, 0] BK6) _ _
  rw [K6C1_1_1_1_1_1_1_1_1_0_1_0]; refine Gets.seq ?_
  refine K6go (K6R21 boxW wd ks vs b) ?_
  rw [K6C1_1_1_1_1_1_1_1_1_0_1_0_1]; refine Gets.ev fitK.mix fitK.cfg (fitK.sound mm6_sound 70 0) 70 rfl (s' := KSt.low K6S23) (x := .ret) rfl ?_
  exact hq
noncomputable def QL : Ex → St → Prop := Eng.Ends Try.prog Try.f9.results.toList fun r _ => r = .bool true
theorem qL {s : KSt} (h : resL Try.prog s.low Try.f9.results.toList = some [.bool true]) : QL .ret s.low := Ends.of h rfl
theorem ro1 {off : Nat} {l : List Int} {e : TypeId} : Ro (mkH [.tail off .u64 l e]).low := fun a o ho => by
  obtain ⟨_, rfl⟩ := mkH1_get ho; rfl
theorem ro0 : Ro (mkH []).low := fun a o ho => by cases ho
inductive MmInv (m : Nat) (g : Int) (L X : List Int) : Nat → KSt → Prop
  | z : MmInv m g L X (m + 1) (KLS0 m L X g)
  | p (k : Nat) (q : List Int) (hk : 1 ≤ k) (hkm : k ≤ m) (hq : q = L.take k) : MmInv m g L X (m - k) (KLS9 m k L q X g)
theorem loopMm (m : Nat) (g : Int) (L X : List Int) (hL : L.length = m) (hX : X.length = m) (hm6 : m ≤ 6) (hm : 1 ≤ m) (hLX : L = X) (z : Nat) (t : KSt) (hI : MmInv m g L X z t) : Gets Try.prog (KH.low ⟨0, 1, []⟩) (codeAt [1, 1, 1, 1, 1, 1, 1, 1, 1, 1, 1, 0, 1] BKL) t.low (onN (fun s => Gets Try.prog (KH.low ⟨0, 1, []⟩) (codeAt [1, 1, 1, 1, 1, 1, 1, 1, 1, 1, 1, 1] BKL) s (QL)) (QL)) := by
  rw [KLC1_1_1_1_1_1_1_1_1_1_1_0_1, KLC1_1_1_1_1_1_1_1_1_1_1_0_1_0]
  refine Gets.loopG (fun z t => MmInv m g L X z t) ?_ _ _ hI
  clear hI z t
  intro z t hI
  have hnx : ∀ k, k < m → List.take k (L.take k) ++ [L.getD k 0] = L.take (k + 1) := fun k hk => by
    rw [List.take_take, Nat.min_self, List.take_add_one, List.getD_eq_getElem?_getD, List.getElem?_eq_getElem (by omega)]; rfl
  cases hI with
  | z =>
    refine KLz0 hL hX hm6 hm ?_
    have h1 : [L.getD 0 0] = L.take 1 := by
      have := hnx 0 (by omega)
      rw [List.take_zero, List.nil_append] at this; exact this
    exact ⟨m - 1, (KLS9 m (1) L ([L.getD 0 0]) X g), by omega, rfl, .p 1 _ (by omega) hm h1⟩
  | p k q hk hkm hq =>
    have hql : q.length = k := by rw [hq, List.length_take]; omega
    by_cases hlt : k < m
    · refine KLz1 hL hX hm6 hql hk hlt ?_
      have h1 : List.take k q ++ [L.getD (0 + ((Int.toNat ((k : Nat) : Int)) * 1)) 0] = L.take (k + 1) := by rw [hq, Nat.mul_one, Nat.zero_add, Int.toNat_natCast]; exact hnx k hlt
      exact ⟨m - (k + 1), (KLS9 m (k + 1) L (List.take k q ++ [L.getD (0 + ((Int.toNat ((k : Nat) : Int)) * 1)) 0]) X g), by omega, rfl, .p (k + 1) _ (by omega) (by omega) h1⟩
    · refine KLzx (by omega) ?_
      refine ⟨fun _ => ?_, fun h => by cases h⟩
      have hkm2 : k = m := by omega
      exact KLfi hL hX hm6 hkm2 (by omega) (by rw [hq, hkm2, hLX, List.drop_zero, List.drop_zero, List.take_take, Nat.min_self]) (qL (by kernel_rfl))
theorem told (ks vs : ByteArray) (b : Int) (hb : 0 ≤ b) (hb2 : b < 256) : Tells Try.prog 9 [(.string ks), (.string vs), (.int .u8 b)] (mkH []).low (.bool true) := by
  by_cases hk : 16 < ks.size
  · refine Gets.tells Try.func9 BKL_is (by rw [noVars]; exact Nat.zero_le _) rfl ?_ ro0
    show Gets Try.prog (KH.low ⟨0, 1, []⟩) BKL (KSt.low (KLS23 ks vs b)) QL
    exact KLgk hk (qL (by kernel_rfl))
  by_cases hv : 24 < vs.size
  · refine Gets.tells Try.func9 BKL_is (by rw [noVars]; exact Nat.zero_le _) rfl ?_ ro0
    show Gets Try.prog (KH.low ⟨0, 1, []⟩) BKL (KSt.low (KLS23 ks vs b)) QL
    exact KLgv (by omega) hv (qL (by kernel_rfl))
  have h16 : ks.size ≤ 16 := by omega
  have h24 : vs.size ≤ 24 := by omega
  have hM6 := boxW_le h16 h24
  have hM1 := boxW_pos ks vs
  by_cases h : (boxW ks vs).length = 1
  · refine Gets.tells Try.func9 BK1_is (by rw [noVars]; exact Nat.zero_le _) rfl ?_ ro0
    show Gets Try.prog (KH.low ⟨0, 1, []⟩) BK1 (KSt.low (K1S0 ks vs b)) QL
    have hr : 1 ≤ b % 12 + 1 := by omega
    refine K1in hb hb2 h16 h24 (nbeq_t h) hr ?_
    exact loopMm 1 ((b % 12) + 1) (List.set (List.replicate 1 (0 : Int)) 0 (wd ks vs 0)) [wd ks vs 0] rfl rfl (by omega) (by omega) rfl (1 + 1) (KLS0 (1) ((List.set (List.replicate 1 (0 : Int)) 0 (wd ks vs 0))) ([wd ks vs 0]) (((b % 12) + 1))) .z
  by_cases h : (boxW ks vs).length = 2
  · refine Gets.tells Try.func9 BK2_is (by rw [noVars]; exact Nat.zero_le _) rfl ?_ ro0
    show Gets Try.prog (KH.low ⟨0, 1, []⟩) BK2 (KSt.low (K2S0 ks vs b)) QL
    by_cases hr : 2 ≤ b % 12 + 1
    · refine K2in hb hb2 h16 h24 (nbeq_t h) hr ?_
      exact loopMm 2 ((b % 12) + 1) (List.set (List.set (List.replicate 2 (0 : Int)) 0 (wd ks vs 0)) 1 (wd ks vs 1)) [wd ks vs 0, wd ks vs 1] rfl rfl (by omega) (by omega) rfl (2 + 1) (KLS0 (2) ((List.set (List.set (List.replicate 2 (0 : Int)) 0 (wd ks vs 0)) 1 (wd ks vs 1))) ([wd ks vs 0, wd ks vs 1]) (((b % 12) + 1))) .z
    · exact K2no hb hb2 h16 h24 (nbeq_t h) (by omega) (qL (by kernel_rfl))
  by_cases h : (boxW ks vs).length = 3
  · refine Gets.tells Try.func9 BK3_is (by rw [noVars]; exact Nat.zero_le _) rfl ?_ ro0
    show Gets Try.prog (KH.low ⟨0, 1, []⟩) BK3 (KSt.low (K3S0 ks vs b)) QL
    by_cases hr : 3 ≤ b % 12 + 1
    · refine K3in hb hb2 h16 h24 (nbeq_t h) hr ?_
      exact loopMm 3 ((b % 12) + 1) (List.set (List.set (List.set (List.replicate 3 (0 : Int)) 0 (wd ks vs 0)) 1 (wd ks vs 1)) 2 (wd ks vs 2)) [wd ks vs 0, wd ks vs 1, wd ks vs 2] rfl rfl (by omega) (by omega) rfl (3 + 1) (KLS0 (3) ((List.set (List.set (List.set (List.replicate 3 (0 : Int)) 0 (wd ks vs 0)) 1 (wd ks vs 1)) 2 (wd ks vs 2))) ([wd ks vs 0, wd ks vs 1, wd ks vs 2]) (((b % 12) + 1))) .z
    · exact K3no hb hb2 h16 h24 (nbeq_t h) (by omega) (qL (by kernel_rfl))
  by_cases h : (boxW ks vs).length = 4
  · refine Gets.tells Try.func9 BK4_is (by rw [noVars]; exact Nat.zero_le _) rfl ?_ ro0
    show Gets Try.prog (KH.low ⟨0, 1, []⟩) BK4 (KSt.low (K4S0 ks vs b)) QL
    by_cases hr : 4 ≤ b % 12 + 1
    · refine K4in hb hb2 h16 h24 (nbeq_t h) hr ?_
      exact loopMm 4 ((b % 12) + 1) (List.set (List.set (List.set (List.set (List.replicate 4 (0 : Int)) 0 (wd ks vs 0)) 1 (wd ks vs 1)) 2 (wd ks vs 2)) 3 (wd ks vs 3)) [wd ks vs 0, wd ks vs 1, wd ks vs 2, wd ks vs 3] rfl rfl (by omega) (by omega) rfl (4 + 1) (KLS0 (4) ((List.set (List.set (List.set (List.set (List.replicate 4 (0 : Int)) 0 (wd ks vs 0)) 1 (wd ks vs 1)) 2 (wd ks vs 2)) 3 (wd ks vs 3))) ([wd ks vs 0, wd ks vs 1, wd ks vs 2, wd ks vs 3]) (((b % 12) + 1))) .z
    · exact K4no hb hb2 h16 h24 (nbeq_t h) (by omega) (qL (by kernel_rfl))
  by_cases h : (boxW ks vs).length = 5
  · refine Gets.tells Try.func9 BK5_is (by rw [noVars]; exact Nat.zero_le _) rfl ?_ ro0
    show Gets Try.prog (KH.low ⟨0, 1, []⟩) BK5 (KSt.low (K5S0 ks vs b)) QL
    by_cases hr : 5 ≤ b % 12 + 1
    · refine K5in hb hb2 h16 h24 (nbeq_t h) hr ?_
      exact loopMm 5 ((b % 12) + 1) (List.set (List.set (List.set (List.set (List.set (List.replicate 5 (0 : Int)) 0 (wd ks vs 0)) 1 (wd ks vs 1)) 2 (wd ks vs 2)) 3 (wd ks vs 3)) 4 (wd ks vs 4)) [wd ks vs 0, wd ks vs 1, wd ks vs 2, wd ks vs 3, wd ks vs 4] rfl rfl (by omega) (by omega) rfl (5 + 1) (KLS0 (5) ((List.set (List.set (List.set (List.set (List.set (List.replicate 5 (0 : Int)) 0 (wd ks vs 0)) 1 (wd ks vs 1)) 2 (wd ks vs 2)) 3 (wd ks vs 3)) 4 (wd ks vs 4))) ([wd ks vs 0, wd ks vs 1, wd ks vs 2, wd ks vs 3, wd ks vs 4]) (((b % 12) + 1))) .z
    · exact K5no hb hb2 h16 h24 (nbeq_t h) (by omega) (qL (by kernel_rfl))
  by_cases h : (boxW ks vs).length = 6
  · refine Gets.tells Try.func9 BK6_is (by rw [noVars]; exact Nat.zero_le _) rfl ?_ ro0
    show Gets Try.prog (KH.low ⟨0, 1, []⟩) BK6 (KSt.low (K6S0 ks vs b)) QL
    by_cases hr : 6 ≤ b % 12 + 1
    · refine K6in hb hb2 h16 h24 (nbeq_t h) hr ?_
      exact loopMm 6 ((b % 12) + 1) (List.set (List.set (List.set (List.set (List.set (List.set (List.replicate 6 (0 : Int)) 0 (wd ks vs 0)) 1 (wd ks vs 1)) 2 (wd ks vs 2)) 3 (wd ks vs 3)) 4 (wd ks vs 4)) 5 (wd ks vs 5)) [wd ks vs 0, wd ks vs 1, wd ks vs 2, wd ks vs 3, wd ks vs 4, wd ks vs 5] rfl rfl (by omega) (by omega) rfl (6 + 1) (KLS0 (6) ((List.set (List.set (List.set (List.set (List.set (List.set (List.replicate 6 (0 : Int)) 0 (wd ks vs 0)) 1 (wd ks vs 1)) 2 (wd ks vs 2)) 3 (wd ks vs 3)) 4 (wd ks vs 4)) 5 (wd ks vs 5))) ([wd ks vs 0, wd ks vs 1, wd ks vs 2, wd ks vs 3, wd ks vs 4, wd ks vs 5]) (((b % 12) + 1))) .z
    · exact K6no hb hb2 h16 h24 (nbeq_t h) (by omega) (qL (by kernel_rfl))
  exfalso; omega
theorem own : ownKnob Try.prog.godebug = none := by kernel_rfl
theorem lifted (os : Os) (started : os.Started) (H : Type) (enc : TypeId × Value → H) :
    ReturnsInHanded {} Try.checked os 9 .any (Rows.makerMakesSpec.pre6 enc Try.prog Try.f9 Rows.makerMakesRow.domain false) (Rows.makerMakesSpec.post enc Try.prog Try.f9 false true false false) := by
  refine returnsInHanded_of_change_sized (C := Try.checked) own started (by kernel_rfl) Try.func9
    (ChangeSpec.witness6 (enc := enc) (C := Try.checked) false ⟨#[], #[.string ⟨#[]⟩, .string ⟨#[]⟩, .int .u8 0], []⟩ 8 (by kernel_rfl) (by kernel_rfl) (by kernel_rfl) (by kernel_rfl)) ?_
  intro W base args ds gs before hval0 hW hcnd hsz0 _
  have hval : ∀ (j : Nat) t v, Try.f9.params[j]? = some t → args[j]? = some v → Value.okWide Try.prog W .any base t v := hval0
  have hW' := hW
  obtain ⟨p, q, hA0, hV, rfl, hfz, hnd⟩ := hW
  have hA : DataW.TrodAll enc Try.prog W 0 (fun _ => true) true Try.f9.params.toList args.toList ds p := hA0
  rw [Try.params9] at hA hval
  have hS := hA
  obtain ⟨v0, vs0, d0, ds0, p0, q0, hargs, rfl, rfl, h0, r0⟩ := trodAll_cons hA
  obtain ⟨v1, vs1, d1, ds1, p1, q1, rfl, rfl, rfl, h1, r1⟩ := trodAll_cons r0
  obtain ⟨v2, vs2, d2, ds2, p2, q2, rfl, rfl, rfl, h2, r2⟩ := trodAll_cons r1
  obtain ⟨rfl, rfl, rfl⟩ := trodAll_nil r2
  obtain rfl : args = #[v0, v1, v2] := by cases args; simp_all
  obtain ⟨rfl, rfl⟩ := trodVars_none hV
  suffices hc : Calls Try.prog 9 #[v0, v1, v2] W fun e W' => e = .returned (.bool true) ∧ Below W.heap.size W W' by
    refine hc.mono fun e W' ⟨he, bel⟩ => ?_
    subst he
    exact ⟨_, rfl, _, _, _, [], _, [], hW', trodAll_mk1 (shut_bool Try.underlying4 _), trodAll_stays fineA bel (by decide +kernel) hS, rfl, bel.frame _, fun h => by cases h⟩
  clear hS hW' hfz hnd
  obtain ⟨a0, rfl, rfl, rfl, w0⟩ := Go.ChangeMaps.open_string Try.underlying9 (hval 0 9 v0 rfl rfl) h0
  obtain ⟨a1, rfl, rfl, rfl, w1⟩ := Go.ChangeMaps.open_string Try.underlying9 (hval 1 9 v1 rfl rfl) h1
  obtain ⟨a2, rfl, rfl, rfl, w2⟩ := open_int Try.underlying5 (hval 2 5 v2 rfl rfl) h2
  exact told a0 a1 a2 (wf_u8 w2).1 (wf_u8 w2).2 _ W _ (.cons (.of_plain rfl) (.cons (.of_plain rfl) (.cons (.of_plain rfl) (.nil _)))) (Sim.none noVars W _ _)
theorem over : Rows.makerMakesRow.holds Try.pinned (OpenSpec.ofChange Rows.makerMakesSpec) :=
  OpenClaim.holds_of_wide 9 Try.f9 rfl rfl rfl rfl rfl rfl rfl ⟨rfl, rfl, rfl, rfl, rfl⟩ rfl rfl rfl rfl rfl (by kernel_rfl) Try.func9 (by kernel_rfl)
    (of_decide_eq_true (by kernel_rfl)) (by unfold Func.isWrapper; first | (rw [if_pos (by decide +kernel)]; kernel_rfl) | (rw [if_neg (by decide +kernel)]; exact ⟨rfl, rfl⟩))
    (fun os started H enc _ => lifted os started H enc)
end Go.Proofs.Ytnhdjmpbmecnoaa.makerMakes
namespace Go.Proofs.Ytnhdjmpbmecnoaa
/-- The row, under a short name, for the claim. -/
theorem makerMakes_holds : Rows.MakerMakesSaid := makerMakes.over
#print axioms makerMakes_holds
end Go.Proofs.Ytnhdjmpbmecnoaa
