import Derived.Test.YtfhfbbhoppnbiaaDoorRtO
import Derived.WalkKit
import Derived.ProofKit
import Derived.OpenShut
import Derived.ChangeOld
import Derived.Below
import Derived.SizedLaws
namespace Go.Proofs.YtfhfbbhoppnbiaaDoor
open Go.Eng
open Go.ChangeShapes Go.WideShapes Go.ChangeAt Go.RowKit
set_option linter.unusedVariables false
set_option linter.unusedSimpArgs false
set_option maxRecDepth 100000
noncomputable def cfgN2 : Cfg := ⟨[32]⟩
noncomputable def fsN2 : List FuncId := [6, 7, 8, 9, 10, 11, 12, 15, 20, 21, 22, 23, 35, 40]
theorem fitN2 : Fit Tryd.prog cfgN2 fsN2 := ⟨by kernel_rfl, Cfg.ok_of (by kernel_rfl), by kernel_rfl⟩
def rightV (a b c d : Int) : Bool := decide (a ≠ 0 ∧ 1 ≤ c ∧ c ≤ 64 ∧ 1 ≤ d ∧ d ≤ 64 ∧ 0 ≤ b ∧ b < c)
def rightRV (a b c d : Int) : Bool := decide (0 < a ∧ 1 ≤ c ∧ c ≤ 64 ∧ 1 ≤ d ∧ d ≤ 64 ∧ 0 ≤ b ∧ b < c)
theorem rightRV_eq {a b c d : Int} (h : 0 ≤ a) : rightRV a b c d = rightV a b c d := by
  unfold rightRV rightV
  exact decide_eq_decide.2 ⟨fun k => ⟨by omega, k.2⟩, fun k => ⟨by omega, k.2⟩⟩
noncomputable def isSite (x : Value) : Bool := match x with
  | .agg ⟨[.int .u64 dk, .int .i64 th, .int .i64 ts, .int .i64 kp, .int .u64 sd]⟩ => true
  | _ => false
noncomputable def rightVX (x : Value) : Bool := match x with
  | .agg ⟨[.int .u64 dk, .int .i64 th, .int .i64 ts, .int .i64 kp, .int .u64 sd]⟩ => rightV dk th ts kp
  | _ => false
noncomputable def rightRVX (x : Value) : Bool := match x with
  | .agg ⟨[.int .u64 dk, .int .i64 th, .int .i64 ts, .int .i64 kp, .int .u64 sd]⟩ => rightRV dk th ts kp
  | _ => false
theorem rgtA_tree (dk th ts kp sd : Int) (e : TypeId) : runK Tryd.prog cfgN2 fsN2 noT 70 40 22 [(.agg #[(.int .u64 dk), (.int .i64 th), (.int .i64 ts), (.int .i64 kp), (.int .u64 sd)])] (varH .i64 [1, 64, 1, 64] e) valK =
  bif (dk != 0) then
    bif (decide (ts ≥ 1)) then
      bif (decide (ts ≤ 64)) then
        bif (decide (kp ≥ 1)) then
          bif (decide (kp ≤ 64)) then
            bif (decide (th ≥ 0)) then
              some (.bool (decide (th < ts)))
            else
              some (.bool false)
          else
            some (.bool false)
        else
          some (.bool false)
      else
        some (.bool false)
    else
      some (.bool false)
  else
    some (.bool false) := by kernel_rfl
theorem rgtA_told (dk th ts kp sd : Int) (e : TypeId) : Tells Tryd.prog 22 [(.agg #[(.int .u64 dk), (.int .i64 th), (.int .i64 ts), (.int .i64 kp), (.int .u64 sd)])] (varH .i64 [1, 64, 1, 64] e).low (.bool (rightV dk th ts kp)) := by
  refine Tells.of_tree (h := (varH .i64 [1, 64, 1, 64] e)) fitN2 SoundC.no AgreeT.no (by kernel_rfl) rfl (show Ro (varH .i64 [1, 64, 1, 64] e).low from Ro.varH) (n := 70) (d := 40) ?_
  rw [rgtA_tree]
  unfold rightV
  simp only [cond_eq_ite, decide_eq_true_eq, bne_iff_ne, ne_eq, Bool.not_eq_true', decide_eq_false_iff_not]
  repeat' split
  all_goals (refine congrArg (fun b => some (Value.bool b)) ?_; symm; first | (apply decide_eq_true; omega) | (apply decide_eq_false; omega) | exact decide_eq_decide.2 ⟨fun _ => by omega, fun _ => by omega⟩)
theorem rgtB_tree (dk th ts kp sd : Int) (e : TypeId) : runK Tryd.prog cfgN2 fsN2 noT 70 40 9 [(.agg #[(.int .u64 dk), (.int .i64 th), (.int .i64 ts), (.int .i64 kp), (.int .u64 sd)])] (varH .i64 [1, 64, 1, 64] e) valK =
  bif (decide (dk > 0)) then
    bif (decide (ts ≥ 1)) then
      bif (decide (ts ≤ 64)) then
        bif (decide (th ≥ 0)) then
          bif (decide (th < ts)) then
            bif (decide (kp ≥ 1)) then
              some (.bool (decide (kp ≤ 64)))
            else
              some (.bool false)
          else
            some (.bool false)
        else
          some (.bool false)
      else
        some (.bool false)
    else
      some (.bool false)
  else
    some (.bool false) := by kernel_rfl
theorem rgtB_told (dk th ts kp sd : Int) (e : TypeId) : Tells Tryd.prog 9 [(.agg #[(.int .u64 dk), (.int .i64 th), (.int .i64 ts), (.int .i64 kp), (.int .u64 sd)])] (varH .i64 [1, 64, 1, 64] e).low (.bool (rightRV dk th ts kp)) := by
  refine Tells.of_tree (h := (varH .i64 [1, 64, 1, 64] e)) fitN2 SoundC.no AgreeT.no (by kernel_rfl) rfl (show Ro (varH .i64 [1, 64, 1, 64] e).low from Ro.varH) (n := 70) (d := 40) ?_
  rw [rgtB_tree]
  unfold rightRV
  simp only [cond_eq_ite, decide_eq_true_eq, bne_iff_ne, ne_eq, Bool.not_eq_true', decide_eq_false_iff_not]
  repeat' split
  all_goals (refine congrArg (fun b => some (Value.bool b)) ?_; symm; first | (apply decide_eq_true; omega) | (apply decide_eq_false; omega) | exact decide_eq_decide.2 ⟨fun _ => by omega, fun _ => by omega⟩)
theorem awake_told (e0 : TypeId) : Tells Tryd.prog 6 [] (varH .i64 [1, 64, 1, 64] e0).low (.bool true) := by
  refine Tells.of_tree (h := varH .i64 [1, 64, 1, 64] e0) fitN2 SoundC.no AgreeT.no (by kernel_rfl) rfl Ro.varH (n := 400) (d := 60) ?_
  kernel_rfl
noncomputable def rc_rgtA : RC := ⟨[.val], fun avs => match avs with | [.val x] => (isSite x) | _ => false,
  fun N avs => match avs with | [.val x] => ((.bool (rightVX x)), [], []) | _ => (.bool false, [], [])⟩
theorem rc_rgtA_does : RcDoes Tryd.prog varL 22 rc_rgtA := by
  intro vb avs args blks hv hs hp
  obtain ⟨e0, rfl⟩ := var1 hv
  cases hs with
  | val x hp_x hs =>
    cases hs
    have hp : isSite x = true := hp
    unfold isSite at hp
    split at hp
    · rename_i dk th ts kp sd
      exact DoesC.of_tells (rgtA_told _ _ _ _ _ e0) rfl
    · cases hp
noncomputable def rc_rgtB : RC := ⟨[.val], fun avs => match avs with | [.val x] => (isSite x) | _ => false,
  fun N avs => match avs with | [.val x] => ((.bool (rightRVX x)), [], []) | _ => (.bool false, [], [])⟩
theorem rc_rgtB_does : RcDoes Tryd.prog varL 9 rc_rgtB := by
  intro vb avs args blks hv hs hp
  obtain ⟨e0, rfl⟩ := var1 hv
  cases hs with
  | val x hp_x hs =>
    cases hs
    have hp : isSite x = true := hp
    unfold isSite at hp
    split at hp
    · rename_i dk th ts kp sd
      exact DoesC.of_tells (rgtB_told _ _ _ _ _ e0) rfl
    · cases hp
noncomputable def rc_rgtAn : RC := ⟨[.val], fun avs => match avs with | [.val x] => ((isSite x) && (!(rightVX x))) | _ => false,
  fun N avs => match avs with | [.val x] => ((.bool false), [], []) | _ => (.bool false, [], [])⟩
theorem rc_rgtAn_does : RcDoes Tryd.prog varL 22 rc_rgtAn := by
  intro vb avs args blks hv hs hp
  obtain ⟨e0, rfl⟩ := var1 hv
  cases hs with
  | val x hp_x hs =>
    cases hs
    have hp : (isSite x && !(rightVX x)) = true := hp
    rw [Bool.and_eq_true] at hp
    obtain ⟨hp, hq⟩ := hp
    unfold isSite at hp
    split at hp
    · rename_i dk th ts kp sd _
      have hq : (!(rightV dk th ts kp)) = true := hq
      have hq : rightV dk th ts kp = false := by simpa using hq
      have h := rgtA_told dk th ts kp sd e0
      rw [hq] at h
      exact DoesC.of_tells h rfl
    · cases hp
noncomputable def rc_rgtBn : RC := ⟨[.val], fun avs => match avs with | [.val x] => ((isSite x) && (!(rightRVX x))) | _ => false,
  fun N avs => match avs with | [.val x] => ((.bool false), [], []) | _ => (.bool false, [], [])⟩
theorem rc_rgtBn_does : RcDoes Tryd.prog varL 9 rc_rgtBn := by
  intro vb avs args blks hv hs hp
  obtain ⟨e0, rfl⟩ := var1 hv
  cases hs with
  | val x hp_x hs =>
    cases hs
    have hp : (isSite x && !(rightRVX x)) = true := hp
    rw [Bool.and_eq_true] at hp
    obtain ⟨hp, hq⟩ := hp
    unfold isSite at hp
    split at hp
    · rename_i dk th ts kp sd _
      have hq : (!(rightRV dk th ts kp)) = true := hq
      have hq : rightRV dk th ts kp = false := by simpa using hq
      have h := rgtB_told dk th ts kp sd e0
      rw [hq] at h
      exact DoesC.of_tells h rfl
    · cases hp
noncomputable def rc_awake : RC := ⟨[], fun avs => match avs with | [] => true | _ => false,
  fun N avs => match avs with | [] => ((.bool true), [], []) | _ => (.bool false, [], [])⟩
theorem rc_awake_does : RcDoes Tryd.prog varL 6 rc_awake := by
  intro vb avs args blks hv hs hp
  obtain ⟨e0, rfl⟩ := var1 hv
  cases hs
  exact DoesC.of_tells (awake_told e0) rfl
def ActsP (lo : Bool) (g : List Int) (dk th ts kp : Int) (m : List Int) (b : Int) (x : RetireSt) : Prop := siteP dk th ts kp = true ∧ m.length ≤ 900 ∧ g.length ≤ 900 ∧ ∀ y, y ≤ g.length → Good ((g.take y).foldl rtTake x) (aRef lo (g.take y) dk ts kp m b)
open Classical in
noncomputable def actsP (lo : Bool) (g : List Int) (dk th ts kp : Int) (m : List Int) (b : Int) (x : RetireSt) : Bool := decide (ActsP lo g dk th ts kp m b x)
open Classical in
theorem actsP_iff {lo : Bool} {g : List Int} {dk th ts kp : Int} {m : List Int} {b : Int} {x : RetireSt} : actsP lo g dk th ts kp m b x = true ↔ ActsP lo g dk th ts kp m b x := decide_eq_true_iff
theorem actsP_new {S : SiteSt} {g m : List Int} {b : Int} (hs : siteP S.desk S.thread S.threads S.keep = true) (hm : m.length ≤ 900) (hg : g.length ≤ 900) : actsP false g S.desk S.thread S.threads S.keep m b (rtNew S m b) = true := by
  have h := hs
  unfold siteP at h
  simp only [Bool.and_eq_true, decide_eq_true_eq] at h
  exact actsP_iff.2 ⟨hs, hm, hg, fun y _ => good_new hm (by omega) (by omega) (by omega) _⟩
theorem actsP_lk {S : SiteSt} {g m : List Int} {b : Int} (hs : siteP S.desk S.thread S.threads S.keep = true) (hm : m.length ≤ 900) (hg : g.length ≤ 900) : actsP true g S.desk S.thread S.threads S.keep m b (rtLook S m) = true := by
  have h := hs
  unfold siteP at h
  simp only [Bool.and_eq_true, decide_eq_true_eq] at h
  exact actsP_iff.2 ⟨hs, hm, hg, fun y _ => good_lk hm (by omega) (by omega) _⟩
noncomputable def rc_acts : RC := ⟨[.mach, .val, .rowt .u64, .int .u64, .bool, .rowt .u64], fun avs => match avs with | [.mach (.retire xx), .val sx, .row m, .int b0, .bool lo, .row g] => ((isSite sx) && (actsP lo g (SiteSt.desk (siteOf sx)) (SiteSt.thread (siteOf sx)) (SiteSt.threads (siteOf sx)) (SiteSt.keep (siteOf sx)) m b0 xx)) | _ => false,
  fun N avs => match avs with | [.mach (.retire xx), .val sx, .row m, .int b0, .bool lo, .row g] => ((.bool true), [(1, .mach (.retire (List.foldl rtTake xx g)))], []) | _ => (.bool false, [], [])⟩
theorem rc_acts_does : RcDoes Tryd.prog varL 12 rc_acts := by
  intro vb avs args blks hv hs hp
  obtain ⟨e0, rfl⟩ := var1 hv
  cases hs with | mach m_xx hs =>
  cases m_xx with
  | arena _ => cases hp
  | guard _ => cases hp
  | shield _ => cases hp
  | retire xx =>
  cases hs with | val sx hp_sx hs =>
  cases hs with | rowt off_m n_m c_m m e_m hl_m hc_m hs =>
  cases hs with | int b0 hs =>
  cases hs with | bool lo hs =>
  cases hs with | rowt off_g n_g c_g g e_g hl_g hc_g hs =>
  cases hs
  have hp : (isSite sx && actsP lo g (siteOf sx).desk (siteOf sx).thread (siteOf sx).threads (siteOf sx).keep m b0 xx) = true := hp
  rw [Bool.and_eq_true] at hp
  obtain ⟨hk, ha⟩ := hp
  unfold isSite at hk
  split at hk
  · rename_i dk th ts kp sd
    obtain ⟨hs, hm, hg, H⟩ := actsP_iff.1 ha
    have hs : siteP dk th ts kp = true := hs
    unfold siteP at hs
    simp only [Bool.and_eq_true, decide_eq_true_eq] at hs
    obtain ⟨h0, h1, h2, h3, h4, h5, h6⟩ := hs
    subst hl_m
    subst hl_g
    exact acts_does (off2 := off_m) (nm := m.length) (c2 := c_m) (b0 := b0) (lo := lo) (off3 := off_g) (ng := g.length) (c3 := c_g) (dk := dk) (th := th) (ts := ts) (kp := kp) (sd := sd) (e := e0) (m := m) (g2 := e_m) (g := g) (g3 := e_g) (xx := xx) h0 h1 h2 h3 h4 h5 h6 rfl hm rfl hg hc_g H
  · cases hk
noncomputable def laT : RTab := fun f => match f with
  | 22 => some rc_rgtA
  | 9 => some rc_rgtB
  | 6 => some rc_awake
  | 7 => some rc_NWm
  | 8 => some rc_LKm
  | 12 => some rc_acts
  | _ => none
def laDom : List FuncId := [22, 9, 6, 7, 8, 12]
theorem la_does : ∀ f rc, f ∈ laDom → laT f = some rc → RcDoes Tryd.prog varL f rc := by
  intro f rc hf hT
  simp only [laDom, List.mem_cons, List.not_mem_nil, or_false] at hf
  rcases hf with rfl | rfl | rfl | rfl | rfl | rfl
  · cases hT; exact rc_rgtA_does
  · cases hT; exact rc_rgtB_does
  · cases hT; exact rc_awake_does
  · cases hT; exact rc_NWm_does
  · cases hT; exact rc_LKm_does
  · cases hT; exact rc_acts_does
noncomputable def cfgN3 : Cfg := ⟨[32]⟩
noncomputable def fsN3 : List FuncId := [6, 7, 8, 9, 10, 11, 12, 15, 20, 21, 22, 23, 35, 40]
theorem fitN3 : Fit Tryd.prog cfgN3 fsN3 := ⟨by kernel_rfl, Cfg.ok_of (by kernel_rfl), by kernel_rfl⟩
theorem la_fn : ∀ f ∈ laDom, FnOk Tryd.prog f := fun f hf => fitN3.fnOk f (by
    have h0 : (laDom.all fun f => fsN3.contains f) = true := by kernel_rfl
    simpa using List.all_eq_true.1 h0 f hf)
theorem la_sound : SoundC Tryd.prog (conC laDom (rcE varL laT)) := rc_sound oneVar la_fn la_does
noncomputable def lbT : RTab := fun f => match f with
  | 22 => some rc_rgtAn
  | 9 => some rc_rgtBn
  | 6 => some rc_awake
  | _ => none
def lbDom : List FuncId := [22, 9, 6]
theorem lb_does : ∀ f rc, f ∈ lbDom → lbT f = some rc → RcDoes Tryd.prog varL f rc := by
  intro f rc hf hT
  simp only [lbDom, List.mem_cons, List.not_mem_nil, or_false] at hf
  rcases hf with rfl | rfl | rfl
  · cases hT; exact rc_rgtAn_does
  · cases hT; exact rc_rgtBn_does
  · cases hT; exact rc_awake_does
theorem lb_fn : ∀ f ∈ lbDom, FnOk Tryd.prog f := fun f hf => fitN2.fnOk f (by
    have h0 : (lbDom.all fun f => fsN2.contains f) = true := by kernel_rfl
    simpa using List.all_eq_true.1 h0 f hf)
theorem lb_sound : SoundC Tryd.prog (conC lbDom (rcE varL lbT)) := rc_sound oneVar lb_fn lb_does
end Go.Proofs.YtfhfbbhoppnbiaaDoor
