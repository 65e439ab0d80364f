import Derived.Test.YtfhfbbhoppnbiaaDoorRtE
import Derived.WalkKit
import Derived.ProofKit
import Derived.OpenShut
import Derived.ChangeOld
import Derived.Below
import Derived.SizedLaws
namespace Go.Proofs.YtfhfbbhoppnbiaaDoor
open Go.Eng
open Go.ChangeShapes Go.WideShapes Go.ChangeAt Go.RowKit
set_option linter.unusedVariables false
set_option linter.unusedSimpArgs false
set_option maxRecDepth 100000
def siteP (dk th ts kp : Int) : Bool := decide (¬ dk = 0) && (decide (1 ≤ ts) && (decide (ts ≤ 64) && (decide (1 ≤ kp) && (decide (kp ≤ 64) && (decide (0 ≤ th) && decide (th < ts))))))
theorem siteP_t {dk th ts kp : Int} (h0 : ¬ dk = 0) (h1 : 1 ≤ ts) (h2 : ts ≤ 64) (h3 : 1 ≤ kp) (h4 : kp ≤ 64) (h5 : 0 ≤ th) (h6 : th < ts) : siteP dk th ts kp = true := by
  unfold siteP; simp only [Bool.and_eq_true, decide_eq_true_eq]; exact ⟨h0, h1, h2, h3, h4, h5, h6⟩
noncomputable def siteOk (x : Value) : Bool := match x with
  | .agg ⟨[.int .u64 dk, .int .i64 th, .int .i64 ts, .int .i64 kp, .int .u64 sd]⟩ => siteP dk th ts kp
  | _ => false
noncomputable def siteOf (x : Value) : SiteSt := match x with
  | .agg ⟨[.int .u64 dk, .int .i64 th, .int .i64 ts, .int .i64 kp, .int .u64 sd]⟩ => ⟨dk, th, ts, kp, sd⟩
  | _ => ⟨0, 0, 0, 0, 0⟩
noncomputable def rc_LOa : RC := ⟨[.val, .row .u64], fun avs => match avs with | [.val x, .row l] => ((siteOk x) && ((Nat.ble 1 (List.length l)) && (Nat.ble (List.length l) 900))) | _ => false,
  fun N avs => match avs with | [.val x, .row l] => ((.pointer (some ⟨N, 0, none⟩)), [], [.cells [(.int .u64 (SiteSt.desk (siteOf x))), (.int .i64 (SiteSt.thread (siteOf x))), (.int .i64 (SiteSt.threads (siteOf x))), (.int .i64 (SiteSt.keep (siteOf x))), (.int .u64 (SiteSt.seed (siteOf x))), (.bool true), (.bool true), (.int .i64 0), (.slice (some ⟨N + 1, 0, none⟩) (List.length l) (List.length l)), (.int .i64 0), (.map (some (N + 2))), (.slice none 0 0)] 55 true, .ints .u64 l 22 true, .dict .u64 .i64 (dictOf l)]) | _ => (.bool false, [], [])⟩
noncomputable def rc_LKm : RC := ⟨[.val, .row .u64], fun avs => match avs with | [.val x, .row l] => ((siteOk x) && (Nat.ble (List.length l) 900)) | _ => false,
  fun N avs => match avs with | [.val x, .row l] => ((.pointer (some ⟨N, 0, none⟩)), [], [.mach (.retire (rtLook (siteOf x) l))]) | _ => (.bool false, [], [])⟩
theorem rc_LKm_does : RcDoes Tryd.prog varL 8 rc_LKm := by
  intro vb avs args blks hv hs hp
  obtain ⟨e0, rfl⟩ := var1 hv
  cases hs with
  | val x hp_x hs =>
    cases hs with
    | row0 hs =>
      cases hs
      have hp : (siteOk x && Nat.ble ([] : List Int).length 900) = true := hp
      simp only [Bool.and_eq_true] at hp
      obtain ⟨hk, _⟩ := hp
      unfold siteOk at hk
      split at hk
      · rename_i dk th ts kp sd
        unfold siteP at hk
        simp only [Bool.and_eq_true, decide_eq_true_eq] at hk
        obtain ⟨h0, h1, h2, h3, h4, h5, h6⟩ := hk
        exact mach_madeX (g := 1) (by rw [oneVar]; exact Nat.le_add_left _ _) (fun a q h => match a, h with
            | 0, h => by cases h; exact ⟨.var .i64 [1, 64, 1, 64] _ _, rfl⟩
            | a + 1, h => by simp at h) (isRb dk th ts kp sd 0 0 ⟨[], 0⟩ []) (lookZd_does e0 dk th ts kp sd h0 h1 h2 h3 h4 h5 h6) [2] (by kernel_rfl) (fun a o h => match a, h with
            | 0, h => by cases h; rfl
            | a + 1, h => by simp at h)
      · cases hk
    | row off_l n_l c_l l e_l hl_l hs =>
      cases hs
      have hp : (siteOk x && Nat.ble l.length 900) = true := hp
      simp only [Bool.and_eq_true] at hp
      obtain ⟨hk, g1⟩ := hp
      unfold siteOk at hk
      split at hk
      · rename_i dk th ts kp sd
        unfold siteP at hk
        simp only [Bool.and_eq_true, decide_eq_true_eq] at hk
        obtain ⟨h0, h1, h2, h3, h4, h5, h6⟩ := hk
        cases l with
        | nil =>
          have hn : n_l = 0 := hl_l.symm
          subst hn
          exact mach_madeX (g := 1) (by rw [oneVar]; exact Nat.le_add_left _ _) (fun a q h => match a, h with
              | 0, h => by cases h; exact ⟨.var .i64 [1, 64, 1, 64] _ _, rfl⟩
              | 1, h => by cases h; exact ⟨.tail .., rfl⟩
              | a + 2, h => by simp at h) (isRb dk th ts kp sd 0 0 ⟨[], 0⟩ []) (lookYd_does e0 dk th ts kp sd h0 h1 h2 h3 h4 h5 h6 off_l c_l [] e_l rfl) [3] (by kernel_rfl) (fun a o h => match a, h with
              | 0, h => by cases h; rfl
              | 1, h => by cases h; rfl
              | a + 2, h => by simp at h)
        | cons w ws =>
          subst hl_l
          exact mach_madeX (g := 1) (by rw [oneVar]; exact Nat.le_add_left _ _) (fun a q h => match a, h with
              | 0, h => by cases h; exact ⟨.var .i64 [1, 64, 1, 64] _ _, rfl⟩
              | 1, h => by cases h; exact ⟨.tail .., rfl⟩
              | a + 2, h => by simp at h) (isRd dk th ts kp sd 0 0 (dictOf (w :: ws)) w ws) (lookA_does e0 dk th ts kp sd h0 h1 h2 h3 h4 h5 h6 off_l (w :: ws).length c_l (w :: ws) e_l rfl (by simp) (Nat.le_of_ble_eq_true g1)) [4, 3] (by kernel_rfl) (fun a o h => match a, h with
              | 0, h => by cases h; rfl
              | 1, h => by cases h; rfl
              | a + 2, h => by simp at h)
      · cases hk
end Go.Proofs.YtfhfbbhoppnbiaaDoor
