/- Where, and the small functions of a table: contracts. -/
import Derived.Test.YtgegcbeeljbiaaaTtD
import Derived.WalkKit
import Derived.ProofKit
import Derived.OpenShut
import Derived.ChangeOld
import Derived.Below
import Derived.SizedLaws
namespace Go.Proofs.Ytgegcbeeljbiaaa
open Go.Eng
open Go.ChangeShapes Go.WideShapes Go.ChangeAt Go.RowKit
set_option linter.unusedVariables false
set_option linter.unusedSimpArgs false
set_option maxRecDepth 100000
theorem wr_told (k c : Int) : Tells Try.prog 9 [(.int .i64 k), (.int .i64 c)] (mkH []).low (.agg #[(.int .i64 (whP k c)), (.int .i64 (whG k c)), (.int .i64 (whS k c))]) := by
  refine Gets.tells Try.func9 BWr_is (by rw [noVars]; exact Nat.zero_le _) rfl ?_ (fun a o ho => by cases ho)
  show Gets Try.prog (KH.low ⟨0, 1, []⟩) BWr (KSt.low (WrS0 k c)) (Eng.Ends Try.prog Try.f9.results.toList fun r _ => r = (.agg #[(.int .i64 (whP k c)), (.int .i64 (whG k c)), (.int .i64 (whS k c))]))
  have hb := groupsV_bounds k
  have hN := placesN_eq k
  by_cases h0 : c < 0
  · refine Wrneg h0 (Ends.of (l := [.agg #[.int .i64 (0), .int .i64 (0), .int .i64 (0)]]) (by kernel_rfl) ?_)
    unfold whP whG whS
    rw [if_pos (.inl h0), if_pos (.inl h0), if_pos (.inl h0)]; rfl
  · by_cases h1 : ((placesN k : Nat) : Int) ≤ c
    · refine Wrbig (by omega) h1 (Ends.of (l := [.agg #[.int .i64 (0), .int .i64 (0), .int .i64 (0)]]) (by kernel_rfl) ?_)
      have h2 : szV k ≤ c := by omega
      unfold whP whG whS
      rw [if_pos (.inr h2), if_pos (.inr h2), if_pos (.inr h2)]; rfl
    · obtain ⟨x, rfl⟩ : ∃ x : Nat, c = x := ⟨c.toNat, by omega⟩
      refine Wris (by omega) (by omega) (placesL_length k) (Ends.of (l := [.agg #[.int .i64 ((List.getD (placesL k) (0 + ((Int.toNat (x : Int)) * 3)) 0)), .int .i64 ((List.getD (placesL k) ((0 + ((Int.toNat (x : Int)) * 3)) + 1) 0)), .int .i64 ((List.getD (placesL k) (((0 + ((Int.toNat (x : Int)) * 3)) + 1) + 1) 0))]]) (by kernel_rfl) ?_)
      have g0 := placesL_get k x 0 (by omega) (by omega)
      have g1 := placesL_get k x 1 (by omega) (by omega)
      have g2 := placesL_get k x 2 (by omega) (by omega)
      rw [if_pos rfl] at g0
      rw [if_neg (by omega), if_pos rfl] at g1
      rw [if_neg (by omega), if_neg (by omega)] at g2
      rw [← g0, ← g1, ← g2]
      show Value.agg #[_, _, _] = Value.agg #[_, _, _]
      rw [Int.toNat_natCast, Nat.zero_add]
      rfl
theorem wp_told (k c : Int) : Tells Try.prog 8 [(.int .i64 k), (.int .i64 c)] (mkH []).low (.agg #[(.int .i64 (whP k c)), (.int .i64 (whG k c)), (.int .i64 (whS k c))]) := by
  refine Gets.tells Try.func8 BWp_is (by rw [noVars]; exact Nat.zero_le _) rfl ?_ (fun a o ho => by cases ho)
  show Gets Try.prog (KH.low ⟨0, 1, []⟩) BWp (KSt.low (WpS0 k c)) (Eng.Ends Try.prog Try.f8.results.toList fun r _ => r = (.agg #[(.int .i64 (whP k c)), (.int .i64 (whG k c)), (.int .i64 (whS k c))]))
  have hb := groupsV_bounds k
  unfold whP whG whS szV
  by_cases h0 : c < 0
  · refine Wpneg hb.1 hb.2 h0 (Ends.of (l := [.agg #[.int .i64 (0), .int .i64 (0), .int .i64 (0)]]) (by kernel_rfl) ?_)
    rw [if_pos (.inl h0), if_pos (.inl h0), if_pos (.inl h0)]; rfl
  · by_cases e : groupsV k = 0
    · refine Wpno hb.1 hb.2 (by omega) e (Ends.of (l := [.agg #[.int .i64 (0), .int .i64 (0), .int .i64 (0)]]) (by kernel_rfl) ?_)
      have h2 : (if groupsV k = 0 then 0 else 7 + 9 * groupsV k) ≤ c := by rw [if_pos e]; omega
      rw [if_pos (.inr h2), if_pos (.inr h2), if_pos (.inr h2)]; rfl
    · rw [if_neg e]
      by_cases h1 : 7 + 9 * groupsV k ≤ c
      · refine Wpbig hb.1 hb.2 h1 (by omega) (Ends.of (l := [.agg #[.int .i64 (0), .int .i64 (0), .int .i64 (0)]]) (by kernel_rfl) ?_)
        rw [if_pos (.inr h1), if_pos (.inr h1), if_pos (.inr h1)]; rfl
      · have hn : ¬ (c < 0 ∨ 7 + 9 * groupsV k ≤ c) := by omega
        rw [if_neg hn, if_neg hn, if_neg hn]
        by_cases h2 : c < 7
        · refine Wphd hb.1 hb.2 (by omega) h2 (by omega) (Ends.of (l := [.agg #[.int .i64 (1), .int .i64 (0), .int .i64 (0)]]) (by kernel_rfl) ?_)
          rw [if_pos h2, if_pos h2, if_pos h2]; rfl
        · rw [if_neg h2, if_neg h2, if_neg h2]
          by_cases h3 : c < 7 + groupsV k
          · refine Wpgr hb.1 hb.2 (by omega) h3 (by omega) (Ends.of (l := [.agg #[.int .i64 (2), .int .i64 (c - 7), .int .i64 (0)]]) (by kernel_rfl) ?_)
            rw [if_pos h3, if_pos h3, if_pos h3]; rfl
          · rw [if_neg h3, if_neg h3, if_neg h3]
            exact Wpsl hb.1 hb.2 (by omega) (by omega) (by omega) (ends1 (by kernel_rfl))
theorem gr_told (k g : Int) : Tells Try.prog 19 [(.int .i64 k), (.int .i64 g)] (mkH []).low (.int .i64 (gcV k g)) := by
  refine Gets.tells Try.func19 BGr_is (by rw [noVars]; exact Nat.zero_le _) rfl ?_ (fun a o ho => by cases ho)
  show Gets Try.prog (KH.low ⟨0, 1, []⟩) BGr (KSt.low (GrS0 k g)) (Eng.Ends Try.prog Try.f19.results.toList fun r _ => r = (.int .i64 (gcV k g)))
  have hb := groupsV_bounds k
  unfold gcV
  by_cases h0 : g < 0
  · rw [if_neg (by omega)]; exact Grneg h0 (ends1 (by kernel_rfl))
  · by_cases h1 : groupsV k ≤ g
    · rw [if_neg (by omega)]; exact Grbig (by omega) h1 (ends1 (by kernel_rfl))
    · rw [if_pos (by omega)]; exact Grok hb.1 hb.2 (by omega) (by omega) (ends1 (by kernel_rfl))
theorem gp_told (k g : Int) : Tells Try.prog 18 [(.int .i64 k), (.int .i64 g)] (mkH []).low (.int .i64 (gcV k g)) := by
  refine Gets.tells Try.func18 BGp_is (by rw [noVars]; exact Nat.zero_le _) rfl ?_ (fun a o ho => by cases ho)
  show Gets Try.prog (KH.low ⟨0, 1, []⟩) BGp (KSt.low (GpS0 k g)) (Eng.Ends Try.prog Try.f18.results.toList fun r _ => r = (.int .i64 (gcV k g)))
  have hb := groupsV_bounds k
  unfold gcV
  by_cases h0 : g < 0
  · rw [if_neg (by omega)]; exact Gpneg h0 (ends1 (by kernel_rfl))
  · by_cases h1 : groupsV k ≤ g
    · rw [if_neg (by omega)]; exact Gpbig (by omega) h1 (ends1 (by kernel_rfl))
    · rw [if_pos (by omega)]; exact Gpok hb.1 hb.2 (by omega) (by omega) (ends1 (by kernel_rfl))
theorem sr_told (k g t : Int) : Tells Try.prog 21 [(.int .i64 k), (.int .i64 g), (.int .i64 t)] (mkH []).low (.int .i64 (scV k g t)) := by
  refine Gets.tells Try.func21 BSr_is (by rw [noVars]; exact Nat.zero_le _) rfl ?_ (fun a o ho => by cases ho)
  show Gets Try.prog (KH.low ⟨0, 1, []⟩) BSr (KSt.low (SrS0 k g t)) (Eng.Ends Try.prog Try.f21.results.toList fun r _ => r = (.int .i64 (scV k g t)))
  have hb := groupsV_bounds k
  unfold scV
  by_cases h0 : g < 0
  · rw [if_neg (by omega)]; exact Srneg hb.1 hb.2 h0 (ends1 (by kernel_rfl))
  · by_cases h1 : groupsV k ≤ g
    · rw [if_neg (by omega)]; exact Srbig hb.1 hb.2 (by omega) h1 (ends1 (by kernel_rfl))
    · by_cases h2 : t < 0
      · rw [if_neg (by omega)]; exact Srtn hb.1 hb.2 (by omega) (by omega) h2 (ends1 (by kernel_rfl))
      · by_cases h3 : 7 < t
        · rw [if_neg (by omega)]; exact Srtb hb.1 hb.2 (by omega) (by omega) h3 (ends1 (by kernel_rfl))
        · rw [if_pos (by omega)]
          refine Srok hb.1 hb.2 (by omega) (by omega) (by omega) (by omega) (Ends.of (l := [.int .i64 (((7 + (groupsV k)) + (8 * g)) + t)]) (by kernel_rfl) ?_)
          exact congrArg (Value.int .i64) (by omega)
theorem sp_told (k g t : Int) : Tells Try.prog 20 [(.int .i64 k), (.int .i64 g), (.int .i64 t)] (mkH []).low (.int .i64 (scV k g t)) := by
  refine Gets.tells Try.func20 BSp_is (by rw [noVars]; exact Nat.zero_le _) rfl ?_ (fun a o ho => by cases ho)
  show Gets Try.prog (KH.low ⟨0, 1, []⟩) BSp (KSt.low (SpS0 k g t)) (Eng.Ends Try.prog Try.f20.results.toList fun r _ => r = (.int .i64 (scV k g t)))
  have hb := groupsV_bounds k
  unfold scV
  by_cases h0 : g < 0
  · rw [if_neg (by omega)]; exact Spneg hb.1 hb.2 h0 (ends1 (by kernel_rfl))
  · by_cases h1 : groupsV k ≤ g
    · rw [if_neg (by omega)]; exact Spbig hb.1 hb.2 (by omega) h1 (ends1 (by kernel_rfl))
    · by_cases h2 : t < 0
      · rw [if_neg (by omega)]; exact Sptn hb.1 hb.2 (by omega) (by omega) h2 (ends1 (by kernel_rfl))
      · by_cases h3 : 7 < t
        · rw [if_neg (by omega)]; exact Sptb hb.1 hb.2 (by omega) (by omega) h3 (ends1 (by kernel_rfl))
        · rw [if_pos (by omega)]
          refine Spok hb.1 hb.2 (by omega) (by omega) (by omega) (by omega) (Ends.of (l := [.int .i64 ((((7 + g) + (groupsV k)) + (7 * g)) + t)]) (by kernel_rfl) ?_)
          exact congrArg (Value.int .i64) (by omega)
theorem zr_told (k : Int) : Tells Try.prog 13 [(.int .i64 k)] (mkH []).low (.int .i64 (szV k)) := by
  refine Gets.tells Try.func13 BZr_is (by rw [noVars]; exact Nat.zero_le _) rfl ?_ (fun a o ho => by cases ho)
  show Gets Try.prog (KH.low ⟨0, 1, []⟩) BZr (KSt.low (ZrS0 k)) (Eng.Ends Try.prog Try.f13.results.toList fun r _ => r = (.int .i64 (szV k)))
  have hb := groupsV_bounds k
  unfold szV
  by_cases e : groupsV k = 0
  · rw [if_pos e]; exact Zrno e (ends1 (by kernel_rfl))
  · rw [if_neg e]
    refine Zrok hb.1 hb.2 (by omega) (Ends.of (l := [.int .i64 (7 + (9 * (groupsV k)))]) (by kernel_rfl) ?_)
    exact congrArg (Value.int .i64) (by omega)
theorem zp_told (k : Int) : Tells Try.prog 12 [(.int .i64 k)] (mkH []).low (.int .i64 (szV k)) := by
  refine Gets.tells Try.func12 BZp_is (by rw [noVars]; exact Nat.zero_le _) rfl ?_ (fun a o ho => by cases ho)
  show Gets Try.prog (KH.low ⟨0, 1, []⟩) BZp (KSt.low (ZpS0 k)) (Eng.Ends Try.prog Try.f12.results.toList fun r _ => r = (.int .i64 (szV k)))
  have hb := groupsV_bounds k
  unfold szV
  by_cases e : groupsV k = 0
  · rw [if_pos e]; exact Zpno e (ends1 (by kernel_rfl))
  · rw [if_neg e]
    refine Zpok hb.1 hb.2 (by omega) (Ends.of (l := [.int .i64 ((7 + (groupsV k)) + (8 * (groupsV k)))]) (by kernel_rfl) ?_)
    exact congrArg (Value.int .i64) (by omega)
theorem tp_told (c : Int) : Tells Try.prog 16 [(.int .i64 c)] (mkH []).low (.int .i64 (stV c)) := by
  refine Gets.tells Try.func16 BTp_is (by rw [noVars]; exact Nat.zero_le _) rfl ?_ (fun a o ho => by cases ho)
  show Gets Try.prog (KH.low ⟨0, 1, []⟩) BTp (KSt.low (TpS0 c)) (Eng.Ends Try.prog Try.f16.results.toList fun r _ => r = (.int .i64 (stV c)))
  have hb := groupsV_bounds 0
  unfold stV
  exact Tpok (ends1 (by kernel_rfl))
theorem tr_told (c : Int) : Tells Try.prog 17 [(.int .i64 c)] (mkH []).low (.int .i64 (stV c)) := by
  refine Gets.tells Try.func17 BTr_is (by rw [noVars]; exact Nat.zero_le _) rfl ?_ (fun a o ho => by cases ho)
  show Gets Try.prog (KH.low ⟨0, 1, []⟩) BTr (KSt.low (TrS0 c)) (Eng.Ends Try.prog Try.f17.results.toList fun r _ => r = (.int .i64 (stV c)))
  have hb := groupsV_bounds 0
  unfold stV
  rcases tmod_cases c 4 with ⟨h0, h⟩ | ⟨h0, h⟩
  · exact Trpos h (ends1 (by kernel_rfl))
  · by_cases e : c % 4 = 0
    · exact Trpos (by rw [h]; omega) (ends1 (by kernel_rfl))
    · refine Trneg (by rw [h]; omega) (by omega) (Ends.of (l := [.int .i64 (3 + (((c % 4) - 4) + 4))]) (by kernel_rfl) ?_)
      exact congrArg (Value.int .i64) (by omega)

end Go.Proofs.Ytgegcbeeljbiaaa
