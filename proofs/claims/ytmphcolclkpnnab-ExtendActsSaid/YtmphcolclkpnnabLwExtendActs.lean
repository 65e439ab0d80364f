/- Whatever was answered: who links a next table does as the reference says. -/
import Derived.Test.YtmphcolclkpnnabExtW2
import Derived.WalkKit
import Derived.ProofKit
import Derived.OpenShut
import Derived.ChangeOld
import Derived.Below
import Derived.SizedLaws
namespace Go.Proofs.Ytmphcolclkpnnab.extendActs
open Go.Eng
open Go.ChangeShapes Go.WideShapes Go.ChangeAt Go.RowKit
set_option linter.unusedVariables false
set_option linter.unusedSimpArgs false
set_option maxRecDepth 100000

noncomputable def QE : Ex → St → Prop := Eng.Ends Try.prog Try.f6.results.toList fun r _ => r = .bool true
theorem qe_true {s : KSt} (h : resL Try.prog s.low Try.f6.results.toList = some [.bool true]) : QE .ret s.low := Ends.of h rfl
inductive lpInv (bb lg m0 m1 g gl : Int) (pre n c : Nat) (l : List Int) (e : TypeId) : Int → KSt → Prop
  | s0 (hin : 0 ≤ (n : Int))  : lpInv bb lg m0 m1 g gl pre n c l e 0 (S14 pre n c bb lg m0 m1 l e)
  | s1 (hin : 1 ≤ (n : Int)) (h0 : ((l.getD 0 0) == 0) = true) : lpInv bb lg m0 m1 g gl pre n c l e 1 (S31 pre n c bb lg m0 m1 l e)
  | s2 (hin : 1 ≤ (n : Int)) (h0 : ((l.getD 0 0) == 0) = false) : lpInv bb lg m0 m1 g gl pre n c l e 1 (S33 pre n c bb lg m0 m1 l e)
  | s3 (i : Int) (hx : (n : Int) < i) : lpInv bb lg m0 m1 g gl pre n c l e i (S35 pre n c i bb lg m0 m1 l e)
  | s4 (hin : 2 ≤ (n : Int)) (h0 : ((l.getD 0 0) == 0) = true) : lpInv bb lg m0 m1 g gl pre n c l e 2 (S46 pre n c bb lg m0 m1 l e)
  | s5 (i : Int) (hx : (n : Int) < i) : lpInv bb lg m0 m1 g gl pre n c l e i (S47 pre n c i bb lg m0 m1 l e)
  | s6 (hin : 2 ≤ (n : Int)) (h0 : ((l.getD 0 0) == 0) = false) : lpInv bb lg m0 m1 g gl pre n c l e 2 (S62 pre n c bb lg m0 m1 l e)
  | s7 (i : Int) (hx : (n : Int) < i) : lpInv bb lg m0 m1 g gl pre n c l e i (S64 pre n c i bb lg m0 m1 l e)
  | s8 (hin : 3 ≤ (n : Int)) (h0 : ((l.getD 0 0) == 0) = true) : lpInv bb lg m0 m1 g gl pre n c l e 3 (S76 pre n c bb lg m0 m1 l e)
  | s9 (hin : 3 ≤ (n : Int)) (h0 : ((l.getD 0 0) == 0) = false) (h1 : ((l.getD 2 0) == 0) = true) : lpInv bb lg m0 m1 g gl pre n c l e 3 (S94 pre n c bb lg m0 m1 l e)
  | s10 (hin : 3 ≤ (n : Int)) (h0 : ((l.getD 0 0) == 0) = false) (h1 : ((l.getD 2 0) == 0) = false) : lpInv bb lg m0 m1 g gl pre n c l e 3 (S96 pre n c bb lg m0 m1 l e)
  | s11 (i : Int) (hx : (n : Int) < i) : lpInv bb lg m0 m1 g gl pre n c l e i (S98 pre n c i bb lg m0 m1 l e)
  | s12 (hin : 4 ≤ (n : Int)) (h0 : ((l.getD 0 0) == 0) = true) : lpInv bb lg m0 m1 g gl pre n c l e 4 (S112 pre n c bb lg m0 m1 l e)
  | s13 (hin : 4 ≤ (n : Int)) (h0 : ((l.getD 0 0) == 0) = false) (h1 : ((l.getD 2 0) == 0) = true) : lpInv bb lg m0 m1 g gl pre n c l e 4 (S129 pre n c bb lg m0 m1 l e)
  | s14 (i : Int) (hx : (n : Int) < i) : lpInv bb lg m0 m1 g gl pre n c l e i (S130 pre n c i bb lg m0 m1 l e)
  | s15 (hin : 4 ≤ (n : Int)) (h0 : ((l.getD 0 0) == 0) = false) (h1 : ((l.getD 2 0) == 0) = false) : lpInv bb lg m0 m1 g gl pre n c l e 4 (S146 pre n c bb lg m0 m1 l e)
  | s16 (i : Int) (hx : (n : Int) < i) : lpInv bb lg m0 m1 g gl pre n c l e i (S148 pre n c i bb lg m0 m1 l e)
  | s17 (i : Int) (hi : 5 ≤ i) (hin : i ≤ (n : Int)) (h0 : ((l.getD 0 0) == 0) = true) : lpInv bb lg m0 m1 g gl pre n c l e i (S47 pre n c i bb lg m0 m1 l e)
  | s18 (i : Int) (hi : 5 ≤ i) (hin : i ≤ (n : Int)) (h0 : ((l.getD 0 0) == 0) = false) (h1 : ((l.getD 2 0) == 0) = true) : lpInv bb lg m0 m1 g gl pre n c l e i (S130 pre n c i bb lg m0 m1 l e)
  | s19 (i : Int) (hi : 5 ≤ i) (hin : i ≤ (n : Int)) (h0 : ((l.getD 0 0) == 0) = false) (h1 : ((l.getD 2 0) == 0) = false) : lpInv bb lg m0 m1 g gl pre n c l e i (S197 pre n c i bb lg m0 m1 l e)
  | s20 (i : Int) (hx : (n : Int) < i) : lpInv bb lg m0 m1 g gl pre n c l e i (S197 pre n c i bb lg m0 m1 l e)
theorem lp_loop (bb lg m0 m1 g gl : Int) (pre n c : Nat) (l : List Int) (e : TypeId) (hb : 0 ≤ bb) (hm : -9223372036854775808 ≤ m1 ∧ m1 < 9223372036854775808) (hg : groupsV m0 = g) (hg1 : 0 ≤ g) (hg2 : g ≤ 512) (hgl : groupsV lg = gl) (hgl1 : 0 ≤ gl) (hn20 : n ≤ 20) (hc : n ≤ c) (hc2 : c ≤ 9223372036854775807) (hl : l.length = c) (hc0 : 0 < c) (h1 : bb ≠ 0) (h2 : 0 < gl) (h3 : 0 < g) (i : Int) (s : KSt) (z0 : 0 ≤ i) (z1 : i ≤ (n : Int) + 1) (hI : lpInv bb lg m0 m1 g gl pre n c l e i s) :
    Gets Try.prog (KH.low ⟨1, 1, [(0, 0, .tail pre .u64 l e)]⟩) (codeAt [1, 1, 1, 1, 0, 1] B) s.low (onN (fun s => Gets Try.prog (KH.low ⟨1, 1, [(0, 0, .tail pre .u64 l e)]⟩) (codeAt [1, 1, 1, 1, 1] B) s (QE)) (QE)) := by
  rw [C1_1_1_1_0_1, C1_1_1_1_0_1_0]
  refine Gets.loopG (fun m s => ∃ i : Int, m = ((n : Int) + 1 - i).toNat ∧ 0 ≤ i ∧ i ≤ (n : Int) + 1 ∧ lpInv bb lg m0 m1 g gl pre n c l e i s) ?_ _ _ ⟨i, rfl, z0, z1, hI⟩
  clear z0 z1 hI s i
  rintro m s ⟨i, rfl, z0, z1, hI⟩
  cases hI with
  | s0 hin  =>
    by_cases hn : 0 < (n : Int)
    · cases zc0 : ((l.getD 0 0) == 0) with
      | true =>
        refine lp0m_7 bb lg m0 m1 g gl 0 pre n c l e hb hm hg hg1 hg2 hgl hgl1 hn20 hc hc2 hl hc0 h1 h2 h3 hn zc0 ?_
        exact ⟨_, _, by omega, rfl, 1, rfl, by omega, by omega, .s1 (by omega) zc0⟩
      | false =>
        refine lp0m_8 bb lg m0 m1 g gl 0 pre n c l e hb hm hg hg1 hg2 hgl hgl1 hn20 hc hc2 hl hc0 h1 h2 h3 hn zc0 ?_
        exact ⟨_, _, by omega, rfl, 1, rfl, by omega, by omega, .s2 (by omega) zc0⟩
    · refine lp0e_9 bb lg m0 m1 g gl 0 pre n c l e hb hm hg hg1 hg2 hgl hgl1 hn20 hc hc2 hl hc0 h1 h2 h3 (by omega)  ?_
      exact ⟨_, _, by omega, rfl, 1, rfl, by omega, by omega, .s3 _ (by omega) ⟩
  | s1 hin zf0 =>
    by_cases hn : 1 < (n : Int)
    · refine lp1m_10 bb lg m0 m1 g gl 0 pre n c l e hb hm hg hg1 hg2 hgl hgl1 hn20 hc hc2 hl hc0 h1 h2 h3 hn zf0 ?_
      exact ⟨_, _, by omega, rfl, 2, rfl, by omega, by omega, .s4 (by omega) zf0⟩
    · refine lp1e_11 bb lg m0 m1 g gl 0 pre n c l e hb hm hg hg1 hg2 hgl hgl1 hn20 hc hc2 hl hc0 h1 h2 h3 (by omega) zf0 ?_
      exact ⟨_, _, by omega, rfl, 2, rfl, by omega, by omega, .s5 _ (by omega) ⟩
  | s2 hin zf0 =>
    by_cases hn : 1 < (n : Int)
    · refine lp2m_12 bb lg m0 m1 g gl 0 pre n c l e hb hm hg hg1 hg2 hgl hgl1 hn20 hc hc2 hl hc0 h1 h2 h3 hn zf0 ?_
      exact ⟨_, _, by omega, rfl, 2, rfl, by omega, by omega, .s6 (by omega) zf0⟩
    · refine lp2e_13 bb lg m0 m1 g gl 0 pre n c l e hb hm hg hg1 hg2 hgl hgl1 hn20 hc hc2 hl hc0 h1 h2 h3 (by omega) zf0 ?_
      exact ⟨_, _, by omega, rfl, 2, rfl, by omega, by omega, .s7 _ (by omega) ⟩
  | s3 _ hx =>
    refine lp3x_14 bb lg m0 m1 g gl i pre n c l e hx ?_
    refine ⟨fun _ => ?_, fun h => by cases h⟩
    exact lp3f_15 bb lg m0 m1 g gl i pre n c l e (qe_true (by kernel_rfl))
  | s4 hin zf0 =>
    by_cases hn : 2 < (n : Int)
    · refine lp4m_16 bb lg m0 m1 g gl 0 pre n c l e hb hm hg hg1 hg2 hgl hgl1 hn20 hc hc2 hl hc0 h1 h2 h3 hn zf0 ?_
      exact ⟨_, _, by omega, rfl, 3, rfl, by omega, by omega, .s8 (by omega) zf0⟩
    · refine lp4e_17 bb lg m0 m1 g gl 0 pre n c l e hb hm hg hg1 hg2 hgl hgl1 hn20 hc hc2 hl hc0 h1 h2 h3 (by omega) zf0 ?_
      exact ⟨_, _, by omega, rfl, 3, rfl, by omega, by omega, .s5 _ (by omega) ⟩
  | s5 _ hx =>
    refine lp5x_18 bb lg m0 m1 g gl i pre n c l e hx ?_
    refine ⟨fun _ => ?_, fun h => by cases h⟩
    exact lp5f_19 bb lg m0 m1 g gl i pre n c l e (qe_true (by kernel_rfl))
  | s6 hin zf0 =>
    by_cases hn : 2 < (n : Int)
    · cases zc0 : ((l.getD 2 0) == 0) with
      | true =>
        refine lp6m_20 bb lg m0 m1 g gl 0 pre n c l e hb hm hg hg1 hg2 hgl hgl1 hn20 hc hc2 hl hc0 h1 h2 h3 hn zf0 zc0 ?_
        exact ⟨_, _, by omega, rfl, 3, rfl, by omega, by omega, .s9 (by omega) zf0 zc0⟩
      | false =>
        refine lp6m_21 bb lg m0 m1 g gl 0 pre n c l e hb hm hg hg1 hg2 hgl hgl1 hn20 hc hc2 hl hc0 h1 h2 h3 hn zf0 zc0 ?_
        exact ⟨_, _, by omega, rfl, 3, rfl, by omega, by omega, .s10 (by omega) zf0 zc0⟩
    · refine lp6e_22 bb lg m0 m1 g gl 0 pre n c l e hb hm hg hg1 hg2 hgl hgl1 hn20 hc hc2 hl hc0 h1 h2 h3 (by omega) zf0 ?_
      exact ⟨_, _, by omega, rfl, 3, rfl, by omega, by omega, .s11 _ (by omega) ⟩
  | s7 _ hx =>
    refine lp7x_23 bb lg m0 m1 g gl i pre n c l e hx ?_
    refine ⟨fun _ => ?_, fun h => by cases h⟩
    exact lp7f_24 bb lg m0 m1 g gl i pre n c l e (qe_true (by kernel_rfl))
  | s8 hin zf0 =>
    by_cases hn : 3 < (n : Int)
    · refine lp8m_25 bb lg m0 m1 g gl 0 pre n c l e hb hm hg hg1 hg2 hgl hgl1 hn20 hc hc2 hl hc0 h1 h2 h3 hn zf0 ?_
      exact ⟨_, _, by omega, rfl, 4, rfl, by omega, by omega, .s12 (by omega) zf0⟩
    · refine lp8e_26 bb lg m0 m1 g gl 0 pre n c l e hb hm hg hg1 hg2 hgl hgl1 hn20 hc hc2 hl hc0 h1 h2 h3 (by omega) zf0 ?_
      exact ⟨_, _, by omega, rfl, 4, rfl, by omega, by omega, .s5 _ (by omega) ⟩
  | s9 hin zf0 zf1 =>
    by_cases hn : 3 < (n : Int)
    · refine lp9m_27 bb lg m0 m1 g gl 0 pre n c l e hb hm hg hg1 hg2 hgl hgl1 hn20 hc hc2 hl hc0 h1 h2 h3 hn zf0 zf1 ?_
      exact ⟨_, _, by omega, rfl, 4, rfl, by omega, by omega, .s13 (by omega) zf0 zf1⟩
    · refine lp9e_28 bb lg m0 m1 g gl 0 pre n c l e hb hm hg hg1 hg2 hgl hgl1 hn20 hc hc2 hl hc0 h1 h2 h3 (by omega) zf0 zf1 ?_
      exact ⟨_, _, by omega, rfl, 4, rfl, by omega, by omega, .s14 _ (by omega) ⟩
  | s10 hin zf0 zf1 =>
    by_cases hn : 3 < (n : Int)
    · refine lp10m_29 bb lg m0 m1 g gl 0 pre n c l e hb hm hg hg1 hg2 hgl hgl1 hn20 hc hc2 hl hc0 h1 h2 h3 hn zf0 zf1 ?_
      exact ⟨_, _, by omega, rfl, 4, rfl, by omega, by omega, .s15 (by omega) zf0 zf1⟩
    · refine lp10e_30 bb lg m0 m1 g gl 0 pre n c l e hb hm hg hg1 hg2 hgl hgl1 hn20 hc hc2 hl hc0 h1 h2 h3 (by omega) zf0 zf1 ?_
      exact ⟨_, _, by omega, rfl, 4, rfl, by omega, by omega, .s16 _ (by omega) ⟩
  | s11 _ hx =>
    refine lp11x_31 bb lg m0 m1 g gl i pre n c l e hx ?_
    refine ⟨fun _ => ?_, fun h => by cases h⟩
    exact lp11f_32 bb lg m0 m1 g gl i pre n c l e (qe_true (by kernel_rfl))
  | s12 hin zf0 =>
    by_cases hn : 4 < (n : Int)
    · refine lp12m_33 bb lg m0 m1 g gl 0 pre n c l e hb hm hg hg1 hg2 hgl hgl1 hn20 hc hc2 hl hc0 h1 h2 h3 hn zf0 ?_
      exact ⟨_, _, by omega, rfl, 5, rfl, by omega, by omega, .s17 _ (by omega) (by omega) zf0⟩
    · refine lp12e_34 bb lg m0 m1 g gl 0 pre n c l e hb hm hg hg1 hg2 hgl hgl1 hn20 hc hc2 hl hc0 h1 h2 h3 (by omega) zf0 ?_
      exact ⟨_, _, by omega, rfl, 5, rfl, by omega, by omega, .s5 _ (by omega) ⟩
  | s13 hin zf0 zf1 =>
    by_cases hn : 4 < (n : Int)
    · refine lp13m_35 bb lg m0 m1 g gl 0 pre n c l e hb hm hg hg1 hg2 hgl hgl1 hn20 hc hc2 hl hc0 h1 h2 h3 hn zf0 zf1 ?_
      exact ⟨_, _, by omega, rfl, 5, rfl, by omega, by omega, .s18 _ (by omega) (by omega) zf0 zf1⟩
    · refine lp13e_36 bb lg m0 m1 g gl 0 pre n c l e hb hm hg hg1 hg2 hgl hgl1 hn20 hc hc2 hl hc0 h1 h2 h3 (by omega) zf0 zf1 ?_
      exact ⟨_, _, by omega, rfl, 5, rfl, by omega, by omega, .s14 _ (by omega) ⟩
  | s14 _ hx =>
    refine lp14x_37 bb lg m0 m1 g gl i pre n c l e hx ?_
    refine ⟨fun _ => ?_, fun h => by cases h⟩
    exact lp14f_38 bb lg m0 m1 g gl i pre n c l e (qe_true (by kernel_rfl))
  | s15 hin zf0 zf1 =>
    by_cases hn : 4 < (n : Int)
    · refine lp15m_39 bb lg m0 m1 g gl 0 pre n c l e hb hm hg hg1 hg2 hgl hgl1 hn20 hc hc2 hl hc0 h1 h2 h3 hn zf0 zf1 ?_
      exact ⟨_, _, by omega, rfl, 5, rfl, by omega, by omega, .s19 _ (by omega) (by omega) zf0 zf1⟩
    · refine lp15e_40 bb lg m0 m1 g gl 0 pre n c l e hb hm hg hg1 hg2 hgl hgl1 hn20 hc hc2 hl hc0 h1 h2 h3 (by omega) zf0 zf1 ?_
      exact ⟨_, _, by omega, rfl, 5, rfl, by omega, by omega, .s20 _ (by omega) ⟩
  | s16 _ hx =>
    refine lp16x_41 bb lg m0 m1 g gl i pre n c l e hx ?_
    refine ⟨fun _ => ?_, fun h => by cases h⟩
    exact lp16f_42 bb lg m0 m1 g gl i pre n c l e (qe_true (by kernel_rfl))
  | s17 _ hi hin zf0 =>
    by_cases hn : i < (n : Int)
    · refine lp17m_43 bb lg m0 m1 g gl i pre n c l e hb hm hg hg1 hg2 hgl hgl1 hn20 hc hc2 hl hc0 h1 h2 h3 hi hn zf0 ?_
      exact ⟨_, _, by omega, rfl, i + 1, rfl, by omega, by omega, .s17 _ (by omega) (by omega) zf0⟩
    · refine lp17e_44 bb lg m0 m1 g gl i pre n c l e hb hm hg hg1 hg2 hgl hgl1 hn20 hc hc2 hl hc0 h1 h2 h3 hi (by omega) zf0 ?_
      exact ⟨_, _, by omega, rfl, i + 1, rfl, by omega, by omega, .s5 _ (by omega) ⟩
  | s18 _ hi hin zf0 zf1 =>
    by_cases hn : i < (n : Int)
    · refine lp18m_45 bb lg m0 m1 g gl i pre n c l e hb hm hg hg1 hg2 hgl hgl1 hn20 hc hc2 hl hc0 h1 h2 h3 hi hn zf0 zf1 ?_
      exact ⟨_, _, by omega, rfl, i + 1, rfl, by omega, by omega, .s18 _ (by omega) (by omega) zf0 zf1⟩
    · refine lp18e_46 bb lg m0 m1 g gl i pre n c l e hb hm hg hg1 hg2 hgl hgl1 hn20 hc hc2 hl hc0 h1 h2 h3 hi (by omega) zf0 zf1 ?_
      exact ⟨_, _, by omega, rfl, i + 1, rfl, by omega, by omega, .s14 _ (by omega) ⟩
  | s19 _ hi hin zf0 zf1 =>
    by_cases hn : i < (n : Int)
    · refine lp19m_47 bb lg m0 m1 g gl i pre n c l e hb hm hg hg1 hg2 hgl hgl1 hn20 hc hc2 hl hc0 h1 h2 h3 hi hn zf0 zf1 ?_
      exact ⟨_, _, by omega, rfl, i + 1, rfl, by omega, by omega, .s19 _ (by omega) (by omega) zf0 zf1⟩
    · refine lp19e_48 bb lg m0 m1 g gl i pre n c l e hb hm hg hg1 hg2 hgl hgl1 hn20 hc hc2 hl hc0 h1 h2 h3 hi (by omega) zf0 zf1 ?_
      exact ⟨_, _, by omega, rfl, i + 1, rfl, by omega, by omega, .s20 _ (by omega) ⟩
  | s20 _ hx =>
    refine lp20x_49 bb lg m0 m1 g gl i pre n c l e hx ?_
    refine ⟨fun _ => ?_, fun h => by cases h⟩
    exact lp20f_50 bb lg m0 m1 g gl i pre n c l e (qe_true (by kernel_rfl))

theorem told (bb lg m0 m1 : Int) (pre n c : Nat) (l : List Int) (e : TypeId) (hb : 0 ≤ bb) (hm : -9223372036854775808 ≤ m1 ∧ m1 < 9223372036854775808) (hc : n ≤ c) (hc2 : c ≤ 9223372036854775807) (hl : l.length = c) (hc0 : 0 < c) :
    Tells Try.prog 6 [.agg #[.int .u64 bb, .int .i64 lg], .agg #[.int .i64 m0, .int .i64 m1], .slice (some ⟨0, pre, none⟩) n c] (KH.low ⟨1, 1, [(0, 0, .tail pre .u64 l e)]⟩) (.bool true) := by
  refine Gets.tells Try.func6 B_is (by rw [noVars]; exact Nat.zero_le _) rfl ?_ Ro.oneRow
  show Gets Try.prog (KH.low ⟨1, 1, [(0, 0, .tail pre .u64 l e)]⟩) B (KSt.low (S0 bb lg m0 m1 pre n c l e)) QE
  obtain ⟨g, hg⟩ : ∃ g, groupsV m0 = g := ⟨_, rfl⟩
  obtain ⟨gl, hgl⟩ : ∃ gl, groupsV lg = gl := ⟨_, rfl⟩
  have hg1 : 0 ≤ g := by rw [← hg]; exact (groupsV_bounds _).1
  have hg2 : g ≤ 512 := by rw [← hg]; exact (groupsV_bounds _).2
  have hgl1 : 0 ≤ gl := by rw [← hgl]; exact (groupsV_bounds _).1
  by_cases hn : 20 < n
  · exact r20_0 bb lg m0 m1 g gl 0 pre n c l e hb hm hg hg1 hg2 hgl hgl1 hn hc hc2 hl hc0 (qe_true (by kernel_rfl))
  have hn20 : n ≤ 20 := by omega
  by_cases h1 : bb = 0
  · exact b0_1 bb lg m0 m1 g gl 0 pre n c l e hb hm hg hg1 hg2 hgl hgl1 hn20 hc hc2 hl hc0 h1 (qe_true (by kernel_rfl))
  by_cases h2 : gl = 0
  · exact b1_2 bb lg m0 m1 g gl 0 pre n c l e hb hm hg hg1 hg2 hgl hgl1 hn20 hc hc2 hl hc0 h1 h2 (qe_true (by kernel_rfl))
  have h2 : 0 < gl := by omega
  by_cases h3 : g = 0
  · exact b2_3 bb lg m0 m1 g gl 0 pre n c l e hb hm hg hg1 hg2 hgl hgl1 hn20 hc hc2 hl hc0 h1 h2 h3 (qe_true (by kernel_rfl))
  have h3 : 0 < g := by omega
  by_cases h4 : m1 = 1
  · exact g1_5 bb lg m0 m1 g gl 0 pre n c l e hb hm hg hg1 hg2 hgl hgl1 hn20 hc hc2 hl hc0 h1 h2 h3 h4 (lp_loop bb lg m0 m1 g gl pre n c l e hb hm hg hg1 hg2 hgl hgl1 hn20 hc hc2 hl hc0 h1 h2 h3 0 _ (by omega) (by omega) (.s0 (by omega)))
  by_cases h5 : m1 = 2
  · exact g2_6 bb lg m0 m1 g gl 0 pre n c l e hb hm hg hg1 hg2 hgl hgl1 hn20 hc hc2 hl hc0 h1 h2 h3 h5 (lp_loop bb lg m0 m1 g gl pre n c l e hb hm hg hg1 hg2 hgl hgl1 hn20 hc hc2 hl hc0 h1 h2 h3 0 _ (by omega) (by omega) (.s0 (by omega)))
  exact b3_4 bb lg m0 m1 g gl 0 pre n c l e hb hm hg hg1 hg2 hgl hgl1 hn20 hc hc2 hl hc0 h1 h2 h3 h4 h5 (qe_true (by kernel_rfl))

theorem toldV (bb lg m0 m1 : Int) (hb : 0 ≤ bb) (hm : -9223372036854775808 ≤ m1 ∧ m1 < 9223372036854775808) :
    Tells Try.prog 6 [.agg #[.int .u64 bb, .int .i64 lg], .agg #[.int .i64 m0, .int .i64 m1], .slice (some ⟨0, 0, none⟩) 0 0] (KH.low ⟨1, 1, []⟩) (.bool true) := by
  refine Gets.tells Try.func6 B_is (by rw [noVars]; exact Nat.zero_le _) rfl ?_ (Ro.empty _ _)
  show Gets Try.prog (KH.low ⟨1, 1, []⟩) B (KSt.low (vS0 bb lg m0 m1 0)) QE
  obtain ⟨g, hg⟩ : ∃ g, groupsV m0 = g := ⟨_, rfl⟩
  obtain ⟨gl, hgl⟩ : ∃ gl, groupsV lg = gl := ⟨_, rfl⟩
  have hg1 : 0 ≤ g := by rw [← hg]; exact (groupsV_bounds _).1
  have hg2 : g ≤ 512 := by rw [← hg]; exact (groupsV_bounds _).2
  have hgl1 : 0 ≤ gl := by rw [← hgl]; exact (groupsV_bounds _).1
  by_cases h1 : bb = 0
  · exact vb0_0 bb lg m0 m1 g gl 0 hb hm hg hg1 hg2 hgl hgl1 h1 (qe_true (by kernel_rfl))
  by_cases h2 : gl = 0
  · exact vb1_1 bb lg m0 m1 g gl 0 hb hm hg hg1 hg2 hgl hgl1 h1 h2 (qe_true (by kernel_rfl))
  have h2 : 0 < gl := by omega
  by_cases h3 : g = 0
  · exact vb2_2 bb lg m0 m1 g gl 0 hb hm hg hg1 hg2 hgl hgl1 h1 h2 h3 (qe_true (by kernel_rfl))
  have h3 : 0 < g := by omega
  by_cases h4 : m1 = 1
  · exact vg1_4 bb lg m0 m1 g gl 0 hb hm hg hg1 hg2 hgl hgl1 h1 h2 h3 h4 (qe_true (by kernel_rfl))
  by_cases h5 : m1 = 2
  · exact vg2_5 bb lg m0 m1 g gl 0 hb hm hg hg1 hg2 hgl hgl1 h1 h2 h3 h5 (qe_true (by kernel_rfl))
  exact vb3_3 bb lg m0 m1 g gl 0 hb hm hg hg1 hg2 hgl hgl1 h1 h2 h3 h4 h5 (qe_true (by kernel_rfl))

theorem own : ownKnob Try.prog.godebug = none := by kernel_rfl
theorem lifted (os : Os) (started : os.Started) (H : Type) (enc : TypeId × Value → H) :
    ReturnsInHanded {} Try.checked os 6 .any (Rows.extendActsSpec.pre6 enc Try.prog Try.f6 Rows.extendActsRow.domain false) (Rows.extendActsSpec.post enc Try.prog Try.f6 false true false false) := by
  refine returnsInHanded_of_change_sized (C := Try.checked) own started (by kernel_rfl) Try.func6
    (ChangeSpec.witness6 (enc := enc) (C := Try.checked) false ⟨#[], #[.agg #[.int .u64 0, .int .i64 0], .agg #[.int .i64 0, .int .i64 0], .slice none 0 0], []⟩ 8 (by kernel_rfl) (by kernel_rfl) (by kernel_rfl) (by kernel_rfl)) ?_
  intro W base args ds gs before hval0 hW hcnd hsz0 _
  have hval : ∀ (j : Nat) t v, Try.f6.params[j]? = some t → args[j]? = some v → Value.okWide Try.prog W .any base t v := hval0
  have hW' := hW
  obtain ⟨p, q, hA0, hV, rfl, hfz, hnd⟩ := hW
  have hA : DataW.TrodAll enc Try.prog W 0 (fun _ => true) true Try.f6.params.toList args.toList ds p := hA0
  rw [Try.params6] at hA hval
  have hS := hA
  obtain ⟨v0, vs0, d0, ds0, p0, q0, hargs, rfl, rfl, h0, r0⟩ := trodAll_cons hA
  obtain ⟨v1, vs1, d1, ds1, p1, q1, rfl, rfl, rfl, h1, r1⟩ := trodAll_cons r0
  obtain ⟨v2, vs2, d2, ds2, p2, q2, rfl, rfl, rfl, h2, r2⟩ := trodAll_cons r1
  obtain ⟨rfl, rfl, rfl⟩ := trodAll_nil r2
  obtain rfl : args = #[v0, v1, v2] := by cases args; simp_all
  obtain ⟨rfl, rfl⟩ := trodVars_none hV
  suffices hc : Calls Try.prog 6 #[v0, v1, v2] W fun e W' => e = .returned (.bool true) ∧ Below W.heap.size W W' by
    refine hc.mono fun e W' ⟨he, bel⟩ => ?_
    subst he
    exact ⟨_, rfl, _, _, _, [], _, [], hW', trodAll_mk1 (shut_bool Try.underlying4 _), trodAll_stays fineA bel (by decide +kernel) hS, rfl, bel.frame _, fun h => by cases h⟩
  clear hS hW' hfz hnd
  obtain ⟨cs0, rfl, hl0, hc0⟩ := open_agg (ts := [22, 3]) (by kernel_rfl) (by kernel_rfl) (by kernel_rfl) (hval 0 54 v0 rfl rfl)
  obtain ⟨x0_0, cs0_0, rfl, hl0_0⟩ := list_succ hl0
  obtain ⟨x0_1, cs0_1, rfl, hl0_1⟩ := list_succ hl0_0
  obtain rfl := list_zero hl0_1
  obtain ⟨a0_0, rfl, w0_0⟩ := cell_int (k := .u64) Try.underlying22 (hc0 0 _ _ rfl rfl)
  obtain ⟨a0_1, rfl, w0_1⟩ := cell_int (k := .i64) Try.underlying3 (hc0 1 _ _ rfl rfl)
  obtain ⟨cs1, rfl, hl1, hc1⟩ := open_agg (ts := [3, 3]) (by kernel_rfl) (by kernel_rfl) (by kernel_rfl) (hval 1 55 v1 rfl rfl)
  obtain ⟨x1_0, cs1_0, rfl, hl1_0⟩ := list_succ hl1
  obtain ⟨x1_1, cs1_1, rfl, hl1_1⟩ := list_succ hl1_0
  obtain rfl := list_zero hl1_1
  obtain ⟨a1_0, rfl, w1_0⟩ := cell_int (k := .i64) Try.underlying3 (hc1 0 _ _ rfl rfl)
  obtain ⟨a1_1, rfl, w1_1⟩ := cell_int (k := .i64) Try.underlying3 (hc1 1 _ _ rfl rfl)
  have o2 := open_row Try.underlying23 Try.underlying22 (by kernel_rfl) (hval 2 23 v2 rfl rfl) h2
  have hm := has_i64 w1_1
  have hb := (has_u64 w0_0).1
  rcases o2 with ⟨x, rfl⟩ | ⟨a, len, cap, zs, rfl, h0, hle, hmx, hz, hcell, hwf⟩
  · exact toldV a0_0 a0_1 a1_0 a1_1 hb hm _ W _ (.cons (.of_plain rfl) (.cons (.of_plain rfl) (.cons (.slice00 _ _ _) (.nil _)))) (Sim.none noVars W _ _)
  · obtain ⟨e, hS, hsp⟩ := Sim.oneRow noVars (by omega) hcell
    obtain ⟨blk, off, spot⟩ := a
    simp only at hsp
    subst hsp
    exact told a0_0 a0_1 a1_0 a1_1 off len cap zs e hb hm hle (by simpa [maxLen] using hmx) hz h0 _ W _ (.cons (.of_plain rfl) (.cons (.of_plain rfl) (.cons (R.slice_row rfl) (.nil _)))) hS
theorem over : Rows.extendActsRow.holds Try.pinned (OpenSpec.ofChange Rows.extendActsSpec) :=
  OpenClaim.holds_of_wide 6 Try.f6 rfl rfl rfl rfl rfl rfl rfl ⟨rfl, rfl, rfl, rfl, rfl⟩ rfl rfl rfl rfl rfl (by kernel_rfl) Try.func6 (by kernel_rfl)
    (of_decide_eq_true (by kernel_rfl)) (by unfold Func.isWrapper; first | (rw [if_pos (by decide +kernel)]; kernel_rfl) | (rw [if_neg (by decide +kernel)]; exact ⟨rfl, rfl⟩))
    (fun os started H enc _ => lifted os started H enc)
end Go.Proofs.Ytmphcolclkpnnab.extendActs
namespace Go.Proofs.Ytmphcolclkpnnab
/-- The row, under a short name, for the claim. -/
theorem extendActs_holds : Rows.ExtendActsSaid := extendActs.over
#print axioms extendActs_holds
end Go.Proofs.Ytmphcolclkpnnab
