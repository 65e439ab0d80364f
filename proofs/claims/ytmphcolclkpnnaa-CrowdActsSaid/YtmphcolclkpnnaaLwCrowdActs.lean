/- CrowdActs. -/
import Derived.Test.YtmphcolclkpnnaaCrowdW
import Derived.WalkKit
import Derived.ProofKit
import Derived.OpenShut
import Derived.ChangeOld
import Derived.Below
import Derived.SizedLaws
namespace Go.Proofs.Ytmphcolclkpnnaa.crowdActs
open Go.Eng
open Go.ChangeShapes Go.WideShapes Go.ChangeAt Go.RowKit
set_option linter.unusedVariables false
set_option linter.unusedSimpArgs false
set_option maxRecDepth 100000

noncomputable def QE : Ex → St → Prop := Eng.Ends Try.prog Try.f7.results.toList fun r _ => r = .bool true
theorem qe_true {s : KSt} (h : resL Try.prog s.low Try.f7.results.toList = some [.bool true]) : QE .ret s.low := Ends.of h rfl
theorem loop (bb lg : Int) (pre n c : Nat) (l : List Int) (e : TypeId) (hn20 : n ≤ 20) (hc : n ≤ c) (hc2 : c ≤ 9223372036854775807) (hl : l.length = c) (hc0 : 0 < c) :
    Gets Try.prog (KH.low ⟨1, 1, [(0, 0, .tail pre .u64 l e)]⟩) (codeAt [1, 1, 1, 1, 1, 0, 1] B) (KSt.low (S21 pre n c bb lg l e)) (onN (fun s => Gets Try.prog (KH.low ⟨1, 1, [(0, 0, .tail pre .u64 l e)]⟩) (codeAt [1, 1, 1, 1, 1, 1] B) s (QE)) (QE)) := by
  rw [C1_1_1_1_1_0_1, C1_1_1_1_1_0_1_0]
  refine Gets.loopG (fun m s => ∃ i : Int, m = ((n : Int) + 1 - i).toNat ∧ 0 ≤ i ∧ ((i ≤ (n : Int) ∧ ((i = 0 ∧ s = (S21 pre n c bb lg l e)) ∨ (i = 1 ∧ s = (S33 pre n c bb lg l e)) ∨ (i = 2 ∧ s = (S47 pre n c bb lg l e)) ∨ (i = 3 ∧ s = (S61 pre n c bb lg l e)) ∨ (4 ≤ i ∧ s = (S77 pre n c i bb lg l e)))) ∨
    (i = (n : Int) + 1 ∧ ∃ a0 s0 s1 s2 s3, s = (S94 pre n c i bb lg a0 s0 s1 s2 s3 l e)))) ?_ _ _ ⟨0, rfl, by omega, .inl ⟨by omega, .inl ⟨rfl, rfl⟩⟩⟩
  rintro m s ⟨i, rfl, hi0, ⟨hin, h | h | h | h | h⟩ | ⟨hi, a0, s0, s1, s2, s3, rfl⟩⟩

  · obtain ⟨rfl, rfl⟩ := h
    by_cases hl1 : ((0 : Int) < (n : Int))
    · refine l00 bb lg 0 pre n c l e hn20 hc hc2 hl hc0 hl1 ?_
      exact ⟨_, _, by omega, rfl, 1, rfl, by omega, .inl ⟨by omega, .inr (.inl ⟨rfl, rfl⟩)⟩⟩
    · refine l01 bb lg 0 pre n c l e hn20 hc hc2 hl hc0 (by omega) ?_
      exact ⟨_, _, by omega, rfl, 1, rfl, by omega, .inr ⟨by omega, 0, 0, 0, 0, 0, rfl⟩⟩
  · obtain ⟨rfl, rfl⟩ := h
    by_cases hl1 : ((1 : Int) < (n : Int))
    · refine l10 bb lg 0 pre n c l e hn20 hc hc2 hl hc0 hl1 ?_
      exact ⟨_, _, by omega, rfl, 2, rfl, by omega, .inl ⟨by omega, .inr (.inr (.inl ⟨rfl, rfl⟩))⟩⟩
    · refine l11 bb lg 0 pre n c l e hn20 hc hc2 hl hc0 (by omega) ?_
      exact ⟨_, _, by omega, rfl, 2, rfl, by omega, .inr ⟨by omega, 1, l.getD 0 0, 0, 0, 0, rfl⟩⟩
  · obtain ⟨rfl, rfl⟩ := h
    by_cases hl1 : ((2 : Int) < (n : Int))
    · refine l20 bb lg 0 pre n c l e hn20 hc hc2 hl hc0 hl1 ?_
      exact ⟨_, _, by omega, rfl, 3, rfl, by omega, .inl ⟨by omega, .inr (.inr (.inr (.inl ⟨rfl, rfl⟩)))⟩⟩
    · refine l21 bb lg 0 pre n c l e hn20 hc hc2 hl hc0 (by omega) ?_
      exact ⟨_, _, by omega, rfl, 3, rfl, by omega, .inr ⟨by omega, 2, l.getD 0 0, l.getD 1 0, 0, 0, rfl⟩⟩
  · obtain ⟨rfl, rfl⟩ := h
    by_cases hl1 : ((3 : Int) < (n : Int))
    · refine l30 bb lg 0 pre n c l e hn20 hc hc2 hl hc0 hl1 ?_
      exact ⟨_, _, by omega, rfl, 4, rfl, by omega, .inl ⟨by omega, .inr (.inr (.inr (.inr (⟨by omega, rfl⟩))))⟩⟩
    · refine l31 bb lg 0 pre n c l e hn20 hc hc2 hl hc0 (by omega) ?_
      exact ⟨_, _, by omega, rfl, 4, rfl, by omega, .inr ⟨by omega, 3, l.getD 0 0, l.getD 1 0, l.getD 2 0, 0, rfl⟩⟩
  · obtain ⟨h4, rfl⟩ := h
    by_cases hl1 : (i < (n : Int))
    · refine li0 bb lg i pre n c l e hn20 hc hc2 hl hc0 h4 hl1 ?_
      exact ⟨_, _, by omega, rfl, i + 1, rfl, by omega, .inl ⟨by omega, .inr (.inr (.inr (.inr (⟨by omega, rfl⟩))))⟩⟩
    · refine li1 bb lg i pre n c l e hn20 hc hc2 hl hc0 h4 (by omega) ?_
      exact ⟨_, _, by omega, rfl, i + 1, rfl, by omega, .inr ⟨by omega, 4, l.getD 0 0, l.getD 1 0, l.getD 2 0, l.getD 3 0, by kernel_rfl⟩⟩
  · refine lx bb lg i a0 s0 s1 s2 s3 pre n c l e (by omega) ?_
    refine ⟨fun _ => ?_, fun h => by cases h⟩
    refine fin bb lg i a0 s0 s1 s2 s3 pre n c l e (qe_true ?_)
    kernel_rfl

theorem stripes (th : Int) (h : -9223372036854775808 ≤ th ∧ th < 9223372036854775808) :
    ((decide ((Int.tmod th 4) < 0)) = true ∧ ((IntKind.wrap .i64 (3 + (bits .and .i64 th 3))) == (IntKind.wrap .i64 (3 + (IntKind.wrap .i64 ((Int.tmod th 4) + 4))))) = true) ∨
    ((decide ((Int.tmod th 4) < 0)) = false ∧ ((IntKind.wrap .i64 (3 + (bits .and .i64 th 3))) == (IntKind.wrap .i64 (3 + (Int.tmod th 4)))) = true) := by
  rw [and3_i64]
  rcases tmod_cases th 4 with ⟨h1, h2⟩ | ⟨h1, h2⟩
  · refine .inr ⟨decide_eq_false (by omega), ibeq_t ?_⟩
    rw [h2]
  · by_cases h3 : (Int.tmod th 4) < 0
    · refine .inl ⟨decide_eq_true h3, ibeq_t ?_⟩
      rw [wrap_i64_id (n := Int.tmod th 4 + 4) (by omega) (by omega)]
      congr 2; omega
    · refine .inr ⟨decide_eq_false h3, ibeq_t ?_⟩
      congr 2; omega
theorem told (bb lg th : Int) (pre n c : Nat) (l : List Int) (e : TypeId) (hb : 0 ≤ bb) (ht : -9223372036854775808 ≤ th ∧ th < 9223372036854775808) (hc : n ≤ c) (hc2 : c ≤ 9223372036854775807) (hl : l.length = c) (hc0 : 0 < c) :
    Tells Try.prog 7 [.agg #[.int .u64 bb, .int .i64 lg], .int .i64 th, .slice (some ⟨0, pre, none⟩) n c] (KH.low ⟨1, 1, [(0, 0, .tail pre .u64 l e)]⟩) (.bool true) := by
  refine Gets.tells Try.func7 B_is (by rw [noVars]; exact Nat.zero_le _) rfl ?_ Ro.oneRow
  show Gets Try.prog (KH.low ⟨1, 1, [(0, 0, .tail pre .u64 l e)]⟩) B (KSt.low (S0 bb lg th pre n c l e)) QE
  by_cases hn : 20 < n
  · exact r0 bb lg th pre n c l e hn (qe_true (by kernel_rfl))
  have hn : n ≤ 20 := by omega
  have hlp := loop bb lg pre n c l e hn hc hc2 hl hc0
  by_cases h0 : bb = 0
  · subst h0
    have hst : Gets Try.prog (KH.low ⟨1, 1, [(0, 0, .tail pre .u64 l e)]⟩) (codeAt [1, 1, 1, 1] B) (KSt.low (S8 pre n c 0 lg l e)) QE := by
      cases hg : decide (groupsV lg > 0) with
      | true => exact b0 0 lg th pre n c l e rfl (qe_true (by kernel_rfl))
      | false => exact b0f 0 lg th pre n c l e rfl (qe_true (by kernel_rfl))
    rcases stripes th ht with ⟨s1, s2⟩ | ⟨s1, s2⟩
    · exact an0 0 lg th pre n c l e hn rfl s1 s2 hst
    · exact ap0 0 lg th pre n c l e hn rfl s1 s2 hst
  · have hst : Gets Try.prog (KH.low ⟨1, 1, [(0, 0, .tail pre .u64 l e)]⟩) (codeAt [1, 1, 1, 1] B) (KSt.low (S11 pre n c bb lg l e)) QE := by
      cases hg : decide (groupsV lg > 0) with
      | true => exact b1 bb lg th pre n c l e (decide_eq_true (by omega)) hg hlp
      | false => exact b1f bb lg th pre n c l e (decide_eq_true (by omega)) hg (qe_true (by kernel_rfl))
    rcases stripes th ht with ⟨s1, s2⟩ | ⟨s1, s2⟩
    · exact an1 bb lg th pre n c l e hn (ibne_t h0) s1 s2 hst
    · exact ap1 bb lg th pre n c l e hn (ibne_t h0) s1 s2 hst
theorem toldV (bb lg th : Int) (hb : 0 ≤ bb) (ht : -9223372036854775808 ≤ th ∧ th < 9223372036854775808) :
    Tells Try.prog 7 [.agg #[.int .u64 bb, .int .i64 lg], .int .i64 th, .slice (some ⟨0, 0, none⟩) 0 0] (KH.low ⟨1, 1, []⟩) (.bool true) := by
  refine Gets.tells Try.func7 B_is (by rw [noVars]; exact Nat.zero_le _) rfl ?_ (Ro.empty _ _)
  show Gets Try.prog (KH.low ⟨1, 1, []⟩) B (KSt.low (vS0 bb lg th 0)) QE
  by_cases h0 : bb = 0
  · subst h0
    have hst : Gets Try.prog (KH.low ⟨1, 1, []⟩) (codeAt [1, 1, 1, 1] B) (KSt.low (vS7 0 0 lg)) QE := by
      cases hg : decide (groupsV lg > 0) with
      | true => exact vb0 0 lg th 0 rfl (qe_true (by kernel_rfl))
      | false => exact vb0f 0 lg th 0 rfl (qe_true (by kernel_rfl))
    rcases stripes th ht with ⟨s1, s2⟩ | ⟨s1, s2⟩
    · exact van0 0 lg th 0 rfl s1 s2 hst
    · exact vap0 0 lg th 0 rfl s1 s2 hst
  · have hst : Gets Try.prog (KH.low ⟨1, 1, []⟩) (codeAt [1, 1, 1, 1] B) (KSt.low (vS10 0 bb lg)) QE := by
      cases hg : decide (groupsV lg > 0) with
      | true => exact vb1 bb lg th 0 (decide_eq_true (by omega)) hg (qe_true (by kernel_rfl))
      | false => exact vb1f bb lg th 0 (decide_eq_true (by omega)) hg (qe_true (by kernel_rfl))
    rcases stripes th ht with ⟨s1, s2⟩ | ⟨s1, s2⟩
    · exact van1 bb lg th 0 (ibne_t h0) s1 s2 hst
    · exact vap1 bb lg th 0 (ibne_t h0) s1 s2 hst
theorem own : ownKnob Try.prog.godebug = none := by kernel_rfl
theorem lifted (os : Os) (started : os.Started) (H : Type) (enc : TypeId × Value → H) :
    ReturnsInHanded {} Try.checked os 7 .any (Rows.crowdActsSpec.pre6 enc Try.prog Try.f7 Rows.crowdActsRow.domain false) (Rows.crowdActsSpec.post enc Try.prog Try.f7 false true false false) := by
  refine returnsInHanded_of_change_sized (C := Try.checked) own started (by kernel_rfl) Try.func7
    (ChangeSpec.witness6 (enc := enc) (C := Try.checked) false ⟨#[], #[.agg #[.int .u64 0, .int .i64 0], .int .i64 0, .slice none 0 0], []⟩ 8 (by kernel_rfl) (by kernel_rfl) (by kernel_rfl) (by kernel_rfl)) ?_
  intro W base args ds gs before hval0 hW hcnd hsz0 _
  have hval : ∀ (j : Nat) t v, Try.f7.params[j]? = some t → args[j]? = some v → Value.okWide Try.prog W .any base t v := hval0
  have hW' := hW
  obtain ⟨p, q, hA0, hV, rfl, hfz, hnd⟩ := hW
  have hA : DataW.TrodAll enc Try.prog W 0 (fun _ => true) true Try.f7.params.toList args.toList ds p := hA0
  rw [Try.params7] at hA hval
  have hS := hA
  obtain ⟨v0, vs0, d0, ds0, p0, q0, hargs, rfl, rfl, h0, r0⟩ := trodAll_cons hA
  obtain ⟨v1, vs1, d1, ds1, p1, q1, rfl, rfl, rfl, h1, r1⟩ := trodAll_cons r0
  obtain ⟨v2, vs2, d2, ds2, p2, q2, rfl, rfl, rfl, h2, r2⟩ := trodAll_cons r1
  obtain ⟨rfl, rfl, rfl⟩ := trodAll_nil r2
  obtain rfl : args = #[v0, v1, v2] := by cases args; simp_all
  obtain ⟨rfl, rfl⟩ := trodVars_none hV
  suffices hc : Calls Try.prog 7 #[v0, v1, v2] W fun e W' => e = .returned (.bool true) ∧ Below W.heap.size W W' by
    refine hc.mono fun e W' ⟨he, bel⟩ => ?_
    subst he
    exact ⟨_, rfl, _, _, _, [], _, [], hW', trodAll_mk1 (shut_bool Try.underlying4 _), trodAll_stays fineA bel (by decide +kernel) hS, rfl, bel.frame _, fun h => by cases h⟩
  clear hS hW' hfz hnd
  obtain ⟨cs0, rfl, hl0, hc0⟩ := open_agg (ts := [22, 3]) (by kernel_rfl) (by kernel_rfl) (by kernel_rfl) (hval 0 39 v0 rfl rfl)
  obtain ⟨x0_0, cs0_0, rfl, hl0_0⟩ := list_succ hl0
  obtain ⟨x0_1, cs0_1, rfl, hl0_1⟩ := list_succ hl0_0
  obtain rfl := list_zero hl0_1
  obtain ⟨a0_0, rfl, w0_0⟩ := cell_int (k := .u64) Try.underlying22 (hc0 0 _ _ rfl rfl)
  obtain ⟨a0_1, rfl, w0_1⟩ := cell_int (k := .i64) Try.underlying3 (hc0 1 _ _ rfl rfl)
  obtain ⟨a1, rfl, rfl, rfl, w1⟩ := open_int Try.underlying3 (hval 1 3 v1 rfl rfl) h1
  have o2 := open_row Try.underlying40 Try.underlying22 (by kernel_rfl) (hval 2 40 v2 rfl rfl) h2
  have hb := (has_u64 w0_0).1
  have ht := wf_i64 w1
  rcases o2 with ⟨x, rfl⟩ | ⟨a, len, cap, zs, rfl, h0, hle, hmx, hz, hcell, hwf⟩
  · exact toldV a0_0 a0_1 a1 hb ht _ W _ (.cons (.of_plain rfl) (.cons (.int _ _) (.cons (.slice00 _ _ _) (.nil _)))) (Sim.none noVars W _ _)
  · obtain ⟨e, hS, hsp⟩ := Sim.oneRow noVars (by omega) hcell
    obtain ⟨blk, off, spot⟩ := a
    simp only at hsp
    subst hsp
    exact told a0_0 a0_1 a1 off len cap zs e hb ht hle (by simpa [maxLen] using hmx) hz h0 _ W _ (.cons (.of_plain rfl) (.cons (.int _ _) (.cons (R.slice_row rfl) (.nil _)))) hS
theorem over : Rows.crowdActsRow.holds Try.pinned (OpenSpec.ofChange Rows.crowdActsSpec) :=
  OpenClaim.holds_of_wide 7 Try.f7 rfl rfl rfl rfl rfl rfl rfl ⟨rfl, rfl, rfl, rfl, rfl⟩ rfl rfl rfl rfl rfl (by kernel_rfl) Try.func7 (by kernel_rfl)
    (of_decide_eq_true (by kernel_rfl)) (by unfold Func.isWrapper; first | (rw [if_pos (by decide +kernel)]; kernel_rfl) | (rw [if_neg (by decide +kernel)]; exact ⟨rfl, rfl⟩))
    (fun os started H enc _ => lifted os started H enc)
end Go.Proofs.Ytmphcolclkpnnaa.crowdActs
namespace Go.Proofs.Ytmphcolclkpnnaa
/-- The row, under a short name, for the claim. -/
theorem crowdActs_holds : Rows.CrowdActsSaid := crowdActs.over
#print axioms crowdActs_holds
end Go.Proofs.Ytmphcolclkpnnaa
