/- SweepActs: the loop. -/
import Derived.Test.YtomcbblcipnabaaDoorSweepL1
import Derived.WalkKit
import Derived.ProofKit
import Derived.OpenShut
import Derived.ChangeOld
import Derived.Below
import Derived.SizedLaws
namespace Go.Proofs.YtomcbblcipnabaaDoor.sweepActs
open Go.Eng
open Go.ChangeShapes Go.WideShapes Go.ChangeAt Go.RowKit
set_option linter.unusedVariables false
set_option linter.unusedSimpArgs false
set_option maxRecDepth 100000
open Go.Proofs.YtomcbblcipnabaaDoor.sweepRef (Sw gst gstep at4 at8 gAt gOver gKind gBlk gCell gOld gNew gRes gMore gE gK gDom g_sound g_agree)
theorem fdiv8 (w : Int) : Int.fdiv w (2 ^ 3) = w / 8 := Int.fdiv_eq_ediv_of_nonneg _ (by omega)
def word (w : Int) : Prop := 0 ≤ w ∧ w < 18446744073709551616
theorem blockAR {w : Int} (hw : word w) : blockA w = blockR w := by
  unfold blockA blockR
  rw [fdiv8, Int.tdiv_eq_ediv_of_nonneg hw.1, wrap_u64_id (by have := hw.1; omega) (by have := hw.1; have := hw.2; omega)]
theorem blockR_w {w : Int} (hw : word w) : blockR w = w / 8 := by
  rw [← blockAR hw]; unfold blockA; exact fdiv8 w
theorem block_word {w : Int} (hw : word w) : word (blockR w) := by
  rw [blockR_w hw]; have := hw.1; have := hw.2; exact ⟨by omega, by omega⟩
theorem markR_w {w : Int} (hw : word w) : markR w = w % 8 := by
  unfold markR
  rw [Int.tmod_eq_emod_of_nonneg hw.1, wrap_i64_id (by omega) (by omega)]
theorem markAR {w : Int} (hw : word w) : markA w = markR w := by
  rw [markR_w hw]
  unfold markA
  rw [and7_u64, wrap_i64_id (by omega) (by omega)]
theorem holdsAR {w : Int} (hw : word w) : holdsA w = holdsR w := by
  unfold holdsA holdsR
  rw [and7_u64, wrap_i64_id (by omega) (by omega), Int.tmod_eq_emod_of_nonneg hw.1, fdiv8]
  have hw1 := hw.1
  rcases Int.lt_or_le w 8 with g | g
  · have hq : w / 8 = 0 := by omega
    have hg : ¬ w ≥ 8 := by omega
    simp only [hq, hg, bne_self_eq_false, decide_false, cond_false]
  · have hq : (w / 8 != 0) = true := by simp; omega
    have hg : decide (w ≥ 8) = true := by simp; omega
    simp only [hq, hg, cond_true]
    have hr : w % 8 = 0 ∨ w % 8 = 1 ∨ w % 8 = 2 ∨ w % 8 = 3 ∨ w % 8 = 4 ∨ w % 8 = 5 ∨ w % 8 = 6 ∨ w % 8 = 7 := by omega
    rcases hr with h | h | h | h | h | h | h | h <;> rw [h] <;> decide
theorem again1 {o : Int} (hw : word o) (hm : markR o = 0) : againA o 1 = IntKind.wrap .u64 (o + 1) := by
  rw [markR_w hw] at hm
  have := hw.1; have := hw.2
  unfold againA
  rw [fdiv8, show bits .and .i64 1 7 = 1 by decide, wrap_u64_id (n := o / 8 * 2 ^ 3) (by omega) (by omega), show IntKind.wrap .u64 1 = 1 by decide, show o / 8 * 2 ^ 3 = o by omega]
theorem make0 {k : Int} (hw : word k) : makeA (blockA k) 0 = makeR (blockR k) 0 := by
  rw [blockAR hw]
  unfold makeA makeR
  rw [show bits .and .i64 0 7 = 0 by decide, show Int.tmod 0 8 = 0 by decide, condF (by decide), show blockR k * 2 ^ 3 = 8 * blockR k by omega]
theorem slot_dm {lg sl : Int} (h0 : 0 ≤ sl) (h1 : sl < 4096) : slotV lg (IntKind.wrap .i64 (Int.tdiv sl 8)) (Int.tmod sl 8) = slotV lg (sl / 8) (sl % 8) := by
  rw [Int.tdiv_eq_ediv_of_nonneg h0, Int.tmod_eq_emod_of_nonneg h0, wrap_i64_id (by omega) (by omega)]
theorem slot_t {lg sl : Int} (h0 : 0 ≤ sl) (h1 : sl < 8 * groupsV lg) (h : (decide ((slotV lg (IntKind.wrap .i64 (Int.tdiv (IntKind.wrap .i64 (sl + 1)) 8)) 0) < 0)) = true) : ¬ sl + 1 < 8 * groupsV lg := by
  obtain ⟨b1, b2⟩ := groupsV_bounds lg
  have h := of_decide_eq_true h
  rw [wrap_i64_id (n := sl + 1) (by omega) (by omega), Int.tdiv_eq_ediv_of_nonneg (by omega), wrap_i64_id (by omega) (by omega)] at h
  unfold slotV at h
  split at h <;> omega
theorem slot_f {lg sl : Int} (h0 : 0 ≤ sl) (h1 : sl < 8 * groupsV lg) (h : (decide ((slotV lg (IntKind.wrap .i64 (Int.tdiv (IntKind.wrap .i64 (sl + 1)) 8)) 0) < 0)) = false) : sl + 1 < 8 * groupsV lg := by
  obtain ⟨b1, b2⟩ := groupsV_bounds lg
  have h := of_decide_eq_false h
  rw [wrap_i64_id (n := sl + 1) (by omega) (by omega), Int.tdiv_eq_ediv_of_nonneg (by omega), wrap_i64_id (by omega) (by omega)] at h
  unfold slotV at h
  split at h <;> omega
theorem size_big {x : Int} (h : 9 < x) : (sizeV (IntKind.wrap .i64 (if 10 < x then 10 else x)) == 0) = true := by
  rw [show (if 10 < x then 10 else x) = 10 by split <;> omega]; decide
theorem size_small {x : Int} (h : x ≤ 9) (h0 : 0 ≤ x) : (sizeV (IntKind.wrap .i64 (if 10 < x then 10 else x)) == 0) = false := by
  rw [if_neg (by omega), wrap_i64_id (by omega) (by omega)]
  have := (groupsV_pos x).2 ⟨h0, h⟩
  unfold sizeV
  rw [if_neg (by omega)]
  simp; omega
theorem nextG {ths : Int} {l : List Int} {i : Int} {G : Sw} (hi : 0 ≤ i) (h : i.toNat < l.length) (hG : gst ths (l.take (Int.toNat i)) = G) : gst ths (l.take (Int.toNat (i + 1))) = gstep ths G (l.getD (Int.toNat i) 0) := by
  have : l.take (Int.toNat (i + 1)) = l.take (Int.toNat i) ++ [l.getD (Int.toNat i) 0] := by
    rw [show Int.toNat (i + 1) = i.toNat + 1 by omega, List.take_add_one]; simp [List.getD, h]
  rw [this, ← hG]
  unfold gst
  rw [List.foldl_append]
  rfl
inductive LInv (dk th ths kp sd : Int) (pre n c : Nat) (l : List Int) (e0 e : TypeId) : Int → KSt → Prop
  | s1 (i o t lk lg sl bx f : Int) (hi : 0 ≤ i) (hin : i ≤ (n : Int)) (hf : 0 ≤ f) (hfi : f ≤ i) (hG : gst ths (l.take (Int.toNat i)) = .p1 f i) : LInv dk th ths kp sd pre n c l e0 e i (S11 pre n c i dk th ths kp sd o t lk lg sl bx f l e e0)
  | s2 (i o t lk lg sl bx f : Int) (hi : 0 ≤ i) (hin : i ≤ (n : Int)) (hf : 0 ≤ f) (hfi : f ≤ i) (ho : word o) (hm : markR o = 0) (hG : gst ths (l.take (Int.toNat i)) = .p2 o f i) : LInv dk th ths kp sd pre n c l e0 e i (S20 pre n c i dk th ths kp sd o t lk lg sl bx f l e e0)
  | s3 (i o t lk lg sl bx f : Int) (hi : 0 ≤ i) (hin : i ≤ (n : Int)) (hf : 0 ≤ f) (hfi : f ≤ i) (ho : word o) (hm : markR o = 0) (hG : gst ths (l.take (Int.toNat i)) = .p3 o f i) : LInv dk th ths kp sd pre n c l e0 e i (S29 pre n c i dk th ths kp sd o t lk lg sl bx f l e e0)
  | s4 (i o t lk lg sl bx f : Int) (hi : 0 ≤ i) (hin : i ≤ (n : Int)) (hf : 0 ≤ f) (hfi : f ≤ i) (ho : word o) (ht : 0 ≤ t) (ht2 : t < ths) (hG : gst ths (l.take (Int.toNat i)) = .p4 o t f i) : LInv dk th ths kp sd pre n c l e0 e i (S38 pre n c i dk th ths kp sd o t lk lg sl bx f l e e0)
  | s5 (i o t lk lg sl bx f : Int) (hi : 0 ≤ i) (hin : i ≤ (n : Int)) (hf : 0 ≤ f) (hfi : f ≤ i) (ho : word o) (hG : gst ths (l.take (Int.toNat i)) = .p5 o f i) : LInv dk th ths kp sd pre n c l e0 e i (S47 pre n c i dk th ths kp sd o t lk lg sl bx f l e e0)
  | s6 (i o t lk lg sl bx f : Int) (hi : 0 ≤ i) (hin : i ≤ (n : Int)) (hf : 0 ≤ f) (hfi : f ≤ i) (ho : word o) (hG : gst ths (l.take (Int.toNat i)) = .p6 o f i) : LInv dk th ths kp sd pre n c l e0 e i (S56 pre n c i dk th ths kp sd o t lk lg sl bx f l e e0)
  | s7 (i o t lk lg sl bx f : Int) (hi : 0 ≤ i) (hin : i ≤ (n : Int)) (hf : 0 ≤ f) (hfi : f ≤ i) (ho : word o) (hk : word lk) (hG : gst ths (l.take (Int.toNat i)) = .p7 o lk f i) : LInv dk th ths kp sd pre n c l e0 e i (S65 pre n c i dk th ths kp sd o t lk lg sl bx f l e e0)
  | s8 (i o t lk lg sl bx f : Int) (hi : 0 ≤ i) (hin : i ≤ (n : Int)) (hf : 0 ≤ f) (hfi : f ≤ i) (ho : word o) (hk : word lk) (hlg : 0 ≤ lg ∧ lg ≤ 9) (hs : 0 ≤ sl) (hs2 : sl < 8 * groupsV lg) (hG : gst ths (l.take (Int.toNat i)) = .p8 o lk lg sl f i) : LInv dk th ths kp sd pre n c l e0 e i (S74 pre n c i dk th ths kp sd o t lk lg sl bx f l e e0)
  | s9 (i o t lk lg sl bx f : Int) (hi : 0 ≤ i) (hin : i ≤ (n : Int)) (hf : 0 ≤ f) (hfi : f ≤ i) (ho : word o) (hk : word lk) (hlg : 0 ≤ lg ∧ lg ≤ 9) (hs : 0 ≤ sl) (hs2 : sl < 8 * groupsV lg) (hG : gst ths (l.take (Int.toNat i)) = .p9 o lk lg sl bx f i) : LInv dk th ths kp sd pre n c l e0 e i (S83 pre n c i dk th ths kp sd o t lk lg sl bx f l e e0)
  | s10 (i o t lk lg sl bx f : Int) (hi : 0 ≤ i) (hin : i ≤ (n : Int)) (hf : 0 ≤ f) (hfi : f ≤ i) (ho : word o) (hk : word lk) (hG : gst ths (l.take (Int.toNat i)) = .p10 o lk f i) : LInv dk th ths kp sd pre n c l e0 e i (S92 pre n c i dk th ths kp sd o t lk lg sl bx f l e e0)
  | s11 (i o t lk lg sl bx f : Int) (hi : 0 ≤ i) (hin : i ≤ (n : Int)) (hf : 0 ≤ f) (hfi : f ≤ i) (hk : word lk) (hG : gst ths (l.take (Int.toNat i)) = .p11 lk f i) : LInv dk th ths kp sd pre n c l e0 e i (S101 pre n c i dk th ths kp sd o t lk lg sl bx f l e e0)
  | s12 (i o t lk lg sl bx f a : Int) (hi : 0 ≤ i) (hin : i ≤ (n : Int)) (hf : 0 ≤ f) (hfi : f ≤ i) (hG : gst ths (l.take (Int.toNat i)) = .p12 f a) : LInv dk th ths kp sd pre n c l e0 e i (S110 pre n c i dk th ths kp sd o t lk lg sl bx f l e e0)
  | ov (i pp o t lk lg sl bx f : Int) (hx : (n : Int) < i) : LInv dk th ths kp sd pre n c l e0 e i (S163 pre n c i dk th ths kp sd pp o t lk lg sl bx f l e e0)

noncomputable def QE2 : Ex → St → Prop := Eng.Ends Tryd.prog Tryd.f3.results.toList fun r _ => r = .bool true
theorem qe_true {s : KSt} (h : resL Tryd.prog s.low Tryd.f3.results.toList = some [.bool true]) : QE2 .ret s.low := Ends.of h rfl
theorem lawLoop (dk th ths kp sd : Int) (pre n c : Nat) (l : List Int) (e0 e : TypeId) (hdk : 0 ≤ dk) (hlw : ∀ j, word (l.getD j 0)) (hn40 : n ≤ 90) (hc : n ≤ c) (hc2 : c ≤ 9223372036854775807) (hl : l.length = c) (hc0 : 0 < c) (hR : rightV dk th ths kp = true) (hths : 0 < ths ∧ ths ≤ 64) (i : Int) (s : KSt) (z0 : 0 ≤ i) (z1 : i ≤ (n : Int) + 1) (hI : LInv dk th ths kp sd pre n c l e0 e i s) :
    Gets Tryd.prog (KH.low ⟨2, 1, [(1, 0, .tail pre .u64 l e), (0, 0, .cells [(.int .i64 1), (.int .i64 64), (.int .i64 1), (.int .i64 64)] e0 false)]⟩) (codeAt [1, 1, 1, 1, 0, 1] B) s.low (onN (fun s => Gets Tryd.prog (KH.low ⟨2, 1, [(1, 0, .tail pre .u64 l e), (0, 0, .cells [(.int .i64 1), (.int .i64 64), (.int .i64 1), (.int .i64 64)] e0 false)]⟩) (codeAt [1, 1, 1, 1, 1] B) s (QE2)) (QE2)) := by
  rw [C1_1_1_1_0_1, C1_1_1_1_0_1_0]
  refine Gets.loopG (fun m s => ∃ i : Int, m = ((n : Int) + 1 - i).toNat ∧ 0 ≤ i ∧ i ≤ (n : Int) + 1 ∧ LInv dk th ths kp sd pre n c l e0 e i s) ?_ _ _ ⟨i, rfl, z0, z1, hI⟩
  clear z0 z1 hI s i
  rintro m s ⟨i, rfl, z0, z1, hI⟩
  cases hI with
  | s1 o t lk lg sl bx f hi hin hf hfi hG =>
    have hf2 : f ≤ 1000 := by omega
    refine c1 dk th ths kp sd 0 o t lk lg sl bx f 0 i pre n c l e0 e hdk hn40 hc hc2 hl hc0 hR hths hi hin hf hf2 (by rw [Nat.sub_zero, Nat.add_zero, Nat.sub_self, List.drop_zero]; exact hG) ?_
    by_cases hn : i < (n : Int)
    · skip
      have hx := hlw (Int.toNat i)
      have hgm : (l.getD ((Int.toNat i) * 1) 0) = (l.getD (Int.toNat i) 0) := by rw [Nat.mul_one]
      have hN := nextG hi (by omega) hG
      cases hz : ((markA (l.getD ((Int.toNat i) * 1) 0)) != 0) with
      | true =>
        have h2 : markR (l.getD (Int.toNat i) 0) ≠ 0 := by rw [← markAR hx, ← hgm]; simpa using hz
        refine t1m dk th ths kp sd 0 o t lk lg sl bx f 0 i pre n c l e0 e hi hn hn40 hc hl hths hf hf2 hz ?_
        show Gets _ _ (codeAt [1, 1, 1, 1, 0, 1, 0, 0, 1, 1] B) _ _
        refine ti dk th ths kp sd 12 ((l.getD (Int.toNat i) 0)) t lk lg sl bx f 0 i pre n c l e0 e hi hin hn40 ?_
        exact ⟨_, _, by omega, rfl, _, rfl, by omega, by omega, .s12 (i + 1) ((l.getD (Int.toNat i) 0)) t lk lg sl bx f _ (by omega) (by omega) (by omega) (by omega) (hN.trans (if_pos (.inl h2)))⟩
      | false =>
        have h2 : markR (l.getD (Int.toNat i) 0) = 0 := by rw [← markAR hx, ← hgm]; simpa using hz
        cases hy : ((blockA (l.getD ((Int.toNat i) * 1) 0)) == 0) with
        | true =>
          have h3 : blockR (l.getD (Int.toNat i) 0) = 0 := by rw [← blockAR hx, ← hgm]; exact eq_of_beq hy
          refine t1b dk th ths kp sd 0 o t lk lg sl bx f 0 i pre n c l e0 e hi hn hn40 hc hl hths hf hf2 hz hy ?_
          show Gets _ _ (codeAt [1, 1, 1, 1, 0, 1, 0, 0, 1, 1] B) _ _
          refine ti dk th ths kp sd 12 ((l.getD (Int.toNat i) 0)) t lk lg sl bx f 0 i pre n c l e0 e hi hin hn40 ?_
          exact ⟨_, _, by omega, rfl, _, rfl, by omega, by omega, .s12 (i + 1) ((l.getD (Int.toNat i) 0)) t lk lg sl bx f _ (by omega) (by omega) (by omega) (by omega) (hN.trans (if_pos (.inr h3)))⟩
        | false =>
          have h3 : blockR (l.getD (Int.toNat i) 0) ≠ 0 := by rw [← blockAR hx, ← hgm]; simpa using hy
          refine t1c dk th ths kp sd 0 o t lk lg sl bx f 0 i pre n c l e0 e hi hn hn40 hc hl hths hf hf2 hz hy ?_
          show Gets _ _ (codeAt [1, 1, 1, 1, 0, 1, 0, 0, 1, 1] B) _ _
          refine ti dk th ths kp sd 2 ((l.getD (Int.toNat i) 0)) t lk lg sl bx f 0 i pre n c l e0 e hi hin hn40 ?_
          exact ⟨_, _, by omega, rfl, _, rfl, by omega, by omega, .s2 (i + 1) ((l.getD (Int.toNat i) 0)) t lk lg sl bx f (by omega) (by omega) (by omega) (by omega) hx h2 (hN.trans (if_neg (fun h => h.elim (fun h => h h2) h3)))⟩
    · refine te dk th ths kp sd 1 o t lk lg sl bx f 0 i pre n c l e0 e (by omega) hn40 ?_
      show Gets _ _ (codeAt [1, 1, 1, 1, 0, 1, 0, 0, 1, 1] B) _ _
      refine ti dk th ths kp sd 1 o t lk lg sl bx f 0 i pre n c l e0 e hi hin hn40 ?_
      exact ⟨_, _, by omega, rfl, _, rfl, by omega, by omega, .ov (i + 1) 1 o t lk lg sl bx f (by omega)⟩
  | s2 o t lk lg sl bx f hi hin hf hfi ho hm hG =>
    have hf2 : f ≤ 1000 := by omega
    refine c2 dk th ths kp sd 0 o t lk lg sl bx f 0 i pre n c l e0 e hdk hn40 hc hc2 hl hc0 hR hths hi hin hf hf2 (by rw [Nat.sub_zero, Nat.add_zero, Nat.sub_self, List.drop_zero]; exact hG) ?_
    by_cases hn : i < (n : Int)
    · skip
      have hx := hlw (Int.toNat i)
      have hgm : (l.getD ((Int.toNat i) * 1) 0) = (l.getD (Int.toNat i) 0) := by rw [Nat.mul_one]
      have hN := nextG hi (by omega) hG
      cases hz : ((l.getD ((Int.toNat i) * 1) 0) == (blockA o)) with
      | true =>
        have h2 : (l.getD (Int.toNat i) 0) = blockR o := by rw [← blockAR ho, ← hgm]; exact eq_of_beq hz
        refine t2q dk th ths kp sd 0 o t lk lg sl bx f 0 i pre n c l e0 e hi hn hn40 hc hl hths hf hf2 hz ?_
        show Gets _ _ (codeAt [1, 1, 1, 1, 0, 1, 0, 0, 1, 1] B) _ _
        refine ti dk th ths kp sd 12 o t lk lg sl bx f 0 i pre n c l e0 e hi hin hn40 ?_
        exact ⟨_, _, by omega, rfl, _, rfl, by omega, by omega, .s12 (i + 1) o t lk lg sl bx f _ (by omega) (by omega) (by omega) (by omega) (hN.trans (if_pos h2))⟩
      | false =>
        have h2 : ¬ (l.getD (Int.toNat i) 0) = blockR o := by rw [← blockAR ho, ← hgm]; simpa using hz
        refine t2c dk th ths kp sd 0 o t lk lg sl bx f 0 i pre n c l e0 e hi hn hn40 hc hl hths hf hf2 hz ?_
        show Gets _ _ (codeAt [1, 1, 1, 1, 0, 1, 0, 0, 1, 1] B) _ _
        refine ti dk th ths kp sd 3 o t lk lg sl bx f 0 i pre n c l e0 e hi hin hn40 ?_
        exact ⟨_, _, by omega, rfl, _, rfl, by omega, by omega, .s3 (i + 1) o t lk lg sl bx f (by omega) (by omega) (by omega) (by omega) ho hm (hN.trans (if_neg h2))⟩
    · refine te dk th ths kp sd 2 o t lk lg sl bx f 0 i pre n c l e0 e (by omega) hn40 ?_
      show Gets _ _ (codeAt [1, 1, 1, 1, 0, 1, 0, 0, 1, 1] B) _ _
      refine ti dk th ths kp sd 2 o t lk lg sl bx f 0 i pre n c l e0 e hi hin hn40 ?_
      exact ⟨_, _, by omega, rfl, _, rfl, by omega, by omega, .ov (i + 1) 2 o t lk lg sl bx f (by omega)⟩
  | s3 o t lk lg sl bx f hi hin hf hfi ho hm hG =>
    have hf2 : f ≤ 1000 := by omega
    refine c3 dk th ths kp sd 0 o t lk lg sl bx f 0 i pre n c l e0 e hdk hn40 hc hc2 hl hc0 hR hths hi hin hf hf2 (by rw [Nat.sub_zero, Nat.add_zero, Nat.sub_self, List.drop_zero]; exact hG) (again1 ho hm) ?_
    by_cases hn : i < (n : Int)
    · skip
      have hx := hlw (Int.toNat i)
      have hgm : (l.getD ((Int.toNat i) * 1) 0) = (l.getD (Int.toNat i) 0) := by rw [Nat.mul_one]
      have hN := nextG hi (by omega) hG
      cases hz : ((l.getD ((Int.toNat i) * 1) 0) != o) with
      | true =>
        have h2 : (l.getD (Int.toNat i) 0) ≠ o := by rw [← hgm]; simpa using hz
        refine t3q dk th ths kp sd 0 o t lk lg sl bx f 0 i pre n c l e0 e hi hn hn40 hc hl hths hf hf2 hz ?_
        show Gets _ _ (codeAt [1, 1, 1, 1, 0, 1, 0, 0, 1, 1] B) _ _
        refine ti dk th ths kp sd 12 o 0 lk lg sl bx f 0 i pre n c l e0 e hi hin hn40 ?_
        exact ⟨_, _, by omega, rfl, _, rfl, by omega, by omega, .s12 (i + 1) o 0 lk lg sl bx f _ (by omega) (by omega) (by omega) (by omega) (hN.trans (if_pos h2))⟩
      | false =>
        have h2 : ¬ (l.getD (Int.toNat i) 0) ≠ o := by rw [← hgm]; simpa using hz
        refine t3c dk th ths kp sd 0 o t lk lg sl bx f 0 i pre n c l e0 e hi hn hn40 hc hl hths hf hf2 hz ?_
        show Gets _ _ (codeAt [1, 1, 1, 1, 0, 1, 0, 0, 1, 1] B) _ _
        refine ti dk th ths kp sd 4 o 0 lk lg sl bx f 0 i pre n c l e0 e hi hin hn40 ?_
        exact ⟨_, _, by omega, rfl, _, rfl, by omega, by omega, .s4 (i + 1) o 0 lk lg sl bx f (by omega) (by omega) (by omega) (by omega) ho (by omega) (by omega) ((hN.trans (if_neg h2)).trans (if_pos (by omega)))⟩
    · refine te dk th ths kp sd 3 o t lk lg sl bx f 0 i pre n c l e0 e (by omega) hn40 ?_
      show Gets _ _ (codeAt [1, 1, 1, 1, 0, 1, 0, 0, 1, 1] B) _ _
      refine ti dk th ths kp sd 3 o t lk lg sl bx f 0 i pre n c l e0 e hi hin hn40 ?_
      exact ⟨_, _, by omega, rfl, _, rfl, by omega, by omega, .ov (i + 1) 3 o t lk lg sl bx f (by omega)⟩
  | s4 o t lk lg sl bx f hi hin hf hfi ho ht ht2 hG =>
    have hf2 : f ≤ 1000 := by omega
    refine c4 dk th ths kp sd 0 o t lk lg sl bx f 0 i pre n c l e0 e hdk hn40 hc hc2 hl hc0 hR hths hi hin hf hf2 (by rw [Nat.sub_zero, Nat.add_zero, Nat.sub_self, List.drop_zero]; exact hG) ?_
    by_cases hn : i < (n : Int)
    · skip
      have hx := hlw (Int.toNat i)
      have hgm : (l.getD ((Int.toNat i) * 1) 0) = (l.getD (Int.toNat i) 0) := by rw [Nat.mul_one]
      have hN := nextG hi (by omega) hG
      cases hz : ((l.getD ((Int.toNat i) * 1) 0) == (blockA o)) with
      | true =>
        have h2 : (l.getD (Int.toNat i) 0) = blockR o := by rw [← blockAR ho, ← hgm]; exact eq_of_beq hz
        by_cases h3 : t + 1 = ths
        · have h4 := h3
          refine t4b2 dk th ths kp sd 0 o t lk lg sl bx f 0 i pre n c l e0 e hi hn hn40 hc hl hths hf hf2 ht h3 hz ?_
          show Gets _ _ (codeAt [1, 1, 1, 1, 0, 1, 0, 0, 1, 1] B) _ _
          refine ti dk th ths kp sd 5 o (t + 1) lk lg sl bx f 0 i pre n c l e0 e hi hin hn40 ?_
          exact ⟨_, _, by omega, rfl, _, rfl, by omega, by omega, .s5 (i + 1) o (t + 1) lk lg sl bx f (by omega) (by omega) (by omega) (by omega) ho (hN.trans (if_pos h2))⟩
        · have h4 := h3
          refine t4b dk th ths kp sd 0 o t lk lg sl bx f 0 i pre n c l e0 e hi hn hn40 hc hl hths hf hf2 ht (by omega) hz ?_
          show Gets _ _ (codeAt [1, 1, 1, 1, 0, 1, 0, 0, 1, 1] B) _ _
          refine ti dk th ths kp sd 5 o (t + 1) lk lg sl bx f 0 i pre n c l e0 e hi hin hn40 ?_
          exact ⟨_, _, by omega, rfl, _, rfl, by omega, by omega, .s5 (i + 1) o (t + 1) lk lg sl bx f (by omega) (by omega) (by omega) (by omega) ho (hN.trans (if_pos h2))⟩
      | false =>
        have h2 : ¬ (l.getD (Int.toNat i) 0) = blockR o := by rw [← blockAR ho, ← hgm]; simpa using hz
        by_cases h3 : t + 1 = ths
        · have h4 := h3
          refine t4z dk th ths kp sd 0 o t lk lg sl bx f 0 i pre n c l e0 e hi hn hn40 hc hl hths hf hf2 ht h3 hz ?_
          show Gets _ _ (codeAt [1, 1, 1, 1, 0, 1, 0, 0, 1, 1] B) _ _
          refine ti dk th ths kp sd 6 o (t + 1) lk lg sl bx f 0 i pre n c l e0 e hi hin hn40 ?_
          exact ⟨_, _, by omega, rfl, _, rfl, by omega, by omega, .s6 (i + 1) o (t + 1) lk lg sl bx f (by omega) (by omega) (by omega) (by omega) ho ((hN.trans (if_neg h2)).trans (if_neg (by omega)))⟩
        · have h4 := h3
          refine t4c dk th ths kp sd 0 o t lk lg sl bx f 0 i pre n c l e0 e hi hn hn40 hc hl hths hf hf2 ht (by omega) hz ?_
          show Gets _ _ (codeAt [1, 1, 1, 1, 0, 1, 0, 0, 1, 1] B) _ _
          refine ti dk th ths kp sd 4 o (t + 1) lk lg sl bx f 0 i pre n c l e0 e hi hin hn40 ?_
          exact ⟨_, _, by omega, rfl, _, rfl, by omega, by omega, .s4 (i + 1) o (t + 1) lk lg sl bx f (by omega) (by omega) (by omega) (by omega) ho (by omega) (by omega) ((hN.trans (if_neg h2)).trans (if_pos (by omega)))⟩
    · refine te dk th ths kp sd 4 o t lk lg sl bx f 0 i pre n c l e0 e (by omega) hn40 ?_
      show Gets _ _ (codeAt [1, 1, 1, 1, 0, 1, 0, 0, 1, 1] B) _ _
      refine ti dk th ths kp sd 4 o t lk lg sl bx f 0 i pre n c l e0 e hi hin hn40 ?_
      exact ⟨_, _, by omega, rfl, _, rfl, by omega, by omega, .ov (i + 1) 4 o t lk lg sl bx f (by omega)⟩
  | s5 o t lk lg sl bx f hi hin hf hfi ho hG =>
    have hf2 : f ≤ 1000 := by omega
    refine c5 dk th ths kp sd 0 o t lk lg sl bx f 0 i pre n c l e0 e hdk hn40 hc hc2 hl hc0 hR hths hi hin hf hf2 (by rw [Nat.sub_zero, Nat.add_zero, Nat.sub_self, List.drop_zero]; exact hG) ?_
    by_cases hn : i < (n : Int)
    · skip
      have hx := hlw (Int.toNat i)
      have hgm : (l.getD ((Int.toNat i) * 1) 0) = (l.getD (Int.toNat i) 0) := by rw [Nat.mul_one]
      have hN := nextG hi (by omega) hG
      refine t5c dk th ths kp sd 0 o t lk lg sl bx f 0 i pre n c l e0 e hi hn hn40 hc hl hths hf hf2  ?_
      show Gets _ _ (codeAt [1, 1, 1, 1, 0, 1, 0, 0, 1, 1] B) _ _
      refine ti dk th ths kp sd 12 o t lk lg sl bx f 0 i pre n c l e0 e hi hin hn40 ?_
      exact ⟨_, _, by omega, rfl, _, rfl, by omega, by omega, .s12 (i + 1) o t lk lg sl bx f _ (by omega) (by omega) (by omega) (by omega) (hN)⟩
    · refine te dk th ths kp sd 5 o t lk lg sl bx f 0 i pre n c l e0 e (by omega) hn40 ?_
      show Gets _ _ (codeAt [1, 1, 1, 1, 0, 1, 0, 0, 1, 1] B) _ _
      refine ti dk th ths kp sd 5 o t lk lg sl bx f 0 i pre n c l e0 e hi hin hn40 ?_
      exact ⟨_, _, by omega, rfl, _, rfl, by omega, by omega, .ov (i + 1) 5 o t lk lg sl bx f (by omega)⟩
  | s6 o t lk lg sl bx f hi hin hf hfi ho hG =>
    have hf2 : f ≤ 1000 := by omega
    refine c6 dk th ths kp sd 0 o t lk lg sl bx f 0 i pre n c l e0 e hdk hn40 hc hc2 hl hc0 hR hths hi hin hf hf2 (by rw [Nat.sub_zero, Nat.add_zero, Nat.sub_self, List.drop_zero]; exact hG) (blockAR ho) ?_
    by_cases hn : i < (n : Int)
    · skip
      have hx := hlw (Int.toNat i)
      have hgm : (l.getD ((Int.toNat i) * 1) 0) = (l.getD (Int.toNat i) 0) := by rw [Nat.mul_one]
      have hN := nextG hi (by omega) hG
      refine t6c dk th ths kp sd 0 o t lk lg sl bx f 0 i pre n c l e0 e hi hn hn40 hc hl hths hf hf2  ?_
      show Gets _ _ (codeAt [1, 1, 1, 1, 0, 1, 0, 0, 1, 1] B) _ _
      refine ti dk th ths kp sd 7 o t ((l.getD (Int.toNat i) 0)) lg sl bx f 0 i pre n c l e0 e hi hin hn40 ?_
      exact ⟨_, _, by omega, rfl, _, rfl, by omega, by omega, .s7 (i + 1) o t ((l.getD (Int.toNat i) 0)) lg sl bx f (by omega) (by omega) (by omega) (by omega) ho hx (hN)⟩
    · refine te dk th ths kp sd 6 o t lk lg sl bx f 0 i pre n c l e0 e (by omega) hn40 ?_
      show Gets _ _ (codeAt [1, 1, 1, 1, 0, 1, 0, 0, 1, 1] B) _ _
      refine ti dk th ths kp sd 6 o t lk lg sl bx f 0 i pre n c l e0 e hi hin hn40 ?_
      exact ⟨_, _, by omega, rfl, _, rfl, by omega, by omega, .ov (i + 1) 6 o t lk lg sl bx f (by omega)⟩
  | s7 o t lk lg sl bx f hi hin hf hfi ho hk hG =>
    have hf2 : f ≤ 1000 := by omega
    refine c7 dk th ths kp sd 0 o t lk lg sl bx f 0 i pre n c l e0 e hdk hn40 hc hc2 hl hc0 hR hths hi hin hf hf2 (by rw [Nat.sub_zero, Nat.add_zero, Nat.sub_self, List.drop_zero]; exact hG) (blockAR ho) ?_
    by_cases hn : i < (n : Int)
    · skip
      have hx := hlw (Int.toNat i)
      have hgm : (l.getD ((Int.toNat i) * 1) 0) = (l.getD (Int.toNat i) 0) := by rw [Nat.mul_one]
      have hN := nextG hi (by omega) hG
      by_cases hg : 9 < (l.getD (Int.toNat i) 0)
      · have hz := size_big (x := (l.getD ((Int.toNat i) * 1) 0)) (by rw [hgm]; exact hg)
        refine t7g dk th ths kp sd 0 o t lk lg sl bx f 0 i pre n c l e0 e hi hn hn40 hc hl hths hf hf2 hg hz ?_
        show Gets _ _ (codeAt [1, 1, 1, 1, 0, 1, 0, 0, 1, 1] B) _ _
        refine ti dk th ths kp sd 5 o t lk (IntKind.wrap .i64 (if 10 < (l.getD (Int.toNat i) 0) then 10 else (l.getD (Int.toNat i) 0))) 0 bx f 0 i pre n c l e0 e hi hin hn40 ?_
        exact ⟨_, _, by omega, rfl, _, rfl, by omega, by omega, .s5 (i + 1) o t lk (IntKind.wrap .i64 (if 10 < (l.getD (Int.toNat i) 0) then 10 else (l.getD (Int.toNat i) 0))) 0 bx f (by omega) (by omega) (by omega) (by omega) ho (hN.trans (if_pos hg))⟩
      · have hg0 := hx.1
        have hz := size_small (x := (l.getD ((Int.toNat i) * 1) 0)) (by rw [hgm]; omega) (by rw [hgm]; exact hg0)
        have hlg : IntKind.wrap .i64 (if 10 < (l.getD (Int.toNat i) 0) then 10 else (l.getD (Int.toNat i) 0)) = (l.getD (Int.toNat i) 0) := by rw [if_neg (by omega), wrap_i64_id (by omega) (by omega)]
        have hp := (groupsV_pos (l.getD (Int.toNat i) 0)).2 ⟨hg0, by omega⟩
        refine t7c dk th ths kp sd 0 o t lk lg sl bx f 0 i pre n c l e0 e hi hn hn40 hc hl hths hf hf2 (by omega) hg0 hz ?_
        show Gets _ _ (codeAt [1, 1, 1, 1, 0, 1, 0, 0, 1, 1] B) _ _
        refine ti dk th ths kp sd 8 o t lk (IntKind.wrap .i64 (if 10 < (l.getD (Int.toNat i) 0) then 10 else (l.getD (Int.toNat i) 0))) 0 bx f 0 i pre n c l e0 e hi hin hn40 ?_
        exact ⟨_, _, by omega, rfl, _, rfl, by omega, by omega, .s8 (i + 1) o t lk (IntKind.wrap .i64 (if 10 < (l.getD (Int.toNat i) 0) then 10 else (l.getD (Int.toNat i) 0))) 0 bx f (by omega) (by omega) (by omega) (by omega) ho hk (by rw [hlg]; omega) (by omega) (by rw [hlg]; omega) (by rw [hlg]; exact (hN.trans (if_neg hg)).trans (by rw [wrap_i64_id (by omega) (by omega)]; exact if_pos (by omega)))⟩
    · refine te dk th ths kp sd 7 o t lk lg sl bx f 0 i pre n c l e0 e (by omega) hn40 ?_
      show Gets _ _ (codeAt [1, 1, 1, 1, 0, 1, 0, 0, 1, 1] B) _ _
      refine ti dk th ths kp sd 7 o t lk lg sl bx f 0 i pre n c l e0 e hi hin hn40 ?_
      exact ⟨_, _, by omega, rfl, _, rfl, by omega, by omega, .ov (i + 1) 7 o t lk lg sl bx f (by omega)⟩
  | s8 o t lk lg sl bx f hi hin hf hfi ho hk hlg hs hs2 hG =>
    have hf2 : f ≤ 1000 := by omega
    refine c8 dk th ths kp sd 0 o t lk lg sl bx f 0 i pre n c l e0 e hdk hn40 hc hc2 hl hc0 hR hths hi hin hf hf2 (by rw [Nat.sub_zero, Nat.add_zero, Nat.sub_self, List.drop_zero]; exact hG) (blockAR ho) (slot_dm hs (by have := (groupsV_bounds lg).2; omega)) ?_
    by_cases hn : i < (n : Int)
    · skip
      have hx := hlw (Int.toNat i)
      have hgm : (l.getD ((Int.toNat i) * 1) 0) = (l.getD (Int.toNat i) 0) := by rw [Nat.mul_one]
      have hN := nextG hi (by omega) hG
      obtain ⟨b1, b2⟩ := groupsV_bounds lg
      cases hz : (holdsA (l.getD ((Int.toNat i) * 1) 0)) with
      | true =>
        have h2 : holdsR (l.getD (Int.toNat i) 0) = true := by rw [← holdsAR hx, ← hgm]; exact hz
        refine t8h dk th ths kp sd 0 o t lk lg sl bx f 0 i pre n c l e0 e hi hn hn40 hc hl hths hf hf2 hz ?_
        show Gets _ _ (codeAt [1, 1, 1, 1, 0, 1, 0, 0, 1, 1] B) _ _
        refine ti dk th ths kp sd 9 o t lk lg sl (blockA (l.getD (Int.toNat i) 0)) f 0 i pre n c l e0 e hi hin hn40 ?_
        exact ⟨_, _, by omega, rfl, _, rfl, by omega, by omega, .s9 (i + 1) o t lk lg sl (blockA (l.getD (Int.toNat i) 0)) f (by omega) (by omega) (by omega) (by omega) ho hk hlg hs hs2 (by rw [blockAR hx]; exact hN.trans (if_pos h2))⟩
      | false =>
        have h2 : ¬ holdsR (l.getD (Int.toNat i) 0) = true := by rw [← holdsAR hx, ← hgm, hz]; decide
        cases hq : (decide ((slotV lg (IntKind.wrap .i64 (Int.tdiv (IntKind.wrap .i64 (sl + 1)) 8)) 0) < 0)) with
        | true =>
          have h3 := slot_t hs hs2 hq
          refine t8z dk th ths kp sd 0 o t lk lg sl bx f 0 i pre n c l e0 e hi hn hn40 hc hl hths hf hf2 hs (by omega) hz hq ?_
          show Gets _ _ (codeAt [1, 1, 1, 1, 0, 1, 0, 0, 1, 1] B) _ _
          refine ti dk th ths kp sd 10 o t lk lg (sl + 1) bx f 0 i pre n c l e0 e hi hin hn40 ?_
          exact ⟨_, _, by omega, rfl, _, rfl, by omega, by omega, .s10 (i + 1) o t lk lg (sl + 1) bx f (by omega) (by omega) (by omega) (by omega) ho hk ((hN.trans (if_neg h2)).trans (if_neg h3))⟩
        | false =>
          have h3 := slot_f hs hs2 hq
          refine t8c dk th ths kp sd 0 o t lk lg sl bx f 0 i pre n c l e0 e hi hn hn40 hc hl hths hf hf2 hs (by omega) hz hq ?_
          show Gets _ _ (codeAt [1, 1, 1, 1, 0, 1, 0, 0, 1, 1] B) _ _
          refine ti dk th ths kp sd 8 o t lk lg (sl + 1) bx f 0 i pre n c l e0 e hi hin hn40 ?_
          exact ⟨_, _, by omega, rfl, _, rfl, by omega, by omega, .s8 (i + 1) o t lk lg (sl + 1) bx f (by omega) (by omega) (by omega) (by omega) ho hk hlg (by omega) h3 ((hN.trans (if_neg h2)).trans (if_pos h3))⟩
    · refine te dk th ths kp sd 8 o t lk lg sl bx f 0 i pre n c l e0 e (by omega) hn40 ?_
      show Gets _ _ (codeAt [1, 1, 1, 1, 0, 1, 0, 0, 1, 1] B) _ _
      refine ti dk th ths kp sd 8 o t lk lg sl bx f 0 i pre n c l e0 e hi hin hn40 ?_
      exact ⟨_, _, by omega, rfl, _, rfl, by omega, by omega, .ov (i + 1) 8 o t lk lg sl bx f (by omega)⟩
  | s9 o t lk lg sl bx f hi hin hf hfi ho hk hlg hs hs2 hG =>
    have hf2 : f ≤ 1000 := by omega
    refine c9 dk th ths kp sd 0 o t lk lg sl bx f 0 i pre n c l e0 e hdk hn40 hc hc2 hl hc0 hR hths hi hin hf hf2 (by rw [Nat.sub_zero, Nat.add_zero, Nat.sub_self, List.drop_zero]; exact hG) ?_
    by_cases hn : i < (n : Int)
    · skip
      have hx := hlw (Int.toNat i)
      have hgm : (l.getD ((Int.toNat i) * 1) 0) = (l.getD (Int.toNat i) 0) := by rw [Nat.mul_one]
      have hN := nextG hi (by omega) hG
      obtain ⟨b1, b2⟩ := groupsV_bounds lg
      cases hq : (decide ((slotV lg (IntKind.wrap .i64 (Int.tdiv (IntKind.wrap .i64 (sl + 1)) 8)) 0) < 0)) with
      | true =>
        have h3 := slot_t hs hs2 hq
        refine t9z dk th ths kp sd 0 o t lk lg sl bx f 0 i pre n c l e0 e hi hn hn40 hc hl hths hf hf2 hs (by omega) hq ?_
        show Gets _ _ (codeAt [1, 1, 1, 1, 0, 1, 0, 0, 1, 1] B) _ _
        refine ti dk th ths kp sd 10 o t lk lg (sl + 1) bx f 0 i pre n c l e0 e hi hin hn40 ?_
        exact ⟨_, _, by omega, rfl, _, rfl, by omega, by omega, .s10 (i + 1) o t lk lg (sl + 1) bx f (by omega) (by omega) (by omega) (by omega) ho hk (hN.trans (if_neg h3))⟩
      | false =>
        have h3 := slot_f hs hs2 hq
        refine t9c dk th ths kp sd 0 o t lk lg sl bx f 0 i pre n c l e0 e hi hn hn40 hc hl hths hf hf2 hs (by omega) hq ?_
        show Gets _ _ (codeAt [1, 1, 1, 1, 0, 1, 0, 0, 1, 1] B) _ _
        refine ti dk th ths kp sd 8 o t lk lg (sl + 1) bx f 0 i pre n c l e0 e hi hin hn40 ?_
        exact ⟨_, _, by omega, rfl, _, rfl, by omega, by omega, .s8 (i + 1) o t lk lg (sl + 1) bx f (by omega) (by omega) (by omega) (by omega) ho hk hlg (by omega) h3 (hN.trans (if_pos h3))⟩
    · refine te dk th ths kp sd 9 o t lk lg sl bx f 0 i pre n c l e0 e (by omega) hn40 ?_
      show Gets _ _ (codeAt [1, 1, 1, 1, 0, 1, 0, 0, 1, 1] B) _ _
      refine ti dk th ths kp sd 9 o t lk lg sl bx f 0 i pre n c l e0 e hi hin hn40 ?_
      exact ⟨_, _, by omega, rfl, _, rfl, by omega, by omega, .ov (i + 1) 9 o t lk lg sl bx f (by omega)⟩
  | s10 o t lk lg sl bx f hi hin hf hfi ho hk hG =>
    have hf2 : f ≤ 1000 := by omega
    refine c10 dk th ths kp sd 0 o t lk lg sl bx f 0 i pre n c l e0 e hdk hn40 hc hc2 hl hc0 hR hths hi hin hf hf2 (by rw [Nat.sub_zero, Nat.add_zero, Nat.sub_self, List.drop_zero]; exact hG) (blockAR ho) ?_
    by_cases hn : i < (n : Int)
    · skip
      have hx := hlw (Int.toNat i)
      have hgm : (l.getD ((Int.toNat i) * 1) 0) = (l.getD (Int.toNat i) 0) := by rw [Nat.mul_one]
      have hN := nextG hi (by omega) hG
      refine t10c dk th ths kp sd 0 o t lk lg sl bx f 0 i pre n c l e0 e hi hn hn40 hc hl hths hf hf2  ?_
      show Gets _ _ (codeAt [1, 1, 1, 1, 0, 1, 0, 0, 1, 1] B) _ _
      refine ti dk th ths kp sd 11 o t lk lg sl bx f 0 i pre n c l e0 e hi hin hn40 ?_
      exact ⟨_, _, by omega, rfl, _, rfl, by omega, by omega, .s11 (i + 1) o t lk lg sl bx f (by omega) (by omega) (by omega) (by omega) hk (hN)⟩
    · refine te dk th ths kp sd 10 o t lk lg sl bx f 0 i pre n c l e0 e (by omega) hn40 ?_
      show Gets _ _ (codeAt [1, 1, 1, 1, 0, 1, 0, 0, 1, 1] B) _ _
      refine ti dk th ths kp sd 10 o t lk lg sl bx f 0 i pre n c l e0 e hi hin hn40 ?_
      exact ⟨_, _, by omega, rfl, _, rfl, by omega, by omega, .ov (i + 1) 10 o t lk lg sl bx f (by omega)⟩
  | s11 o t lk lg sl bx f hi hin hf hfi hk hG =>
    have hf2 : f ≤ 1000 := by omega
    refine c11 dk th ths kp sd 0 o t lk lg sl bx f 0 i pre n c l e0 e hdk hn40 hc hc2 hl hc0 hR hths hi hin hf hf2 (by rw [Nat.sub_zero, Nat.add_zero, Nat.sub_self, List.drop_zero]; exact hG) (make0 hk) ?_
    by_cases hn : i < (n : Int)
    · skip
      have hx := hlw (Int.toNat i)
      have hgm : (l.getD ((Int.toNat i) * 1) 0) = (l.getD (Int.toNat i) 0) := by rw [Nat.mul_one]
      have hN := nextG hi (by omega) hG
      refine t11c dk th ths kp sd 0 o t lk lg sl bx f 0 i pre n c l e0 e hi hn hn40 hc hl hths hf hf2  ?_
      show Gets _ _ (codeAt [1, 1, 1, 1, 0, 1, 0, 0, 1, 1] B) _ _
      refine ti dk th ths kp sd 1 o t lk lg sl bx (f + 1) 0 i pre n c l e0 e hi hin hn40 ?_
      exact ⟨_, _, by omega, rfl, _, rfl, by omega, by omega, .s1 (i + 1) o t lk lg sl bx (f + 1) (by omega) (by omega) (by omega) (by omega) (hN)⟩
    · refine te dk th ths kp sd 11 o t lk lg sl bx f 0 i pre n c l e0 e (by omega) hn40 ?_
      show Gets _ _ (codeAt [1, 1, 1, 1, 0, 1, 0, 0, 1, 1] B) _ _
      refine ti dk th ths kp sd 11 o t lk lg sl bx f 0 i pre n c l e0 e hi hin hn40 ?_
      exact ⟨_, _, by omega, rfl, _, rfl, by omega, by omega, .ov (i + 1) 11 o t lk lg sl bx f (by omega)⟩
  | s12 o t lk lg sl bx f a hi hin hf hfi hG =>
    have hf2 : f ≤ 1000 := by omega
    refine c12 dk th ths kp sd 0 o t lk lg sl bx f a i pre n c l e0 e hdk hn40 hc hc2 hl hc0 hR hths hi hin hf hf2 (by rw [Nat.sub_zero, Nat.add_zero, Nat.sub_self, List.drop_zero]; exact hG) ?_
    by_cases hn : i < (n : Int)
    · skip
      have hx := hlw (Int.toNat i)
      have hgm : (l.getD ((Int.toNat i) * 1) 0) = (l.getD (Int.toNat i) 0) := by rw [Nat.mul_one]
      have hN := nextG hi (by omega) hG
      refine t12c dk th ths kp sd 0 o t lk lg sl bx f 0 i pre n c l e0 e hi hn hn40 hc hl hths hf hf2  ?_
      show Gets _ _ (codeAt [1, 1, 1, 1, 0, 1, 0, 0, 1, 1] B) _ _
      refine ti dk th ths kp sd 12 o t lk lg sl bx f 0 i pre n c l e0 e hi hin hn40 ?_
      exact ⟨_, _, by omega, rfl, _, rfl, by omega, by omega, .s12 (i + 1) o t lk lg sl bx f _ (by omega) (by omega) (by omega) (by omega) (hN)⟩
    · refine te dk th ths kp sd 12 o t lk lg sl bx f 0 i pre n c l e0 e (by omega) hn40 ?_
      show Gets _ _ (codeAt [1, 1, 1, 1, 0, 1, 0, 0, 1, 1] B) _ _
      refine ti dk th ths kp sd 12 o t lk lg sl bx f 0 i pre n c l e0 e hi hin hn40 ?_
      exact ⟨_, _, by omega, rfl, _, rfl, by omega, by omega, .ov (i + 1) 12 o t lk lg sl bx f (by omega)⟩
  | ov pp o t lk lg sl bx f hx =>
    refine xo dk th ths kp sd pp o t lk lg sl bx f 0 i pre n c l e0 e hx ?_
    refine ⟨fun _ => ?_, fun h => by cases h⟩
    exact fx dk th ths kp sd pp o t lk lg sl bx f 0 i pre n c l e0 e (qe_true (by kernel_rfl))
theorem right_ths {dk th ths kp : Int} (h : rightV dk th ths kp = true) : 0 < ths ∧ ths ≤ 64 := by
  have h := of_decide_eq_true h
  omega
theorem told (dk th ths kp sd : Int) (pre n c : Nat) (l : List Int) (e0 e : TypeId) (hdk : 0 ≤ dk) (hlw : ∀ j, word (l.getD j 0)) (hc : n ≤ c) (hc2 : c ≤ 9223372036854775807) (hl : l.length = c) (hc0 : 0 < c) :
    Tells Tryd.prog 3 [.agg #[.int .u64 dk, .int .i64 th, .int .i64 ths, .int .i64 kp, .int .u64 sd], .slice (some ⟨1, pre, none⟩) n c] (varRow .i64 [1, 64, 1, 64] e0 pre .u64 l e).low (.bool true) := by
  refine Gets.tells Tryd.func3 B_is (by rw [oneVar]; exact (show (1 : Nat) ≤ 2 by decide)) rfl ?_ Ro.varRow
  show Gets Tryd.prog (KH.low ⟨2, 1, [(1, 0, .tail pre .u64 l e), (0, 0, .cells [(.int .i64 1), (.int .i64 64), (.int .i64 1), (.int .i64 64)] e0 false)]⟩) B (KSt.low (S0 dk th ths kp sd pre n c l e e0)) QE2
  by_cases hn : 90 < n
  · exact r20 dk th ths kp sd 0 0 0 0 0 0 0 0 0 0 pre n c l e0 e hn (qe_true (by kernel_rfl))
  have hn40 : n ≤ 90 := by omega
  cases hR : rightV dk th ths kp with
  | false => exact bad dk th ths kp sd 0 0 0 0 0 0 0 0 0 0 pre n c l e0 e hdk hn40 hc hc2 hl hc0 hR (qe_true (by kernel_rfl))
  | true =>
    have hths := right_ths hR
    refine good dk th ths kp sd 0 0 0 0 0 0 0 0 0 0 pre n c l e0 e hdk hn40 hc hc2 hl hc0 hR hths ?_
    exact lawLoop dk th ths kp sd pre n c l e0 e hdk hlw hn40 hc hc2 hl hc0 hR hths 0 _ (by omega) (by omega) (.s1 0 0 0 0 0 0 0 0 (by omega) (by omega) (by omega) (by omega) (by rfl))

end Go.Proofs.YtomcbblcipnabaaDoor.sweepActs
