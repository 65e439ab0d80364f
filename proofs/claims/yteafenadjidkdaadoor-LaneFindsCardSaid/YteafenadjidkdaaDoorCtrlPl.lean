/- The next place: as looked for one by one. -/
import Derived.Test.YteafenadjidkdaaDoorCtrl
import Derived.WalkKit
import Derived.ProofKit
import Derived.OpenShut
import Derived.ChangeOld
import Derived.Below
import Derived.SizedLaws
namespace Go.Proofs.YteafenadjidkdaaDoor.ctrls
open Go.Eng
open Go.ChangeShapes Go.WideShapes Go.ChangeAt Go.RowKit
set_option linter.unusedVariables false
set_option linter.unusedSimpArgs false
set_option maxRecDepth 100000
def word (w : Int) : Prop := 0 ≤ w ∧ w < 18446744073709551616
def candM (w c : Int) : Int := if 128 ≤ c ∧ c ≤ 255 then bits .or .u64 (bits .or .u64 (bits .or .u64 0 (matchW w 0)) (matchW w 1)) (matchW w c) else bits .or .u64 (bits .or .u64 0 (matchW w 0)) (matchW w 1)
def maskM (m fr : Int) : Int := bits .and .u64 m (IntKind.wrap .u64 (18446744073709551615 * (2 ^ (min (Int.toNat ((IntKind.wrap .i64 (8 * fr)))) (IntKind.bits .u64)))))
/-- Whether a byte is one that is looked for. -/
def cand (c : Int) (x : Nat) : Bool := decide (x = 0 ∨ x = 1 ∨ (128 ≤ c ∧ c ≤ 255 ∧ (x : Int) = c))
theorem byteV_rng (w i : Int) : -1 ≤ byteV w i ∧ byteV w i ≤ 255 := by
  unfold byteV
  split <;> omega
theorem class_eq {w : Int} (hw : word w) (i c : Int) : classA w i c = classR w i c := by
  have hb := byteV_rng w i
  unfold classA classR
  rw [byteV_eq hw]
  generalize byteV w i = b at hb ⊢
  by_cases h0 : b = 0
  · rw [condT (ibeq_t h0), condT (ibeq_t h0)]
  rw [condF (ibeq_f h0), condF (ibeq_f h0)]
  by_cases h1 : b = 1
  · rw [condT (ibeq_t h1), condT (ibeq_t h1)]
  rw [condF (ibeq_f h1), condF (ibeq_f h1)]
  by_cases h2 : b = c
  · rw [condT (ibeq_t h2)]
    by_cases h3 : c ≥ 128
    · rw [condT (decide_eq_true h3), condT (decide_eq_true (show c ≤ 255 by omega)), condT (decide_eq_true (show b ≥ 128 by omega)), condT (ibeq_t h2)]
    · rw [condF (decide_eq_false h3), condF (decide_eq_false (show ¬ b ≥ 128 by omega))]
  · rw [condF (ibeq_f h2)]
    by_cases h3 : b ≥ 128
    · rw [condT (decide_eq_true h3), condF (ibeq_f h2)]
    · rw [condF (decide_eq_false h3)]
theorem class_cand (n : Nat) (c : Int) {k : Nat} (hk : k < 8) : (classA (n : Int) (k : Int) c ≠ 0) ↔ cand c ((bytes8 n).getD k 0) = true := by
  unfold classA cand
  rw [byteV_get n k hk, decide_eq_true_eq]
  generalize (bytes8 n).getD k 0 = x
  by_cases h0 : x = 0
  · rw [condT (ibeq_t (by omega))]; omega
  rw [condF (ibeq_f (by omega))]
  by_cases h1 : x = 1
  · rw [condT (ibeq_t (by omega))]; omega
  rw [condF (ibeq_f (by omega))]
  by_cases h2 : (x : Int) = c
  · rw [condT (ibeq_t h2)]
    by_cases h3 : c ≥ 128
    · rw [condT (decide_eq_true h3)]
      by_cases h4 : c ≤ 255
      · rw [condT (decide_eq_true h4)]; omega
      · rw [condF (decide_eq_false h4)]; omega
    · rw [condF (decide_eq_false h3)]; omega
  · rw [condF (ibeq_f h2)]; omega
/-- The first of eight. -/
def firstB (a b c d e f g h : Bool) : Int := if a then 0 else if b then 1 else if c then 2 else if d then 3 else if e then 4 else if f then 5 else if g then 6 else if h then 7 else 8
theorem mark8 : ∀ a b c d e f g h : Bool, isMark ((cat [hot a, hot b, hot c, hot d, hot e, hot f, hot g, hot h] : Nat) : Int) = true ∧ (((cat [hot a, hot b, hot c, hot d, hot e, hot f, hot g, hot h] : Nat) : Int) = 0 → firstB a b c d e f g h = 8)
    ∧ (((cat [hot a, hot b, hot c, hot d, hot e, hot f, hot g, hot h] : Nat) : Int) ≠ 0 → IntKind.wrap .i64 (Int.tdiv (tzV ((cat [hot a, hot b, hot c, hot d, hot e, hot f, hot g, hot h] : Nat) : Int)) 8) = firstB a b c d e f g h ∧ firstB a b c d e f g h ≤ 7) := by decide +kernel
theorem next_first (w fr c : Int) : nextI w fr c 8 0 = firstB (decide (fr ≤ 0 ∧ classR w 0 c ≠ 0)) (decide (fr ≤ 1 ∧ classR w 1 c ≠ 0)) (decide (fr ≤ 2 ∧ classR w 2 c ≠ 0)) (decide (fr ≤ 3 ∧ classR w 3 c ≠ 0))
    (decide (fr ≤ 4 ∧ classR w 4 c ≠ 0)) (decide (fr ≤ 5 ∧ classR w 5 c ≠ 0)) (decide (fr ≤ 6 ∧ classR w 6 c ≠ 0)) (decide (fr ≤ 7 ∧ classR w 7 c ≠ 0)) := by
  unfold firstB
  simp only [decide_eq_true_eq]
  rfl
structure Marks (w fr c M : Int) : Prop where
  mark : isMark M = true
  none : M = 0 → nextI w fr c 8 0 = 8
  some : M ≠ 0 → IntKind.wrap .i64 (Int.tdiv (tzV M) 8) = nextI w fr c 8 0 ∧ nextI w fr c 8 0 ≤ 7
theorem hot_or (a b : Bool) : hot a ||| hot b = hot (a || b) := by cases a <;> cases b <;> rfl
theorem hit_hot (b x : Nat) : hit b x = hot (decide (x = b)) := by unfold hit hot; by_cases h : x = b <;> simp [h]
theorem hit_lt (b x : Nat) : hit b x < 256 := by unfold hit; split <;> omega
theorem hot_lt (b : Bool) : hot b < 256 := by cases b <;> decide
theorem bits_zor {n : Nat} (hn : n < 18446744073709551616) : bits .or .u64 0 (n : Int) = (n : Int) := by
  have := bits_or (n := 0) (m := n) (by omega) hn
  rw [Nat.zero_or] at this
  exact this
theorem cand_cat {l : List Nat} (h8 : l.length = 8) (hl : bys l) (c : Int) : candM (cat l : Int) c = ((cat (l.map fun x => hot (cand c x)) : Nat) : Int) := by
  have m0 : matchV (cat l : Int) 0 = ((cat (l.map (hit 0)) : Nat) : Int) := matchL h8 hl (b := 0) (by omega)
  have m1 : matchV (cat l : Int) 1 = ((cat (l.map (hit 1)) : Nat) : Int) := matchL h8 hl (b := 1) (by omega)
  have z : ∀ b : Nat, ∀ x, x < 256 → hit b x < 256 := fun b x _ => hit_lt b x
  have lt : ∀ b, cat (l.map (hit b)) < 18446744073709551616 := fun b => map_lt h8 hl (z b)
  have o01 : ∀ x, x < 256 → (hit 0 x ||| hit 1 x) < 256 := fun x hx => olt (z 0 x hx) (z 1 x hx)
  unfold candM
  simp only [matchW_eq]
  rw [m0, m1, bits_zor (lt 0), bits_or (lt 0) (lt 1), map_or hl (z 0) (z 1)]
  by_cases hc : 128 ≤ c ∧ c ≤ 255
  · rw [if_pos hc]
    obtain ⟨b, rfl⟩ := Int.eq_ofNat_of_zero_le (show 0 ≤ c by omega)
    have hb : b < 256 := by omega
    have mb : matchV (cat l : Int) (b : Int) = ((cat (l.map (hit b)) : Nat) : Int) := matchL h8 hl hb
    rw [mb, bits_or (map_lt h8 hl o01) (lt b), map_or hl o01 (z b)]
    congr 2
    apply List.map_congr_left
    intro x _
    rw [hit_hot, hit_hot, hit_hot, hot_or, hot_or]
    congr 1
    unfold cand
    rw [Bool.eq_iff_iff]
    simp only [Bool.or_eq_true, decide_eq_true_eq]
    constructor
    · rintro ((h | h) | h)
      · exact .inl h
      · exact .inr (.inl h)
      · exact .inr (.inr ⟨hc.1, hc.2, by rw [h]⟩)
    · rintro (h | h | ⟨_, _, h⟩)
      · exact .inl (.inl h)
      · exact .inl (.inr h)
      · exact .inr (by omega)
  · rw [if_neg hc]
    congr 2
    apply List.map_congr_left
    intro x _
    rw [hit_hot, hit_hot, hot_or]
    congr 1
    unfold cand
    rw [Bool.eq_iff_iff]
    simp only [Bool.or_eq_true, decide_eq_true_eq]
    constructor
    · rintro (h | h)
      · exact .inl h
      · exact .inr (.inl h)
    · rintro (h | h | ⟨h1, h2, _⟩)
      · exact .inl h
      · exact .inr h
      · exact absurd ⟨h1, h2⟩ hc
/-- Below a place: nothing. -/
def below (fr : Int) (k : Nat) (a : Nat) : Nat := if fr ≤ (k : Int) then a else 0
theorem mask_cat {a0 a1 a2 a3 a4 a5 a6 a7 : Nat} (h0 : a0 < 256) (h1 : a1 < 256) (h2 : a2 < 256) (h3 : a3 < 256) (h4 : a4 < 256) (h5 : a5 < 256) (h6 : a6 < 256) (h7 : a7 < 256) {fr : Int} (hf : 1 ≤ fr) (hf7 : fr ≤ 7) :
    maskM ((cat [a0, a1, a2, a3, a4, a5, a6, a7] : Nat) : Int) fr = ((cat [below fr 0 a0, below fr 1 a1, below fr 2 a2, below fr 3 a3, below fr 4 a4, below fr 5 a5, below fr 6 a6, below fr 7 a7] : Nat) : Int) := by
  have hb : bys [a0, a1, a2, a3, a4, a5, a6, a7] := fun x hx => by
    simp only [List.mem_cons, List.not_mem_nil, or_false] at hx
    omega
  have key : ∀ (m : List Nat) (s : Int), m.length = 8 → bys m → s = ((cat m : Nat) : Int) → bits .and .u64 ((cat [a0, a1, a2, a3, a4, a5, a6, a7] : Nat) : Int) s = ((cat (List.zipWith (· &&& ·) [a0, a1, a2, a3, a4, a5, a6, a7] m) : Nat) : Int) := by
    intro m s h8 hm hs
    have l1 := cat_lt hb
    have l2 := cat_lt hm
    have h8a : [a0, a1, a2, a3, a4, a5, a6, a7].length = 8 := rfl
    rw [h8a] at l1
    rw [h8] at l2
    rw [hs, bits_and l1 l2, cat_and (by rw [h8]; rfl) hb hm]
  have hfr : fr = 1 ∨ fr = 2 ∨ fr = 3 ∨ fr = 4 ∨ fr = 5 ∨ fr = 6 ∨ fr = 7 := by omega
  unfold maskM
  rcases hfr with rfl | rfl | rfl | rfl | rfl | rfl | rfl
  · rw [key [0, 255, 255, 255, 255, 255, 255, 255] (IntKind.wrap .u64 (18446744073709551615 * (2 ^ (min (Int.toNat ((IntKind.wrap .i64 (8 * 1)))) (IntKind.bits .u64))))) rfl (fun x hx => by simp at hx; omega) (by decide +kernel)]
    simp only [List.zipWith, and255 h0, and255 h1, and255 h2, and255 h3, and255 h4, and255 h5, and255 h6, and255 h7, Nat.and_zero]; rfl
  · rw [key [0, 0, 255, 255, 255, 255, 255, 255] (IntKind.wrap .u64 (18446744073709551615 * (2 ^ (min (Int.toNat ((IntKind.wrap .i64 (8 * 2)))) (IntKind.bits .u64))))) rfl (fun x hx => by simp at hx; omega) (by decide +kernel)]
    simp only [List.zipWith, and255 h0, and255 h1, and255 h2, and255 h3, and255 h4, and255 h5, and255 h6, and255 h7, Nat.and_zero]; rfl
  · rw [key [0, 0, 0, 255, 255, 255, 255, 255] (IntKind.wrap .u64 (18446744073709551615 * (2 ^ (min (Int.toNat ((IntKind.wrap .i64 (8 * 3)))) (IntKind.bits .u64))))) rfl (fun x hx => by simp at hx; omega) (by decide +kernel)]
    simp only [List.zipWith, and255 h0, and255 h1, and255 h2, and255 h3, and255 h4, and255 h5, and255 h6, and255 h7, Nat.and_zero]; rfl
  · rw [key [0, 0, 0, 0, 255, 255, 255, 255] (IntKind.wrap .u64 (18446744073709551615 * (2 ^ (min (Int.toNat ((IntKind.wrap .i64 (8 * 4)))) (IntKind.bits .u64))))) rfl (fun x hx => by simp at hx; omega) (by decide +kernel)]
    simp only [List.zipWith, and255 h0, and255 h1, and255 h2, and255 h3, and255 h4, and255 h5, and255 h6, and255 h7, Nat.and_zero]; rfl
  · rw [key [0, 0, 0, 0, 0, 255, 255, 255] (IntKind.wrap .u64 (18446744073709551615 * (2 ^ (min (Int.toNat ((IntKind.wrap .i64 (8 * 5)))) (IntKind.bits .u64))))) rfl (fun x hx => by simp at hx; omega) (by decide +kernel)]
    simp only [List.zipWith, and255 h0, and255 h1, and255 h2, and255 h3, and255 h4, and255 h5, and255 h6, and255 h7, Nat.and_zero]; rfl
  · rw [key [0, 0, 0, 0, 0, 0, 255, 255] (IntKind.wrap .u64 (18446744073709551615 * (2 ^ (min (Int.toNat ((IntKind.wrap .i64 (8 * 6)))) (IntKind.bits .u64))))) rfl (fun x hx => by simp at hx; omega) (by decide +kernel)]
    simp only [List.zipWith, and255 h0, and255 h1, and255 h2, and255 h3, and255 h4, and255 h5, and255 h6, and255 h7, Nat.and_zero]; rfl
  · rw [key [0, 0, 0, 0, 0, 0, 0, 255] (IntKind.wrap .u64 (18446744073709551615 * (2 ^ (min (Int.toNat ((IntKind.wrap .i64 (8 * 7)))) (IntKind.bits .u64))))) rfl (fun x hx => by simp at hx; omega) (by decide +kernel)]
    simp only [List.zipWith, and255 h0, and255 h1, and255 h2, and255 h3, and255 h4, and255 h5, and255 h6, and255 h7, Nat.and_zero]; rfl
theorem below_hot (fr : Int) (k : Nat) (p : Bool) : below fr k (hot p) = hot (decide (fr ≤ (k : Int)) && p) := by
  unfold below
  by_cases h : fr ≤ (k : Int)
  · rw [if_pos h, decide_eq_true h, Bool.true_and]
  · rw [if_neg h, decide_eq_false h, Bool.false_and]; rfl
theorem marks_ok {w fr c M : Int} (hw : word w) (hM : M = if fr ≤ 0 then candM w c else maskM (candM w c) fr) (h7 : fr ≤ 7) : Marks w fr c M := by
  obtain ⟨n, rfl⟩ := Int.eq_ofNat_of_zero_le hw.1
  have hn : n < 18446744073709551616 := by have := hw.2; omega
  have hq : ∀ k : Nat, k < 8 → decide (fr ≤ (k : Int) ∧ classR (n : Int) (k : Int) c ≠ 0) = (decide (fr ≤ (k : Int)) && cand c ((bytes8 n).getD k 0)) := by
    intro k hk
    rw [← class_eq hw, Bool.decide_and]
    congr 1
    rw [Bool.eq_iff_iff, decide_eq_true_eq]
    exact class_cand n c hk
  have hN := next_first (n : Int) fr c
  have q0 := hq 0 (by omega); have q1 := hq 1 (by omega); have q2 := hq 2 (by omega); have q3 := hq 3 (by omega)
  have q4 := hq 4 (by omega); have q5 := hq 5 (by omega); have q6 := hq 6 (by omega); have q7 := hq 7 (by omega)
  have hN2 : nextI (n : Int) fr c 8 0 = firstB _ _ _ _ _ _ _ _ := hN.trans (by
    show firstB (decide (fr ≤ ((0 : Nat) : Int) ∧ classR (n : Int) ((0 : Nat) : Int) c ≠ 0)) (decide (fr ≤ ((1 : Nat) : Int) ∧ classR (n : Int) ((1 : Nat) : Int) c ≠ 0)) (decide (fr ≤ ((2 : Nat) : Int) ∧ classR (n : Int) ((2 : Nat) : Int) c ≠ 0)) (decide (fr ≤ ((3 : Nat) : Int) ∧ classR (n : Int) ((3 : Nat) : Int) c ≠ 0)) (decide (fr ≤ ((4 : Nat) : Int) ∧ classR (n : Int) ((4 : Nat) : Int) c ≠ 0)) (decide (fr ≤ ((5 : Nat) : Int) ∧ classR (n : Int) ((5 : Nat) : Int) c ≠ 0)) (decide (fr ≤ ((6 : Nat) : Int) ∧ classR (n : Int) ((6 : Nat) : Int) c ≠ 0)) (decide (fr ≤ ((7 : Nat) : Int) ∧ classR (n : Int) ((7 : Nat) : Int) c ≠ 0)) = _
    rw [q0, q1, q2, q3, q4, q5, q6, q7])
  have hc := cand_cat (l := bytes8 n) rfl (bys_bytes8 n) c
  rw [cat_bytes8 hn] at hc
  have hMq : M = ((cat [hot (decide (fr ≤ ((0 : Nat) : Int)) && cand c ((bytes8 n).getD 0 0)), hot (decide (fr ≤ ((1 : Nat) : Int)) && cand c ((bytes8 n).getD 1 0)), hot (decide (fr ≤ ((2 : Nat) : Int)) && cand c ((bytes8 n).getD 2 0)), hot (decide (fr ≤ ((3 : Nat) : Int)) && cand c ((bytes8 n).getD 3 0)), hot (decide (fr ≤ ((4 : Nat) : Int)) && cand c ((bytes8 n).getD 4 0)), hot (decide (fr ≤ ((5 : Nat) : Int)) && cand c ((bytes8 n).getD 5 0)), hot (decide (fr ≤ ((6 : Nat) : Int)) && cand c ((bytes8 n).getD 6 0)), hot (decide (fr ≤ ((7 : Nat) : Int)) && cand c ((bytes8 n).getD 7 0))] : Nat) : Int) := by
    rw [hM]
    by_cases h0 : fr ≤ 0
    · rw [if_pos h0]
      refine hc.trans ?_
      rw [decide_eq_true (show fr ≤ ((0 : Nat) : Int) by omega), decide_eq_true (show fr ≤ ((1 : Nat) : Int) by omega), decide_eq_true (show fr ≤ ((2 : Nat) : Int) by omega), decide_eq_true (show fr ≤ ((3 : Nat) : Int) by omega), decide_eq_true (show fr ≤ ((4 : Nat) : Int) by omega), decide_eq_true (show fr ≤ ((5 : Nat) : Int) by omega), decide_eq_true (show fr ≤ ((6 : Nat) : Int) by omega), decide_eq_true (show fr ≤ ((7 : Nat) : Int) by omega)]
      rfl
    · rw [if_neg h0]
      have e : maskM (candM (n : Int) c) fr = maskM ((cat [hot (cand c ((bytes8 n).getD 0 0)), hot (cand c ((bytes8 n).getD 1 0)), hot (cand c ((bytes8 n).getD 2 0)), hot (cand c ((bytes8 n).getD 3 0)), hot (cand c ((bytes8 n).getD 4 0)), hot (cand c ((bytes8 n).getD 5 0)), hot (cand c ((bytes8 n).getD 6 0)), hot (cand c ((bytes8 n).getD 7 0))] : Nat) : Int) fr := congrArg (fun m => maskM m fr) hc
      refine e.trans ?_
      rw [mask_cat (hot_lt _) (hot_lt _) (hot_lt _) (hot_lt _) (hot_lt _) (hot_lt _) (hot_lt _) (hot_lt _) (by omega) h7]
      simp only [below_hot]
  obtain ⟨k1, k2, k3⟩ := mark8 (decide (fr ≤ ((0 : Nat) : Int)) && cand c ((bytes8 n).getD 0 0)) (decide (fr ≤ ((1 : Nat) : Int)) && cand c ((bytes8 n).getD 1 0)) (decide (fr ≤ ((2 : Nat) : Int)) && cand c ((bytes8 n).getD 2 0)) (decide (fr ≤ ((3 : Nat) : Int)) && cand c ((bytes8 n).getD 3 0)) (decide (fr ≤ ((4 : Nat) : Int)) && cand c ((bytes8 n).getD 4 0)) (decide (fr ≤ ((5 : Nat) : Int)) && cand c ((bytes8 n).getD 5 0)) (decide (fr ≤ ((6 : Nat) : Int)) && cand c ((bytes8 n).getD 6 0)) (decide (fr ≤ ((7 : Nat) : Int)) && cand c ((bytes8 n).getD 7 0))
  rw [← hMq] at k1 k2 k3
  refine ⟨k1, fun h => ?_, fun h => ?_⟩
  · exact hN2.trans (k2 h)
  · obtain ⟨k4, k5⟩ := k3 h
    exact ⟨k4.trans hN2.symm, by rw [hN2]; exact k5⟩
theorem next_out {w fr c : Int} (h : 7 < fr) : nextI w fr c 8 0 = 8 := by
  rw [next_first]
  rw [decide_eq_false (fun k => by omega), decide_eq_false (fun k => by omega), decide_eq_false (fun k => by omega), decide_eq_false (fun k => by omega), decide_eq_false (fun k => by omega), decide_eq_false (fun k => by omega), decide_eq_false (fun k => by omega), decide_eq_false (fun k => by omega)]
  rfl
/-- The answer of who looks for the next place. -/
def nextT (w fr c : Int) : Value := .tuple #[.int .i64 (nextI w fr c 8 0), .int .i64 (nextC w c (nextI w fr c 8 0))]
theorem none_T {w fr c : Int} (h : nextI w fr c 8 0 = 8) : some (Value.tuple #[.int .i64 8, .int .i64 0]) = some (nextT w fr c) := by
  unfold nextT nextC; rw [h]; rfl
theorem leaf_T {w fr c M : Int} (hw : word w) (h : Marks w fr c M) : (bif (M != 0) then (bif isMark M then (bif decide ((IntKind.wrap .i64 (Int.tdiv (tzV M) 8)) > 7) then some (Value.tuple #[.int .i64 8, .int .i64 0]) else some (.tuple #[.int .i64 (IntKind.wrap .i64 (Int.tdiv (tzV M) 8)), .int .i64 (classA w (IntKind.wrap .i64 (Int.tdiv (tzV M) 8)) c)])) else none) else some (.tuple #[.int .i64 8, .int .i64 0])) = some (nextT w fr c) := by
  by_cases hz : M = 0
  · rw [condF (by rw [hz]; rfl)]
    exact none_T (h.none hz)
  · obtain ⟨h1, h2⟩ := h.some hz
    rw [condT (by simpa using hz), condT h.mark, condF (decide_eq_false (by omega)), h1, class_eq hw]
    unfold nextT nextC
    rw [if_neg (by omega)]
noncomputable def cfgN : Cfg := ⟨[]⟩
noncomputable def fsN : List FuncId := [9, 10, 11, 12, 13, 14, 21, 23, 24, 25, 26, 27, 28, 29, 30, 37, 38, 40, 41, 42, 43]
theorem fitN : Fit Tryd.prog cfgN fsN := ⟨by kernel_rfl, Cfg.ok_of (by kernel_rfl), by kernel_rfl⟩
theorem next_tree (w fr c : Int) (e0 : TypeId) : runK Tryd.prog cfgN fsN (conTk looksDom looksK) 12 40 23 [.int .u64 w, .int .i64 fr, .int .i64 c] (varH .u8 tz e0) valK =
  bif (decide (c ≥ 128)) then
    bif (decide (c ≤ 255)) then
      bif (decide (fr > 7)) then
        some (.tuple #[(.int .i64 8), (.int .i64 0)])
      else
        bif (decide (fr > 0)) then
          bif (decide ((IntKind.wrap .i64 (8 * fr)) < 0)) then
            none
          else
            bif ((bits .and .u64 (bits .or .u64 (bits .or .u64 (bits .or .u64 0 (matchW w 0)) (matchW w 1)) (matchW w c)) (IntKind.wrap .u64 (18446744073709551615 * (2 ^ (min (Int.toNat ((IntKind.wrap .i64 (8 * fr)))) (IntKind.bits .u64)))))) != 0) then
              bif (isMark ((bits .and .u64 (bits .or .u64 (bits .or .u64 (bits .or .u64 0 (matchW w 0)) (matchW w 1)) (matchW w c)) (IntKind.wrap .u64 (18446744073709551615 * (2 ^ (min (Int.toNat ((IntKind.wrap .i64 (8 * fr)))) (IntKind.bits .u64)))))))) then
                bif (decide ((IntKind.wrap .i64 (Int.tdiv (tzV ((bits .and .u64 (bits .or .u64 (bits .or .u64 (bits .or .u64 0 (matchW w 0)) (matchW w 1)) (matchW w c)) (IntKind.wrap .u64 (18446744073709551615 * (2 ^ (min (Int.toNat ((IntKind.wrap .i64 (8 * fr)))) (IntKind.bits .u64)))))))) 8)) > 7)) then
                  some (.tuple #[(.int .i64 8), (.int .i64 0)])
                else
                  some (.tuple #[(.int .i64 (IntKind.wrap .i64 (Int.tdiv (tzV ((bits .and .u64 (bits .or .u64 (bits .or .u64 (bits .or .u64 0 (matchW w 0)) (matchW w 1)) (matchW w c)) (IntKind.wrap .u64 (18446744073709551615 * (2 ^ (min (Int.toNat ((IntKind.wrap .i64 (8 * fr)))) (IntKind.bits .u64)))))))) 8))), (.int .i64 (classA w ((IntKind.wrap .i64 (Int.tdiv (tzV ((bits .and .u64 (bits .or .u64 (bits .or .u64 (bits .or .u64 0 (matchW w 0)) (matchW w 1)) (matchW w c)) (IntKind.wrap .u64 (18446744073709551615 * (2 ^ (min (Int.toNat ((IntKind.wrap .i64 (8 * fr)))) (IntKind.bits .u64)))))))) 8))) c))])
              else
                none
            else
              some (.tuple #[(.int .i64 8), (.int .i64 0)])
        else
          bif ((bits .or .u64 (bits .or .u64 (bits .or .u64 0 (matchW w 0)) (matchW w 1)) (matchW w c)) != 0) then
            bif (isMark ((bits .or .u64 (bits .or .u64 (bits .or .u64 0 (matchW w 0)) (matchW w 1)) (matchW w c)))) then
              bif (decide ((IntKind.wrap .i64 (Int.tdiv (tzV ((bits .or .u64 (bits .or .u64 (bits .or .u64 0 (matchW w 0)) (matchW w 1)) (matchW w c)))) 8)) > 7)) then
                some (.tuple #[(.int .i64 8), (.int .i64 0)])
              else
                some (.tuple #[(.int .i64 (IntKind.wrap .i64 (Int.tdiv (tzV ((bits .or .u64 (bits .or .u64 (bits .or .u64 0 (matchW w 0)) (matchW w 1)) (matchW w c)))) 8))), (.int .i64 (classA w ((IntKind.wrap .i64 (Int.tdiv (tzV ((bits .or .u64 (bits .or .u64 (bits .or .u64 0 (matchW w 0)) (matchW w 1)) (matchW w c)))) 8))) c))])
            else
              none
          else
            some (.tuple #[(.int .i64 8), (.int .i64 0)])
    else
      bif (decide (fr > 7)) then
        some (.tuple #[(.int .i64 8), (.int .i64 0)])
      else
        bif (decide (fr > 0)) then
          bif (decide ((IntKind.wrap .i64 (8 * fr)) < 0)) then
            none
          else
            bif ((bits .and .u64 (bits .or .u64 (bits .or .u64 0 (matchW w 0)) (matchW w 1)) (IntKind.wrap .u64 (18446744073709551615 * (2 ^ (min (Int.toNat ((IntKind.wrap .i64 (8 * fr)))) (IntKind.bits .u64)))))) != 0) then
              bif (isMark ((bits .and .u64 (bits .or .u64 (bits .or .u64 0 (matchW w 0)) (matchW w 1)) (IntKind.wrap .u64 (18446744073709551615 * (2 ^ (min (Int.toNat ((IntKind.wrap .i64 (8 * fr)))) (IntKind.bits .u64)))))))) then
                bif (decide ((IntKind.wrap .i64 (Int.tdiv (tzV ((bits .and .u64 (bits .or .u64 (bits .or .u64 0 (matchW w 0)) (matchW w 1)) (IntKind.wrap .u64 (18446744073709551615 * (2 ^ (min (Int.toNat ((IntKind.wrap .i64 (8 * fr)))) (IntKind.bits .u64)))))))) 8)) > 7)) then
                  some (.tuple #[(.int .i64 8), (.int .i64 0)])
                else
                  some (.tuple #[(.int .i64 (IntKind.wrap .i64 (Int.tdiv (tzV ((bits .and .u64 (bits .or .u64 (bits .or .u64 0 (matchW w 0)) (matchW w 1)) (IntKind.wrap .u64 (18446744073709551615 * (2 ^ (min (Int.toNat ((IntKind.wrap .i64 (8 * fr)))) (IntKind.bits .u64)))))))) 8))), (.int .i64 (classA w ((IntKind.wrap .i64 (Int.tdiv (tzV ((bits .and .u64 (bits .or .u64 (bits .or .u64 0 (matchW w 0)) (matchW w 1)) (IntKind.wrap .u64 (18446744073709551615 * (2 ^ (min (Int.toNat ((IntKind.wrap .i64 (8 * fr)))) (IntKind.bits .u64)))))))) 8))) c))])
              else
                none
            else
              some (.tuple #[(.int .i64 8), (.int .i64 0)])
        else
          bif ((bits .or .u64 (bits .or .u64 0 (matchW w 0)) (matchW w 1)) != 0) then
            bif (isMark ((bits .or .u64 (bits .or .u64 0 (matchW w 0)) (matchW w 1)))) then
              bif (decide ((IntKind.wrap .i64 (Int.tdiv (tzV ((bits .or .u64 (bits .or .u64 0 (matchW w 0)) (matchW w 1)))) 8)) > 7)) then
                some (.tuple #[(.int .i64 8), (.int .i64 0)])
              else
                some (.tuple #[(.int .i64 (IntKind.wrap .i64 (Int.tdiv (tzV ((bits .or .u64 (bits .or .u64 0 (matchW w 0)) (matchW w 1)))) 8))), (.int .i64 (classA w ((IntKind.wrap .i64 (Int.tdiv (tzV ((bits .or .u64 (bits .or .u64 0 (matchW w 0)) (matchW w 1)))) 8))) c))])
            else
              none
          else
            some (.tuple #[(.int .i64 8), (.int .i64 0)])
  else
    bif (decide (fr > 7)) then
      some (.tuple #[(.int .i64 8), (.int .i64 0)])
    else
      bif (decide (fr > 0)) then
        bif (decide ((IntKind.wrap .i64 (8 * fr)) < 0)) then
          none
        else
          bif ((bits .and .u64 (bits .or .u64 (bits .or .u64 0 (matchW w 0)) (matchW w 1)) (IntKind.wrap .u64 (18446744073709551615 * (2 ^ (min (Int.toNat ((IntKind.wrap .i64 (8 * fr)))) (IntKind.bits .u64)))))) != 0) then
            bif (isMark ((bits .and .u64 (bits .or .u64 (bits .or .u64 0 (matchW w 0)) (matchW w 1)) (IntKind.wrap .u64 (18446744073709551615 * (2 ^ (min (Int.toNat ((IntKind.wrap .i64 (8 * fr)))) (IntKind.bits .u64)))))))) then
              bif (decide ((IntKind.wrap .i64 (Int.tdiv (tzV ((bits .and .u64 (bits .or .u64 (bits .or .u64 0 (matchW w 0)) (matchW w 1)) (IntKind.wrap .u64 (18446744073709551615 * (2 ^ (min (Int.toNat ((IntKind.wrap .i64 (8 * fr)))) (IntKind.bits .u64)))))))) 8)) > 7)) then
                some (.tuple #[(.int .i64 8), (.int .i64 0)])
              else
                some (.tuple #[(.int .i64 (IntKind.wrap .i64 (Int.tdiv (tzV ((bits .and .u64 (bits .or .u64 (bits .or .u64 0 (matchW w 0)) (matchW w 1)) (IntKind.wrap .u64 (18446744073709551615 * (2 ^ (min (Int.toNat ((IntKind.wrap .i64 (8 * fr)))) (IntKind.bits .u64)))))))) 8))), (.int .i64 (classA w ((IntKind.wrap .i64 (Int.tdiv (tzV ((bits .and .u64 (bits .or .u64 (bits .or .u64 0 (matchW w 0)) (matchW w 1)) (IntKind.wrap .u64 (18446744073709551615 * (2 ^ (min (Int.toNat ((IntKind.wrap .i64 (8 * fr)))) (IntKind.bits .u64)))))))) 8))) c))])
            else
              none
          else
            some (.tuple #[(.int .i64 8), (.int .i64 0)])
      else
        bif ((bits .or .u64 (bits .or .u64 0 (matchW w 0)) (matchW w 1)) != 0) then
          bif (isMark ((bits .or .u64 (bits .or .u64 0 (matchW w 0)) (matchW w 1)))) then
            bif (decide ((IntKind.wrap .i64 (Int.tdiv (tzV ((bits .or .u64 (bits .or .u64 0 (matchW w 0)) (matchW w 1)))) 8)) > 7)) then
              some (.tuple #[(.int .i64 8), (.int .i64 0)])
            else
              some (.tuple #[(.int .i64 (IntKind.wrap .i64 (Int.tdiv (tzV ((bits .or .u64 (bits .or .u64 0 (matchW w 0)) (matchW w 1)))) 8))), (.int .i64 (classA w ((IntKind.wrap .i64 (Int.tdiv (tzV ((bits .or .u64 (bits .or .u64 0 (matchW w 0)) (matchW w 1)))) 8))) c))])
          else
            none
        else
          some (.tuple #[(.int .i64 8), (.int .i64 0)]) := by kernel_rfl
theorem next_told (w fr c : Int) (e0 : TypeId) (hw : word w) : Tells Tryd.prog 23 [.int .u64 w, .int .i64 fr, .int .i64 c] (varH .u8 tz e0).low (nextT w fr c) := by
  refine Tells.of_tree (h := (varH .u8 tz e0)) fitN looks_sound looks_agree (by kernel_rfl) rfl (show Ro (varH .u8 tz e0).low from Ro.varH) (n := 12) (d := 40) ?_
  rw [next_tree]
  have hA : fr ≤ 7 → fr ≤ 0 → ∀ M, M = candM w c → Marks w fr c M := fun h7 h0 M hM => marks_ok hw (by rw [if_pos h0]; exact hM) h7
  have hB : fr ≤ 7 → ¬ fr ≤ 0 → ∀ M, M = maskM (candM w c) fr → Marks w fr c M := fun h7 h0 M hM => marks_ok hw (by rw [if_neg h0]; exact hM) h7
  have hsh : 0 < fr → fr ≤ 7 → decide ((IntKind.wrap .i64 (8 * fr)) < 0) = false := fun h1 h2 => decide_eq_false (by rw [wrap_i64_id (by omega) (by omega)]; omega)
  by_cases h1 : c ≥ 128
  · rw [condT (decide_eq_true h1)]
    by_cases h2 : c ≤ 255
    · rw [condT (decide_eq_true h2)]
      by_cases h7 : fr > 7
      · rw [condT (decide_eq_true h7)]; exact none_T (next_out h7)
      · rw [condF (decide_eq_false h7)]
        by_cases h0 : fr > 0
        · rw [condT (decide_eq_true h0), condF (hsh h0 (by omega))]
          exact leaf_T hw (hB (by omega) (by omega) _ (by unfold maskM candM; rw [if_pos ⟨h1, h2⟩]))
        · rw [condF (decide_eq_false h0)]
          exact leaf_T hw (hA (by omega) (by omega) _ (by unfold candM; rw [if_pos ⟨h1, h2⟩]))
    · rw [condF (decide_eq_false h2)]
      by_cases h7 : fr > 7
      · rw [condT (decide_eq_true h7)]; exact none_T (next_out h7)
      · rw [condF (decide_eq_false h7)]
        by_cases h0 : fr > 0
        · rw [condT (decide_eq_true h0), condF (hsh h0 (by omega))]
          exact leaf_T hw (hB (by omega) (by omega) _ (by unfold maskM candM; rw [if_neg (fun k => h2 k.2)]))
        · rw [condF (decide_eq_false h0)]
          exact leaf_T hw (hA (by omega) (by omega) _ (by unfold candM; rw [if_neg (fun k => h2 k.2)]))
  · rw [condF (decide_eq_false h1)]
    by_cases h7 : fr > 7
    · rw [condT (decide_eq_true h7)]; exact none_T (next_out h7)
    · rw [condF (decide_eq_false h7)]
      by_cases h0 : fr > 0
      · rw [condT (decide_eq_true h0), condF (hsh h0 (by omega))]
        exact leaf_T hw (hB (by omega) (by omega) _ (by unfold maskM candM; rw [if_neg (fun k => h1 k.1)]))
      · rw [condF (decide_eq_false h0)]
        exact leaf_T hw (hA (by omega) (by omega) _ (by unfold candM; rw [if_neg (fun k => h1 k.1)]))

/-- The guarded contract of the next place. -/
def isWord (w : Int) : Bool := decide (0 ≤ w ∧ w < 18446744073709551616)
def nxE : ConE := fun acc f args => match f, args with
  | 23, [.int .u64 w, .int .i64 i, .int .i64 c] => (match acc.cells 0 with
    | some (cs, e, false) => (match isTz tz cs with
      | true => (match isWord w with
        | true => some ⟨[0], [.int .u64 w, .int .i64 i, .int .i64 c], [.cells cs e false], nextT w i c, [], []⟩
        | false => none)
      | false => none)
    | _ => none)
  | _, _ => none
def nxK {β : Type} : ConEK β := fun h f args k => match f, args with
  | 23, [.int .u64 w, .int .i64 i, .int .i64 c] => (match (accK h).cells 0 with
    | some (cs, e, false) => (match isTz tz cs with
      | true => bif isWord w then k ⟨[0], [.int .u64 w, .int .i64 i, .int .i64 c], [.cells cs e false], nextT w i c, [], []⟩ else none
      | false => none)
    | _ => none)
  | _, _ => none
theorem nx_tells {β : Type} : TellsK nxE (nxK (β := β)) := by
  intro h f args k r hk
  unfold nxK at hk
  unfold nxE
  rw [accK_low]
  split at hk
  · split at hk
    · rename_i cs e hc
      (try rw [hc])
      split at hk
      · rename_i hz
        (try rw [hz])
        cases hm : isWord _ with
        | true => rw [hm] at hk; exact ⟨_, rfl, hk⟩
        | false => rw [hm] at hk; cases hk
      · cases hk
    · cases hk
  · cases hk
theorem nx_ok : ∀ (h : AH) (f : FuncId) (args : List Value) (c : Con), nxE (accA h) f args = some c → ConOk Tryd.prog f args h c := by
  intro h f args c hE
  unfold nxE at hE
  split at hE
  · split at hE
    · rename_i cs e hc
      split at hE
      · rename_i hz
        have hcs := isTz_eq hz
        subst hcs
        have hc0 : h.get 0 = some (.cells (intCells .u8 tz) e false) := by
          have hc : cellsA h 0 = _ := hc
          unfold cellsA at hc
          split at hc
          · rename_i hq; cases hc; exact hq
          · cases hc
        split at hE
        · rename_i hm
          cases hE; exact ConOk.var oneVar rfl rfl (next_told _ _ _ _ (by unfold isWord at hm; have h := of_decide_eq_true hm; exact h)) h hc0
        · cases hE
      · cases hE
    · cases hE
  · cases hE
def fourE : ConE := orE threeDom threeE nxE
def fourK {β : Type} : ConEK β := orK threeDom (plainK threeE) nxK
def fourDom : List FuncId := 23 :: threeDom
theorem four_agree {β : Type} : AgreeT (conC fourDom fourE) (conTk (β := β) fourDom fourK) := conTk_agree (orK_tells (plainK_tells _) nx_tells)
theorem four_sound : SoundC Tryd.prog (conC fourDom fourE) := by
  refine SoundC.con ?_ ?_
  · intro f hf
    rcases List.mem_cons.1 hf with rfl | hf
    · exact fitN.fnOk _ (by
        have h0 : fsN.contains 23 = true := by kernel_rfl
        simpa using h0)
    · exact three_fn f hf
  · intro h f args c hm hE
    unfold fourE orE at hE
    cases hd : threeDom.contains f with
    | true => rw [hd] at hE; exact three_ok h f args c hE
    | false => rw [hd] at hE; exact nx_ok h f args c hE

end Go.Proofs.YteafenadjidkdaaDoor.ctrls
