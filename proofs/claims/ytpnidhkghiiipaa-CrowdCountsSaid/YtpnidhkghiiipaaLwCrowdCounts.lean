/- However many threads note their claims: a table is crowded just if there are as many as its limit. -/
import Derived.Test.YtpnidhkghiiipaaCcW1
import Derived.WalkKit
import Derived.ProofKit
import Derived.OpenShut
import Derived.ChangeOld
import Derived.Below
import Derived.SizedLaws
namespace Go.Proofs.Ytpnidhkghiiipaa.crowdCounts
open Go.Eng
open Go.ChangeShapes Go.WideShapes Go.ChangeAt Go.RowKit
set_option linter.unusedVariables false
set_option linter.unusedSimpArgs false
set_option maxRecDepth 100000
/-- What the stripes hold. -/
structure Held (sz : Nat) (L : List Int) (c0 c1 c2 c3 i : Int) : Prop where
  len : L.length = sz
  h0 : L.getD 3 0 = c0
  h1 : L.getD 4 0 = c1
  h2 : L.getD 5 0 = c2
  h3 : L.getD 6 0 = c3
  p0 : 0 ≤ c0
  p1 : 0 ≤ c1
  p2 : 0 ≤ c2
  p3 : 0 ≤ c3
  sum : c0 + c1 + c2 + c3 = i
theorem getD_set {l : List Int} {k i : Nat} {v : Int} : (l.set k v).getD i 0 = if k = i ∧ i < l.length then v else l.getD i 0 := by
  rw [List.getD_eq_getElem?_getD, List.getD_eq_getElem?_getD, List.getElem?_set]
  by_cases h : k = i
  · subst h
    by_cases h2 : k < l.length
    · rw [if_pos rfl, if_pos h2, if_pos ⟨rfl, h2⟩]; rfl
    · rw [if_pos rfl, if_neg h2, if_neg (fun q => h2 q.2), List.getElem?_eq_none (by omega)]
  · rw [if_neg h, if_neg (fun q => h q.1)]
theorem held_more {sz : Nat} {L : List Int} {c0 c1 c2 c3 i y : Int} (h : Held sz L c0 c1 c2 c3 i) (hz : 16 ≤ sz) (hi : i ≤ 80) (hy0 : 0 ≤ y) (hy3 : y ≤ 3) :
    ∃ d0 d1 d2 d3, Held sz (List.set L (0 + ((Int.toNat (3 + y)) * 1)) (IntKind.wrap .u64 ((L.getD (0 + ((Int.toNat (3 + y)) * 1)) 0) + 1))) d0 d1 d2 d3 (i + 1) := by
  obtain ⟨hl, h0, h1, h2, h3, p0, p1, p2, p3, hs⟩ := h
  have hy : y = 0 ∨ y = 1 ∨ y = 2 ∨ y = 3 := by omega
  rcases hy with rfl | rfl | rfl | rfl
  · have e : 0 + ((Int.toNat (3 + 0)) * 1) = 3 := rfl
    rw [e, h0, wrap_u64_id (by omega) (by omega)]
    exact ⟨c0 + 1, c1, c2, c3, by rw [List.length_set]; exact hl, by rw [getD_set, if_pos (by omega)], by rw [getD_set, if_neg (by omega), h1], by rw [getD_set, if_neg (by omega), h2], by rw [getD_set, if_neg (by omega), h3], by omega, p1, p2, p3, by omega⟩
  · have e : 0 + ((Int.toNat (3 + 1)) * 1) = 4 := rfl
    rw [e, h1, wrap_u64_id (by omega) (by omega)]
    exact ⟨c0, c1 + 1, c2, c3, by rw [List.length_set]; exact hl, by rw [getD_set, if_neg (by omega), h0], by rw [getD_set, if_pos (by omega)], by rw [getD_set, if_neg (by omega), h2], by rw [getD_set, if_neg (by omega), h3], p0, by omega, p2, p3, by omega⟩
  · have e : 0 + ((Int.toNat (3 + 2)) * 1) = 5 := rfl
    rw [e, h2, wrap_u64_id (by omega) (by omega)]
    exact ⟨c0, c1, c2 + 1, c3, by rw [List.length_set]; exact hl, by rw [getD_set, if_neg (by omega), h0], by rw [getD_set, if_neg (by omega), h1], by rw [getD_set, if_pos (by omega)], by rw [getD_set, if_neg (by omega), h3], p0, p1, by omega, p3, by omega⟩
  · have e : 0 + ((Int.toNat (3 + 3)) * 1) = 6 := rfl
    rw [e, h3, wrap_u64_id (by omega) (by omega)]
    exact ⟨c0, c1, c2, c3 + 1, by rw [List.length_set]; exact hl, by rw [getD_set, if_neg (by omega), h0], by rw [getD_set, if_neg (by omega), h1], by rw [getD_set, if_neg (by omega), h2], by rw [getD_set, if_pos (by omega)], p0, p1, p2, by omega, by omega⟩

noncomputable def QE : Ex → St → Prop := Eng.Ends Try.prog Try.f3.results.toList fun r _ => r = .bool true
theorem qe_true {s : KSt} (h : resL Try.prog s.low Try.f3.results.toList = some [.bool true]) : QE .ret s.low := Ends.of h rfl
inductive Inv0 (lg : Int) (pre n c : Nat) (l : List Int) (e : TypeId) : Nat → KSt → Prop
  | at_ (i c0 c1 c2 c3 : Int) (L : List Int) (hi : 0 ≤ i) (hin : i ≤ (n : Int)) (hH : Held 16 L c0 c1 c2 c3 i) : Inv0 lg pre n c l e ((n : Int) + 1 - i).toNat (S23 pre n c i L l e)
  | out (i : Int) (L : List Int) (hx : (n : Int) < i) : Inv0 lg pre n c l e 0 (S23 pre n c i L l e)
theorem loop0 (lg : Int) (pre n c : Nat) (l : List Int) (e : TypeId) (hn80 : n ≤ 80) (hc : n ≤ c) (hl : l.length = c) (hcp : c ≤ 9223372036854775807) (hlw : ∀ j, 0 ≤ l.getD j 0 ∧ l.getD j 0 < 256) (m : Nat) (s : KSt) (hI : Inv0 lg pre n c l e m s) :
    Gets Try.prog (KH.low ⟨1, 1, [(0, 0, .tail pre .u8 l e)]⟩) (codeAt [1, 1, 1, 1, 1, 0, 1] B) s.low (onN (fun s => Gets Try.prog (KH.low ⟨1, 1, [(0, 0, .tail pre .u8 l e)]⟩) (codeAt [1, 1, 1, 1, 1, 1] B) s (QE)) (QE)) := by
  rw [C1_1_1_1_1_0_1, C1_1_1_1_1_0_1_0]
  refine Gets.loopG (fun m s => Inv0 lg pre n c l e m s) ?_ _ _ hI
  clear hI m s
  intro m s hI
  cases hI with
  | at_ i c0 c1 c2 c3 L hi hin hH =>
    obtain ⟨g, h0, h1, h2, h3, p0, p1, p2, p3, hs⟩ := hH
    by_cases hx : i = (n : Int)
    · refine re0 lg i c0 c1 c2 c3 0 pre n c l L e g h0 h1 h2 h3 p0 p1 p2 p3 hs hi hn80 hc hl hcp hx ?_
      exact ⟨_, _, by omega, rfl, .out (i + 1) L (by omega)⟩
    · obtain ⟨y, hy⟩ : ∃ y, (bits .and .i64 (Int.tmod (l.getD ((Int.toNat i) * 1) 0) 64) 3) = y := ⟨_, rfl⟩
      have hu := hlw ((Int.toNat i) * 1)
      have hyb : 0 ≤ y ∧ y ≤ 3 := by rw [← hy, and3_i64]; omega
      obtain ⟨d0, d1, d2, d3, hN⟩ := held_more (y := y) ⟨g, h0, h1, h2, h3, p0, p1, p2, p3, hs⟩ (by decide) (by omega) hyb.1 hyb.2
      refine rm0 lg i c0 c1 c2 c3 y pre n c l L e g h0 h1 h2 h3 p0 p1 p2 p3 hs hi hn80 hc hl hcp (by omega) hu hy hyb.1 hyb.2 ?_
      exact ⟨_, _, by omega, rfl, .at_ (i + 1) d0 d1 d2 d3 _ (by omega) (by omega) hN⟩
  | out i L hx =>
    refine rx0 lg i 0 0 0 0 0 pre n c l L e hx ?_
    refine ⟨fun _ => ?_, fun h => by cases h⟩
    exact rf0 lg i 0 0 0 0 0 pre n c l L e (qe_true (by kernel_rfl))
inductive VInv0 (lg : Int) (pre : Nat) : Nat → KSt → Prop
  | at_ (i c0 c1 c2 c3 : Int) (L : List Int) (hi : i = 0) (hH : Held 16 L c0 c1 c2 c3 i) : VInv0 lg pre 1 (vS23 pre i L)
  | out (i : Int) (L : List Int) (hx : 0 < i) : VInv0 lg pre 0 (vS23 pre i L)
theorem vloop0 (lg : Int) (pre : Nat) (m : Nat) (s : KSt) (hI : VInv0 lg pre m s) :
    Gets Try.prog (KH.low ⟨1, 1, []⟩) (codeAt [1, 1, 1, 1, 1, 0, 1] B) s.low (onN (fun s => Gets Try.prog (KH.low ⟨1, 1, []⟩) (codeAt [1, 1, 1, 1, 1, 1] B) s (QE)) (QE)) := by
  rw [C1_1_1_1_1_0_1, C1_1_1_1_1_0_1_0]
  refine Gets.loopG (fun m s => VInv0 lg pre m s) ?_ _ _ hI
  clear hI m s
  intro m s hI
  cases hI with
  | at_ i c0 c1 c2 c3 L hi hH =>
    obtain ⟨g, h0, h1, h2, h3, p0, p1, p2, p3, hs⟩ := hH
    refine vre0 lg i c0 c1 c2 c3 0 pre L g h0 h1 h2 h3 p0 p1 p2 p3 hs (by omega) hi ?_
    exact ⟨_, _, by omega, rfl, .out (i + 1) L (by omega)⟩
  | out i L hx =>
    refine vrx0 lg i 0 0 0 0 0 pre L hx ?_
    refine ⟨fun _ => ?_, fun h => by cases h⟩
    exact vrf0 lg i 0 0 0 0 0 pre L (qe_true (by kernel_rfl))
theorem held0 : Held 16 (List.replicate 16 0) 0 0 0 0 0 := ⟨rfl, rfl, rfl, rfl, rfl, by decide, by decide, by decide, by decide, by decide⟩
inductive Inv1 (lg : Int) (pre n c : Nat) (l : List Int) (e : TypeId) : Nat → KSt → Prop
  | at_ (i c0 c1 c2 c3 : Int) (L : List Int) (hi : 0 ≤ i) (hin : i ≤ (n : Int)) (hH : Held 25 L c0 c1 c2 c3 i) : Inv1 lg pre n c l e ((n : Int) + 1 - i).toNat (S41 pre n c i L l e)
  | out (i : Int) (L : List Int) (hx : (n : Int) < i) : Inv1 lg pre n c l e 0 (S41 pre n c i L l e)
theorem loop1 (lg : Int) (pre n c : Nat) (l : List Int) (e : TypeId) (hn80 : n ≤ 80) (hc : n ≤ c) (hl : l.length = c) (hcp : c ≤ 9223372036854775807) (hlw : ∀ j, 0 ≤ l.getD j 0 ∧ l.getD j 0 < 256) (m : Nat) (s : KSt) (hI : Inv1 lg pre n c l e m s) :
    Gets Try.prog (KH.low ⟨1, 1, [(0, 0, .tail pre .u8 l e)]⟩) (codeAt [1, 1, 1, 1, 1, 0, 1] B) s.low (onN (fun s => Gets Try.prog (KH.low ⟨1, 1, [(0, 0, .tail pre .u8 l e)]⟩) (codeAt [1, 1, 1, 1, 1, 1] B) s (QE)) (QE)) := by
  rw [C1_1_1_1_1_0_1, C1_1_1_1_1_0_1_0]
  refine Gets.loopG (fun m s => Inv1 lg pre n c l e m s) ?_ _ _ hI
  clear hI m s
  intro m s hI
  cases hI with
  | at_ i c0 c1 c2 c3 L hi hin hH =>
    obtain ⟨g, h0, h1, h2, h3, p0, p1, p2, p3, hs⟩ := hH
    by_cases hx : i = (n : Int)
    · refine re1 lg i c0 c1 c2 c3 0 pre n c l L e g h0 h1 h2 h3 p0 p1 p2 p3 hs hi hn80 hc hl hcp hx ?_
      exact ⟨_, _, by omega, rfl, .out (i + 1) L (by omega)⟩
    · obtain ⟨y, hy⟩ : ∃ y, (bits .and .i64 (Int.tmod (l.getD ((Int.toNat i) * 1) 0) 64) 3) = y := ⟨_, rfl⟩
      have hu := hlw ((Int.toNat i) * 1)
      have hyb : 0 ≤ y ∧ y ≤ 3 := by rw [← hy, and3_i64]; omega
      obtain ⟨d0, d1, d2, d3, hN⟩ := held_more (y := y) ⟨g, h0, h1, h2, h3, p0, p1, p2, p3, hs⟩ (by decide) (by omega) hyb.1 hyb.2
      refine rm1 lg i c0 c1 c2 c3 y pre n c l L e g h0 h1 h2 h3 p0 p1 p2 p3 hs hi hn80 hc hl hcp (by omega) hu hy hyb.1 hyb.2 ?_
      exact ⟨_, _, by omega, rfl, .at_ (i + 1) d0 d1 d2 d3 _ (by omega) (by omega) hN⟩
  | out i L hx =>
    refine rx1 lg i 0 0 0 0 0 pre n c l L e hx ?_
    refine ⟨fun _ => ?_, fun h => by cases h⟩
    exact rf1 lg i 0 0 0 0 0 pre n c l L e (qe_true (by kernel_rfl))
inductive VInv1 (lg : Int) (pre : Nat) : Nat → KSt → Prop
  | at_ (i c0 c1 c2 c3 : Int) (L : List Int) (hi : i = 0) (hH : Held 25 L c0 c1 c2 c3 i) : VInv1 lg pre 1 (vS35 pre i L)
  | out (i : Int) (L : List Int) (hx : 0 < i) : VInv1 lg pre 0 (vS35 pre i L)
theorem vloop1 (lg : Int) (pre : Nat) (m : Nat) (s : KSt) (hI : VInv1 lg pre m s) :
    Gets Try.prog (KH.low ⟨1, 1, []⟩) (codeAt [1, 1, 1, 1, 1, 0, 1] B) s.low (onN (fun s => Gets Try.prog (KH.low ⟨1, 1, []⟩) (codeAt [1, 1, 1, 1, 1, 1] B) s (QE)) (QE)) := by
  rw [C1_1_1_1_1_0_1, C1_1_1_1_1_0_1_0]
  refine Gets.loopG (fun m s => VInv1 lg pre m s) ?_ _ _ hI
  clear hI m s
  intro m s hI
  cases hI with
  | at_ i c0 c1 c2 c3 L hi hH =>
    obtain ⟨g, h0, h1, h2, h3, p0, p1, p2, p3, hs⟩ := hH
    refine vre1 lg i c0 c1 c2 c3 0 pre L g h0 h1 h2 h3 p0 p1 p2 p3 hs (by omega) hi ?_
    exact ⟨_, _, by omega, rfl, .out (i + 1) L (by omega)⟩
  | out i L hx =>
    refine vrx1 lg i 0 0 0 0 0 pre L hx ?_
    refine ⟨fun _ => ?_, fun h => by cases h⟩
    exact vrf1 lg i 0 0 0 0 0 pre L (qe_true (by kernel_rfl))
theorem held1 : Held 25 (List.replicate 25 0) 0 0 0 0 0 := ⟨rfl, rfl, rfl, rfl, rfl, by decide, by decide, by decide, by decide, by decide⟩
inductive Inv2 (lg : Int) (pre n c : Nat) (l : List Int) (e : TypeId) : Nat → KSt → Prop
  | at_ (i c0 c1 c2 c3 : Int) (L : List Int) (hi : 0 ≤ i) (hin : i ≤ (n : Int)) (hH : Held 43 L c0 c1 c2 c3 i) : Inv2 lg pre n c l e ((n : Int) + 1 - i).toNat (S58 pre n c i L l e)
  | out (i : Int) (L : List Int) (hx : (n : Int) < i) : Inv2 lg pre n c l e 0 (S58 pre n c i L l e)
theorem loop2 (lg : Int) (pre n c : Nat) (l : List Int) (e : TypeId) (hn80 : n ≤ 80) (hc : n ≤ c) (hl : l.length = c) (hcp : c ≤ 9223372036854775807) (hlw : ∀ j, 0 ≤ l.getD j 0 ∧ l.getD j 0 < 256) (m : Nat) (s : KSt) (hI : Inv2 lg pre n c l e m s) :
    Gets Try.prog (KH.low ⟨1, 1, [(0, 0, .tail pre .u8 l e)]⟩) (codeAt [1, 1, 1, 1, 1, 0, 1] B) s.low (onN (fun s => Gets Try.prog (KH.low ⟨1, 1, [(0, 0, .tail pre .u8 l e)]⟩) (codeAt [1, 1, 1, 1, 1, 1] B) s (QE)) (QE)) := by
  rw [C1_1_1_1_1_0_1, C1_1_1_1_1_0_1_0]
  refine Gets.loopG (fun m s => Inv2 lg pre n c l e m s) ?_ _ _ hI
  clear hI m s
  intro m s hI
  cases hI with
  | at_ i c0 c1 c2 c3 L hi hin hH =>
    obtain ⟨g, h0, h1, h2, h3, p0, p1, p2, p3, hs⟩ := hH
    by_cases hx : i = (n : Int)
    · refine re2 lg i c0 c1 c2 c3 0 pre n c l L e g h0 h1 h2 h3 p0 p1 p2 p3 hs hi hn80 hc hl hcp hx ?_
      exact ⟨_, _, by omega, rfl, .out (i + 1) L (by omega)⟩
    · obtain ⟨y, hy⟩ : ∃ y, (bits .and .i64 (Int.tmod (l.getD ((Int.toNat i) * 1) 0) 64) 3) = y := ⟨_, rfl⟩
      have hu := hlw ((Int.toNat i) * 1)
      have hyb : 0 ≤ y ∧ y ≤ 3 := by rw [← hy, and3_i64]; omega
      obtain ⟨d0, d1, d2, d3, hN⟩ := held_more (y := y) ⟨g, h0, h1, h2, h3, p0, p1, p2, p3, hs⟩ (by decide) (by omega) hyb.1 hyb.2
      refine rm2 lg i c0 c1 c2 c3 y pre n c l L e g h0 h1 h2 h3 p0 p1 p2 p3 hs hi hn80 hc hl hcp (by omega) hu hy hyb.1 hyb.2 ?_
      exact ⟨_, _, by omega, rfl, .at_ (i + 1) d0 d1 d2 d3 _ (by omega) (by omega) hN⟩
  | out i L hx =>
    refine rx2 lg i 0 0 0 0 0 pre n c l L e hx ?_
    refine ⟨fun _ => ?_, fun h => by cases h⟩
    exact rf2 lg i 0 0 0 0 0 pre n c l L e (qe_true (by kernel_rfl))
inductive VInv2 (lg : Int) (pre : Nat) : Nat → KSt → Prop
  | at_ (i c0 c1 c2 c3 : Int) (L : List Int) (hi : i = 0) (hH : Held 43 L c0 c1 c2 c3 i) : VInv2 lg pre 1 (vS46 pre i L)
  | out (i : Int) (L : List Int) (hx : 0 < i) : VInv2 lg pre 0 (vS46 pre i L)
theorem vloop2 (lg : Int) (pre : Nat) (m : Nat) (s : KSt) (hI : VInv2 lg pre m s) :
    Gets Try.prog (KH.low ⟨1, 1, []⟩) (codeAt [1, 1, 1, 1, 1, 0, 1] B) s.low (onN (fun s => Gets Try.prog (KH.low ⟨1, 1, []⟩) (codeAt [1, 1, 1, 1, 1, 1] B) s (QE)) (QE)) := by
  rw [C1_1_1_1_1_0_1, C1_1_1_1_1_0_1_0]
  refine Gets.loopG (fun m s => VInv2 lg pre m s) ?_ _ _ hI
  clear hI m s
  intro m s hI
  cases hI with
  | at_ i c0 c1 c2 c3 L hi hH =>
    obtain ⟨g, h0, h1, h2, h3, p0, p1, p2, p3, hs⟩ := hH
    refine vre2 lg i c0 c1 c2 c3 0 pre L g h0 h1 h2 h3 p0 p1 p2 p3 hs (by omega) hi ?_
    exact ⟨_, _, by omega, rfl, .out (i + 1) L (by omega)⟩
  | out i L hx =>
    refine vrx2 lg i 0 0 0 0 0 pre L hx ?_
    refine ⟨fun _ => ?_, fun h => by cases h⟩
    exact vrf2 lg i 0 0 0 0 0 pre L (qe_true (by kernel_rfl))
theorem held2 : Held 43 (List.replicate 43 0) 0 0 0 0 0 := ⟨rfl, rfl, rfl, rfl, rfl, by decide, by decide, by decide, by decide, by decide⟩
inductive Inv3 (lg : Int) (pre n c : Nat) (l : List Int) (e : TypeId) : Nat → KSt → Prop
  | at_ (i c0 c1 c2 c3 : Int) (L : List Int) (hi : 0 ≤ i) (hin : i ≤ (n : Int)) (hH : Held 79 L c0 c1 c2 c3 i) : Inv3 lg pre n c l e ((n : Int) + 1 - i).toNat (S75 pre n c i L l e)
  | out (i : Int) (L : List Int) (hx : (n : Int) < i) : Inv3 lg pre n c l e 0 (S75 pre n c i L l e)
theorem loop3 (lg : Int) (pre n c : Nat) (l : List Int) (e : TypeId) (hn80 : n ≤ 80) (hc : n ≤ c) (hl : l.length = c) (hcp : c ≤ 9223372036854775807) (hlw : ∀ j, 0 ≤ l.getD j 0 ∧ l.getD j 0 < 256) (m : Nat) (s : KSt) (hI : Inv3 lg pre n c l e m s) :
    Gets Try.prog (KH.low ⟨1, 1, [(0, 0, .tail pre .u8 l e)]⟩) (codeAt [1, 1, 1, 1, 1, 0, 1] B) s.low (onN (fun s => Gets Try.prog (KH.low ⟨1, 1, [(0, 0, .tail pre .u8 l e)]⟩) (codeAt [1, 1, 1, 1, 1, 1] B) s (QE)) (QE)) := by
  rw [C1_1_1_1_1_0_1, C1_1_1_1_1_0_1_0]
  refine Gets.loopG (fun m s => Inv3 lg pre n c l e m s) ?_ _ _ hI
  clear hI m s
  intro m s hI
  cases hI with
  | at_ i c0 c1 c2 c3 L hi hin hH =>
    obtain ⟨g, h0, h1, h2, h3, p0, p1, p2, p3, hs⟩ := hH
    by_cases hx : i = (n : Int)
    · refine re3 lg i c0 c1 c2 c3 0 pre n c l L e g h0 h1 h2 h3 p0 p1 p2 p3 hs hi hn80 hc hl hcp hx ?_
      exact ⟨_, _, by omega, rfl, .out (i + 1) L (by omega)⟩
    · obtain ⟨y, hy⟩ : ∃ y, (bits .and .i64 (Int.tmod (l.getD ((Int.toNat i) * 1) 0) 64) 3) = y := ⟨_, rfl⟩
      have hu := hlw ((Int.toNat i) * 1)
      have hyb : 0 ≤ y ∧ y ≤ 3 := by rw [← hy, and3_i64]; omega
      obtain ⟨d0, d1, d2, d3, hN⟩ := held_more (y := y) ⟨g, h0, h1, h2, h3, p0, p1, p2, p3, hs⟩ (by decide) (by omega) hyb.1 hyb.2
      refine rm3 lg i c0 c1 c2 c3 y pre n c l L e g h0 h1 h2 h3 p0 p1 p2 p3 hs hi hn80 hc hl hcp (by omega) hu hy hyb.1 hyb.2 ?_
      exact ⟨_, _, by omega, rfl, .at_ (i + 1) d0 d1 d2 d3 _ (by omega) (by omega) hN⟩
  | out i L hx =>
    refine rx3 lg i 0 0 0 0 0 pre n c l L e hx ?_
    refine ⟨fun _ => ?_, fun h => by cases h⟩
    exact rf3 lg i 0 0 0 0 0 pre n c l L e (qe_true (by kernel_rfl))
inductive VInv3 (lg : Int) (pre : Nat) : Nat → KSt → Prop
  | at_ (i c0 c1 c2 c3 : Int) (L : List Int) (hi : i = 0) (hH : Held 79 L c0 c1 c2 c3 i) : VInv3 lg pre 1 (vS57 pre i L)
  | out (i : Int) (L : List Int) (hx : 0 < i) : VInv3 lg pre 0 (vS57 pre i L)
theorem vloop3 (lg : Int) (pre : Nat) (m : Nat) (s : KSt) (hI : VInv3 lg pre m s) :
    Gets Try.prog (KH.low ⟨1, 1, []⟩) (codeAt [1, 1, 1, 1, 1, 0, 1] B) s.low (onN (fun s => Gets Try.prog (KH.low ⟨1, 1, []⟩) (codeAt [1, 1, 1, 1, 1, 1] B) s (QE)) (QE)) := by
  rw [C1_1_1_1_1_0_1, C1_1_1_1_1_0_1_0]
  refine Gets.loopG (fun m s => VInv3 lg pre m s) ?_ _ _ hI
  clear hI m s
  intro m s hI
  cases hI with
  | at_ i c0 c1 c2 c3 L hi hH =>
    obtain ⟨g, h0, h1, h2, h3, p0, p1, p2, p3, hs⟩ := hH
    refine vre3 lg i c0 c1 c2 c3 0 pre L g h0 h1 h2 h3 p0 p1 p2 p3 hs (by omega) hi ?_
    exact ⟨_, _, by omega, rfl, .out (i + 1) L (by omega)⟩
  | out i L hx =>
    refine vrx3 lg i 0 0 0 0 0 pre L hx ?_
    refine ⟨fun _ => ?_, fun h => by cases h⟩
    exact vrf3 lg i 0 0 0 0 0 pre L (qe_true (by kernel_rfl))
theorem held3 : Held 79 (List.replicate 79 0) 0 0 0 0 0 := ⟨rfl, rfl, rfl, rfl, rfl, by decide, by decide, by decide, by decide, by decide⟩
theorem four (lg : Int) (h0 : 0 ≤ lg) (h1 : lg < 256) : (Int.tmod (IntKind.wrap .i64 lg) 4) = 0 ∨ (Int.tmod (IntKind.wrap .i64 lg) 4) = 1 ∨ (Int.tmod (IntKind.wrap .i64 lg) 4) = 2 ∨ (Int.tmod (IntKind.wrap .i64 lg) 4) = 3 := by
  rw [wrap_i64_id (by omega) (by omega), Int.tmod_eq_emod_of_nonneg h0]
  omega
theorem told (lg : Int) (pre n c : Nat) (l : List Int) (e : TypeId) (h0 : 0 ≤ lg) (h1 : lg < 256) (hc : n ≤ c) (hcp : c ≤ 9223372036854775807) (hl : l.length = c) (hlw : ∀ j, 0 ≤ l.getD j 0 ∧ l.getD j 0 < 256) :
    Tells Try.prog 3 [.int .u8 lg, .slice (some ⟨0, pre, none⟩) n c] (KH.low ⟨1, 1, [(0, 0, .tail pre .u8 l e)]⟩) (.bool true) := by
  refine Gets.tells Try.func3 B_is (by rw [noVars]; exact Nat.zero_le _) rfl ?_ Ro.oneRow
  show Gets Try.prog (KH.low ⟨1, 1, [(0, 0, .tail pre .u8 l e)]⟩) B (KSt.low (S0 lg pre n c l e)) QE
  by_cases hn : 80 < n
  · exact r80 lg 0 0 0 0 0 0 pre n c l [] e hn (qe_true (by kernel_rfl))
  have hn80 : n ≤ 80 := by omega
  rcases four lg h0 h1 with hk | hk | hk | hk
  · refine pre0 lg 0 0 0 0 0 0 pre n c l [] e hn80 hk ?_
    exact loop0 lg pre n c l e hn80 hc hl hcp hlw _ _ (.at_ 0 0 0 0 0 _ (by omega) (by omega) held0)
  · refine pre1 lg 0 0 0 0 0 0 pre n c l [] e hn80 hk ?_
    exact loop1 lg pre n c l e hn80 hc hl hcp hlw _ _ (.at_ 0 0 0 0 0 _ (by omega) (by omega) held1)
  · refine pre2 lg 0 0 0 0 0 0 pre n c l [] e hn80 hk ?_
    exact loop2 lg pre n c l e hn80 hc hl hcp hlw _ _ (.at_ 0 0 0 0 0 _ (by omega) (by omega) held2)
  · refine pre3 lg 0 0 0 0 0 0 pre n c l [] e hn80 hk ?_
    exact loop3 lg pre n c l e hn80 hc hl hcp hlw _ _ (.at_ 0 0 0 0 0 _ (by omega) (by omega) held3)
theorem toldV (lg : Int) (h0 : 0 ≤ lg) (h1 : lg < 256) : Tells Try.prog 3 [.int .u8 lg, .slice (some ⟨0, 0, none⟩) 0 0] (KH.low ⟨1, 1, []⟩) (.bool true) := by
  refine Gets.tells Try.func3 B_is (by rw [noVars]; exact Nat.zero_le _) rfl ?_ (Ro.empty _ _)
  show Gets Try.prog (KH.low ⟨1, 1, []⟩) B (KSt.low (vS0 lg 0)) QE
  rcases four lg h0 h1 with hk | hk | hk | hk
  · refine vpre0 lg 0 0 0 0 0 0 0 [] hk ?_
    exact vloop0 lg 0 _ _ (.at_ 0 0 0 0 0 _ rfl held0)
  · refine vpre1 lg 0 0 0 0 0 0 0 [] hk ?_
    exact vloop1 lg 0 _ _ (.at_ 0 0 0 0 0 _ rfl held1)
  · refine vpre2 lg 0 0 0 0 0 0 0 [] hk ?_
    exact vloop2 lg 0 _ _ (.at_ 0 0 0 0 0 _ rfl held2)
  · refine vpre3 lg 0 0 0 0 0 0 0 [] hk ?_
    exact vloop3 lg 0 _ _ (.at_ 0 0 0 0 0 _ rfl held3)
theorem own : ownKnob Try.prog.godebug = none := by kernel_rfl
theorem lifted (os : Os) (started : os.Started) (H : Type) (enc : TypeId × Value → H) :
    ReturnsInHanded {} Try.checked os 3 .any (Rows.crowdCountsSpec.pre6 enc Try.prog Try.f3 Rows.crowdCountsRow.domain false) (Rows.crowdCountsSpec.post enc Try.prog Try.f3 false true false false) := by
  refine returnsInHanded_of_change_sized (C := Try.checked) own started (by kernel_rfl) Try.func3
    (ChangeSpec.witness6 (enc := enc) (C := Try.checked) false ⟨#[], #[.int .u8 0, .slice none 0 0], []⟩ 8 (by kernel_rfl) (by kernel_rfl) (by kernel_rfl) (by kernel_rfl)) ?_
  intro W base args ds gs before hval0 hW hcnd hsz0 _
  have hval : ∀ (j : Nat) t v, Try.f3.params[j]? = some t → args[j]? = some v → Value.okWide Try.prog W .any base t v := hval0
  have hW' := hW
  obtain ⟨p, q, hA0, hV, rfl, hfz, hnd⟩ := hW
  have hA : DataW.TrodAll enc Try.prog W 0 (fun _ => true) true Try.f3.params.toList args.toList ds p := hA0
  rw [Try.params3] at hA hval
  have hS := hA
  obtain ⟨v0, vs0, d0, ds0, p0, q0, hargs, rfl, rfl, h0, r0⟩ := trodAll_cons hA
  obtain ⟨v1, vs1, d1, ds1, p1, q1, rfl, rfl, rfl, h1, r1⟩ := trodAll_cons r0
  obtain ⟨rfl, rfl, rfl⟩ := trodAll_nil r1
  obtain rfl : args = #[v0, v1] := by cases args; simp_all
  obtain ⟨rfl, rfl⟩ := trodVars_none hV
  suffices hc : Calls Try.prog 3 #[v0, v1] W fun e W' => e = .returned (.bool true) ∧ Below W.heap.size W W' by
    refine hc.mono fun e W' ⟨he, bel⟩ => ?_
    subst he
    exact ⟨_, rfl, _, _, _, [], _, [], hW', trodAll_mk1 (shut_bool Try.underlying4 _), trodAll_stays fineA bel (by decide +kernel) hS, rfl, bel.frame _, fun h => by cases h⟩
  clear hS hW' hfz hnd
  obtain ⟨a0, rfl, rfl, rfl, w0⟩ := open_int Try.underlying5 (hval 0 5 v0 rfl rfl) h0
  have o1 := Go.Eng.open_row Try.underlying22 Try.underlying5 (by kernel_rfl) (hval 1 22 v1 rfl rfl) h1
  rcases o1 with ⟨x, rfl⟩ | ⟨a, len, cap, zs, rfl, h0, hle, hmx, hz, hcell, hwf⟩
  · exact toldV a0 (wf_u8 w0).1 (wf_u8 w0).2 _ W _ (.cons (.int _ _) (.cons (.slice00 _ _ _) (.nil _))) (Sim.none noVars W _ _)
  · obtain ⟨e, hS, hsp⟩ := Sim.oneRow noVars (by omega) hcell
    obtain ⟨blk, off, spot⟩ := a
    simp only at hsp
    subst hsp
    have hlw : ∀ j, 0 ≤ zs.getD j 0 ∧ zs.getD j 0 < 256 := by
      intro j
      by_cases hj : j < zs.length
      · exact wf_u8 (hwf _ (by rw [List.getD_eq_getElem?_getD, List.getElem?_eq_getElem hj]; exact List.getElem_mem hj))
      · rw [List.getD_eq_getElem?_getD, List.getElem?_eq_none (by omega)]; exact ⟨by decide, by decide⟩
    exact told a0 off len cap zs e (wf_u8 w0).1 (wf_u8 w0).2 hle (by simpa [maxLen] using hmx) hz hlw _ W _ (.cons (.int _ _) (.cons (R.slice_row rfl) (.nil _))) hS
theorem over : Rows.crowdCountsRow.holds Try.pinned (OpenSpec.ofChange Rows.crowdCountsSpec) :=
  OpenClaim.holds_of_wide 3 Try.f3 rfl rfl rfl rfl rfl rfl rfl ⟨rfl, rfl, rfl, rfl, rfl⟩ rfl rfl rfl rfl rfl (by kernel_rfl) Try.func3 (by kernel_rfl)
    (of_decide_eq_true (by kernel_rfl)) (by unfold Func.isWrapper; first | (rw [if_pos (by decide +kernel)]; kernel_rfl) | (rw [if_neg (by decide +kernel)]; exact ⟨rfl, rfl⟩))
    (fun os started H enc _ => lifted os started H enc)
end Go.Proofs.Ytpnidhkghiiipaa.crowdCounts
namespace Go.Proofs.Ytpnidhkghiiipaa
/-- The row, under a short name, for the claim. -/
theorem crowdCounts_holds : Rows.CrowdCountsSaid := crowdCounts.over
#print axioms crowdCounts_holds
end Go.Proofs.Ytpnidhkghiiipaa
