/- What was stored in an arena is loaded, and what was freed is never touched again without a fault. -/
import Derived.Test.YthdglcimdnpccaaKpR
import Derived.WalkKit
import Derived.ProofKit
import Derived.OpenShut
import Derived.ChangeOld
import Derived.Below
import Derived.SizedLaws
namespace Go.Proofs.Ythdglcimdnpccaa.arenaKeeps
open Go.Eng
open Go.ChangeShapes Go.WideShapes Go.ChangeAt Go.RowKit
set_option linter.unusedVariables false
set_option linter.unusedSimpArgs false
set_option maxRecDepth 100000
/-! What is plain of the statement. -/
theorem szK_le {l : List Int} (hw : ∀ i, 0 ≤ l.getD i 0 ∧ l.getD i 0 < 256) (i : Nat) : 1 ≤ szK l i ∧ szK l i ≤ 16 ∧ szK l i = l.getD i 0 % 16 + 1 := by
  obtain ⟨h1, h2⟩ := hw i
  unfold szK
  rw [wrap_i64_id (n := l.getD i 0) (by omega) (by omega), Int.tmod_eq_emod_of_nonneg h1, wrap_i64_id (by omega) (by omega)]
  omega
theorem err_ok {S : ArSt} {b i : Int} {L : List Int} (h : S.find b = some L) (h0 : 0 ≤ i) (h1 : i < (L.length : Int)) : S.err b i = 0 := ArSt.err_in h h0 h1
theorem err_no {S : ArSt} {b i : Int} (h : S.find b = none) : S.err b i = 13 := ArSt.err_none h
theorem word_of {S : ArSt} {b i : Int} {L : List Int} (h : S.find b = some L) : S.word b i = L.getD i.toNat 0 := by unfold ArSt.word; rw [ArSt.row_find h]
theorem touch_no {S : ArSt} {b i : Int} (h : S.find b = none) : S.touch b i = S.fault := by unfold ArSt.touch; rw [err_no h]; rfl
theorem getD_rep (n i : Nat) : (List.replicate n (0 : Int)).getD i 0 = 0 := by
  rw [List.getD_eq_getElem?_getD, List.getElem?_replicate]; split <;> rfl
theorem getD_setK (L : List Int) (i j : Nat) (v : Int) : (L.set i v).getD j 0 = if j = i ∧ i < L.length then v else L.getD j 0 := by
  rw [List.getD_eq_getElem?_getD, List.getD_eq_getElem?_getD, List.getElem?_set]
  by_cases h : i = j
  · subst h
    by_cases h2 : i < L.length
    · simp [h2]
    · simp [h2]
  · rw [if_neg h, if_neg (by omega)]
/-- The arena behind so many allocations. -/
structure KInv (l : List Int) (m : Nat) (S : ArSt) (q : List Int) : Prop where
  cells : S.cells = 10000
  last : S.last = (m : Int)
  used : S.used ≤ 16 * (m : Int)
  len : q.length = m
  q : ∀ i, i < m → q.getD i 0 = (i : Int) + 1
  found : ∀ i, i < m → S.find ((i : Int) + 1) = some (List.replicate (szK l i).toNat 0)
  none : ∀ b, (m : Int) < b → S.find b = Option.none
theorem KInv.zero (l : List Int) : KInv l 0 (ArSt.mk 10000 0 0 0 []) [] := ⟨rfl, rfl, by decide, rfl, fun i h => by omega, fun i h => by omega, fun b h => rfl⟩
theorem KInv.step {l : List Int} (hw : ∀ i, 0 ≤ l.getD i 0 ∧ l.getD i 0 < 256) {m : Nat} {S : ArSt} {q : List Int} (h : KInv l m S q) (hm : m < 20) : KInv l (m + 1) (S.alloc (szK l m)) (List.take m q ++ [S.allocV (szK l m)]) := by
  obtain ⟨h1, h2, _⟩ := szK_le hw m
  have hr : S.room (szK l m) = true := ArSt.room_iff.2 ⟨h1, by have := h.cells; have := h.used; omega⟩
  have hn : S.nextB = (m : Int) + 1 := by unfold ArSt.nextB; rw [h.last, wrap_u64_id (by omega) (by omega)]
  have hq : List.take m q = q := List.take_of_length_le (by rw [h.len]; exact Nat.le_refl _)
  have ha := ArSt.alloc_room hr
  rw [hq, ArSt.allocV_room hr, hn]
  refine ⟨by rw [ha]; exact h.cells, by rw [ha]; show S.nextB = _; rw [hn]; push_cast; rfl, by rw [ha]; show S.used + szK l m ≤ _; have := h.used; push_cast; omega, by simp [h.len], fun i hi => ?_, fun i hi => ?_, fun b hb => ?_⟩
  · rw [List.getD_eq_getElem?_getD, List.getElem?_append]
    by_cases hl : i < q.length
    · rw [if_pos hl, ← List.getD_eq_getElem?_getD]; exact h.q i (by rw [← h.len]; exact hl)
    · rw [if_neg hl]
      have : i = m := by rw [h.len] at hl; omega
      subst this
      rw [h.len, Nat.sub_self]; rfl
  · rw [ArSt.find_alloc hr, hn]
    by_cases e : i = m
    · subst e; rw [if_pos rfl]
    · rw [if_neg (by omega)]; exact h.found i (by omega)
  · rw [ArSt.find_alloc hr, hn, if_neg (by push_cast at hb; omega)]
    exact h.none b (by push_cast at hb; omega)
noncomputable def QL : Ex → St → Prop := Eng.Ends Try.prog Try.f3.results.toList fun r _ => r = .bool true
theorem qL {s : KSt} (h : resL Try.prog s.low Try.f3.results.toList = some [.bool true]) : QL .ret s.low := Ends.of h rfl
theorem roK {off : Nat} {l : List Int} {e : TypeId} : Ro (mkH [.tail off .u8 l e]).low := fun a o ho => by
  obtain ⟨_, rfl⟩ := mkH1_get ho; rfl
theorem ro0 : Ro (mkH []).low := fun a o ho => by cases ho

inductive KiInv (off n c : Nat) (v k0 j0 o : Int) (a : Nat) (q : List Int) (S : ArSt) (l : List Int) (e : TypeId) : Nat → KSt → Prop
  | r (z : Nat) (hz : (z : Int) ≤ szK l a) : KiInv off n c v k0 j0 o a q S l e (szK l a - z).toNat (KS40 off n c v k0 j0 o a z q S l e)
/-- The words of one block. -/
theorem loopI (off n c : Nat) (v k0 j0 o : Int) (a : Nat) (q : List Int) (S : ArSt) (l : List Int) (e : TypeId) (hl : l.length = c) (hc : n ≤ c) (h2 : n ≤ 20) (hqn : q.length = n) (ha : a < n) (hs1 : 1 ≤ szK l a) (hs : szK l a ≤ 16)
    (hE : ∀ z : Nat, (z : Int) < szK l a → ArSt.err S (q.getD (0 + a) 0) z = 0) (hW : ∀ z : Nat, (z : Int) < szK l a → ArSt.loadV S (q.getD (0 + a) 0) z = if (a : Int) = k0 ∧ (z : Int) = j0 then v else 0)
    {K_ : Ex → St → Prop} (hK : ∀ z : Nat, K_ .normal (KSt.low (KS42 off n c v k0 j0 o a z l q S e))) (i : Nat) (t : KSt) (hI : KiInv off n c v k0 j0 o a q S l e i t) : Gets Try.prog (KH.low ⟨1, 1, [(0, 0, .tail off .u8 l e)]⟩) (codeAt [1, 1, 1, 1, 1, 1, 1, 1, 1, 1, 0, 1, 0, 0, 1, 0, 0, 1] BK) t.low K_ := by
  rw [KC1_1_1_1_1_1_1_1_1_1_0_1_0_0_1_0_0_1, KC1_1_1_1_1_1_1_1_1_1_0_1_0_0_1_0_0_1_0]
  refine Gets.loopG (fun i t => KiInv off n c v k0 j0 o a q S l e i t) ?_ _ _ hI
  clear hI i t
  intro i t hI
  cases hI with
  | r z hz =>
    by_cases hlt : (z : Int) < szK l a
    · have hE1 := hE z hlt
      have hW1 := hW z hlt
      have nxt : ∃ m' k, m' < (szK l a - (z : Int)).toNat ∧ KSt.low (KS40 off n c v k0 j0 o a (z + 1) q S l e) = KSt.low k ∧ KiInv off n c v k0 j0 o a q S l e m' k := ⟨(szK l a - ((z + 1 : Nat) : Int)).toNat, _, by push_cast; omega, rfl, .r (z + 1) (by push_cast; omega)⟩
      by_cases hk : (a : Int) = k0
      · by_cases hj : (z : Int) = j0
        · rw [if_pos ⟨hk, hj⟩] at hW1
          exact KiA hl hc h2 hqn ha hlt hs hE1 hW1 hk hj rfl nxt
        · rw [if_neg (fun h => hj h.2)] at hW1
          exact KiC hl hc h2 hqn ha hlt hs hE1 hW1 hk hj rfl nxt
      · rw [if_neg (fun h => hk h.1)] at hW1
        exact KiB hl hc h2 hqn ha hlt hs hE1 hW1 hk rfl nxt
    · refine Kix hl hc h2 hqn ha hlt ?_
      exact ⟨fun _ => hK z, fun h => by cases h⟩
inductive KoInv (off n c : Nat) (v k0 j0 o : Int) (q : List Int) (S : ArSt) (l : List Int) (e : TypeId) : Nat → KSt → Prop
  | r (a : Nat) (ha : a ≤ n) : KoInv off n c v k0 j0 o q S l e (n - a) (KS37 off n c v k0 j0 o a q S l e)
theorem loopO (off n c : Nat) (v k0 j0 o : Int) (q : List Int) (S : ArSt) (l : List Int) (e : TypeId) (hl : l.length = c) (hc : n ≤ c) (h2 : n ≤ 20) (hqn : q.length = n) (hs : ∀ a, 1 ≤ szK l a ∧ szK l a ≤ 16)
    (hE : ∀ a, a < n → ∀ z : Nat, (z : Int) < szK l a → ArSt.err S (q.getD (0 + a) 0) z = 0) (hW : ∀ a, a < n → ∀ z : Nat, (z : Int) < szK l a → ArSt.loadV S (q.getD (0 + a) 0) z = if (a : Int) = k0 ∧ (z : Int) = j0 then v else 0)
    (hend : ∀ a, Gets Try.prog (KH.low ⟨1, 1, [(0, 0, .tail off .u8 l e)]⟩) (codeAt [1, 1, 1, 1, 1, 1, 1, 1, 1, 1, 1] BK) (KSt.low (KS38 off n c v k0 j0 o a q S l e)) QL) (i : Nat) (t : KSt) (hI : KoInv off n c v k0 j0 o q S l e i t) : Gets Try.prog (KH.low ⟨1, 1, [(0, 0, .tail off .u8 l e)]⟩) (codeAt [1, 1, 1, 1, 1, 1, 1, 1, 1, 1, 0, 1] BK) t.low (onN (fun s => Gets Try.prog (KH.low ⟨1, 1, [(0, 0, .tail off .u8 l e)]⟩) (codeAt [1, 1, 1, 1, 1, 1, 1, 1, 1, 1, 1] BK) s (QL)) (QL)) := by
  rw [KC1_1_1_1_1_1_1_1_1_1_0_1, KC1_1_1_1_1_1_1_1_1_1_0_1_0]
  refine Gets.loopG (fun i t => KoInv off n c v k0 j0 o q S l e i t) ?_ _ _ hI
  clear hI i t
  intro i t hI
  cases hI with
  | r a ha =>
    by_cases hlt : a < n
    · refine Ko0 hlt ?_
      refine loopI off n c v k0 j0 o a q S l e hl hc h2 hqn hlt (hs a).1 (hs a).2 (hE a hlt) (hW a hlt) (fun z => ?_) (szK l a - ((0 : Nat) : Int)).toNat (KS40 off n c v k0 j0 o a (0) q S l e) (.r 0 (by have := (hs a).1; omega))
      refine Ko2 (z := z) (by omega) ?_
      exact ⟨n - (a + 1), _, by omega, rfl, .r (a + 1) (by omega)⟩
    · refine Kox (by omega) ?_
      exact ⟨fun _ => hend a, fun h => by cases h⟩
inductive KpInv (off n c : Nat) (l : List Int) (e : TypeId) (x0 x1 x2 v : Int) : Nat → KSt → Prop
  | z : KpInv off n c l e x0 x1 x2 v n (KS7 off n c v x0 x1 x2 l e)
  | p (m : Nat) (S : ArSt) (q : List Int) (h1 : 1 ≤ m) (hm : m ≤ n) (hk : KInv l m S q) : KpInv off n c l e x0 x1 x2 v (n - m) (KS13 off n c v m q S x0 x1 x2 l e)
theorem loopA (off n c : Nat) (l : List Int) (e : TypeId) (x0 x1 x2 v : Int) (hl : l.length = c) (hc : n ≤ c) (h1 : 1 ≤ n) (h2 : n ≤ 20) (hw : ∀ i, 0 ≤ l.getD i 0 ∧ l.getD i 0 < 256) (hx0 : 0 ≤ x0) (hy0 : x0 < 256) (hx1 : 0 ≤ x1) (hy1 : x1 < 256) (hx2 : 0 ≤ x2) (hy2 : x2 < 256)
    (i : Nat) (t : KSt) (hI : KpInv off n c l e x0 x1 x2 v i t) : Gets Try.prog (KH.low ⟨1, 1, [(0, 0, .tail off .u8 l e)]⟩) (codeAt [1, 1, 1, 1, 0, 1] BK) t.low (onN (fun s => Gets Try.prog (KH.low ⟨1, 1, [(0, 0, .tail off .u8 l e)]⟩) (codeAt [1, 1, 1, 1, 1] BK) s (QL)) (QL)) := by
  rw [KC1_1_1_1_0_1, KC1_1_1_1_0_1_0]
  refine Gets.loopG (fun i t => KpInv off n c l e x0 x1 x2 v i t) ?_ _ _ hI
  clear hI i t
  intro i t hI
  cases hI with
  | z =>
    refine Ka1 hl hc h2 h1 ?_
    exact ⟨n - 1, (KS13 off n c v (1) ([ArSt.allocV (ArSt.mk 10000 0 0 0 []) (szK l 0)]) (ArSt.alloc (ArSt.mk 10000 0 0 0 []) (szK l 0)) x0 x1 x2 l e), by omega, rfl, .p 1 _ _ (Nat.le_refl _) h1 ((KInv.zero l).step hw (by decide))⟩
  | p m S q g1 hm hk =>
    by_cases hlt : m < n
    · refine Kb1 hl hc h2 hlt hk.len g1 ?_
      exact ⟨n - (m + 1), (KS13 off n c v (m + 1) (List.take m q ++ [ArSt.allocV S (szK l m)]) (ArSt.alloc S (szK l m)) x0 x1 x2 l e), by omega, rfl, .p (m + 1) _ _ (by omega) (by omega) (hk.step hw (by omega))⟩
    · have hmn : m = n := by omega
      subst hmn
      refine Kbx (Nat.le_refl _) ?_
      refine ⟨fun _ => ?_, fun h => by cases h⟩
      -- the numbers
      have hmp : (0 : Int) < (m : Int) := by omega
      have hk0e : Int.tmod (IntKind.wrap .i64 x0) ((m : Nat) : Int) = x0 % (m : Int) := by rw [wrap_i64_id (by omega) (by omega), Int.tmod_eq_emod_of_nonneg hx0]
      have hoe : Int.tmod (IntKind.wrap .i64 x2) ((m : Nat) : Int) = x2 % (m : Int) := by rw [wrap_i64_id (by omega) (by omega), Int.tmod_eq_emod_of_nonneg hx2]
      generalize hk0 : x0 % (m : Int) = k0 at hk0e
      generalize ho : x2 % (m : Int) = o at hoe
      have k00 : 0 ≤ k0 := by rw [← hk0]; exact Int.emod_nonneg _ (by omega)
      have k01 : k0 < (m : Int) := by rw [← hk0]; exact Int.emod_lt_of_pos _ hmp
      have o0 : 0 ≤ o := by rw [← ho]; exact Int.emod_nonneg _ (by omega)
      have o1 : o < (m : Int) := by rw [← ho]; exact Int.emod_lt_of_pos _ hmp
      obtain ⟨s1, s2, _⟩ := szK_le hw k0.toNat
      have hje : Int.tmod (IntKind.wrap .i64 x1) (szK l k0.toNat) = x1 % szK l k0.toNat := by rw [wrap_i64_id (by omega) (by omega), Int.tmod_eq_emod_of_nonneg hx1]
      generalize hj : x1 % szK l k0.toNat = j0 at hje
      have j00 : 0 ≤ j0 := by rw [← hj]; exact Int.emod_nonneg _ (by omega)
      have j01 : j0 < szK l k0.toNat := by rw [← hj]; exact Int.emod_lt_of_pos _ (by omega)
      have hqk : q.getD (0 + k0.toNat) 0 = k0 + 1 := by rw [Nat.zero_add, hk.q _ (by omega)]; omega
      have hqo : q.getD (0 + o.toNat) 0 = o + 1 := by rw [Nat.zero_add, hk.q _ (by omega)]; omega
      have hfk : S.find (k0 + 1) = some (List.replicate (szK l k0.toNat).toNat 0) := by
        have := hk.found k0.toNat (by omega)
        rw [show ((k0.toNat : Nat) : Int) = k0 by omega] at this; exact this
      have hlen : ∀ a, ((List.replicate (szK l a).toNat (0 : Int)).length : Int) = szK l a := fun a => by rw [List.length_replicate]; have := (szK_le hw a).1; omega
      have hE0 : S.err (k0 + 1) j0 = 0 := err_ok hfk j00 (by rw [hlen]; exact j01)
      refine Kst hl hc h1 h2 hk.len hk0e hoe k00 k01 rfl s1 hje (by rw [hqk]; exact hE0) ?_
      show Gets Try.prog (KH.low ⟨1, 1, [(0, 0, .tail off .u8 l e)]⟩) (codeAt [1, 1, 1, 1, 1, 1, 1, 1, 1, 1, 0, 1] BK) (KSt.low (KS37 off (m) c v k0 j0 o (0) q (ArSt.store S (q.getD (0 + k0.toNat) 0) j0 v) l e)) _
      rw [hqk, ArSt.store_ok hE0]
      generalize hS' : S.put (k0 + 1) j0 v = S'
      have hrow := ArSt.row_find hfk
      have fin : ∀ b, S'.find b = if b = k0 + 1 then some ((List.replicate (szK l k0.toNat).toNat 0).set j0.toNat v) else S.find b := fun b => by rw [← hS', ArSt.find_put, hrow]
      have fia : ∀ a, a < m → ∃ L, S'.find ((a : Int) + 1) = some L ∧ (L.length : Int) = szK l a ∧ ∀ z : Nat, (z : Int) < szK l a → L.getD z 0 = if (a : Int) = k0 ∧ (z : Int) = j0 then v else 0 := by
        intro a ha
        rw [fin]
        by_cases e1 : (a : Int) + 1 = k0 + 1
        · have e2 : k0.toNat = a := by omega
          rw [if_pos e1]
          refine ⟨_, rfl, by rw [List.length_set, hlen, e2], fun z hz => ?_⟩
          rw [getD_setK, getD_rep]
          by_cases e3 : (z : Int) = j0
          · rw [if_pos ⟨by omega, by rw [List.length_replicate]; omega⟩, if_pos ⟨by omega, e3⟩]
          · rw [if_neg (fun h => e3 (by omega)), if_neg (fun h => e3 h.2)]
        · rw [if_neg e1]
          exact ⟨_, hk.found a ha, hlen a, fun z hz => by rw [getD_rep, if_neg (fun h => e1 (by omega))]⟩
      have hqa : ∀ a, a < m → q.getD (0 + a) 0 = (a : Int) + 1 := fun a ha => by rw [Nat.zero_add]; exact hk.q a ha
      have hEa : ∀ a, a < m → ∀ z : Nat, (z : Int) < szK l a → ArSt.err S' (q.getD (0 + a) 0) z = 0 := fun a ha z hz => by
        obtain ⟨L, f1, f2, _⟩ := fia a ha
        rw [hqa a ha]; exact err_ok f1 (by omega) (by rw [f2]; exact hz)
      refine loopO off m c v k0 j0 o q S' l e hl hc h2 hk.len (fun a => ⟨(szK_le hw a).1, (szK_le hw a).2.1⟩) hEa (fun a ha z hz => ?_) (fun a => ?_) (m - 0) (KS37 off (m) c v k0 j0 o (0) q (S') l e) (.r 0 (Nat.zero_le _))
      · have := hEa a ha z hz
        rw [ArSt.loadV_ok this]
        obtain ⟨L, f1, f2, f3⟩ := fia a ha
        rw [hqa a ha, word_of f1]
        exact f3 z hz
      · -- the end
        obtain ⟨Lo, g1, g2, _⟩ := fia o.toNat (by omega)
        rw [show ((o.toNat : Nat) : Int) = o by omega] at g1
        obtain ⟨Lk, q1, q2, q3⟩ := fia k0.toNat (by omega)
        rw [show ((k0.toNat : Nat) : Int) = k0 by omega] at q1
        have hf0 : S'.freeE (o + 1) = 0 := by unfold ArSt.freeE; rw [show S'.blocks.lookup (o + 1) = some Lo from g1]; rfl
        generalize hS1 : S'.free (o + 1) = S1
        have f1 : ∀ b, S1.find b = if b = o + 1 then none else S'.find b := fun b => by rw [← hS1]; exact ArSt.find_free _ _ _
        have n1 : S1.find (o + 1) = none := by rw [f1, if_pos rfl]
        have hf1 : S1.freeE (o + 1) = 13 := by unfold ArSt.freeE; rw [show S1.blocks.lookup (o + 1) = none from n1]; rfl
        generalize hS2 : S1.free (o + 1) = S2
        have e2 : S2 = S1.fault := by rw [← hS2]; unfold ArSt.free; rw [show S1.blocks.lookup (o + 1) = none from n1]; rfl
        have f2 : ∀ b, S2.find b = S1.find b := fun b => by rw [e2]; rfl
        have c1 : S1.cells = 10000 ∧ S1.last = (m : Int) ∧ S1.used ≤ 16 * (m : Int) := by
          rw [← hS1]; unfold ArSt.free; rw [show S'.blocks.lookup (o + 1) = some Lo from g1]
          refine ⟨by rw [← hS']; exact hk.cells, by rw [← hS']; exact hk.last, ?_⟩
          show S'.used - ((S'.row (o + 1)).length : Int) ≤ _
          have : S'.used = S.used := by rw [← hS']; rfl
          have := hk.used; omega
        have hr : S2.room 1 = true := ArSt.room_iff.2 ⟨Int.le_refl _, by rw [e2]; show 1 ≤ S1.cells - S1.used; omega⟩
        have hnx : S2.allocV 1 = (m : Int) + 1 := by
          rw [ArSt.allocV_room hr]; unfold ArSt.nextB; rw [e2]; show IntKind.wrap .u64 (S1.last + 1) = _; rw [c1.2.1, wrap_u64_id (by omega) (by omega)]
        have hnb : S2.nextB = (m : Int) + 1 := by rw [← ArSt.allocV_room hr]; exact hnx
        generalize hS3 : S2.alloc 1 = S3
        have f3 : ∀ b, b ≤ (m : Int) → S3.find b = S1.find b := fun b hb => by rw [← hS3, ArSt.find_alloc hr, hnb, if_neg (by omega), f2]
        have n3 : S3.find (o + 1) = none := by rw [f3 _ (by omega)]; exact n1
        generalize hS4 : S3.touch (o + 1) 0 = S4
        have f4 : ∀ b, S4.find b = S3.find b := fun b => by rw [← hS4]; exact ArSt.find_touch _ _ _ _
        generalize hS5 : S4.touch (k0 + 1) j0 = S5
        have f5 : ∀ b, S5.find b = S4.find b := fun b => by rw [← hS5]; exact ArSt.find_touch _ _ _ _
        have he5 : S5.err (o + 1) 0 = 13 := err_no (by rw [f5, f4]; exact n3)
        by_cases hko : k0 = o
        · exact Ke2 hk.len k00 k01 o0 o1 hqo hqk hf0 hS1 hf1 hS2 hnx hS3 (err_no n3) hS4 hS5 (by omega) he5 hko (err_no (by rw [f4, hko]; exact n3)) (qL (by kernel_rfl))
        · have q4 : S4.find (k0 + 1) = some Lk := by rw [f4, f3 _ (by omega), f1, if_neg (by omega)]; exact q1
          have hz : S4.err (k0 + 1) j0 = 0 := err_ok q4 j00 (by rw [q2]; exact j01)
          have hv : S4.loadV (k0 + 1) j0 = v := by
            rw [ArSt.loadV_ok hz, word_of q4]
            have := q3 j0.toNat (by omega)
            rw [this, if_pos ⟨by omega, by omega⟩]
          exact Ke1 hk.len k00 k01 o0 o1 hqo hqk hf0 hS1 hf1 hS2 hnx hS3 (err_no n3) hS4 hS5 (by omega) he5 hko hz hv (qL (by kernel_rfl))
theorem told (off n c : Nat) (l : List Int) (e : TypeId) (x0 x1 x2 v : Int) (hl : l.length = c) (hc : n ≤ c) (hw : ∀ i, 0 ≤ l.getD i 0 ∧ l.getD i 0 < 256) (hx0 : 0 ≤ x0) (hy0 : x0 < 256) (hx1 : 0 ≤ x1) (hy1 : x1 < 256) (hx2 : 0 ≤ x2) (hy2 : x2 < 256) : Tells Try.prog 3 [(.slice (some ⟨0, off, none⟩) n c), (.agg #[(.int .u8 x0), (.int .u8 x1), (.int .u8 x2)]), (.int .u64 v)] (mkH [.tail off .u8 l e]).low (.bool true) := by
  refine Gets.tells Try.func3 BK_is (by rw [noVars]; exact Nat.zero_le _) rfl ?_ roK
  show Gets Try.prog (KH.low ⟨1, 1, [(0, 0, .tail off .u8 l e)]⟩) BK (KSt.low (KS0 off n c x0 x1 x2 v l e)) QL
  by_cases hg : 20 < n
  · exact Kgd hg (qL (by kernel_rfl))
  by_cases hz : n = 0
  · exact Kgz hz (qL (by kernel_rfl))
  refine Kin (by omega) (by omega) ?_
  exact loopA off n c l e x0 x1 x2 v hl hc (by omega) (by omega) hw hx0 hy0 hx1 hy1 hx2 hy2 n (KS7 off n c v x0 x1 x2 l e) .z
theorem told0 (x0 x1 x2 v : Int) : Tells Try.prog 3 [(.slice (some ⟨0, 0, some 0⟩) 0 0), (.agg #[(.int .u8 x0), (.int .u8 x1), (.int .u8 x2)]), (.int .u64 v)] (mkH []).low (.bool true) := by
  refine Gets.tells Try.func3 BZ_is (by rw [noVars]; exact Nat.zero_le _) rfl ?_ ro0
  show Gets Try.prog (KH.low ⟨0, 1, []⟩) BZ (KSt.low (ZS0 x0 x1 x2 v)) QL
  exact Zgz (qL (by kernel_rfl))
theorem own : ownKnob Try.prog.godebug = none := by kernel_rfl
theorem lifted (os : Os) (started : os.Started) (H : Type) (enc : TypeId × Value → H) :
    ReturnsInHanded {} Try.checked os 3 .any (Rows.arenaKeepsSpec.pre6 enc Try.prog Try.f3 Rows.arenaKeepsRow.domain false) (Rows.arenaKeepsSpec.post enc Try.prog Try.f3 false true false false) := by
  refine returnsInHanded_of_change_sized (C := Try.checked) own started (by kernel_rfl) Try.func3
    (ChangeSpec.witness6 (enc := enc) (C := Try.checked) false ⟨#[], #[.slice none 0 0, .agg #[.int .u8 0, .int .u8 0, .int .u8 0], .int .u64 0], []⟩ 8 (by kernel_rfl) (by kernel_rfl) (by kernel_rfl) (by kernel_rfl)) ?_
  intro W base args ds gs before hval0 hW hcnd hsz0 _
  have hval : ∀ (j : Nat) t v, Try.f3.params[j]? = some t → args[j]? = some v → Value.okWide Try.prog W .any base t v := hval0
  have hW' := hW
  obtain ⟨p, q, hA0, hV, rfl, hfz, hnd⟩ := hW
  have hA : DataW.TrodAll enc Try.prog W 0 (fun _ => true) true Try.f3.params.toList args.toList ds p := hA0
  rw [Try.params3] at hA hval
  have hS := hA
  obtain ⟨v0, vs0, d0, ds0, p0, q0, hargs, rfl, rfl, h0, r0⟩ := trodAll_cons hA
  obtain ⟨v1, vs1, d1, ds1, p1, q1, rfl, rfl, rfl, h1, r1⟩ := trodAll_cons r0
  obtain ⟨v2, vs2, d2, ds2, p2, q2, rfl, rfl, rfl, h2, r2⟩ := trodAll_cons r1
  obtain ⟨rfl, rfl, rfl⟩ := trodAll_nil r2
  obtain rfl : args = #[v0, v1, v2] := by cases args; simp_all
  obtain ⟨rfl, rfl⟩ := trodVars_none hV
  suffices hc : Calls Try.prog 3 #[v0, v1, v2] W fun e W' => e = .returned (.bool true) ∧ Below W.heap.size W W' by
    refine hc.mono fun e W' ⟨he, bel⟩ => ?_
    subst he
    exact ⟨_, rfl, _, _, _, [], _, [], hW', trodAll_mk1 (shut_bool Try.underlying4 _), trodAll_stays fineA bel (by decide +kernel) hS, rfl, bel.frame _, fun h => by cases h⟩
  clear hS hW' hfz hnd
  have o0 := Go.Eng.open_row Try.underlying22 Try.underlying5 (by kernel_rfl) (hval 0 22 v0 rfl rfl) h0
  obtain ⟨cs1, rfl, hl1, hc1⟩ := open_agg (ts := [5, 5, 5]) (by kernel_rfl) (by kernel_rfl) (by kernel_rfl) (hval 1 23 v1 rfl rfl)
  obtain ⟨x1_0, cs1_0, rfl, hl1_0⟩ := list_succ hl1
  obtain ⟨x1_1, cs1_1, rfl, hl1_1⟩ := list_succ hl1_0
  obtain ⟨x1_2, cs1_2, rfl, hl1_2⟩ := list_succ hl1_1
  obtain rfl := list_zero hl1_2
  obtain ⟨a1_0, rfl, w1_0⟩ := cell_int (k := .u8) Try.underlying5 (hc1 0 _ _ rfl rfl)
  obtain ⟨a1_1, rfl, w1_1⟩ := cell_int (k := .u8) Try.underlying5 (hc1 1 _ _ rfl rfl)
  obtain ⟨a1_2, rfl, w1_2⟩ := cell_int (k := .u8) Try.underlying5 (hc1 2 _ _ rfl rfl)
  obtain ⟨a2, rfl, rfl, rfl, w2⟩ := open_int Try.underlying24 (hval 2 24 v2 rfl rfl) h2
  rcases o0 with ⟨x, rfl⟩ | ⟨a, len, cap, zs, rfl, h0, hle, hmx, hz, hcell, hwf⟩
  · exact told0 a1_0 a1_1 a1_2 a2 _ W _ (.cons (.slice0 _ _) (.cons (.of_plain rfl) (.cons (.of_plain rfl) (.nil _)))) (Sim.none noVars W _ _)
  · obtain ⟨e, hS, hsp⟩ := Sim.oneRow noVars (by omega) hcell
    obtain ⟨blk, off, spot⟩ := a
    simp only at hsp
    subst hsp
    refine told off len cap zs e a1_0 a1_1 a1_2 a2 hz hle (fun i => ?_) (has_u8 w1_0).1 (has_u8 w1_0).2 (has_u8 w1_1).1 (has_u8 w1_1).2 (has_u8 w1_2).1 (has_u8 w1_2).2 _ W _ (.cons (R.slice_row rfl) (.cons (.of_plain rfl) (.cons (.of_plain rfl) (.nil _)))) hS
    rw [List.getD_eq_getElem?_getD]
    cases hi : zs[i]? with
    | none => exact ⟨by decide, by decide⟩
    | some z => exact wf_u8 (hwf z (List.mem_of_getElem? hi))
theorem over : Rows.arenaKeepsRow.holds Try.pinned (OpenSpec.ofChange Rows.arenaKeepsSpec) :=
  OpenClaim.holds_of_wide 3 Try.f3 rfl rfl rfl rfl rfl rfl rfl ⟨rfl, rfl, rfl, rfl, rfl⟩ rfl rfl rfl rfl rfl (by kernel_rfl) Try.func3 (by kernel_rfl)
    (of_decide_eq_true (by kernel_rfl)) (by unfold Func.isWrapper; first | (rw [if_pos (by decide +kernel)]; kernel_rfl) | (rw [if_neg (by decide +kernel)]; exact ⟨rfl, rfl⟩))
    (fun os started H enc _ => lifted os started H enc)
end Go.Proofs.Ythdglcimdnpccaa.arenaKeeps
namespace Go.Proofs.Ythdglcimdnpccaa
/-- The row, under a short name, for the claim. -/
theorem arenaKeeps_holds : Rows.ArenaKeepsSaid := arenaKeeps.over
#print axioms arenaKeeps_holds
end Go.Proofs.Ythdglcimdnpccaa
