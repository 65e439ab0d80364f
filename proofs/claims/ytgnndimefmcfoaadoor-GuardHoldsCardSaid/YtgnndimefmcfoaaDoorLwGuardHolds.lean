/- Who has protected the root had it protected while it was the root. -/
import Derived.Test.YtgnndimefmcfoaaDoorCards
import Derived.Test.YtgnndimefmcfoaaDoorTie
import Derived.Test.YtgnndimefmcfoaaDoorGhR
import Derived.WalkKit
import Derived.ProofKit
import Derived.OpenShut
import Derived.ChangeOld
import Derived.Below
import Derived.SizedLaws
namespace Go.Proofs.YtgnndimefmcfoaaDoor.guardHolds
open Go.Eng
open Go.ChangeShapes Go.WideShapes Go.ChangeAt Go.RowKit
set_option linter.unusedVariables false
set_option linter.unusedSimpArgs false
set_option maxRecDepth 100000
theorem err_ok {S : ArSt} {b i : Int} {L : List Int} (h : S.find b = some L) (h0 : 0 ≤ i) (h1 : i < (L.length : Int)) : S.err b i = 0 := ArSt.err_in h h0 h1
theorem word_of {S : ArSt} {b i : Int} {L : List Int} (h : S.find b = some L) : S.word b i = L.getD i.toNat 0 := by unfold ArSt.word; rw [ArSt.row_find h]
theorem getD_rep (n i : Nat) : (List.replicate n (0 : Int)).getD i 0 = 0 := by
  rw [List.getD_eq_getElem?_getD, List.getElem?_replicate]; split <;> rfl
theorem getD_setK (L : List Int) (i j : Nat) (v : Int) : (L.set i v).getD j 0 = if j = i ∧ i < L.length then v else L.getD j 0 := by
  rw [List.getD_eq_getElem?_getD, List.getD_eq_getElem?_getD, List.getElem?_set]
  by_cases h : i = j
  · subst h
    by_cases h2 : i < L.length
    · simp [h2]
    · simp [h2]
  · rw [if_neg h, if_neg (by omega)]
/-- The one block of the arena: its size, the root's cell, the cell of the one who protects. -/
structure AOk (S : ArSt) (z w m t : Int) : Prop where
  f : S.faults = 0
  b : ∃ L : List Int, S.find 1 = some L ∧ (L.length : Int) = z ∧ L.getD 0 0 = w ∧ L.getD t.toNat 0 = m
theorem AOk.err {S : ArSt} {z w m t i : Int} (h : AOk S z w m t) (h0 : 0 ≤ i) (h1 : i < z) : S.err 1 i = 0 := by
  obtain ⟨L, f1, f2, _⟩ := h.b
  exact err_ok f1 h0 (by omega)
theorem AOk.l0 {S : ArSt} {z w m t : Int} (h : AOk S z w m t) (hz : 0 < z) : S.loadV 1 0 = w := by
  rw [ArSt.loadV_ok (h.err (Int.le_refl _) hz)]
  obtain ⟨L, f1, f2, f3, _⟩ := h.b
  rw [word_of f1]; exact f3
theorem AOk.lt {S : ArSt} {z w m t : Int} (h : AOk S z w m t) (h0 : 0 ≤ t) (hz : t < z) : S.loadV 1 t = m := by
  rw [ArSt.loadV_ok (h.err h0 hz)]
  obtain ⟨L, f1, f2, _, f4⟩ := h.b
  rw [word_of f1]; exact f4
theorem AOk.st0 {S : ArSt} {z w m t : Int} (h : AOk S z w m t) (hz : 0 < z) (ht : 0 < t) (v : Int) : AOk (S.store 1 0 v) z v m t := by
  rw [ArSt.store_ok (h.err (Int.le_refl _) hz)]
  obtain ⟨L, f1, f2, f3, f4⟩ := h.b
  refine ⟨h.f, (S.row 1).set 0 v, by rw [ArSt.find_put, if_pos rfl]; rfl, ?_⟩
  rw [ArSt.row_find f1]
  refine ⟨by rw [List.length_set]; exact f2, by rw [getD_setK, if_pos ⟨rfl, by omega⟩], by rw [getD_setK, if_neg (fun h => by omega)]; exact f4⟩
theorem AOk.stt {S : ArSt} {z w m t : Int} (h : AOk S z w m t) (ht : 0 < t) (hz : t < z) (v : Int) : AOk (S.store 1 t v) z w v t := by
  rw [ArSt.store_ok (h.err (by omega) hz)]
  obtain ⟨L, f1, f2, f3, f4⟩ := h.b
  refine ⟨h.f, (S.row 1).set t.toNat v, by rw [ArSt.find_put, if_pos rfl], ?_⟩
  rw [ArSt.row_find f1]
  refine ⟨by rw [List.length_set]; exact f2, by rw [getD_setK, if_neg (fun h => by omega)]; exact f3, by rw [getD_setK, if_pos ⟨rfl, by omega⟩]⟩
theorem AOk.new {z : Int} (t : Int) (h1 : 1 ≤ z) (h2 : z ≤ 200) : AOk (ArSt.alloc (ArSt.mk 200 0 0 0 []) z) z 0 0 t := by
  have hr : (ArSt.mk 200 0 0 0 []).room z = true := ArSt.room_iff.2 ⟨h1, by show z ≤ 200 - 0; omega⟩
  refine ⟨by rw [ArSt.alloc_room hr], List.replicate z.toNat 0, by rw [ArSt.find_alloc hr, if_pos (by decide)], by rw [List.length_replicate]; omega, getD_rep _ _, getD_rep _ _⟩
/-- How far the one who protects is: its state, what it read, how many acts it did; how often the root was moved. -/
inductive GAt (w m r : Int) (a : Nat) : Int → Int → Prop
  | looks (r0 : r = r) : GAt w m r a 1 0
  | puts (c : Nat) (hc : c ≤ a) (hn : w ≠ r → c + 1 ≤ a) : GAt w m r a 2 (1 + 2 * (c : Int))
  | again (c : Nat) (hc : c ≤ a) (hn : w ≠ r → c + 1 ≤ a) (hm : m = r) : GAt w m r a 3 (2 + 2 * (c : Int))
theorem GAt.own {w m r st o : Int} {a : Nat} (h : GAt w m r a st o) : 0 ≤ o ∧ o ≤ 2 + 2 * (a : Int) := by cases h <;> omega
theorem GAt.moved {w m r st o : Int} {a : Nat} (h : GAt w m r a st o) (v : Int) : GAt v m r (a + 1) st o := by
  cases h with
  | looks => exact .looks rfl
  | puts c hc hn => exact .puts c (by omega) (fun _ => by omega)
  | again c hc hn hm => exact .again c (by omega) (fun _ => by omega) hm
noncomputable def QL : Ex → St → Prop := Eng.Ends Tryd.prog Tryd.f3.results.toList fun r _ => r = .bool true
theorem qL {s : KSt} (h : resL Tryd.prog s.low Tryd.f3.results.toList = some [.bool true]) : QL .ret s.low := Ends.of h rfl
inductive GhInv (off n c : Nat) (l : List Int) (e1 : TypeId) (off2 n2 c2 : Nat) (q : List Bool) (e2 : TypeId) (e0 : TypeId) (th ts kp sd : Int) : Nat → KSt → Prop
  | r (i a : Nat) (S : ArSt) (w m r st o : Int) (ha : a ≤ i) (hi : i ≤ n2) (hA : AOk S (2 + (2 * ts)) w m (2 + (2 * th))) (hG : GAt w m r a st o) (ho : o ≤ i) : GhInv off n c l e1 off2 n2 c2 q e2 e0 th ts kp sd (n2 - i) (AS13 off n c off2 n2 c2 a o i th ts kp sd r st S e0 l e1 q e2)
theorem loopA (off n c : Nat) (l : List Int) (e1 : TypeId) (off2 n2 c2 : Nat) (q : List Bool) (e2 : TypeId) (e0 : TypeId) (th ts kp sd : Int) (hl : l.length = c) (hc : n ≤ c) (hn : n ≤ 40) (hm2 : n2 ≤ 60) (hq : q.length = c2) (hc2 : n2 ≤ c2) (h1 : 1 ≤ ts) (h2 : ts ≤ 64) (h5 : 0 ≤ th) (h6 : th < ts)
    (j : Nat) (t : KSt) (hI : GhInv off n c l e1 off2 n2 c2 q e2 e0 th ts kp sd j t) : Gets Tryd.prog (KH.low ⟨3, 1, [(0, 0, .cells [(.int .i64 1), (.int .i64 64), (.int .i64 1), (.int .i64 64)] e0 false), (1, 0, .tail off .u64 l e1), (2, 0, .btail off2 q e2)]⟩) (codeAt [1, 1, 1, 1, 1, 1, 1, 0, 1] BA) t.low (onN (fun s => Gets Tryd.prog (KH.low ⟨3, 1, [(0, 0, .cells [(.int .i64 1), (.int .i64 64), (.int .i64 1), (.int .i64 64)] e0 false), (1, 0, .tail off .u64 l e1), (2, 0, .btail off2 q e2)]⟩) (codeAt [1, 1, 1, 1, 1, 1, 1, 1] BA) s (QL)) (QL)) := by
  rw [AC1_1_1_1_1_1_1_0_1, AC1_1_1_1_1_1_1_0_1_0]
  refine Gets.loopG (fun j t => GhInv off n c l e1 off2 n2 c2 q e2 e0 th ts kp sd j t) ?_ _ _ hI
  clear hI j t
  intro j t hI
  cases hI with
  | r i a S w m r st o ha hi hA hG ho =>
    have hown := hG.own
    have hz : (0 : Int) < 2 + (2 * ts) := by omega
    have htz : 2 + (2 * th) < 2 + (2 * ts) := by omega
    have ht0 : (0 : Int) < 2 + (2 * th) := by omega
    by_cases hlt : i < n2
    · have nxt : ∀ (a' : Nat) (S' : ArSt) (w' m' r' st' o' : Int), a' ≤ i + 1 → AOk S' (2 + (2 * ts)) w' m' (2 + (2 * th)) → GAt w' m' r' a' st' o' → o' ≤ i + 1 → ∃ j' k, j' < n2 - i ∧ KSt.low (AS13 off n c off2 n2 c2 (a') (o') (i + 1) th ts kp sd (r') (st') (S') e0 l e1 q e2) = KSt.low k ∧ GhInv off n c l e1 off2 n2 c2 q e2 e0 th ts kp sd j' k :=
        fun a' S' w' m' r' st' o' g1 g2 g3 g4 => ⟨n2 - (i + 1), _, by omega, rfl, .r (i + 1) a' S' w' m' r' st' o' g1 (by omega) g2 g3 (by push_cast; omega)⟩
      have hE := hA.err (Int.le_refl 0) hz
      have hL0 := hA.l0 hz
      have hE2 := hA.err (Int.le_of_lt ht0) htz
      have hLt := hA.lt (Int.le_of_lt ht0) htz
      cases hw : q.getD ((Int.toNat ((i : Nat) : Int)) * 1) false with
      | true =>
        by_cases hb : a < n
        · exact Ast hl hc hn hm2 hq hc2 hlt ha hown.1 (by omega) hw hb (nxt (a + 1) _ _ _ _ _ _ (by omega) (hA.st0 hz ht0 _) (hG.moved _) (by omega))
        · cases hG with
          | looks _ => exact Ab1l hl hc hn hm2 hq hc2 hlt ha (by omega) (by omega) h5 (by omega) hw (by omega) hE hL0 (nxt a S w m w 2 _ (by omega) hA (.puts 0 (by omega) (fun h => absurd rfl h)) (by omega))
          | puts c hc' hn' =>
            have e : 1 + 2 * (c : Int) + 1 = 2 + 2 * (c : Int) := by omega
            have k := nxt a _ w r r 3 _ (by omega) (hA.stt ht0 htz r) (.again c hc' hn' rfl) (by omega)
            rw [← e] at k
            exact Ab2l hl hc hn hm2 hq hc2 hlt ha (by omega) (by omega) h5 (by omega) hw (by omega) k
          | again c hc' hn' hm =>
            by_cases hr : w = r
            · exact AEel hl hc hn hm2 hq hc2 hlt ha (by omega) (by omega) h5 (by omega) hw (by omega) hE hL0 hr (by rw [hLt, hm]) hE2 hA.f (by omega) (by omega) (qL (by kernel_rfl))
            · have e : 2 + 2 * (c : Int) + 1 = 1 + 2 * ((c + 1 : Nat) : Int) := by push_cast; omega
              have k := nxt a S w m w 2 _ (by omega) hA (.puts (c + 1) (hn' hr) (fun h => absurd rfl h)) (by omega)
              rw [← e] at k
              exact Ab3l hl hc hn hm2 hq hc2 hlt ha (by omega) (by omega) h5 (by omega) hw (by omega) hE hL0 hr k
      | false =>
        cases hG with
        | looks _ => exact Ab1n hl hc hn hm2 hq hc2 hlt ha (by omega) (by omega) h5 (by omega) hw hE hL0 (nxt a S w m w 2 _ (by omega) hA (.puts 0 (by omega) (fun h => absurd rfl h)) (by omega))
        | puts c hc' hn' =>
          have e : 1 + 2 * (c : Int) + 1 = 2 + 2 * (c : Int) := by omega
          have k := nxt a _ w r r 3 _ (by omega) (hA.stt ht0 htz r) (.again c hc' hn' rfl) (by omega)
          rw [← e] at k
          exact Ab2n hl hc hn hm2 hq hc2 hlt ha (by omega) (by omega) h5 (by omega) hw k
        | again c hc' hn' hm =>
          by_cases hr : w = r
          · exact AEen hl hc hn hm2 hq hc2 hlt ha (by omega) (by omega) h5 (by omega) hw hE hL0 hr (by rw [hLt, hm]) hE2 hA.f (by omega) (by omega) (qL (by kernel_rfl))
          · have e : 2 + 2 * (c : Int) + 1 = 1 + 2 * ((c + 1 : Nat) : Int) := by push_cast; omega
            have k := nxt a S w m w 2 _ (by omega) hA (.puts (c + 1) (hn' hr) (fun h => absurd rfl h)) (by omega)
            rw [← e] at k
            exact Ab3n hl hc hn hm2 hq hc2 hlt ha (by omega) (by omega) h5 (by omega) hw hE hL0 hr k
    · refine Abx (by omega) ?_
      exact ⟨fun _ => Aend hA.f (by omega) (by omega) (qL (by kernel_rfl)), fun h => by cases h⟩
theorem told (off n c : Nat) (l : List Int) (e1 : TypeId) (off2 n2 c2 : Nat) (q : List Bool) (e2 : TypeId) (e0 : TypeId) (th ts kp sd : Int) (dk : Int) (hl : l.length = c) (hc : n ≤ c) (hq : q.length = c2) (hc2 : n2 ≤ c2) : Tells Tryd.prog 3 [(.agg #[(.int .u64 dk), (.int .i64 th), (.int .i64 ts), (.int .i64 kp), (.int .u64 sd)]), (.slice (some ⟨1, off, none⟩) n c), (.slice (some ⟨2, off2, none⟩) n2 c2)] (mkH [.cells [(.int .i64 1), (.int .i64 64), (.int .i64 1), (.int .i64 64)] e0 false, .tail off .u64 l e1, .btail off2 q e2]).low (.bool true) := by
  refine Gets.tells Tryd.func3 BA_is (by rw [oneVar]; exact (show (1 : Nat) ≤ 3 by decide)) rfl ?_ (Ro.rows rfl)
  show Gets Tryd.prog (KH.low ⟨3, 1, [(0, 0, .cells [(.int .i64 1), (.int .i64 64), (.int .i64 1), (.int .i64 64)] e0 false), (1, 0, .tail off .u64 l e1), (2, 0, .btail off2 q e2)]⟩) BA (KSt.low (AS0 dk th ts kp sd off n c off2 n2 c2 e0 l e1 q e2)) QL
  by_cases hd : 0 < dk
  rotate_left
  · exact Awd hd (qL (by kernel_rfl))
  by_cases h1 : 1 ≤ ts
  rotate_left
  · exact Awt1 hd h1 (qL (by kernel_rfl))
  by_cases h2 : ts ≤ 64
  rotate_left
  · exact Awt2 hd h1 h2 (qL (by kernel_rfl))
  by_cases h5 : 0 ≤ th
  rotate_left
  · exact Awh1 hd h1 h2 h5 (qL (by kernel_rfl))
  by_cases h6 : th < ts
  rotate_left
  · exact Awh2 hd h1 h2 h5 h6 (qL (by kernel_rfl))
  by_cases h3 : 1 ≤ kp
  rotate_left
  · exact Awk1 hd h1 h2 h5 h6 h3 (qL (by kernel_rfl))
  by_cases h4 : kp ≤ 64
  rotate_left
  · exact Awk2 hd h1 h2 h5 h6 h3 h4 (qL (by kernel_rfl))
  by_cases hn : n ≤ 40
  rotate_left
  · exact Awn1 hd h1 h2 h3 h4 h5 h6 hn (qL (by kernel_rfl))
  by_cases hm : n2 ≤ 60
  rotate_left
  · exact Awn2 hd h1 h2 h3 h4 h5 h6 hn hm (qL (by kernel_rfl))
  refine Ain hd h1 h2 h3 h4 h5 h6 hn hm ?_
  exact loopA off n c l e1 off2 n2 c2 q e2 e0 th ts kp sd hl hc hn hm hq hc2 h1 h2 h5 h6 n2 (AS12 off n c off2 n2 c2 th ts kp sd e0 l e1 q e2) (GhInv.r 0 0 _ 0 0 0 1 0 (Nat.le_refl _) (Nat.zero_le _) (AOk.new _ (by omega) (by omega)) (.looks rfl) (Int.le_refl _))
theorem own : ownKnob Tryd.prog.godebug = none := by kernel_rfl
def laidV0 : List (String × DataW Unit) := laidV
/-- The door's own heap meets the condition. -/
theorem door_met (os : Os) (args : Array Value) : laidMetH Tryd.prog laidV ((World.doorLaid Tryd.prog 400 os).forCall (fun _ _ => 0) ⟨#[], args, []⟩).memory :=
  laidMetH_of_parts3 (fuel := 8) (laidMet_of_run' 8 (by kernel_rfl) (by kernel_rfl)) (by kernel_rfl) (by kernel_rfl)
theorem lifted (os : Os) (started : os.Started) (H : Type) (enc : TypeId × Value → H) :
    ReturnsInHanded {} Tryd.checked os 3 .any (fun w args => (Rows.guardHoldsSpec.pre enc Tryd.prog Tryd.f3 [] false w args ∧ laidMetH Tryd.prog laidV w) ∧ sizedMet enc Tryd.prog Tryd.f3 (OpenSpec.ofChange Rows.guardHoldsSpec) false w args)
      (Rows.guardHoldsSpec.post enc Tryd.prog Tryd.f3 false true false false) := by
  refine returnsInHanded_of_change_and (C := Tryd.checked) (X := fun w _ => laidMetH Tryd.prog laidV w) (fun _ _ _ hh h => h.of_heap hh) own started (by kernel_rfl) Tryd.func3
    (ChangeSpec.witness_shaped (enc := enc) (C := Tryd.checked) (os := os) (X := fun w _ => laidMetH Tryd.prog laidV w) false (World.doorLaid Tryd.prog 400 os) #[.agg #[.int .u64 0, .int .i64 0, .int .i64 0, .int .i64 0, .int .u64 0], .slice none 0 0, .slice none 0 0] 8 rfl (World.shaped_of_RefB (by kernel_rfl) (by kernel_rfl)) (by kernel_rfl) (by kernel_rfl) (by kernel_rfl) (door_met os _)) ?_
  intro W base args ds gs before hval0 hW hcnd hsz0 hL _
  have hvar := bounds_cells hL
  have hval : ∀ (j : Nat) t v, Tryd.f3.params[j]? = some t → args[j]? = some v → Value.okWide Tryd.prog W .any base t v := hval0
  have hW' := hW
  obtain ⟨p, q, hA0, hV, rfl, hfz, hnd⟩ := hW
  have hA : DataW.TrodAll enc Tryd.prog W 0 (fun _ => true) true Tryd.f3.params.toList args.toList ds p := hA0
  rw [Tryd.params3] at hA hval
  have hS := hA
  obtain ⟨v0, vs0, d0, ds0, p0, q0, hargs, rfl, rfl, h0, r0⟩ := trodAll_cons hA
  obtain ⟨v1, vs1, d1, ds1, p1, q1, rfl, rfl, rfl, h1, r1⟩ := trodAll_cons r0
  obtain ⟨v2, vs2, d2, ds2, p2, q2, rfl, rfl, rfl, h2, r2⟩ := trodAll_cons r1
  obtain ⟨rfl, rfl, rfl⟩ := trodAll_nil r2
  obtain rfl : args = #[v0, v1, v2] := by cases args; simp_all
  obtain ⟨rfl, rfl⟩ := trodVars_none hV
  suffices hc : Calls Tryd.prog 3 #[v0, v1, v2] W fun e W' => e = .returned (.bool true) ∧ Below W.heap.size W W' by
    refine hc.mono fun e W' ⟨he, bel⟩ => ?_
    subst he
    exact ⟨_, rfl, _, _, _, [], _, [], hW', trodAll_mk1 (shut_bool Tryd.underlying4 _), trodAll_stays fineA bel (by decide +kernel) hS, rfl, bel.frame _, fun h => by cases h⟩
  clear hS hW' hfz hnd
  obtain ⟨cs0, rfl, hl0, hc0⟩ := open_agg (ts := [22, 3, 3, 3, 22]) (by kernel_rfl) (by kernel_rfl) (by kernel_rfl) (hval 0 24 v0 rfl rfl)
  obtain ⟨x0_0, cs0_0, rfl, hl0_0⟩ := list_succ hl0
  obtain ⟨x0_1, cs0_1, rfl, hl0_1⟩ := list_succ hl0_0
  obtain ⟨x0_2, cs0_2, rfl, hl0_2⟩ := list_succ hl0_1
  obtain ⟨x0_3, cs0_3, rfl, hl0_3⟩ := list_succ hl0_2
  obtain ⟨x0_4, cs0_4, rfl, hl0_4⟩ := list_succ hl0_3
  obtain rfl := list_zero hl0_4
  obtain ⟨a0_0, rfl, w0_0⟩ := cell_int (k := .u64) Tryd.underlying22 (hc0 0 _ _ rfl rfl)
  obtain ⟨a0_1, rfl, w0_1⟩ := cell_int (k := .i64) Tryd.underlying3 (hc0 1 _ _ rfl rfl)
  obtain ⟨a0_2, rfl, w0_2⟩ := cell_int (k := .i64) Tryd.underlying3 (hc0 2 _ _ rfl rfl)
  obtain ⟨a0_3, rfl, w0_3⟩ := cell_int (k := .i64) Tryd.underlying3 (hc0 3 _ _ rfl rfl)
  obtain ⟨a0_4, rfl, w0_4⟩ := cell_int (k := .u64) Tryd.underlying22 (hc0 4 _ _ rfl rfl)
  have o1 := Go.Eng.open_row Tryd.underlying25 Tryd.underlying22 (by kernel_rfl) (hval 1 25 v1 rfl rfl) h1
  have o2 := Go.Eng.bools_open (show ∃ cs e fr, W.heap[0]? = some (.cells cs e fr) from (Go.Eng.cells_row (by decide) hvar).2.imp fun _ h => h.imp fun _ h => h.imp fun _ h => h.1) Tryd.underlying26 Tryd.underlying4 (by kernel_rfl) (hval 2 26 v2 rfl rfl) h2
  obtain ⟨_, cs0, eb, fr0, hw0, hcs0⟩ := Go.Eng.cells_row (by decide) hvar
  have hfb : ∃ cs e fr, W.heap[0]? = some (.cells cs e fr) := ⟨cs0, eb, fr0, hw0⟩
  obtain ⟨b1, off, n, c, l, e1, hr1, hl, hle, hmx, hwf, hR1⟩ := Go.Eng.row_open (P := Tryd.prog) hfb o1
  obtain ⟨b2, off2, n2, c2, q, e2, hr2, hq, hle2, hmx2, hR2⟩ := o2
  have hS := Go.Eng.Sim.rows (P := Tryd.prog) W [(0, .cells (intCells .i64 [1, 64, 1, 64]) eb false), (b1, .tail off .u64 l e1), (b2, .btail off2 q e2)] (fun g hg => by
    rw [oneVar] at hg
    have : g = 0 := Nat.lt_one_iff.1 hg
    subst this; rfl) (fun r hr => by
    simp only [List.mem_cons, List.not_mem_nil, or_false] at hr
    rcases hr with rfl | rfl | rfl
    · exact ⟨rfl, _, hw0, fun ρ => cells_robj hcs0⟩
    · exact ⟨rfl, hr1.robj (P := Tryd.prog) (fun v hv => by obtain ⟨n, _, rfl⟩ := List.mem_map.1 hv; rfl) rfl⟩
    · exact ⟨rfl, hr2.robj (P := Tryd.prog) (fun v hv => by obtain ⟨n, _, rfl⟩ := List.mem_map.1 hv; rfl) rfl⟩)
  exact told off n c l e1 off2 n2 c2 q e2 eb a0_1 a0_2 a0_3 a0_4 a0_0 hl hle hq hle2 _ W _ (.cons (.of_plain rfl) (.cons (hR1 _ 1 rfl) (.cons (hR2 _ 2 rfl) (.nil _)))) hS
theorem over : Rows.guardHoldsRow.holds Tryd.pinned (OpenSpec.ofChange Rows.guardHoldsSpec) :=
  OpenClaim.holds_of_wide 3 Tryd.f3 rfl rfl rfl rfl rfl rfl rfl ⟨rfl, rfl, rfl, rfl, rfl⟩ rfl rfl rfl rfl rfl (by kernel_rfl) Tryd.func3 (by kernel_rfl)
    (of_decide_eq_true (by kernel_rfl)) (by unfold Func.isWrapper; first | (rw [if_pos (by decide +kernel)]; kernel_rfl) | (rw [if_neg (by decide +kernel)]; exact ⟨rfl, rfl⟩))
    (fun os started H enc _ => lifted os started H enc)
end Go.Proofs.YtgnndimefmcfoaaDoor.guardHolds
namespace Go.Proofs.YtgnndimefmcfoaaDoor
/-- The tied card, for the claim. -/
theorem guardHolds_holds : Rows.GuardHoldsCardSaid :=
  Claim7.holds_tied_plain_at .later [] [.data] true (true, "8f88ba00f59a5cc402bb88db9c5ff22820bf820c8708e34e7fe5c76ebfc0f60b") false
    guardHolds.over (fun _ h => by cases h) (by kernel_rfl) (fun _ h => by cases h) guardHolds_row_tie rfl ⟨rfl, rfl⟩ (by kernel_rfl) rfl
    (fun f fn hf hfn => by
      obtain rfl : f = 3 := Option.some.inj ((show Tryd.prog.funcNamed "sprocket/sprocketlaw19.GuardHolds" = some 3 by kernel_rfl).symm.trans hf) |>.symm
      obtain rfl : fn = Tryd.f3 := (Option.some.inj (Tryd.func3.symm.trans hfn)).symm
      exact ⟨by kernel_rfl, fun j t ht => by
        rw [Tryd.params3] at ht
        have hm : t ∈ [24, 25, 26] := by simpa using Array.mem_of_getElem? ht
        have hall : ([24, 25, 26].all fun u => !Tryd.prog.wantsStandIn u) = true := by kernel_rfl
        exact (show Tryd.prog.wantsStandIn t = false by simpa using List.all_eq_true.1 hall t hm)⟩)
    (by kernel_rfl)
#print axioms guardHolds_holds
end Go.Proofs.YtgnndimefmcfoaaDoor
