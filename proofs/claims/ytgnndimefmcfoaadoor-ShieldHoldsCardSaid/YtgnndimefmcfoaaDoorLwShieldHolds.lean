/- A box whose word is told, and is fresh, stood in the slot while it was protected. -/
import Derived.Test.YtgnndimefmcfoaaDoorCards
import Derived.Test.YtgnndimefmcfoaaDoorTie
import Derived.Test.YtgnndimefmcfoaaDoorShR
import Derived.WalkKit
import Derived.ProofKit
import Derived.OpenShut
import Derived.ChangeOld
import Derived.Below
import Derived.SizedLaws
namespace Go.Proofs.YtgnndimefmcfoaaDoor.shieldHolds
open Go.Eng
open Go.ChangeShapes Go.WideShapes Go.ChangeAt Go.RowKit
set_option linter.unusedVariables false
set_option linter.unusedSimpArgs false
set_option maxRecDepth 100000
theorem err_ok {S : ArSt} {b i : Int} {L : List Int} (h : S.find b = some L) (h0 : 0 ≤ i) (h1 : i < (L.length : Int)) : S.err b i = 0 := ArSt.err_in h h0 h1
theorem word_of {S : ArSt} {b i : Int} {L : List Int} (h : S.find b = some L) : S.word b i = L.getD i.toNat 0 := by unfold ArSt.word; rw [ArSt.row_find h]
theorem getD_rep (n i : Nat) : (List.replicate n (0 : Int)).getD i 0 = 0 := by
  rw [List.getD_eq_getElem?_getD, List.getElem?_replicate]; split <;> rfl
theorem getD_setK (L : List Int) (i j : Nat) (v : Int) : (L.set i v).getD j 0 = if j = i ∧ i < L.length then v else L.getD j 0 := by
  rw [List.getD_eq_getElem?_getD, List.getD_eq_getElem?_getD, List.getElem?_set]
  by_cases h : i = j
  · subst h
    by_cases h2 : i < L.length
    · simp [h2]
    · simp [h2]
  · rw [if_neg h, if_neg (by omega)]
/-- A block, its size, and one of its cells. -/
def Blk (S : ArSt) (b z t v : Int) : Prop := ∃ L : List Int, S.find b = some L ∧ (L.length : Int) = z ∧ L.getD t.toNat 0 = v
theorem Blk.err {S : ArSt} {b z t v i : Int} (h : Blk S b z t v) (h0 : 0 ≤ i) (h1 : i < z) : S.err b i = 0 := by
  obtain ⟨L, f1, f2, _⟩ := h
  exact err_ok f1 h0 (by omega)
theorem Blk.load {S : ArSt} {b z t v : Int} (h : Blk S b z t v) (h0 : 0 ≤ t) (h1 : t < z) : S.loadV b t = v := by
  rw [ArSt.loadV_ok (h.err h0 h1)]
  obtain ⟨L, f1, f2, f3⟩ := h
  rw [word_of f1]; exact f3
theorem Blk.store {S : ArSt} {b z t v : Int} (h : Blk S b z t v) (h0 : 0 ≤ t) (h1 : t < z) (w : Int) : Blk (S.store b t w) b z t w := by
  rw [ArSt.store_ok (h.err h0 h1)]
  obtain ⟨L, f1, f2, f3⟩ := h
  refine ⟨(S.row b).set t.toNat w, by rw [ArSt.find_put, if_pos rfl], ?_⟩
  rw [ArSt.row_find f1]
  exact ⟨by rw [List.length_set]; exact f2, by rw [getD_setK, if_pos ⟨rfl, by omega⟩]⟩
theorem Blk.other {S : ArSt} {b b' z z' t t' v v' : Int} (h : Blk S b z t v) (h' : Blk S b' z' t' v') (h0 : 0 ≤ t') (h1 : t' < z') (hb : b ≠ b') (w : Int) : Blk (S.store b' t' w) b z t v := by
  rw [ArSt.store_ok (h'.err h0 h1)]
  obtain ⟨L, f1, f2, f3⟩ := h
  exact ⟨L, by rw [ArSt.find_put, if_neg hb]; exact f1, f2, f3⟩
theorem store_faults {S : ArSt} {b z t v : Int} (h : Blk S b z t v) (h0 : 0 ≤ t) (h1 : t < z) (w : Int) : (S.store b t w).faults = S.faults := by
  rw [ArSt.store_ok (h.err h0 h1)]; rfl
/-- The arena: the desk, and the slot. -/
structure BOk (S : ArSt) (z g m t : Int) : Prop where
  f : S.faults = 0
  b1 : Blk S 1 z t m
  b2 : Blk S 2 1 0 g
theorem BOk.st2 {S : ArSt} {z g m t : Int} (h : BOk S z g m t) (v : Int) : BOk (S.store 2 0 v) z v m t :=
  ⟨by rw [store_faults h.b2 (by decide) (by decide)]; exact h.f, h.b1.other h.b2 (by decide) (by decide) (by decide) v, h.b2.store (by decide) (by decide) v⟩
theorem BOk.st1 {S : ArSt} {z g m t : Int} (h : BOk S z g m t) (h0 : 0 ≤ t) (h1 : t < z) (v : Int) : BOk (S.store 1 t v) z g v t :=
  ⟨by rw [store_faults h.b1 h0 h1]; exact h.f, h.b1.store h0 h1 v, h.b2.other h.b1 h0 h1 (by decide) v⟩
theorem BOk.new {z : Int} (t v : Int) (h1 : 1 ≤ z) (h2 : z ≤ 150) : BOk (ArSt.store (ArSt.alloc (ArSt.alloc (ArSt.mk 200 0 0 0 []) z) 1) 2 0 v) z v 0 t := by
  have hr : (ArSt.mk 200 0 0 0 []).room z = true := ArSt.room_iff.2 ⟨h1, by show z ≤ 200 - 0; omega⟩
  have ha := ArSt.alloc_room hr
  have f1 : ((ArSt.mk 200 0 0 0 []).alloc z).find 1 = some (List.replicate z.toNat 0) := by rw [ArSt.find_alloc hr, if_pos (by decide)]
  generalize hS : (ArSt.mk 200 0 0 0 []).alloc z = S at ha f1
  have hr2 : S.room 1 = true := ArSt.room_iff.2 ⟨Int.le_refl _, by rw [ha]; show 1 ≤ 200 - (0 + z); omega⟩
  have hn : S.nextB = 2 := by rw [ha]; show IntKind.wrap .u64 (IntKind.wrap .u64 (0 + 1) + 1) = 2; decide
  have ha2 := ArSt.alloc_room hr2
  have key : BOk (S.alloc 1) z 0 0 t := by
    refine ⟨by rw [ha2, ha], ⟨List.replicate z.toNat 0, ?_, by rw [List.length_replicate]; omega, getD_rep _ _⟩, ⟨List.replicate (1 : Int).toNat 0, ?_, rfl, rfl⟩⟩
    · rw [ArSt.find_alloc hr2, hn, if_neg (by decide)]; exact f1
    · rw [ArSt.find_alloc hr2, hn, if_pos rfl]
  exact key.st2 v
/-- How far the one who protects is. -/
inductive ShAt (w m w0 : Int) : Int → Prop
  | puts (h : w = w) : ShAt w m w0 1
  | looks (hm : m = tagB w) : ShAt w m w0 2
  | ended (hw : w0 = w) (hF : tagF w = false) : ShAt w m w0 3
theorem sEnds_same {w g : Int} (h : sEnds w g = true) (hF : tagF g = true) : tagB g = tagB w := by
  unfold sEnds at h
  rw [hF] at h
  simpa using h
noncomputable def QL : Ex → St → Prop := Eng.Ends Tryd.prog Tryd.f4.results.toList fun r _ => r = .bool true
theorem qL {s : KSt} (h : resL Tryd.prog s.low Tryd.f4.results.toList = some [.bool true]) : QL .ret s.low := Ends.of h rfl
inductive ShInv (off n c : Nat) (l : List Int) (e1 : TypeId) (off2 n2 c2 : Nat) (q : List Bool) (e2 : TypeId) (e0 : TypeId) (th ts kp sd : Int) : Nat → KSt → Prop
  | r (i a : Nat) (S : ArSt) (g m w st : Int) (ha : a ≤ i + 1) (hi : i ≤ n2) (hA : BOk S (2 + (2 * ts)) g m (3 + (2 * th))) (hG : ShAt w m (l.getD 0 0) st) : ShInv off n c l e1 off2 n2 c2 q e2 e0 th ts kp sd (n2 - i) (AS17 off n c off2 n2 c2 a i th ts kp sd w st S e0 l e1 q e2)
theorem loopA (off n c : Nat) (l : List Int) (e1 : TypeId) (off2 n2 c2 : Nat) (q : List Bool) (e2 : TypeId) (e0 : TypeId) (th ts kp sd : Int) (hl : l.length = c) (hc : n ≤ c) (hz : ¬ n = 0) (hn : n ≤ 40) (hm2 : n2 ≤ 60) (hq : q.length = c2) (hc2 : n2 ≤ c2) (h1 : 1 ≤ ts) (h2 : ts ≤ 64) (h5 : 0 ≤ th) (h6 : th < ts)
    (j : Nat) (t : KSt) (hI : ShInv off n c l e1 off2 n2 c2 q e2 e0 th ts kp sd j t) : Gets Tryd.prog (KH.low ⟨3, 1, [(0, 0, .cells [(.int .i64 1), (.int .i64 64), (.int .i64 1), (.int .i64 64)] e0 false), (1, 0, .tail off .u64 l e1), (2, 0, .btail off2 q e2)]⟩) (codeAt [1, 1, 1, 1, 1, 1, 1, 1, 1, 0, 1] BA) t.low (onN (fun s => Gets Tryd.prog (KH.low ⟨3, 1, [(0, 0, .cells [(.int .i64 1), (.int .i64 64), (.int .i64 1), (.int .i64 64)] e0 false), (1, 0, .tail off .u64 l e1), (2, 0, .btail off2 q e2)]⟩) (codeAt [1, 1, 1, 1, 1, 1, 1, 1, 1, 1] BA) s (QL)) (QL)) := by
  rw [AC1_1_1_1_1_1_1_1_1_0_1, AC1_1_1_1_1_1_1_1_1_0_1_0]
  refine Gets.loopG (fun j t => ShInv off n c l e1 off2 n2 c2 q e2 e0 th ts kp sd j t) ?_ _ _ hI
  clear hI j t
  intro j t hI
  cases hI with
  | r i a S g m w st ha hi hA hG =>
    have htz : 3 + (2 * th) < 2 + (2 * ts) := by omega
    by_cases hlt : i < n2
    · have nxt : ∀ (a' : Nat) (S' : ArSt) (g' m' w' st' : Int), a' ≤ i + 1 → BOk S' (2 + (2 * ts)) g' m' (3 + (2 * th)) → ShAt w' m' (l.getD 0 0) st' → ∃ j' k, j' < n2 - i ∧ KSt.low (AS17 off n c off2 n2 c2 (a') (i + 1) th ts kp sd (w') (st') (S') e0 l e1 q e2) = KSt.low k ∧ ShInv off n c l e1 off2 n2 c2 q e2 e0 th ts kp sd j' k :=
        fun a' S' g' m' w' st' g1 g2 g3 => ⟨n2 - (i + 1), _, by omega, rfl, .r (i + 1) a' S' g' m' w' st' (by omega) (by omega) g2 g3⟩
      have hE := hA.b2.err (Int.le_refl 0) (by decide)
      have hL0 := hA.b2.load (by decide) (by decide)
      have hE2 := hA.b1.err (by omega) htz
      have hL1 := hA.b1.load (by omega) htz
      cases hw : q.getD ((Int.toNat ((i : Nat) : Int)) * 1) false with
      | true =>
        by_cases hb : a < n
        · refine Ast hl hc hz hn hm2 hq hc2 hlt ha hw hb ?_
          exact ⟨n2 - (i + 1), _, by omega, rfl, .r (i + 1) (a + 1) _ _ m w st (by omega) (by omega) (hA.st2 _) hG⟩
        · cases hG with
          | puts _ => exact Ab1l hl hc hz hn hm2 hq hc2 hlt ha h5 (by omega) hw (by omega) (nxt a _ g (tagB w) w 2 ha (hA.st1 (by omega) htz (tagB w)) (.looks rfl))
          | looks hm =>
            cases hs : sEnds w g with
            | false => exact AEb2l hl hc hz hn hm2 hq hc2 hlt ha h5 (by omega) hw (by omega) hE hL0 hs (nxt a S g m g 1 ha hA (.puts rfl))
            | true =>
              cases hF : tagF g with
              | false => exact Ac1l hl hc hz hn hm2 hq hc2 hlt ha h5 (by omega) hw (by omega) hE hL0 hE2 hA.f hL1 hs hF (qL (by kernel_rfl))
              | true => exact Ac2l hl hc hz hn hm2 hq hc2 hlt ha h5 (by omega) hw (by omega) hE hL0 hE2 hA.f hL1 hs hF (by rw [hm, sEnds_same hs hF]) (qL (by kernel_rfl))
          | ended hw0 hF => exact Ac3l hl hc hz hn hm2 hq hc2 hlt ha h5 (by omega) hw (by omega) hE hL0 hE2 hA.f hL1 hF hw0 (qL (by kernel_rfl))
      | false =>
        cases hG with
        | puts _ => exact Ab1n hl hc hz hn hm2 hq hc2 hlt ha h5 (by omega) hw  (nxt a _ g (tagB w) w 2 ha (hA.st1 (by omega) htz (tagB w)) (.looks rfl))
        | looks hm =>
          cases hs : sEnds w g with
          | false => exact AEb2n hl hc hz hn hm2 hq hc2 hlt ha h5 (by omega) hw  hE hL0 hs (nxt a S g m g 1 ha hA (.puts rfl))
          | true =>
            cases hF : tagF g with
            | false => exact Ac1n hl hc hz hn hm2 hq hc2 hlt ha h5 (by omega) hw  hE hL0 hE2 hA.f hL1 hs hF (qL (by kernel_rfl))
            | true => exact Ac2n hl hc hz hn hm2 hq hc2 hlt ha h5 (by omega) hw  hE hL0 hE2 hA.f hL1 hs hF (by rw [hm, sEnds_same hs hF]) (qL (by kernel_rfl))
        | ended hw0 hF => exact Ac3n hl hc hz hn hm2 hq hc2 hlt ha h5 (by omega) hw  hE hL0 hE2 hA.f hL1 hF hw0 (qL (by kernel_rfl))
    · refine Abx (by omega) ?_
      exact ⟨fun _ => Aend hA.f (qL (by kernel_rfl)), fun h => by cases h⟩
theorem told (off n c : Nat) (l : List Int) (e1 : TypeId) (off2 n2 c2 : Nat) (q : List Bool) (e2 : TypeId) (e0 : TypeId) (th ts kp sd : Int) (dk : Int) (hl : l.length = c) (hc : n ≤ c) (hq : q.length = c2) (hc2 : n2 ≤ c2) : Tells Tryd.prog 4 [(.agg #[(.int .u64 dk), (.int .i64 th), (.int .i64 ts), (.int .i64 kp), (.int .u64 sd)]), (.slice (some ⟨1, off, none⟩) n c), (.slice (some ⟨2, off2, none⟩) n2 c2)] (mkH [.cells [(.int .i64 1), (.int .i64 64), (.int .i64 1), (.int .i64 64)] e0 false, .tail off .u64 l e1, .btail off2 q e2]).low (.bool true) := by
  refine Gets.tells Tryd.func4 BA_is (by rw [oneVar]; exact (show (1 : Nat) ≤ 3 by decide)) rfl ?_ (Ro.rows rfl)
  show Gets Tryd.prog (KH.low ⟨3, 1, [(0, 0, .cells [(.int .i64 1), (.int .i64 64), (.int .i64 1), (.int .i64 64)] e0 false), (1, 0, .tail off .u64 l e1), (2, 0, .btail off2 q e2)]⟩) BA (KSt.low (AS0 dk th ts kp sd off n c off2 n2 c2 e0 l e1 q e2)) QL
  by_cases hd : 0 < dk
  rotate_left
  · exact Awd hd (qL (by kernel_rfl))
  by_cases h1 : 1 ≤ ts
  rotate_left
  · exact Awt1 hd h1 (qL (by kernel_rfl))
  by_cases h2 : ts ≤ 64
  rotate_left
  · exact Awt2 hd h1 h2 (qL (by kernel_rfl))
  by_cases h5 : 0 ≤ th
  rotate_left
  · exact Awh1 hd h1 h2 h5 (qL (by kernel_rfl))
  by_cases h6 : th < ts
  rotate_left
  · exact Awh2 hd h1 h2 h5 h6 (qL (by kernel_rfl))
  by_cases h3 : 1 ≤ kp
  rotate_left
  · exact Awk1 hd h1 h2 h5 h6 h3 (qL (by kernel_rfl))
  by_cases h4 : kp ≤ 64
  rotate_left
  · exact Awk2 hd h1 h2 h5 h6 h3 h4 (qL (by kernel_rfl))
  by_cases hz : n = 0
  · exact Awn0 hd h1 h2 h3 h4 h5 h6 hz (qL (by kernel_rfl))
  by_cases hn : n ≤ 40
  rotate_left
  · exact Awn1 hd h1 h2 h3 h4 h5 h6 hz hn (qL (by kernel_rfl))
  by_cases hm : n2 ≤ 60
  rotate_left
  · exact Awn2 hd h1 h2 h3 h4 h5 h6 hz hn hm (qL (by kernel_rfl))
  refine Ain hd h1 h2 h3 h4 h5 h6 hl hc hz hn hm ?_
  refine loopA off n c l e1 off2 n2 c2 q e2 e0 th ts kp sd hl hc hz hn hm hq hc2 h1 h2 h5 h6 n2 (AS16 off n c off2 n2 c2 th ts kp sd l e0 e1 q e2) ?_
  refine ShInv.r 0 1 _ (l.getD 0 0) 0 (l.getD 0 0) _ (Nat.le_refl _) (Nat.zero_le _) (BOk.new _ _ (by omega) (by omega)) ?_
  cases hF : tagF (l.getD 0 0) with
  | true => exact .puts rfl
  | false => exact .ended rfl hF
theorem own : ownKnob Tryd.prog.godebug = none := by kernel_rfl
def laidV0 : List (String × DataW Unit) := laidV
/-- The door's own heap meets the condition. -/
theorem door_met (os : Os) (args : Array Value) : laidMetH Tryd.prog laidV ((World.doorLaid Tryd.prog 400 os).forCall (fun _ _ => 0) ⟨#[], args, []⟩).memory :=
  laidMetH_of_parts3 (fuel := 8) (laidMet_of_run' 8 (by kernel_rfl) (by kernel_rfl)) (by kernel_rfl) (by kernel_rfl)
theorem lifted (os : Os) (started : os.Started) (H : Type) (enc : TypeId × Value → H) :
    ReturnsInHanded {} Tryd.checked os 4 .any (fun w args => (Rows.shieldHoldsSpec.pre enc Tryd.prog Tryd.f4 [] false w args ∧ laidMetH Tryd.prog laidV w) ∧ sizedMet enc Tryd.prog Tryd.f4 (OpenSpec.ofChange Rows.shieldHoldsSpec) false w args)
      (Rows.shieldHoldsSpec.post enc Tryd.prog Tryd.f4 false true false false) := by
  refine returnsInHanded_of_change_and (C := Tryd.checked) (X := fun w _ => laidMetH Tryd.prog laidV w) (fun _ _ _ hh h => h.of_heap hh) own started (by kernel_rfl) Tryd.func4
    (ChangeSpec.witness_shaped (enc := enc) (C := Tryd.checked) (os := os) (X := fun w _ => laidMetH Tryd.prog laidV w) false (World.doorLaid Tryd.prog 400 os) #[.agg #[.int .u64 0, .int .i64 0, .int .i64 0, .int .i64 0, .int .u64 0], .slice none 0 0, .slice none 0 0] 8 rfl (World.shaped_of_RefB (by kernel_rfl) (by kernel_rfl)) (by kernel_rfl) (by kernel_rfl) (by kernel_rfl) (door_met os _)) ?_
  intro W base args ds gs before hval0 hW hcnd hsz0 hL _
  have hvar := bounds_cells hL
  have hval : ∀ (j : Nat) t v, Tryd.f4.params[j]? = some t → args[j]? = some v → Value.okWide Tryd.prog W .any base t v := hval0
  have hW' := hW
  obtain ⟨p, q, hA0, hV, rfl, hfz, hnd⟩ := hW
  have hA : DataW.TrodAll enc Tryd.prog W 0 (fun _ => true) true Tryd.f4.params.toList args.toList ds p := hA0
  rw [Tryd.params4] at hA hval
  have hS := hA
  obtain ⟨v0, vs0, d0, ds0, p0, q0, hargs, rfl, rfl, h0, r0⟩ := trodAll_cons hA
  obtain ⟨v1, vs1, d1, ds1, p1, q1, rfl, rfl, rfl, h1, r1⟩ := trodAll_cons r0
  obtain ⟨v2, vs2, d2, ds2, p2, q2, rfl, rfl, rfl, h2, r2⟩ := trodAll_cons r1
  obtain ⟨rfl, rfl, rfl⟩ := trodAll_nil r2
  obtain rfl : args = #[v0, v1, v2] := by cases args; simp_all
  obtain ⟨rfl, rfl⟩ := trodVars_none hV
  suffices hc : Calls Tryd.prog 4 #[v0, v1, v2] W fun e W' => e = .returned (.bool true) ∧ Below W.heap.size W W' by
    refine hc.mono fun e W' ⟨he, bel⟩ => ?_
    subst he
    exact ⟨_, rfl, _, _, _, [], _, [], hW', trodAll_mk1 (shut_bool Tryd.underlying4 _), trodAll_stays fineA bel (by decide +kernel) hS, rfl, bel.frame _, fun h => by cases h⟩
  clear hS hW' hfz hnd
  obtain ⟨cs0, rfl, hl0, hc0⟩ := open_agg (ts := [22, 3, 3, 3, 22]) (by kernel_rfl) (by kernel_rfl) (by kernel_rfl) (hval 0 24 v0 rfl rfl)
  obtain ⟨x0_0, cs0_0, rfl, hl0_0⟩ := list_succ hl0
  obtain ⟨x0_1, cs0_1, rfl, hl0_1⟩ := list_succ hl0_0
  obtain ⟨x0_2, cs0_2, rfl, hl0_2⟩ := list_succ hl0_1
  obtain ⟨x0_3, cs0_3, rfl, hl0_3⟩ := list_succ hl0_2
  obtain ⟨x0_4, cs0_4, rfl, hl0_4⟩ := list_succ hl0_3
  obtain rfl := list_zero hl0_4
  obtain ⟨a0_0, rfl, w0_0⟩ := cell_int (k := .u64) Tryd.underlying22 (hc0 0 _ _ rfl rfl)
  obtain ⟨a0_1, rfl, w0_1⟩ := cell_int (k := .i64) Tryd.underlying3 (hc0 1 _ _ rfl rfl)
  obtain ⟨a0_2, rfl, w0_2⟩ := cell_int (k := .i64) Tryd.underlying3 (hc0 2 _ _ rfl rfl)
  obtain ⟨a0_3, rfl, w0_3⟩ := cell_int (k := .i64) Tryd.underlying3 (hc0 3 _ _ rfl rfl)
  obtain ⟨a0_4, rfl, w0_4⟩ := cell_int (k := .u64) Tryd.underlying22 (hc0 4 _ _ rfl rfl)
  have o1 := Go.Eng.open_row Tryd.underlying25 Tryd.underlying22 (by kernel_rfl) (hval 1 25 v1 rfl rfl) h1
  have o2 := Go.Eng.bools_open (show ∃ cs e fr, W.heap[0]? = some (.cells cs e fr) from (Go.Eng.cells_row (by decide) hvar).2.imp fun _ h => h.imp fun _ h => h.imp fun _ h => h.1) Tryd.underlying26 Tryd.underlying4 (by kernel_rfl) (hval 2 26 v2 rfl rfl) h2
  obtain ⟨_, cs0, eb, fr0, hw0, hcs0⟩ := Go.Eng.cells_row (by decide) hvar
  have hfb : ∃ cs e fr, W.heap[0]? = some (.cells cs e fr) := ⟨cs0, eb, fr0, hw0⟩
  obtain ⟨b1, off, n, c, l, e1, hr1, hl, hle, hmx, hwf, hR1⟩ := Go.Eng.row_open (P := Tryd.prog) hfb o1
  obtain ⟨b2, off2, n2, c2, q, e2, hr2, hq, hle2, hmx2, hR2⟩ := o2
  have hS := Go.Eng.Sim.rows (P := Tryd.prog) W [(0, .cells (intCells .i64 [1, 64, 1, 64]) eb false), (b1, .tail off .u64 l e1), (b2, .btail off2 q e2)] (fun g hg => by
    rw [oneVar] at hg
    have : g = 0 := Nat.lt_one_iff.1 hg
    subst this; rfl) (fun r hr => by
    simp only [List.mem_cons, List.not_mem_nil, or_false] at hr
    rcases hr with rfl | rfl | rfl
    · exact ⟨rfl, _, hw0, fun ρ => cells_robj hcs0⟩
    · exact ⟨rfl, hr1.robj (P := Tryd.prog) (fun v hv => by obtain ⟨n, _, rfl⟩ := List.mem_map.1 hv; rfl) rfl⟩
    · exact ⟨rfl, hr2.robj (P := Tryd.prog) (fun v hv => by obtain ⟨n, _, rfl⟩ := List.mem_map.1 hv; rfl) rfl⟩)
  exact told off n c l e1 off2 n2 c2 q e2 eb a0_1 a0_2 a0_3 a0_4 a0_0 hl hle hq hle2 _ W _ (.cons (.of_plain rfl) (.cons (hR1 _ 1 rfl) (.cons (hR2 _ 2 rfl) (.nil _)))) hS
theorem over : Rows.shieldHoldsRow.holds Tryd.pinned (OpenSpec.ofChange Rows.shieldHoldsSpec) :=
  OpenClaim.holds_of_wide 4 Tryd.f4 rfl rfl rfl rfl rfl rfl rfl ⟨rfl, rfl, rfl, rfl, rfl⟩ rfl rfl rfl rfl rfl (by kernel_rfl) Tryd.func4 (by kernel_rfl)
    (of_decide_eq_true (by kernel_rfl)) (by unfold Func.isWrapper; first | (rw [if_pos (by decide +kernel)]; kernel_rfl) | (rw [if_neg (by decide +kernel)]; exact ⟨rfl, rfl⟩))
    (fun os started H enc _ => lifted os started H enc)
end Go.Proofs.YtgnndimefmcfoaaDoor.shieldHolds
namespace Go.Proofs.YtgnndimefmcfoaaDoor
/-- The tied card, for the claim. -/
theorem shieldHolds_holds : Rows.ShieldHoldsCardSaid :=
  Claim7.holds_tied_plain_at .later [] [.data] true (true, "8f88ba00f59a5cc402bb88db9c5ff22820bf820c8708e34e7fe5c76ebfc0f60b") false
    shieldHolds.over (fun _ h => by cases h) (by kernel_rfl) (fun _ h => by cases h) shieldHolds_row_tie rfl ⟨rfl, rfl⟩ (by kernel_rfl) rfl
    (fun f fn hf hfn => by
      obtain rfl : f = 4 := Option.some.inj ((show Tryd.prog.funcNamed "sprocket/sprocketlaw20.ShieldHolds" = some 4 by kernel_rfl).symm.trans hf) |>.symm
      obtain rfl : fn = Tryd.f4 := (Option.some.inj (Tryd.func4.symm.trans hfn)).symm
      exact ⟨by kernel_rfl, fun j t ht => by
        rw [Tryd.params4] at ht
        have hm : t ∈ [24, 25, 26] := by simpa using Array.mem_of_getElem? ht
        have hall : ([24, 25, 26].all fun u => !Tryd.prog.wantsStandIn u) = true := by kernel_rfl
        exact (show Tryd.prog.wantsStandIn t = false by simpa using List.all_eq_true.1 hall t hm)⟩)
    (by kernel_rfl)
#print axioms shieldHolds_holds
end Go.Proofs.YtgnndimefmcfoaaDoor
