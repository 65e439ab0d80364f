import Derived.Test.YtfhfbbhoppnbiaaDoorCards
import Derived.Test.YtfhfbbhoppnbiaaDoorTie
import Derived.Test.YtfhfbbhoppnbiaaDoorDrE
import Derived.Test.YtfhfbbhoppnbiaaDoorDrP
import Derived.WalkKit
import Derived.ProofKit
import Derived.OpenShut
import Derived.ChangeOld
import Derived.Below
import Derived.SizedLaws
namespace Go.Proofs.YtfhfbbhoppnbiaaDoor.retireSafe
open Go.Eng
open Go.ChangeShapes Go.WideShapes Go.ChangeAt Go.RowKit
set_option linter.unusedVariables false
set_option linter.unusedSimpArgs false
set_option maxRecDepth 100000
noncomputable def QL : Ex → St → Prop := Eng.Ends Tryd.prog Tryd.f4.results.toList fun r _ => r = .bool true
theorem qL {s : KSt} (h : resL Tryd.prog s.low Tryd.f4.results.toList = some [.bool true]) : QL .ret s.low := Ends.of h rfl
inductive LIA (e0 : TypeId) (off : Nat) (l : List Int) (e1 : TypeId) (mm : Nat) (q : List Bool) (S2 : ArSt) (k : Nat) (R : List Int) (p : Int → Bool) : Nat → KSt → Prop
  | r (i : Nat) (hi : i ≤ mm) : LIA e0 off l e1 mm q S2 k R p (mm - i) (SaS33 off e0 l e1 mm i q S2 k R (atN p i))
theorem lastA (e0 : TypeId) (off : Nat) (l : List Int) (e1 : TypeId) (mm : Nat) (q : List Bool) (S2 : ArSt) (k : Nat) (R : List Int) (p : Int → Bool) (hm : mm ≤ 19) (hql : q.length = mm + 40) (hth : ∀ j, j < mm → (S2.size (((j : Nat) : Int) + 2) == 1) = q.getD (j + 2) false) (hR : R = (keptL mm).filter p) (hk : R.length = k) (hk2 : k ≤ 1000) (hp : ∀ j, p (((j : Nat) : Int) + 2) = q.getD (j + 2) false) (j : Nat) (t : KSt) (hI : LIA e0 off l e1 mm q S2 k R p j t) : Gets Tryd.prog (KH.low ⟨2, 1, [(0, 0, .cells [(.int .i64 1), (.int .i64 64), (.int .i64 1), (.int .i64 64)] e0 false), (1, 0, .tail off .u8 l e1)]⟩) (codeAt [1, 1, 1, 1, 1, 1, 1, 1, 1, 1, 1, 1, 1, 1, 0, 1] BSa) t.low (onN (fun s => Gets Tryd.prog (SaH e0 off l e1) (codeAt [1, 1, 1, 1, 1, 1, 1, 1, 1, 1, 1, 1, 1, 1, 1] BSa) s (QL)) (QL)) := by
  rw [SaC1_1_1_1_1_1_1_1_1_1_1_1_1_1_0_1, SaC1_1_1_1_1_1_1_1_1_1_1_1_1_1_0_1_0]
  refine Gets.loopG (fun j t => LIA e0 off l e1 mm q S2 k R p j t) ?_ _ _ hI
  clear hI j t
  intro j t hI
  cases hI with
  | r i hi =>
    by_cases hlt : i < mm
    · have h1 := hth i hlt
      have hpi := hp i
      cases hq2 : q.getD (i + 2) false with
      | true =>
        rw [hq2] at h1 hpi
        obtain ⟨g1, g2⟩ := rest_at hlt hpi
        have k1 : LIA e0 off l e1 mm q S2 k R p (mm - (i + 1)) (SaS33 off e0 l e1 mm (i + 1) q S2 k R (atN p (i + 1))) := .r (i + 1) (by omega)
        rw [atN_next, if_pos hpi] at k1
        refine Sath hlt hm hql hk hk2 (by rw [← hk, hR]; exact g1) h1 hq2 (by rw [hR]; exact g2) ?_
        exact ⟨_, _, by omega, rfl, k1⟩
      | false =>
        rw [hq2] at h1 hpi
        have k1 : LIA e0 off l e1 mm q S2 k R p (mm - (i + 1)) (SaS33 off e0 l e1 mm (i + 1) q S2 k R (atN p (i + 1))) := .r (i + 1) (by omega)
        rw [atN_next, if_neg (by rw [hpi]; exact fun h => by cases h)] at k1
        refine Sant hlt hm hql h1 hq2 ?_
        exact ⟨_, _, by omega, rfl, k1⟩
    · have e : i = mm := by omega
      subst e
      refine Saex (Nat.le_refl _) ?_
      exact ⟨fun _ => Saen (by rw [← hk, hR]; rfl) (qL (by kernel_rfl)), fun h => by cases h⟩
inductive LIB (e0 : TypeId) (off : Nat) (l : List Int) (e1 : TypeId) (mm : Nat) (q : List Bool) (S2 : ArSt) : Nat → KSt → Prop
  | r (i : Nat) (hi : i ≤ mm) : LIB e0 off l e1 mm q S2 (mm - i) (SbS5 mm q S2 e0 off l e1 i)
theorem lastB (e0 : TypeId) (off : Nat) (l : List Int) (e1 : TypeId) (mm : Nat) (q : List Bool) (S2 : ArSt) (hm : mm ≤ 19) (hql : q.length = mm + 40) (hth : ∀ j, j < mm → (S2.size (((j : Nat) : Int) + 2) == 1) = q.getD (j + 2) false) (hno : ∀ j, j < mm → q.getD (j + 2) false = false) (j : Nat) (t : KSt) (hI : LIB e0 off l e1 mm q S2 j t) : Gets Tryd.prog (KH.low ⟨2, 1, [(0, 0, .cells [(.int .i64 1), (.int .i64 64), (.int .i64 1), (.int .i64 64)] e0 false), (1, 0, .tail off .u8 l e1)]⟩) (codeAt [1, 1, 1, 1, 1, 1, 1, 1, 1, 1, 1, 1, 1, 1, 0, 1] BSb) t.low (onN (fun s => Gets Tryd.prog (SbH e0 off l e1) (codeAt [1, 1, 1, 1, 1, 1, 1, 1, 1, 1, 1, 1, 1, 1, 1] BSb) s (QL)) (QL)) := by
  rw [SbC1_1_1_1_1_1_1_1_1_1_1_1_1_1_0_1, SbC1_1_1_1_1_1_1_1_1_1_1_1_1_1_0_1_0]
  refine Gets.loopG (fun j t => LIB e0 off l e1 mm q S2 j t) ?_ _ _ hI
  clear hI j t
  intro j t hI
  cases hI with
  | r i hi =>
    by_cases hlt : i < mm
    · have h1 := hth i hlt
      have hq2 := hno i hlt
      rw [hq2] at h1
      refine Sbnt hlt hm hql h1 hq2 ?_
      exact ⟨mm - (i + 1), _, by omega, rfl, .r (i + 1) (by omega)⟩
    · refine Sbex (by omega) ?_
      exact ⟨fun _ => Sben (qL (by kernel_rfl)), fun h => by cases h⟩
theorem rest2 (e0 : TypeId) (off : Nat) (l : List Int) (e1 : TypeId) (nn mm : Nat) (S : ArSt) (q : List Bool) (i : Nat) (h1 : 1 ≤ nn) (h8 : nn ≤ 8) (hm : mm ≤ 19) (hi : i ≤ nn) (hG : Gd l nn mm S q i) : Gets Tryd.prog (KH.low ⟨2, 1, [(0, 0, .cells [(.int .i64 1), (.int .i64 64), (.int .i64 1), (.int .i64 64)] e0 false), (1, 0, .tail off .u8 l e1)]⟩) (codeAt [1, 1, 1, 1, 1, 1, 1, 1] BSa) (KSt.low (SaS25 off e0 l e1 (((nn : Nat) : Int)) mm (keptL mm) q S)) QL := by
  have hs : siteP 1 (((nn : Nat) : Int) - 1) ((nn : Nat) : Int) 1 = true := siteP_t (by decide) (by omega) (by omega) (by omega) (by omega) (by omega) (by omega)
  have hM : nn + (keptL mm).length ≤ Int.toNat 100000 := by rw [keptL_len]; have : Int.toNat 100000 = 100000 := rfl; omega
  obtain ⟨x2, e1', e2, e3, e4, e5⟩ := al_look (Sd := ⟨1, ((nn : Nat) : Int) - 1, ((nn : Nat) : Int), 1, 0⟩) (S := S) (W := keptL mm) (ts := nn) (by rw [keptL_len]; omega) rfl h1 (by omega) (fun t ht => hG.fld.err ht) (Int.toNat 100000) hM
  obtain ⟨hf, hsz⟩ := hG.left hi
  have hfin : rtFin x2 = true := by unfold rtFin; rw [e2]; rfl
  refine Saal (keptL_len mm) (by omega) (by omega) hm hs e5 (congrArg Prod.fst e1') (congrArg Prod.snd e1') rfl ?_
  have hle : ((keptL mm).filter (hasW (ansL S 1 0 nn))).length ≤ mm := Nat.le_trans (List.length_filter_le _ _) (by rw [keptL_len]; exact Nat.le_refl _)
  cases hr : Nat.ble 1 (rtRest x2).length with
  | true =>
    refine Sara e3 hfin e2 hf e4 rfl (Nat.le_of_ble_eq_true hr) ?_
    exact lastA (p := hasW (ansL S 1 0 nn)) (hm := hm) (hql := hG.ql) (hth := hsz) (hR := rfl) (hk := rfl) (hk2 := by omega) (hp := hG.told hi) (j := mm - 0) (hI := .r 0 (Nat.zero_le _))
  | false =>
    have hnil : (keptL mm).filter (hasW (ansL S 1 0 nn)) = [] := by
      rw [← e4]
      cases hq : rtRest x2 with
      | nil => rfl
      | cons a r => rw [hq] at hr; cases hr
    have hno : ∀ j, j < mm → q.getD (j + 2) false = false := fun j hj => by
      rw [← hG.told hi j]
      cases ht : hasW (ansL S 1 0 nn) (((j : Nat) : Int) + 2) with
      | false => rfl
      | true =>
        have := List.mem_filter.2 ⟨(keptL_mem mm).2 ⟨j, hj, rfl⟩, ht⟩
        rw [hnil] at this; cases this
    refine (show Gets Tryd.prog (KH.low ⟨2, 1, [(0, 0, .cells [(.int .i64 1), (.int .i64 64), (.int .i64 1), (.int .i64 64)] e0 false), (1, 0, .tail off .u8 l e1)]⟩) (codeAt [1, 1, 1, 1, 1, 1, 1, 1, 1, 1, 1] BSb) (KSt.low (SbS0 mm x2 q (((keptL mm).filter fun w => !hasW (ansL S 1 0 nn) w).foldl ArSt.free S) e0 off l e1)) QL from ?_)
    refine Sbrb e3 hfin e2 hf hr ?_
    exact lastB (hm := hm) (hql := hG.ql) (hth := hsz) (hno := hno) (j := mm - 0) (hI := .r 0 (Nat.zero_le _))
inductive GI (e0 : TypeId) (off : Nat) (l : List Int) (e1 : TypeId) (gn gc nn mm : Nat) : Nat → KSt → Prop
  | r (i : Nat) (S : ArSt) (q : List Bool) (hG : Gd l nn mm S q i) (hi : i ≤ gn) (hi2 : i ≤ nn) : GI e0 off l e1 gn gc nn mm (gn - i) (SaS17 off gn gc e0 l e1 (((nn : Nat) : Int)) mm i (keptL mm) q S)
theorem guards (e0 : TypeId) (off : Nat) (l : List Int) (e1 : TypeId) (gn gc nn mm : Nat) (h1 : 1 ≤ nn) (h8 : nn ≤ 8) (hm : mm ≤ 19) (hgl : l.length = gc) (hgc : gn ≤ gc) (hg : gn ≤ 8) (hu : ∀ t, t < l.length → 0 ≤ l.getD t 0 ∧ l.getD t 0 < 256) (j : Nat) (t : KSt) (hI : GI e0 off l e1 gn gc nn mm j t) : Gets Tryd.prog (KH.low ⟨2, 1, [(0, 0, .cells [(.int .i64 1), (.int .i64 64), (.int .i64 1), (.int .i64 64)] e0 false), (1, 0, .tail off .u8 l e1)]⟩) (codeAt [1, 1, 1, 1, 1, 1, 1, 0, 1] BSa) t.low (onN (fun s => Gets Tryd.prog (SaH e0 off l e1) (codeAt [1, 1, 1, 1, 1, 1, 1, 1] BSa) s (QL)) (QL)) := by
  rw [SaC1_1_1_1_1_1_1_0_1, SaC1_1_1_1_1_1_1_0_1_0]
  refine Gets.loopG (fun j t => GI e0 off l e1 gn gc nn mm j t) ?_ _ _ hI
  clear hI j t
  intro j t hI
  cases hI with
  | r i S q hG hi hi2 =>
    by_cases hlt : i < gn
    · by_cases hin : ((i : Nat) : Int) < ((nn : Nat) : Int)
      · obtain ⟨u1, u2⟩ := hu i (by omega)
        obtain ⟨b1, b2⟩ := bN_eq hm u1 u2
        refine Sag (b := bN l mm i) hgl hgc hg (by omega) hlt hin hm hG.ql (by omega) b1 (decide_eq_true (.inr (.inl ⟨rfl, by omega, rfl⟩))) ?_
        exact ⟨gn - (i + 1), _, by omega, rfl, .r (i + 1) _ _ (hG.next (by omega) (by omega)) (by omega) (by omega)⟩
      · refine Sagx2 hlt (by omega) ?_
        exact ⟨fun _ => rest2 e0 off l e1 nn mm S q i h1 h8 hm hi2 hG, fun h => by cases h⟩
    · refine Sagx1 (by omega) ?_
      exact ⟨fun _ => rest2 e0 off l e1 nn mm S q i h1 h8 hm hi2 hG, fun h => by cases h⟩
inductive KI (e0 : TypeId) (off : Nat) (l : List Int) (e1 : TypeId) (gn gc nn mm : Nat) : Nat → KSt → Prop
  | r (i : Nat) (hi : i ≤ mm) : KI e0 off l e1 gn gc nn mm (mm - i) (SaS5 off gn gc e0 l e1 (((nn : Nat) : Int)) mm i (keptL i))
theorem kept (e0 : TypeId) (off : Nat) (l : List Int) (e1 : TypeId) (gn gc nn mm : Nat) (h1 : 1 ≤ nn) (h8 : nn ≤ 8) (hm : mm ≤ 19) (hgl : l.length = gc) (hgc : gn ≤ gc) (hg : gn ≤ 8) (hu : ∀ t, t < l.length → 0 ≤ l.getD t 0 ∧ l.getD t 0 < 256) (j : Nat) (t : KSt) (hI : KI e0 off l e1 gn gc nn mm j t) : Gets Tryd.prog (KH.low ⟨2, 1, [(0, 0, .cells [(.int .i64 1), (.int .i64 64), (.int .i64 1), (.int .i64 64)] e0 false), (1, 0, .tail off .u8 l e1)]⟩) (codeAt [1, 1, 1, 1, 1, 0, 1] BSa) t.low (onN (fun s => Gets Tryd.prog (SaH e0 off l e1) (codeAt [1, 1, 1, 1, 1, 1] BSa) s (QL)) (QL)) := by
  rw [SaC1_1_1_1_1_0_1, SaC1_1_1_1_1_0_1_0]
  refine Gets.loopG (fun j t => KI e0 off l e1 gn gc nn mm j t) ?_ _ _ hI
  clear hI j t
  intro j t hI
  cases hI with
  | r i hi =>
    by_cases hlt : i < mm
    · by_cases hz : i = 0
      · subst hz
        refine Sak0 (w := keptL 0) (i := 0) rfl hm hlt rfl ?_
        exact ⟨mm - (0 + 1), (SaS5 off gn gc e0 l e1 (((nn : Nat) : Int)) mm (0 + 1) (keptL (0 + 1))), by omega, rfl, .r (0 + 1) (by omega)⟩
      · have e : keptL (i + 1) = List.take i (keptL i) ++ [((i : Nat) : Int) + 2] := by rw [List.take_of_length_le (by rw [keptL_len]; exact Nat.le_refl _)]; rfl
        have k1 : KI e0 off l e1 gn gc nn mm (mm - (i + 1)) (SaS5 off gn gc e0 l e1 (((nn : Nat) : Int)) mm (i + 1) (keptL (i + 1))) := .r (i + 1) (by omega)
        rw [e] at k1
        refine Sak1 (keptL_len i) hm hlt (by omega) ?_
        exact ⟨_, _, by omega, rfl, k1⟩
    · have e : i = mm := by omega
      subst e
      refine Sakx (Nat.le_refl _) (Nat.le_refl _) ?_
      refine ⟨fun _ => ?_, fun h => by cases h⟩
      refine (show Gets Tryd.prog (KH.low ⟨2, 1, [(0, 0, .cells [(.int .i64 1), (.int .i64 64), (.int .i64 1), (.int .i64 64)] e0 false), (1, 0, .tail off .u8 l e1)]⟩) (codeAt [1, 1, 1, 1, 1, 1] BSa) (KSt.low (SaS14 off gn gc e0 l e1 (((nn : Nat) : Int)) (i) (keptL i))) QL from ?_)
      refine Samid hm ?_
      exact guards e0 off l e1 gn gc nn i h1 h8 hm hgl hgc hg hu (gn - 0) _ (.r 0 _ _ (Gd.zero rfl h8 hm) (Nat.zero_le _) (Nat.zero_le _))
theorem told (thr blo : Int) (e0 : TypeId) (off : Nat) (l : List Int) (e1 : TypeId) (gn gc : Nat) (t0 : 0 ≤ thr) (t1 : thr < 256) (b0 : 0 ≤ blo) (b1 : blo < 256) (hgl : l.length = gc) (hgc : gn ≤ gc) (hu : ∀ t, t < l.length → 0 ≤ l.getD t 0 ∧ l.getD t 0 < 256) : Tells Tryd.prog 4 [(.int .u8 thr), (.int .u8 blo), (.slice (some ⟨1, off, none⟩) gn gc)] (mkH [.cells [(.int .i64 1), (.int .i64 64), (.int .i64 1), (.int .i64 64)] e0 false, .tail off .u8 l e1]).low (.bool true) := by
  refine Gets.tells Tryd.func4 BSa_is (by rw [oneVar]; exact (show (1 : Nat) ≤ 2 by decide)) rfl ?_ (Ro.rows rfl)
  show Gets Tryd.prog (KH.low ⟨2, 1, [(0, 0, .cells [(.int .i64 1), (.int .i64 64), (.int .i64 1), (.int .i64 64)] e0 false), (1, 0, .tail off .u8 l e1)]⟩) BSa (KSt.low (SaS0 thr blo off gn gc e0 l e1)) QL
  by_cases hg : gn ≤ 8
  rotate_left
  · exact Sal hg (qL (by kernel_rfl))
  have hN : (IntKind.wrap .i64 ((Int.tmod (IntKind.wrap .i64 thr) 8) + 1)) = (((thr % 8 + 1).toNat : Nat) : Int) := by
    rw [wrap_i64_id (n := thr) (by omega) (by omega), Int.tmod_eq_emod_of_nonneg t0, wrap_i64_id (by omega) (by omega)]; omega
  have hM : (Int.tmod (IntKind.wrap .i64 blo) 20) = (((blo % 20).toNat : Nat) : Int) := by
    rw [wrap_i64_id (n := blo) (by omega) (by omega), Int.tmod_eq_emod_of_nonneg b0]; omega
  have n1 : 1 ≤ (thr % 8 + 1).toNat := by omega
  have n8 : (thr % 8 + 1).toNat ≤ 8 := by omega
  have m19 : (blo % 20).toNat ≤ 19 := by omega
  refine Sain hN hM (by omega) (by omega) m19 hg ?_
  have h := kept e0 off l e1 gn gc _ _ n1 n8 m19 hgl hgc hg hu ((blo % 20).toNat - 0) (SaS5 off gn gc e0 l e1 ((((thr % 8 + 1).toNat : Nat) : Int)) ((blo % 20).toNat) (0) (keptL 0)) (.r 0 (Nat.zero_le _))
  exact h
theorem own : ownKnob Tryd.prog.godebug = none := by kernel_rfl
theorem door_met (os : Os) (args : Array Value) : laidMetH Tryd.prog laidV ((World.doorLaid Tryd.prog 400 os).forCall (fun _ _ => 0) ⟨#[], args, []⟩).memory :=
  laidMetH_of_parts3 (fuel := 8) (laidMet_of_run' 8 (by kernel_rfl) (by kernel_rfl)) (by kernel_rfl) (by kernel_rfl)
theorem lifted (os : Os) (started : os.Started) (H : Type) (enc : TypeId × Value → H) :
    ReturnsInHanded {} Tryd.checked os 4 .any (fun w args => (Rows.retireSafeSpec.pre enc Tryd.prog Tryd.f4 [] false w args ∧ laidMetH Tryd.prog laidV w) ∧ sizedMet enc Tryd.prog Tryd.f4 (OpenSpec.ofChange Rows.retireSafeSpec) false w args)
      (Rows.retireSafeSpec.post enc Tryd.prog Tryd.f4 false true false false) := by
  refine returnsInHanded_of_change_and (C := Tryd.checked) (X := fun w _ => laidMetH Tryd.prog laidV w) (fun _ _ _ hh h => h.of_heap hh) own started (by kernel_rfl) Tryd.func4
    (ChangeSpec.witness_shaped (enc := enc) (C := Tryd.checked) (os := os) (X := fun w _ => laidMetH Tryd.prog laidV w) false (World.doorLaid Tryd.prog 400 os) #[.int .u8 0, .int .u8 0, .slice none 0 0] 8 rfl (World.shaped_of_RefB (by kernel_rfl) (by kernel_rfl)) (by kernel_rfl) (by kernel_rfl) (by kernel_rfl) (door_met os _)) ?_
  intro W base args ds gs before hval0 hW hcnd hsz0 hL _
  have hvar := bounds_cells hL
  have hval : ∀ (j : Nat) t v, Tryd.f4.params[j]? = some t → args[j]? = some v → Value.okWide Tryd.prog W .any base t v := hval0
  have hW' := hW
  obtain ⟨p, q, hA0, hV, rfl, hfz, hnd⟩ := hW
  have hA : DataW.TrodAll enc Tryd.prog W 0 (fun _ => true) true Tryd.f4.params.toList args.toList ds p := hA0
  rw [Tryd.params4] at hA hval
  have hS := hA
  obtain ⟨v0, vs0, d0, ds0, p0, q0, hargs, rfl, rfl, h0, r0⟩ := trodAll_cons hA
  obtain ⟨v1, vs1, d1, ds1, p1, q1, rfl, rfl, rfl, h1, r1⟩ := trodAll_cons r0
  obtain ⟨v2, vs2, d2, ds2, p2, q2, rfl, rfl, rfl, h2, r2⟩ := trodAll_cons r1
  obtain ⟨rfl, rfl, rfl⟩ := trodAll_nil r2
  obtain rfl : args = #[v0, v1, v2] := by cases args; simp_all
  obtain ⟨rfl, rfl⟩ := trodVars_none hV
  suffices hc : Calls Tryd.prog 4 #[v0, v1, v2] W fun e W' => e = .returned (.bool true) ∧ Below W.heap.size W W' by
    refine hc.mono fun e W' ⟨he, bel⟩ => ?_
    subst he
    exact ⟨_, rfl, _, _, _, [], _, [], hW', trodAll_mk1 (shut_bool Tryd.underlying4 _), trodAll_stays fineA bel (by decide +kernel) hS, rfl, bel.frame _, fun h => by cases h⟩
  clear hS hW' hfz hnd
  obtain ⟨a0, rfl, rfl, rfl, w0⟩ := open_int Tryd.underlying5 (hval 0 5 v0 rfl rfl) h0
  obtain ⟨a1, rfl, rfl, rfl, w1⟩ := open_int Tryd.underlying5 (hval 1 5 v1 rfl rfl) h1
  have o2 := Go.Eng.open_row Tryd.underlying39 Tryd.underlying5 (by kernel_rfl) (hval 2 39 v2 rfl rfl) h2
  obtain ⟨_, cs0, eb, fr0, hw0, hcs0⟩ := Go.Eng.cells_row (by decide) hvar
  have hfb : ∃ cs e fr, W.heap[0]? = some (.cells cs e fr) := ⟨cs0, eb, fr0, hw0⟩
  obtain ⟨b1, off, n, c, l, e1, hr1, hl, hle, hmx, hwf, hR1⟩ := Go.Eng.row_open (P := Tryd.prog) hfb o2
  have hS := Go.Eng.Sim.rows (P := Tryd.prog) W [(0, .cells (intCells .i64 [1, 64, 1, 64]) eb false), (b1, .tail off .u8 l e1)] (fun g hg => by
    rw [oneVar] at hg
    have : g = 0 := Nat.lt_one_iff.1 hg
    subst this; rfl) (fun r hr => by
    simp only [List.mem_cons, List.not_mem_nil, or_false] at hr
    rcases hr with rfl | rfl
    · exact ⟨rfl, _, hw0, fun ρ => cells_robj hcs0⟩
    · exact ⟨rfl, hr1.robj (P := Tryd.prog) (fun v hv => by obtain ⟨n, _, rfl⟩ := List.mem_map.1 hv; rfl) rfl⟩)
  have hu : ∀ t, t < l.length → 0 ≤ l.getD t 0 ∧ l.getD t 0 < 256 := fun t ht => by
    rw [List.getD_eq_getElem?_getD, List.getElem?_eq_getElem ht]
    exact wf_u8 (hwf _ (List.getElem_mem ht))
  exact told a0 a1 eb off l e1 n c (wf_u8 w0).1 (wf_u8 w0).2 (wf_u8 w1).1 (wf_u8 w1).2 hl hle hu _ W _ (.cons (.int _ _) (.cons (.int _ _) (.cons (hR1 _ 1 rfl) (.nil _)))) hS
theorem over : Rows.retireSafeRow.holds Tryd.pinned (OpenSpec.ofChange Rows.retireSafeSpec) :=
  OpenClaim.holds_of_wide 4 Tryd.f4 rfl rfl rfl rfl rfl rfl rfl ⟨rfl, rfl, rfl, rfl, rfl⟩ rfl rfl rfl rfl rfl (by kernel_rfl) Tryd.func4 (by kernel_rfl)
    (of_decide_eq_true (by kernel_rfl)) (by unfold Func.isWrapper; first | (rw [if_pos (by decide +kernel)]; kernel_rfl) | (rw [if_neg (by decide +kernel)]; exact ⟨rfl, rfl⟩))
    (fun os started H enc _ => lifted os started H enc)
end Go.Proofs.YtfhfbbhoppnbiaaDoor.retireSafe
namespace Go.Proofs.YtfhfbbhoppnbiaaDoor
theorem retireSafe_holds : Rows.RetireSafeCardSaid :=
  Claim7.holds_tied_plain_at .later [] [.data] true (true, "80ad640ccfb8691687907d513bc9c639172fcb885c07e86386dfb090205ba3e4") false
    retireSafe.over (fun _ h => by cases h) (by kernel_rfl) (fun _ h => by cases h) retireSafe_row_tie rfl ⟨rfl, rfl⟩ (by kernel_rfl) rfl
    (fun f fn hf hfn => by
      obtain rfl : f = 4 := Option.some.inj ((show Tryd.prog.funcNamed "sprocket/sprocketlaw24.RetireSafe" = some 4 by kernel_rfl).symm.trans hf) |>.symm
      obtain rfl : fn = Tryd.f4 := (Option.some.inj (Tryd.func4.symm.trans hfn)).symm
      exact ⟨by kernel_rfl, fun j t ht => by
        rw [Tryd.params4] at ht
        have hm : t ∈ [5, 5, 39] := by simpa using Array.mem_of_getElem? ht
        have hall : ([5, 5, 39].all fun u => !Tryd.prog.wantsStandIn u) = true := by kernel_rfl
        exact (show Tryd.prog.wantsStandIn t = false by simpa using List.all_eq_true.1 hall t hm)⟩)
    (by kernel_rfl)
#print axioms retireSafe_holds
end Go.Proofs.YtfhfbbhoppnbiaaDoor
