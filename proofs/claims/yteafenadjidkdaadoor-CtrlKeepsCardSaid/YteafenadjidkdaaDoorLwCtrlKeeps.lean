/- Whatever the word and the claims: CtrlKeeps answers true. -/
import Derived.Test.YteafenadjidkdaaDoorCards
import Derived.Test.YteafenadjidkdaaDoorTie
import Derived.Deep.Slices
import Derived.Test.YteafenadjidkdaaDoorKpW0
import Derived.WalkKit
import Derived.ProofKit
import Derived.OpenShut
import Derived.ChangeOld
import Derived.Below
import Derived.SizedLaws
namespace Go.Proofs.YteafenadjidkdaaDoor.ctrlKeeps
open Go.Eng
open Go.ChangeShapes Go.WideShapes Go.ChangeAt Go.RowKit
set_option linter.unusedVariables false
set_option linter.unusedSimpArgs false
set_option maxRecDepth 100000
open Go.Proofs.YteafenadjidkdaaDoor.ctrls (word isWord class_eq classA classR claimA sealA nextI)
open Go.Proofs.YteafenadjidkdaaDoor.claimed (clL clNone onS Gets.scope)
open Go.Proofs.YteafenadjidkdaaDoor.keeps

noncomputable def QE : Ex → St → Prop := Eng.Ends Tryd.prog Tryd.f8.results.toList fun r _ => r = .bool true
theorem qe_true {s : KSt} (h : resL Tryd.prog s.low Tryd.f8.results.toList = some [.bool true]) : QE .ret s.low := Ends.of h rfl
inductive FInv (x : Int) (pre n c : Nat) (l : List Int) (e0 e : TypeId) : Nat → KSt → Prop
  | at_ (k f : Int) (hk : 0 ≤ k) (hk8 : k ≤ 8) (hf : 0 ≤ f) (hfk : f ≤ k) (hz : 0 < f → ∃ q, (0 ≤ q ∧ q ≤ 7) ∧ byteV x q = 0) : FInv x pre n c l e0 e (8 - k).toNat (S23 x (sealA x) f k pre l e e0)
theorem loopF (x : Int) (pre n c : Nat) (l : List Int) (e0 e : TypeId) (hx : word x) (m : Nat) (s : KSt) (hI : FInv x pre n c l e0 e m s) :
    Gets Tryd.prog (varRow .u8 tz e0 pre .i64 l e).low (codeAt [1, 1, 1, 1, 1, 1, 0, 1] B) s.low (onN (fun s => Gets Tryd.prog (varRow .u8 tz e0 pre .i64 l e).low (codeAt [1, 1, 1, 1, 1, 1, 1] B) s (QE)) (QE)) := by
  rw [C1_1_1_1_1_1_0_1, C1_1_1_1_1_1_0_1_0]
  refine Gets.loopG (fun m s => FInv x pre n c l e0 e m s) ?_ _ _ hI
  clear hI m s
  intro m s hI
  cases hI with
  | at_ k f hk hk8 hf hfk hz =>
    by_cases h8 : k = 8
    · refine fx 0 x 0 (sealA x) 0 k f pre n c l e0 e h8 ?_
      refine ⟨fun _ => ?_, fun h => by cases h⟩
      have hw : isWord (sealA x) = true := by unfold isWord; exact decide_eq_true (seal_word hx)
      have hn := seal_none hx
      have hcl := congrArg List.length (seal_cl hx 8 (by omega))
      by_cases h0 : f = 0
      · cases hc : clNone x with
        | true => exact t0n 0 x 0 (sealA x) 0 k f pre n c l e0 e hw (seal_seal hx) h0 (hn.trans hc) hc (qe_true (by kernel_rfl))
        | false => exact t0s 0 x 0 (sealA x) 0 k f pre n c l e0 e hw (seal_seal hx) h0 (hn.trans hc) hc hcl (qe_true (by kernel_rfl))
      · obtain ⟨q, hq, hb⟩ := hz (by omega)
        obtain ⟨g1, g2⟩ := seal_next hx hq hb
        cases hc : clNone x with
        | true => exact t1n 0 x 0 (sealA x) 0 k f pre n c l e0 e hw (seal_seal hx) (by omega) g1 g2 (hn.trans hc) hc (qe_true (by kernel_rfl))
        | false => exact t1s 0 x 0 (sealA x) 0 k f pre n c l e0 e hw (seal_seal hx) (by omega) g1 g2 (hn.trans hc) hc hcl (qe_true (by kernel_rfl))
    · cases hC : ((classA x k 0) == 1) with
      | true =>
        have hb : byteV x k = 0 := by rw [class_free] at hC; exact of_decide_eq_true hC
        refine ff 0 x 0 (sealA x) 0 k f pre n c l e0 e hk (by omega) hf hfk hC (by rw [class_one (by rw [seal_byte hx ⟨hk, by omega⟩, if_pos hb])]; rfl) ?_
        exact ⟨_, _, by omega, rfl, .at_ (k + 1) (f + 1) (by omega) (by omega) (by omega) (by omega) (fun _ => ⟨k, ⟨hk, by omega⟩, hb⟩)⟩
      | false =>
        refine fg 0 x 0 (sealA x) 0 k f pre n c l e0 e hk (by omega) hf hfk hC (seal_keep hx ⟨hk, by omega⟩ hC) ?_
        exact ⟨_, _, by omega, rfl, .at_ (k + 1) f (by omega) (by omega) (by omega) (by omega) hz⟩
inductive KInv (x y i : Int) (pre n c : Nat) (l : List Int) (e0 e : TypeId) : Nat → KSt → Prop
  | at_ (k : Int) (hk : 0 ≤ k) (hk8 : k ≤ 8) : KInv x y i pre n c l e0 e (8 - k).toNat (S12 pre n c x i y k l e e0)
inductive XInv (pre n c : Nat) (l : List Int) (e0 e : TypeId) : Nat → KSt → Prop
  | at_ (i x : Int) (hi : 0 ≤ i) (hin : i ≤ (n : Int)) (hx : word x) : XInv pre n c l e0 e ((n : Int) - i).toNat (S5 pre n c x i l e e0)
theorem loopX (pre n c : Nat) (l : List Int) (e0 e : TypeId) (hn40 : n ≤ 40) (hc : n ≤ c) (hl : l.length = 2 * c) (hcp : c ≤ 9223372036854775807) (m : Nat) (s : KSt) (hI : XInv pre n c l e0 e m s) :
    Gets Tryd.prog (varRow .u8 tz e0 pre .i64 l e).low (codeAt [1, 1, 1, 0, 1] B) s.low (onN (fun s => Gets Tryd.prog (varRow .u8 tz e0 pre .i64 l e).low (codeAt [1, 1, 1, 1] B) s (QE)) (QE)) := by
  rw [C1_1_1_0_1, C1_1_1_0_1_0]
  refine Gets.loopG (fun m s => XInv pre n c l e0 e m s) ?_ _ _ hI
  clear hI m s
  intro m s hI
  cases hI with
  | at_ i x hi hin hx =>
    by_cases h : i = (n : Int)
    · refine x1 0 x 0 0 i 0 0 pre n c l e0 e h ?_
      refine ⟨fun _ => ?_, fun h => by cases h⟩
      refine sl 0 x 0 (sealA x) i 0 0 pre n c l e0 e rfl ?_
      exact loopF x pre n c l e0 e hx _ _ (.at_ 0 0 (by omega) (by omega) (by omega) (by omega) (fun h => absurd h (by omega)))
    · obtain ⟨y, hy⟩ : ∃ y, (claimA x (l.getD (((pre + ((Int.toNat i) * 2)) + 0) - pre) 0) (l.getD (((pre + ((Int.toNat i) * 2)) + 1) - pre) 0)) = y := ⟨_, rfl⟩
      have hyw : word y := by rw [← hy]; exact claim_word hx
      refine mm 0 x y 0 i 0 0 pre n c l e0 e hn40 hc hl hcp hi (by omega) hy ?_
      rw [C1_1_1_0_1_0_0_1_0_0_1_0_1, C1_1_1_0_1_0_0_1_0_0_1_0_1_0]
      refine Gets.loopG (fun m s => KInv x y i pre n c l e0 e m s) ?_ _ _ (KInv.at_ 0 (by omega) (by omega))
      intro m s hK
      cases hK with
      | at_ k hk hk8 =>
        by_cases h8 : k = 8
        · refine kx 0 x y 0 i k 0 pre n c l e0 e h8 ?_
          refine ⟨fun _ => ?_, fun h => by cases h⟩
          refine kb 0 x y 0 i k 0 pre n c l e0 e hi (by omega) ?_
          refine kc 0 x y 0 i k 0 pre n c l e0 e hi (by omega) ?_
          exact ⟨_, _, by omega, rfl, .at_ (i + 1) y (by omega) (by omega) hyw⟩
        · cases hb : ((byteRV x k) != 0) with
          | false =>
            refine kz 0 x y 0 i k 0 pre n c l e0 e hk (by omega) hb ?_
            exact ⟨_, _, by omega, rfl, .at_ (k + 1) (by omega) (by omega)⟩
          | true =>
            refine ko 0 x y 0 i k 0 pre n c l e0 e hk (by omega) hb (by rw [← hy]; exact claim_keep hx ⟨hk, by omega⟩ hb) ?_
            exact ⟨_, _, by omega, rfl, .at_ (k + 1) (by omega) (by omega)⟩
theorem told (w : Int) (pre n c : Nat) (l : List Int) (e0 e : TypeId) (hw : word w) (hc : n ≤ c) (hl : l.length = 2 * c) (hcp : c ≤ 9223372036854775807) :
    Tells Tryd.prog 8 [.int .u64 w, .slice (some ⟨1, pre, none⟩) n c] (varRow .u8 tz e0 pre .i64 l e).low (.bool true) := by
  refine Gets.tells Tryd.func8 B_is (by rw [oneVar]; exact (show (1 : Nat) ≤ 2 by decide)) rfl ?_ Ro.varRow
  show Gets Tryd.prog (varRow .u8 tz e0 pre .i64 l e).low B (KSt.low (S0 w pre n c l e e0)) QE
  by_cases hn : 40 < n
  · exact r40 w 0 0 0 0 0 0 pre n c l e0 e hn (qe_true (by kernel_rfl))
  refine r0 w 0 0 0 0 0 0 pre n c l e0 e (by omega) ?_
  exact loopX pre n c l e0 e (by omega) hc hl hcp _ _ (.at_ 0 w (by omega) (by omega) hw)
inductive vFInv (x : Int) (pre : Nat) (e0 : TypeId) : Nat → KSt → Prop
  | at_ (k f : Int) (hk : 0 ≤ k) (hk8 : k ≤ 8) (hf : 0 ≤ f) (hfk : f ≤ k) (hz : 0 < f → ∃ q, (0 ≤ q ∧ q ≤ 7) ∧ byteV x q = 0) : vFInv x pre e0 (8 - k).toNat (vS11 x (sealA x) f k e0)
theorem vloopF (x : Int) (pre : Nat) (e0 : TypeId) (hx : word x) (m : Nat) (s : KSt) (hI : vFInv x pre e0 m s) :
    Gets Tryd.prog (varNone .u8 tz e0).low (codeAt [1, 1, 1, 1, 1, 1, 0, 1] B) s.low (onN (fun s => Gets Tryd.prog (varNone .u8 tz e0).low (codeAt [1, 1, 1, 1, 1, 1, 1] B) s (QE)) (QE)) := by
  rw [C1_1_1_1_1_1_0_1, C1_1_1_1_1_1_0_1_0]
  refine Gets.loopG (fun m s => vFInv x pre e0 m s) ?_ _ _ hI
  clear hI m s
  intro m s hI
  cases hI with
  | at_ k f hk hk8 hf hfk hz =>
    by_cases h8 : k = 8
    · refine vfx 0 x 0 (sealA x) 0 k f pre e0 h8 ?_
      refine ⟨fun _ => ?_, fun h => by cases h⟩
      have hw : isWord (sealA x) = true := by unfold isWord; exact decide_eq_true (seal_word hx)
      have hn := seal_none hx
      have hcl := congrArg List.length (seal_cl hx 8 (by omega))
      by_cases h0 : f = 0
      · cases hc : clNone x with
        | true => exact vt0n 0 x 0 (sealA x) 0 k f pre e0 hw (seal_seal hx) h0 (hn.trans hc) hc (qe_true (by kernel_rfl))
        | false => exact vt0s 0 x 0 (sealA x) 0 k f pre e0 hw (seal_seal hx) h0 (hn.trans hc) hc hcl (qe_true (by kernel_rfl))
      · obtain ⟨q, hq, hb⟩ := hz (by omega)
        obtain ⟨g1, g2⟩ := seal_next hx hq hb
        cases hc : clNone x with
        | true => exact vt1n 0 x 0 (sealA x) 0 k f pre e0 hw (seal_seal hx) (by omega) g1 g2 (hn.trans hc) hc (qe_true (by kernel_rfl))
        | false => exact vt1s 0 x 0 (sealA x) 0 k f pre e0 hw (seal_seal hx) (by omega) g1 g2 (hn.trans hc) hc hcl (qe_true (by kernel_rfl))
    · cases hC : ((classA x k 0) == 1) with
      | true =>
        have hb : byteV x k = 0 := by rw [class_free] at hC; exact of_decide_eq_true hC
        refine vff 0 x 0 (sealA x) 0 k f pre e0 hk (by omega) hf hfk hC (by rw [class_one (by rw [seal_byte hx ⟨hk, by omega⟩, if_pos hb])]; rfl) ?_
        exact ⟨_, _, by omega, rfl, .at_ (k + 1) (f + 1) (by omega) (by omega) (by omega) (by omega) (fun _ => ⟨k, ⟨hk, by omega⟩, hb⟩)⟩
      | false =>
        refine vfg 0 x 0 (sealA x) 0 k f pre e0 hk (by omega) hf hfk hC (seal_keep hx ⟨hk, by omega⟩ hC) ?_
        exact ⟨_, _, by omega, rfl, .at_ (k + 1) f (by omega) (by omega) (by omega) (by omega) hz⟩
inductive VXInv (pre : Nat) (e0 : TypeId) : Nat → KSt → Prop
  | at_ (i x : Int) (hi : i = 0) (hx : word x) : VXInv pre e0 0 (vS5 pre x i e0)
theorem vloopX (pre : Nat) (e0 : TypeId) (m : Nat) (s : KSt) (hI : VXInv pre e0 m s) :
    Gets Tryd.prog (varNone .u8 tz e0).low (codeAt [1, 1, 1, 0, 1] B) s.low (onN (fun s => Gets Tryd.prog (varNone .u8 tz e0).low (codeAt [1, 1, 1, 1] B) s (QE)) (QE)) := by
  rw [C1_1_1_0_1, C1_1_1_0_1_0]
  refine Gets.loopG (fun m s => VXInv pre e0 m s) ?_ _ _ hI
  clear hI m s
  intro m s hI
  cases hI with
  | at_ i x hi hx =>
    refine vx1 0 x 0 0 i 0 0 pre e0 hi ?_
    refine ⟨fun _ => ?_, fun h => by cases h⟩
    refine vsl 0 x 0 (sealA x) i 0 0 pre e0 rfl ?_
    exact vloopF x pre e0 hx _ _ (.at_ 0 0 (by omega) (by omega) (by omega) (by omega) (fun h => absurd h (by omega)))
theorem toldV (w : Int) (e0 : TypeId) (hw : word w) : Tells Tryd.prog 8 [.int .u64 w, .slice (some ⟨1, 0, none⟩) 0 0] (varNone .u8 tz e0).low (.bool true) := by
  refine Gets.tells Tryd.func8 B_is (by rw [oneVar]; exact (show (1 : Nat) ≤ 2 by decide)) rfl ?_ Ro.varNone
  show Gets Tryd.prog (varNone .u8 tz e0).low B (KSt.low (vS0 w 0 e0)) QE
  refine vr0 w 0 0 0 0 0 0 0 e0 ?_
  exact vloopX 0 e0 _ _ (.at_ 0 w rfl hw)
theorem open_pairs {H : Type} {enc : TypeId × Value → H} {W : World} {r : Reach} {b0 : Nat} {v : Value} {d : DataW H} {ps : List MemPlace} (hval : Value.okWide Tryd.prog W r b0 40 v) (hd : DataW.Trod enc Tryd.prog W 0 (fun _ => true) true 40 v d ps) :
    (∃ x, v = .slice x 0 0) ∨ ∃ (a : Addr) (len cap : Nat) (zs : List Int), v = .slice (some a) len cap ∧ 0 < cap ∧ len ≤ cap ∧ cap ≤ maxLen ∧ zs.length = 2 * cap ∧ (∀ i, i < zs.length → W.cell? (a.add i) = some (.int .i64 (zs.getD i 0))) := by
  have ht := Tryd.underlying40
  have he := Tryd.underlying33
  have hv : v.cells.toList = [v] := by
    unfold Value.okWide at hval
    rw [ht] at hval
    unfold Cell.okWide at hval
    rw [ht] at hval
    unfold Cell.ok at hval
    rw [ht] at hval
    cases v <;> first | rfl | (simp only at hval)
  obtain ⟨fuel, hf⟩ := hd
  rw [hv] at hf
  rcases Go.Deep.open_slice ht hf with ⟨hs, _⟩ | ⟨a, len, cap, m, n, D, Pl, hs, _, hle, hmx, hm, _, hx⟩
  · cases hs; exact .inl ⟨_, rfl⟩
  · cases hs
    simp only [if_true] at hm
    subst hm
    rcases Nat.eq_zero_or_pos m with h0 | h0
    · subst h0
      have : len = 0 := by omega
      subst this
      exact .inl ⟨_, rfl⟩
    · have ce : Tryd.prog.cellsOf 33 = 2 := by kernel_rfl
      have ck : Tryd.prog.cellsOf 3 = 1 := by kernel_rfl
      have each : ∀ j, j < 2 * m → ∃ z : Int, W.cell? (a.add j) = some (.int .i64 z) := by
        intro j hj
        obtain ⟨cs', h1, h2⟩ := hx (j / 2) (by omega)
        rw [ce] at h1
        obtain ⟨_, hlen, hcell⟩ := World.cells?_some h1
        obtain ⟨xs, m1, rfl, _, hl2, hn2, hel⟩ := DataW.trod_array he h2
        have h3 := hel (j % 2) (by omega)
        rw [ck] at h3
        have hxl : j % 2 < xs.length := by rw [hn2]; omega
        rw [List.getElem?_eq_getElem hxl] at h3
        obtain ⟨z, e, _, _⟩ := DataW.trod_int Tryd.underlying3 h3
        have h4 := hcell (j % 2) (by omega)
        rw [Go.Deep.add_add] at h4
        have hj2 : j / 2 * 2 + j % 2 = j := by omega
        rw [hj2] at h4
        refine ⟨z, h4.trans ?_⟩
        have h5 := congrArg (fun l => l[0]?) e
        simp only [Nat.mul_one, List.getElem?_take, List.getElem?_drop] at h5
        simpa using h5
      obtain ⟨g, hg⟩ := Go.Deep.choose_lt each
      refine .inr ⟨a, len, m, (List.range (2 * m)).map g, rfl, h0, hle, hmx, by simp, fun i hi => ?_⟩
      have hi2 : i < 2 * m := by simpa using hi
      rw [hg i hi2]
      simp [List.getD, hi2]
theorem own : ownKnob Tryd.prog.godebug = none := by kernel_rfl
def laidV0 : List (String × DataW Unit) := laidV
/-- The door's own heap meets the condition. -/
theorem door_met (os : Os) (args : Array Value) : laidMetH Tryd.prog laidV ((World.doorLaid Tryd.prog 400 os).forCall (fun _ _ => 0) ⟨#[], args, []⟩).memory :=
  laidMetH_of_parts3 (fuel := 8) (laidMet_of_run' 8 (by kernel_rfl) (by kernel_rfl)) (by kernel_rfl) (by kernel_rfl)
theorem lifted (os : Os) (started : os.Started) (H : Type) (enc : TypeId × Value → H) :
    ReturnsInHanded {} Tryd.checked os 8 .any (fun w args => (Rows.ctrlKeepsSpec.pre enc Tryd.prog Tryd.f8 [] false w args ∧ laidMetH Tryd.prog laidV w) ∧ sizedMet enc Tryd.prog Tryd.f8 (OpenSpec.ofChange Rows.ctrlKeepsSpec) false w args)
      (Rows.ctrlKeepsSpec.post enc Tryd.prog Tryd.f8 false true false false) := by
  refine returnsInHanded_of_change_and (C := Tryd.checked) (X := fun w _ => laidMetH Tryd.prog laidV w) (fun _ _ _ hh h => h.of_heap hh) own started (by kernel_rfl) Tryd.func8
    (ChangeSpec.witness_shaped (enc := enc) (C := Tryd.checked) (os := os) (X := fun w _ => laidMetH Tryd.prog laidV w) false (World.doorLaid Tryd.prog 400 os) #[.int .u64 0, .slice none 0 0] 8 rfl (World.shaped_of_RefB (by kernel_rfl) (by kernel_rfl)) (by kernel_rfl) (by kernel_rfl) (by kernel_rfl) (door_met os _)) ?_
  intro W base args ds gs before hval0 hW hcnd hsz0 hL _
  have hvar := tz_cells hL
  have hval : ∀ (j : Nat) t v, Tryd.f8.params[j]? = some t → args[j]? = some v → Value.okWide Tryd.prog W .any base t v := hval0
  have hW' := hW
  obtain ⟨p, q, hA0, hV, rfl, hfz, hnd⟩ := hW
  have hA : DataW.TrodAll enc Tryd.prog W 0 (fun _ => true) true Tryd.f8.params.toList args.toList ds p := hA0
  rw [Tryd.params8] at hA hval
  have hS := hA
  obtain ⟨v0, vs0, d0, ds0, p0, q0, hargs, rfl, rfl, h0, r0⟩ := trodAll_cons hA
  obtain ⟨v1, vs1, d1, ds1, p1, q1, rfl, rfl, rfl, h1, r1⟩ := trodAll_cons r0
  obtain ⟨rfl, rfl, rfl⟩ := trodAll_nil r1
  obtain rfl : args = #[v0, v1] := by cases args; simp_all
  obtain ⟨rfl, rfl⟩ := trodVars_none hV
  suffices hc : Calls Tryd.prog 8 #[v0, v1] W fun e W' => e = .returned (.bool true) ∧ Below W.heap.size W W' by
    refine hc.mono fun e W' ⟨he, bel⟩ => ?_
    subst he
    exact ⟨_, rfl, _, _, _, [], _, [], hW', trodAll_mk1 (shut_bool Tryd.underlying4 _), trodAll_stays fineA bel (by decide +kernel) hS, rfl, bel.frame _, fun h => by cases h⟩
  clear hS hW' hfz hnd
  obtain ⟨a0, rfl, rfl, rfl, w0⟩ := open_int Tryd.underlying22 (hval 0 22 v0 rfl rfl) h0
  have o1 := open_pairs (hval 1 40 v1 rfl rfl) h1
  have hw : word a0 := wf_u64 w0
  rcases o1 with ⟨x, rfl⟩ | ⟨a, len, cap, zs, rfl, h0, hle, hmx, hz, hcell⟩
  · obtain ⟨e, hS⟩ := Sim.varNone (k := .u8) (zs := tz) oneVar (by decide) hvar
    exact toldV a0 e hw _ W _ (.cons (.int _ _) (.cons (.slice00 _ _ _) (.nil _))) hS
  · obtain ⟨e, e2, hS, hsp⟩ := Sim.varRow (k := .u8) (zs := tz) oneVar (by decide) hvar (by omega) hcell
    obtain ⟨blk, off, spot⟩ := a
    simp only at hsp
    subst hsp
    exact told a0 off len cap zs e e2 hw hle hz (by simpa [maxLen] using hmx) _ W _ (.cons (.int _ _) (.cons (R.slice_row rfl) (.nil _))) hS
theorem over : Rows.ctrlKeepsRow.holds Tryd.pinned (OpenSpec.ofChange Rows.ctrlKeepsSpec) :=
  OpenClaim.holds_of_wide 8 Tryd.f8 rfl rfl rfl rfl rfl rfl rfl ⟨rfl, rfl, rfl, rfl, rfl⟩ rfl rfl rfl rfl rfl (by kernel_rfl) Tryd.func8 (by kernel_rfl)
    (of_decide_eq_true (by kernel_rfl)) (by unfold Func.isWrapper; first | (rw [if_pos (by decide +kernel)]; kernel_rfl) | (rw [if_neg (by decide +kernel)]; exact ⟨rfl, rfl⟩))
    (fun os started H enc _ => lifted os started H enc)
end Go.Proofs.YteafenadjidkdaaDoor.ctrlKeeps
namespace Go.Proofs.YteafenadjidkdaaDoor
/-- The tied card, for the claim. -/
theorem ctrlKeeps_holds : Rows.CtrlKeepsCardSaid :=
  Claim7.holds_tied_plain_at .later [] [.data] true (true, "311be7784f3cdb14a14e5a869a188c3f955b6b6d19542726ab5b5a32b74a7d88") false
    ctrlKeeps.over (fun _ h => by cases h) (by kernel_rfl) (fun _ h => by cases h) ctrlKeeps_row_tie rfl ⟨rfl, rfl⟩ (by kernel_rfl) rfl
    (fun f fn hf hfn => by
      obtain rfl : f = 8 := Option.some.inj ((show Tryd.prog.funcNamed "sprocket/sprocketlaw12.CtrlKeeps" = some 8 by kernel_rfl).symm.trans hf) |>.symm
      obtain rfl : fn = Tryd.f8 := (Option.some.inj (Tryd.func8.symm.trans hfn)).symm
      exact ⟨by kernel_rfl, fun j t ht => by
        rw [Tryd.params8] at ht
        have hm : t ∈ [22, 40] := by simpa using Array.mem_of_getElem? ht
        have hall : ([22, 40].all fun u => !Tryd.prog.wantsStandIn u) = true := by kernel_rfl
        exact (show Tryd.prog.wantsStandIn t = false by simpa using List.all_eq_true.1 hall t hm)⟩)
    (by kernel_rfl)
#print axioms ctrlKeeps_holds
end Go.Proofs.YteafenadjidkdaaDoor
