/- A way leads to each group once, whatever hash it is, and begins where the hash says. -/
import Derived.Test.YtgegcbeeljbiaaaRtC
import Derived.WalkKit
import Derived.ProofKit
import Derived.OpenShut
import Derived.ChangeOld
import Derived.Below
import Derived.SizedLaws
namespace Go.Proofs.Ytgegcbeeljbiaaa.routeAll
open Go.Eng
open Go.ChangeShapes Go.WideShapes Go.ChangeAt Go.RowKit
set_option linter.unusedVariables false
set_option linter.unusedSimpArgs false
set_option maxRecDepth 100000
noncomputable def QL : Ex → St → Prop := Eng.Ends Try.prog Try.f3.results.toList fun r _ => r = .bool true
theorem qL {s : KSt} (h : resL Try.prog s.low Try.f3.results.toList = some [.bool true]) : QL .ret s.low := Ends.of h rfl
theorem set_true {q : List Bool} {b b' : Nat} (h : (List.set q (0 + b) true).getD b' false = true) : b' = b ∨ q.getD b' false = true := by
  rw [Nat.zero_add, List.getD_eq_getElem?_getD, List.getElem?_set] at h
  by_cases e : b = b'
  · exact .inl e.symm
  · rw [if_neg e, ← List.getD_eq_getElem?_getD] at h
    exact .inr h
inductive RaInv (h : Int) (j s : Nat) : Nat → KSt → Prop
  | r (i : Nat) (q : List Bool) (hi : i ≤ 2 ^ j) (hq : q.length = 2 ^ j) (hs : ∀ b, q.getD b false = true → ∃ i', i' < i ∧ gN (2 ^ j) s i' = b) : RaInv h j s (2 ^ j - i) (LS13 h (2 ^ j) i q (wayN (2 ^ j) s (2 ^ j)))
theorem loopA (h : Int) (j s : Nat) (hj : j ≤ 9) (h0 : 0 ≤ h) (hh : h < 18446744073709551616) (hs0 : ((s : Nat) : Int) = h / 128 % ((2 ^ j : Nat) : Int))
    (m : Nat) (t : KSt) (hI : RaInv h j s m t) : Gets Try.prog (KH.low ⟨0, 1, []⟩) (codeAt [1, 1, 1, 1, 1, 1, 0, 1] BL) t.low (onN (fun s => Gets Try.prog (KH.low ⟨0, 1, []⟩) (codeAt [1, 1, 1, 1, 1, 1, 1] BL) s (QL)) (QL)) := by
  rw [LC1_1_1_1_1_1_0_1, LC1_1_1_1_1_1_0_1_0]
  refine Gets.loopG (fun m t => RaInv h j s m t) ?_ _ _ hI
  clear hI m t
  intro m t hI
  have hp := pow_le hj
  cases hI with
  | r i q hi hq hs =>
    by_cases hlt : i < 2 ^ j
    · have hb := wayN_get (2 ^ j) s (2 ^ j) i hlt
      have hbn := gN_lt (n := 2 ^ j) (by omega) s i
      have hf : q.getD (gN (2 ^ j) s i) false = false := by
        cases hc : q.getD (gN (2 ^ j) s i) false with
        | false => rfl
        | true =>
          obtain ⟨i', h1, h2⟩ := hs _ hc
          exact absurd h2 (gN_inj s h1 hlt)
      refine Lr1 (wayN_length _ _ _) hq hp.2 hlt hb hbn hf ?_
      refine ⟨2 ^ j - (i + 1), (LS13 h (2 ^ j) (i + 1) (List.set q (0 + gN (2 ^ j) s i) true) (wayN (2 ^ j) s (2 ^ j))), by omega, rfl, .r (i + 1) _ (by omega) (by rw [List.length_set]; exact hq) (fun b hb' => ?_)⟩
      rcases set_true hb' with rfl | h3
      · exact ⟨i, by omega, rfl⟩
      · obtain ⟨i', g1, g2⟩ := hs b h3
        exact ⟨i', by omega, g2⟩
    · refine Lrx (by omega) ?_
      refine ⟨fun _ => ?_, fun h => by cases h⟩
      refine Lend h0 hh hp.1 hp.2 (wayN_length _ _ _) ?_ (qL (by kernel_rfl))
      rw [wayN_get (2 ^ j) s (2 ^ j) 0 (by omega), ← hs0]
      show (((s % 2 ^ j : Nat)) : Int) = _
      rw [Nat.mod_eq_of_lt (by have : h / 128 % ((2 ^ j : Nat) : Int) < ((2 ^ j : Nat) : Int) := Int.emod_lt_of_pos _ (by omega); omega)]
theorem told (h x : Int) (h0 : 0 ≤ h) (hh : h < 18446744073709551616) (x0 : 0 ≤ x) (x1 : x < 256) : Tells Try.prog 3 [(.int .u64 h), (.int .u8 x)] (mkH []).low (.bool true) := by
  refine Gets.tells Try.func3 BL_is (by rw [noVars]; exact Nat.zero_le _) rfl ?_ (fun a o ho => by cases ho)
  show Gets Try.prog (KH.low ⟨0, 1, []⟩) BL (KSt.low (LS0 h x)) QL
  have hk : (Int.tmod (IntKind.wrap .i64 x) 10) = x % 10 := by rw [wrap_i64_id (by omega) (by omega), Int.tmod_eq_emod_of_nonneg x0]
  generalize x % 10 = k at hk
  have k0 : 0 ≤ k := by rw [← hk, wrap_i64_id (by omega) (by omega), Int.tmod_eq_emod_of_nonneg x0]; omega
  have k9 : k ≤ 9 := by rw [← hk, wrap_i64_id (by omega) (by omega), Int.tmod_eq_emod_of_nonneg x0]; omega
  have hj : k.toNat ≤ 9 := by omega
  have hp := pow_le hj
  have hg := groups_pow k0 k9
  have hn : nnK k = 2 ^ k.toNat := by unfold nnK; rw [hg]; rfl
  have hst : stN h k = (h / 128 % ((2 ^ k.toNat : Nat) : Int)).toNat := by unfold stN; rw [hg]
  have hs0 : ((stN h k : Nat) : Int) = h / 128 % ((2 ^ k.toNat : Nat) : Int) := by
    rw [hst]
    have : 0 ≤ h / 128 % ((2 ^ k.toNat : Nat) : Int) := Int.emod_nonneg _ (by omega)
    omega
  have hP : allP h k 600 = true := by unfold allP; simp only [Bool.and_eq_true, decide_eq_true_eq]; exact ⟨h0, hh, k0, k9, trivial⟩
  refine Lin hk hg hn rfl hP hp.1 hp.2 ?_
  have hw : wayK h k = wayN (2 ^ k.toNat) (stN h k) (2 ^ k.toNat) := by unfold wayK; rw [hn]
  rw [hw]
  refine loopA h k.toNat (stN h k) hj h0 hh hs0 (2 ^ k.toNat - 0) _ (.r 0 (List.replicate (2 ^ k.toNat) false) (Nat.zero_le _) (List.length_replicate ..) (fun b hb => ?_))
  rw [List.getD_eq_getElem?_getD, List.getElem?_replicate] at hb
  split at hb <;> cases hb
theorem own : ownKnob Try.prog.godebug = none := by kernel_rfl
theorem lifted (os : Os) (started : os.Started) (H : Type) (enc : TypeId × Value → H) :
    ReturnsInHanded {} Try.checked os 3 .any (Rows.routeAllSpec.pre6 enc Try.prog Try.f3 Rows.routeAllRow.domain false) (Rows.routeAllSpec.post enc Try.prog Try.f3 false true false false) := by
  refine returnsInHanded_of_change_sized (C := Try.checked) own started (by kernel_rfl) Try.func3
    (ChangeSpec.witness6 (enc := enc) (C := Try.checked) false ⟨#[], #[.int .u64 0, .int .u8 0], []⟩ 8 (by kernel_rfl) (by kernel_rfl) (by kernel_rfl) (by kernel_rfl)) ?_
  intro W base args ds gs before hval0 hW hcnd hsz0 _
  have hval : ∀ (j : Nat) t v, Try.f3.params[j]? = some t → args[j]? = some v → Value.okWide Try.prog W .any base t v := hval0
  have hW' := hW
  obtain ⟨p, q, hA0, hV, rfl, hfz, hnd⟩ := hW
  have hA : DataW.TrodAll enc Try.prog W 0 (fun _ => true) true Try.f3.params.toList args.toList ds p := hA0
  rw [Try.params3] at hA hval
  have hS := hA
  obtain ⟨v0, vs0, d0, ds0, p0, q0, hargs, rfl, rfl, h0, r0⟩ := trodAll_cons hA
  obtain ⟨v1, vs1, d1, ds1, p1, q1, rfl, rfl, rfl, h1, r1⟩ := trodAll_cons r0
  obtain ⟨rfl, rfl, rfl⟩ := trodAll_nil r1
  obtain rfl : args = #[v0, v1] := by cases args; simp_all
  obtain ⟨rfl, rfl⟩ := trodVars_none hV
  suffices hc : Calls Try.prog 3 #[v0, v1] W fun e W' => e = .returned (.bool true) ∧ Below W.heap.size W W' by
    refine hc.mono fun e W' ⟨he, bel⟩ => ?_
    subst he
    exact ⟨_, rfl, _, _, _, [], _, [], hW', trodAll_mk1 (shut_bool Try.underlying4 _), trodAll_stays fineA bel (by decide +kernel) hS, rfl, bel.frame _, fun h => by cases h⟩
  clear hS hW' hfz hnd
  obtain ⟨a0, rfl, rfl, rfl, w0⟩ := open_int Try.underlying22 (hval 0 22 v0 rfl rfl) h0
  obtain ⟨a1, rfl, rfl, rfl, w1⟩ := open_int Try.underlying5 (hval 1 5 v1 rfl rfl) h1
  exact told a0 a1 (wf_u64 w0).1 (wf_u64 w0).2 (wf_u8 w1).1 (wf_u8 w1).2 _ W _ (.cons (.of_plain rfl) (.cons (.of_plain rfl) (.nil _))) (Sim.none noVars W _ _)
theorem over : Rows.routeAllRow.holds Try.pinned (OpenSpec.ofChange Rows.routeAllSpec) :=
  OpenClaim.holds_of_wide 3 Try.f3 rfl rfl rfl rfl rfl rfl rfl ⟨rfl, rfl, rfl, rfl, rfl⟩ rfl rfl rfl rfl rfl (by kernel_rfl) Try.func3 (by kernel_rfl)
    (of_decide_eq_true (by kernel_rfl)) (by unfold Func.isWrapper; first | (rw [if_pos (by decide +kernel)]; kernel_rfl) | (rw [if_neg (by decide +kernel)]; exact ⟨rfl, rfl⟩))
    (fun os started H enc _ => lifted os started H enc)
end Go.Proofs.Ytgegcbeeljbiaaa.routeAll
namespace Go.Proofs.Ytgegcbeeljbiaaa
/-- The row, under a short name, for the claim. -/
theorem routeAll_holds : Rows.RouteAllSaid := routeAll.over
#print axioms routeAll_holds
end Go.Proofs.Ytgegcbeeljbiaaa
