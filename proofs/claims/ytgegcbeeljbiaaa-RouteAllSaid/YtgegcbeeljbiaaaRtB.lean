/- What all tells. -/
import Derived.Test.YtgegcbeeljbiaaaRtA
import Derived.WalkKit
import Derived.ProofKit
import Derived.OpenShut
import Derived.ChangeOld
import Derived.Below
import Derived.SizedLaws
namespace Go.Proofs.Ytgegcbeeljbiaaa
open Go.Eng
open Go.ChangeShapes Go.WideShapes Go.ChangeAt Go.RowKit
set_option linter.unusedVariables false
set_option linter.unusedSimpArgs false
set_option maxRecDepth 100000
theorem memK {h : KH} {a : Nat} {o : AObj} (hg : h.low.get a = some o) : ∃ p ∈ h.blk, a = p.1 ∧ o = p.2.2.low := by
  obtain ⟨p, hp, h1, h2⟩ := low_get_mem hg
  exact ⟨p, hp, h1.symm, h2⟩
/-- How the way's call ends. -/
noncomputable def QC (h k : Int) (nn s0 : Nat) : Ex → St → Prop := Eng.Ends Try.prog Try.f28.results.toList fun r sh => ∃ h2, h2 = (KH.low ⟨7, 4, [(6, 3, .ints .i64 (wayN nn s0 nn) 3 true), (5, 1, .loop (frameL 28 [(5, (.pointer (some ⟨0, 0, none⟩))), (7, (.pointer (some ⟨1, 0, none⟩))), (9, undef), (17, (.func (.func 28) #[] #[(.pointer (some ⟨2, 0, none⟩)), (.pointer (some ⟨3, 0, none⟩))])), (18, undef)]) #[18] (codeAt [1, 1, 1, 1, 0, 1, 0, 0] BA) (codeAt [1, 1, 1, 1, 0, 1, 0, 1] BA) .ready), (4, 0, .cells [] 3 true), (3, 0, .cells [(.int .u64 h)] 22 true), (2, 0, .cells [(.int .i64 k)] 3 true), (1, 2, .cells [(.slice (some ⟨6, 0, none⟩) nn nn)] 24 true), (0, 0, .cells [(.int .i64 600)] 3 true)]⟩) ∧ Fits (KH.low ⟨6, 2, [(5, 1, .loop (frameL 28 [(5, (.pointer (some ⟨0, 0, none⟩))), (7, (.pointer (some ⟨1, 0, none⟩))), (9, undef), (17, (.func (.func 28) #[] #[(.pointer (some ⟨2, 0, none⟩)), (.pointer (some ⟨3, 0, none⟩))])), (18, undef)]) #[18] (codeAt [1, 1, 1, 1, 0, 1, 0, 0] BA) (codeAt [1, 1, 1, 1, 0, 1, 0, 1] BA) .ready), (4, 0, .cells [] 3 true), (3, 0, .cells [(.int .u64 h)] 22 true), (2, 0, .cells [(.int .i64 k)] 3 true), (1, 0, .cells [(.slice (some ⟨4, 0, none⟩) 0 0)] 24 true), (0, 0, .cells [(.int .i64 600)] 3 true)]⟩) sh h2
theorem qc (h k : Int) (nn s0 : Nat) (b : Nat) (s : List Value) : QC h k nn s0 .normal ⟨s, (KH.low ⟨7, 1, [(6, 0, .ints .i64 (wayN nn s0 nn) 3 true), (5, 0, .loop (frameL 28 [(5, (.pointer (some ⟨0, 0, none⟩))), (7, (.pointer (some ⟨1, 0, none⟩))), (9, undef), (17, (.func (.func 28) #[] #[(.pointer (some ⟨2, 0, none⟩)), (.pointer (some ⟨3, 0, none⟩))])), (18, undef)]) #[18] (codeAt [1, 1, 1, 1, 0, 1, 0, 0] BA) (codeAt [1, 1, 1, 1, 0, 1, 0, 1] BA) .ready), (4, 0, .cells [] 3 true), (3, 0, .cells [(.int .u64 h)] 22 true), (2, 0, .cells [(.int .i64 k)] 3 true), (1, 0, .cells [(.slice (some ⟨6, 0, none⟩) nn nn)] 24 true), (0, 0, .cells [(.int .i64 600)] 3 true)]⟩)⟩ := by
  refine Ends.ofN (l := []) rfl ⟨_, rfl, ?_⟩
  have hE : (KH.low ⟨7, 4, [(6, 3, .ints .i64 (wayN nn s0 nn) 3 true), (5, 1, .loop (frameL 28 [(5, (.pointer (some ⟨0, 0, none⟩))), (7, (.pointer (some ⟨1, 0, none⟩))), (9, undef), (17, (.func (.func 28) #[] #[(.pointer (some ⟨2, 0, none⟩)), (.pointer (some ⟨3, 0, none⟩))])), (18, undef)]) #[18] (codeAt [1, 1, 1, 1, 0, 1, 0, 0] BA) (codeAt [1, 1, 1, 1, 0, 1, 0, 1] BA) .ready), (4, 0, .cells [] 3 true), (3, 0, .cells [(.int .u64 h)] 22 true), (2, 0, .cells [(.int .i64 k)] 3 true), (1, 2, .cells [(.slice (some ⟨6, 0, none⟩) nn nn)] 24 true), (0, 0, .cells [(.int .i64 600)] 3 true)]⟩) = effH (KH.low ⟨6, 2, [(5, 1, .loop (frameL 28 [(5, (.pointer (some ⟨0, 0, none⟩))), (7, (.pointer (some ⟨1, 0, none⟩))), (9, undef), (17, (.func (.func 28) #[] #[(.pointer (some ⟨2, 0, none⟩)), (.pointer (some ⟨3, 0, none⟩))])), (18, undef)]) #[18] (codeAt [1, 1, 1, 1, 0, 1, 0, 0] BA) (codeAt [1, 1, 1, 1, 0, 1, 0, 1] BA) .ready), (4, 0, .cells [] 3 true), (3, 0, .cells [(.int .u64 h)] 22 true), (2, 0, .cells [(.int .i64 k)] 3 true), (1, 0, .cells [(.slice (some ⟨4, 0, none⟩) 0 0)] 24 true), (0, 0, .cells [(.int .i64 600)] 3 true)]⟩) [(1, (KObj.low (.cells [(.slice (some ⟨6, 0, none⟩) nn nn)] 24 true)))] [KObj.low (.ints .i64 (wayN nn s0 nn) 3 true)] := by kernel_rfl
  rw [hE]
  refine Fits.eff (fun a ha => ?_) (by simp) (fun p hp => ?_) (fun i o hi => ?_) (fun a o ho hn => ?_) (by show (7 : Nat) ≤ 6 + 1; decide)
  · obtain ⟨o, ho⟩ := Option.ne_none_iff_exists'.1 ha
    obtain ⟨p, hp, rfl, _⟩ := memK ho
    simp only [List.mem_cons, List.not_mem_nil, or_false] at hp
    rcases hp with rfl | rfl | rfl | rfl | rfl | rfl <;> exact Nat.le_of_ble_eq_true rfl
  · rcases List.mem_singleton.1 hp with rfl
    exact ⟨by rw [show ((KH.low ⟨6, 2, [(5, 1, .loop (frameL 28 [(5, (.pointer (some ⟨0, 0, none⟩))), (7, (.pointer (some ⟨1, 0, none⟩))), (9, undef), (17, (.func (.func 28) #[] #[(.pointer (some ⟨2, 0, none⟩)), (.pointer (some ⟨3, 0, none⟩))])), (18, undef)]) #[18] (codeAt [1, 1, 1, 1, 0, 1, 0, 0] BA) (codeAt [1, 1, 1, 1, 0, 1, 0, 1] BA) .ready), (4, 0, .cells [] 3 true), (3, 0, .cells [(.int .u64 h)] 22 true), (2, 0, .cells [(.int .i64 k)] 3 true), (1, 0, .cells [(.slice (some ⟨4, 0, none⟩) 0 0)] 24 true), (0, 0, .cells [(.int .i64 600)] 3 true)]⟩)).get 1 = some (KObj.low (.cells [(.slice (some ⟨4, 0, none⟩) 0 0)] 24 true)) by kernel_rfl]; simp, rfl, by kernel_rfl⟩
  · match i, hi with
    | 0, hi => cases hi; exact rfl
  · obtain ⟨p, hp, rfl, rfl⟩ := memK ho
    simp only [List.mem_cons, List.not_mem_nil, or_false] at hp
    rcases hp with rfl | rfl | rfl | rfl | rfl | rfl
    · exact .inr (by kernel_rfl)
    · exact .inr (by kernel_rfl)
    · exact .inr (by kernel_rfl)
    · exact .inr (by kernel_rfl)
    · exact absurd (by simp) hn
    · exact .inr (by kernel_rfl)
inductive RtInv (h k : Int) (nn s0 : Nat) : Nat → KSt → Prop
  | z : RtInv h k nn s0 nn (CS5 nn s0 h k)
  | r (i : Nat) (h3 : 1 ≤ i) (hi : i ≤ nn) : RtInv h k nn s0 (nn - i) (CS13 nn (gN nn s0 (i - 1)) i (wayN nn s0 i) h k)
theorem loopW (h k : Int) (nn s0 : Nat) (h1 : 1 ≤ nn) (h2 : nn ≤ 512) (hz : (bits .and .i64 (IntKind.wrap .i64 (((s0 : Nat) : Int) + 0)) (IntKind.wrap .i64 (((nn : Nat) : Int) - 1))) = ((gN nn s0 0 : Nat) : Int)) (hN : ∀ i, 1 ≤ i → i < nn → (bits .and .i64 (IntKind.wrap .i64 (((gN nn s0 (i - 1) : Nat) : Int) + ((i : Nat) : Int))) (IntKind.wrap .i64 (((nn : Nat) : Int) - 1))) = ((gN nn s0 i : Nat) : Int))
    (j : Nat) (t : KSt) (hI : RtInv h k nn s0 j t) : Gets Try.prog (KH.low ⟨6, 2, [(5, 1, .loop (frameL 28 [(5, (.pointer (some ⟨0, 0, none⟩))), (7, (.pointer (some ⟨1, 0, none⟩))), (9, undef), (17, (.func (.func 28) #[] #[(.pointer (some ⟨2, 0, none⟩)), (.pointer (some ⟨3, 0, none⟩))])), (18, undef)]) #[18] (codeAt [1, 1, 1, 1, 0, 1, 0, 0] BA) (codeAt [1, 1, 1, 1, 0, 1, 0, 1] BA) .ready), (4, 0, .cells [] 3 true), (3, 0, .cells [(.int .u64 h)] 22 true), (2, 0, .cells [(.int .i64 k)] 3 true), (1, 0, .cells [(.slice (some ⟨4, 0, none⟩) 0 0)] 24 true), (0, 0, .cells [(.int .i64 600)] 3 true)]⟩) (codeAt [1, 1, 1] BC) t.low (QC h k nn s0) := by
  rw [CC1_1_1, CC1_1_1_0]
  refine Gets.loopG (fun j t => RtInv h k nn s0 j t) ?_ _ _ hI
  clear hI j t
  intro j t hI
  cases hI with
  | z =>
    refine Ca1 h1 h2 hz ?_
    exact ⟨nn - 1, (CS13 nn (gN nn s0 (1 - 1)) (1) (wayN nn s0 1) h k), by omega, rfl, .r 1 (Nat.le_refl _) h1⟩
  | r i h3 hi =>
    by_cases hlt : i < nn
    · refine Cb1 h1 h2 (wayN_length nn s0 i) h3 hlt (hN i h3 hlt) ?_
      have e : wayN nn s0 (i + 1) = List.take i (wayN nn s0 i) ++ [((gN nn s0 i : Nat) : Int)] := by rw [List.take_of_length_le (by rw [wayN_length]; exact Nat.le_refl _)]; rfl
      have k1 : RtInv h k nn s0 (nn - (i + 1)) (CS13 nn (gN nn s0 (i + 1 - 1)) (i + 1) (wayN nn s0 (i + 1)) h k) := .r (i + 1) (by omega) (by omega)
      rw [e] at k1
      exact ⟨nn - (i + 1), _, by omega, rfl, k1⟩
    · have e : i = nn := by omega
      subst e
      refine Cbx (Nat.le_refl _) ?_
      refine ⟨fun _ => ?_, fun h => by cases h⟩
      exact qc h k i s0 (b := 0) _
theorem cl_does (h k : Int) (nn s0 : Nat) (hg : groupsV k = ((nn : Nat) : Int)) (hs0 : (IntKind.wrap .i64 (bits .and .u64 (Int.fdiv h (2 ^ 7)) (IntKind.wrap .u64 (if 0 > (IntKind.wrap .i64 (((nn : Nat) : Int) - 1)) then 0 else (IntKind.wrap .i64 (((nn : Nat) : Int) - 1)))))) = ((s0 : Nat) : Int)) (h1 : 1 ≤ nn) (h2 : nn ≤ 512) (hz : (bits .and .i64 (IntKind.wrap .i64 (((s0 : Nat) : Int) + 0)) (IntKind.wrap .i64 (((nn : Nat) : Int) - 1))) = ((gN nn s0 0 : Nat) : Int)) (hN : ∀ i, 1 ≤ i → i < nn → (bits .and .i64 (IntKind.wrap .i64 (((gN nn s0 (i - 1) : Nat) : Int) + ((i : Nat) : Int))) (IntKind.wrap .i64 (((nn : Nat) : Int) - 1))) = ((gN nn s0 i : Nat) : Int)) :
    DoesE Try.prog 28 [(.func (.yield 5) #[] #[]), (.pointer (some ⟨2, 0, none⟩)), (.pointer (some ⟨3, 0, none⟩))] (KH.low ⟨6, 2, [(5, 1, .loop (frameL 28 [(5, (.pointer (some ⟨0, 0, none⟩))), (7, (.pointer (some ⟨1, 0, none⟩))), (9, undef), (17, (.func (.func 28) #[] #[(.pointer (some ⟨2, 0, none⟩)), (.pointer (some ⟨3, 0, none⟩))])), (18, undef)]) #[18] (codeAt [1, 1, 1, 1, 0, 1, 0, 0] BA) (codeAt [1, 1, 1, 1, 0, 1, 0, 1] BA) .ready), (4, 0, .cells [] 3 true), (3, 0, .cells [(.int .u64 h)] 22 true), (2, 0, .cells [(.int .i64 k)] 3 true), (1, 0, .cells [(.slice (some ⟨4, 0, none⟩) 0 0)] 24 true), (0, 0, .cells [(.int .i64 600)] 3 true)]⟩) (fun _ h2 => h2 = (KH.low ⟨7, 4, [(6, 3, .ints .i64 (wayN nn s0 nn) 3 true), (5, 1, .loop (frameL 28 [(5, (.pointer (some ⟨0, 0, none⟩))), (7, (.pointer (some ⟨1, 0, none⟩))), (9, undef), (17, (.func (.func 28) #[] #[(.pointer (some ⟨2, 0, none⟩)), (.pointer (some ⟨3, 0, none⟩))])), (18, undef)]) #[18] (codeAt [1, 1, 1, 1, 0, 1, 0, 0] BA) (codeAt [1, 1, 1, 1, 0, 1, 0, 1] BA) .ready), (4, 0, .cells [] 3 true), (3, 0, .cells [(.int .u64 h)] 22 true), (2, 0, .cells [(.int .i64 k)] 3 true), (1, 2, .cells [(.slice (some ⟨6, 0, none⟩) nn nn)] 24 true), (0, 0, .cells [(.int .i64 600)] 3 true)]⟩)) := by
  refine Gets.doesE Try.func28 BC_is (by rw [noVars]; exact Nat.zero_le _) ?_
  show Gets Try.prog (KH.low ⟨6, 2, [(5, 1, .loop (frameL 28 [(5, (.pointer (some ⟨0, 0, none⟩))), (7, (.pointer (some ⟨1, 0, none⟩))), (9, undef), (17, (.func (.func 28) #[] #[(.pointer (some ⟨2, 0, none⟩)), (.pointer (some ⟨3, 0, none⟩))])), (18, undef)]) #[18] (codeAt [1, 1, 1, 1, 0, 1, 0, 0] BA) (codeAt [1, 1, 1, 1, 0, 1, 0, 1] BA) .ready), (4, 0, .cells [] 3 true), (3, 0, .cells [(.int .u64 h)] 22 true), (2, 0, .cells [(.int .i64 k)] 3 true), (1, 0, .cells [(.slice (some ⟨4, 0, none⟩) 0 0)] 24 true), (0, 0, .cells [(.int .i64 600)] 3 true)]⟩) BC (KSt.low (CS0 h k)) (QC h k nn s0)
  refine Cin hg hs0 ?_
  exact loopW h k nn s0 h1 h2 hz hN nn (CS5 nn s0 h k) .z
theorem all_does (h k : Int) (nn s0 : Nat) (hg : groupsV k = ((nn : Nat) : Int)) (hs0 : (IntKind.wrap .i64 (bits .and .u64 (Int.fdiv h (2 ^ 7)) (IntKind.wrap .u64 (if 0 > (IntKind.wrap .i64 (((nn : Nat) : Int) - 1)) then 0 else (IntKind.wrap .i64 (((nn : Nat) : Int) - 1)))))) = ((s0 : Nat) : Int)) (h1 : 1 ≤ nn) (h2 : nn ≤ 512) (hz : (bits .and .i64 (IntKind.wrap .i64 (((s0 : Nat) : Int) + 0)) (IntKind.wrap .i64 (((nn : Nat) : Int) - 1))) = ((gN nn s0 0 : Nat) : Int)) (hN : ∀ i, 1 ≤ i → i < nn → (bits .and .i64 (IntKind.wrap .i64 (((gN nn s0 (i - 1) : Nat) : Int) + ((i : Nat) : Int))) (IntKind.wrap .i64 (((nn : Nat) : Int) - 1))) = ((gN nn s0 i : Nat) : Int)) :
    DoesC Try.prog 6 [(.int .u64 h), (.int .i64 k), (.int .i64 600)] (mkH []).low (.slice (some ⟨0, 0, none⟩) nn nn) (effK (mkH []) [] [.ints .i64 (wayN nn s0 nn) 3 true]).low := by
  refine EndsR.does Try.func6 BA_is (by rw [noVars]; exact Nat.zero_le _) ?_
  show Gets Try.prog (KH.low ⟨0, 1, []⟩) BA (KSt.low (AS0 h k)) _
  refine Ain ?_
  rw [AC1_1_1_1_0_1_0]
  refine Gets.rangeFunc (f := 28) (first := #[]) (cap := #[(.pointer (some ⟨2, 0, none⟩)), (.pointer (some ⟨3, 0, none⟩))]) (A := fun h2 => h2 = (KH.low ⟨7, 4, [(6, 3, .ints .i64 (wayN nn s0 nn) 3 true), (5, 1, .loop (frameL 28 [(5, (.pointer (some ⟨0, 0, none⟩))), (7, (.pointer (some ⟨1, 0, none⟩))), (9, undef), (17, (.func (.func 28) #[] #[(.pointer (some ⟨2, 0, none⟩)), (.pointer (some ⟨3, 0, none⟩))])), (18, undef)]) #[18] (codeAt [1, 1, 1, 1, 0, 1, 0, 0] BA) (codeAt [1, 1, 1, 1, 0, 1, 0, 1] BA) .ready), (4, 0, .cells [] 3 true), (3, 0, .cells [(.int .u64 h)] 22 true), (2, 0, .cells [(.int .i64 k)] 3 true), (1, 2, .cells [(.slice (some ⟨6, 0, none⟩) nn nn)] 24 true), (0, 0, .cells [(.int .i64 600)] 3 true)]⟩)) (by kernel_rfl) (by kernel_rfl) (fitR.fnOk 28 (by decide)) ?_ ?_
  · exact cl_does h k nn s0 hg hs0 h1 h2 hz hN
  · intro hh hA
    subst hA
    refine ⟨_, _, _, _, _, rfl, .inl rfl, ?_⟩
    show Gets Try.prog (mkH []).low (codeAt [1, 1, 1, 1, 1] BA) (KSt.low (AS6 (wayN nn s0 nn) h k nn)) _
    exact Aaft h1 h2 (wayN_length nn s0 nn) (EndsR.ret (l := [.slice (some ⟨0, 0, none⟩) nn nn]) (by kernel_rfl) (by rfl) (Fits.n1 rfl rfl rfl (Nat.le_refl _)))

end Go.Proofs.Ytgegcbeeljbiaaa
