import Derived.Test.YtfhfbbhoppnbiaaDoorAr
import Derived.WalkKit
import Derived.ProofKit
import Derived.OpenShut
import Derived.ChangeOld
import Derived.Below
import Derived.SizedLaws
namespace Go.Proofs.YtfhfbbhoppnbiaaDoor
open Go.Eng
open Go.ChangeShapes Go.WideShapes Go.ChangeAt Go.RowKit
set_option linter.unusedVariables false
set_option linter.unusedSimpArgs false
set_option maxRecDepth 100000
def maxB : List (Int × List Int) → Int
  | [] => 0
  | p :: r => max p.1 (maxB r)
theorem maxB_le : ∀ {l : List (Int × List Int)} {p : Int × List Int}, p ∈ l → p.1 ≤ maxB l
  | q :: r, p, h => by
    rcases List.mem_cons.1 h with rfl | h
    · exact Int.le_max_left _ _
    · exact Int.le_trans (maxB_le h) (Int.le_max_right _ _)
def b_ (S : ArSt) : Int := maxB S.blocks + 1
theorem b_none {S : ArSt} (hn : (S.blocks.map Prod.fst).Nodup) : S.blocks.lookup (b_ S) = none := by
  cases h : S.blocks.lookup (b_ S) with
  | none => rfl
  | some L =>
    have := maxB_le ((lookup_mem hn).1 h)
    have h2 : b_ S ≤ maxB S.blocks := this
    unfold b_ at h2; omega
theorem zi (i : Int) : (0 + ((Int.toNat i) * 1)) = i.toNat := by rw [Nat.mul_one, Nat.zero_add]
theorem Load_does (e0 : TypeId) (S : ArSt) (b : Int) (i : Int) : DoesC Tryd.prog 30 [.pointer (some ⟨1, 0, none⟩), .int .u64 b, .int .i64 i] (mkH [.cells (intCells .i64 [1, 64, 1, 64]) e0 false, .mach (.arena S)]).low (.tuple #[(.int .u64 (ArSt.loadV S b i)), (.int .i64 (ArSt.err S b i))]) (effK (mkH [.cells (intCells .i64 [1, 64, 1, 64]) e0 false, .mach (.arena S)]) [(1, .mach (.arena (ArSt.touch S b i)))] []).low := by
  refine arena_does (vs := varL) (vb := [.cells (intCells .i64 [1, 64, 1, 64]) e0 false]) semA oneVar (.cons e0 .nil) b rfl rfl fun old hok hnd hpos => ?_
  cases hL : S.blocks.lookup b with
  | none =>
      have he := ArSt.err_none (i := i) hL
      have hs : (S.touch b i) = S.fault := by unfold ArSt.touch; rw [he]; rfl
      rw [hs, he]; rw [show S.loadV b i = 0 by unfold ArSt.loadV; rw [he]; rfl]
      exact ⟨_, LoadN0, ⟨hok.fault, by kernel_rfl, .inl ⟨by kernel_rfl, by first | (rw [delB_lookup_none hnd hL]; done) | (rw [delB_lookup_none hnd hL]; exact .refl _)⟩⟩⟩
  | some L =>
    by_cases hi : i < 0
    · have he := ArSt.err_out hL (.inl hi)
      have hs : (S.touch b i) = S.fault := by unfold ArSt.touch; rw [he]; rfl
      rw [hs, he]; rw [show S.loadV b i = 0 by unfold ArSt.loadV; rw [he]; rfl]
      exact ⟨_, LoadFl hi, ⟨hok.fault, by kernel_rfl, .inr ⟨3, L, by decide, by decide, hpos L hL, by kernel_rfl, by kernel_rfl, upd_perm hnd hL⟩⟩⟩
    by_cases hg : (L.length : Int) ≤ i
    · have he := ArSt.err_out hL (.inr hg)
      have hs : (S.touch b i) = S.fault := by unfold ArSt.touch; rw [he]; rfl
      rw [hs, he]; rw [show S.loadV b i = 0 by unfold ArSt.loadV; rw [he]; rfl]
      exact ⟨_, LoadFg hg (by omega), ⟨hok.fault, by kernel_rfl, .inr ⟨3, L, by decide, by decide, hpos L hL, by kernel_rfl, by kernel_rfl, upd_perm hnd hL⟩⟩⟩
    have he := ArSt.err_in hL (by omega : 0 ≤ i) (by omega)
    have hr := ArSt.row_some hL
    have hw : S.loadV b i = L.getD (0 + ((Int.toNat i) * 1)) 0 := by unfold ArSt.loadV; rw [he, zi]; unfold ArSt.word; rw [hr]; rfl
    have hw2 : S.word b i = L.getD (0 + ((Int.toNat i) * 1)) 0 := by unfold ArSt.word; rw [hr, zi]
    have hs : S.touch b i = S := by unfold ArSt.touch; rw [he]; rfl
    rw [hs, he, hw]
    exact ⟨_, LoadFk (by omega) (by omega) rfl, ⟨hok, by kernel_rfl, .inr ⟨3, L, by decide, by decide, hpos L hL, by kernel_rfl, by kernel_rfl, upd_perm hnd hL⟩⟩⟩
theorem Store_does (e0 : TypeId) (S : ArSt) (b : Int) (i : Int) (v : Int) : DoesC Tryd.prog 31 [.pointer (some ⟨1, 0, none⟩), .int .u64 b, .int .i64 i, .int .u64 v] (mkH [.cells (intCells .i64 [1, 64, 1, 64]) e0 false, .mach (.arena S)]).low (.int .i64 (ArSt.err S b i)) (effK (mkH [.cells (intCells .i64 [1, 64, 1, 64]) e0 false, .mach (.arena S)]) [(1, .mach (.arena (ArSt.store S b i v)))] []).low := by
  refine arena_does (vs := varL) (vb := [.cells (intCells .i64 [1, 64, 1, 64]) e0 false]) semA oneVar (.cons e0 .nil) b rfl rfl fun old hok hnd hpos => ?_
  cases hL : S.blocks.lookup b with
  | none =>
      have he := ArSt.err_none (i := i) hL
      have hs : (S.store b i v) = S.fault := by unfold ArSt.store; rw [he]; rfl
      rw [hs, he]
      exact ⟨_, StoreN0, ⟨hok.fault, by kernel_rfl, .inl ⟨by kernel_rfl, by first | (rw [delB_lookup_none hnd hL]; done) | (rw [delB_lookup_none hnd hL]; exact .refl _)⟩⟩⟩
  | some L =>
    by_cases hi : i < 0
    · have he := ArSt.err_out hL (.inl hi)
      have hs : (S.store b i v) = S.fault := by unfold ArSt.store; rw [he]; rfl
      rw [hs, he]
      exact ⟨_, StoreFl hi, ⟨hok.fault, by kernel_rfl, .inr ⟨3, L, by decide, by decide, hpos L hL, by kernel_rfl, by kernel_rfl, upd_perm hnd hL⟩⟩⟩
    by_cases hg : (L.length : Int) ≤ i
    · have he := ArSt.err_out hL (.inr hg)
      have hs : (S.store b i v) = S.fault := by unfold ArSt.store; rw [he]; rfl
      rw [hs, he]
      exact ⟨_, StoreFg hg (by omega), ⟨hok.fault, by kernel_rfl, .inr ⟨3, L, by decide, by decide, hpos L hL, by kernel_rfl, by kernel_rfl, upd_perm hnd hL⟩⟩⟩
    have he := ArSt.err_in hL (by omega : 0 ≤ i) (by omega)
    have hr := ArSt.row_some hL
    have hw : S.loadV b i = L.getD (0 + ((Int.toNat i) * 1)) 0 := by unfold ArSt.loadV; rw [he, zi]; unfold ArSt.word; rw [hr]; rfl
    have hw2 : S.word b i = L.getD (0 + ((Int.toNat i) * 1)) 0 := by unfold ArSt.word; rw [hr, zi]
    have hs : S.store b i v = S.put b i v := by unfold ArSt.store; rw [he]; rfl
    rw [hs, he]
    exact ⟨_, StoreFk (by omega) (by omega) rfl, ⟨hok.put hnd hL, by kernel_rfl, .inr ⟨3, L.set (0 + ((Int.toNat i) * 1)) (v), by decide, by decide, by rw [List.length_set]; exact hpos L hL, by first | (rw [List.length_set]; done) | (rw [List.length_set]; kernel_rfl), by kernel_rfl, by rw [zi]; unfold ArSt.put; first | (rw [hr]; done) | (rw [hr]; exact .refl _)⟩⟩⟩
theorem Cas_does (e0 : TypeId) (S : ArSt) (b : Int) (i : Int) (o : Int) (v : Int) : DoesC Tryd.prog 32 [.pointer (some ⟨1, 0, none⟩), .int .u64 b, .int .i64 i, .int .u64 o, .int .u64 v] (mkH [.cells (intCells .i64 [1, 64, 1, 64]) e0 false, .mach (.arena S)]).low (.tuple #[(.int .u64 (ArSt.loadV S b i)), (.int .i64 (ArSt.err S b i))]) (effK (mkH [.cells (intCells .i64 [1, 64, 1, 64]) e0 false, .mach (.arena S)]) [(1, .mach (.arena (ArSt.cas S b i o v)))] []).low := by
  refine arena_does (vs := varL) (vb := [.cells (intCells .i64 [1, 64, 1, 64]) e0 false]) semA oneVar (.cons e0 .nil) b rfl rfl fun old hok hnd hpos => ?_
  cases hL : S.blocks.lookup b with
  | none =>
      have he := ArSt.err_none (i := i) hL
      have hs : (S.cas b i o v) = S.fault := by unfold ArSt.cas; rw [he]; rfl
      rw [hs, he]; rw [show S.loadV b i = 0 by unfold ArSt.loadV; rw [he]; rfl]
      exact ⟨_, CasN0, ⟨hok.fault, by kernel_rfl, .inl ⟨by kernel_rfl, by first | (rw [delB_lookup_none hnd hL]; done) | (rw [delB_lookup_none hnd hL]; exact .refl _)⟩⟩⟩
  | some L =>
    by_cases hi : i < 0
    · have he := ArSt.err_out hL (.inl hi)
      have hs : (S.cas b i o v) = S.fault := by unfold ArSt.cas; rw [he]; rfl
      rw [hs, he]; rw [show S.loadV b i = 0 by unfold ArSt.loadV; rw [he]; rfl]
      exact ⟨_, CasFl hi, ⟨hok.fault, by kernel_rfl, .inr ⟨3, L, by decide, by decide, hpos L hL, by kernel_rfl, by kernel_rfl, upd_perm hnd hL⟩⟩⟩
    by_cases hg : (L.length : Int) ≤ i
    · have he := ArSt.err_out hL (.inr hg)
      have hs : (S.cas b i o v) = S.fault := by unfold ArSt.cas; rw [he]; rfl
      rw [hs, he]; rw [show S.loadV b i = 0 by unfold ArSt.loadV; rw [he]; rfl]
      exact ⟨_, CasFg hg (by omega), ⟨hok.fault, by kernel_rfl, .inr ⟨3, L, by decide, by decide, hpos L hL, by kernel_rfl, by kernel_rfl, upd_perm hnd hL⟩⟩⟩
    have he := ArSt.err_in hL (by omega : 0 ≤ i) (by omega)
    have hr := ArSt.row_some hL
    have hw : S.loadV b i = L.getD (0 + ((Int.toNat i) * 1)) 0 := by unfold ArSt.loadV; rw [he, zi]; unfold ArSt.word; rw [hr]; rfl
    have hw2 : S.word b i = L.getD (0 + ((Int.toNat i) * 1)) 0 := by unfold ArSt.word; rw [hr, zi]
    by_cases ho : L.getD (0 + ((Int.toNat i) * 1)) 0 = o
    · have hs : S.cas b i o v = S.put b i v := by unfold ArSt.cas; rw [he, hw2, ibeq_t ho]; rfl
      rw [hs, he, hw]
      exact ⟨_, CasF1 (by omega) (by omega) rfl ho, ⟨hok.put hnd hL, by kernel_rfl, .inr ⟨3, L.set (0 + ((Int.toNat i) * 1)) (v), by decide, by decide, by rw [List.length_set]; exact hpos L hL, by first | (rw [List.length_set]; done) | (rw [List.length_set]; kernel_rfl), by kernel_rfl, by rw [zi]; unfold ArSt.put; first | (rw [hr]; done) | (rw [hr]; exact .refl _)⟩⟩⟩
    · have hs : S.cas b i o v = S := by unfold ArSt.cas; rw [he, hw2, ibeq_f ho]; rfl
      rw [hs, he, hw]
      exact ⟨_, CasF2 (by omega) (by omega) rfl ho, ⟨hok, by kernel_rfl, .inr ⟨3, L, by decide, by decide, hpos L hL, by kernel_rfl, by kernel_rfl, upd_perm hnd hL⟩⟩⟩
theorem Add_does (e0 : TypeId) (S : ArSt) (b : Int) (i : Int) (d : Int) : DoesC Tryd.prog 33 [.pointer (some ⟨1, 0, none⟩), .int .u64 b, .int .i64 i, .int .u64 d] (mkH [.cells (intCells .i64 [1, 64, 1, 64]) e0 false, .mach (.arena S)]).low (.tuple #[(.int .u64 (ArSt.loadV S b i)), (.int .i64 (ArSt.err S b i))]) (effK (mkH [.cells (intCells .i64 [1, 64, 1, 64]) e0 false, .mach (.arena S)]) [(1, .mach (.arena (ArSt.add S b i d)))] []).low := by
  refine arena_does (vs := varL) (vb := [.cells (intCells .i64 [1, 64, 1, 64]) e0 false]) semA oneVar (.cons e0 .nil) b rfl rfl fun old hok hnd hpos => ?_
  cases hL : S.blocks.lookup b with
  | none =>
      have he := ArSt.err_none (i := i) hL
      have hs : (S.add b i d) = S.fault := by unfold ArSt.add; rw [he]; rfl
      rw [hs, he]; rw [show S.loadV b i = 0 by unfold ArSt.loadV; rw [he]; rfl]
      exact ⟨_, AddN0, ⟨hok.fault, by kernel_rfl, .inl ⟨by kernel_rfl, by first | (rw [delB_lookup_none hnd hL]; done) | (rw [delB_lookup_none hnd hL]; exact .refl _)⟩⟩⟩
  | some L =>
    by_cases hi : i < 0
    · have he := ArSt.err_out hL (.inl hi)
      have hs : (S.add b i d) = S.fault := by unfold ArSt.add; rw [he]; rfl
      rw [hs, he]; rw [show S.loadV b i = 0 by unfold ArSt.loadV; rw [he]; rfl]
      exact ⟨_, AddFl hi, ⟨hok.fault, by kernel_rfl, .inr ⟨3, L, by decide, by decide, hpos L hL, by kernel_rfl, by kernel_rfl, upd_perm hnd hL⟩⟩⟩
    by_cases hg : (L.length : Int) ≤ i
    · have he := ArSt.err_out hL (.inr hg)
      have hs : (S.add b i d) = S.fault := by unfold ArSt.add; rw [he]; rfl
      rw [hs, he]; rw [show S.loadV b i = 0 by unfold ArSt.loadV; rw [he]; rfl]
      exact ⟨_, AddFg hg (by omega), ⟨hok.fault, by kernel_rfl, .inr ⟨3, L, by decide, by decide, hpos L hL, by kernel_rfl, by kernel_rfl, upd_perm hnd hL⟩⟩⟩
    have he := ArSt.err_in hL (by omega : 0 ≤ i) (by omega)
    have hr := ArSt.row_some hL
    have hw : S.loadV b i = L.getD (0 + ((Int.toNat i) * 1)) 0 := by unfold ArSt.loadV; rw [he, zi]; unfold ArSt.word; rw [hr]; rfl
    have hw2 : S.word b i = L.getD (0 + ((Int.toNat i) * 1)) 0 := by unfold ArSt.word; rw [hr, zi]
    have hs : S.add b i d = S.put b i (IntKind.wrap .u64 (L.getD (0 + ((Int.toNat i) * 1)) 0 + d)) := by unfold ArSt.add; rw [he, hw2]; rfl
    rw [hs, he, hw]
    exact ⟨_, AddFk (by omega) (by omega) rfl, ⟨hok.put hnd hL, by kernel_rfl, .inr ⟨3, L.set (0 + ((Int.toNat i) * 1)) (IntKind.wrap .u64 (L.getD (0 + ((Int.toNat i) * 1)) 0 + d)), by decide, by decide, by rw [List.length_set]; exact hpos L hL, by first | (rw [List.length_set]; done) | (rw [List.length_set]; kernel_rfl), by kernel_rfl, by rw [zi]; unfold ArSt.put; first | (rw [hr]; done) | (rw [hr]; exact .refl _)⟩⟩⟩
theorem Alloc_does (e0 : TypeId) (S : ArSt) (i : Int) : DoesC Tryd.prog 27 [.pointer (some ⟨1, 0, none⟩), .int .i64 i] (mkH [.cells (intCells .i64 [1, 64, 1, 64]) e0 false, .mach (.arena S)]).low (.int .u64 (ArSt.allocV S i)) (effK (mkH [.cells (intCells .i64 [1, 64, 1, 64]) e0 false, .mach (.arena S)]) [(1, .mach (.arena (ArSt.alloc S i)))] []).low := by
  refine arena_does (vs := varL) (vb := [.cells (intCells .i64 [1, 64, 1, 64]) e0 false]) semA oneVar (.cons e0 .nil) S.nextB rfl rfl fun old hok hnd hpos => ?_
  have hu := hok.used0
  cases hr : S.room i with
  | false =>
    have hs := ArSt.alloc_no hr
    have hv : S.allocV i = 0 := by unfold ArSt.allocV; rw [hr]; rfl
    have hn : ¬ (1 ≤ i ∧ i ≤ S.cells - S.used) := fun h => by rw [ArSt.room_iff.2 h] at hr; cases hr
    rw [hs, hv]
    cases hL : S.blocks.lookup S.nextB with
    | none =>
      by_cases h1 : i < 1
      · exact ⟨_, AllocNl h1, ⟨hok, by kernel_rfl, .inl ⟨by kernel_rfl, by first | (rw [delB_lookup_none hnd hL]; done) | (rw [delB_lookup_none hnd hL]; exact .refl _)⟩⟩⟩
      · exact ⟨_, AllocNg (by omega) (by omega) hok.cells hu hok.used, ⟨hok, by kernel_rfl, .inl ⟨by kernel_rfl, by first | (rw [delB_lookup_none hnd hL]; done) | (rw [delB_lookup_none hnd hL]; exact .refl _)⟩⟩⟩
    | some L =>
      by_cases h1 : i < 1
      · exact ⟨_, AllocFl h1, ⟨hok, by kernel_rfl, .inr ⟨3, L, by decide, by decide, hpos L hL, by kernel_rfl, by kernel_rfl, upd_perm hnd hL⟩⟩⟩
      · exact ⟨_, AllocFg (by omega) (by omega) hok.cells hu hok.used, ⟨hok, by kernel_rfl, .inr ⟨3, L, by decide, by decide, hpos L hL, by kernel_rfl, by kernel_rfl, upd_perm hnd hL⟩⟩⟩
  | true =>
    have hv : S.allocV i = S.nextB := by unfold ArSt.allocV; rw [hr]; rfl
    obtain ⟨h1, h2⟩ := ArSt.room_iff.1 hr
    have ho := hok.alloc i
    have hw : IntKind.wrap .i64 (S.used + i) = S.used + i := wrap_i64_id (by have := hok.cells; omega) (by have := hok.cells; omega)
    have hs : S.alloc i = { S with last := S.nextB, used := IntKind.wrap .i64 (S.used + i), blocks := (S.nextB, List.replicate i.toNat 0) :: delB S.nextB S.blocks } := by rw [hw]; exact ArSt.alloc_room hr
    rw [hs] at ho ⊢
    rw [hv]
    cases hL : S.blocks.lookup S.nextB with
    | none => exact ⟨_, AllocNk h2 h1 hok.cells hu hok.used, ⟨ho, by kernel_rfl, .inr ⟨3, List.replicate i.toNat 0, by decide, by decide, by rw [List.length_replicate]; omega, by first | (rw [List.length_replicate]; done) | (rw [List.length_replicate]; kernel_rfl), by kernel_rfl, .refl _⟩⟩⟩
    | some L => exact ⟨_, AllocFk h2 h1 hok.cells hu hok.used, ⟨ho, by kernel_rfl, .inr ⟨4, List.replicate i.toNat 0, by decide, by decide, by rw [List.length_replicate]; omega, by first | (rw [List.length_replicate]; done) | (rw [List.length_replicate]; kernel_rfl), by kernel_rfl, .refl _⟩⟩⟩
theorem Free_does (e0 : TypeId) (S : ArSt) (b : Int) : DoesC Tryd.prog 34 [.pointer (some ⟨1, 0, none⟩), .int .u64 b] (mkH [.cells (intCells .i64 [1, 64, 1, 64]) e0 false, .mach (.arena S)]).low (.int .i64 (ArSt.freeE S b)) (effK (mkH [.cells (intCells .i64 [1, 64, 1, 64]) e0 false, .mach (.arena S)]) [(1, .mach (.arena (ArSt.free S b)))] []).low := by
  refine arena_does (vs := varL) (vb := [.cells (intCells .i64 [1, 64, 1, 64]) e0 false]) semA oneVar (.cons e0 .nil) b rfl rfl fun old hok hnd hpos => ?_
  have ho := hok.free hnd b
  cases hL : S.blocks.lookup b with
  | none =>
    have hs : S.free b = S.fault := by unfold ArSt.free; rw [hL]; rfl
    have hv : S.freeE b = 13 := by unfold ArSt.freeE; rw [hL]; rfl
    rw [hs] at ho ⊢; rw [hv]
    exact ⟨_, FreeN0, ⟨ho, by kernel_rfl, .inl ⟨by kernel_rfl, by first | (rw [delB_lookup_none hnd hL]; done) | (rw [delB_lookup_none hnd hL]; exact .refl _)⟩⟩⟩
  | some L =>
    have hv : S.freeE b = 0 := by unfold ArSt.freeE; rw [hL]; rfl
    have h1 := total_del hnd hL
    have h2 := hok.total
    have h3 := total_nonneg (delB b S.blocks)
    have h4 := hok.cells
    have h5 := hok.used
    have hw : IntKind.wrap .i64 (S.used - (L.length : Int)) = S.used - (L.length : Int) := wrap_i64_id (by omega) (by omega)
    have hs : S.free b = { S with used := IntKind.wrap .i64 (S.used - (L.length : Int)), blocks := delB b S.blocks } := by rw [hw]; unfold ArSt.free; rw [hL, ArSt.row_some hL]; rfl
    rw [hs] at ho ⊢; rw [hv]
    exact ⟨_, FreeF0, ⟨ho, by kernel_rfl, .inl ⟨by kernel_rfl, .refl _⟩⟩⟩
theorem Size_does (e0 : TypeId) (S : ArSt) (b : Int) : DoesC Tryd.prog 18 [.pointer (some ⟨1, 0, none⟩), .int .u64 b] (mkH [.cells (intCells .i64 [1, 64, 1, 64]) e0 false, .mach (.arena S)]).low (.int .i64 (ArSt.size S b)) (effK (mkH [.cells (intCells .i64 [1, 64, 1, 64]) e0 false, .mach (.arena S)]) [(1, .mach (.arena S))] []).low := by
  refine arena_does (vs := varL) (vb := [.cells (intCells .i64 [1, 64, 1, 64]) e0 false]) semA oneVar (.cons e0 .nil) b rfl rfl fun old hok hnd hpos => ?_
  cases hL : S.blocks.lookup b with
  | none =>
    rw [show S.size b = 0 by unfold ArSt.size ArSt.row; rw [hL]; rfl]
    exact ⟨_, SizeN0, ⟨hok, by kernel_rfl, .inl ⟨by kernel_rfl, by first | (rw [delB_lookup_none hnd hL]; done) | (rw [delB_lookup_none hnd hL]; exact .refl _)⟩⟩⟩
  | some L =>
    rw [show S.size b = (L.length : Int) by unfold ArSt.size; rw [ArSt.row_some hL]]
    exact ⟨_, SizeF0, ⟨hok, by kernel_rfl, .inr ⟨3, L, by decide, by decide, hpos L hL, by kernel_rfl, by kernel_rfl, upd_perm hnd hL⟩⟩⟩
theorem Faults_does (e0 : TypeId) (S : ArSt) : DoesC Tryd.prog 17 [.pointer (some ⟨1, 0, none⟩)] (mkH [.cells (intCells .i64 [1, 64, 1, 64]) e0 false, .mach (.arena S)]).low (.int .i64 S.faults) (effK (mkH [.cells (intCells .i64 [1, 64, 1, 64]) e0 false, .mach (.arena S)]) [(1, .mach (.arena S))] []).low := by
  refine arena_does (vs := varL) (vb := [.cells (intCells .i64 [1, 64, 1, 64]) e0 false]) semA oneVar (.cons e0 .nil) (b_ S) rfl rfl fun old hok hnd hpos => ?_
  rw [b_none hnd]
  exact ⟨_, FaultsN0, ⟨hok, by kernel_rfl, .inl ⟨by kernel_rfl, by first | (rw [delB_lookup_none hnd (b_none hnd)]; done) | (rw [delB_lookup_none hnd (b_none hnd)]; exact .refl _)⟩⟩⟩
theorem New_does (e0 : TypeId) (c : Int) (h1 : 1 ≤ c) (h2 : c ≤ 65536) : DoesC Tryd.prog 26 [.int .i64 c] (mkH [.cells (intCells .i64 [1, 64, 1, 64]) e0 false]).low (.pointer (some ⟨1, 0, none⟩)) (effK (mkH [.cells (intCells .i64 [1, 64, 1, 64]) e0 false]) [] [.mach (.arena (ArSt.mk c 0 0 0 []))]).low := by
  refine arena_made (vs := varL) (vb := [.cells (intCells .i64 [1, 64, 1, 64]) e0 false]) (r := 2) (m := 1) (clk := 0) semA oneVar (.cons e0 .nil) (NewK h1 h2) ?_ (by decide) (by decide) (by decide) (by omega) h2 (by kernel_rfl) (by kernel_rfl)
  intro a o h
  cases a with
  | zero => cases h; rfl
  | succ a => simp at h
noncomputable def rc_arena_Arena_Load : RC := ⟨[.mach, .int .u64, .int .i64], fun avs => match avs with | [.mach (.arena S), .int b, .int i] => true | _ => false,
  fun N avs => match avs with | [.mach (.arena S), .int b, .int i] => ((.tuple #[(.int .u64 (ArSt.loadV S b i)), (.int .i64 (ArSt.err S b i))]), [(1, .mach (.arena (ArSt.touch S b i)))], []) | _ => (.bool false, [], [])⟩
theorem rc_arena_Arena_Load_does : RcDoes Tryd.prog varL 30 rc_arena_Arena_Load := by
  intro vb avs args blks hv hs hp
  obtain ⟨e0, rfl⟩ := var1 hv
  cases hs with | mach m_S hs =>
  cases m_S with
  | retire _ => cases hp
  | guard _ => cases hp
  | shield _ => cases hp
  | arena S =>
  cases hs with | int b hs =>
  cases hs with | int i hs =>
  cases hs
  exact Load_does e0 S b i
noncomputable def rc_arena_Arena_Store : RC := ⟨[.mach, .int .u64, .int .i64, .int .u64], fun avs => match avs with | [.mach (.arena S), .int b, .int i, .int v] => true | _ => false,
  fun N avs => match avs with | [.mach (.arena S), .int b, .int i, .int v] => ((.int .i64 (ArSt.err S b i)), [(1, .mach (.arena (ArSt.store S b i v)))], []) | _ => (.bool false, [], [])⟩
theorem rc_arena_Arena_Store_does : RcDoes Tryd.prog varL 31 rc_arena_Arena_Store := by
  intro vb avs args blks hv hs hp
  obtain ⟨e0, rfl⟩ := var1 hv
  cases hs with | mach m_S hs =>
  cases m_S with
  | retire _ => cases hp
  | guard _ => cases hp
  | shield _ => cases hp
  | arena S =>
  cases hs with | int b hs =>
  cases hs with | int i hs =>
  cases hs with | int v hs =>
  cases hs
  exact Store_does e0 S b i v
noncomputable def rc_arena_Arena_Cas : RC := ⟨[.mach, .int .u64, .int .i64, .int .u64, .int .u64], fun avs => match avs with | [.mach (.arena S), .int b, .int i, .int o, .int v] => true | _ => false,
  fun N avs => match avs with | [.mach (.arena S), .int b, .int i, .int o, .int v] => ((.tuple #[(.int .u64 (ArSt.loadV S b i)), (.int .i64 (ArSt.err S b i))]), [(1, .mach (.arena (ArSt.cas S b i o v)))], []) | _ => (.bool false, [], [])⟩
theorem rc_arena_Arena_Cas_does : RcDoes Tryd.prog varL 32 rc_arena_Arena_Cas := by
  intro vb avs args blks hv hs hp
  obtain ⟨e0, rfl⟩ := var1 hv
  cases hs with | mach m_S hs =>
  cases m_S with
  | retire _ => cases hp
  | guard _ => cases hp
  | shield _ => cases hp
  | arena S =>
  cases hs with | int b hs =>
  cases hs with | int i hs =>
  cases hs with | int o hs =>
  cases hs with | int v hs =>
  cases hs
  exact Cas_does e0 S b i o v
noncomputable def rc_arena_Arena_Add : RC := ⟨[.mach, .int .u64, .int .i64, .int .u64], fun avs => match avs with | [.mach (.arena S), .int b, .int i, .int d] => true | _ => false,
  fun N avs => match avs with | [.mach (.arena S), .int b, .int i, .int d] => ((.tuple #[(.int .u64 (ArSt.loadV S b i)), (.int .i64 (ArSt.err S b i))]), [(1, .mach (.arena (ArSt.add S b i d)))], []) | _ => (.bool false, [], [])⟩
theorem rc_arena_Arena_Add_does : RcDoes Tryd.prog varL 33 rc_arena_Arena_Add := by
  intro vb avs args blks hv hs hp
  obtain ⟨e0, rfl⟩ := var1 hv
  cases hs with | mach m_S hs =>
  cases m_S with
  | retire _ => cases hp
  | guard _ => cases hp
  | shield _ => cases hp
  | arena S =>
  cases hs with | int b hs =>
  cases hs with | int i hs =>
  cases hs with | int d hs =>
  cases hs
  exact Add_does e0 S b i d
noncomputable def rc_arena_Arena_Alloc : RC := ⟨[.mach, .int .i64], fun avs => match avs with | [.mach (.arena S), .int i] => true | _ => false,
  fun N avs => match avs with | [.mach (.arena S), .int i] => ((.int .u64 (ArSt.allocV S i)), [(1, .mach (.arena (ArSt.alloc S i)))], []) | _ => (.bool false, [], [])⟩
theorem rc_arena_Arena_Alloc_does : RcDoes Tryd.prog varL 27 rc_arena_Arena_Alloc := by
  intro vb avs args blks hv hs hp
  obtain ⟨e0, rfl⟩ := var1 hv
  cases hs with | mach m_S hs =>
  cases m_S with
  | retire _ => cases hp
  | guard _ => cases hp
  | shield _ => cases hp
  | arena S =>
  cases hs with | int i hs =>
  cases hs
  exact Alloc_does e0 S i
noncomputable def rc_arena_Arena_Free : RC := ⟨[.mach, .int .u64], fun avs => match avs with | [.mach (.arena S), .int b] => true | _ => false,
  fun N avs => match avs with | [.mach (.arena S), .int b] => ((.int .i64 (ArSt.freeE S b)), [(1, .mach (.arena (ArSt.free S b)))], []) | _ => (.bool false, [], [])⟩
theorem rc_arena_Arena_Free_does : RcDoes Tryd.prog varL 34 rc_arena_Arena_Free := by
  intro vb avs args blks hv hs hp
  obtain ⟨e0, rfl⟩ := var1 hv
  cases hs with | mach m_S hs =>
  cases m_S with
  | retire _ => cases hp
  | guard _ => cases hp
  | shield _ => cases hp
  | arena S =>
  cases hs with | int b hs =>
  cases hs
  exact Free_does e0 S b
noncomputable def rc_arena_Arena_Size : RC := ⟨[.mach, .int .u64], fun avs => match avs with | [.mach (.arena S), .int b] => true | _ => false,
  fun N avs => match avs with | [.mach (.arena S), .int b] => ((.int .i64 (ArSt.size S b)), [(1, .mach (.arena S))], []) | _ => (.bool false, [], [])⟩
theorem rc_arena_Arena_Size_does : RcDoes Tryd.prog varL 18 rc_arena_Arena_Size := by
  intro vb avs args blks hv hs hp
  obtain ⟨e0, rfl⟩ := var1 hv
  cases hs with | mach m_S hs =>
  cases m_S with
  | retire _ => cases hp
  | guard _ => cases hp
  | shield _ => cases hp
  | arena S =>
  cases hs with | int b hs =>
  cases hs
  exact Size_does e0 S b
noncomputable def rc_arena_Arena_Faults : RC := ⟨[.mach], fun avs => match avs with | [.mach (.arena S)] => true | _ => false,
  fun N avs => match avs with | [.mach (.arena S)] => ((.int .i64 S.faults), [(1, .mach (.arena S))], []) | _ => (.bool false, [], [])⟩
theorem rc_arena_Arena_Faults_does : RcDoes Tryd.prog varL 17 rc_arena_Arena_Faults := by
  intro vb avs args blks hv hs hp
  obtain ⟨e0, rfl⟩ := var1 hv
  cases hs with | mach m_S hs =>
  cases m_S with
  | retire _ => cases hp
  | guard _ => cases hp
  | shield _ => cases hp
  | arena S =>
  cases hs
  exact Faults_does e0 S
noncomputable def rc_arena_New : RC := ⟨[.int .i64], fun avs => match avs with | [.int c] => ((decide (1 ≤ c)) && (decide (c ≤ 65536))) | _ => false,
  fun N avs => match avs with | [.int c] => ((.pointer (some ⟨N, 0, none⟩)), [], [.mach (.arena (ArSt.mk c 0 0 0 []))]) | _ => (.bool false, [], [])⟩
theorem rc_arena_New_does : RcDoes Tryd.prog varL 26 rc_arena_New := by
  intro vb avs args blks hv hs hp
  obtain ⟨e0, rfl⟩ := var1 hv
  cases hs with | int c hs =>
  cases hs
  have hp : ((decide (1 ≤ c)) && (decide (c ≤ 65536))) = true := hp
  simp only [Bool.and_eq_true, decide_eq_true_eq] at hp
  exact New_does e0 c hp.1 hp.2
end Go.Proofs.YtfhfbbhoppnbiaaDoor
