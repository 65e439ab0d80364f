/- The guard as a whole. -/
import Derived.Test.YtgnndimefmcfoaaDoorArC
import Derived.WalkKit
import Derived.ProofKit
import Derived.OpenShut
import Derived.ChangeOld
import Derived.Below
import Derived.SizedLaws
namespace Go.Proofs.YtgnndimefmcfoaaDoor
open Go.Eng
open Go.ChangeShapes Go.WideShapes Go.ChangeAt Go.RowKit
set_option linter.unusedVariables false
set_option linter.unusedSimpArgs false
set_option maxRecDepth 100000
noncomputable def cfgG : Cfg := ⟨[]⟩
noncomputable def fsG : List FuncId := [10, 13, 15, 23, 24, 26, 27, 35]
theorem fitG : Fit Tryd.prog cfgG fsG := ⟨by kernel_rfl, Cfg.ok_of (by kernel_rfl), by kernel_rfl⟩
theorem GA_t (e : TypeId) (dk : Int) (th : Int) (ts : Int) (kp : Int) (sd : Int) (r : Int) (st : Int) : runK Tryd.prog cfgG fsG noT 30 40 23 [(.pointer (some ⟨1, 0, none⟩))] (mkH [.cells [(.int .i64 1), (.int .i64 64), (.int .i64 1), (.int .i64 64)] e false, .cells [(.int .u64 dk), (.int .i64 th), (.int .i64 ts), (.int .i64 kp), (.int .u64 sd), (.int .u64 r), (.int .i64 st)] 59 true]) bothK =
  bif (st == 1) then
    some ((.tuple #[(.agg #[(.int .i64 1), (.int .u64 dk), (.int .i64 0), (.int .u64 0), (.int .u64 0)]), (.bool true)]), ⟨3, 3, [(2, 2, .cells [(.int .i64 1), (.int .u64 dk), (.int .i64 0), (.int .u64 0), (.int .u64 0)] 37 true), (0, 0, .cells [(.int .i64 1), (.int .i64 64), (.int .i64 1), (.int .i64 64)] e false), (1, 0, .cells [(.int .u64 dk), (.int .i64 th), (.int .i64 ts), (.int .i64 kp), (.int .u64 sd), (.int .u64 r), (.int .i64 st)] 59 true)]⟩)
  else
    bif (st == 3) then
      some ((.tuple #[(.agg #[(.int .i64 1), (.int .u64 dk), (.int .i64 0), (.int .u64 0), (.int .u64 0)]), (.bool true)]), ⟨3, 3, [(2, 2, .cells [(.int .i64 1), (.int .u64 dk), (.int .i64 0), (.int .u64 0), (.int .u64 0)] 37 true), (0, 0, .cells [(.int .i64 1), (.int .i64 64), (.int .i64 1), (.int .i64 64)] e false), (1, 0, .cells [(.int .u64 dk), (.int .i64 th), (.int .i64 ts), (.int .i64 kp), (.int .u64 sd), (.int .u64 r), (.int .i64 st)] 59 true)]⟩)
    else
      bif (st == 2) then
        bif (decide (th < 0)) then
          some ((.tuple #[(.agg #[(.int .i64 2), (.int .u64 dk), (.int .i64 (-1)), (.int .u64 0), (.int .u64 r)]), (.bool true)]), ⟨3, 3, [(2, 2, .cells [(.int .i64 2), (.int .u64 dk), (.int .i64 (-1)), (.int .u64 0), (.int .u64 r)] 37 true), (0, 0, .cells [(.int .i64 1), (.int .i64 64), (.int .i64 1), (.int .i64 64)] e false), (1, 0, .cells [(.int .u64 dk), (.int .i64 th), (.int .i64 ts), (.int .i64 kp), (.int .u64 sd), (.int .u64 r), (.int .i64 st)] 59 true)]⟩)
        else
          bif (decide (th ≥ 64)) then
            some ((.tuple #[(.agg #[(.int .i64 2), (.int .u64 dk), (.int .i64 (-1)), (.int .u64 0), (.int .u64 r)]), (.bool true)]), ⟨3, 3, [(2, 2, .cells [(.int .i64 2), (.int .u64 dk), (.int .i64 (-1)), (.int .u64 0), (.int .u64 r)] 37 true), (0, 0, .cells [(.int .i64 1), (.int .i64 64), (.int .i64 1), (.int .i64 64)] e false), (1, 0, .cells [(.int .u64 dk), (.int .i64 th), (.int .i64 ts), (.int .i64 kp), (.int .u64 sd), (.int .u64 r), (.int .i64 st)] 59 true)]⟩)
          else
            some ((.tuple #[(.agg #[(.int .i64 2), (.int .u64 dk), (.int .i64 (IntKind.wrap .i64 ((IntKind.wrap .i64 (2 + (IntKind.wrap .i64 (2 * th)))) + 0))), (.int .u64 0), (.int .u64 r)]), (.bool true)]), ⟨3, 3, [(2, 2, .cells [(.int .i64 2), (.int .u64 dk), (.int .i64 (IntKind.wrap .i64 ((IntKind.wrap .i64 (2 + (IntKind.wrap .i64 (2 * th)))) + 0))), (.int .u64 0), (.int .u64 r)] 37 true), (0, 0, .cells [(.int .i64 1), (.int .i64 64), (.int .i64 1), (.int .i64 64)] e false), (1, 0, .cells [(.int .u64 dk), (.int .i64 th), (.int .i64 ts), (.int .i64 kp), (.int .u64 sd), (.int .u64 r), (.int .i64 st)] 59 true)]⟩)
      else
        some ((.tuple #[(.agg #[(.int .i64 0), (.int .u64 0), (.int .i64 0), (.int .u64 0), (.int .u64 0)]), (.bool false)]), ⟨3, 3, [(2, 2, .cells [(.int .i64 0), (.int .u64 0), (.int .i64 0), (.int .u64 0), (.int .u64 0)] 37 true), (0, 0, .cells [(.int .i64 1), (.int .i64 64), (.int .i64 1), (.int .i64 64)] e false), (1, 0, .cells [(.int .u64 dk), (.int .i64 th), (.int .i64 ts), (.int .i64 kp), (.int .u64 sd), (.int .u64 r), (.int .i64 st)] 59 true)]⟩) := by kernel_rfl
theorem GA1 {e : TypeId} {dk : Int} {th : Int} {ts : Int} {kp : Int} {sd : Int} {r : Int} {st : Int} (hs : st = 1)   : DoesC Tryd.prog 23 [(.pointer (some ⟨1, 0, none⟩))] (mkH [.cells [(.int .i64 1), (.int .i64 64), (.int .i64 1), (.int .i64 64)] e false, .cells [(.int .u64 dk), (.int .i64 th), (.int .i64 ts), (.int .i64 kp), (.int .u64 sd), (.int .u64 r), (.int .i64 st)] 59 true]).low (.tuple #[(.agg #[(.int .i64 1), (.int .u64 dk), (.int .i64 0), (.int .u64 0), (.int .u64 0)]), (.bool true)]) (KH.low ⟨3, 3, [(2, 2, .cells [(.int .i64 1), (.int .u64 dk), (.int .i64 0), (.int .u64 0), (.int .u64 0)] 37 true), (0, 0, .cells [(.int .i64 1), (.int .i64 64), (.int .i64 1), (.int .i64 64)] e false), (1, 0, .cells [(.int .u64 dk), (.int .i64 th), (.int .i64 ts), (.int .i64 kp), (.int .u64 sd), (.int .u64 r), (.int .i64 st)] 59 true)]⟩) :=
  tree_does fitG SoundC.no AgreeT.no (by kernel_rfl) ((GA_t e dk th ts kp sd r st).trans (by rw [condT (ibeq_t (by (first | omega | ((try simp (disch := omega) only [wrap_i64_id]) <;> omega))))]))
theorem GA3 {e : TypeId} {dk : Int} {th : Int} {ts : Int} {kp : Int} {sd : Int} {r : Int} {st : Int} (hs : st = 3)   : DoesC Tryd.prog 23 [(.pointer (some ⟨1, 0, none⟩))] (mkH [.cells [(.int .i64 1), (.int .i64 64), (.int .i64 1), (.int .i64 64)] e false, .cells [(.int .u64 dk), (.int .i64 th), (.int .i64 ts), (.int .i64 kp), (.int .u64 sd), (.int .u64 r), (.int .i64 st)] 59 true]).low (.tuple #[(.agg #[(.int .i64 1), (.int .u64 dk), (.int .i64 0), (.int .u64 0), (.int .u64 0)]), (.bool true)]) (KH.low ⟨3, 3, [(2, 2, .cells [(.int .i64 1), (.int .u64 dk), (.int .i64 0), (.int .u64 0), (.int .u64 0)] 37 true), (0, 0, .cells [(.int .i64 1), (.int .i64 64), (.int .i64 1), (.int .i64 64)] e false), (1, 0, .cells [(.int .u64 dk), (.int .i64 th), (.int .i64 ts), (.int .i64 kp), (.int .u64 sd), (.int .u64 r), (.int .i64 st)] 59 true)]⟩) :=
  tree_does fitG SoundC.no AgreeT.no (by kernel_rfl) ((GA_t e dk th ts kp sd r st).trans (by rw [condF (ibeq_f (by (first | omega | ((try simp (disch := omega) only [wrap_i64_id]) <;> omega)))), condT (ibeq_t (by (first | omega | ((try simp (disch := omega) only [wrap_i64_id]) <;> omega))))]))
theorem GA2 {e : TypeId} {dk : Int} {th : Int} {ts : Int} {kp : Int} {sd : Int} {r : Int} {st : Int} (hs : st = 2) (h0 : 0 ≤ th) (h1 : th ≤ 63)   : DoesC Tryd.prog 23 [(.pointer (some ⟨1, 0, none⟩))] (mkH [.cells [(.int .i64 1), (.int .i64 64), (.int .i64 1), (.int .i64 64)] e false, .cells [(.int .u64 dk), (.int .i64 th), (.int .i64 ts), (.int .i64 kp), (.int .u64 sd), (.int .u64 r), (.int .i64 st)] 59 true]).low (.tuple #[(.agg #[(.int .i64 2), (.int .u64 dk), (.int .i64 (IntKind.wrap .i64 ((IntKind.wrap .i64 (2 + (IntKind.wrap .i64 (2 * th)))) + 0))), (.int .u64 0), (.int .u64 r)]), (.bool true)]) (KH.low ⟨3, 3, [(2, 2, .cells [(.int .i64 2), (.int .u64 dk), (.int .i64 (IntKind.wrap .i64 ((IntKind.wrap .i64 (2 + (IntKind.wrap .i64 (2 * th)))) + 0))), (.int .u64 0), (.int .u64 r)] 37 true), (0, 0, .cells [(.int .i64 1), (.int .i64 64), (.int .i64 1), (.int .i64 64)] e false), (1, 0, .cells [(.int .u64 dk), (.int .i64 th), (.int .i64 ts), (.int .i64 kp), (.int .u64 sd), (.int .u64 r), (.int .i64 st)] 59 true)]⟩) :=
  tree_does fitG SoundC.no AgreeT.no (by kernel_rfl) ((GA_t e dk th ts kp sd r st).trans (by rw [condF (ibeq_f (by (first | omega | ((try simp (disch := omega) only [wrap_i64_id]) <;> omega)))), condF (ibeq_f (by (first | omega | ((try simp (disch := omega) only [wrap_i64_id]) <;> omega)))), condT (ibeq_t (by (first | omega | ((try simp (disch := omega) only [wrap_i64_id]) <;> omega)))), condF (decide_eq_false (by (first | omega | ((try simp (disch := omega) only [wrap_i64_id]) <;> omega)))), condF (decide_eq_false (by (first | omega | ((try simp (disch := omega) only [wrap_i64_id]) <;> omega))))]))
theorem GAz {e : TypeId} {dk : Int} {th : Int} {ts : Int} {kp : Int} {sd : Int} {r : Int} {st : Int} (ha : ¬ st = 1) (hb : ¬ st = 2) (hc : ¬ st = 3)   : DoesC Tryd.prog 23 [(.pointer (some ⟨1, 0, none⟩))] (mkH [.cells [(.int .i64 1), (.int .i64 64), (.int .i64 1), (.int .i64 64)] e false, .cells [(.int .u64 dk), (.int .i64 th), (.int .i64 ts), (.int .i64 kp), (.int .u64 sd), (.int .u64 r), (.int .i64 st)] 59 true]).low (.tuple #[(.agg #[(.int .i64 0), (.int .u64 0), (.int .i64 0), (.int .u64 0), (.int .u64 0)]), (.bool false)]) (KH.low ⟨3, 3, [(2, 2, .cells [(.int .i64 0), (.int .u64 0), (.int .i64 0), (.int .u64 0), (.int .u64 0)] 37 true), (0, 0, .cells [(.int .i64 1), (.int .i64 64), (.int .i64 1), (.int .i64 64)] e false), (1, 0, .cells [(.int .u64 dk), (.int .i64 th), (.int .i64 ts), (.int .i64 kp), (.int .u64 sd), (.int .u64 r), (.int .i64 st)] 59 true)]⟩) :=
  tree_does fitG SoundC.no AgreeT.no (by kernel_rfl) ((GA_t e dk th ts kp sd r st).trans (by rw [condF (ibeq_f (by (first | omega | ((try simp (disch := omega) only [wrap_i64_id]) <;> omega)))), condF (ibeq_f (by (first | omega | ((try simp (disch := omega) only [wrap_i64_id]) <;> omega)))), condF (ibeq_f (by (first | omega | ((try simp (disch := omega) only [wrap_i64_id]) <;> omega))))]))
theorem GT_t (w : Int) (e : TypeId) (dk : Int) (th : Int) (ts : Int) (kp : Int) (sd : Int) (r : Int) (st : Int) : runK Tryd.prog cfgG fsG noT 30 40 24 [(.pointer (some ⟨1, 0, none⟩)), (.int .u64 w)] (mkH [.cells [(.int .i64 1), (.int .i64 64), (.int .i64 1), (.int .i64 64)] e false, .cells [(.int .u64 dk), (.int .i64 th), (.int .i64 ts), (.int .i64 kp), (.int .u64 sd), (.int .u64 r), (.int .i64 st)] 59 true]) bothK =
  bif (st == 1) then
    some (undef, ⟨2, 3, [(0, 0, .cells [(.int .i64 1), (.int .i64 64), (.int .i64 1), (.int .i64 64)] e false), (1, 2, .cells [(.int .u64 dk), (.int .i64 th), (.int .i64 ts), (.int .i64 kp), (.int .u64 sd), (.int .u64 w), (.int .i64 2)] 59 true)]⟩)
  else
    bif (st == 2) then
      some (undef, ⟨2, 2, [(0, 0, .cells [(.int .i64 1), (.int .i64 64), (.int .i64 1), (.int .i64 64)] e false), (1, 1, .cells [(.int .u64 dk), (.int .i64 th), (.int .i64 ts), (.int .i64 kp), (.int .u64 sd), (.int .u64 r), (.int .i64 3)] 59 true)]⟩)
    else
      bif (st == 3) then
        bif (w != r) then
          some (undef, ⟨2, 4, [(0, 0, .cells [(.int .i64 1), (.int .i64 64), (.int .i64 1), (.int .i64 64)] e false), (1, 3, .cells [(.int .u64 dk), (.int .i64 th), (.int .i64 ts), (.int .i64 kp), (.int .u64 sd), (.int .u64 w), (.int .i64 2)] 59 true)]⟩)
        else
          some (undef, ⟨2, 2, [(0, 0, .cells [(.int .i64 1), (.int .i64 64), (.int .i64 1), (.int .i64 64)] e false), (1, 1, .cells [(.int .u64 dk), (.int .i64 th), (.int .i64 ts), (.int .i64 kp), (.int .u64 sd), (.int .u64 r), (.int .i64 4)] 59 true)]⟩)
      else
        some (undef, ⟨2, 1, [(0, 0, .cells [(.int .i64 1), (.int .i64 64), (.int .i64 1), (.int .i64 64)] e false), (1, 0, .cells [(.int .u64 dk), (.int .i64 th), (.int .i64 ts), (.int .i64 kp), (.int .u64 sd), (.int .u64 r), (.int .i64 st)] 59 true)]⟩) := by kernel_rfl
theorem GT1 {w : Int} {e : TypeId} {dk : Int} {th : Int} {ts : Int} {kp : Int} {sd : Int} {r : Int} {st : Int} (hs : st = 1)   : DoesC Tryd.prog 24 [(.pointer (some ⟨1, 0, none⟩)), (.int .u64 w)] (mkH [.cells [(.int .i64 1), (.int .i64 64), (.int .i64 1), (.int .i64 64)] e false, .cells [(.int .u64 dk), (.int .i64 th), (.int .i64 ts), (.int .i64 kp), (.int .u64 sd), (.int .u64 r), (.int .i64 st)] 59 true]).low undef (KH.low ⟨2, 3, [(0, 0, .cells [(.int .i64 1), (.int .i64 64), (.int .i64 1), (.int .i64 64)] e false), (1, 2, .cells [(.int .u64 dk), (.int .i64 th), (.int .i64 ts), (.int .i64 kp), (.int .u64 sd), (.int .u64 w), (.int .i64 2)] 59 true)]⟩) :=
  tree_does fitG SoundC.no AgreeT.no (by kernel_rfl) ((GT_t w e dk th ts kp sd r st).trans (by rw [condT (ibeq_t (by (first | omega | ((try simp (disch := omega) only [wrap_i64_id]) <;> omega))))]))
theorem GT2 {w : Int} {e : TypeId} {dk : Int} {th : Int} {ts : Int} {kp : Int} {sd : Int} {r : Int} {st : Int} (hs : st = 2)   : DoesC Tryd.prog 24 [(.pointer (some ⟨1, 0, none⟩)), (.int .u64 w)] (mkH [.cells [(.int .i64 1), (.int .i64 64), (.int .i64 1), (.int .i64 64)] e false, .cells [(.int .u64 dk), (.int .i64 th), (.int .i64 ts), (.int .i64 kp), (.int .u64 sd), (.int .u64 r), (.int .i64 st)] 59 true]).low undef (KH.low ⟨2, 2, [(0, 0, .cells [(.int .i64 1), (.int .i64 64), (.int .i64 1), (.int .i64 64)] e false), (1, 1, .cells [(.int .u64 dk), (.int .i64 th), (.int .i64 ts), (.int .i64 kp), (.int .u64 sd), (.int .u64 r), (.int .i64 3)] 59 true)]⟩) :=
  tree_does fitG SoundC.no AgreeT.no (by kernel_rfl) ((GT_t w e dk th ts kp sd r st).trans (by rw [condF (ibeq_f (by (first | omega | ((try simp (disch := omega) only [wrap_i64_id]) <;> omega)))), condT (ibeq_t (by (first | omega | ((try simp (disch := omega) only [wrap_i64_id]) <;> omega))))]))
theorem GT3 {w : Int} {e : TypeId} {dk : Int} {th : Int} {ts : Int} {kp : Int} {sd : Int} {r : Int} {st : Int} (hs : st = 3) (hw : w = r)   : DoesC Tryd.prog 24 [(.pointer (some ⟨1, 0, none⟩)), (.int .u64 w)] (mkH [.cells [(.int .i64 1), (.int .i64 64), (.int .i64 1), (.int .i64 64)] e false, .cells [(.int .u64 dk), (.int .i64 th), (.int .i64 ts), (.int .i64 kp), (.int .u64 sd), (.int .u64 r), (.int .i64 st)] 59 true]).low undef (KH.low ⟨2, 2, [(0, 0, .cells [(.int .i64 1), (.int .i64 64), (.int .i64 1), (.int .i64 64)] e false), (1, 1, .cells [(.int .u64 dk), (.int .i64 th), (.int .i64 ts), (.int .i64 kp), (.int .u64 sd), (.int .u64 r), (.int .i64 4)] 59 true)]⟩) :=
  tree_does fitG SoundC.no AgreeT.no (by kernel_rfl) ((GT_t w e dk th ts kp sd r st).trans (by rw [condF (ibeq_f (by (first | omega | ((try simp (disch := omega) only [wrap_i64_id]) <;> omega)))), condF (ibeq_f (by (first | omega | ((try simp (disch := omega) only [wrap_i64_id]) <;> omega)))), condT (ibeq_t (by (first | omega | ((try simp (disch := omega) only [wrap_i64_id]) <;> omega)))), condF (ibne_f (by (first | omega | ((try simp (disch := omega) only [wrap_i64_id]) <;> omega))))]))
theorem GT4 {w : Int} {e : TypeId} {dk : Int} {th : Int} {ts : Int} {kp : Int} {sd : Int} {r : Int} {st : Int} (hs : st = 3) (hw : ¬ w = r)   : DoesC Tryd.prog 24 [(.pointer (some ⟨1, 0, none⟩)), (.int .u64 w)] (mkH [.cells [(.int .i64 1), (.int .i64 64), (.int .i64 1), (.int .i64 64)] e false, .cells [(.int .u64 dk), (.int .i64 th), (.int .i64 ts), (.int .i64 kp), (.int .u64 sd), (.int .u64 r), (.int .i64 st)] 59 true]).low undef (KH.low ⟨2, 4, [(0, 0, .cells [(.int .i64 1), (.int .i64 64), (.int .i64 1), (.int .i64 64)] e false), (1, 3, .cells [(.int .u64 dk), (.int .i64 th), (.int .i64 ts), (.int .i64 kp), (.int .u64 sd), (.int .u64 w), (.int .i64 2)] 59 true)]⟩) :=
  tree_does fitG SoundC.no AgreeT.no (by kernel_rfl) ((GT_t w e dk th ts kp sd r st).trans (by rw [condF (ibeq_f (by (first | omega | ((try simp (disch := omega) only [wrap_i64_id]) <;> omega)))), condF (ibeq_f (by (first | omega | ((try simp (disch := omega) only [wrap_i64_id]) <;> omega)))), condT (ibeq_t (by (first | omega | ((try simp (disch := omega) only [wrap_i64_id]) <;> omega)))), condT (ibne_t (by (first | omega | ((try simp (disch := omega) only [wrap_i64_id]) <;> omega))))]))
theorem GTz {w : Int} {e : TypeId} {dk : Int} {th : Int} {ts : Int} {kp : Int} {sd : Int} {r : Int} {st : Int} (ha : ¬ st = 1) (hb : ¬ st = 2) (hc : ¬ st = 3)   : DoesC Tryd.prog 24 [(.pointer (some ⟨1, 0, none⟩)), (.int .u64 w)] (mkH [.cells [(.int .i64 1), (.int .i64 64), (.int .i64 1), (.int .i64 64)] e false, .cells [(.int .u64 dk), (.int .i64 th), (.int .i64 ts), (.int .i64 kp), (.int .u64 sd), (.int .u64 r), (.int .i64 st)] 59 true]).low undef (KH.low ⟨2, 1, [(0, 0, .cells [(.int .i64 1), (.int .i64 64), (.int .i64 1), (.int .i64 64)] e false), (1, 0, .cells [(.int .u64 dk), (.int .i64 th), (.int .i64 ts), (.int .i64 kp), (.int .u64 sd), (.int .u64 r), (.int .i64 st)] 59 true)]⟩) :=
  tree_does fitG SoundC.no AgreeT.no (by kernel_rfl) ((GT_t w e dk th ts kp sd r st).trans (by rw [condF (ibeq_f (by (first | omega | ((try simp (disch := omega) only [wrap_i64_id]) <;> omega)))), condF (ibeq_f (by (first | omega | ((try simp (disch := omega) only [wrap_i64_id]) <;> omega)))), condF (ibeq_f (by (first | omega | ((try simp (disch := omega) only [wrap_i64_id]) <;> omega))))]))
theorem GR_t (e : TypeId) (dk : Int) (th : Int) (ts : Int) (kp : Int) (sd : Int) (r : Int) (st : Int) : runK Tryd.prog cfgG fsG noT 30 40 13 [(.pointer (some ⟨1, 0, none⟩))] (mkH [.cells [(.int .i64 1), (.int .i64 64), (.int .i64 1), (.int .i64 64)] e false, .cells [(.int .u64 dk), (.int .i64 th), (.int .i64 ts), (.int .i64 kp), (.int .u64 sd), (.int .u64 r), (.int .i64 st)] 59 true]) bothK =
  bif (st != 4) then
    some ((.tuple #[(.int .u64 0), (.bool false)]), ⟨2, 1, [(0, 0, .cells [(.int .i64 1), (.int .i64 64), (.int .i64 1), (.int .i64 64)] e false), (1, 0, .cells [(.int .u64 dk), (.int .i64 th), (.int .i64 ts), (.int .i64 kp), (.int .u64 sd), (.int .u64 r), (.int .i64 st)] 59 true)]⟩)
  else
    some ((.tuple #[(.int .u64 r), (.bool true)]), ⟨2, 1, [(0, 0, .cells [(.int .i64 1), (.int .i64 64), (.int .i64 1), (.int .i64 64)] e false), (1, 0, .cells [(.int .u64 dk), (.int .i64 th), (.int .i64 ts), (.int .i64 kp), (.int .u64 sd), (.int .u64 r), (.int .i64 st)] 59 true)]⟩) := by kernel_rfl
theorem GR4 {e : TypeId} {dk : Int} {th : Int} {ts : Int} {kp : Int} {sd : Int} {r : Int} {st : Int} (hs : st = 4)   : DoesC Tryd.prog 13 [(.pointer (some ⟨1, 0, none⟩))] (mkH [.cells [(.int .i64 1), (.int .i64 64), (.int .i64 1), (.int .i64 64)] e false, .cells [(.int .u64 dk), (.int .i64 th), (.int .i64 ts), (.int .i64 kp), (.int .u64 sd), (.int .u64 r), (.int .i64 st)] 59 true]).low (.tuple #[(.int .u64 r), (.bool true)]) (KH.low ⟨2, 1, [(0, 0, .cells [(.int .i64 1), (.int .i64 64), (.int .i64 1), (.int .i64 64)] e false), (1, 0, .cells [(.int .u64 dk), (.int .i64 th), (.int .i64 ts), (.int .i64 kp), (.int .u64 sd), (.int .u64 r), (.int .i64 st)] 59 true)]⟩) :=
  tree_does fitG SoundC.no AgreeT.no (by kernel_rfl) ((GR_t e dk th ts kp sd r st).trans (by rw [condF (ibne_f (by (first | omega | ((try simp (disch := omega) only [wrap_i64_id]) <;> omega))))]))
theorem GRz {e : TypeId} {dk : Int} {th : Int} {ts : Int} {kp : Int} {sd : Int} {r : Int} {st : Int} (hs : ¬ st = 4)   : DoesC Tryd.prog 13 [(.pointer (some ⟨1, 0, none⟩))] (mkH [.cells [(.int .i64 1), (.int .i64 64), (.int .i64 1), (.int .i64 64)] e false, .cells [(.int .u64 dk), (.int .i64 th), (.int .i64 ts), (.int .i64 kp), (.int .u64 sd), (.int .u64 r), (.int .i64 st)] 59 true]).low (.tuple #[(.int .u64 0), (.bool false)]) (KH.low ⟨2, 1, [(0, 0, .cells [(.int .i64 1), (.int .i64 64), (.int .i64 1), (.int .i64 64)] e false), (1, 0, .cells [(.int .u64 dk), (.int .i64 th), (.int .i64 ts), (.int .i64 kp), (.int .u64 sd), (.int .u64 r), (.int .i64 st)] 59 true)]⟩) :=
  tree_does fitG SoundC.no AgreeT.no (by kernel_rfl) ((GR_t e dk th ts kp sd r st).trans (by rw [condT (ibne_t (by (first | omega | ((try simp (disch := omega) only [wrap_i64_id]) <;> omega))))]))
theorem GN_t (dk : Int) (th : Int) (ts : Int) (kp : Int) (sd : Int) (e : TypeId) : runK Tryd.prog cfgG fsG noT 30 40 10 [(.agg #[(.int .u64 dk), (.int .i64 th), (.int .i64 ts), (.int .i64 kp), (.int .u64 sd)])] (mkH [.cells [(.int .i64 1), (.int .i64 64), (.int .i64 1), (.int .i64 64)] e false]) bothK =
  bif (dk != 0) then
    bif (decide (ts ≥ 1)) then
      bif (decide (ts ≤ 64)) then
        bif (decide (kp ≥ 1)) then
          bif (decide (kp ≤ 64)) then
            bif (decide (th ≥ 0)) then
              bif (!(decide (th < ts))) then
                some ((.pointer (some ⟨3, 0, none⟩)), ⟨4, 4, [(3, 3, .cells [(.int .u64 0), (.int .i64 0), (.int .i64 0), (.int .i64 0), (.int .u64 0), (.int .u64 0), (.int .i64 0)] 59 true), (2, 2, .cells [(.int .u64 dk), (.int .i64 th), (.int .i64 ts), (.int .i64 kp), (.int .u64 sd)] 24 true), (1, 1, .cells [(.int .u64 dk), (.int .i64 th), (.int .i64 ts), (.int .i64 kp), (.int .u64 sd)] 24 true), (0, 0, .cells [(.int .i64 1), (.int .i64 64), (.int .i64 1), (.int .i64 64)] e false)]⟩)
              else
                some ((.pointer (some ⟨3, 0, none⟩)), ⟨4, 4, [(3, 3, .cells [(.int .u64 dk), (.int .i64 th), (.int .i64 ts), (.int .i64 kp), (.int .u64 sd), (.int .u64 0), (.int .i64 1)] 59 true), (2, 2, .cells [(.int .u64 dk), (.int .i64 th), (.int .i64 ts), (.int .i64 kp), (.int .u64 sd)] 24 true), (1, 1, .cells [(.int .u64 dk), (.int .i64 th), (.int .i64 ts), (.int .i64 kp), (.int .u64 sd)] 24 true), (0, 0, .cells [(.int .i64 1), (.int .i64 64), (.int .i64 1), (.int .i64 64)] e false)]⟩)
            else
              some ((.pointer (some ⟨3, 0, none⟩)), ⟨4, 4, [(3, 3, .cells [(.int .u64 0), (.int .i64 0), (.int .i64 0), (.int .i64 0), (.int .u64 0), (.int .u64 0), (.int .i64 0)] 59 true), (2, 2, .cells [(.int .u64 dk), (.int .i64 th), (.int .i64 ts), (.int .i64 kp), (.int .u64 sd)] 24 true), (1, 1, .cells [(.int .u64 dk), (.int .i64 th), (.int .i64 ts), (.int .i64 kp), (.int .u64 sd)] 24 true), (0, 0, .cells [(.int .i64 1), (.int .i64 64), (.int .i64 1), (.int .i64 64)] e false)]⟩)
          else
            some ((.pointer (some ⟨3, 0, none⟩)), ⟨4, 4, [(3, 3, .cells [(.int .u64 0), (.int .i64 0), (.int .i64 0), (.int .i64 0), (.int .u64 0), (.int .u64 0), (.int .i64 0)] 59 true), (2, 2, .cells [(.int .u64 dk), (.int .i64 th), (.int .i64 ts), (.int .i64 kp), (.int .u64 sd)] 24 true), (1, 1, .cells [(.int .u64 dk), (.int .i64 th), (.int .i64 ts), (.int .i64 kp), (.int .u64 sd)] 24 true), (0, 0, .cells [(.int .i64 1), (.int .i64 64), (.int .i64 1), (.int .i64 64)] e false)]⟩)
        else
          some ((.pointer (some ⟨3, 0, none⟩)), ⟨4, 4, [(3, 3, .cells [(.int .u64 0), (.int .i64 0), (.int .i64 0), (.int .i64 0), (.int .u64 0), (.int .u64 0), (.int .i64 0)] 59 true), (2, 2, .cells [(.int .u64 dk), (.int .i64 th), (.int .i64 ts), (.int .i64 kp), (.int .u64 sd)] 24 true), (1, 1, .cells [(.int .u64 dk), (.int .i64 th), (.int .i64 ts), (.int .i64 kp), (.int .u64 sd)] 24 true), (0, 0, .cells [(.int .i64 1), (.int .i64 64), (.int .i64 1), (.int .i64 64)] e false)]⟩)
      else
        some ((.pointer (some ⟨3, 0, none⟩)), ⟨4, 4, [(3, 3, .cells [(.int .u64 0), (.int .i64 0), (.int .i64 0), (.int .i64 0), (.int .u64 0), (.int .u64 0), (.int .i64 0)] 59 true), (2, 2, .cells [(.int .u64 dk), (.int .i64 th), (.int .i64 ts), (.int .i64 kp), (.int .u64 sd)] 24 true), (1, 1, .cells [(.int .u64 dk), (.int .i64 th), (.int .i64 ts), (.int .i64 kp), (.int .u64 sd)] 24 true), (0, 0, .cells [(.int .i64 1), (.int .i64 64), (.int .i64 1), (.int .i64 64)] e false)]⟩)
    else
      some ((.pointer (some ⟨3, 0, none⟩)), ⟨4, 4, [(3, 3, .cells [(.int .u64 0), (.int .i64 0), (.int .i64 0), (.int .i64 0), (.int .u64 0), (.int .u64 0), (.int .i64 0)] 59 true), (2, 2, .cells [(.int .u64 dk), (.int .i64 th), (.int .i64 ts), (.int .i64 kp), (.int .u64 sd)] 24 true), (1, 1, .cells [(.int .u64 dk), (.int .i64 th), (.int .i64 ts), (.int .i64 kp), (.int .u64 sd)] 24 true), (0, 0, .cells [(.int .i64 1), (.int .i64 64), (.int .i64 1), (.int .i64 64)] e false)]⟩)
  else
    some ((.pointer (some ⟨3, 0, none⟩)), ⟨4, 4, [(3, 3, .cells [(.int .u64 0), (.int .i64 0), (.int .i64 0), (.int .i64 0), (.int .u64 0), (.int .u64 0), (.int .i64 0)] 59 true), (2, 2, .cells [(.int .u64 dk), (.int .i64 th), (.int .i64 ts), (.int .i64 kp), (.int .u64 sd)] 24 true), (1, 1, .cells [(.int .u64 dk), (.int .i64 th), (.int .i64 ts), (.int .i64 kp), (.int .u64 sd)] 24 true), (0, 0, .cells [(.int .i64 1), (.int .i64 64), (.int .i64 1), (.int .i64 64)] e false)]⟩) := by kernel_rfl
theorem GNk {dk : Int} {th : Int} {ts : Int} {kp : Int} {sd : Int} {e : TypeId} (hd : ¬ dk = 0) (h1 : 1 ≤ ts) (h2 : ts ≤ 64) (h3 : 1 ≤ kp) (h4 : kp ≤ 64) (h5 : 0 ≤ th) (h6 : th < ts)   : DoesC Tryd.prog 10 [(.agg #[(.int .u64 dk), (.int .i64 th), (.int .i64 ts), (.int .i64 kp), (.int .u64 sd)])] (mkH [.cells [(.int .i64 1), (.int .i64 64), (.int .i64 1), (.int .i64 64)] e false]).low (.pointer (some ⟨3, 0, none⟩)) (KH.low ⟨4, 4, [(3, 3, .cells [(.int .u64 dk), (.int .i64 th), (.int .i64 ts), (.int .i64 kp), (.int .u64 sd), (.int .u64 0), (.int .i64 1)] 59 true), (2, 2, .cells [(.int .u64 dk), (.int .i64 th), (.int .i64 ts), (.int .i64 kp), (.int .u64 sd)] 24 true), (1, 1, .cells [(.int .u64 dk), (.int .i64 th), (.int .i64 ts), (.int .i64 kp), (.int .u64 sd)] 24 true), (0, 0, .cells [(.int .i64 1), (.int .i64 64), (.int .i64 1), (.int .i64 64)] e false)]⟩) :=
  tree_does fitG SoundC.no AgreeT.no (by kernel_rfl) ((GN_t dk th ts kp sd e).trans (by rw [condT (ibne_t (by (first | omega | ((try simp (disch := omega) only [wrap_i64_id]) <;> omega)))), condT (decide_eq_true (by (first | omega | ((try simp (disch := omega) only [wrap_i64_id]) <;> omega)))), condT (decide_eq_true (by (first | omega | ((try simp (disch := omega) only [wrap_i64_id]) <;> omega)))), condT (decide_eq_true (by (first | omega | ((try simp (disch := omega) only [wrap_i64_id]) <;> omega)))), condT (decide_eq_true (by (first | omega | ((try simp (disch := omega) only [wrap_i64_id]) <;> omega)))), condT (decide_eq_true (by (first | omega | ((try simp (disch := omega) only [wrap_i64_id]) <;> omega)))), condF (not_f (decide_eq_true (by (first | omega | ((try simp (disch := omega) only [wrap_i64_id]) <;> omega)))))]))
theorem isG (x : GuardSt) : IsM Tryd.prog 1 (.guard x) [.cells [.int .u64 x.site.desk, .int .i64 x.site.thread, .int .i64 x.site.threads, .int .i64 x.site.keep, .int .u64 x.site.seed, .int .u64 x.root, .int .i64 x.state] 59 true] := isM rfl
/-- What a guard does next. -/
noncomputable def gActV (x : GuardSt) : Value :=
  bif x.state == 1 || x.state == 3 then .tuple #[.agg #[.int .i64 1, .int .u64 x.site.desk, .int .i64 0, .int .u64 0, .int .u64 0], .bool true]
  else bif x.state == 2 then .tuple #[.agg #[.int .i64 2, .int .u64 x.site.desk, .int .i64 (2 + (2 * x.site.thread)), .int .u64 0, .int .u64 x.root], .bool true]
  else .tuple #[.agg #[.int .i64 0, .int .u64 0, .int .i64 0, .int .u64 0, .int .u64 0], .bool false]
def gTake (x : GuardSt) (w : Int) : GuardSt :=
  bif x.state == 1 then ⟨x.site, w, 2⟩ else bif x.state == 2 then ⟨x.site, x.root, 3⟩ else bif x.state == 3 then (bif w == x.root then ⟨x.site, x.root, 4⟩ else ⟨x.site, w, 2⟩) else x
noncomputable def gResV (x : GuardSt) : Value := bif x.state == 4 then .tuple #[.int .u64 x.root, .bool true] else .tuple #[.int .u64 0, .bool false]
theorem gAct_does (e0 : TypeId) (x : GuardSt) (h0 : 0 ≤ x.site.thread) (h1 : x.site.thread ≤ 63) : DoesC Tryd.prog 23 [.pointer (some ⟨1, 0, none⟩)] (mkH [.cells (intCells .i64 [1, 64, 1, 64]) e0 false, .mach (.guard x)]).low (gActV x) (effK (mkH [.cells (intCells .i64 [1, 64, 1, 64]) e0 false, .mach (.guard x)]) [(1, .mach (.guard x))] []).low := by
  obtain ⟨⟨dk, th, ts, kp, sd⟩, r, st⟩ := x
  have h0 : 0 ≤ th := h0
  have h1 : th ≤ 63 := h1
  by_cases a1 : st = 1
  · subst a1; exact mach_does (vs := varL) (vb := [.cells (intCells .i64 [1, 64, 1, 64]) e0 false]) oneVar (.cons e0 .nil) (isG _) (isG _) (GA1 rfl) [] (by kernel_rfl)
  by_cases a2 : st = 2
  · subst a2
    have hw : IntKind.wrap .i64 (IntKind.wrap .i64 (2 + IntKind.wrap .i64 (2 * th)) + 0) = 2 + (2 * th) := by rw [wrap_i64_id (n := 2 * th) (by omega) (by omega), wrap_i64_id (n := 2 + 2 * th) (by omega) (by omega), wrap_i64_id (by omega) (by omega)]; omega
    have := mach_does (vs := varL) (vb := [.cells (intCells .i64 [1, 64, 1, 64]) e0 false]) oneVar (.cons e0 .nil) (isG _) (isG (.mk (.mk dk th ts kp sd) r 2)) (GA2 rfl h0 h1) [] (by kernel_rfl)
    rw [hw] at this
    exact this
  by_cases a3 : st = 3
  · subst a3; exact mach_does (vs := varL) (vb := [.cells (intCells .i64 [1, 64, 1, 64]) e0 false]) oneVar (.cons e0 .nil) (isG _) (isG _) (GA3 rfl) [] (by kernel_rfl)
  have hv : gActV ⟨⟨dk, th, ts, kp, sd⟩, r, st⟩ = .tuple #[.agg #[.int .i64 0, .int .u64 0, .int .i64 0, .int .u64 0, .int .u64 0], .bool false] := by unfold gActV; simp only [ibeq_f a1, ibeq_f a2, ibeq_f a3]; rfl
  rw [hv]
  exact mach_does (vs := varL) (vb := [.cells (intCells .i64 [1, 64, 1, 64]) e0 false]) oneVar (.cons e0 .nil) (isG _) (isG _) (GAz a1 a2 a3) [] (by kernel_rfl)
theorem gTake_does (e0 : TypeId) (x : GuardSt) (w : Int) : DoesC Tryd.prog 24 [.pointer (some ⟨1, 0, none⟩), .int .u64 w] (mkH [.cells (intCells .i64 [1, 64, 1, 64]) e0 false, .mach (.guard x)]).low (.tuple #[]) (effK (mkH [.cells (intCells .i64 [1, 64, 1, 64]) e0 false, .mach (.guard x)]) [(1, .mach (.guard (gTake x w)))] []).low := by
  obtain ⟨⟨dk, th, ts, kp, sd⟩, r, st⟩ := x
  by_cases a1 : st = 1
  · subst a1; exact mach_does (vs := varL) (vb := [.cells (intCells .i64 [1, 64, 1, 64]) e0 false]) oneVar (.cons e0 .nil) (isG _) (isG _) (GT1 rfl) [] (by kernel_rfl)
  by_cases a2 : st = 2
  · subst a2; exact mach_does (vs := varL) (vb := [.cells (intCells .i64 [1, 64, 1, 64]) e0 false]) oneVar (.cons e0 .nil) (isG _) (isG _) (GT2 rfl) [] (by kernel_rfl)
  by_cases a3 : st = 3
  · subst a3
    by_cases hw : w = r
    · have hv : gTake ⟨⟨dk, th, ts, kp, sd⟩, r, 3⟩ w = ⟨⟨dk, th, ts, kp, sd⟩, r, 4⟩ := by unfold gTake; simp only [ibeq_t hw]; rfl
      rw [hv]; exact mach_does (vs := varL) (vb := [.cells (intCells .i64 [1, 64, 1, 64]) e0 false]) oneVar (.cons e0 .nil) (isG _) (isG _) (GT3 rfl hw) [] (by kernel_rfl)
    · have hv : gTake ⟨⟨dk, th, ts, kp, sd⟩, r, 3⟩ w = ⟨⟨dk, th, ts, kp, sd⟩, w, 2⟩ := by unfold gTake; simp only [ibeq_f hw]; rfl
      rw [hv]; exact mach_does (vs := varL) (vb := [.cells (intCells .i64 [1, 64, 1, 64]) e0 false]) oneVar (.cons e0 .nil) (isG _) (isG _) (GT4 rfl hw) [] (by kernel_rfl)
  have hv : gTake ⟨⟨dk, th, ts, kp, sd⟩, r, st⟩ w = ⟨⟨dk, th, ts, kp, sd⟩, r, st⟩ := by unfold gTake; simp only [ibeq_f a1, ibeq_f a2, ibeq_f a3]; rfl
  rw [hv]; exact mach_does (vs := varL) (vb := [.cells (intCells .i64 [1, 64, 1, 64]) e0 false]) oneVar (.cons e0 .nil) (isG _) (isG _) (GTz a1 a2 a3) [] (by kernel_rfl)
def gTakeA (x : GuardSt) (w : Int) : GuardSt :=
  bif x.state == 1 then ⟨x.site, w, 2⟩ else bif x.state == 2 then ⟨x.site, x.root, 3⟩ else bif x.state == 3 then ⟨x.site, x.root, 4⟩ else x
def gTakeB (x : GuardSt) (w : Int) : GuardSt :=
  bif x.state == 1 then ⟨x.site, w, 2⟩ else bif x.state == 2 then ⟨x.site, x.root, 3⟩ else bif x.state == 3 then ⟨x.site, w, 2⟩ else x
theorem gTakeA_eq {x : GuardSt} {w : Int} (h : (bif x.state == 3 then (w == x.root) else true) = true) : gTake x w = gTakeA x w := by
  unfold gTake gTakeA
  cases h3 : (x.state == 3) with
  | false => rfl
  | true => rw [h3] at h; rw [show (w == x.root) = true from h]; rfl
theorem gTakeB_eq {x : GuardSt} {w : Int} (h : (bif x.state == 3 then !(w == x.root) else true) = true) : gTake x w = gTakeB x w := by
  unfold gTake gTakeB
  cases h3 : (x.state == 3) with
  | false => rfl
  | true =>
    rw [h3] at h
    have h : (!(w == x.root)) = true := h
    rw [show (w == x.root) = false by simpa using h]; rfl
theorem gRes_does (e0 : TypeId) (x : GuardSt) : DoesC Tryd.prog 13 [.pointer (some ⟨1, 0, none⟩)] (mkH [.cells (intCells .i64 [1, 64, 1, 64]) e0 false, .mach (.guard x)]).low (gResV x) (effK (mkH [.cells (intCells .i64 [1, 64, 1, 64]) e0 false, .mach (.guard x)]) [(1, .mach (.guard x))] []).low := by
  obtain ⟨⟨dk, th, ts, kp, sd⟩, r, st⟩ := x
  by_cases a1 : st = 4
  · subst a1; exact mach_does (vs := varL) (vb := [.cells (intCells .i64 [1, 64, 1, 64]) e0 false]) oneVar (.cons e0 .nil) (isG _) (isG _) (GR4 rfl) [] (by kernel_rfl)
  have hv : gResV ⟨⟨dk, th, ts, kp, sd⟩, r, st⟩ = .tuple #[.int .u64 0, .bool false] := by unfold gResV; simp only [ibeq_f a1]; rfl
  rw [hv]; exact mach_does (vs := varL) (vb := [.cells (intCells .i64 [1, 64, 1, 64]) e0 false]) oneVar (.cons e0 .nil) (isG _) (isG _) (GRz a1) [] (by kernel_rfl)
noncomputable def rc_guard_Guard_Act : RC := ⟨[.mach], fun avs => match avs with | [.mach (.guard x)] => ((decide (0 ≤ (SiteSt.thread (GuardSt.site x)))) && (decide ((SiteSt.thread (GuardSt.site x)) ≤ 63))) | _ => false,
  fun N avs => match avs with | [.mach (.guard x)] => ((gActV x), [(1, .mach (.guard x))], []) | _ => (.bool false, [], [])⟩
theorem rc_guard_Guard_Act_does : RcDoes Tryd.prog varL 23 rc_guard_Guard_Act := by
  intro vb avs args blks hv hs hp
  obtain ⟨e0, rfl⟩ := var1 hv
  cases hs with | mach m_x hs =>
  cases m_x with
  | arena _ => cases hp
  | shield _ => cases hp
  | guard x =>
  cases hs
  have hp : ((decide (0 ≤ x.site.thread)) && (decide (x.site.thread ≤ 63))) = true := hp
  simp only [Bool.and_eq_true, decide_eq_true_eq] at hp
  exact gAct_does e0 x hp.1 hp.2
noncomputable def rc_guard_Guard_Take : RC := ⟨[.mach, .int .u64], fun avs => match avs with | [.mach (.guard x), .int w] => true | _ => false,
  fun N avs => match avs with | [.mach (.guard x), .int w] => ((.tuple #[]), [(1, .mach (.guard (gTake x w)))], []) | _ => (.bool false, [], [])⟩
theorem rc_guard_Guard_Take_does : RcDoes Tryd.prog varL 24 rc_guard_Guard_Take := by
  intro vb avs args blks hv hs hp
  obtain ⟨e0, rfl⟩ := var1 hv
  cases hs with | mach m_x hs =>
  cases m_x with
  | arena _ => cases hp
  | shield _ => cases hp
  | guard x =>
  cases hs with | int w hs =>
  cases hs
  exact gTake_does e0 x w
noncomputable def rc_gTakeA : RC := ⟨[.mach, .int .u64], fun avs => match avs with | [.mach (.guard x), .int w] => (bif x.state == 3 then (w == x.root) else true) | _ => false,
  fun N avs => match avs with | [.mach (.guard x), .int w] => ((.tuple #[]), [(1, .mach (.guard (gTakeA x w)))], []) | _ => (.bool false, [], [])⟩
theorem rc_gTakeA_does : RcDoes Tryd.prog varL 24 rc_gTakeA := by
  intro vb avs args blks hv hs hp
  obtain ⟨e0, rfl⟩ := var1 hv
  cases hs with | mach m_x hs =>
  cases m_x with
  | arena _ => cases hp
  | shield _ => cases hp
  | guard x =>
  cases hs with | int w hs =>
  cases hs
  have := gTake_does e0 x w
  rw [gTakeA_eq hp] at this
  exact this
noncomputable def rc_gTakeB : RC := ⟨[.mach, .int .u64], fun avs => match avs with | [.mach (.guard x), .int w] => (bif x.state == 3 then !(w == x.root) else true) | _ => false,
  fun N avs => match avs with | [.mach (.guard x), .int w] => ((.tuple #[]), [(1, .mach (.guard (gTakeB x w)))], []) | _ => (.bool false, [], [])⟩
theorem rc_gTakeB_does : RcDoes Tryd.prog varL 24 rc_gTakeB := by
  intro vb avs args blks hv hs hp
  obtain ⟨e0, rfl⟩ := var1 hv
  cases hs with | mach m_x hs =>
  cases m_x with
  | arena _ => cases hp
  | shield _ => cases hp
  | guard x =>
  cases hs with | int w hs =>
  cases hs
  have := gTake_does e0 x w
  rw [gTakeB_eq hp] at this
  exact this
noncomputable def rc_guard_Guard_Result : RC := ⟨[.mach], fun avs => match avs with | [.mach (.guard x)] => true | _ => false,
  fun N avs => match avs with | [.mach (.guard x)] => ((gResV x), [(1, .mach (.guard x))], []) | _ => (.bool false, [], [])⟩
theorem rc_guard_Guard_Result_does : RcDoes Tryd.prog varL 13 rc_guard_Guard_Result := by
  intro vb avs args blks hv hs hp
  obtain ⟨e0, rfl⟩ := var1 hv
  cases hs with | mach m_x hs =>
  cases m_x with
  | arena _ => cases hp
  | shield _ => cases hp
  | guard x =>
  cases hs
  exact gRes_does e0 x
/-- A site that may be. -/
def siteP (dk th ts kp : Int) : Bool := decide (¬ dk = 0) && (decide (1 ≤ ts) && (decide (ts ≤ 64) && (decide (1 ≤ kp) && (decide (kp ≤ 64) && (decide (0 ≤ th) && decide (th < ts))))))
theorem siteP_t {dk th ts kp : Int} (h0 : ¬ dk = 0) (h1 : 1 ≤ ts) (h2 : ts ≤ 64) (h3 : 1 ≤ kp) (h4 : kp ≤ 64) (h5 : 0 ≤ th) (h6 : th < ts) : siteP dk th ts kp = true := by
  unfold siteP; simp only [Bool.and_eq_true, decide_eq_true_eq]; exact ⟨h0, h1, h2, h3, h4, h5, h6⟩
noncomputable def siteOk (x : Value) : Bool := match x with
  | .agg ⟨[.int .u64 dk, .int .i64 th, .int .i64 ts, .int .i64 kp, .int .u64 sd]⟩ => siteP dk th ts kp
  | _ => false
noncomputable def siteOf (x : Value) : SiteSt := match x with
  | .agg ⟨[.int .u64 dk, .int .i64 th, .int .i64 ts, .int .i64 kp, .int .u64 sd]⟩ => ⟨dk, th, ts, kp, sd⟩
  | _ => ⟨0, 0, 0, 0, 0⟩
theorem gNew_does (e0 : TypeId) (x : Value) (h : siteOk x = true) : DoesC Tryd.prog 10 [x] (mkH [.cells (intCells .i64 [1, 64, 1, 64]) e0 false]).low (.pointer (some ⟨1, 0, none⟩)) (effK (mkH [.cells (intCells .i64 [1, 64, 1, 64]) e0 false]) [] [.mach (.guard (GuardSt.mk (siteOf x) 0 1))]).low := by
  unfold siteOk at h
  split at h
  · rename_i dk th ts kp sd
    unfold siteP at h
    simp only [Bool.and_eq_true, decide_eq_true_eq] at h
    obtain ⟨h0, h1, h2, h3, h4, h5, h6⟩ := h
    exact mach_made (vs := varL) (vb := [.cells (intCells .i64 [1, 64, 1, 64]) e0 false]) (r0 := 3) oneVar (.cons e0 .nil) (isG (.mk (.mk dk th ts kp sd) 0 1)) (GNk h0 h1 h2 h3 h4 h5 h6) [] (by kernel_rfl) (fun a o h => by
      cases a with
      | zero => cases h; rfl
      | succ a => simp at h)
  · cases h
noncomputable def rc_guard_New : RC := ⟨[.val], fun avs => match avs with | [.val x] => (siteOk x) | _ => false,
  fun N avs => match avs with | [.val x] => ((.pointer (some ⟨N, 0, none⟩)), [], [.mach (.guard (GuardSt.mk (siteOf x) 0 1))]) | _ => (.bool false, [], [])⟩
theorem rc_guard_New_does : RcDoes Tryd.prog varL 10 rc_guard_New := by
  intro vb avs args blks hv hs hp
  obtain ⟨e0, rfl⟩ := var1 hv
  cases hs with | val x hp_x hs =>
  cases hs
  exact gNew_does e0 x hp

end Go.Proofs.YtgnndimefmcfoaaDoor
