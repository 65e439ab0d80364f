/- awake -/
import Derived.Test.YtgnndimefmcfoaaDoorGdM
import Derived.WalkKit
import Derived.ProofKit
import Derived.OpenShut
import Derived.ChangeOld
import Derived.Below
import Derived.SizedLaws
namespace Go.Proofs.YtgnndimefmcfoaaDoor
open Go.Eng
open Go.ChangeShapes Go.WideShapes Go.ChangeAt Go.RowKit
set_option linter.unusedVariables false
set_option linter.unusedSimpArgs false
set_option maxRecDepth 100000
noncomputable def cfgH : Cfg := ⟨[37]⟩
noncomputable def fsH : List FuncId := [3, 5, 6, 7, 8, 9, 10, 11, 12, 13, 14, 15, 16, 23, 24, 26, 27, 28, 29, 33, 35, 40, 41]
theorem fitH : Fit Tryd.prog cfgH fsH := ⟨by kernel_rfl, Cfg.ok_of (by kernel_rfl), by kernel_rfl⟩
theorem tcw {th : Int} (h1 : 0 ≤ th) (h2 : th ≤ 63) : IntKind.wrap .i64 (IntKind.wrap .i64 (2 + IntKind.wrap .i64 (2 * th)) + 0) = 2 + (2 * th) := by
  rw [wrap_i64_id (n := 2 * th) (by omega) (by omega), wrap_i64_id (n := 2 + 2 * th) (by omega) (by omega), wrap_i64_id (by omega) (by omega)]; omega
theorem szw {ts : Int} (h1 : 1 ≤ ts) (h2 : ts ≤ 64) : IntKind.wrap .i64 (2 + IntKind.wrap .i64 (2 * ts)) = 2 + (2 * ts) := by
  rw [wrap_i64_id (n := 2 * ts) (by omega) (by omega), wrap_i64_id (n := 2 + 2 * ts) (by omega) (by omega)]
theorem awake_told (e0 : TypeId) : Tells Tryd.prog 6 [] (varH .i64 [1, 64, 1, 64] e0).low (.bool true) := by
  refine Tells.of_tree (h := varH .i64 [1, 64, 1, 64] e0) fitH SoundC.no AgreeT.no (by kernel_rfl) rfl Ro.varH (n := 70) (d := 40) ?_
  kernel_rfl
noncomputable def rc_sprocketlaw19_awake : RC := ⟨[], fun avs => match avs with | [] => true | _ => false,
  fun N avs => match avs with | [] => ((.bool true), [], []) | _ => (.bool false, [], [])⟩
theorem rc_sprocketlaw19_awake_does : RcDoes Tryd.prog varL 6 rc_sprocketlaw19_awake := by
  intro vb avs args blks hv hs hp
  obtain ⟨e0, rfl⟩ := var1 hv
  cases hs
  exact DoesC.of_tells (awake_told e0) rfl
noncomputable def ghT : RTab := fun f => match f with
  | 6 => some rc_sprocketlaw19_awake
  | 10 => some rc_guard_New
  | 23 => some rc_guard_Guard_Act
  | 24 => some rc_gTakeB
  | 13 => some rc_guard_Guard_Result
  | 7 => some rc_arena_New
  | 8 => some rc_arena_Arena_Alloc
  | 29 => some rc_arena_Arena_Store
  | 14 => some rc_arena_Arena_Load
  | 16 => some rc_arena_Arena_Faults
  | _ => none
def ghDom : List FuncId := [6, 10, 23, 24, 13, 7, 8, 29, 14, 16]
theorem gh_does : ∀ f rc, f ∈ ghDom → ghT f = some rc → RcDoes Tryd.prog varL f rc := by
  intro f rc hf hT
  simp only [ghDom, List.mem_cons, List.not_mem_nil, or_false] at hf
  rcases hf with rfl | rfl | rfl | rfl | rfl | rfl | rfl | rfl | rfl | rfl
  · cases hT; exact rc_sprocketlaw19_awake_does
  · cases hT; exact rc_guard_New_does
  · cases hT; exact rc_guard_Guard_Act_does
  · cases hT; exact rc_gTakeB_does
  · cases hT; exact rc_guard_Guard_Result_does
  · cases hT; exact rc_arena_New_does
  · cases hT; exact rc_arena_Arena_Alloc_does
  · cases hT; exact rc_arena_Arena_Store_does
  · cases hT; exact rc_arena_Arena_Load_does
  · cases hT; exact rc_arena_Arena_Faults_does
theorem gh_fn : ∀ f ∈ ghDom, FnOk Tryd.prog f := fun f hf => fitH.fnOk f (by
    have h0 : (ghDom.all fun f => fsH.contains f) = true := by kernel_rfl
    simpa using List.all_eq_true.1 h0 f hf)
theorem gh_sound : SoundC Tryd.prog (conC ghDom (rcE varL ghT)) := rc_sound oneVar gh_fn gh_does
noncomputable def gaT : RTab := fun f => match f with
  | 6 => some rc_sprocketlaw19_awake
  | 10 => some rc_guard_New
  | 23 => some rc_guard_Guard_Act
  | 24 => some rc_gTakeA
  | 13 => some rc_guard_Guard_Result
  | 7 => some rc_arena_New
  | 8 => some rc_arena_Arena_Alloc
  | 29 => some rc_arena_Arena_Store
  | 14 => some rc_arena_Arena_Load
  | 16 => some rc_arena_Arena_Faults
  | _ => none
def gaDom : List FuncId := [6, 10, 23, 24, 13, 7, 8, 29, 14, 16]
theorem ga_does : ∀ f rc, f ∈ gaDom → gaT f = some rc → RcDoes Tryd.prog varL f rc := by
  intro f rc hf hT
  simp only [gaDom, List.mem_cons, List.not_mem_nil, or_false] at hf
  rcases hf with rfl | rfl | rfl | rfl | rfl | rfl | rfl | rfl | rfl | rfl
  · cases hT; exact rc_sprocketlaw19_awake_does
  · cases hT; exact rc_guard_New_does
  · cases hT; exact rc_guard_Guard_Act_does
  · cases hT; exact rc_gTakeA_does
  · cases hT; exact rc_guard_Guard_Result_does
  · cases hT; exact rc_arena_New_does
  · cases hT; exact rc_arena_Arena_Alloc_does
  · cases hT; exact rc_arena_Arena_Store_does
  · cases hT; exact rc_arena_Arena_Load_does
  · cases hT; exact rc_arena_Arena_Faults_does
theorem ga_fn : ∀ f ∈ gaDom, FnOk Tryd.prog f := fun f hf => fitH.fnOk f (by
    have h0 : (gaDom.all fun f => fsH.contains f) = true := by kernel_rfl
    simpa using List.all_eq_true.1 h0 f hf)
theorem ga_sound : SoundC Tryd.prog (conC gaDom (rcE varL gaT)) := rc_sound oneVar ga_fn ga_does

end Go.Proofs.YtgnndimefmcfoaaDoor
