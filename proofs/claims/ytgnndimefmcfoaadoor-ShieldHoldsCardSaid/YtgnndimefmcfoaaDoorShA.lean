/- awake -/
import Derived.Test.YtgnndimefmcfoaaDoorShM
import Derived.WalkKit
import Derived.ProofKit
import Derived.OpenShut
import Derived.ChangeOld
import Derived.Below
import Derived.SizedLaws
namespace Go.Proofs.YtgnndimefmcfoaaDoor
open Go.Eng
open Go.ChangeShapes Go.WideShapes Go.ChangeAt Go.RowKit
set_option linter.unusedVariables false
set_option linter.unusedSimpArgs false
set_option maxRecDepth 100000
noncomputable def cfgH : Cfg := ⟨[37]⟩
noncomputable def fsH : List FuncId := [4, 5, 7, 8, 9, 11, 12, 14, 16, 17, 18, 19, 20, 21, 22, 26, 27, 28, 29, 33, 35, 36, 37, 38, 39, 40, 41, 42, 43, 44]
theorem fitH : Fit Tryd.prog cfgH fsH := ⟨by kernel_rfl, Cfg.ok_of (by kernel_rfl), by kernel_rfl⟩
theorem tcw {th : Int} (h1 : 0 ≤ th) (h2 : th ≤ 63) : IntKind.wrap .i64 (IntKind.wrap .i64 (2 + IntKind.wrap .i64 (2 * th)) + 0) = 2 + (2 * th) := by
  rw [wrap_i64_id (n := 2 * th) (by omega) (by omega), wrap_i64_id (n := 2 + 2 * th) (by omega) (by omega), wrap_i64_id (by omega) (by omega)]; omega
theorem szw {ts : Int} (h1 : 1 ≤ ts) (h2 : ts ≤ 64) : IntKind.wrap .i64 (2 + IntKind.wrap .i64 (2 * ts)) = 2 + (2 * ts) := by
  rw [wrap_i64_id (n := 2 * ts) (by omega) (by omega), wrap_i64_id (n := 2 + 2 * ts) (by omega) (by omega)]
theorem awake_told (e0 : TypeId) : Tells Tryd.prog 17 [] (varH .i64 [1, 64, 1, 64] e0).low (.bool true) := by
  refine Tells.of_tree (h := varH .i64 [1, 64, 1, 64] e0) fitH SoundC.no AgreeT.no (by kernel_rfl) rfl Ro.varH (n := 70) (d := 40) ?_
  kernel_rfl
noncomputable def rc_sprocketlaw20_awake : RC := ⟨[], fun avs => match avs with | [] => true | _ => false,
  fun N avs => match avs with | [] => ((.bool true), [], []) | _ => (.bool false, [], [])⟩
theorem rc_sprocketlaw20_awake_does : RcDoes Tryd.prog varL 17 rc_sprocketlaw20_awake := by
  intro vb avs args blks hv hs hp
  obtain ⟨e0, rfl⟩ := var1 hv
  cases hs
  exact DoesC.of_tells (awake_told e0) rfl
noncomputable def sAT : RTab := fun f => match f with
  | 17 => some rc_sprocketlaw20_awake
  | 18 => some rc_shield_New
  | 22 => some rc_tag_Block
  | 21 => some rc_tag_Fresh
  | 36 => some rc_shield_Shield_Act
  | 37 => some rc_sTakeA
  | 19 => some rc_shield_Shield_Result
  | 7 => some rc_arena_New
  | 8 => some rc_arena_Arena_Alloc
  | 29 => some rc_arena_Arena_Store
  | 14 => some rc_arena_Arena_Load
  | 16 => some rc_arena_Arena_Faults
  | _ => none
def sADom : List FuncId := [17, 18, 22, 21, 36, 37, 19, 7, 8, 29, 14, 16]
theorem sA_does : ∀ f rc, f ∈ sADom → sAT f = some rc → RcDoes Tryd.prog varL f rc := by
  intro f rc hf hT
  simp only [sADom, List.mem_cons, List.not_mem_nil, or_false] at hf
  rcases hf with rfl | rfl | rfl | rfl | rfl | rfl | rfl | rfl | rfl | rfl | rfl | rfl
  · cases hT; exact rc_sprocketlaw20_awake_does
  · cases hT; exact rc_shield_New_does
  · cases hT; exact rc_tag_Block_does
  · cases hT; exact rc_tag_Fresh_does
  · cases hT; exact rc_shield_Shield_Act_does
  · cases hT; exact rc_sTakeA_does
  · cases hT; exact rc_shield_Shield_Result_does
  · cases hT; exact rc_arena_New_does
  · cases hT; exact rc_arena_Arena_Alloc_does
  · cases hT; exact rc_arena_Arena_Store_does
  · cases hT; exact rc_arena_Arena_Load_does
  · cases hT; exact rc_arena_Arena_Faults_does
theorem sA_fn : ∀ f ∈ sADom, FnOk Tryd.prog f := fun f hf => fitH.fnOk f (by
    have h0 : (sADom.all fun f => fsH.contains f) = true := by kernel_rfl
    simpa using List.all_eq_true.1 h0 f hf)
theorem sA_sound : SoundC Tryd.prog (conC sADom (rcE varL sAT)) := rc_sound oneVar sA_fn sA_does
noncomputable def sBT : RTab := fun f => match f with
  | 17 => some rc_sprocketlaw20_awake
  | 18 => some rc_shield_New
  | 22 => some rc_tag_Block
  | 21 => some rc_tag_Fresh
  | 36 => some rc_shield_Shield_Act
  | 37 => some rc_sTakeB
  | 19 => some rc_shield_Shield_Result
  | 7 => some rc_arena_New
  | 8 => some rc_arena_Arena_Alloc
  | 29 => some rc_arena_Arena_Store
  | 14 => some rc_arena_Arena_Load
  | 16 => some rc_arena_Arena_Faults
  | _ => none
def sBDom : List FuncId := [17, 18, 22, 21, 36, 37, 19, 7, 8, 29, 14, 16]
theorem sB_does : ∀ f rc, f ∈ sBDom → sBT f = some rc → RcDoes Tryd.prog varL f rc := by
  intro f rc hf hT
  simp only [sBDom, List.mem_cons, List.not_mem_nil, or_false] at hf
  rcases hf with rfl | rfl | rfl | rfl | rfl | rfl | rfl | rfl | rfl | rfl | rfl | rfl
  · cases hT; exact rc_sprocketlaw20_awake_does
  · cases hT; exact rc_shield_New_does
  · cases hT; exact rc_tag_Block_does
  · cases hT; exact rc_tag_Fresh_does
  · cases hT; exact rc_shield_Shield_Act_does
  · cases hT; exact rc_sTakeB_does
  · cases hT; exact rc_shield_Shield_Result_does
  · cases hT; exact rc_arena_New_does
  · cases hT; exact rc_arena_Arena_Alloc_does
  · cases hT; exact rc_arena_Arena_Store_does
  · cases hT; exact rc_arena_Arena_Load_does
  · cases hT; exact rc_arena_Arena_Faults_does
theorem sB_fn : ∀ f ∈ sBDom, FnOk Tryd.prog f := fun f hf => fitH.fnOk f (by
    have h0 : (sBDom.all fun f => fsH.contains f) = true := by kernel_rfl
    simpa using List.all_eq_true.1 h0 f hf)
theorem sB_sound : SoundC Tryd.prog (conC sBDom (rcE varL sBT)) := rc_sound oneVar sB_fn sB_does

end Go.Proofs.YtgnndimefmcfoaaDoor
