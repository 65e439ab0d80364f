/- Roads through ArenaKeeps. -/
import Derived.Test.YthdglcimdnpccaaArC
import Derived.WalkKit
import Derived.ProofKit
import Derived.OpenShut
import Derived.ChangeOld
import Derived.Below
import Derived.SizedLaws
namespace Go.Proofs.Ythdglcimdnpccaa
open Go.Eng
open Go.ChangeShapes Go.WideShapes Go.ChangeAt Go.RowKit
set_option linter.unusedVariables false
set_option linter.unusedSimpArgs false
set_option maxRecDepth 100000
noncomputable def cfgK : Cfg := ⟨[]⟩
noncomputable def fsK : List FuncId := [3, 9, 10, 11, 12, 13, 14, 18, 22, 34, 35, 36, 37]
theorem fitK : Fit Try.prog cfgK fsK := ⟨by kernel_rfl, Cfg.ok_of (by kernel_rfl), by kernel_rfl⟩
/-- How many cells a block is to have. -/
def szK (l : List Int) (i : Nat) : Int := (IntKind.wrap .i64 ((Int.tmod (IntKind.wrap .i64 (l.getD i 0)) 16) + 1))
theorem awake08_told : Tells Try.prog 9 [] (bare Try.prog) (.bool true) := by
  refine Tells.of_tree (h := (bareK Try.prog)) fitK SoundC.no AgreeT.no (by kernel_rfl) rfl (show Ro (bare Try.prog) from Ro.bare) (n := 70) (d := 40) ?_
  kernel_rfl
noncomputable def rc_sprocketlaw08_awake : RC := ⟨[], fun avs => match avs with | [] => true | _ => false,
  fun N avs => match avs with | [] => ((.bool true), [], []) | _ => (.bool false, [], [])⟩
theorem rc_sprocketlaw08_awake_does : RcDoes Try.prog [] 9 rc_sprocketlaw08_awake := by
  intro vb avs args blks hv hs hp
  cases hv
  cases hs
  exact DoesC.bare noVars rfl awake08_told
noncomputable def kpT : RTab := fun f => match f with
  | 9 => some rc_sprocketlaw08_awake
  | 10 => some rc_arena_New
  | 11 => some rc_arena_Arena_Alloc
  | 12 => some rc_arena_Arena_Store
  | 13 => some rc_arena_Arena_Load
  | 14 => some rc_arena_Arena_Free
  | _ => none
def kpDom : List FuncId := [9, 10, 11, 12, 13, 14]
theorem kp_does : ∀ f rc, f ∈ kpDom → kpT f = some rc → RcDoes Try.prog [] f rc := by
  intro f rc hf hT
  simp only [kpDom, List.mem_cons, List.not_mem_nil, or_false] at hf
  rcases hf with rfl | rfl | rfl | rfl | rfl | rfl
  · cases hT; exact rc_sprocketlaw08_awake_does
  · cases hT; exact rc_arena_New_does
  · cases hT; exact rc_arena_Arena_Alloc_does
  · cases hT; exact rc_arena_Arena_Store_does
  · cases hT; exact rc_arena_Arena_Load_does
  · cases hT; exact rc_arena_Arena_Free_does
theorem kp_fn : ∀ f ∈ kpDom, FnOk Try.prog f := fun f hf => fitK.fnOk f (by
    have h0 : (kpDom.all fun f => fsK.contains f) = true := by kernel_rfl
    simpa using List.all_eq_true.1 h0 f hf)
theorem kp_sound : SoundC Try.prog (conC kpDom (rcE [] kpT)) := rc_sound noVars kp_fn kp_does
noncomputable def BK : Code := bodyOf Try.prog 3
theorem BK_is : Try.f3.body = some BK := by kernel_rfl
theorem BK_ok : okCode Try.prog.globals.size BK = true := by kernel_rfl
noncomputable abbrev KEV (c : Code) (s : KSt) (lv : List Nat) : Option (Ex × KSt) := evCK Try.prog cfgK (runK Try.prog cfgK fsK (conTk kpDom (rcK [] kpT)) 40 40) 40 c s (normC 1 lv)
theorem Kgo {lv_ : List Nat} {co_ : Code} {st_ s' : KSt} {x : Ex} {Q : Ex → St → Prop} {off : Nat} {l : List Int} {e : TypeId} (hE_ : KEV co_ st_ lv_ = some (x, s')) (hq_ : Q x s'.low) (hok_ : okCode Try.prog.globals.size co_ = true := by kernel_rfl) : Gets Try.prog (KH.low ⟨1, 1, [(0, 0, .tail off .u8 l e)]⟩) co_ st_.low Q := Gets.ofN fitK kp_sound (rc_agree _ _ _) 40 40 hok_ hE_ hq_
theorem KeX {v : Value} {b c : Bool} (h : v = .bool b) (hb : b = c) : v = .bool c := by rw [h, hb]
theorem KC : BK = .seq (codeAt [0] BK) (codeAt [1] BK) := by kernel_rfl
theorem KC1 : (codeAt [1] BK) = .seq (codeAt [1, 0] BK) (codeAt [1, 1] BK) := by kernel_rfl
theorem KC1_0 : (codeAt [1, 0] BK) = .seq (codeAt [1, 0, 0] BK) (codeAt [1, 0, 1] BK) := by kernel_rfl
theorem KC1_0_1 : (codeAt [1, 0, 1] BK) = .cond (.tmp 30) (codeAt [1, 0, 1, 0] BK) (codeAt [1, 0, 1, 1] BK) := by kernel_rfl
theorem KC1_0_1_0 : (codeAt [1, 0, 1, 0] BK) = .seq (codeAt [1, 0, 1, 0, 0] BK) (codeAt [1, 0, 1, 0, 1] BK) := by kernel_rfl
theorem KC1_0_1_0_1 : (codeAt [1, 0, 1, 0, 1] BK) = .ret := by kernel_rfl
theorem KC1_1 : (codeAt [1, 1] BK) = .seq (codeAt [1, 1, 0] BK) (codeAt [1, 1, 1] BK) := by kernel_rfl
theorem KC1_1_1 : (codeAt [1, 1, 1] BK) = .seq (codeAt [1, 1, 1, 0] BK) (codeAt [1, 1, 1, 1] BK) := by kernel_rfl
theorem KC1_1_1_1 : (codeAt [1, 1, 1, 1] BK) = .seq (codeAt [1, 1, 1, 1, 0] BK) (codeAt [1, 1, 1, 1, 1] BK) := by kernel_rfl
theorem KC1_1_1_1_0 : (codeAt [1, 1, 1, 1, 0] BK) = .seq (codeAt [1, 1, 1, 1, 0, 0] BK) (codeAt [1, 1, 1, 1, 0, 1] BK) := by kernel_rfl
theorem KC1_1_1_1_0_1_0_0 : (codeAt [1, 1, 1, 1, 0, 1, 0, 0] BK) = .seq (codeAt [1, 1, 1, 1, 0, 1, 0, 0, 0] BK) (codeAt [1, 1, 1, 1, 0, 1, 0, 0, 1] BK) := by kernel_rfl
theorem KC1_1_1_1_0_1_0_0_0 : (codeAt [1, 1, 1, 1, 0, 1, 0, 0, 0] BK) = .seq (codeAt [1, 1, 1, 1, 0, 1, 0, 0, 0, 0] BK) (codeAt [1, 1, 1, 1, 0, 1, 0, 0, 0, 1] BK) := by kernel_rfl
theorem KC1_1_1_1_0_1_0_0_0_1 : (codeAt [1, 1, 1, 1, 0, 1, 0, 0, 0, 1] BK) = .cond (.tmp 37) (codeAt [1, 1, 1, 1, 0, 1, 0, 0, 0, 1, 0] BK) (codeAt [1, 1, 1, 1, 0, 1, 0, 0, 0, 1, 1] BK) := by kernel_rfl
theorem KC1_1_1_1_0_1_0_0_1 : (codeAt [1, 1, 1, 1, 0, 1, 0, 0, 1] BK) = .seq (codeAt [1, 1, 1, 1, 0, 1, 0, 0, 1, 0] BK) (codeAt [1, 1, 1, 1, 0, 1, 0, 0, 1, 1] BK) := by kernel_rfl
theorem KC1_1_1_1_0_1_0_0_1_0 : (codeAt [1, 1, 1, 1, 0, 1, 0, 0, 1, 0] BK) = .block 1 (codeAt [1, 1, 1, 1, 0, 1, 0, 0, 1, 0, 0] BK) := by kernel_rfl
theorem KC1_1_1_1_0_1_0_0_0_1_1 : (codeAt [1, 1, 1, 1, 0, 1, 0, 0, 0, 1, 1] BK) = .exit 0 := by kernel_rfl
theorem KC1_1_1_1_1 : (codeAt [1, 1, 1, 1, 1] BK) = .seq (codeAt [1, 1, 1, 1, 1, 0] BK) (codeAt [1, 1, 1, 1, 1, 1] BK) := by kernel_rfl
theorem KC1_1_1_1_1_1 : (codeAt [1, 1, 1, 1, 1, 1] BK) = .seq (codeAt [1, 1, 1, 1, 1, 1, 0] BK) (codeAt [1, 1, 1, 1, 1, 1, 1] BK) := by kernel_rfl
theorem KC1_1_1_1_1_1_1 : (codeAt [1, 1, 1, 1, 1, 1, 1] BK) = .seq (codeAt [1, 1, 1, 1, 1, 1, 1, 0] BK) (codeAt [1, 1, 1, 1, 1, 1, 1, 1] BK) := by kernel_rfl
theorem KC1_1_1_1_1_1_1_1 : (codeAt [1, 1, 1, 1, 1, 1, 1, 1] BK) = .seq (codeAt [1, 1, 1, 1, 1, 1, 1, 1, 0] BK) (codeAt [1, 1, 1, 1, 1, 1, 1, 1, 1] BK) := by kernel_rfl
theorem KC1_1_1_1_1_1_1_1_0 : (codeAt [1, 1, 1, 1, 1, 1, 1, 1, 0] BK) = .seq (codeAt [1, 1, 1, 1, 1, 1, 1, 1, 0, 0] BK) (codeAt [1, 1, 1, 1, 1, 1, 1, 1, 0, 1] BK) := by kernel_rfl
theorem KC1_1_1_1_1_1_1_1_0_1 : (codeAt [1, 1, 1, 1, 1, 1, 1, 1, 0, 1] BK) = .cond (.tmp 78) (codeAt [1, 1, 1, 1, 1, 1, 1, 1, 0, 1, 0] BK) (codeAt [1, 1, 1, 1, 1, 1, 1, 1, 0, 1, 1] BK) := by kernel_rfl
theorem KC1_1_1_1_1_1_1_1_1 : (codeAt [1, 1, 1, 1, 1, 1, 1, 1, 1] BK) = .seq (codeAt [1, 1, 1, 1, 1, 1, 1, 1, 1, 0] BK) (codeAt [1, 1, 1, 1, 1, 1, 1, 1, 1, 1] BK) := by kernel_rfl
theorem KC1_1_1_1_1_1_1_1_1_1 : (codeAt [1, 1, 1, 1, 1, 1, 1, 1, 1, 1] BK) = .seq (codeAt [1, 1, 1, 1, 1, 1, 1, 1, 1, 1, 0] BK) (codeAt [1, 1, 1, 1, 1, 1, 1, 1, 1, 1, 1] BK) := by kernel_rfl
theorem KC1_1_1_1_1_1_1_1_1_1_0 : (codeAt [1, 1, 1, 1, 1, 1, 1, 1, 1, 1, 0] BK) = .seq (codeAt [1, 1, 1, 1, 1, 1, 1, 1, 1, 1, 0, 0] BK) (codeAt [1, 1, 1, 1, 1, 1, 1, 1, 1, 1, 0, 1] BK) := by kernel_rfl
theorem KC1_1_1_1_1_1_1_1_1_1_0_1_0_0 : (codeAt [1, 1, 1, 1, 1, 1, 1, 1, 1, 1, 0, 1, 0, 0] BK) = .seq (codeAt [1, 1, 1, 1, 1, 1, 1, 1, 1, 1, 0, 1, 0, 0, 0] BK) (codeAt [1, 1, 1, 1, 1, 1, 1, 1, 1, 1, 0, 1, 0, 0, 1] BK) := by kernel_rfl
theorem KC1_1_1_1_1_1_1_1_1_1_0_1_0_0_0 : (codeAt [1, 1, 1, 1, 1, 1, 1, 1, 1, 1, 0, 1, 0, 0, 0] BK) = .seq (codeAt [1, 1, 1, 1, 1, 1, 1, 1, 1, 1, 0, 1, 0, 0, 0, 0] BK) (codeAt [1, 1, 1, 1, 1, 1, 1, 1, 1, 1, 0, 1, 0, 0, 0, 1] BK) := by kernel_rfl
theorem KC1_1_1_1_1_1_1_1_1_1_0_1_0_0_0_1 : (codeAt [1, 1, 1, 1, 1, 1, 1, 1, 1, 1, 0, 1, 0, 0, 0, 1] BK) = .cond (.tmp 88) (codeAt [1, 1, 1, 1, 1, 1, 1, 1, 1, 1, 0, 1, 0, 0, 0, 1, 0] BK) (codeAt [1, 1, 1, 1, 1, 1, 1, 1, 1, 1, 0, 1, 0, 0, 0, 1, 1] BK) := by kernel_rfl
theorem KC1_1_1_1_1_1_1_1_1_1_0_1_0_0_1 : (codeAt [1, 1, 1, 1, 1, 1, 1, 1, 1, 1, 0, 1, 0, 0, 1] BK) = .seq (codeAt [1, 1, 1, 1, 1, 1, 1, 1, 1, 1, 0, 1, 0, 0, 1, 0] BK) (codeAt [1, 1, 1, 1, 1, 1, 1, 1, 1, 1, 0, 1, 0, 0, 1, 1] BK) := by kernel_rfl
theorem KC1_1_1_1_1_1_1_1_1_1_0_1_0_0_1_0 : (codeAt [1, 1, 1, 1, 1, 1, 1, 1, 1, 1, 0, 1, 0, 0, 1, 0] BK) = .block 3 (codeAt [1, 1, 1, 1, 1, 1, 1, 1, 1, 1, 0, 1, 0, 0, 1, 0, 0] BK) := by kernel_rfl
theorem KC1_1_1_1_1_1_1_1_1_1_0_1_0_0_1_0_0 : (codeAt [1, 1, 1, 1, 1, 1, 1, 1, 1, 1, 0, 1, 0, 0, 1, 0, 0] BK) = .seq (codeAt [1, 1, 1, 1, 1, 1, 1, 1, 1, 1, 0, 1, 0, 0, 1, 0, 0, 0] BK) (codeAt [1, 1, 1, 1, 1, 1, 1, 1, 1, 1, 0, 1, 0, 0, 1, 0, 0, 1] BK) := by kernel_rfl
theorem KC1_1_1_1_1_1_1_1_1_1_0_1_0_0_0_1_1 : (codeAt [1, 1, 1, 1, 1, 1, 1, 1, 1, 1, 0, 1, 0, 0, 0, 1, 1] BK) = .exit 2 := by kernel_rfl
theorem KC1_1_1_1_1_1_1_1_1_1_0_1_0_0_1_0_0_1_0_0 : (codeAt [1, 1, 1, 1, 1, 1, 1, 1, 1, 1, 0, 1, 0, 0, 1, 0, 0, 1, 0, 0] BK) = .seq (codeAt [1, 1, 1, 1, 1, 1, 1, 1, 1, 1, 0, 1, 0, 0, 1, 0, 0, 1, 0, 0, 0] BK) (codeAt [1, 1, 1, 1, 1, 1, 1, 1, 1, 1, 0, 1, 0, 0, 1, 0, 0, 1, 0, 0, 1] BK) := by kernel_rfl
theorem KC1_1_1_1_1_1_1_1_1_1_0_1_0_0_1_0_0_1_0_0_0 : (codeAt [1, 1, 1, 1, 1, 1, 1, 1, 1, 1, 0, 1, 0, 0, 1, 0, 0, 1, 0, 0, 0] BK) = .seq (codeAt [1, 1, 1, 1, 1, 1, 1, 1, 1, 1, 0, 1, 0, 0, 1, 0, 0, 1, 0, 0, 0, 0] BK) (codeAt [1, 1, 1, 1, 1, 1, 1, 1, 1, 1, 0, 1, 0, 0, 1, 0, 0, 1, 0, 0, 0, 1] BK) := by kernel_rfl
theorem KC1_1_1_1_1_1_1_1_1_1_0_1_0_0_1_0_0_1_0_0_0_1 : (codeAt [1, 1, 1, 1, 1, 1, 1, 1, 1, 1, 0, 1, 0, 0, 1, 0, 0, 1, 0, 0, 0, 1] BK) = .cond (.tmp 99) (codeAt [1, 1, 1, 1, 1, 1, 1, 1, 1, 1, 0, 1, 0, 0, 1, 0, 0, 1, 0, 0, 0, 1, 0] BK) (codeAt [1, 1, 1, 1, 1, 1, 1, 1, 1, 1, 0, 1, 0, 0, 1, 0, 0, 1, 0, 0, 0, 1, 1] BK) := by kernel_rfl
theorem KC1_1_1_1_1_1_1_1_1_1_0_1_0_0_1_0_0_1_0_0_1 : (codeAt [1, 1, 1, 1, 1, 1, 1, 1, 1, 1, 0, 1, 0, 0, 1, 0, 0, 1, 0, 0, 1] BK) = .seq (codeAt [1, 1, 1, 1, 1, 1, 1, 1, 1, 1, 0, 1, 0, 0, 1, 0, 0, 1, 0, 0, 1, 0] BK) (codeAt [1, 1, 1, 1, 1, 1, 1, 1, 1, 1, 0, 1, 0, 0, 1, 0, 0, 1, 0, 0, 1, 1] BK) := by kernel_rfl
theorem KC1_1_1_1_1_1_1_1_1_1_0_1_0_0_1_0_0_1_0_0_1_0 : (codeAt [1, 1, 1, 1, 1, 1, 1, 1, 1, 1, 0, 1, 0, 0, 1, 0, 0, 1, 0, 0, 1, 0] BK) = .block 5 (codeAt [1, 1, 1, 1, 1, 1, 1, 1, 1, 1, 0, 1, 0, 0, 1, 0, 0, 1, 0, 0, 1, 0, 0] BK) := by kernel_rfl
theorem KC1_1_1_1_1_1_1_1_1_1_0_1_0_0_1_0_0_1_0_0_1_0_0 : (codeAt [1, 1, 1, 1, 1, 1, 1, 1, 1, 1, 0, 1, 0, 0, 1, 0, 0, 1, 0, 0, 1, 0, 0] BK) = .seq (codeAt [1, 1, 1, 1, 1, 1, 1, 1, 1, 1, 0, 1, 0, 0, 1, 0, 0, 1, 0, 0, 1, 0, 0, 0] BK) (codeAt [1, 1, 1, 1, 1, 1, 1, 1, 1, 1, 0, 1, 0, 0, 1, 0, 0, 1, 0, 0, 1, 0, 0, 1] BK) := by kernel_rfl
theorem KC1_1_1_1_1_1_1_1_1_1_0_1_0_0_1_0_0_1_0_0_1_0_0_1 : (codeAt [1, 1, 1, 1, 1, 1, 1, 1, 1, 1, 0, 1, 0, 0, 1, 0, 0, 1, 0, 0, 1, 0, 0, 1] BK) = .seq (codeAt [1, 1, 1, 1, 1, 1, 1, 1, 1, 1, 0, 1, 0, 0, 1, 0, 0, 1, 0, 0, 1, 0, 0, 1, 0] BK) (codeAt [1, 1, 1, 1, 1, 1, 1, 1, 1, 1, 0, 1, 0, 0, 1, 0, 0, 1, 0, 0, 1, 0, 0, 1, 1] BK) := by kernel_rfl
theorem KC1_1_1_1_1_1_1_1_1_1_0_1_0_0_1_0_0_1_0_0_1_0_0_1_1 : (codeAt [1, 1, 1, 1, 1, 1, 1, 1, 1, 1, 0, 1, 0, 0, 1, 0, 0, 1, 0, 0, 1, 0, 0, 1, 1] BK) = .cond (.tmp 142) (codeAt [1, 1, 1, 1, 1, 1, 1, 1, 1, 1, 0, 1, 0, 0, 1, 0, 0, 1, 0, 0, 1, 0, 0, 1, 1, 0] BK) (codeAt [1, 1, 1, 1, 1, 1, 1, 1, 1, 1, 0, 1, 0, 0, 1, 0, 0, 1, 0, 0, 1, 0, 0, 1, 1, 1] BK) := by kernel_rfl
theorem KC1_1_1_1_1_1_1_1_1_1_0_1_0_0_1_0_0_1_0_0_0_1_1 : (codeAt [1, 1, 1, 1, 1, 1, 1, 1, 1, 1, 0, 1, 0, 0, 1, 0, 0, 1, 0, 0, 0, 1, 1] BK) = .exit 4 := by kernel_rfl
theorem KC1_1_1_1_1_1_1_1_1_1_1 : (codeAt [1, 1, 1, 1, 1, 1, 1, 1, 1, 1, 1] BK) = .seq (codeAt [1, 1, 1, 1, 1, 1, 1, 1, 1, 1, 1, 0] BK) (codeAt [1, 1, 1, 1, 1, 1, 1, 1, 1, 1, 1, 1] BK) := by kernel_rfl
theorem KC1_1_1_1_1_1_1_1_1_1_1_0 : (codeAt [1, 1, 1, 1, 1, 1, 1, 1, 1, 1, 1, 0] BK) = .seq (codeAt [1, 1, 1, 1, 1, 1, 1, 1, 1, 1, 1, 0, 0] BK) (codeAt [1, 1, 1, 1, 1, 1, 1, 1, 1, 1, 1, 0, 1] BK) := by kernel_rfl
theorem KC1_1_1_1_1_1_1_1_1_1_1_0_1 : (codeAt [1, 1, 1, 1, 1, 1, 1, 1, 1, 1, 1, 0, 1] BK) = .cond (.tmp 158) (codeAt [1, 1, 1, 1, 1, 1, 1, 1, 1, 1, 1, 0, 1, 0] BK) (codeAt [1, 1, 1, 1, 1, 1, 1, 1, 1, 1, 1, 0, 1, 1] BK) := by kernel_rfl
theorem KC1_1_1_1_1_1_1_1_1_1_1_1 : (codeAt [1, 1, 1, 1, 1, 1, 1, 1, 1, 1, 1, 1] BK) = .seq (codeAt [1, 1, 1, 1, 1, 1, 1, 1, 1, 1, 1, 1, 0] BK) (codeAt [1, 1, 1, 1, 1, 1, 1, 1, 1, 1, 1, 1, 1] BK) := by kernel_rfl
theorem KC1_1_1_1_1_1_1_1_1_1_1_1_1 : (codeAt [1, 1, 1, 1, 1, 1, 1, 1, 1, 1, 1, 1, 1] BK) = .seq (codeAt [1, 1, 1, 1, 1, 1, 1, 1, 1, 1, 1, 1, 1, 0] BK) (codeAt [1, 1, 1, 1, 1, 1, 1, 1, 1, 1, 1, 1, 1, 1] BK) := by kernel_rfl
theorem KC1_1_1_1_1_1_1_1_1_1_1_1_1_1 : (codeAt [1, 1, 1, 1, 1, 1, 1, 1, 1, 1, 1, 1, 1, 1] BK) = .seq (codeAt [1, 1, 1, 1, 1, 1, 1, 1, 1, 1, 1, 1, 1, 1, 0] BK) (codeAt [1, 1, 1, 1, 1, 1, 1, 1, 1, 1, 1, 1, 1, 1, 1] BK) := by kernel_rfl
theorem KC1_1_1_1_1_1_1_1_1_1_1_1_1_1_1 : (codeAt [1, 1, 1, 1, 1, 1, 1, 1, 1, 1, 1, 1, 1, 1, 1] BK) = .seq (codeAt [1, 1, 1, 1, 1, 1, 1, 1, 1, 1, 1, 1, 1, 1, 1, 0] BK) (codeAt [1, 1, 1, 1, 1, 1, 1, 1, 1, 1, 1, 1, 1, 1, 1, 1] BK) := by kernel_rfl
theorem KC1_1_1_1_1_1_1_1_1_1_1_1_1_1_1_0 : (codeAt [1, 1, 1, 1, 1, 1, 1, 1, 1, 1, 1, 1, 1, 1, 1, 0] BK) = .seq (codeAt [1, 1, 1, 1, 1, 1, 1, 1, 1, 1, 1, 1, 1, 1, 1, 0, 0] BK) (codeAt [1, 1, 1, 1, 1, 1, 1, 1, 1, 1, 1, 1, 1, 1, 1, 0, 1] BK) := by kernel_rfl
theorem KC1_1_1_1_1_1_1_1_1_1_1_1_1_1_1_0_1 : (codeAt [1, 1, 1, 1, 1, 1, 1, 1, 1, 1, 1, 1, 1, 1, 1, 0, 1] BK) = .cond (.tmp 198) (codeAt [1, 1, 1, 1, 1, 1, 1, 1, 1, 1, 1, 1, 1, 1, 1, 0, 1, 0] BK) (codeAt [1, 1, 1, 1, 1, 1, 1, 1, 1, 1, 1, 1, 1, 1, 1, 0, 1, 1] BK) := by kernel_rfl
theorem KC1_1_1_1_1_1_1_1_1_1_1_1_1_1_1_1 : (codeAt [1, 1, 1, 1, 1, 1, 1, 1, 1, 1, 1, 1, 1, 1, 1, 1] BK) = .seq (codeAt [1, 1, 1, 1, 1, 1, 1, 1, 1, 1, 1, 1, 1, 1, 1, 1, 0] BK) (codeAt [1, 1, 1, 1, 1, 1, 1, 1, 1, 1, 1, 1, 1, 1, 1, 1, 1] BK) := by kernel_rfl
theorem KC1_1_1_1_1_1_1_1_1_1_1_1_1_1_1_1_1 : (codeAt [1, 1, 1, 1, 1, 1, 1, 1, 1, 1, 1, 1, 1, 1, 1, 1, 1] BK) = .ret := by kernel_rfl
theorem KC1_1_1_1_0_1 : (codeAt [1, 1, 1, 1, 0, 1] BK) = .block 0 (codeAt [1, 1, 1, 1, 0, 1, 0] BK) := by kernel_rfl
theorem KC1_1_1_1_0_1_0 : (codeAt [1, 1, 1, 1, 0, 1, 0] BK) = .loop (codeAt [1, 1, 1, 1, 0, 1, 0, 0] BK) := by kernel_rfl
theorem KC1_1_1_1_1_1_1_1_1_1_0_1 : (codeAt [1, 1, 1, 1, 1, 1, 1, 1, 1, 1, 0, 1] BK) = .block 2 (codeAt [1, 1, 1, 1, 1, 1, 1, 1, 1, 1, 0, 1, 0] BK) := by kernel_rfl
theorem KC1_1_1_1_1_1_1_1_1_1_0_1_0 : (codeAt [1, 1, 1, 1, 1, 1, 1, 1, 1, 1, 0, 1, 0] BK) = .loop (codeAt [1, 1, 1, 1, 1, 1, 1, 1, 1, 1, 0, 1, 0, 0] BK) := by kernel_rfl
theorem KC1_1_1_1_1_1_1_1_1_1_0_1_0_0_1_0_0_1 : (codeAt [1, 1, 1, 1, 1, 1, 1, 1, 1, 1, 0, 1, 0, 0, 1, 0, 0, 1] BK) = .block 4 (codeAt [1, 1, 1, 1, 1, 1, 1, 1, 1, 1, 0, 1, 0, 0, 1, 0, 0, 1, 0] BK) := by kernel_rfl
theorem KC1_1_1_1_1_1_1_1_1_1_0_1_0_0_1_0_0_1_0 : (codeAt [1, 1, 1, 1, 1, 1, 1, 1, 1, 1, 0, 1, 0, 0, 1, 0, 0, 1, 0] BK) = .loop (codeAt [1, 1, 1, 1, 1, 1, 1, 1, 1, 1, 0, 1, 0, 0, 1, 0, 0, 1, 0, 0] BK) := by kernel_rfl
noncomputable def KS0 (off : Nat) (n : Nat) (c : Nat) (x0 : Int) (x1 : Int) (x2 : Int) (v : Int) (l : List Int) (e : TypeId) : KSt := (firstK [(.slice (some ⟨0, off, none⟩) n c), (.agg #[(.int .u8 x0), (.int .u8 x1), (.int .u8 x2)]), (.int .u64 v)] 223 ⟨1, 1, [(0, 0, .tail off .u8 l e)]⟩)
noncomputable def KS1 (off : Nat) (n : Nat) (c : Nat) (v : Int) (x0 : Int) (x1 : Int) (x2 : Int) (l : List Int) (e : TypeId) : KSt := ⟨(frameL 223 [(0, (.slice (some ⟨0, off, none⟩) n c)), (2, (.int .u64 v)), (4, (.pointer (some ⟨1, 0, none⟩)))]), ⟨2, 1, [(1, 0, .cells [(.int .u8 x0), (.int .u8 x1), (.int .u8 x2)] 23 true), (0, 0, .tail off .u8 l e)]⟩⟩
theorem KR1 (off : Nat) (n : Nat) (c : Nat) (x0 : Int) (x1 : Int) (x2 : Int) (v : Int) (l : List Int) (e : TypeId) : KEV (codeAt [0] BK) (KS0 off n c x0 x1 x2 v l e) [0, 2, 4] =
  some (.normal, (KS1 off n c v x0 x1 x2 l e)) := by kernel_rfl
noncomputable def KS2 (off : Nat) (n : Nat) (c : Nat) (v : Int) (x0 : Int) (x1 : Int) (x2 : Int) (l : List Int) (e : TypeId) : KSt := ⟨(frameL 223 [(0, (.slice (some ⟨0, off, none⟩) n c)), (2, (.int .u64 v)), (4, (.pointer (some ⟨1, 0, none⟩))), (30, (.bool true))]), ⟨2, 1, [(1, 0, .cells [(.int .u8 x0), (.int .u8 x1), (.int .u8 x2)] 23 true), (0, 0, .tail off .u8 l e)]⟩⟩
noncomputable def KS3 (off : Nat) (n : Nat) (c : Nat) (v : Int) (x0 : Int) (x1 : Int) (x2 : Int) (l : List Int) (e : TypeId) : KSt := ⟨(frameL 223 [(0, (.slice (some ⟨0, off, none⟩) n c)), (2, (.int .u64 v)), (4, (.pointer (some ⟨1, 0, none⟩))), (30, (.bool (decide (((n : Nat) : Int) > 20))))]), ⟨2, 1, [(1, 0, .cells [(.int .u8 x0), (.int .u8 x1), (.int .u8 x2)] 23 true), (0, 0, .tail off .u8 l e)]⟩⟩
theorem KR2 (off : Nat) (n : Nat) (c : Nat) (v : Int) (x0 : Int) (x1 : Int) (x2 : Int) (l : List Int) (e : TypeId) : KEV (codeAt [1, 0, 0] BK) (KS1 off n c v x0 x1 x2 l e) [0, 2, 4, 30] =
  bif (((n : Nat) : Int) == 0) then
    some (.normal, (KS2 off n c v x0 x1 x2 l e))
  else
    some (.normal, (KS3 off n c v x0 x1 x2 l e)) := by kernel_rfl
noncomputable def KS4 (off : Nat) (l : List Int) (e : TypeId) : KSt := ⟨(frameL 223 [(6, (.bool true))]), ⟨1, 1, [(0, 0, .tail off .u8 l e)]⟩⟩
theorem KR3 (off : Nat) (n : Nat) (c : Nat) (v : Int) (x0 : Int) (x1 : Int) (x2 : Int) (l : List Int) (e : TypeId) : KEV (codeAt [1, 0, 1, 0, 0] BK) (KS3 off n c v x0 x1 x2 l e) [6] =
  some (.normal, (KS4 off l e)) := by kernel_rfl
theorem KR4 (off : Nat) (n : Nat) (c : Nat) (v : Int) (x0 : Int) (x1 : Int) (x2 : Int) (l : List Int) (e : TypeId) : KEV (codeAt [1, 0, 1, 0, 0] BK) (KS2 off n c v x0 x1 x2 l e) [6] =
  some (.normal, (KS4 off l e)) := by kernel_rfl
theorem KR5 (off : Nat) (n : Nat) (c : Nat) (v : Int) (x0 : Int) (x1 : Int) (x2 : Int) (l : List Int) (e : TypeId) : KEV (codeAt [1, 0, 1, 1] BK) (KS3 off n c v x0 x1 x2 l e) [0, 2, 4] =
  some (.normal, (KS1 off n c v x0 x1 x2 l e)) := by kernel_rfl
noncomputable def KS5 (off : Nat) (n : Nat) (c : Nat) (v : Int) (x0 : Int) (x1 : Int) (x2 : Int) (l : List Int) (e : TypeId) : KSt := ⟨(frameL 223 [(0, (.slice (some ⟨0, off, none⟩) n c)), (2, (.int .u64 v)), (4, (.pointer (some ⟨1, 0, none⟩))), (7, (.pointer (some ⟨2, 0, none⟩)))]), ⟨3, 1, [(2, 0, .mach (.arena (ArSt.mk 10000 0 0 0 []))), (1, 0, .cells [(.int .u8 x0), (.int .u8 x1), (.int .u8 x2)] 23 true), (0, 0, .tail off .u8 l e)]⟩⟩
theorem KR6 (off : Nat) (n : Nat) (c : Nat) (v : Int) (x0 : Int) (x1 : Int) (x2 : Int) (l : List Int) (e : TypeId) : KEV (codeAt [1, 1, 0] BK) (KS1 off n c v x0 x1 x2 l e) [0, 2, 4, 7] =
  bif ((decide (1 ≤ 10000)) && (decide (10000 ≤ 65536))) then
    some (.normal, (KS5 off n c v x0 x1 x2 l e))
  else
    none := by kernel_rfl
noncomputable def KS6 (off : Nat) (n : Nat) (c : Nat) (v : Int) (x0 : Int) (x1 : Int) (x2 : Int) (l : List Int) (e : TypeId) : KSt := ⟨(frameL 223 [(0, (.slice (some ⟨0, off, none⟩) n c)), (2, (.int .u64 v)), (4, (.pointer (some ⟨1, 0, none⟩))), (7, (.pointer (some ⟨2, 0, none⟩))), (8, (.slice (some ⟨3, 0, none⟩) 0 0))]), ⟨4, 1, [(3, 0, .cells [] 24 true), (2, 0, .mach (.arena (ArSt.mk 10000 0 0 0 []))), (1, 0, .cells [(.int .u8 x0), (.int .u8 x1), (.int .u8 x2)] 23 true), (0, 0, .tail off .u8 l e)]⟩⟩
theorem KR7 (off : Nat) (n : Nat) (c : Nat) (v : Int) (x0 : Int) (x1 : Int) (x2 : Int) (l : List Int) (e : TypeId) : KEV (codeAt [1, 1, 1, 0] BK) (KS5 off n c v x0 x1 x2 l e) [0, 2, 4, 7, 8] =
  some (.normal, (KS6 off n c v x0 x1 x2 l e)) := by kernel_rfl
noncomputable def KS7 (off : Nat) (n : Nat) (c : Nat) (v : Int) (x0 : Int) (x1 : Int) (x2 : Int) (l : List Int) (e : TypeId) : KSt := ⟨(frameL 223 [(0, (.slice (some ⟨0, off, none⟩) n c)), (2, (.int .u64 v)), (4, (.pointer (some ⟨1, 0, none⟩))), (7, (.pointer (some ⟨2, 0, none⟩))), (8, (.slice (some ⟨3, 0, none⟩) 0 0)), (9, (.int .i64 0))]), ⟨4, 1, [(3, 0, .cells [] 24 true), (2, 0, .mach (.arena (ArSt.mk 10000 0 0 0 []))), (1, 0, .cells [(.int .u8 x0), (.int .u8 x1), (.int .u8 x2)] 23 true), (0, 0, .tail off .u8 l e)]⟩⟩
theorem KR8 (off : Nat) (n : Nat) (c : Nat) (v : Int) (x0 : Int) (x1 : Int) (x2 : Int) (l : List Int) (e : TypeId) : KEV (codeAt [1, 1, 1, 1, 0, 0] BK) (KS6 off n c v x0 x1 x2 l e) [0, 2, 4, 7, 8, 9] =
  some (.normal, (KS7 off n c v x0 x1 x2 l e)) := by kernel_rfl
noncomputable def KS8 (off : Nat) (n : Nat) (c : Nat) (v : Int) (x0 : Int) (x1 : Int) (x2 : Int) (l : List Int) (e : TypeId) : KSt := ⟨(frameL 223 [(0, (.slice (some ⟨0, off, none⟩) n c)), (2, (.int .u64 v)), (4, (.pointer (some ⟨1, 0, none⟩))), (7, (.pointer (some ⟨2, 0, none⟩))), (8, (.slice (some ⟨3, 0, none⟩) 0 0)), (9, (.int .i64 0)), (37, (.bool (decide (0 < ((n : Nat) : Int)))))]), ⟨4, 1, [(3, 0, .cells [] 24 true), (2, 0, .mach (.arena (ArSt.mk 10000 0 0 0 []))), (1, 0, .cells [(.int .u8 x0), (.int .u8 x1), (.int .u8 x2)] 23 true), (0, 0, .tail off .u8 l e)]⟩⟩
theorem KR9 (off : Nat) (n : Nat) (c : Nat) (v : Int) (x0 : Int) (x1 : Int) (x2 : Int) (l : List Int) (e : TypeId) : KEV (codeAt [1, 1, 1, 1, 0, 1, 0, 0, 0, 0] BK) (KS7 off n c v x0 x1 x2 l e) [0, 2, 4, 7, 8, 9, 37] =
  some (.normal, (KS8 off n c v x0 x1 x2 l e)) := by kernel_rfl
theorem KR10 (off : Nat) (n : Nat) (c : Nat) (v : Int) (x0 : Int) (x1 : Int) (x2 : Int) (l : List Int) (e : TypeId) : KEV (codeAt [1, 1, 1, 1, 0, 1, 0, 0, 0, 1, 0] BK) (KS8 off n c v x0 x1 x2 l e) [0, 2, 4, 7, 8, 9] =
  some (.normal, (KS7 off n c v x0 x1 x2 l e)) := by kernel_rfl
noncomputable def KS9 (off : Nat) (n : Nat) (c : Nat) (v : Int) (n1 : Int) (x0 : Int) (x1 : Int) (x2 : Int) (l : List Int) (e : TypeId) : KSt := ⟨(frameL 223 [(0, (.slice (some ⟨0, off, none⟩) n c)), (2, (.int .u64 v)), (4, (.pointer (some ⟨1, 0, none⟩))), (7, (.pointer (some ⟨2, 0, none⟩))), (8, (.slice (some ⟨3, 0, none⟩) 1 1)), (9, (.int .i64 0))]), ⟨4, 1, [(3, 0, .cells [(.int .u64 (ArSt.allocV (ArSt.mk 10000 0 0 0 []) (IntKind.wrap .i64 ((Int.tmod (IntKind.wrap .i64 n1) 16) + 1))))] 24 true), (2, 0, .mach (.arena (ArSt.alloc (ArSt.mk 10000 0 0 0 []) (IntKind.wrap .i64 ((Int.tmod (IntKind.wrap .i64 n1) 16) + 1))))), (1, 0, .cells [(.int .u8 x0), (.int .u8 x1), (.int .u8 x2)] 23 true), (0, 0, .tail off .u8 l e)]⟩⟩
theorem KR11 (off : Nat) (n : Nat) (c : Nat) (v : Int) (x0 : Int) (x1 : Int) (x2 : Int) (l : List Int) (e : TypeId) : KEV (codeAt [1, 1, 1, 1, 0, 1, 0, 0, 1, 0, 0] BK) (KS7 off n c v x0 x1 x2 l e) [0, 2, 4, 7, 8, 9] =
  if (0 : Int) ≤ 0 ∧ 0 < ((n : Nat) : Int) then
    bif (Nat.ble off (off + 0)) then
      obind (l[((off + 0) - off)]?) fun n1 =>
        some (.normal, (KS9 off n c v n1 x0 x1 x2 l e))
    else
      none
  else
    none := by kernel_rfl
noncomputable def KS10 (off : Nat) (n : Nat) (c : Nat) (v : Int) (l : List Int) (x0 : Int) (x1 : Int) (x2 : Int) (e : TypeId) : KSt := ⟨(frameL 223 [(0, (.slice (some ⟨0, off, none⟩) n c)), (2, (.int .u64 v)), (4, (.pointer (some ⟨1, 0, none⟩))), (7, (.pointer (some ⟨2, 0, none⟩))), (8, (.slice (some ⟨3, 0, none⟩) 1 1)), (9, (.int .i64 0))]), ⟨4, 1, [(3, 0, .cells [(.int .u64 (ArSt.allocV (ArSt.mk 10000 0 0 0 []) (szK l 0)))] 24 true), (2, 0, .mach (.arena (ArSt.alloc (ArSt.mk 10000 0 0 0 []) (szK l 0)))), (1, 0, .cells [(.int .u8 x0), (.int .u8 x1), (.int .u8 x2)] 23 true), (0, 0, .tail off .u8 l e)]⟩⟩
noncomputable def KS11 (off : Nat) (n : Nat) (c : Nat) (v : Int) (l : List Int) (x0 : Int) (x1 : Int) (x2 : Int) (e : TypeId) : KSt := ⟨(frameL 223 [(0, (.slice (some ⟨0, off, none⟩) n c)), (2, (.int .u64 v)), (4, (.pointer (some ⟨1, 0, none⟩))), (7, (.pointer (some ⟨2, 0, none⟩))), (8, (.slice (some ⟨3, 0, none⟩) 1 1)), (9, (.int .i64 0))]), ⟨4, 1, [(3, 0, .cells [(.int .u64 (ArSt.allocV (ArSt.mk 10000 0 0 0 []) (IntKind.wrap .i64 ((Int.tmod (IntKind.wrap .i64 (l.getD 0 0)) 16) + 1))))] 24 true), (2, 0, .mach (.arena (ArSt.alloc (ArSt.mk 10000 0 0 0 []) (IntKind.wrap .i64 ((Int.tmod (IntKind.wrap .i64 (l.getD 0 0)) 16) + 1))))), (1, 0, .cells [(.int .u8 x0), (.int .u8 x1), (.int .u8 x2)] 23 true), (0, 0, .tail off .u8 l e)]⟩⟩
noncomputable def KS12 (off : Nat) (n : Nat) (c : Nat) (v : Int) (l : List Int) (x0 : Int) (x1 : Int) (x2 : Int) (e : TypeId) : KSt := ⟨(frameL 223 [(0, (.slice (some ⟨0, off, none⟩) n c)), (2, (.int .u64 v)), (4, (.pointer (some ⟨1, 0, none⟩))), (7, (.pointer (some ⟨2, 0, none⟩))), (8, (.slice (some ⟨3, 0, none⟩) 1 1)), (9, (.int .i64 1))]), ⟨4, 1, [(3, 0, .cells [(.int .u64 (ArSt.allocV (ArSt.mk 10000 0 0 0 []) (szK l 0)))] 24 true), (2, 0, .mach (.arena (ArSt.alloc (ArSt.mk 10000 0 0 0 []) (szK l 0)))), (1, 0, .cells [(.int .u8 x0), (.int .u8 x1), (.int .u8 x2)] 23 true), (0, 0, .tail off .u8 l e)]⟩⟩
theorem KR12 (off : Nat) (n : Nat) (c : Nat) (v : Int) (l : List Int) (x0 : Int) (x1 : Int) (x2 : Int) (e : TypeId) : KEV (codeAt [1, 1, 1, 1, 0, 1, 0, 0, 1, 1] BK) (KS10 off n c v l x0 x1 x2 e) [0, 2, 4, 7, 8, 9] =
  some (.normal, (KS12 off n c v l x0 x1 x2 e)) := by kernel_rfl
noncomputable def KS13 (off : Nat) (n : Nat) (c : Nat) (v : Int) (m : Nat) (q : List Int) (S : ArSt) (x0 : Int) (x1 : Int) (x2 : Int) (l : List Int) (e : TypeId) : KSt := ⟨(frameL 223 [(0, (.slice (some ⟨0, off, none⟩) n c)), (2, (.int .u64 v)), (4, (.pointer (some ⟨1, 0, none⟩))), (7, (.pointer (some ⟨2, 0, none⟩))), (8, (.slice (some ⟨3, 0, none⟩) m m)), (9, (.int .i64 ((m : Nat) : Int)))]), ⟨4, 1, [(3, 0, .ints .u64 q 24 true), (2, 0, .mach (.arena S)), (1, 0, .cells [(.int .u8 x0), (.int .u8 x1), (.int .u8 x2)] 23 true), (0, 0, .tail off .u8 l e)]⟩⟩
noncomputable def KS14 (off : Nat) (n : Nat) (c : Nat) (v : Int) (m : Nat) (q : List Int) (S : ArSt) (x0 : Int) (x1 : Int) (x2 : Int) (l : List Int) (e : TypeId) : KSt := ⟨(frameL 223 [(0, (.slice (some ⟨0, off, none⟩) n c)), (2, (.int .u64 v)), (4, (.pointer (some ⟨1, 0, none⟩))), (7, (.pointer (some ⟨2, 0, none⟩))), (8, (.slice (some ⟨3, 0, none⟩) m m)), (9, (.int .i64 ((m : Nat) : Int))), (37, (.bool (decide (((m : Nat) : Int) < ((n : Nat) : Int)))))]), ⟨4, 1, [(3, 0, .ints .u64 q 24 true), (2, 0, .mach (.arena S)), (1, 0, .cells [(.int .u8 x0), (.int .u8 x1), (.int .u8 x2)] 23 true), (0, 0, .tail off .u8 l e)]⟩⟩
theorem KR13 (off : Nat) (n : Nat) (c : Nat) (v : Int) (m : Nat) (q : List Int) (S : ArSt) (x0 : Int) (x1 : Int) (x2 : Int) (l : List Int) (e : TypeId) : KEV (codeAt [1, 1, 1, 1, 0, 1, 0, 0, 0, 0] BK) (KS13 off n c v m q S x0 x1 x2 l e) [0, 2, 4, 7, 8, 9, 37] =
  some (.normal, (KS14 off n c v m q S x0 x1 x2 l e)) := by kernel_rfl
theorem KR14 (off : Nat) (n : Nat) (c : Nat) (v : Int) (m : Nat) (q : List Int) (S : ArSt) (x0 : Int) (x1 : Int) (x2 : Int) (l : List Int) (e : TypeId) : KEV (codeAt [1, 1, 1, 1, 0, 1, 0, 0, 0, 1, 0] BK) (KS14 off n c v m q S x0 x1 x2 l e) [0, 2, 4, 7, 8, 9] =
  some (.normal, (KS13 off n c v m q S x0 x1 x2 l e)) := by kernel_rfl
noncomputable def KS15 (off : Nat) (n : Nat) (c : Nat) (v : Int) (m : Nat) (q : List Int) (S : ArSt) (n1 : Int) (x0 : Int) (x1 : Int) (x2 : Int) (l : List Int) (e : TypeId) : KSt := ⟨(frameL 223 [(0, (.slice (some ⟨0, off, none⟩) n c)), (2, (.int .u64 v)), (4, (.pointer (some ⟨1, 0, none⟩))), (7, (.pointer (some ⟨2, 0, none⟩))), (8, (.slice (some ⟨3, 0, none⟩) (m + 1) m)), (9, (.int .i64 ((m : Nat) : Int)))]), ⟨4, 1, [(3, 0, .ints .u64 (List.take (0 + m) q ++ [(ArSt.allocV S (IntKind.wrap .i64 ((Int.tmod (IntKind.wrap .i64 n1) 16) + 1)))] ++ List.drop ((0 + m) + (List.length [(ArSt.allocV S (IntKind.wrap .i64 ((Int.tmod (IntKind.wrap .i64 n1) 16) + 1)))])) q) 24 true), (2, 0, .mach (.arena (ArSt.alloc S (IntKind.wrap .i64 ((Int.tmod (IntKind.wrap .i64 n1) 16) + 1))))), (1, 0, .cells [(.int .u8 x0), (.int .u8 x1), (.int .u8 x2)] 23 true), (0, 0, .tail off .u8 l e)]⟩⟩
noncomputable def KS16 (off : Nat) (n : Nat) (c : Nat) (v : Int) (m : Nat) (S : ArSt) (n1 : Int) (x0 : Int) (x1 : Int) (x2 : Int) (l : List Int) (e : TypeId) : KSt := ⟨(frameL 223 [(0, (.slice (some ⟨0, off, none⟩) n c)), (2, (.int .u64 v)), (4, (.pointer (some ⟨1, 0, none⟩))), (7, (.pointer (some ⟨2, 0, none⟩))), (8, (.slice (some ⟨3, 0, none⟩) 1 1)), (9, (.int .i64 ((m : Nat) : Int)))]), ⟨4, 1, [(3, 0, .cells [(.int .u64 (ArSt.allocV S (IntKind.wrap .i64 ((Int.tmod (IntKind.wrap .i64 n1) 16) + 1))))] 24 true), (2, 0, .mach (.arena (ArSt.alloc S (IntKind.wrap .i64 ((Int.tmod (IntKind.wrap .i64 n1) 16) + 1))))), (1, 0, .cells [(.int .u8 x0), (.int .u8 x1), (.int .u8 x2)] 23 true), (0, 0, .tail off .u8 l e)]⟩⟩
noncomputable def KS17 (off : Nat) (n : Nat) (c : Nat) (v : Int) (m : Nat) (q : List Int) (S : ArSt) (n1 : Int) (x0 : Int) (x1 : Int) (x2 : Int) (l : List Int) (e : TypeId) : KSt := ⟨(frameL 223 [(0, (.slice (some ⟨0, off, none⟩) n c)), (2, (.int .u64 v)), (4, (.pointer (some ⟨1, 0, none⟩))), (7, (.pointer (some ⟨2, 0, none⟩))), (8, (.slice (some ⟨3, 0, none⟩) (m + 1) (m + 1))), (9, (.int .i64 ((m : Nat) : Int)))]), ⟨4, 1, [(3, 0, .ints .u64 (List.take m q ++ [(ArSt.allocV S (IntKind.wrap .i64 ((Int.tmod (IntKind.wrap .i64 n1) 16) + 1)))]) 24 true), (2, 0, .mach (.arena (ArSt.alloc S (IntKind.wrap .i64 ((Int.tmod (IntKind.wrap .i64 n1) 16) + 1))))), (1, 0, .cells [(.int .u8 x0), (.int .u8 x1), (.int .u8 x2)] 23 true), (0, 0, .tail off .u8 l e)]⟩⟩
theorem KR15 (off : Nat) (n : Nat) (c : Nat) (v : Int) (m : Nat) (q : List Int) (S : ArSt) (x0 : Int) (x1 : Int) (x2 : Int) (l : List Int) (e : TypeId) : KEV (codeAt [1, 1, 1, 1, 0, 1, 0, 0, 1, 0, 0] BK) (KS13 off n c v m q S x0 x1 x2 l e) [0, 2, 4, 7, 8, 9] =
  if 0 ≤ ((m : Nat) : Int) ∧ ((m : Nat) : Int) < ((n : Nat) : Int) then
    bif (Nat.ble off (off + ((Int.toNat ((m : Nat) : Int)) * 1))) then
      obind (l[((off + ((Int.toNat ((m : Nat) : Int)) * 1)) - off)]?) fun n1 =>
        bif (Nat.ble ((m + 1) * 9) 1099511627776) then
          bif (Nat.ble (m + 1) m) then
            bif (Nat.ble (0 + (m + 1)) (List.length q)) then
              some (.normal, (KS15 off n c v m q S n1 x0 x1 x2 l e))
            else
              none
          else
            bif ((Nat.beq m 0) && (Nat.beq m 0)) then
              some (.normal, (KS16 off n c v m S n1 x0 x1 x2 l e))
            else
              bif ((Nat.ble m (List.length q)) && (Nat.ble 1 m)) then
                some (.normal, (KS17 off n c v m q S n1 x0 x1 x2 l e))
              else
                none
        else
          none
    else
      none
  else
    none := by kernel_rfl
noncomputable def KS18 (off : Nat) (n : Nat) (c : Nat) (v : Int) (m : Nat) (q : List Int) (S : ArSt) (l : List Int) (x0 : Int) (x1 : Int) (x2 : Int) (e : TypeId) : KSt := ⟨(frameL 223 [(0, (.slice (some ⟨0, off, none⟩) n c)), (2, (.int .u64 v)), (4, (.pointer (some ⟨1, 0, none⟩))), (7, (.pointer (some ⟨2, 0, none⟩))), (8, (.slice (some ⟨3, 0, none⟩) (m + 1) (m + 1))), (9, (.int .i64 ((m : Nat) : Int)))]), ⟨4, 1, [(3, 0, .ints .u64 (List.take m q ++ [(ArSt.allocV S (szK l m))]) 24 true), (2, 0, .mach (.arena (ArSt.alloc S (szK l m)))), (1, 0, .cells [(.int .u8 x0), (.int .u8 x1), (.int .u8 x2)] 23 true), (0, 0, .tail off .u8 l e)]⟩⟩
noncomputable def KS19 (off : Nat) (n : Nat) (c : Nat) (v : Int) (m : Nat) (q : List Int) (S : ArSt) (l : List Int) (x0 : Int) (x1 : Int) (x2 : Int) (e : TypeId) : KSt := ⟨(frameL 223 [(0, (.slice (some ⟨0, off, none⟩) n c)), (2, (.int .u64 v)), (4, (.pointer (some ⟨1, 0, none⟩))), (7, (.pointer (some ⟨2, 0, none⟩))), (8, (.slice (some ⟨3, 0, none⟩) (m + 1) (m + 1))), (9, (.int .i64 ((m : Nat) : Int)))]), ⟨4, 1, [(3, 0, .ints .u64 (List.take m q ++ [(ArSt.allocV S (IntKind.wrap .i64 ((Int.tmod (IntKind.wrap .i64 (l.getD ((Int.toNat ((m : Nat) : Int)) * 1) 0)) 16) + 1)))]) 24 true), (2, 0, .mach (.arena (ArSt.alloc S (IntKind.wrap .i64 ((Int.tmod (IntKind.wrap .i64 (l.getD ((Int.toNat ((m : Nat) : Int)) * 1) 0)) 16) + 1))))), (1, 0, .cells [(.int .u8 x0), (.int .u8 x1), (.int .u8 x2)] 23 true), (0, 0, .tail off .u8 l e)]⟩⟩
noncomputable def KS20 (off : Nat) (n : Nat) (c : Nat) (v : Int) (m : Nat) (q : List Int) (S : ArSt) (l : List Int) (x0 : Int) (x1 : Int) (x2 : Int) (e : TypeId) : KSt := ⟨(frameL 223 [(0, (.slice (some ⟨0, off, none⟩) n c)), (2, (.int .u64 v)), (4, (.pointer (some ⟨1, 0, none⟩))), (7, (.pointer (some ⟨2, 0, none⟩))), (8, (.slice (some ⟨3, 0, none⟩) (m + 1) (m + 1))), (9, (.int .i64 (IntKind.wrap .i64 (((m : Nat) : Int) + 1))))]), ⟨4, 1, [(3, 0, .ints .u64 (List.take m q ++ [(ArSt.allocV S (szK l m))]) 24 true), (2, 0, .mach (.arena (ArSt.alloc S (szK l m)))), (1, 0, .cells [(.int .u8 x0), (.int .u8 x1), (.int .u8 x2)] 23 true), (0, 0, .tail off .u8 l e)]⟩⟩
theorem KR16 (off : Nat) (n : Nat) (c : Nat) (v : Int) (m : Nat) (q : List Int) (S : ArSt) (l : List Int) (x0 : Int) (x1 : Int) (x2 : Int) (e : TypeId) : KEV (codeAt [1, 1, 1, 1, 0, 1, 0, 0, 1, 1] BK) (KS18 off n c v m q S l x0 x1 x2 e) [0, 2, 4, 7, 8, 9] =
  some (.normal, (KS20 off n c v m q S l x0 x1 x2 e)) := by kernel_rfl
noncomputable def KS21 (off : Nat) (n : Nat) (c : Nat) (v : Int) (m : Nat) (q : List Int) (S : ArSt) (l : List Int) (x0 : Int) (x1 : Int) (x2 : Int) (e : TypeId) : KSt := ⟨(frameL 223 [(0, (.slice (some ⟨0, off, none⟩) n c)), (2, (.int .u64 v)), (4, (.pointer (some ⟨1, 0, none⟩))), (7, (.pointer (some ⟨2, 0, none⟩))), (8, (.slice (some ⟨3, 0, none⟩) (m + 1) (m + 1))), (9, (.int .i64 (((m : Nat) : Int) + 1)))]), ⟨4, 1, [(3, 0, .ints .u64 (List.take m q ++ [(ArSt.allocV S (szK l m))]) 24 true), (2, 0, .mach (.arena (ArSt.alloc S (szK l m)))), (1, 0, .cells [(.int .u8 x0), (.int .u8 x1), (.int .u8 x2)] 23 true), (0, 0, .tail off .u8 l e)]⟩⟩
noncomputable def KS22 (off : Nat) (n : Nat) (c : Nat) (v : Int) (q : List Int) (S : ArSt) (x0 : Int) (x1 : Int) (x2 : Int) (l : List Int) (e : TypeId) : KSt := ⟨(frameL 223 [(0, (.slice (some ⟨0, off, none⟩) n c)), (2, (.int .u64 v)), (4, (.pointer (some ⟨1, 0, none⟩))), (7, (.pointer (some ⟨2, 0, none⟩))), (8, (.slice (some ⟨3, 0, none⟩) n n)), (9, (.int .i64 ((n : Nat) : Int))), (37, (.bool (decide (((n : Nat) : Int) < ((n : Nat) : Int)))))]), ⟨4, 1, [(3, 0, .ints .u64 q 24 true), (2, 0, .mach (.arena S)), (1, 0, .cells [(.int .u8 x0), (.int .u8 x1), (.int .u8 x2)] 23 true), (0, 0, .tail off .u8 l e)]⟩⟩
noncomputable def KS23 (off : Nat) (n : Nat) (c : Nat) (v : Int) (x0 : Int) (q : List Int) (S : ArSt) (x1 : Int) (x2 : Int) (l : List Int) (e : TypeId) : KSt := ⟨(frameL 223 [(0, (.slice (some ⟨0, off, none⟩) n c)), (2, (.int .u64 v)), (4, (.pointer (some ⟨1, 0, none⟩))), (7, (.pointer (some ⟨2, 0, none⟩))), (8, (.slice (some ⟨3, 0, none⟩) n n)), (10, (.int .i64 (Int.tmod (IntKind.wrap .i64 x0) ((n : Nat) : Int))))]), ⟨4, 1, [(3, 0, .ints .u64 q 24 true), (2, 0, .mach (.arena S)), (1, 0, .cells [(.int .u8 x0), (.int .u8 x1), (.int .u8 x2)] 23 true), (0, 0, .tail off .u8 l e)]⟩⟩
theorem KR17 (off : Nat) (n : Nat) (c : Nat) (v : Int) (q : List Int) (S : ArSt) (x0 : Int) (x1 : Int) (x2 : Int) (l : List Int) (e : TypeId) : KEV (codeAt [1, 1, 1, 1, 1, 0] BK) (KS22 off n c v q S x0 x1 x2 l e) [0, 2, 4, 7, 8, 10] =
  bif (decide (((n : Nat) : Int) = 0)) then
    none
  else
    some (.normal, (KS23 off n c v x0 q S x1 x2 l e)) := by kernel_rfl
noncomputable def KS24 (off : Nat) (n : Nat) (c : Nat) (v : Int) (k0 : Int) (q : List Int) (S : ArSt) (x0 : Int) (x1 : Int) (x2 : Int) (l : List Int) (e : TypeId) : KSt := ⟨(frameL 223 [(0, (.slice (some ⟨0, off, none⟩) n c)), (2, (.int .u64 v)), (4, (.pointer (some ⟨1, 0, none⟩))), (7, (.pointer (some ⟨2, 0, none⟩))), (8, (.slice (some ⟨3, 0, none⟩) n n)), (10, (.int .i64 k0))]), ⟨4, 1, [(3, 0, .ints .u64 q 24 true), (2, 0, .mach (.arena S)), (1, 0, .cells [(.int .u8 x0), (.int .u8 x1), (.int .u8 x2)] 23 true), (0, 0, .tail off .u8 l e)]⟩⟩
noncomputable def KS25 (off : Nat) (n : Nat) (c : Nat) (v : Int) (k0 : Int) (n1 : Int) (q : List Int) (S : ArSt) (x0 : Int) (x1 : Int) (x2 : Int) (l : List Int) (e : TypeId) : KSt := ⟨(frameL 223 [(0, (.slice (some ⟨0, off, none⟩) n c)), (2, (.int .u64 v)), (4, (.pointer (some ⟨1, 0, none⟩))), (7, (.pointer (some ⟨2, 0, none⟩))), (8, (.slice (some ⟨3, 0, none⟩) n n)), (10, (.int .i64 k0)), (11, (.int .i64 (IntKind.wrap .i64 ((Int.tmod (IntKind.wrap .i64 n1) 16) + 1))))]), ⟨4, 1, [(3, 0, .ints .u64 q 24 true), (2, 0, .mach (.arena S)), (1, 0, .cells [(.int .u8 x0), (.int .u8 x1), (.int .u8 x2)] 23 true), (0, 0, .tail off .u8 l e)]⟩⟩
theorem KR18 (off : Nat) (n : Nat) (c : Nat) (v : Int) (k0 : Int) (q : List Int) (S : ArSt) (x0 : Int) (x1 : Int) (x2 : Int) (l : List Int) (e : TypeId) : KEV (codeAt [1, 1, 1, 1, 1, 1, 0] BK) (KS24 off n c v k0 q S x0 x1 x2 l e) [0, 2, 4, 7, 8, 10, 11] =
  if 0 ≤ k0 ∧ k0 < ((n : Nat) : Int) then
    bif (Nat.ble off (off + ((Int.toNat k0) * 1))) then
      obind (l[((off + ((Int.toNat k0) * 1)) - off)]?) fun n1 =>
        some (.normal, (KS25 off n c v k0 n1 q S x0 x1 x2 l e))
    else
      none
  else
    none := by kernel_rfl
noncomputable def KS26 (off : Nat) (n : Nat) (c : Nat) (v : Int) (k0 : Int) (sz : Int) (q : List Int) (S : ArSt) (x0 : Int) (x1 : Int) (x2 : Int) (l : List Int) (e : TypeId) : KSt := ⟨(frameL 223 [(0, (.slice (some ⟨0, off, none⟩) n c)), (2, (.int .u64 v)), (4, (.pointer (some ⟨1, 0, none⟩))), (7, (.pointer (some ⟨2, 0, none⟩))), (8, (.slice (some ⟨3, 0, none⟩) n n)), (10, (.int .i64 k0)), (11, (.int .i64 sz))]), ⟨4, 1, [(3, 0, .ints .u64 q 24 true), (2, 0, .mach (.arena S)), (1, 0, .cells [(.int .u8 x0), (.int .u8 x1), (.int .u8 x2)] 23 true), (0, 0, .tail off .u8 l e)]⟩⟩
noncomputable def KS27 (off : Nat) (n : Nat) (c : Nat) (v : Int) (k0 : Int) (l : List Int) (q : List Int) (S : ArSt) (x0 : Int) (x1 : Int) (x2 : Int) (e : TypeId) : KSt := ⟨(frameL 223 [(0, (.slice (some ⟨0, off, none⟩) n c)), (2, (.int .u64 v)), (4, (.pointer (some ⟨1, 0, none⟩))), (7, (.pointer (some ⟨2, 0, none⟩))), (8, (.slice (some ⟨3, 0, none⟩) n n)), (10, (.int .i64 k0)), (11, (.int .i64 (IntKind.wrap .i64 ((Int.tmod (IntKind.wrap .i64 (l.getD ((Int.toNat k0) * 1) 0)) 16) + 1))))]), ⟨4, 1, [(3, 0, .ints .u64 q 24 true), (2, 0, .mach (.arena S)), (1, 0, .cells [(.int .u8 x0), (.int .u8 x1), (.int .u8 x2)] 23 true), (0, 0, .tail off .u8 l e)]⟩⟩
noncomputable def KS28 (off : Nat) (n : Nat) (c : Nat) (v : Int) (k0 : Int) (x1 : Int) (sz : Int) (q : List Int) (S : ArSt) (x0 : Int) (x2 : Int) (l : List Int) (e : TypeId) : KSt := ⟨(frameL 223 [(0, (.slice (some ⟨0, off, none⟩) n c)), (2, (.int .u64 v)), (4, (.pointer (some ⟨1, 0, none⟩))), (7, (.pointer (some ⟨2, 0, none⟩))), (8, (.slice (some ⟨3, 0, none⟩) n n)), (10, (.int .i64 k0)), (12, (.int .i64 (Int.tmod (IntKind.wrap .i64 x1) sz)))]), ⟨4, 1, [(3, 0, .ints .u64 q 24 true), (2, 0, .mach (.arena S)), (1, 0, .cells [(.int .u8 x0), (.int .u8 x1), (.int .u8 x2)] 23 true), (0, 0, .tail off .u8 l e)]⟩⟩
theorem KR19 (off : Nat) (n : Nat) (c : Nat) (v : Int) (k0 : Int) (sz : Int) (q : List Int) (S : ArSt) (x0 : Int) (x1 : Int) (x2 : Int) (l : List Int) (e : TypeId) : KEV (codeAt [1, 1, 1, 1, 1, 1, 1, 0] BK) (KS26 off n c v k0 sz q S x0 x1 x2 l e) [0, 2, 4, 7, 8, 10, 12] =
  bif (decide (sz = 0)) then
    none
  else
    some (.normal, (KS28 off n c v k0 x1 sz q S x0 x2 l e)) := by kernel_rfl
noncomputable def KS29 (off : Nat) (n : Nat) (c : Nat) (v : Int) (k0 : Int) (j0 : Int) (q : List Int) (S : ArSt) (x0 : Int) (x1 : Int) (x2 : Int) (l : List Int) (e : TypeId) : KSt := ⟨(frameL 223 [(0, (.slice (some ⟨0, off, none⟩) n c)), (2, (.int .u64 v)), (4, (.pointer (some ⟨1, 0, none⟩))), (7, (.pointer (some ⟨2, 0, none⟩))), (8, (.slice (some ⟨3, 0, none⟩) n n)), (10, (.int .i64 k0)), (12, (.int .i64 j0))]), ⟨4, 1, [(3, 0, .ints .u64 q 24 true), (2, 0, .mach (.arena S)), (1, 0, .cells [(.int .u8 x0), (.int .u8 x1), (.int .u8 x2)] 23 true), (0, 0, .tail off .u8 l e)]⟩⟩
noncomputable def KS30 (off : Nat) (n : Nat) (c : Nat) (v : Int) (k0 : Int) (j0 : Int) (S : ArSt) (n1 : Int) (q : List Int) (x0 : Int) (x1 : Int) (x2 : Int) (l : List Int) (e : TypeId) : KSt := ⟨(frameL 223 [(0, (.slice (some ⟨0, off, none⟩) n c)), (2, (.int .u64 v)), (4, (.pointer (some ⟨1, 0, none⟩))), (7, (.pointer (some ⟨2, 0, none⟩))), (8, (.slice (some ⟨3, 0, none⟩) n n)), (10, (.int .i64 k0)), (12, (.int .i64 j0)), (78, (.bool ((ArSt.err S n1 j0) != 0)))]), ⟨4, 1, [(3, 0, .ints .u64 q 24 true), (2, 0, .mach (.arena (ArSt.store S n1 j0 v))), (1, 0, .cells [(.int .u8 x0), (.int .u8 x1), (.int .u8 x2)] 23 true), (0, 0, .tail off .u8 l e)]⟩⟩
theorem KR20 (off : Nat) (n : Nat) (c : Nat) (v : Int) (k0 : Int) (j0 : Int) (q : List Int) (S : ArSt) (x0 : Int) (x1 : Int) (x2 : Int) (l : List Int) (e : TypeId) : KEV (codeAt [1, 1, 1, 1, 1, 1, 1, 1, 0, 0] BK) (KS29 off n c v k0 j0 q S x0 x1 x2 l e) [0, 2, 4, 7, 8, 10, 12, 78] =
  if 0 ≤ k0 ∧ k0 < ((n : Nat) : Int) then
    obind (q[(0 + ((Int.toNat k0) * 1))]?) fun n1 =>
      some (.normal, (KS30 off n c v k0 j0 S n1 q x0 x1 x2 l e))
  else
    none := by kernel_rfl
noncomputable def KS31 (off : Nat) (n : Nat) (c : Nat) (v : Int) (k0 : Int) (j0 : Int) (S : ArSt) (q : List Int) (x0 : Int) (x1 : Int) (x2 : Int) (l : List Int) (e : TypeId) : KSt := ⟨(frameL 223 [(0, (.slice (some ⟨0, off, none⟩) n c)), (2, (.int .u64 v)), (4, (.pointer (some ⟨1, 0, none⟩))), (7, (.pointer (some ⟨2, 0, none⟩))), (8, (.slice (some ⟨3, 0, none⟩) n n)), (10, (.int .i64 k0)), (12, (.int .i64 j0)), (78, (.bool ((ArSt.err S (q.getD (0 + k0.toNat) 0) j0) != 0)))]), ⟨4, 1, [(3, 0, .ints .u64 q 24 true), (2, 0, .mach (.arena (ArSt.store S (q.getD (0 + k0.toNat) 0) j0 v))), (1, 0, .cells [(.int .u8 x0), (.int .u8 x1), (.int .u8 x2)] 23 true), (0, 0, .tail off .u8 l e)]⟩⟩
noncomputable def KS32 (off : Nat) (n : Nat) (c : Nat) (v : Int) (k0 : Int) (j0 : Int) (S : ArSt) (q : List Int) (x0 : Int) (x1 : Int) (x2 : Int) (l : List Int) (e : TypeId) : KSt := ⟨(frameL 223 [(0, (.slice (some ⟨0, off, none⟩) n c)), (2, (.int .u64 v)), (4, (.pointer (some ⟨1, 0, none⟩))), (7, (.pointer (some ⟨2, 0, none⟩))), (8, (.slice (some ⟨3, 0, none⟩) n n)), (10, (.int .i64 k0)), (12, (.int .i64 j0)), (78, (.bool ((ArSt.err S (q.getD (0 + ((Int.toNat k0) * 1)) 0) j0) != 0)))]), ⟨4, 1, [(3, 0, .ints .u64 q 24 true), (2, 0, .mach (.arena (ArSt.store S (q.getD (0 + ((Int.toNat k0) * 1)) 0) j0 v))), (1, 0, .cells [(.int .u8 x0), (.int .u8 x1), (.int .u8 x2)] 23 true), (0, 0, .tail off .u8 l e)]⟩⟩
noncomputable def KS33 (off : Nat) (n : Nat) (c : Nat) (v : Int) (k0 : Int) (j0 : Int) (q : List Int) (S : ArSt) (x0 : Int) (x1 : Int) (x2 : Int) (l : List Int) (e : TypeId) : KSt := ⟨(frameL 223 [(0, (.slice (some ⟨0, off, none⟩) n c)), (2, (.int .u64 v)), (4, (.pointer (some ⟨1, 0, none⟩))), (7, (.pointer (some ⟨2, 0, none⟩))), (8, (.slice (some ⟨3, 0, none⟩) n n)), (10, (.int .i64 k0)), (12, (.int .i64 j0))]), ⟨4, 1, [(3, 0, .ints .u64 q 24 true), (2, 0, .mach (.arena (ArSt.store S (q.getD (0 + k0.toNat) 0) j0 v))), (1, 0, .cells [(.int .u8 x0), (.int .u8 x1), (.int .u8 x2)] 23 true), (0, 0, .tail off .u8 l e)]⟩⟩
theorem KR21 (off : Nat) (n : Nat) (c : Nat) (v : Int) (k0 : Int) (j0 : Int) (S : ArSt) (q : List Int) (x0 : Int) (x1 : Int) (x2 : Int) (l : List Int) (e : TypeId) : KEV (codeAt [1, 1, 1, 1, 1, 1, 1, 1, 0, 1, 1] BK) (KS31 off n c v k0 j0 S q x0 x1 x2 l e) [0, 2, 4, 7, 8, 10, 12] =
  some (.normal, (KS33 off n c v k0 j0 q S x0 x1 x2 l e)) := by kernel_rfl
noncomputable def KS34 (off : Nat) (n : Nat) (c : Nat) (v : Int) (k0 : Int) (j0 : Int) (x2 : Int) (q : List Int) (S : ArSt) (l : List Int) (e : TypeId) : KSt := ⟨(frameL 223 [(0, (.slice (some ⟨0, off, none⟩) n c)), (2, (.int .u64 v)), (7, (.pointer (some ⟨1, 0, none⟩))), (8, (.slice (some ⟨2, 0, none⟩) n n)), (10, (.int .i64 k0)), (12, (.int .i64 j0)), (13, (.int .i64 (Int.tmod (IntKind.wrap .i64 x2) ((n : Nat) : Int))))]), ⟨3, 1, [(2, 0, .ints .u64 q 24 true), (1, 0, .mach (.arena (ArSt.store S (q.getD (0 + k0.toNat) 0) j0 v))), (0, 0, .tail off .u8 l e)]⟩⟩
theorem KR22 (off : Nat) (n : Nat) (c : Nat) (v : Int) (k0 : Int) (j0 : Int) (q : List Int) (S : ArSt) (x0 : Int) (x1 : Int) (x2 : Int) (l : List Int) (e : TypeId) : KEV (codeAt [1, 1, 1, 1, 1, 1, 1, 1, 1, 0] BK) (KS33 off n c v k0 j0 q S x0 x1 x2 l e) [0, 2, 7, 8, 10, 12, 13] =
  bif (decide (((n : Nat) : Int) = 0)) then
    none
  else
    some (.normal, (KS34 off n c v k0 j0 x2 q S l e)) := by kernel_rfl
noncomputable def KS35 (off : Nat) (n : Nat) (c : Nat) (v : Int) (k0 : Int) (j0 : Int) (o : Int) (q : List Int) (S : ArSt) (l : List Int) (e : TypeId) : KSt := ⟨(frameL 223 [(0, (.slice (some ⟨0, off, none⟩) n c)), (2, (.int .u64 v)), (7, (.pointer (some ⟨1, 0, none⟩))), (8, (.slice (some ⟨2, 0, none⟩) n n)), (10, (.int .i64 k0)), (12, (.int .i64 j0)), (13, (.int .i64 o))]), ⟨3, 1, [(2, 0, .ints .u64 q 24 true), (1, 0, .mach (.arena (ArSt.store S (q.getD (0 + k0.toNat) 0) j0 v))), (0, 0, .tail off .u8 l e)]⟩⟩
noncomputable def KS36 (off : Nat) (n : Nat) (c : Nat) (v : Int) (k0 : Int) (j0 : Int) (o : Int) (q : List Int) (S : ArSt) (l : List Int) (e : TypeId) : KSt := ⟨(frameL 223 [(0, (.slice (some ⟨0, off, none⟩) n c)), (2, (.int .u64 v)), (7, (.pointer (some ⟨1, 0, none⟩))), (8, (.slice (some ⟨2, 0, none⟩) n n)), (10, (.int .i64 k0)), (12, (.int .i64 j0)), (13, (.int .i64 o)), (14, (.int .i64 0))]), ⟨3, 1, [(2, 0, .ints .u64 q 24 true), (1, 0, .mach (.arena (ArSt.store S (q.getD (0 + k0.toNat) 0) j0 v))), (0, 0, .tail off .u8 l e)]⟩⟩
theorem KR23 (off : Nat) (n : Nat) (c : Nat) (v : Int) (k0 : Int) (j0 : Int) (o : Int) (q : List Int) (S : ArSt) (l : List Int) (e : TypeId) : KEV (codeAt [1, 1, 1, 1, 1, 1, 1, 1, 1, 1, 0, 0] BK) (KS35 off n c v k0 j0 o q S l e) [0, 2, 7, 8, 10, 12, 13, 14] =
  some (.normal, (KS36 off n c v k0 j0 o q S l e)) := by kernel_rfl
noncomputable def KS37 (off : Nat) (n : Nat) (c : Nat) (v : Int) (k0 : Int) (j0 : Int) (o : Int) (a : Nat) (q : List Int) (S : ArSt) (l : List Int) (e : TypeId) : KSt := ⟨(frameL 223 [(0, (.slice (some ⟨0, off, none⟩) n c)), (2, (.int .u64 v)), (7, (.pointer (some ⟨1, 0, none⟩))), (8, (.slice (some ⟨2, 0, none⟩) n n)), (10, (.int .i64 k0)), (12, (.int .i64 j0)), (13, (.int .i64 o)), (14, (.int .i64 ((a : Nat) : Int)))]), ⟨3, 1, [(2, 0, .ints .u64 q 24 true), (1, 0, .mach (.arena S)), (0, 0, .tail off .u8 l e)]⟩⟩
noncomputable def KS38 (off : Nat) (n : Nat) (c : Nat) (v : Int) (k0 : Int) (j0 : Int) (o : Int) (a : Nat) (q : List Int) (S : ArSt) (l : List Int) (e : TypeId) : KSt := ⟨(frameL 223 [(0, (.slice (some ⟨0, off, none⟩) n c)), (2, (.int .u64 v)), (7, (.pointer (some ⟨1, 0, none⟩))), (8, (.slice (some ⟨2, 0, none⟩) n n)), (10, (.int .i64 k0)), (12, (.int .i64 j0)), (13, (.int .i64 o)), (14, (.int .i64 ((a : Nat) : Int))), (88, (.bool (decide (((a : Nat) : Int) < ((n : Nat) : Int)))))]), ⟨3, 1, [(2, 0, .ints .u64 q 24 true), (1, 0, .mach (.arena S)), (0, 0, .tail off .u8 l e)]⟩⟩
theorem KR24 (off : Nat) (n : Nat) (c : Nat) (v : Int) (k0 : Int) (j0 : Int) (o : Int) (a : Nat) (q : List Int) (S : ArSt) (l : List Int) (e : TypeId) : KEV (codeAt [1, 1, 1, 1, 1, 1, 1, 1, 1, 1, 0, 1, 0, 0, 0, 0] BK) (KS37 off n c v k0 j0 o a q S l e) [0, 2, 7, 8, 10, 12, 13, 14, 88] =
  some (.normal, (KS38 off n c v k0 j0 o a q S l e)) := by kernel_rfl
theorem KR25 (off : Nat) (n : Nat) (c : Nat) (v : Int) (k0 : Int) (j0 : Int) (o : Int) (a : Nat) (q : List Int) (S : ArSt) (l : List Int) (e : TypeId) : KEV (codeAt [1, 1, 1, 1, 1, 1, 1, 1, 1, 1, 0, 1, 0, 0, 0, 1, 0] BK) (KS38 off n c v k0 j0 o a q S l e) [0, 2, 7, 8, 10, 12, 13, 14] =
  some (.normal, (KS37 off n c v k0 j0 o a q S l e)) := by kernel_rfl
noncomputable def KS39 (off : Nat) (n : Nat) (c : Nat) (v : Int) (k0 : Int) (j0 : Int) (o : Int) (a : Nat) (q : List Int) (S : ArSt) (l : List Int) (e : TypeId) : KSt := ⟨(frameL 223 [(0, (.slice (some ⟨0, off, none⟩) n c)), (2, (.int .u64 v)), (7, (.pointer (some ⟨1, 0, none⟩))), (8, (.slice (some ⟨2, 0, none⟩) n n)), (10, (.int .i64 k0)), (12, (.int .i64 j0)), (13, (.int .i64 o)), (14, (.int .i64 ((a : Nat) : Int))), (15, (.int .i64 0))]), ⟨3, 1, [(2, 0, .ints .u64 q 24 true), (1, 0, .mach (.arena S)), (0, 0, .tail off .u8 l e)]⟩⟩
theorem KR26 (off : Nat) (n : Nat) (c : Nat) (v : Int) (k0 : Int) (j0 : Int) (o : Int) (a : Nat) (q : List Int) (S : ArSt) (l : List Int) (e : TypeId) : KEV (codeAt [1, 1, 1, 1, 1, 1, 1, 1, 1, 1, 0, 1, 0, 0, 1, 0, 0, 0] BK) (KS37 off n c v k0 j0 o a q S l e) [0, 2, 7, 8, 10, 12, 13, 14, 15] =
  some (.normal, (KS39 off n c v k0 j0 o a q S l e)) := by kernel_rfl
noncomputable def KS40 (off : Nat) (n : Nat) (c : Nat) (v : Int) (k0 : Int) (j0 : Int) (o : Int) (a : Nat) (z : Nat) (q : List Int) (S : ArSt) (l : List Int) (e : TypeId) : KSt := ⟨(frameL 223 [(0, (.slice (some ⟨0, off, none⟩) n c)), (2, (.int .u64 v)), (7, (.pointer (some ⟨1, 0, none⟩))), (8, (.slice (some ⟨2, 0, none⟩) n n)), (10, (.int .i64 k0)), (12, (.int .i64 j0)), (13, (.int .i64 o)), (14, (.int .i64 ((a : Nat) : Int))), (15, (.int .i64 ((z : Nat) : Int)))]), ⟨3, 1, [(2, 0, .ints .u64 q 24 true), (1, 0, .mach (.arena S)), (0, 0, .tail off .u8 l e)]⟩⟩
noncomputable def KS41 (off : Nat) (n : Nat) (c : Nat) (v : Int) (k0 : Int) (j0 : Int) (o : Int) (a : Nat) (z : Nat) (n1 : Int) (q : List Int) (S : ArSt) (l : List Int) (e : TypeId) : KSt := ⟨(frameL 223 [(0, (.slice (some ⟨0, off, none⟩) n c)), (2, (.int .u64 v)), (7, (.pointer (some ⟨1, 0, none⟩))), (8, (.slice (some ⟨2, 0, none⟩) n n)), (10, (.int .i64 k0)), (12, (.int .i64 j0)), (13, (.int .i64 o)), (14, (.int .i64 ((a : Nat) : Int))), (15, (.int .i64 ((z : Nat) : Int))), (99, (.bool (decide (((z : Nat) : Int) < (IntKind.wrap .i64 ((Int.tmod (IntKind.wrap .i64 n1) 16) + 1))))))]), ⟨3, 1, [(2, 0, .ints .u64 q 24 true), (1, 0, .mach (.arena S)), (0, 0, .tail off .u8 l e)]⟩⟩
theorem KR27 (off : Nat) (n : Nat) (c : Nat) (v : Int) (k0 : Int) (j0 : Int) (o : Int) (a : Nat) (z : Nat) (q : List Int) (S : ArSt) (l : List Int) (e : TypeId) : KEV (codeAt [1, 1, 1, 1, 1, 1, 1, 1, 1, 1, 0, 1, 0, 0, 1, 0, 0, 1, 0, 0, 0, 0] BK) (KS40 off n c v k0 j0 o a z q S l e) [0, 2, 7, 8, 10, 12, 13, 14, 15, 99] =
  if 0 ≤ ((a : Nat) : Int) ∧ ((a : Nat) : Int) < ((n : Nat) : Int) then
    bif (Nat.ble off (off + ((Int.toNat ((a : Nat) : Int)) * 1))) then
      obind (l[((off + ((Int.toNat ((a : Nat) : Int)) * 1)) - off)]?) fun n1 =>
        some (.normal, (KS41 off n c v k0 j0 o a z n1 q S l e))
    else
      none
  else
    none := by kernel_rfl
noncomputable def KS42 (off : Nat) (n : Nat) (c : Nat) (v : Int) (k0 : Int) (j0 : Int) (o : Int) (a : Nat) (z : Nat) (l : List Int) (q : List Int) (S : ArSt) (e : TypeId) : KSt := ⟨(frameL 223 [(0, (.slice (some ⟨0, off, none⟩) n c)), (2, (.int .u64 v)), (7, (.pointer (some ⟨1, 0, none⟩))), (8, (.slice (some ⟨2, 0, none⟩) n n)), (10, (.int .i64 k0)), (12, (.int .i64 j0)), (13, (.int .i64 o)), (14, (.int .i64 ((a : Nat) : Int))), (15, (.int .i64 ((z : Nat) : Int))), (99, (.bool (decide (((z : Nat) : Int) < (szK l a)))))]), ⟨3, 1, [(2, 0, .ints .u64 q 24 true), (1, 0, .mach (.arena S)), (0, 0, .tail off .u8 l e)]⟩⟩
noncomputable def KS43 (off : Nat) (n : Nat) (c : Nat) (v : Int) (k0 : Int) (j0 : Int) (o : Int) (a : Nat) (z : Nat) (l : List Int) (q : List Int) (S : ArSt) (e : TypeId) : KSt := ⟨(frameL 223 [(0, (.slice (some ⟨0, off, none⟩) n c)), (2, (.int .u64 v)), (7, (.pointer (some ⟨1, 0, none⟩))), (8, (.slice (some ⟨2, 0, none⟩) n n)), (10, (.int .i64 k0)), (12, (.int .i64 j0)), (13, (.int .i64 o)), (14, (.int .i64 ((a : Nat) : Int))), (15, (.int .i64 ((z : Nat) : Int))), (99, (.bool (decide (((z : Nat) : Int) < (IntKind.wrap .i64 ((Int.tmod (IntKind.wrap .i64 (l.getD ((Int.toNat ((a : Nat) : Int)) * 1) 0)) 16) + 1))))))]), ⟨3, 1, [(2, 0, .ints .u64 q 24 true), (1, 0, .mach (.arena S)), (0, 0, .tail off .u8 l e)]⟩⟩
theorem KR28 (off : Nat) (n : Nat) (c : Nat) (v : Int) (k0 : Int) (j0 : Int) (o : Int) (a : Nat) (z : Nat) (l : List Int) (q : List Int) (S : ArSt) (e : TypeId) : KEV (codeAt [1, 1, 1, 1, 1, 1, 1, 1, 1, 1, 0, 1, 0, 0, 1, 0, 0, 1, 0, 0, 0, 1, 0] BK) (KS42 off n c v k0 j0 o a z l q S e) [0, 2, 7, 8, 10, 12, 13, 14, 15] =
  some (.normal, (KS40 off n c v k0 j0 o a z q S l e)) := by kernel_rfl
noncomputable def KS44 (off : Nat) (n : Nat) (c : Nat) (v : Int) (k0 : Int) (j0 : Int) (o : Int) (a : Nat) (z : Nat) (S : ArSt) (n1 : Int) (q : List Int) (l : List Int) (e : TypeId) : KSt := ⟨(frameL 223 [(0, (.slice (some ⟨0, off, none⟩) n c)), (2, (.int .u64 v)), (7, (.pointer (some ⟨1, 0, none⟩))), (8, (.slice (some ⟨2, 0, none⟩) n n)), (10, (.int .i64 k0)), (12, (.int .i64 j0)), (13, (.int .i64 o)), (14, (.int .i64 ((a : Nat) : Int))), (15, (.int .i64 ((z : Nat) : Int))), (16, (.int .u64 (ArSt.loadV S n1 ((z : Nat) : Int)))), (17, (.int .i64 (ArSt.err S n1 ((z : Nat) : Int))))]), ⟨3, 1, [(2, 0, .ints .u64 q 24 true), (1, 0, .mach (.arena (ArSt.touch S n1 ((z : Nat) : Int)))), (0, 0, .tail off .u8 l e)]⟩⟩
theorem KR29 (off : Nat) (n : Nat) (c : Nat) (v : Int) (k0 : Int) (j0 : Int) (o : Int) (a : Nat) (z : Nat) (q : List Int) (S : ArSt) (l : List Int) (e : TypeId) : KEV (codeAt [1, 1, 1, 1, 1, 1, 1, 1, 1, 1, 0, 1, 0, 0, 1, 0, 0, 1, 0, 0, 1, 0, 0, 0] BK) (KS40 off n c v k0 j0 o a z q S l e) [0, 2, 7, 8, 10, 12, 13, 14, 15, 16, 17] =
  if 0 ≤ ((a : Nat) : Int) ∧ ((a : Nat) : Int) < ((n : Nat) : Int) then
    obind (q[(0 + ((Int.toNat ((a : Nat) : Int)) * 1))]?) fun n1 =>
      some (.normal, (KS44 off n c v k0 j0 o a z S n1 q l e))
  else
    none := by kernel_rfl
noncomputable def KS45 (off : Nat) (n : Nat) (c : Nat) (v : Int) (k0 : Int) (j0 : Int) (o : Int) (a : Nat) (z : Nat) (w : Int) (q : List Int) (S : ArSt) (l : List Int) (e : TypeId) : KSt := ⟨(frameL 223 [(0, (.slice (some ⟨0, off, none⟩) n c)), (2, (.int .u64 v)), (7, (.pointer (some ⟨1, 0, none⟩))), (8, (.slice (some ⟨2, 0, none⟩) n n)), (10, (.int .i64 k0)), (12, (.int .i64 j0)), (13, (.int .i64 o)), (14, (.int .i64 ((a : Nat) : Int))), (15, (.int .i64 ((z : Nat) : Int))), (16, (.int .u64 w)), (17, (.int .i64 0))]), ⟨3, 1, [(2, 0, .ints .u64 q 24 true), (1, 0, .mach (.arena S)), (0, 0, .tail off .u8 l e)]⟩⟩
noncomputable def KS46 (off : Nat) (n : Nat) (c : Nat) (v : Int) (k0 : Int) (j0 : Int) (o : Int) (a : Nat) (z : Nat) (S : ArSt) (q : List Int) (l : List Int) (e : TypeId) : KSt := ⟨(frameL 223 [(0, (.slice (some ⟨0, off, none⟩) n c)), (2, (.int .u64 v)), (7, (.pointer (some ⟨1, 0, none⟩))), (8, (.slice (some ⟨2, 0, none⟩) n n)), (10, (.int .i64 k0)), (12, (.int .i64 j0)), (13, (.int .i64 o)), (14, (.int .i64 ((a : Nat) : Int))), (15, (.int .i64 ((z : Nat) : Int))), (16, (.int .u64 (ArSt.loadV S (q.getD (0 + ((Int.toNat ((a : Nat) : Int)) * 1)) 0) ((z : Nat) : Int)))), (17, (.int .i64 (ArSt.err S (q.getD (0 + ((Int.toNat ((a : Nat) : Int)) * 1)) 0) ((z : Nat) : Int))))]), ⟨3, 1, [(2, 0, .ints .u64 q 24 true), (1, 0, .mach (.arena (ArSt.touch S (q.getD (0 + ((Int.toNat ((a : Nat) : Int)) * 1)) 0) ((z : Nat) : Int)))), (0, 0, .tail off .u8 l e)]⟩⟩
noncomputable def KS47 (off : Nat) (n : Nat) (c : Nat) (v : Int) (k0 : Int) (j0 : Int) (o : Int) (a : Nat) (z : Nat) (q : List Int) (S : ArSt) (l : List Int) (e : TypeId) : KSt := ⟨(frameL 223 [(0, (.slice (some ⟨0, off, none⟩) n c)), (2, (.int .u64 v)), (7, (.pointer (some ⟨1, 0, none⟩))), (8, (.slice (some ⟨2, 0, none⟩) n n)), (10, (.int .i64 k0)), (12, (.int .i64 j0)), (13, (.int .i64 o)), (14, (.int .i64 ((a : Nat) : Int))), (15, (.int .i64 ((z : Nat) : Int))), (142, (.bool true))]), ⟨3, 1, [(2, 0, .ints .u64 q 24 true), (1, 0, .mach (.arena S)), (0, 0, .tail off .u8 l e)]⟩⟩
noncomputable def KS48 (off : Nat) (n : Nat) (c : Nat) (v : Int) (k0 : Int) (j0 : Int) (o : Int) (a : Nat) (z : Nat) (w : Int) (q : List Int) (S : ArSt) (l : List Int) (e : TypeId) : KSt := ⟨(frameL 223 [(0, (.slice (some ⟨0, off, none⟩) n c)), (2, (.int .u64 v)), (7, (.pointer (some ⟨1, 0, none⟩))), (8, (.slice (some ⟨2, 0, none⟩) n n)), (10, (.int .i64 k0)), (12, (.int .i64 j0)), (13, (.int .i64 o)), (14, (.int .i64 ((a : Nat) : Int))), (15, (.int .i64 ((z : Nat) : Int))), (142, (.bool (w != 0)))]), ⟨3, 1, [(2, 0, .ints .u64 q 24 true), (1, 0, .mach (.arena S)), (0, 0, .tail off .u8 l e)]⟩⟩
noncomputable def KS49 (off : Nat) (n : Nat) (c : Nat) (v : Int) (k0 : Int) (j0 : Int) (o : Int) (a : Nat) (z : Nat) (q : List Int) (S : ArSt) (l : List Int) (e : TypeId) : KSt := ⟨(frameL 223 [(0, (.slice (some ⟨0, off, none⟩) n c)), (2, (.int .u64 v)), (7, (.pointer (some ⟨1, 0, none⟩))), (8, (.slice (some ⟨2, 0, none⟩) n n)), (10, (.int .i64 k0)), (12, (.int .i64 j0)), (13, (.int .i64 o)), (14, (.int .i64 ((a : Nat) : Int))), (15, (.int .i64 ((z : Nat) : Int))), (142, (.bool false))]), ⟨3, 1, [(2, 0, .ints .u64 q 24 true), (1, 0, .mach (.arena S)), (0, 0, .tail off .u8 l e)]⟩⟩
theorem KR30 (off : Nat) (n : Nat) (c : Nat) (v : Int) (k0 : Int) (j0 : Int) (o : Int) (a : Nat) (z : Nat) (w : Int) (q : List Int) (S : ArSt) (l : List Int) (e : TypeId) : KEV (codeAt [1, 1, 1, 1, 1, 1, 1, 1, 1, 1, 0, 1, 0, 0, 1, 0, 0, 1, 0, 0, 1, 0, 0, 1, 0] BK) (KS45 off n c v k0 j0 o a z w q S l e) [0, 2, 7, 8, 10, 12, 13, 14, 15, 142] =
  bif (((a : Nat) : Int) == k0) then
    bif (((z : Nat) : Int) == j0) then
      bif (w != v) then
        some (.normal, (KS47 off n c v k0 j0 o a z q S l e))
      else
        bif (((a : Nat) : Int) != k0) then
          some (.normal, (KS48 off n c v k0 j0 o a z w q S l e))
        else
          bif (((z : Nat) : Int) != j0) then
            some (.normal, (KS48 off n c v k0 j0 o a z w q S l e))
          else
            some (.normal, (KS49 off n c v k0 j0 o a z q S l e))
    else
      bif (((a : Nat) : Int) != k0) then
        some (.normal, (KS48 off n c v k0 j0 o a z w q S l e))
      else
        bif (((z : Nat) : Int) != j0) then
          some (.normal, (KS48 off n c v k0 j0 o a z w q S l e))
        else
          some (.normal, (KS49 off n c v k0 j0 o a z q S l e))
  else
    bif (((a : Nat) : Int) != k0) then
      some (.normal, (KS48 off n c v k0 j0 o a z w q S l e))
    else
      bif (((z : Nat) : Int) != j0) then
        some (.normal, (KS48 off n c v k0 j0 o a z w q S l e))
      else
        some (.normal, (KS49 off n c v k0 j0 o a z q S l e)) := by kernel_rfl
theorem KR31 (off : Nat) (n : Nat) (c : Nat) (v : Int) (k0 : Int) (j0 : Int) (o : Int) (a : Nat) (z : Nat) (q : List Int) (S : ArSt) (l : List Int) (e : TypeId) : KEV (codeAt [1, 1, 1, 1, 1, 1, 1, 1, 1, 1, 0, 1, 0, 0, 1, 0, 0, 1, 0, 0, 1, 0, 0, 1, 1, 1] BK) (KS49 off n c v k0 j0 o a z q S l e) [0, 2, 7, 8, 10, 12, 13, 14, 15] =
  some (.normal, (KS40 off n c v k0 j0 o a z q S l e)) := by kernel_rfl
noncomputable def KS50 (off : Nat) (n : Nat) (c : Nat) (v : Int) (k0 : Int) (j0 : Int) (o : Int) (a : Nat) (z : Nat) (q : List Int) (S : ArSt) (l : List Int) (e : TypeId) : KSt := ⟨(frameL 223 [(0, (.slice (some ⟨0, off, none⟩) n c)), (2, (.int .u64 v)), (7, (.pointer (some ⟨1, 0, none⟩))), (8, (.slice (some ⟨2, 0, none⟩) n n)), (10, (.int .i64 k0)), (12, (.int .i64 j0)), (13, (.int .i64 o)), (14, (.int .i64 ((a : Nat) : Int))), (15, (.int .i64 (IntKind.wrap .i64 (((z : Nat) : Int) + 1))))]), ⟨3, 1, [(2, 0, .ints .u64 q 24 true), (1, 0, .mach (.arena S)), (0, 0, .tail off .u8 l e)]⟩⟩
theorem KR32 (off : Nat) (n : Nat) (c : Nat) (v : Int) (k0 : Int) (j0 : Int) (o : Int) (a : Nat) (z : Nat) (q : List Int) (S : ArSt) (l : List Int) (e : TypeId) : KEV (codeAt [1, 1, 1, 1, 1, 1, 1, 1, 1, 1, 0, 1, 0, 0, 1, 0, 0, 1, 0, 0, 1, 1] BK) (KS40 off n c v k0 j0 o a z q S l e) [0, 2, 7, 8, 10, 12, 13, 14, 15] =
  some (.normal, (KS50 off n c v k0 j0 o a z q S l e)) := by kernel_rfl
noncomputable def KS51 (off : Nat) (n : Nat) (c : Nat) (v : Int) (k0 : Int) (j0 : Int) (o : Int) (a : Nat) (z : Nat) (q : List Int) (S : ArSt) (l : List Int) (e : TypeId) : KSt := ⟨(frameL 223 [(0, (.slice (some ⟨0, off, none⟩) n c)), (2, (.int .u64 v)), (7, (.pointer (some ⟨1, 0, none⟩))), (8, (.slice (some ⟨2, 0, none⟩) n n)), (10, (.int .i64 k0)), (12, (.int .i64 j0)), (13, (.int .i64 o)), (14, (.int .i64 ((a : Nat) : Int))), (15, (.int .i64 (((z : Nat) : Int) + 1)))]), ⟨3, 1, [(2, 0, .ints .u64 q 24 true), (1, 0, .mach (.arena S)), (0, 0, .tail off .u8 l e)]⟩⟩
theorem KR33 (off : Nat) (n : Nat) (c : Nat) (v : Int) (k0 : Int) (j0 : Int) (o : Int) (a : Nat) (z : Nat) (w : Int) (q : List Int) (S : ArSt) (l : List Int) (e : TypeId) : KEV (codeAt [1, 1, 1, 1, 1, 1, 1, 1, 1, 1, 0, 1, 0, 0, 1, 0, 0, 1, 0, 0, 1, 0, 0, 1, 1, 1] BK) (KS48 off n c v k0 j0 o a z w q S l e) [0, 2, 7, 8, 10, 12, 13, 14, 15] =
  some (.normal, (KS40 off n c v k0 j0 o a z q S l e)) := by kernel_rfl
noncomputable def KS52 (off : Nat) (n : Nat) (c : Nat) (v : Int) (k0 : Int) (j0 : Int) (o : Int) (a : Nat) (q : List Int) (S : ArSt) (l : List Int) (e : TypeId) : KSt := ⟨(frameL 223 [(0, (.slice (some ⟨0, off, none⟩) n c)), (2, (.int .u64 v)), (7, (.pointer (some ⟨1, 0, none⟩))), (8, (.slice (some ⟨2, 0, none⟩) n n)), (10, (.int .i64 k0)), (12, (.int .i64 j0)), (13, (.int .i64 o)), (14, (.int .i64 (IntKind.wrap .i64 (((a : Nat) : Int) + 1))))]), ⟨3, 1, [(2, 0, .ints .u64 q 24 true), (1, 0, .mach (.arena S)), (0, 0, .tail off .u8 l e)]⟩⟩
theorem KR34 (off : Nat) (n : Nat) (c : Nat) (v : Int) (k0 : Int) (j0 : Int) (o : Int) (a : Nat) (z : Nat) (l : List Int) (q : List Int) (S : ArSt) (e : TypeId) : KEV (codeAt [1, 1, 1, 1, 1, 1, 1, 1, 1, 1, 0, 1, 0, 0, 1, 1] BK) (KS42 off n c v k0 j0 o a z l q S e) [0, 2, 7, 8, 10, 12, 13, 14] =
  some (.normal, (KS52 off n c v k0 j0 o a q S l e)) := by kernel_rfl
noncomputable def KS53 (off : Nat) (n : Nat) (c : Nat) (v : Int) (k0 : Int) (j0 : Int) (o : Int) (a : Nat) (q : List Int) (S : ArSt) (l : List Int) (e : TypeId) : KSt := ⟨(frameL 223 [(0, (.slice (some ⟨0, off, none⟩) n c)), (2, (.int .u64 v)), (7, (.pointer (some ⟨1, 0, none⟩))), (8, (.slice (some ⟨2, 0, none⟩) n n)), (10, (.int .i64 k0)), (12, (.int .i64 j0)), (13, (.int .i64 o)), (14, (.int .i64 (((a : Nat) : Int) + 1)))]), ⟨3, 1, [(2, 0, .ints .u64 q 24 true), (1, 0, .mach (.arena S)), (0, 0, .tail off .u8 l e)]⟩⟩
noncomputable def KS54 (v : Int) (n : Nat) (k0 : Int) (j0 : Int) (o : Int) (q : List Int) (S : ArSt) (n1 : Int) (off : Nat) (l : List Int) (e : TypeId) : KSt := ⟨(frameL 223 [(2, (.int .u64 v)), (7, (.pointer (some ⟨1, 0, none⟩))), (8, (.slice (some ⟨2, 0, none⟩) n n)), (10, (.int .i64 k0)), (12, (.int .i64 j0)), (13, (.int .i64 o)), (158, (.bool true))]), ⟨3, 1, [(2, 0, .ints .u64 q 24 true), (1, 0, .mach (.arena (ArSt.free S n1))), (0, 0, .tail off .u8 l e)]⟩⟩
noncomputable def KS55 (v : Int) (n : Nat) (k0 : Int) (j0 : Int) (o : Int) (S : ArSt) (n1 : Int) (n2 : Int) (q : List Int) (off : Nat) (l : List Int) (e : TypeId) : KSt := ⟨(frameL 223 [(2, (.int .u64 v)), (7, (.pointer (some ⟨1, 0, none⟩))), (8, (.slice (some ⟨2, 0, none⟩) n n)), (10, (.int .i64 k0)), (12, (.int .i64 j0)), (13, (.int .i64 o)), (158, (.bool ((ArSt.freeE (ArSt.free S n1) n2) != 13)))]), ⟨3, 1, [(2, 0, .ints .u64 q 24 true), (1, 0, .mach (.arena (ArSt.free (ArSt.free S n1) n2))), (0, 0, .tail off .u8 l e)]⟩⟩
theorem KR35 (off : Nat) (n : Nat) (c : Nat) (v : Int) (k0 : Int) (j0 : Int) (o : Int) (a : Nat) (q : List Int) (S : ArSt) (l : List Int) (e : TypeId) : KEV (codeAt [1, 1, 1, 1, 1, 1, 1, 1, 1, 1, 1, 0, 0] BK) (KS38 off n c v k0 j0 o a q S l e) [2, 7, 8, 10, 12, 13, 158] =
  if 0 ≤ o ∧ o < ((n : Nat) : Int) then
    obind (q[(0 + ((Int.toNat o) * 1))]?) fun n1 =>
      bif ((ArSt.freeE S n1) != 0) then
        some (.normal, (KS54 v n k0 j0 o q S n1 off l e))
      else
        if 0 ≤ o ∧ o < ((n : Nat) : Int) then
          obind (q[(0 + ((Int.toNat o) * 1))]?) fun n2 =>
            some (.normal, (KS55 v n k0 j0 o S n1 n2 q off l e))
        else
          none
  else
    none := by kernel_rfl
noncomputable def KS56 (v : Int) (n : Nat) (k0 : Int) (j0 : Int) (o : Int) (S1 : ArSt) (bo : Int) (q : List Int) (S2 : ArSt) (off : Nat) (l : List Int) (e : TypeId) : KSt := ⟨(frameL 223 [(2, (.int .u64 v)), (7, (.pointer (some ⟨1, 0, none⟩))), (8, (.slice (some ⟨2, 0, none⟩) n n)), (10, (.int .i64 k0)), (12, (.int .i64 j0)), (13, (.int .i64 o)), (158, (.bool ((ArSt.freeE S1 bo) != 13)))]), ⟨3, 1, [(2, 0, .ints .u64 q 24 true), (1, 0, .mach (.arena S2)), (0, 0, .tail off .u8 l e)]⟩⟩
noncomputable def KS57 (v : Int) (n : Nat) (k0 : Int) (j0 : Int) (o : Int) (S : ArSt) (q : List Int) (off : Nat) (l : List Int) (e : TypeId) : KSt := ⟨(frameL 223 [(2, (.int .u64 v)), (7, (.pointer (some ⟨1, 0, none⟩))), (8, (.slice (some ⟨2, 0, none⟩) n n)), (10, (.int .i64 k0)), (12, (.int .i64 j0)), (13, (.int .i64 o)), (158, (.bool ((ArSt.freeE (ArSt.free S (q.getD (0 + ((Int.toNat o) * 1)) 0)) (q.getD (0 + ((Int.toNat o) * 1)) 0)) != 13)))]), ⟨3, 1, [(2, 0, .ints .u64 q 24 true), (1, 0, .mach (.arena (ArSt.free (ArSt.free S (q.getD (0 + ((Int.toNat o) * 1)) 0)) (q.getD (0 + ((Int.toNat o) * 1)) 0)))), (0, 0, .tail off .u8 l e)]⟩⟩
noncomputable def KS58 (v : Int) (n : Nat) (k0 : Int) (j0 : Int) (o : Int) (q : List Int) (S2 : ArSt) (off : Nat) (l : List Int) (e : TypeId) : KSt := ⟨(frameL 223 [(2, (.int .u64 v)), (7, (.pointer (some ⟨1, 0, none⟩))), (8, (.slice (some ⟨2, 0, none⟩) n n)), (10, (.int .i64 k0)), (12, (.int .i64 j0)), (13, (.int .i64 o))]), ⟨3, 1, [(2, 0, .ints .u64 q 24 true), (1, 0, .mach (.arena S2)), (0, 0, .tail off .u8 l e)]⟩⟩
theorem KR36 (v : Int) (n : Nat) (k0 : Int) (j0 : Int) (o : Int) (S1 : ArSt) (bo : Int) (q : List Int) (S2 : ArSt) (off : Nat) (l : List Int) (e : TypeId) : KEV (codeAt [1, 1, 1, 1, 1, 1, 1, 1, 1, 1, 1, 0, 1, 1] BK) (KS56 v n k0 j0 o S1 bo q S2 off l e) [2, 7, 8, 10, 12, 13] =
  some (.normal, (KS58 v n k0 j0 o q S2 off l e)) := by kernel_rfl
noncomputable def KS59 (v : Int) (n : Nat) (k0 : Int) (j0 : Int) (o : Int) (S2 : ArSt) (q : List Int) (off : Nat) (l : List Int) (e : TypeId) : KSt := ⟨(frameL 223 [(2, (.int .u64 v)), (7, (.pointer (some ⟨1, 0, none⟩))), (8, (.slice (some ⟨2, 0, none⟩) n n)), (10, (.int .i64 k0)), (12, (.int .i64 j0)), (13, (.int .i64 o)), (18, (.int .u64 (ArSt.allocV S2 1)))]), ⟨3, 1, [(2, 0, .ints .u64 q 24 true), (1, 0, .mach (.arena (ArSt.alloc S2 1))), (0, 0, .tail off .u8 l e)]⟩⟩
theorem KR37 (v : Int) (n : Nat) (k0 : Int) (j0 : Int) (o : Int) (q : List Int) (S2 : ArSt) (off : Nat) (l : List Int) (e : TypeId) : KEV (codeAt [1, 1, 1, 1, 1, 1, 1, 1, 1, 1, 1, 1, 0] BK) (KS58 v n k0 j0 o q S2 off l e) [2, 7, 8, 10, 12, 13, 18] =
  some (.normal, (KS59 v n k0 j0 o S2 q off l e)) := by kernel_rfl
noncomputable def KS60 (v : Int) (n : Nat) (k0 : Int) (j0 : Int) (o : Int) (nx : Int) (q : List Int) (S3 : ArSt) (off : Nat) (l : List Int) (e : TypeId) : KSt := ⟨(frameL 223 [(2, (.int .u64 v)), (7, (.pointer (some ⟨1, 0, none⟩))), (8, (.slice (some ⟨2, 0, none⟩) n n)), (10, (.int .i64 k0)), (12, (.int .i64 j0)), (13, (.int .i64 o)), (18, (.int .u64 nx))]), ⟨3, 1, [(2, 0, .ints .u64 q 24 true), (1, 0, .mach (.arena S3)), (0, 0, .tail off .u8 l e)]⟩⟩
noncomputable def KS61 (v : Int) (n : Nat) (k0 : Int) (j0 : Int) (o : Int) (nx : Int) (S3 : ArSt) (n1 : Int) (q : List Int) (off : Nat) (l : List Int) (e : TypeId) : KSt := ⟨(frameL 223 [(2, (.int .u64 v)), (7, (.pointer (some ⟨1, 0, none⟩))), (8, (.slice (some ⟨2, 0, none⟩) n n)), (10, (.int .i64 k0)), (12, (.int .i64 j0)), (13, (.int .i64 o)), (18, (.int .u64 nx)), (20, (.int .i64 (ArSt.err S3 n1 0)))]), ⟨3, 1, [(2, 0, .ints .u64 q 24 true), (1, 0, .mach (.arena (ArSt.touch S3 n1 0))), (0, 0, .tail off .u8 l e)]⟩⟩
theorem KR38 (v : Int) (n : Nat) (k0 : Int) (j0 : Int) (o : Int) (nx : Int) (q : List Int) (S3 : ArSt) (off : Nat) (l : List Int) (e : TypeId) : KEV (codeAt [1, 1, 1, 1, 1, 1, 1, 1, 1, 1, 1, 1, 1, 0] BK) (KS60 v n k0 j0 o nx q S3 off l e) [2, 7, 8, 10, 12, 13, 18, 20] =
  if 0 ≤ o ∧ o < ((n : Nat) : Int) then
    obind (q[(0 + ((Int.toNat o) * 1))]?) fun n1 =>
      some (.normal, (KS61 v n k0 j0 o nx S3 n1 q off l e))
  else
    none := by kernel_rfl
noncomputable def KS62 (v : Int) (n : Nat) (k0 : Int) (j0 : Int) (o : Int) (nx : Int) (q : List Int) (S4 : ArSt) (off : Nat) (l : List Int) (e : TypeId) : KSt := ⟨(frameL 223 [(2, (.int .u64 v)), (7, (.pointer (some ⟨1, 0, none⟩))), (8, (.slice (some ⟨2, 0, none⟩) n n)), (10, (.int .i64 k0)), (12, (.int .i64 j0)), (13, (.int .i64 o)), (18, (.int .u64 nx)), (20, (.int .i64 13))]), ⟨3, 1, [(2, 0, .ints .u64 q 24 true), (1, 0, .mach (.arena S4)), (0, 0, .tail off .u8 l e)]⟩⟩
noncomputable def KS63 (v : Int) (n : Nat) (k0 : Int) (j0 : Int) (o : Int) (nx : Int) (S3 : ArSt) (q : List Int) (off : Nat) (l : List Int) (e : TypeId) : KSt := ⟨(frameL 223 [(2, (.int .u64 v)), (7, (.pointer (some ⟨1, 0, none⟩))), (8, (.slice (some ⟨2, 0, none⟩) n n)), (10, (.int .i64 k0)), (12, (.int .i64 j0)), (13, (.int .i64 o)), (18, (.int .u64 nx)), (20, (.int .i64 (ArSt.err S3 (q.getD (0 + ((Int.toNat o) * 1)) 0) 0)))]), ⟨3, 1, [(2, 0, .ints .u64 q 24 true), (1, 0, .mach (.arena (ArSt.touch S3 (q.getD (0 + ((Int.toNat o) * 1)) 0) 0))), (0, 0, .tail off .u8 l e)]⟩⟩
noncomputable def KS64 (v : Int) (n : Nat) (k0 : Int) (o : Int) (nx : Int) (S4 : ArSt) (n1 : Int) (j0 : Int) (q : List Int) (off : Nat) (l : List Int) (e : TypeId) : KSt := ⟨(frameL 223 [(2, (.int .u64 v)), (7, (.pointer (some ⟨1, 0, none⟩))), (8, (.slice (some ⟨2, 0, none⟩) n n)), (10, (.int .i64 k0)), (13, (.int .i64 o)), (18, (.int .u64 nx)), (20, (.int .i64 13)), (21, (.int .u64 (ArSt.loadV S4 n1 j0))), (22, (.int .i64 (ArSt.err S4 n1 j0)))]), ⟨3, 1, [(2, 0, .ints .u64 q 24 true), (1, 0, .mach (.arena (ArSt.touch S4 n1 j0))), (0, 0, .tail off .u8 l e)]⟩⟩
theorem KR39 (v : Int) (n : Nat) (k0 : Int) (j0 : Int) (o : Int) (nx : Int) (q : List Int) (S4 : ArSt) (off : Nat) (l : List Int) (e : TypeId) : KEV (codeAt [1, 1, 1, 1, 1, 1, 1, 1, 1, 1, 1, 1, 1, 1, 0] BK) (KS62 v n k0 j0 o nx q S4 off l e) [2, 7, 8, 10, 13, 18, 20, 21, 22] =
  if 0 ≤ k0 ∧ k0 < ((n : Nat) : Int) then
    obind (q[(0 + ((Int.toNat k0) * 1))]?) fun n1 =>
      some (.normal, (KS64 v n k0 o nx S4 n1 j0 q off l e))
  else
    none := by kernel_rfl
noncomputable def KS65 (v : Int) (n : Nat) (k0 : Int) (o : Int) (nx : Int) (S4 : ArSt) (bk : Int) (j0 : Int) (q : List Int) (S5 : ArSt) (off : Nat) (l : List Int) (e : TypeId) : KSt := ⟨(frameL 223 [(2, (.int .u64 v)), (7, (.pointer (some ⟨1, 0, none⟩))), (8, (.slice (some ⟨2, 0, none⟩) n n)), (10, (.int .i64 k0)), (13, (.int .i64 o)), (18, (.int .u64 nx)), (20, (.int .i64 13)), (21, (.int .u64 (ArSt.loadV S4 bk j0))), (22, (.int .i64 (ArSt.err S4 bk j0)))]), ⟨3, 1, [(2, 0, .ints .u64 q 24 true), (1, 0, .mach (.arena S5)), (0, 0, .tail off .u8 l e)]⟩⟩
noncomputable def KS66 (v : Int) (n : Nat) (k0 : Int) (o : Int) (nx : Int) (S4 : ArSt) (q : List Int) (j0 : Int) (off : Nat) (l : List Int) (e : TypeId) : KSt := ⟨(frameL 223 [(2, (.int .u64 v)), (7, (.pointer (some ⟨1, 0, none⟩))), (8, (.slice (some ⟨2, 0, none⟩) n n)), (10, (.int .i64 k0)), (13, (.int .i64 o)), (18, (.int .u64 nx)), (20, (.int .i64 13)), (21, (.int .u64 (ArSt.loadV S4 (q.getD (0 + ((Int.toNat k0) * 1)) 0) j0))), (22, (.int .i64 (ArSt.err S4 (q.getD (0 + ((Int.toNat k0) * 1)) 0) j0)))]), ⟨3, 1, [(2, 0, .ints .u64 q 24 true), (1, 0, .mach (.arena (ArSt.touch S4 (q.getD (0 + ((Int.toNat k0) * 1)) 0) j0))), (0, 0, .tail off .u8 l e)]⟩⟩
noncomputable def KS67 (v : Int) (k0 : Int) (o : Int) (S4 : ArSt) (bk : Int) (j0 : Int) (off : Nat) (l : List Int) (e : TypeId) : KSt := ⟨(frameL 223 [(2, (.int .u64 v)), (10, (.int .i64 k0)), (13, (.int .i64 o)), (21, (.int .u64 (ArSt.loadV S4 bk j0))), (22, (.int .i64 (ArSt.err S4 bk j0))), (198, (.bool true))]), ⟨1, 1, [(0, 0, .tail off .u8 l e)]⟩⟩
noncomputable def KS68 (v : Int) (k0 : Int) (o : Int) (S4 : ArSt) (bk : Int) (j0 : Int) (S5 : ArSt) (n2 : Int) (off : Nat) (l : List Int) (e : TypeId) : KSt := ⟨(frameL 223 [(2, (.int .u64 v)), (10, (.int .i64 k0)), (13, (.int .i64 o)), (21, (.int .u64 (ArSt.loadV S4 bk j0))), (22, (.int .i64 (ArSt.err S4 bk j0))), (198, (.bool ((ArSt.err S5 n2 0) != 13)))]), ⟨1, 1, [(0, 0, .tail off .u8 l e)]⟩⟩
theorem KR40 (v : Int) (n : Nat) (k0 : Int) (o : Int) (nx : Int) (S4 : ArSt) (bk : Int) (j0 : Int) (q : List Int) (S5 : ArSt) (off : Nat) (l : List Int) (e : TypeId) : KEV (codeAt [1, 1, 1, 1, 1, 1, 1, 1, 1, 1, 1, 1, 1, 1, 1, 0, 0] BK) (KS65 v n k0 o nx S4 bk j0 q S5 off l e) [2, 10, 13, 21, 22, 198] =
  if 0 ≤ o ∧ o < ((n : Nat) : Int) then
    obind (q[(0 + ((Int.toNat o) * 1))]?) fun n1 =>
      bif (nx == n1) then
        some (.normal, (KS67 v k0 o S4 bk j0 off l e))
      else
        if 0 ≤ o ∧ o < ((n : Nat) : Int) then
          obind (q[(0 + ((Int.toNat o) * 1))]?) fun n2 =>
            some (.normal, (KS68 v k0 o S4 bk j0 S5 n2 off l e))
        else
          none
  else
    none := by kernel_rfl
noncomputable def KS69 (v : Int) (k0 : Int) (o : Int) (S4 : ArSt) (bk : Int) (j0 : Int) (S5 : ArSt) (bo : Int) (off : Nat) (l : List Int) (e : TypeId) : KSt := ⟨(frameL 223 [(2, (.int .u64 v)), (10, (.int .i64 k0)), (13, (.int .i64 o)), (21, (.int .u64 (ArSt.loadV S4 bk j0))), (22, (.int .i64 (ArSt.err S4 bk j0))), (198, (.bool ((ArSt.err S5 bo 0) != 13)))]), ⟨1, 1, [(0, 0, .tail off .u8 l e)]⟩⟩
noncomputable def KS70 (v : Int) (k0 : Int) (o : Int) (S4 : ArSt) (bk : Int) (j0 : Int) (S5 : ArSt) (q : List Int) (off : Nat) (l : List Int) (e : TypeId) : KSt := ⟨(frameL 223 [(2, (.int .u64 v)), (10, (.int .i64 k0)), (13, (.int .i64 o)), (21, (.int .u64 (ArSt.loadV S4 bk j0))), (22, (.int .i64 (ArSt.err S4 bk j0))), (198, (.bool ((ArSt.err S5 (q.getD (0 + ((Int.toNat o) * 1)) 0) 0) != 13)))]), ⟨1, 1, [(0, 0, .tail off .u8 l e)]⟩⟩
noncomputable def KS71 (v : Int) (k0 : Int) (o : Int) (S4 : ArSt) (bk : Int) (j0 : Int) (off : Nat) (l : List Int) (e : TypeId) : KSt := ⟨(frameL 223 [(2, (.int .u64 v)), (10, (.int .i64 k0)), (13, (.int .i64 o)), (21, (.int .u64 (ArSt.loadV S4 bk j0))), (22, (.int .i64 (ArSt.err S4 bk j0)))]), ⟨1, 1, [(0, 0, .tail off .u8 l e)]⟩⟩
theorem KR41 (v : Int) (k0 : Int) (o : Int) (S4 : ArSt) (bk : Int) (j0 : Int) (S5 : ArSt) (bo : Int) (off : Nat) (l : List Int) (e : TypeId) : KEV (codeAt [1, 1, 1, 1, 1, 1, 1, 1, 1, 1, 1, 1, 1, 1, 1, 0, 1, 1] BK) (KS69 v k0 o S4 bk j0 S5 bo off l e) [2, 10, 13, 21, 22] =
  some (.normal, (KS71 v k0 o S4 bk j0 off l e)) := by kernel_rfl
noncomputable def KS72 (off : Nat) (l : List Int) (e : TypeId) : KSt := ⟨(frameL 223 [(6, (.bool false))]), ⟨1, 1, [(0, 0, .tail off .u8 l e)]⟩⟩
theorem KR42 (v : Int) (k0 : Int) (o : Int) (S4 : ArSt) (bk : Int) (j0 : Int) (off : Nat) (l : List Int) (e : TypeId) : KEV (codeAt [1, 1, 1, 1, 1, 1, 1, 1, 1, 1, 1, 1, 1, 1, 1, 1, 0] BK) (KS71 v k0 o S4 bk j0 off l e) [6] =
  bif (k0 == o) then
    bif ((ArSt.err S4 bk j0) == 13) then
      some (.normal, (KS4 off l e))
    else
      bif (k0 != o) then
        bif ((ArSt.err S4 bk j0) == 0) then
          bif ((ArSt.loadV S4 bk j0) == v) then
            some (.normal, (KS4 off l e))
          else
            some (.normal, (KS72 off l e))
        else
          some (.normal, (KS72 off l e))
      else
        some (.normal, (KS72 off l e))
  else
    bif (k0 != o) then
      bif ((ArSt.err S4 bk j0) == 0) then
        bif ((ArSt.loadV S4 bk j0) == v) then
          some (.normal, (KS4 off l e))
        else
          some (.normal, (KS72 off l e))
      else
        some (.normal, (KS72 off l e))
    else
      some (.normal, (KS72 off l e)) := by kernel_rfl
theorem Kgd {n : Nat} {off : Nat} {l : List Int} {e : TypeId} {c : Nat} {x0 : Int} {x1 : Int} {x2 : Int} {v : Int} (hn : 20 < n)   {Q : Ex → St → Prop} (hq : Q .ret (KSt.low (KS4 off l e))) : Gets Try.prog (KH.low ⟨1, 1, [(0, 0, .tail off .u8 l e)]⟩) BK (KSt.low (KS0 off n c x0 x1 x2 v l e)) Q := by
  rw [KC]; refine Gets.seq ?_
  refine Kgo (KR1 off n c x0 x1 x2 v l e) ?_
  rw [KC1]; refine Gets.seq ?_
  rw [KC1_0]; refine Gets.seq ?_
  refine Kgo (x := .normal) (s' := (KS3 off n c v x0 x1 x2 l e)) ((KR2 off n c v x0 x1 x2 l e).trans (by rw [condF (ibeq_f (by omega))])) ?_
  rw [KC1_0_1]; refine Gets.cond true (by kernel_rfl) (KeX (b := (decide (((n : Nat) : Int) > 20))) (by kernel_rfl) ((show (decide (((n : Nat) : Int) > 20)) = true from decide_eq_true (by omega)))) ?_; show Gets _ _ (codeAt [1, 0, 1, 0] BK) _ _
  rw [KC1_0_1_0]; refine Gets.seq ?_
  refine Kgo (KR3 off n c v x0 x1 x2 l e) ?_
  rw [KC1_0_1_0_1]; refine Gets.ev fitK.mix fitK.cfg (fitK.sound kp_sound 40 0) 40 rfl (s' := KSt.low (KS4 off l e)) (x := .ret) rfl ?_
  exact hq
theorem Kgz {n : Nat} {off : Nat} {l : List Int} {e : TypeId} {c : Nat} {x0 : Int} {x1 : Int} {x2 : Int} {v : Int} (hn : n = 0)   {Q : Ex → St → Prop} (hq : Q .ret (KSt.low (KS4 off l e))) : Gets Try.prog (KH.low ⟨1, 1, [(0, 0, .tail off .u8 l e)]⟩) BK (KSt.low (KS0 off n c x0 x1 x2 v l e)) Q := by
  rw [KC]; refine Gets.seq ?_
  refine Kgo (KR1 off n c x0 x1 x2 v l e) ?_
  rw [KC1]; refine Gets.seq ?_
  rw [KC1_0]; refine Gets.seq ?_
  refine Kgo (x := .normal) (s' := (KS2 off n c v x0 x1 x2 l e)) ((KR2 off n c v x0 x1 x2 l e).trans (by rw [condT (ibeq_t (by omega))])) ?_
  rw [KC1_0_1]; refine Gets.cond true (by kernel_rfl) (by kernel_rfl) ?_; show Gets _ _ (codeAt [1, 0, 1, 0] BK) _ _
  rw [KC1_0_1_0]; refine Gets.seq ?_
  refine Kgo (KR4 off n c v x0 x1 x2 l e) ?_
  rw [KC1_0_1_0_1]; refine Gets.ev fitK.mix fitK.cfg (fitK.sound kp_sound 40 0) 40 rfl (s' := KSt.low (KS4 off l e)) (x := .ret) rfl ?_
  exact hq
theorem Kin {n : Nat} {off : Nat} {l : List Int} {e : TypeId} {c : Nat} {v : Int} {x0 : Int} {x1 : Int} {x2 : Int} (h1 : 1 ≤ n) (h2 : n ≤ 20)   {Q : Ex → St → Prop} (hq : Gets Try.prog (KH.low ⟨1, 1, [(0, 0, .tail off .u8 l e)]⟩) (codeAt [1, 1, 1, 1, 0, 1] BK) (KSt.low (KS7 off n c v x0 x1 x2 l e)) (onN (fun s => Gets Try.prog (KH.low ⟨1, 1, [(0, 0, .tail off .u8 l e)]⟩) (codeAt [1, 1, 1, 1, 1] BK) s (Q)) (Q))) : Gets Try.prog (KH.low ⟨1, 1, [(0, 0, .tail off .u8 l e)]⟩) BK (KSt.low (KS0 off n c x0 x1 x2 v l e)) Q := by
  rw [KC]; refine Gets.seq ?_
  refine Kgo (KR1 off n c x0 x1 x2 v l e) ?_
  rw [KC1]; refine Gets.seq ?_
  rw [KC1_0]; refine Gets.seq ?_
  refine Kgo (x := .normal) (s' := (KS3 off n c v x0 x1 x2 l e)) ((KR2 off n c v x0 x1 x2 l e).trans (by rw [condF (ibeq_f (by omega))])) ?_
  rw [KC1_0_1]; refine Gets.cond false (by kernel_rfl) (KeX (b := (decide (((n : Nat) : Int) > 20))) (by kernel_rfl) ((show (decide (((n : Nat) : Int) > 20)) = false from decide_eq_false (by omega)))) ?_; show Gets _ _ (codeAt [1, 0, 1, 1] BK) _ _
  refine Kgo (KR5 off n c v x0 x1 x2 l e) ?_
  rw [KC1_1]; refine Gets.seq ?_
  refine Kgo (x := .normal) (s' := (KS5 off n c v x0 x1 x2 l e)) ((KR6 off n c v x0 x1 x2 l e).trans (by rw [condT (and_t (decide_eq_true (by omega)) (decide_eq_true (by omega)))])) ?_
  rw [KC1_1_1]; refine Gets.seq ?_
  refine Kgo (KR7 off n c v x0 x1 x2 l e) ?_
  rw [KC1_1_1_1]; refine Gets.seq ?_
  rw [KC1_1_1_1_0]; refine Gets.seq ?_
  refine Kgo (KR8 off n c v x0 x1 x2 l e) ?_
  exact hq
theorem Ka1 {l : List Int} {c : Nat} {n : Nat} {off : Nat} {v : Int} {x0 : Int} {x1 : Int} {x2 : Int} {e : TypeId} (hl : l.length = c) (hc : n ≤ c) (h2 : n ≤ 20) (h1 : 1 ≤ n)   {Q : Ex → St → Prop} (hq : Q .normal (KSt.low (KS12 off n c v l x0 x1 x2 e))) : Gets Try.prog (KH.low ⟨1, 1, [(0, 0, .tail off .u8 l e)]⟩) (codeAt [1, 1, 1, 1, 0, 1, 0, 0] BK) (KSt.low (KS7 off n c v x0 x1 x2 l e)) Q := by
  rw [KC1_1_1_1_0_1_0_0]; refine Gets.seq ?_
  rw [KC1_1_1_1_0_1_0_0_0]; refine Gets.seq ?_
  refine Kgo (KR9 off n c v x0 x1 x2 l e) ?_
  rw [KC1_1_1_1_0_1_0_0_0_1]; refine Gets.cond true (by kernel_rfl) (KeX (b := (decide (0 < ((n : Nat) : Int)))) (by kernel_rfl) ((show (decide (0 < ((n : Nat) : Int))) = true from decide_eq_true (by omega)))) ?_; show Gets _ _ (codeAt [1, 1, 1, 1, 0, 1, 0, 0, 0, 1, 0] BK) _ _
  refine Kgo (KR10 off n c v x0 x1 x2 l e) ?_
  rw [KC1_1_1_1_0_1_0_0_1]; refine Gets.seq ?_
  rw [KC1_1_1_1_0_1_0_0_1_0]; refine Gets.block ?_
  refine Kgo (x := .normal) (s' := (KS10 off n c v l x0 x1 x2 e)) ((KR11 off n c v x0 x1 x2 l e).trans (by rw [if_pos (⟨by omega, by omega⟩), condT (ble_t (by omega)), obind_at (k := 0) (by omega) (by omega)] <;> (show some (Ex.normal, (KS11 off n c v l x0 x1 x2 e)) = some (Ex.normal, (KS10 off n c v l x0 x1 x2 e)); unfold KS11 KS10; rw [(show (IntKind.wrap .i64 ((Int.tmod (IntKind.wrap .i64 (l.getD 0 0)) 16) + 1)) = (szK l 0) from rfl)]))) ?_
  refine Kgo (KR12 off n c v l x0 x1 x2 e) ?_
  exact hq
theorem Kb1 {l : List Int} {c : Nat} {n : Nat} {m : Nat} {q : List Int} {off : Nat} {v : Int} {S : ArSt} {x0 : Int} {x1 : Int} {x2 : Int} {e : TypeId} (hl : l.length = c) (hc : n ≤ c) (h2 : n ≤ 20) (hm : m < n) (hq : q.length = m) (h1 : 1 ≤ m)   {Q : Ex → St → Prop} (hq : Q .normal (KSt.low (KS21 off n c v m q S l x0 x1 x2 e))) : Gets Try.prog (KH.low ⟨1, 1, [(0, 0, .tail off .u8 l e)]⟩) (codeAt [1, 1, 1, 1, 0, 1, 0, 0] BK) (KSt.low (KS13 off n c v m q S x0 x1 x2 l e)) Q := by
  rw [KC1_1_1_1_0_1_0_0]; refine Gets.seq ?_
  rw [KC1_1_1_1_0_1_0_0_0]; refine Gets.seq ?_
  refine Kgo (KR13 off n c v m q S x0 x1 x2 l e) ?_
  rw [KC1_1_1_1_0_1_0_0_0_1]; refine Gets.cond true (by kernel_rfl) (KeX (b := (decide (((m : Nat) : Int) < ((n : Nat) : Int)))) (by kernel_rfl) ((show (decide (((m : Nat) : Int) < ((n : Nat) : Int))) = true from decide_eq_true (by omega)))) ?_; show Gets _ _ (codeAt [1, 1, 1, 1, 0, 1, 0, 0, 0, 1, 0] BK) _ _
  refine Kgo (KR14 off n c v m q S x0 x1 x2 l e) ?_
  rw [KC1_1_1_1_0_1_0_0_1]; refine Gets.seq ?_
  rw [KC1_1_1_1_0_1_0_0_1_0]; refine Gets.block ?_
  refine Kgo (x := .normal) (s' := (KS18 off n c v m q S l x0 x1 x2 e)) ((KR15 off n c v m q S x0 x1 x2 l e).trans (by rw [if_pos (⟨by omega, by omega⟩), condT (ble_t (by omega)), obind_at (k := ((Int.toNat ((m : Nat) : Int)) * 1)) (by omega) (by omega), condT (ble_t (by omega)), condF (ble_f (by omega)), condF (and_f1 (nbeq_f (by omega))), condT (and_t (ble_t (by (first | omega | ((try simp (disch := omega) only [wrap_i64_id]) <;> omega)))) (ble_t (by omega)))] <;> (show some (Ex.normal, (KS19 off n c v m q S l x0 x1 x2 e)) = some (Ex.normal, (KS18 off n c v m q S l x0 x1 x2 e)); unfold KS19 KS18; rw [(show ((Int.toNat ((m : Nat) : Int)) * 1) = m from by rw [Nat.mul_one]; rfl), (show (IntKind.wrap .i64 ((Int.tmod (IntKind.wrap .i64 (l.getD m 0)) 16) + 1)) = (szK l m) from rfl)]))) ?_
  refine Kgo (x := .normal) (s' := (KS21 off n c v m q S l x0 x1 x2 e)) ((KR16 off n c v m q S l x0 x1 x2 e).trans (by (show some (Ex.normal, (KS20 off n c v m q S l x0 x1 x2 e)) = some (Ex.normal, (KS21 off n c v m q S l x0 x1 x2 e)); unfold KS20 KS21; rw [(show (IntKind.wrap .i64 (((m : Nat) : Int) + 1)) = (((m : Nat) : Int) + 1) from wrap_i64_id (by omega) (by omega))]))) ?_
  exact hq
theorem Kbx {n : Nat} {m : Nat} {off : Nat} {c : Nat} {v : Int} {q : List Int} {S : ArSt} {x0 : Int} {x1 : Int} {x2 : Int} {l : List Int} {e : TypeId} (hm : n ≤ m)   {Q : Ex → St → Prop} (hq : Q (.exit 0) (KSt.low (KS14 off n c v m q S x0 x1 x2 l e))) : Gets Try.prog (KH.low ⟨1, 1, [(0, 0, .tail off .u8 l e)]⟩) (codeAt [1, 1, 1, 1, 0, 1, 0, 0] BK) (KSt.low (KS13 off n c v m q S x0 x1 x2 l e)) Q := by
  rw [KC1_1_1_1_0_1_0_0]; refine Gets.seq ?_
  rw [KC1_1_1_1_0_1_0_0_0]; refine Gets.seq ?_
  refine Kgo (KR13 off n c v m q S x0 x1 x2 l e) ?_
  rw [KC1_1_1_1_0_1_0_0_0_1]; refine Gets.cond false (by kernel_rfl) (KeX (b := (decide (((m : Nat) : Int) < ((n : Nat) : Int)))) (by kernel_rfl) ((show (decide (((m : Nat) : Int) < ((n : Nat) : Int))) = false from decide_eq_false (by omega)))) ?_; show Gets _ _ (codeAt [1, 1, 1, 1, 0, 1, 0, 0, 0, 1, 1] BK) _ _
  rw [KC1_1_1_1_0_1_0_0_0_1_1]; refine Gets.ev fitK.mix fitK.cfg (fitK.sound kp_sound 40 0) 40 rfl (s' := KSt.low (KS14 off n c v m q S x0 x1 x2 l e)) (x := (.exit 0)) rfl ?_
  exact hq
theorem Kst {l : List Int} {c : Nat} {n : Nat} {q : List Int} {x0 : Int} {k0 : Int} {x2 : Int} {o : Int} {sz : Int} {x1 : Int} {j0 : Int} {S : ArSt} {off : Nat} {e : TypeId} {v : Int} (hl : l.length = c) (hc : n ≤ c) (h1 : 1 ≤ n) (h2 : n ≤ 20) (hq : q.length = n) (hk : (Int.tmod (IntKind.wrap .i64 x0) ((n : Nat) : Int)) = k0) (ho : (Int.tmod (IntKind.wrap .i64 x2) ((n : Nat) : Int)) = o) (hk0 : 0 ≤ k0) (hk1 : k0 < (n : Int)) (hs : (IntKind.wrap .i64 ((Int.tmod (IntKind.wrap .i64 (l.getD k0.toNat 0)) 16) + 1)) = sz) (hs1 : 1 ≤ sz) (hj : (Int.tmod (IntKind.wrap .i64 x1) sz) = j0) (hE : ArSt.err S (q.getD (0 + k0.toNat) 0) j0 = 0)   {Q : Ex → St → Prop} (hq : Gets Try.prog (KH.low ⟨1, 1, [(0, 0, .tail off .u8 l e)]⟩) (codeAt [1, 1, 1, 1, 1, 1, 1, 1, 1, 1, 0, 1] BK) (KSt.low (KS36 off n c v k0 j0 o q S l e)) (onN (fun s => Gets Try.prog (KH.low ⟨1, 1, [(0, 0, .tail off .u8 l e)]⟩) (codeAt [1, 1, 1, 1, 1, 1, 1, 1, 1, 1, 1] BK) s (Q)) (Q))) : Gets Try.prog (KH.low ⟨1, 1, [(0, 0, .tail off .u8 l e)]⟩) (codeAt [1, 1, 1, 1, 1] BK) (KSt.low (KS22 off n c v q S x0 x1 x2 l e)) Q := by
  rw [KC1_1_1_1_1]; refine Gets.seq ?_
  refine Kgo (x := .normal) (s' := (KS24 off n c v k0 q S x0 x1 x2 l e)) ((KR17 off n c v q S x0 x1 x2 l e).trans (by rw [condF (decide_eq_false (by (first | (omega) | (simp only [Nat.mul_one]; omega) | ((try simp (disch := omega) only [wrap_i64_id]) <;> omega))))] <;> (show some (Ex.normal, (KS23 off n c v x0 q S x1 x2 l e)) = some (Ex.normal, (KS24 off n c v k0 q S x0 x1 x2 l e)); unfold KS23 KS24; rw [(show (Int.tmod (IntKind.wrap .i64 x0) ((n : Nat) : Int)) = k0 from hk)]))) ?_
  rw [KC1_1_1_1_1_1]; refine Gets.seq ?_
  refine Kgo (x := .normal) (s' := (KS26 off n c v k0 sz q S x0 x1 x2 l e)) ((KR18 off n c v k0 q S x0 x1 x2 l e).trans (by rw [if_pos (⟨by (first | (omega) | (simp only [Nat.mul_one]; omega) | ((try simp (disch := omega) only [wrap_i64_id]) <;> omega)), by (first | (omega) | (simp only [Nat.mul_one]; omega) | ((try simp (disch := omega) only [wrap_i64_id]) <;> omega))⟩), condT (ble_t (by (first | (omega) | (simp only [Nat.mul_one]; omega) | ((try simp (disch := omega) only [wrap_i64_id]) <;> omega)))), obind_at (k := ((Int.toNat k0) * 1)) (by (first | (omega) | (simp only [Nat.mul_one]; omega) | ((try simp (disch := omega) only [wrap_i64_id]) <;> omega))) (by (first | (omega) | (simp only [Nat.mul_one]; omega) | ((try simp (disch := omega) only [wrap_i64_id]) <;> omega)))] <;> (show some (Ex.normal, (KS27 off n c v k0 l q S x0 x1 x2 e)) = some (Ex.normal, (KS26 off n c v k0 sz q S x0 x1 x2 l e)); unfold KS27 KS26; rw [(show ((Int.toNat k0) * 1) = k0.toNat from Nat.mul_one _), (show (IntKind.wrap .i64 ((Int.tmod (IntKind.wrap .i64 (l.getD k0.toNat 0)) 16) + 1)) = sz from hs)]))) ?_
  rw [KC1_1_1_1_1_1_1]; refine Gets.seq ?_
  refine Kgo (x := .normal) (s' := (KS29 off n c v k0 j0 q S x0 x1 x2 l e)) ((KR19 off n c v k0 sz q S x0 x1 x2 l e).trans (by rw [condF (decide_eq_false (by (first | (omega) | (simp only [Nat.mul_one]; omega) | ((try simp (disch := omega) only [wrap_i64_id]) <;> omega))))] <;> (show some (Ex.normal, (KS28 off n c v k0 x1 sz q S x0 x2 l e)) = some (Ex.normal, (KS29 off n c v k0 j0 q S x0 x1 x2 l e)); unfold KS28 KS29; rw [(show (Int.tmod (IntKind.wrap .i64 x1) sz) = j0 from hj)]))) ?_
  rw [KC1_1_1_1_1_1_1_1]; refine Gets.seq ?_
  rw [KC1_1_1_1_1_1_1_1_0]; refine Gets.seq ?_
  refine Kgo (x := .normal) (s' := (KS31 off n c v k0 j0 S q x0 x1 x2 l e)) ((KR20 off n c v k0 j0 q S x0 x1 x2 l e).trans (by rw [if_pos (⟨by (first | (omega) | (simp only [Nat.mul_one]; omega) | ((try simp (disch := omega) only [wrap_i64_id]) <;> omega)), by (first | (omega) | (simp only [Nat.mul_one]; omega) | ((try simp (disch := omega) only [wrap_i64_id]) <;> omega))⟩), obind_at (k := 0 + ((Int.toNat k0) * 1)) (by (first | (omega) | (simp only [Nat.mul_one]; omega) | ((try simp (disch := omega) only [wrap_i64_id]) <;> omega))) (by (first | (omega) | (simp only [Nat.mul_one]; omega) | ((try simp (disch := omega) only [wrap_i64_id]) <;> omega)))] <;> (show some (Ex.normal, (KS32 off n c v k0 j0 S q x0 x1 x2 l e)) = some (Ex.normal, (KS31 off n c v k0 j0 S q x0 x1 x2 l e)); unfold KS32 KS31; rw [(show ((Int.toNat k0) * 1) = k0.toNat from Nat.mul_one _)]))) ?_
  rw [KC1_1_1_1_1_1_1_1_0_1]; refine Gets.cond false (by kernel_rfl) (KeX (b := ((ArSt.err S (q.getD (0 + k0.toNat) 0) j0) != 0)) (by kernel_rfl) ((show ((ArSt.err S (q.getD (0 + k0.toNat) 0) j0) != 0) = false from ibne_f (by (first | (omega) | (simp only [Nat.mul_one]; omega) | ((try simp (disch := omega) only [wrap_i64_id]) <;> omega)))))) ?_; show Gets _ _ (codeAt [1, 1, 1, 1, 1, 1, 1, 1, 0, 1, 1] BK) _ _
  refine Kgo (KR21 off n c v k0 j0 S q x0 x1 x2 l e) ?_
  rw [KC1_1_1_1_1_1_1_1_1]; refine Gets.seq ?_
  refine Kgo (x := .normal) (s' := (KS35 off n c v k0 j0 o q S l e)) ((KR22 off n c v k0 j0 q S x0 x1 x2 l e).trans (by rw [condF (decide_eq_false (by (first | (omega) | (simp only [Nat.mul_one]; omega) | ((try simp (disch := omega) only [wrap_i64_id]) <;> omega))))] <;> (show some (Ex.normal, (KS34 off n c v k0 j0 x2 q S l e)) = some (Ex.normal, (KS35 off n c v k0 j0 o q S l e)); unfold KS34 KS35; rw [(show (Int.tmod (IntKind.wrap .i64 x2) ((n : Nat) : Int)) = o from ho)]))) ?_
  rw [KC1_1_1_1_1_1_1_1_1_1]; refine Gets.seq ?_
  rw [KC1_1_1_1_1_1_1_1_1_1_0]; refine Gets.seq ?_
  refine Kgo (KR23 off n c v k0 j0 o q S l e) ?_
  exact hq
theorem Ko0 {a : Nat} {n : Nat} {off : Nat} {l : List Int} {e : TypeId} {c : Nat} {v : Int} {k0 : Int} {j0 : Int} {o : Int} {q : List Int} {S : ArSt} (ha : a < n)   {Q : Ex → St → Prop} (hq : Gets Try.prog (KH.low ⟨1, 1, [(0, 0, .tail off .u8 l e)]⟩) (codeAt [1, 1, 1, 1, 1, 1, 1, 1, 1, 1, 0, 1, 0, 0, 1, 0, 0, 1] BK) (KSt.low (KS39 off n c v k0 j0 o a q S l e)) (onB 3 (onN (fun s => Gets Try.prog (KH.low ⟨1, 1, [(0, 0, .tail off .u8 l e)]⟩) (codeAt [1, 1, 1, 1, 1, 1, 1, 1, 1, 1, 0, 1, 0, 0, 1, 1] BK) s (Q)) (Q)))) : Gets Try.prog (KH.low ⟨1, 1, [(0, 0, .tail off .u8 l e)]⟩) (codeAt [1, 1, 1, 1, 1, 1, 1, 1, 1, 1, 0, 1, 0, 0] BK) (KSt.low (KS37 off n c v k0 j0 o a q S l e)) Q := by
  rw [KC1_1_1_1_1_1_1_1_1_1_0_1_0_0]; refine Gets.seq ?_
  rw [KC1_1_1_1_1_1_1_1_1_1_0_1_0_0_0]; refine Gets.seq ?_
  refine Kgo (KR24 off n c v k0 j0 o a q S l e) ?_
  rw [KC1_1_1_1_1_1_1_1_1_1_0_1_0_0_0_1]; refine Gets.cond true (by kernel_rfl) (KeX (b := (decide (((a : Nat) : Int) < ((n : Nat) : Int)))) (by kernel_rfl) ((show (decide (((a : Nat) : Int) < ((n : Nat) : Int))) = true from decide_eq_true (by omega)))) ?_; show Gets _ _ (codeAt [1, 1, 1, 1, 1, 1, 1, 1, 1, 1, 0, 1, 0, 0, 0, 1, 0] BK) _ _
  refine Kgo (KR25 off n c v k0 j0 o a q S l e) ?_
  rw [KC1_1_1_1_1_1_1_1_1_1_0_1_0_0_1]; refine Gets.seq ?_
  rw [KC1_1_1_1_1_1_1_1_1_1_0_1_0_0_1_0]; refine Gets.block ?_
  rw [KC1_1_1_1_1_1_1_1_1_1_0_1_0_0_1_0_0]; refine Gets.seq ?_
  refine Kgo (KR26 off n c v k0 j0 o a q S l e) ?_
  exact hq
theorem Kox {n : Nat} {a : Nat} {off : Nat} {c : Nat} {v : Int} {k0 : Int} {j0 : Int} {o : Int} {q : List Int} {S : ArSt} {l : List Int} {e : TypeId} (ha : n ≤ a)   {Q : Ex → St → Prop} (hq : Q (.exit 2) (KSt.low (KS38 off n c v k0 j0 o a q S l e))) : Gets Try.prog (KH.low ⟨1, 1, [(0, 0, .tail off .u8 l e)]⟩) (codeAt [1, 1, 1, 1, 1, 1, 1, 1, 1, 1, 0, 1, 0, 0] BK) (KSt.low (KS37 off n c v k0 j0 o a q S l e)) Q := by
  rw [KC1_1_1_1_1_1_1_1_1_1_0_1_0_0]; refine Gets.seq ?_
  rw [KC1_1_1_1_1_1_1_1_1_1_0_1_0_0_0]; refine Gets.seq ?_
  refine Kgo (KR24 off n c v k0 j0 o a q S l e) ?_
  rw [KC1_1_1_1_1_1_1_1_1_1_0_1_0_0_0_1]; refine Gets.cond false (by kernel_rfl) (KeX (b := (decide (((a : Nat) : Int) < ((n : Nat) : Int)))) (by kernel_rfl) ((show (decide (((a : Nat) : Int) < ((n : Nat) : Int))) = false from decide_eq_false (by omega)))) ?_; show Gets _ _ (codeAt [1, 1, 1, 1, 1, 1, 1, 1, 1, 1, 0, 1, 0, 0, 0, 1, 1] BK) _ _
  rw [KC1_1_1_1_1_1_1_1_1_1_0_1_0_0_0_1_1]; refine Gets.ev fitK.mix fitK.cfg (fitK.sound kp_sound 40 0) 40 rfl (s' := KSt.low (KS38 off n c v k0 j0 o a q S l e)) (x := (.exit 2)) rfl ?_
  exact hq
theorem KiA {l : List Int} {c : Nat} {n : Nat} {q : List Int} {a : Nat} {z : Nat} {S : ArSt} {w : Int} {k0 : Int} {j0 : Int} {v : Int} {off : Nat} {o : Int} {e : TypeId} (hl : l.length = c) (hc : n ≤ c) (h2 : n ≤ 20) (hq : q.length = n) (ha : a < n) (hz : ((z : Nat) : Int) < szK l a) (hs : szK l a ≤ 16) (hE : ArSt.err S (q.getD (0 + a) 0) ((z : Nat) : Int) = 0) (hW : ArSt.loadV S (q.getD (0 + a) 0) ((z : Nat) : Int) = w) (hk : ((a : Nat) : Int) = k0) (hj : ((z : Nat) : Int) = j0) (hw : w = v)   {Q : Ex → St → Prop} (hq : Q .normal (KSt.low (KS51 off n c v k0 j0 o a z q S l e))) : Gets Try.prog (KH.low ⟨1, 1, [(0, 0, .tail off .u8 l e)]⟩) (codeAt [1, 1, 1, 1, 1, 1, 1, 1, 1, 1, 0, 1, 0, 0, 1, 0, 0, 1, 0, 0] BK) (KSt.low (KS40 off n c v k0 j0 o a z q S l e)) Q := by
  rw [KC1_1_1_1_1_1_1_1_1_1_0_1_0_0_1_0_0_1_0_0]; refine Gets.seq ?_
  rw [KC1_1_1_1_1_1_1_1_1_1_0_1_0_0_1_0_0_1_0_0_0]; refine Gets.seq ?_
  refine Kgo (x := .normal) (s' := (KS42 off n c v k0 j0 o a z l q S e)) ((KR27 off n c v k0 j0 o a z q S l e).trans (by rw [if_pos (⟨by omega, by omega⟩), condT (ble_t (by omega)), obind_at (k := ((Int.toNat ((a : Nat) : Int)) * 1)) (by omega) (by omega)] <;> (show some (Ex.normal, (KS43 off n c v k0 j0 o a z l q S e)) = some (Ex.normal, (KS42 off n c v k0 j0 o a z l q S e)); unfold KS43 KS42; rw [(show ((Int.toNat ((a : Nat) : Int)) * 1) = a from by rw [Nat.mul_one]; rfl), (show (IntKind.wrap .i64 ((Int.tmod (IntKind.wrap .i64 (l.getD a 0)) 16) + 1)) = (szK l a) from rfl)]))) ?_
  rw [KC1_1_1_1_1_1_1_1_1_1_0_1_0_0_1_0_0_1_0_0_0_1]; refine Gets.cond true (by kernel_rfl) (KeX (b := (decide (((z : Nat) : Int) < (szK l a)))) (by kernel_rfl) ((show (decide (((z : Nat) : Int) < (szK l a))) = true from decide_eq_true (by omega)))) ?_; show Gets _ _ (codeAt [1, 1, 1, 1, 1, 1, 1, 1, 1, 1, 0, 1, 0, 0, 1, 0, 0, 1, 0, 0, 0, 1, 0] BK) _ _
  refine Kgo (KR28 off n c v k0 j0 o a z l q S e) ?_
  rw [KC1_1_1_1_1_1_1_1_1_1_0_1_0_0_1_0_0_1_0_0_1]; refine Gets.seq ?_
  rw [KC1_1_1_1_1_1_1_1_1_1_0_1_0_0_1_0_0_1_0_0_1_0]; refine Gets.block ?_
  rw [KC1_1_1_1_1_1_1_1_1_1_0_1_0_0_1_0_0_1_0_0_1_0_0]; refine Gets.seq ?_
  refine Kgo (x := .normal) (s' := (KS45 off n c v k0 j0 o a z w q S l e)) ((KR29 off n c v k0 j0 o a z q S l e).trans (by rw [if_pos (⟨by omega, by omega⟩), obind_at (k := 0 + ((Int.toNat ((a : Nat) : Int)) * 1)) (by omega) (by omega)] <;> (show some (Ex.normal, (KS46 off n c v k0 j0 o a z S q l e)) = some (Ex.normal, (KS45 off n c v k0 j0 o a z w q S l e)); unfold KS46 KS45; rw [(show ((Int.toNat ((a : Nat) : Int)) * 1) = a from by rw [Nat.mul_one]; rfl), (show (ArSt.touch S (q.getD (0 + a) 0) ((z : Nat) : Int)) = S from ArSt.touch_ok hE), (show (ArSt.err S (q.getD (0 + a) 0) ((z : Nat) : Int)) = 0 from hE), (show (ArSt.loadV S (q.getD (0 + a) 0) ((z : Nat) : Int)) = w from hW)]))) ?_
  rw [KC1_1_1_1_1_1_1_1_1_1_0_1_0_0_1_0_0_1_0_0_1_0_0_1]; refine Gets.seq ?_
  refine Kgo (x := .normal) (s' := (KS49 off n c v k0 j0 o a z q S l e)) ((KR30 off n c v k0 j0 o a z w q S l e).trans (by rw [condT (ibeq_t (by omega)), condT (ibeq_t (by omega)), condF (ibne_f (by omega)), condF (ibne_f (by omega)), condF (ibne_f (by omega))])) ?_
  rw [KC1_1_1_1_1_1_1_1_1_1_0_1_0_0_1_0_0_1_0_0_1_0_0_1_1]; refine Gets.cond false (by kernel_rfl) (by kernel_rfl) ?_; show Gets _ _ (codeAt [1, 1, 1, 1, 1, 1, 1, 1, 1, 1, 0, 1, 0, 0, 1, 0, 0, 1, 0, 0, 1, 0, 0, 1, 1, 1] BK) _ _
  refine Kgo (KR31 off n c v k0 j0 o a z q S l e) ?_
  refine Kgo (x := .normal) (s' := (KS51 off n c v k0 j0 o a z q S l e)) ((KR32 off n c v k0 j0 o a z q S l e).trans (by (show some (Ex.normal, (KS50 off n c v k0 j0 o a z q S l e)) = some (Ex.normal, (KS51 off n c v k0 j0 o a z q S l e)); unfold KS50 KS51; rw [(show (IntKind.wrap .i64 (((z : Nat) : Int) + 1)) = (((z : Nat) : Int) + 1) from wrap_i64_id (by omega) (by omega))]))) ?_
  exact hq
theorem KiB {l : List Int} {c : Nat} {n : Nat} {q : List Int} {a : Nat} {z : Nat} {S : ArSt} {w : Int} {k0 : Int} {off : Nat} {v : Int} {j0 : Int} {o : Int} {e : TypeId} (hl : l.length = c) (hc : n ≤ c) (h2 : n ≤ 20) (hq : q.length = n) (ha : a < n) (hz : ((z : Nat) : Int) < szK l a) (hs : szK l a ≤ 16) (hE : ArSt.err S (q.getD (0 + a) 0) ((z : Nat) : Int) = 0) (hW : ArSt.loadV S (q.getD (0 + a) 0) ((z : Nat) : Int) = w) (hk : ¬ ((a : Nat) : Int) = k0) (hw : w = 0)   {Q : Ex → St → Prop} (hq : Q .normal (KSt.low (KS51 off n c v k0 j0 o a z q S l e))) : Gets Try.prog (KH.low ⟨1, 1, [(0, 0, .tail off .u8 l e)]⟩) (codeAt [1, 1, 1, 1, 1, 1, 1, 1, 1, 1, 0, 1, 0, 0, 1, 0, 0, 1, 0, 0] BK) (KSt.low (KS40 off n c v k0 j0 o a z q S l e)) Q := by
  rw [KC1_1_1_1_1_1_1_1_1_1_0_1_0_0_1_0_0_1_0_0]; refine Gets.seq ?_
  rw [KC1_1_1_1_1_1_1_1_1_1_0_1_0_0_1_0_0_1_0_0_0]; refine Gets.seq ?_
  refine Kgo (x := .normal) (s' := (KS42 off n c v k0 j0 o a z l q S e)) ((KR27 off n c v k0 j0 o a z q S l e).trans (by rw [if_pos (⟨by omega, by omega⟩), condT (ble_t (by omega)), obind_at (k := ((Int.toNat ((a : Nat) : Int)) * 1)) (by omega) (by omega)] <;> (show some (Ex.normal, (KS43 off n c v k0 j0 o a z l q S e)) = some (Ex.normal, (KS42 off n c v k0 j0 o a z l q S e)); unfold KS43 KS42; rw [(show ((Int.toNat ((a : Nat) : Int)) * 1) = a from by rw [Nat.mul_one]; rfl), (show (IntKind.wrap .i64 ((Int.tmod (IntKind.wrap .i64 (l.getD a 0)) 16) + 1)) = (szK l a) from rfl)]))) ?_
  rw [KC1_1_1_1_1_1_1_1_1_1_0_1_0_0_1_0_0_1_0_0_0_1]; refine Gets.cond true (by kernel_rfl) (KeX (b := (decide (((z : Nat) : Int) < (szK l a)))) (by kernel_rfl) ((show (decide (((z : Nat) : Int) < (szK l a))) = true from decide_eq_true (by omega)))) ?_; show Gets _ _ (codeAt [1, 1, 1, 1, 1, 1, 1, 1, 1, 1, 0, 1, 0, 0, 1, 0, 0, 1, 0, 0, 0, 1, 0] BK) _ _
  refine Kgo (KR28 off n c v k0 j0 o a z l q S e) ?_
  rw [KC1_1_1_1_1_1_1_1_1_1_0_1_0_0_1_0_0_1_0_0_1]; refine Gets.seq ?_
  rw [KC1_1_1_1_1_1_1_1_1_1_0_1_0_0_1_0_0_1_0_0_1_0]; refine Gets.block ?_
  rw [KC1_1_1_1_1_1_1_1_1_1_0_1_0_0_1_0_0_1_0_0_1_0_0]; refine Gets.seq ?_
  refine Kgo (x := .normal) (s' := (KS45 off n c v k0 j0 o a z w q S l e)) ((KR29 off n c v k0 j0 o a z q S l e).trans (by rw [if_pos (⟨by omega, by omega⟩), obind_at (k := 0 + ((Int.toNat ((a : Nat) : Int)) * 1)) (by omega) (by omega)] <;> (show some (Ex.normal, (KS46 off n c v k0 j0 o a z S q l e)) = some (Ex.normal, (KS45 off n c v k0 j0 o a z w q S l e)); unfold KS46 KS45; rw [(show ((Int.toNat ((a : Nat) : Int)) * 1) = a from by rw [Nat.mul_one]; rfl), (show (ArSt.touch S (q.getD (0 + a) 0) ((z : Nat) : Int)) = S from ArSt.touch_ok hE), (show (ArSt.err S (q.getD (0 + a) 0) ((z : Nat) : Int)) = 0 from hE), (show (ArSt.loadV S (q.getD (0 + a) 0) ((z : Nat) : Int)) = w from hW)]))) ?_
  rw [KC1_1_1_1_1_1_1_1_1_1_0_1_0_0_1_0_0_1_0_0_1_0_0_1]; refine Gets.seq ?_
  refine Kgo (x := .normal) (s' := (KS48 off n c v k0 j0 o a z w q S l e)) ((KR30 off n c v k0 j0 o a z w q S l e).trans (by rw [condF (ibeq_f (by omega)), condT (ibne_t (by omega))])) ?_
  rw [KC1_1_1_1_1_1_1_1_1_1_0_1_0_0_1_0_0_1_0_0_1_0_0_1_1]; refine Gets.cond false (by kernel_rfl) (KeX (b := (w != 0)) (by kernel_rfl) ((show (w != 0) = false from ibne_f (by omega)))) ?_; show Gets _ _ (codeAt [1, 1, 1, 1, 1, 1, 1, 1, 1, 1, 0, 1, 0, 0, 1, 0, 0, 1, 0, 0, 1, 0, 0, 1, 1, 1] BK) _ _
  refine Kgo (KR33 off n c v k0 j0 o a z w q S l e) ?_
  refine Kgo (x := .normal) (s' := (KS51 off n c v k0 j0 o a z q S l e)) ((KR32 off n c v k0 j0 o a z q S l e).trans (by (show some (Ex.normal, (KS50 off n c v k0 j0 o a z q S l e)) = some (Ex.normal, (KS51 off n c v k0 j0 o a z q S l e)); unfold KS50 KS51; rw [(show (IntKind.wrap .i64 (((z : Nat) : Int) + 1)) = (((z : Nat) : Int) + 1) from wrap_i64_id (by omega) (by omega))]))) ?_
  exact hq
theorem KiC {l : List Int} {c : Nat} {n : Nat} {q : List Int} {a : Nat} {z : Nat} {S : ArSt} {w : Int} {k0 : Int} {j0 : Int} {off : Nat} {v : Int} {o : Int} {e : TypeId} (hl : l.length = c) (hc : n ≤ c) (h2 : n ≤ 20) (hq : q.length = n) (ha : a < n) (hz : ((z : Nat) : Int) < szK l a) (hs : szK l a ≤ 16) (hE : ArSt.err S (q.getD (0 + a) 0) ((z : Nat) : Int) = 0) (hW : ArSt.loadV S (q.getD (0 + a) 0) ((z : Nat) : Int) = w) (hk : ((a : Nat) : Int) = k0) (hj : ¬ ((z : Nat) : Int) = j0) (hw : w = 0)   {Q : Ex → St → Prop} (hq : Q .normal (KSt.low (KS51 off n c v k0 j0 o a z q S l e))) : Gets Try.prog (KH.low ⟨1, 1, [(0, 0, .tail off .u8 l e)]⟩) (codeAt [1, 1, 1, 1, 1, 1, 1, 1, 1, 1, 0, 1, 0, 0, 1, 0, 0, 1, 0, 0] BK) (KSt.low (KS40 off n c v k0 j0 o a z q S l e)) Q := by
  rw [KC1_1_1_1_1_1_1_1_1_1_0_1_0_0_1_0_0_1_0_0]; refine Gets.seq ?_
  rw [KC1_1_1_1_1_1_1_1_1_1_0_1_0_0_1_0_0_1_0_0_0]; refine Gets.seq ?_
  refine Kgo (x := .normal) (s' := (KS42 off n c v k0 j0 o a z l q S e)) ((KR27 off n c v k0 j0 o a z q S l e).trans (by rw [if_pos (⟨by omega, by omega⟩), condT (ble_t (by omega)), obind_at (k := ((Int.toNat ((a : Nat) : Int)) * 1)) (by omega) (by omega)] <;> (show some (Ex.normal, (KS43 off n c v k0 j0 o a z l q S e)) = some (Ex.normal, (KS42 off n c v k0 j0 o a z l q S e)); unfold KS43 KS42; rw [(show ((Int.toNat ((a : Nat) : Int)) * 1) = a from by rw [Nat.mul_one]; rfl), (show (IntKind.wrap .i64 ((Int.tmod (IntKind.wrap .i64 (l.getD a 0)) 16) + 1)) = (szK l a) from rfl)]))) ?_
  rw [KC1_1_1_1_1_1_1_1_1_1_0_1_0_0_1_0_0_1_0_0_0_1]; refine Gets.cond true (by kernel_rfl) (KeX (b := (decide (((z : Nat) : Int) < (szK l a)))) (by kernel_rfl) ((show (decide (((z : Nat) : Int) < (szK l a))) = true from decide_eq_true (by omega)))) ?_; show Gets _ _ (codeAt [1, 1, 1, 1, 1, 1, 1, 1, 1, 1, 0, 1, 0, 0, 1, 0, 0, 1, 0, 0, 0, 1, 0] BK) _ _
  refine Kgo (KR28 off n c v k0 j0 o a z l q S e) ?_
  rw [KC1_1_1_1_1_1_1_1_1_1_0_1_0_0_1_0_0_1_0_0_1]; refine Gets.seq ?_
  rw [KC1_1_1_1_1_1_1_1_1_1_0_1_0_0_1_0_0_1_0_0_1_0]; refine Gets.block ?_
  rw [KC1_1_1_1_1_1_1_1_1_1_0_1_0_0_1_0_0_1_0_0_1_0_0]; refine Gets.seq ?_
  refine Kgo (x := .normal) (s' := (KS45 off n c v k0 j0 o a z w q S l e)) ((KR29 off n c v k0 j0 o a z q S l e).trans (by rw [if_pos (⟨by omega, by omega⟩), obind_at (k := 0 + ((Int.toNat ((a : Nat) : Int)) * 1)) (by omega) (by omega)] <;> (show some (Ex.normal, (KS46 off n c v k0 j0 o a z S q l e)) = some (Ex.normal, (KS45 off n c v k0 j0 o a z w q S l e)); unfold KS46 KS45; rw [(show ((Int.toNat ((a : Nat) : Int)) * 1) = a from by rw [Nat.mul_one]; rfl), (show (ArSt.touch S (q.getD (0 + a) 0) ((z : Nat) : Int)) = S from ArSt.touch_ok hE), (show (ArSt.err S (q.getD (0 + a) 0) ((z : Nat) : Int)) = 0 from hE), (show (ArSt.loadV S (q.getD (0 + a) 0) ((z : Nat) : Int)) = w from hW)]))) ?_
  rw [KC1_1_1_1_1_1_1_1_1_1_0_1_0_0_1_0_0_1_0_0_1_0_0_1]; refine Gets.seq ?_
  refine Kgo (x := .normal) (s' := (KS48 off n c v k0 j0 o a z w q S l e)) ((KR30 off n c v k0 j0 o a z w q S l e).trans (by rw [condT (ibeq_t (by omega)), condF (ibeq_f (by omega)), condF (ibne_f (by omega)), condT (ibne_t (by omega))])) ?_
  rw [KC1_1_1_1_1_1_1_1_1_1_0_1_0_0_1_0_0_1_0_0_1_0_0_1_1]; refine Gets.cond false (by kernel_rfl) (KeX (b := (w != 0)) (by kernel_rfl) ((show (w != 0) = false from ibne_f (by omega)))) ?_; show Gets _ _ (codeAt [1, 1, 1, 1, 1, 1, 1, 1, 1, 1, 0, 1, 0, 0, 1, 0, 0, 1, 0, 0, 1, 0, 0, 1, 1, 1] BK) _ _
  refine Kgo (KR33 off n c v k0 j0 o a z w q S l e) ?_
  refine Kgo (x := .normal) (s' := (KS51 off n c v k0 j0 o a z q S l e)) ((KR32 off n c v k0 j0 o a z q S l e).trans (by (show some (Ex.normal, (KS50 off n c v k0 j0 o a z q S l e)) = some (Ex.normal, (KS51 off n c v k0 j0 o a z q S l e)); unfold KS50 KS51; rw [(show (IntKind.wrap .i64 (((z : Nat) : Int) + 1)) = (((z : Nat) : Int) + 1) from wrap_i64_id (by omega) (by omega))]))) ?_
  exact hq
theorem Kix {l : List Int} {c : Nat} {n : Nat} {q : List Int} {a : Nat} {z : Nat} {off : Nat} {v : Int} {k0 : Int} {j0 : Int} {o : Int} {S : ArSt} {e : TypeId} (hl : l.length = c) (hc : n ≤ c) (h2 : n ≤ 20) (hq : q.length = n) (ha : a < n) (hz : ¬ ((z : Nat) : Int) < szK l a)   {Q : Ex → St → Prop} (hq : Q (.exit 4) (KSt.low (KS42 off n c v k0 j0 o a z l q S e))) : Gets Try.prog (KH.low ⟨1, 1, [(0, 0, .tail off .u8 l e)]⟩) (codeAt [1, 1, 1, 1, 1, 1, 1, 1, 1, 1, 0, 1, 0, 0, 1, 0, 0, 1, 0, 0] BK) (KSt.low (KS40 off n c v k0 j0 o a z q S l e)) Q := by
  rw [KC1_1_1_1_1_1_1_1_1_1_0_1_0_0_1_0_0_1_0_0]; refine Gets.seq ?_
  rw [KC1_1_1_1_1_1_1_1_1_1_0_1_0_0_1_0_0_1_0_0_0]; refine Gets.seq ?_
  refine Kgo (x := .normal) (s' := (KS42 off n c v k0 j0 o a z l q S e)) ((KR27 off n c v k0 j0 o a z q S l e).trans (by rw [if_pos (⟨by omega, by omega⟩), condT (ble_t (by omega)), obind_at (k := ((Int.toNat ((a : Nat) : Int)) * 1)) (by omega) (by omega)] <;> (show some (Ex.normal, (KS43 off n c v k0 j0 o a z l q S e)) = some (Ex.normal, (KS42 off n c v k0 j0 o a z l q S e)); unfold KS43 KS42; rw [(show ((Int.toNat ((a : Nat) : Int)) * 1) = a from by rw [Nat.mul_one]; rfl), (show (IntKind.wrap .i64 ((Int.tmod (IntKind.wrap .i64 (l.getD a 0)) 16) + 1)) = (szK l a) from rfl)]))) ?_
  rw [KC1_1_1_1_1_1_1_1_1_1_0_1_0_0_1_0_0_1_0_0_0_1]; refine Gets.cond false (by kernel_rfl) (KeX (b := (decide (((z : Nat) : Int) < (szK l a)))) (by kernel_rfl) ((show (decide (((z : Nat) : Int) < (szK l a))) = false from decide_eq_false (by omega)))) ?_; show Gets _ _ (codeAt [1, 1, 1, 1, 1, 1, 1, 1, 1, 1, 0, 1, 0, 0, 1, 0, 0, 1, 0, 0, 0, 1, 1] BK) _ _
  rw [KC1_1_1_1_1_1_1_1_1_1_0_1_0_0_1_0_0_1_0_0_0_1_1]; refine Gets.ev fitK.mix fitK.cfg (fitK.sound kp_sound 40 0) 40 rfl (s' := KSt.low (KS42 off n c v k0 j0 o a z l q S e)) (x := (.exit 4)) rfl ?_
  exact hq
theorem Ko2 {a : Nat} {off : Nat} {n : Nat} {c : Nat} {v : Int} {k0 : Int} {j0 : Int} {o : Int} {q : List Int} {S : ArSt} {l : List Int} {e : TypeId} {z : Nat} (ha : a ≤ 20)   {Q : Ex → St → Prop} (hq : Q .normal (KSt.low (KS53 off n c v k0 j0 o a q S l e))) : Gets Try.prog (KH.low ⟨1, 1, [(0, 0, .tail off .u8 l e)]⟩) (codeAt [1, 1, 1, 1, 1, 1, 1, 1, 1, 1, 0, 1, 0, 0, 1, 1] BK) (KSt.low (KS42 off n c v k0 j0 o a z l q S e)) Q := by
  refine Kgo (x := .normal) (s' := (KS53 off n c v k0 j0 o a q S l e)) ((KR34 off n c v k0 j0 o a z l q S e).trans (by (show some (Ex.normal, (KS52 off n c v k0 j0 o a q S l e)) = some (Ex.normal, (KS53 off n c v k0 j0 o a q S l e)); unfold KS52 KS53; rw [(show (IntKind.wrap .i64 (((a : Nat) : Int) + 1)) = (((a : Nat) : Int) + 1) from wrap_i64_id (by omega) (by omega))]))) ?_
  exact hq
theorem Ke1 {q : List Int} {n : Nat} {k0 : Int} {o : Int} {bo : Int} {bk : Int} {S : ArSt} {S1 : ArSt} {S2 : ArSt} {nx : Int} {S3 : ArSt} {S4 : ArSt} {j0 : Int} {S5 : ArSt} {v : Int} {off : Nat} {l : List Int} {e : TypeId} {c : Nat} {a : Nat} (hq : q.length = n) (hk0 : 0 ≤ k0) (hk1 : k0 < (n : Int)) (ho0 : 0 ≤ o) (ho1 : o < (n : Int)) (hbo : q.getD (0 + o.toNat) 0 = bo) (hbk : q.getD (0 + k0.toNat) 0 = bk) (hf0 : ArSt.freeE S bo = 0) (hS1 : ArSt.free S bo = S1) (hf1 : ArSt.freeE S1 bo = 13) (hS2 : ArSt.free S1 bo = S2) (hnx : ArSt.allocV S2 1 = nx) (hS3 : ArSt.alloc S2 1 = S3) (he3 : ArSt.err S3 bo 0 = 13) (hS4 : ArSt.touch S3 bo 0 = S4) (hS5 : ArSt.touch S4 bk j0 = S5) (hno : ¬ nx = bo) (he5 : ArSt.err S5 bo 0 = 13) (hko : ¬ k0 = o) (hz : ArSt.err S4 bk j0 = 0) (hv : ArSt.loadV S4 bk j0 = v)   {Q : Ex → St → Prop} (hq : Q .ret (KSt.low (KS4 off l e))) : Gets Try.prog (KH.low ⟨1, 1, [(0, 0, .tail off .u8 l e)]⟩) (codeAt [1, 1, 1, 1, 1, 1, 1, 1, 1, 1, 1] BK) (KSt.low (KS38 off n c v k0 j0 o a q S l e)) Q := by
  rw [KC1_1_1_1_1_1_1_1_1_1_1]; refine Gets.seq ?_
  rw [KC1_1_1_1_1_1_1_1_1_1_1_0]; refine Gets.seq ?_
  refine Kgo (x := .normal) (s' := (KS56 v n k0 j0 o S1 bo q S2 off l e)) ((KR35 off n c v k0 j0 o a q S l e).trans (by rw [if_pos (⟨by (first | (omega) | (simp only [Nat.mul_one, hbo, hbk, hS1, hS2, hS3, hS4, hS5, hnx]; omega) | ((try simp (disch := omega) only [wrap_i64_id]) <;> omega)), by (first | (omega) | (simp only [Nat.mul_one, hbo, hbk, hS1, hS2, hS3, hS4, hS5, hnx]; omega) | ((try simp (disch := omega) only [wrap_i64_id]) <;> omega))⟩), obind_at (k := 0 + ((Int.toNat o) * 1)) (by (first | (omega) | (simp only [Nat.mul_one, hbo, hbk, hS1, hS2, hS3, hS4, hS5, hnx]; omega) | ((try simp (disch := omega) only [wrap_i64_id]) <;> omega))) (by (first | (omega) | (simp only [Nat.mul_one, hbo, hbk, hS1, hS2, hS3, hS4, hS5, hnx]; omega) | ((try simp (disch := omega) only [wrap_i64_id]) <;> omega))), condF (ibne_f (by (first | (omega) | (simp only [Nat.mul_one, hbo, hbk, hS1, hS2, hS3, hS4, hS5, hnx]; omega) | ((try simp (disch := omega) only [wrap_i64_id]) <;> omega)))), if_pos (⟨by (first | (omega) | (simp only [Nat.mul_one, hbo, hbk, hS1, hS2, hS3, hS4, hS5, hnx]; omega) | ((try simp (disch := omega) only [wrap_i64_id]) <;> omega)), by (first | (omega) | (simp only [Nat.mul_one, hbo, hbk, hS1, hS2, hS3, hS4, hS5, hnx]; omega) | ((try simp (disch := omega) only [wrap_i64_id]) <;> omega))⟩), obind_at (k := 0 + ((Int.toNat o) * 1)) (by (first | (omega) | (simp only [Nat.mul_one, hbo, hbk, hS1, hS2, hS3, hS4, hS5, hnx]; omega) | ((try simp (disch := omega) only [wrap_i64_id]) <;> omega))) (by (first | (omega) | (simp only [Nat.mul_one, hbo, hbk, hS1, hS2, hS3, hS4, hS5, hnx]; omega) | ((try simp (disch := omega) only [wrap_i64_id]) <;> omega)))] <;> (show some (Ex.normal, (KS57 v n k0 j0 o S q off l e)) = some (Ex.normal, (KS56 v n k0 j0 o S1 bo q S2 off l e)); unfold KS57 KS56; rw [(show ((Int.toNat o) * 1) = o.toNat from Nat.mul_one _), (show (q.getD (0 + o.toNat) 0) = bo from hbo), (show (ArSt.free S bo) = S1 from hS1), (show (ArSt.free S1 bo) = S2 from hS2)]))) ?_
  rw [KC1_1_1_1_1_1_1_1_1_1_1_0_1]; refine Gets.cond false (by kernel_rfl) (KeX (b := ((ArSt.freeE S1 bo) != 13)) (by kernel_rfl) ((show ((ArSt.freeE S1 bo) != 13) = false from ibne_f (by (first | (omega) | (simp only [Nat.mul_one, hbo, hbk, hS1, hS2, hS3, hS4, hS5, hnx]; omega) | ((try simp (disch := omega) only [wrap_i64_id]) <;> omega)))))) ?_; show Gets _ _ (codeAt [1, 1, 1, 1, 1, 1, 1, 1, 1, 1, 1, 0, 1, 1] BK) _ _
  refine Kgo (KR36 v n k0 j0 o S1 bo q S2 off l e) ?_
  rw [KC1_1_1_1_1_1_1_1_1_1_1_1]; refine Gets.seq ?_
  refine Kgo (x := .normal) (s' := (KS60 v n k0 j0 o nx q S3 off l e)) ((KR37 v n k0 j0 o q S2 off l e).trans (by (show some (Ex.normal, (KS59 v n k0 j0 o S2 q off l e)) = some (Ex.normal, (KS60 v n k0 j0 o nx q S3 off l e)); unfold KS59 KS60; rw [(show (ArSt.alloc S2 1) = S3 from hS3), (show (ArSt.allocV S2 1) = nx from hnx)]))) ?_
  rw [KC1_1_1_1_1_1_1_1_1_1_1_1_1]; refine Gets.seq ?_
  refine Kgo (x := .normal) (s' := (KS62 v n k0 j0 o nx q S4 off l e)) ((KR38 v n k0 j0 o nx q S3 off l e).trans (by rw [if_pos (⟨by (first | (omega) | (simp only [Nat.mul_one, hbo, hbk, hS1, hS2, hS3, hS4, hS5, hnx]; omega) | ((try simp (disch := omega) only [wrap_i64_id]) <;> omega)), by (first | (omega) | (simp only [Nat.mul_one, hbo, hbk, hS1, hS2, hS3, hS4, hS5, hnx]; omega) | ((try simp (disch := omega) only [wrap_i64_id]) <;> omega))⟩), obind_at (k := 0 + ((Int.toNat o) * 1)) (by (first | (omega) | (simp only [Nat.mul_one, hbo, hbk, hS1, hS2, hS3, hS4, hS5, hnx]; omega) | ((try simp (disch := omega) only [wrap_i64_id]) <;> omega))) (by (first | (omega) | (simp only [Nat.mul_one, hbo, hbk, hS1, hS2, hS3, hS4, hS5, hnx]; omega) | ((try simp (disch := omega) only [wrap_i64_id]) <;> omega)))] <;> (show some (Ex.normal, (KS63 v n k0 j0 o nx S3 q off l e)) = some (Ex.normal, (KS62 v n k0 j0 o nx q S4 off l e)); unfold KS63 KS62; rw [(show ((Int.toNat o) * 1) = o.toNat from Nat.mul_one _), (show (q.getD (0 + o.toNat) 0) = bo from hbo), (show (ArSt.touch S3 bo 0) = S4 from hS4), (show (ArSt.err S3 bo 0) = 13 from he3)]))) ?_
  rw [KC1_1_1_1_1_1_1_1_1_1_1_1_1_1]; refine Gets.seq ?_
  refine Kgo (x := .normal) (s' := (KS65 v n k0 o nx S4 bk j0 q S5 off l e)) ((KR39 v n k0 j0 o nx q S4 off l e).trans (by rw [if_pos (⟨by (first | (omega) | (simp only [Nat.mul_one, hbo, hbk, hS1, hS2, hS3, hS4, hS5, hnx]; omega) | ((try simp (disch := omega) only [wrap_i64_id]) <;> omega)), by (first | (omega) | (simp only [Nat.mul_one, hbo, hbk, hS1, hS2, hS3, hS4, hS5, hnx]; omega) | ((try simp (disch := omega) only [wrap_i64_id]) <;> omega))⟩), obind_at (k := 0 + ((Int.toNat k0) * 1)) (by (first | (omega) | (simp only [Nat.mul_one, hbo, hbk, hS1, hS2, hS3, hS4, hS5, hnx]; omega) | ((try simp (disch := omega) only [wrap_i64_id]) <;> omega))) (by (first | (omega) | (simp only [Nat.mul_one, hbo, hbk, hS1, hS2, hS3, hS4, hS5, hnx]; omega) | ((try simp (disch := omega) only [wrap_i64_id]) <;> omega)))] <;> (show some (Ex.normal, (KS66 v n k0 o nx S4 q j0 off l e)) = some (Ex.normal, (KS65 v n k0 o nx S4 bk j0 q S5 off l e)); unfold KS66 KS65; rw [(show ((Int.toNat k0) * 1) = k0.toNat from Nat.mul_one _), (show (q.getD (0 + k0.toNat) 0) = bk from hbk), (show (ArSt.touch S4 bk j0) = S5 from hS5)]))) ?_
  rw [KC1_1_1_1_1_1_1_1_1_1_1_1_1_1_1]; refine Gets.seq ?_
  rw [KC1_1_1_1_1_1_1_1_1_1_1_1_1_1_1_0]; refine Gets.seq ?_
  refine Kgo (x := .normal) (s' := (KS69 v k0 o S4 bk j0 S5 bo off l e)) ((KR40 v n k0 o nx S4 bk j0 q S5 off l e).trans (by rw [if_pos (⟨by (first | (omega) | (simp only [Nat.mul_one, hbo, hbk, hS1, hS2, hS3, hS4, hS5, hnx]; omega) | ((try simp (disch := omega) only [wrap_i64_id]) <;> omega)), by (first | (omega) | (simp only [Nat.mul_one, hbo, hbk, hS1, hS2, hS3, hS4, hS5, hnx]; omega) | ((try simp (disch := omega) only [wrap_i64_id]) <;> omega))⟩), obind_at (k := 0 + ((Int.toNat o) * 1)) (by (first | (omega) | (simp only [Nat.mul_one, hbo, hbk, hS1, hS2, hS3, hS4, hS5, hnx]; omega) | ((try simp (disch := omega) only [wrap_i64_id]) <;> omega))) (by (first | (omega) | (simp only [Nat.mul_one, hbo, hbk, hS1, hS2, hS3, hS4, hS5, hnx]; omega) | ((try simp (disch := omega) only [wrap_i64_id]) <;> omega))), condF (ibeq_f (by (first | (omega) | (simp only [Nat.mul_one, hbo, hbk, hS1, hS2, hS3, hS4, hS5, hnx]; omega) | ((try simp (disch := omega) only [wrap_i64_id]) <;> omega)))), if_pos (⟨by (first | (omega) | (simp only [Nat.mul_one, hbo, hbk, hS1, hS2, hS3, hS4, hS5, hnx]; omega) | ((try simp (disch := omega) only [wrap_i64_id]) <;> omega)), by (first | (omega) | (simp only [Nat.mul_one, hbo, hbk, hS1, hS2, hS3, hS4, hS5, hnx]; omega) | ((try simp (disch := omega) only [wrap_i64_id]) <;> omega))⟩), obind_at (k := 0 + ((Int.toNat o) * 1)) (by (first | (omega) | (simp only [Nat.mul_one, hbo, hbk, hS1, hS2, hS3, hS4, hS5, hnx]; omega) | ((try simp (disch := omega) only [wrap_i64_id]) <;> omega))) (by (first | (omega) | (simp only [Nat.mul_one, hbo, hbk, hS1, hS2, hS3, hS4, hS5, hnx]; omega) | ((try simp (disch := omega) only [wrap_i64_id]) <;> omega)))] <;> (show some (Ex.normal, (KS70 v k0 o S4 bk j0 S5 q off l e)) = some (Ex.normal, (KS69 v k0 o S4 bk j0 S5 bo off l e)); unfold KS70 KS69; rw [(show ((Int.toNat o) * 1) = o.toNat from Nat.mul_one _), (show (q.getD (0 + o.toNat) 0) = bo from hbo)]))) ?_
  rw [KC1_1_1_1_1_1_1_1_1_1_1_1_1_1_1_0_1]; refine Gets.cond false (by kernel_rfl) (KeX (b := ((ArSt.err S5 bo 0) != 13)) (by kernel_rfl) ((show ((ArSt.err S5 bo 0) != 13) = false from ibne_f (by (first | (omega) | (simp only [Nat.mul_one, hbo, hbk, hS1, hS2, hS3, hS4, hS5, hnx]; omega) | ((try simp (disch := omega) only [wrap_i64_id]) <;> omega)))))) ?_; show Gets _ _ (codeAt [1, 1, 1, 1, 1, 1, 1, 1, 1, 1, 1, 1, 1, 1, 1, 0, 1, 1] BK) _ _
  refine Kgo (KR41 v k0 o S4 bk j0 S5 bo off l e) ?_
  rw [KC1_1_1_1_1_1_1_1_1_1_1_1_1_1_1_1]; refine Gets.seq ?_
  refine Kgo (x := .normal) (s' := (KS4 off l e)) ((KR42 v k0 o S4 bk j0 off l e).trans (by rw [condF (ibeq_f (by (first | (omega) | (simp only [Nat.mul_one, hbo, hbk, hS1, hS2, hS3, hS4, hS5, hnx]; omega) | ((try simp (disch := omega) only [wrap_i64_id]) <;> omega)))), condT (ibne_t (by (first | (omega) | (simp only [Nat.mul_one, hbo, hbk, hS1, hS2, hS3, hS4, hS5, hnx]; omega) | ((try simp (disch := omega) only [wrap_i64_id]) <;> omega)))), condT (ibeq_t (by (first | (omega) | (simp only [Nat.mul_one, hbo, hbk, hS1, hS2, hS3, hS4, hS5, hnx]; omega) | ((try simp (disch := omega) only [wrap_i64_id]) <;> omega)))), condT (ibeq_t (by (first | (omega) | (simp only [Nat.mul_one, hbo, hbk, hS1, hS2, hS3, hS4, hS5, hnx]; omega) | ((try simp (disch := omega) only [wrap_i64_id]) <;> omega))))])) ?_
  rw [KC1_1_1_1_1_1_1_1_1_1_1_1_1_1_1_1_1]; refine Gets.ev fitK.mix fitK.cfg (fitK.sound kp_sound 40 0) 40 rfl (s' := KSt.low (KS4 off l e)) (x := .ret) rfl ?_
  exact hq
theorem Ke2 {q : List Int} {n : Nat} {k0 : Int} {o : Int} {bo : Int} {bk : Int} {S : ArSt} {S1 : ArSt} {S2 : ArSt} {nx : Int} {S3 : ArSt} {S4 : ArSt} {j0 : Int} {S5 : ArSt} {off : Nat} {l : List Int} {e : TypeId} {c : Nat} {v : Int} {a : Nat} (hq : q.length = n) (hk0 : 0 ≤ k0) (hk1 : k0 < (n : Int)) (ho0 : 0 ≤ o) (ho1 : o < (n : Int)) (hbo : q.getD (0 + o.toNat) 0 = bo) (hbk : q.getD (0 + k0.toNat) 0 = bk) (hf0 : ArSt.freeE S bo = 0) (hS1 : ArSt.free S bo = S1) (hf1 : ArSt.freeE S1 bo = 13) (hS2 : ArSt.free S1 bo = S2) (hnx : ArSt.allocV S2 1 = nx) (hS3 : ArSt.alloc S2 1 = S3) (he3 : ArSt.err S3 bo 0 = 13) (hS4 : ArSt.touch S3 bo 0 = S4) (hS5 : ArSt.touch S4 bk j0 = S5) (hno : ¬ nx = bo) (he5 : ArSt.err S5 bo 0 = 13) (hko : k0 = o) (hz : ArSt.err S4 bk j0 = 13)   {Q : Ex → St → Prop} (hq : Q .ret (KSt.low (KS4 off l e))) : Gets Try.prog (KH.low ⟨1, 1, [(0, 0, .tail off .u8 l e)]⟩) (codeAt [1, 1, 1, 1, 1, 1, 1, 1, 1, 1, 1] BK) (KSt.low (KS38 off n c v k0 j0 o a q S l e)) Q := by
  rw [KC1_1_1_1_1_1_1_1_1_1_1]; refine Gets.seq ?_
  rw [KC1_1_1_1_1_1_1_1_1_1_1_0]; refine Gets.seq ?_
  refine Kgo (x := .normal) (s' := (KS56 v n k0 j0 o S1 bo q S2 off l e)) ((KR35 off n c v k0 j0 o a q S l e).trans (by rw [if_pos (⟨by (first | (omega) | (simp only [Nat.mul_one, hbo, hbk, hS1, hS2, hS3, hS4, hS5, hnx]; omega) | ((try simp (disch := omega) only [wrap_i64_id]) <;> omega)), by (first | (omega) | (simp only [Nat.mul_one, hbo, hbk, hS1, hS2, hS3, hS4, hS5, hnx]; omega) | ((try simp (disch := omega) only [wrap_i64_id]) <;> omega))⟩), obind_at (k := 0 + ((Int.toNat o) * 1)) (by (first | (omega) | (simp only [Nat.mul_one, hbo, hbk, hS1, hS2, hS3, hS4, hS5, hnx]; omega) | ((try simp (disch := omega) only [wrap_i64_id]) <;> omega))) (by (first | (omega) | (simp only [Nat.mul_one, hbo, hbk, hS1, hS2, hS3, hS4, hS5, hnx]; omega) | ((try simp (disch := omega) only [wrap_i64_id]) <;> omega))), condF (ibne_f (by (first | (omega) | (simp only [Nat.mul_one, hbo, hbk, hS1, hS2, hS3, hS4, hS5, hnx]; omega) | ((try simp (disch := omega) only [wrap_i64_id]) <;> omega)))), if_pos (⟨by (first | (omega) | (simp only [Nat.mul_one, hbo, hbk, hS1, hS2, hS3, hS4, hS5, hnx]; omega) | ((try simp (disch := omega) only [wrap_i64_id]) <;> omega)), by (first | (omega) | (simp only [Nat.mul_one, hbo, hbk, hS1, hS2, hS3, hS4, hS5, hnx]; omega) | ((try simp (disch := omega) only [wrap_i64_id]) <;> omega))⟩), obind_at (k := 0 + ((Int.toNat o) * 1)) (by (first | (omega) | (simp only [Nat.mul_one, hbo, hbk, hS1, hS2, hS3, hS4, hS5, hnx]; omega) | ((try simp (disch := omega) only [wrap_i64_id]) <;> omega))) (by (first | (omega) | (simp only [Nat.mul_one, hbo, hbk, hS1, hS2, hS3, hS4, hS5, hnx]; omega) | ((try simp (disch := omega) only [wrap_i64_id]) <;> omega)))] <;> (show some (Ex.normal, (KS57 v n k0 j0 o S q off l e)) = some (Ex.normal, (KS56 v n k0 j0 o S1 bo q S2 off l e)); unfold KS57 KS56; rw [(show ((Int.toNat o) * 1) = o.toNat from Nat.mul_one _), (show (q.getD (0 + o.toNat) 0) = bo from hbo), (show (ArSt.free S bo) = S1 from hS1), (show (ArSt.free S1 bo) = S2 from hS2)]))) ?_
  rw [KC1_1_1_1_1_1_1_1_1_1_1_0_1]; refine Gets.cond false (by kernel_rfl) (KeX (b := ((ArSt.freeE S1 bo) != 13)) (by kernel_rfl) ((show ((ArSt.freeE S1 bo) != 13) = false from ibne_f (by (first | (omega) | (simp only [Nat.mul_one, hbo, hbk, hS1, hS2, hS3, hS4, hS5, hnx]; omega) | ((try simp (disch := omega) only [wrap_i64_id]) <;> omega)))))) ?_; show Gets _ _ (codeAt [1, 1, 1, 1, 1, 1, 1, 1, 1, 1, 1, 0, 1, 1] BK) _ _
  refine Kgo (KR36 v n k0 j0 o S1 bo q S2 off l e) ?_
  rw [KC1_1_1_1_1_1_1_1_1_1_1_1]; refine Gets.seq ?_
  refine Kgo (x := .normal) (s' := (KS60 v n k0 j0 o nx q S3 off l e)) ((KR37 v n k0 j0 o q S2 off l e).trans (by (show some (Ex.normal, (KS59 v n k0 j0 o S2 q off l e)) = some (Ex.normal, (KS60 v n k0 j0 o nx q S3 off l e)); unfold KS59 KS60; rw [(show (ArSt.alloc S2 1) = S3 from hS3), (show (ArSt.allocV S2 1) = nx from hnx)]))) ?_
  rw [KC1_1_1_1_1_1_1_1_1_1_1_1_1]; refine Gets.seq ?_
  refine Kgo (x := .normal) (s' := (KS62 v n k0 j0 o nx q S4 off l e)) ((KR38 v n k0 j0 o nx q S3 off l e).trans (by rw [if_pos (⟨by (first | (omega) | (simp only [Nat.mul_one, hbo, hbk, hS1, hS2, hS3, hS4, hS5, hnx]; omega) | ((try simp (disch := omega) only [wrap_i64_id]) <;> omega)), by (first | (omega) | (simp only [Nat.mul_one, hbo, hbk, hS1, hS2, hS3, hS4, hS5, hnx]; omega) | ((try simp (disch := omega) only [wrap_i64_id]) <;> omega))⟩), obind_at (k := 0 + ((Int.toNat o) * 1)) (by (first | (omega) | (simp only [Nat.mul_one, hbo, hbk, hS1, hS2, hS3, hS4, hS5, hnx]; omega) | ((try simp (disch := omega) only [wrap_i64_id]) <;> omega))) (by (first | (omega) | (simp only [Nat.mul_one, hbo, hbk, hS1, hS2, hS3, hS4, hS5, hnx]; omega) | ((try simp (disch := omega) only [wrap_i64_id]) <;> omega)))] <;> (show some (Ex.normal, (KS63 v n k0 j0 o nx S3 q off l e)) = some (Ex.normal, (KS62 v n k0 j0 o nx q S4 off l e)); unfold KS63 KS62; rw [(show ((Int.toNat o) * 1) = o.toNat from Nat.mul_one _), (show (q.getD (0 + o.toNat) 0) = bo from hbo), (show (ArSt.touch S3 bo 0) = S4 from hS4), (show (ArSt.err S3 bo 0) = 13 from he3)]))) ?_
  rw [KC1_1_1_1_1_1_1_1_1_1_1_1_1_1]; refine Gets.seq ?_
  refine Kgo (x := .normal) (s' := (KS65 v n k0 o nx S4 bk j0 q S5 off l e)) ((KR39 v n k0 j0 o nx q S4 off l e).trans (by rw [if_pos (⟨by (first | (omega) | (simp only [Nat.mul_one, hbo, hbk, hS1, hS2, hS3, hS4, hS5, hnx]; omega) | ((try simp (disch := omega) only [wrap_i64_id]) <;> omega)), by (first | (omega) | (simp only [Nat.mul_one, hbo, hbk, hS1, hS2, hS3, hS4, hS5, hnx]; omega) | ((try simp (disch := omega) only [wrap_i64_id]) <;> omega))⟩), obind_at (k := 0 + ((Int.toNat k0) * 1)) (by (first | (omega) | (simp only [Nat.mul_one, hbo, hbk, hS1, hS2, hS3, hS4, hS5, hnx]; omega) | ((try simp (disch := omega) only [wrap_i64_id]) <;> omega))) (by (first | (omega) | (simp only [Nat.mul_one, hbo, hbk, hS1, hS2, hS3, hS4, hS5, hnx]; omega) | ((try simp (disch := omega) only [wrap_i64_id]) <;> omega)))] <;> (show some (Ex.normal, (KS66 v n k0 o nx S4 q j0 off l e)) = some (Ex.normal, (KS65 v n k0 o nx S4 bk j0 q S5 off l e)); unfold KS66 KS65; rw [(show ((Int.toNat k0) * 1) = k0.toNat from Nat.mul_one _), (show (q.getD (0 + k0.toNat) 0) = bk from hbk), (show (ArSt.touch S4 bk j0) = S5 from hS5)]))) ?_
  rw [KC1_1_1_1_1_1_1_1_1_1_1_1_1_1_1]; refine Gets.seq ?_
  rw [KC1_1_1_1_1_1_1_1_1_1_1_1_1_1_1_0]; refine Gets.seq ?_
  refine Kgo (x := .normal) (s' := (KS69 v k0 o S4 bk j0 S5 bo off l e)) ((KR40 v n k0 o nx S4 bk j0 q S5 off l e).trans (by rw [if_pos (⟨by (first | (omega) | (simp only [Nat.mul_one, hbo, hbk, hS1, hS2, hS3, hS4, hS5, hnx]; omega) | ((try simp (disch := omega) only [wrap_i64_id]) <;> omega)), by (first | (omega) | (simp only [Nat.mul_one, hbo, hbk, hS1, hS2, hS3, hS4, hS5, hnx]; omega) | ((try simp (disch := omega) only [wrap_i64_id]) <;> omega))⟩), obind_at (k := 0 + ((Int.toNat o) * 1)) (by (first | (omega) | (simp only [Nat.mul_one, hbo, hbk, hS1, hS2, hS3, hS4, hS5, hnx]; omega) | ((try simp (disch := omega) only [wrap_i64_id]) <;> omega))) (by (first | (omega) | (simp only [Nat.mul_one, hbo, hbk, hS1, hS2, hS3, hS4, hS5, hnx]; omega) | ((try simp (disch := omega) only [wrap_i64_id]) <;> omega))), condF (ibeq_f (by (first | (omega) | (simp only [Nat.mul_one, hbo, hbk, hS1, hS2, hS3, hS4, hS5, hnx]; omega) | ((try simp (disch := omega) only [wrap_i64_id]) <;> omega)))), if_pos (⟨by (first | (omega) | (simp only [Nat.mul_one, hbo, hbk, hS1, hS2, hS3, hS4, hS5, hnx]; omega) | ((try simp (disch := omega) only [wrap_i64_id]) <;> omega)), by (first | (omega) | (simp only [Nat.mul_one, hbo, hbk, hS1, hS2, hS3, hS4, hS5, hnx]; omega) | ((try simp (disch := omega) only [wrap_i64_id]) <;> omega))⟩), obind_at (k := 0 + ((Int.toNat o) * 1)) (by (first | (omega) | (simp only [Nat.mul_one, hbo, hbk, hS1, hS2, hS3, hS4, hS5, hnx]; omega) | ((try simp (disch := omega) only [wrap_i64_id]) <;> omega))) (by (first | (omega) | (simp only [Nat.mul_one, hbo, hbk, hS1, hS2, hS3, hS4, hS5, hnx]; omega) | ((try simp (disch := omega) only [wrap_i64_id]) <;> omega)))] <;> (show some (Ex.normal, (KS70 v k0 o S4 bk j0 S5 q off l e)) = some (Ex.normal, (KS69 v k0 o S4 bk j0 S5 bo off l e)); unfold KS70 KS69; rw [(show ((Int.toNat o) * 1) = o.toNat from Nat.mul_one _), (show (q.getD (0 + o.toNat) 0) = bo from hbo)]))) ?_
  rw [KC1_1_1_1_1_1_1_1_1_1_1_1_1_1_1_0_1]; refine Gets.cond false (by kernel_rfl) (KeX (b := ((ArSt.err S5 bo 0) != 13)) (by kernel_rfl) ((show ((ArSt.err S5 bo 0) != 13) = false from ibne_f (by (first | (omega) | (simp only [Nat.mul_one, hbo, hbk, hS1, hS2, hS3, hS4, hS5, hnx]; omega) | ((try simp (disch := omega) only [wrap_i64_id]) <;> omega)))))) ?_; show Gets _ _ (codeAt [1, 1, 1, 1, 1, 1, 1, 1, 1, 1, 1, 1, 1, 1, 1, 0, 1, 1] BK) _ _
  refine Kgo (KR41 v k0 o S4 bk j0 S5 bo off l e) ?_
  rw [KC1_1_1_1_1_1_1_1_1_1_1_1_1_1_1_1]; refine Gets.seq ?_
  refine Kgo (x := .normal) (s' := (KS4 off l e)) ((KR42 v k0 o S4 bk j0 off l e).trans (by rw [condT (ibeq_t (by (first | (omega) | (simp only [Nat.mul_one, hbo, hbk, hS1, hS2, hS3, hS4, hS5, hnx]; omega) | ((try simp (disch := omega) only [wrap_i64_id]) <;> omega)))), condT (ibeq_t (by (first | (omega) | (simp only [Nat.mul_one, hbo, hbk, hS1, hS2, hS3, hS4, hS5, hnx]; omega) | ((try simp (disch := omega) only [wrap_i64_id]) <;> omega))))])) ?_
  rw [KC1_1_1_1_1_1_1_1_1_1_1_1_1_1_1_1_1]; refine Gets.ev fitK.mix fitK.cfg (fitK.sound kp_sound 40 0) 40 rfl (s' := KSt.low (KS4 off l e)) (x := .ret) rfl ?_
  exact hq
noncomputable def BZ : Code := bodyOf Try.prog 3
theorem BZ_is : Try.f3.body = some BZ := by kernel_rfl
theorem BZ_ok : okCode Try.prog.globals.size BZ = true := by kernel_rfl
noncomputable abbrev ZEV (c : Code) (s : KSt) (lv : List Nat) : Option (Ex × KSt) := evCK Try.prog cfgK (runK Try.prog cfgK fsK (conTk kpDom (rcK [] kpT)) 40 40) 40 c s (normC 0 lv)
theorem Zgo {lv_ : List Nat} {co_ : Code} {st_ s' : KSt} {x : Ex} {Q : Ex → St → Prop} (hE_ : ZEV co_ st_ lv_ = some (x, s')) (hq_ : Q x s'.low) (hok_ : okCode Try.prog.globals.size co_ = true := by kernel_rfl) : Gets Try.prog (KH.low ⟨0, 1, []⟩) co_ st_.low Q := Gets.ofN fitK kp_sound (rc_agree _ _ _) 40 40 hok_ hE_ hq_
theorem ZeX {v : Value} {b c : Bool} (h : v = .bool b) (hb : b = c) : v = .bool c := by rw [h, hb]
theorem ZC : BZ = .seq (codeAt [0] BZ) (codeAt [1] BZ) := by kernel_rfl
theorem ZC1 : (codeAt [1] BZ) = .seq (codeAt [1, 0] BZ) (codeAt [1, 1] BZ) := by kernel_rfl
theorem ZC1_0 : (codeAt [1, 0] BZ) = .seq (codeAt [1, 0, 0] BZ) (codeAt [1, 0, 1] BZ) := by kernel_rfl
theorem ZC1_0_1 : (codeAt [1, 0, 1] BZ) = .cond (.tmp 30) (codeAt [1, 0, 1, 0] BZ) (codeAt [1, 0, 1, 1] BZ) := by kernel_rfl
theorem ZC1_0_1_0 : (codeAt [1, 0, 1, 0] BZ) = .seq (codeAt [1, 0, 1, 0, 0] BZ) (codeAt [1, 0, 1, 0, 1] BZ) := by kernel_rfl
theorem ZC1_0_1_0_1 : (codeAt [1, 0, 1, 0, 1] BZ) = .ret := by kernel_rfl
noncomputable def ZS0 (x0 : Int) (x1 : Int) (x2 : Int) (v : Int) : KSt := (firstK [(.slice (some ⟨0, 0, some 0⟩) 0 0), (.agg #[(.int .u8 x0), (.int .u8 x1), (.int .u8 x2)]), (.int .u64 v)] 223 ⟨0, 1, []⟩)
noncomputable def ZS1 (v : Int) (x0 : Int) (x1 : Int) (x2 : Int) : KSt := ⟨(frameL 223 [(0, (.slice (some ⟨0, 0, some 0⟩) 0 0)), (2, (.int .u64 v)), (4, (.pointer (some ⟨0, 0, none⟩)))]), ⟨1, 1, [(0, 0, .cells [(.int .u8 x0), (.int .u8 x1), (.int .u8 x2)] 23 true)]⟩⟩
theorem ZR1 (x0 : Int) (x1 : Int) (x2 : Int) (v : Int) : ZEV (codeAt [0] BZ) (ZS0 x0 x1 x2 v) [0, 2, 4] =
  some (.normal, (ZS1 v x0 x1 x2)) := by kernel_rfl
noncomputable def ZS2 (v : Int) (x0 : Int) (x1 : Int) (x2 : Int) : KSt := ⟨(frameL 223 [(0, (.slice (some ⟨0, 0, some 0⟩) 0 0)), (2, (.int .u64 v)), (4, (.pointer (some ⟨0, 0, none⟩))), (30, (.bool true))]), ⟨1, 1, [(0, 0, .cells [(.int .u8 x0), (.int .u8 x1), (.int .u8 x2)] 23 true)]⟩⟩
theorem ZR2 (v : Int) (x0 : Int) (x1 : Int) (x2 : Int) : ZEV (codeAt [1, 0, 0] BZ) (ZS1 v x0 x1 x2) [0, 2, 4, 30] =
  some (.normal, (ZS2 v x0 x1 x2)) := by kernel_rfl
noncomputable def ZS3  : KSt := ⟨(frameL 223 [(6, (.bool true))]), ⟨0, 1, []⟩⟩
theorem ZR3 (v : Int) (x0 : Int) (x1 : Int) (x2 : Int) : ZEV (codeAt [1, 0, 1, 0, 0] BZ) (ZS2 v x0 x1 x2) [6] =
  some (.normal, ZS3) := by kernel_rfl
theorem Zgz {x0 : Int} {x1 : Int} {x2 : Int} {v : Int}   {Q : Ex → St → Prop} (hq : Q .ret (KSt.low ZS3)) : Gets Try.prog (KH.low ⟨0, 1, []⟩) BZ (KSt.low (ZS0 x0 x1 x2 v)) Q := by
  rw [ZC]; refine Gets.seq ?_
  refine Zgo (ZR1 x0 x1 x2 v) ?_
  rw [ZC1]; refine Gets.seq ?_
  rw [ZC1_0]; refine Gets.seq ?_
  refine Zgo (ZR2 v x0 x1 x2) ?_
  rw [ZC1_0_1]; refine Gets.cond true (by kernel_rfl) (by kernel_rfl) ?_; show Gets _ _ (codeAt [1, 0, 1, 0] BZ) _ _
  rw [ZC1_0_1_0]; refine Gets.seq ?_
  refine Zgo (ZR3 v x0 x1 x2) ?_
  rw [ZC1_0_1_0_1]; refine Gets.ev fitK.mix fitK.cfg (fitK.sound kp_sound 40 0) 40 rfl (s' := KSt.low ZS3) (x := .ret) rfl ?_
  exact hq

end Go.Proofs.Ythdglcimdnpccaa
