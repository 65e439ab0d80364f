/- The roads through the reference's list of all cells. -/
import Derived.Test.YtgegcbeeljbiaaaFit
import Derived.WalkKit
import Derived.ProofKit
import Derived.OpenShut
import Derived.ChangeOld
import Derived.Below
import Derived.SizedLaws
namespace Go.Proofs.Ytgegcbeeljbiaaa
open Go.Eng
open Go.ChangeShapes Go.WideShapes Go.ChangeAt Go.RowKit
set_option linter.unusedVariables false
set_option linter.unusedSimpArgs false
set_option maxRecDepth 100000
noncomputable def cfgT : Cfg := ⟨[]⟩
noncomputable def fsT : List FuncId := [26, 27]
theorem fitT : Fit Try.prog cfgT fsT := ⟨by kernel_rfl, Cfg.ok_of (by kernel_rfl), by kernel_rfl⟩
/-- How many groups there are. -/
def groupsV (a : Int) : Int := if a < 0 ∨ 9 < a then 0 else 2 ^ a.toNat
theorem small (a : Int) (h0 : ¬ a < 0) (h9 : ¬ 9 < a) : a = 0 ∨ a = 1 ∨ a = 2 ∨ a = 3 ∨ a = 4 ∨ a = 5 ∨ a = 6 ∨ a = 7 ∨ a = 8 ∨ a = 9 := by omega
theorem groups_tree (a : Int) : runK Try.prog cfgT fsT noT 11 40 27 [.int .i64 a] (bareK Try.prog) valK =
  bif (decide (a < 0)) then
    some (.int .i64 0)
  else
    bif (decide (a > 9)) then
      some (.int .i64 0)
    else
      bif (decide (0 < a)) then
        bif (decide (1 < a)) then
          bif (decide (2 < a)) then
            bif (decide (3 < a)) then
              bif (decide (4 < a)) then
                bif (decide (5 < a)) then
                  bif (decide (6 < a)) then
                    bif (decide (7 < a)) then
                      bif (decide (8 < a)) then
                        bif (decide (9 < a)) then
                          bif (decide (10 < a)) then
                            none
                          else
                            some (.int .i64 1024)
                        else
                          some (.int .i64 512)
                      else
                        some (.int .i64 256)
                    else
                      some (.int .i64 128)
                  else
                    some (.int .i64 64)
                else
                  some (.int .i64 32)
              else
                some (.int .i64 16)
            else
              some (.int .i64 8)
          else
            some (.int .i64 4)
        else
          some (.int .i64 2)
      else
        some (.int .i64 1) := by kernel_rfl
theorem groups_told (a : Int) : Tells Try.prog 27 [.int .i64 a] (bare Try.prog) (.int .i64 (groupsV a)) := by
  refine Tells.of_tree (h := bareK Try.prog) fitT SoundC.no AgreeT.no (by kernel_rfl) rfl (show Ro (bare Try.prog) from Ro.bare) (n := 11) (d := 40) ?_
  rw [groups_tree]
  unfold groupsV
  by_cases h0 : a < 0
  · rw [if_pos (.inl h0), decide_eq_true h0]; rfl
  · by_cases h9 : 9 < a
    · rw [if_pos (.inr h9), decide_eq_false h0, decide_eq_true (show a > 9 from h9)]; rfl
    · rcases small a h0 h9 with h | h | h | h | h | h | h | h | h | h <;> subst h <;> kernel_rfl
noncomputable def rc_r13_Groups : RC := ⟨[.int .i64], fun avs => match avs with | [.int k] => true | _ => false,
  fun N avs => match avs with | [.int k] => ((.int .i64 (groupsV k)), [], []) | _ => (.bool false, [], [])⟩
theorem rc_r13_Groups_does : RcDoes Try.prog [] 27 rc_r13_Groups := by
  intro vb avs args blks hv hs hp
  cases hv
  cases hs with
  | int k hs =>
    cases hs
    exact DoesC.bare noVars rfl (groups_told k)
noncomputable def ttT : RTab := fun f => match f with
  | 27 => some rc_r13_Groups
  | _ => none
def ttDom : List FuncId := [27]
theorem tt_does : ∀ f rc, f ∈ ttDom → ttT f = some rc → RcDoes Try.prog [] f rc := by
  intro f rc hf hT
  simp only [ttDom, List.mem_cons, List.not_mem_nil, or_false] at hf
  subst hf
  cases hT; exact rc_r13_Groups_does
theorem tt_fn : ∀ f ∈ ttDom, FnOk Try.prog f := fun f hf => fitT.fnOk f (by
    have h0 : (ttDom.all fun f => fsT.contains f) = true := by kernel_rfl
    simpa using List.all_eq_true.1 h0 f hf)
theorem tt_sound : SoundC Try.prog (conC ttDom (rcE [] ttT)) := rc_sound noVars tt_fn tt_does
noncomputable def BT : Code := bodyOf Try.prog 26
theorem BT_is : Try.f26.body = some BT := by kernel_rfl
theorem BT_ok : okCode Try.prog.globals.size BT = true := by kernel_rfl
noncomputable abbrev TEV (c : Code) (s : KSt) (lv : List Nat) : Option (Ex × KSt) := evCK Try.prog cfgT (runK Try.prog cfgT fsT (conTk ttDom (rcK [] ttT)) 14 40) 14 c s (normC 0 lv)
theorem Tgo {lv_ : List Nat} {co_ : Code} {st_ s' : KSt} {x : Ex} {Q : Ex → St → Prop} (hE_ : TEV co_ st_ lv_ = some (x, s')) (hq_ : Q x s'.low) (hok_ : okCode Try.prog.globals.size co_ = true := by kernel_rfl) : Gets Try.prog (KH.low ⟨0, 1, []⟩) co_ st_.low Q := Gets.ofN fitT tt_sound (rc_agree _ _ _) 14 40 hok_ hE_ hq_
theorem TeX {v : Value} {b c : Bool} (h : v = .bool b) (hb : b = c) : v = .bool c := by rw [h, hb]
theorem TC : BT = .seq (codeAt [0] BT) (codeAt [1] BT) := by kernel_rfl
theorem TC1 : (codeAt [1] BT) = .seq (codeAt [1, 0] BT) (codeAt [1, 1] BT) := by kernel_rfl
theorem TC1_1 : (codeAt [1, 1] BT) = .seq (codeAt [1, 1, 0] BT) (codeAt [1, 1, 1] BT) := by kernel_rfl
theorem TC1_1_1 : (codeAt [1, 1, 1] BT) = .seq (codeAt [1, 1, 1, 0] BT) (codeAt [1, 1, 1, 1] BT) := by kernel_rfl
theorem TC1_1_1_0 : (codeAt [1, 1, 1, 0] BT) = .seq (codeAt [1, 1, 1, 0, 0] BT) (codeAt [1, 1, 1, 0, 1] BT) := by kernel_rfl
theorem TC1_1_1_1 : (codeAt [1, 1, 1, 1] BT) = .seq (codeAt [1, 1, 1, 1, 0] BT) (codeAt [1, 1, 1, 1, 1] BT) := by kernel_rfl
theorem TC1_1_1_1_0 : (codeAt [1, 1, 1, 1, 0] BT) = .seq (codeAt [1, 1, 1, 1, 0, 0] BT) (codeAt [1, 1, 1, 1, 0, 1] BT) := by kernel_rfl
theorem TC1_1_1_1_1 : (codeAt [1, 1, 1, 1, 1] BT) = .seq (codeAt [1, 1, 1, 1, 1, 0] BT) (codeAt [1, 1, 1, 1, 1, 1] BT) := by kernel_rfl
theorem TC1_1_1_1_1_0 : (codeAt [1, 1, 1, 1, 1, 0] BT) = .seq (codeAt [1, 1, 1, 1, 1, 0, 0] BT) (codeAt [1, 1, 1, 1, 1, 0, 1] BT) := by kernel_rfl
theorem TC1_1_1_1_1_1 : (codeAt [1, 1, 1, 1, 1, 1] BT) = .seq (codeAt [1, 1, 1, 1, 1, 1, 0] BT) (codeAt [1, 1, 1, 1, 1, 1, 1] BT) := by kernel_rfl
theorem TC1_1_1_1_1_1_1 : (codeAt [1, 1, 1, 1, 1, 1, 1] BT) = .ret := by kernel_rfl
theorem TC1_1_1_1_0_1_0_0 : (codeAt [1, 1, 1, 1, 0, 1, 0, 0] BT) = .seq (codeAt [1, 1, 1, 1, 0, 1, 0, 0, 0] BT) (codeAt [1, 1, 1, 1, 0, 1, 0, 0, 1] BT) := by kernel_rfl
theorem TC1_1_1_1_0_1_0_0_0 : (codeAt [1, 1, 1, 1, 0, 1, 0, 0, 0] BT) = .seq (codeAt [1, 1, 1, 1, 0, 1, 0, 0, 0, 0] BT) (codeAt [1, 1, 1, 1, 0, 1, 0, 0, 0, 1] BT) := by kernel_rfl
theorem TC1_1_1_1_0_1_0_0_0_1 : (codeAt [1, 1, 1, 1, 0, 1, 0, 0, 0, 1] BT) = .cond (.tmp 26) (codeAt [1, 1, 1, 1, 0, 1, 0, 0, 0, 1, 0] BT) (codeAt [1, 1, 1, 1, 0, 1, 0, 0, 0, 1, 1] BT) := by kernel_rfl
theorem TC1_1_1_1_0_1_0_0_1 : (codeAt [1, 1, 1, 1, 0, 1, 0, 0, 1] BT) = .seq (codeAt [1, 1, 1, 1, 0, 1, 0, 0, 1, 0] BT) (codeAt [1, 1, 1, 1, 0, 1, 0, 0, 1, 1] BT) := by kernel_rfl
theorem TC1_1_1_1_0_1_0_0_1_0 : (codeAt [1, 1, 1, 1, 0, 1, 0, 0, 1, 0] BT) = .block 3 (codeAt [1, 1, 1, 1, 0, 1, 0, 0, 1, 0, 0] BT) := by kernel_rfl
theorem TC1_1_1_1_0_1_0_0_0_1_1 : (codeAt [1, 1, 1, 1, 0, 1, 0, 0, 0, 1, 1] BT) = .exit 2 := by kernel_rfl
theorem TC1_1_1_1_1_0_1_0_0 : (codeAt [1, 1, 1, 1, 1, 0, 1, 0, 0] BT) = .seq (codeAt [1, 1, 1, 1, 1, 0, 1, 0, 0, 0] BT) (codeAt [1, 1, 1, 1, 1, 0, 1, 0, 0, 1] BT) := by kernel_rfl
theorem TC1_1_1_1_1_0_1_0_0_0 : (codeAt [1, 1, 1, 1, 1, 0, 1, 0, 0, 0] BT) = .seq (codeAt [1, 1, 1, 1, 1, 0, 1, 0, 0, 0, 0] BT) (codeAt [1, 1, 1, 1, 1, 0, 1, 0, 0, 0, 1] BT) := by kernel_rfl
theorem TC1_1_1_1_1_0_1_0_0_0_1 : (codeAt [1, 1, 1, 1, 1, 0, 1, 0, 0, 0, 1] BT) = .cond (.tmp 36) (codeAt [1, 1, 1, 1, 1, 0, 1, 0, 0, 0, 1, 0] BT) (codeAt [1, 1, 1, 1, 1, 0, 1, 0, 0, 0, 1, 1] BT) := by kernel_rfl
theorem TC1_1_1_1_1_0_1_0_0_1 : (codeAt [1, 1, 1, 1, 1, 0, 1, 0, 0, 1] BT) = .seq (codeAt [1, 1, 1, 1, 1, 0, 1, 0, 0, 1, 0] BT) (codeAt [1, 1, 1, 1, 1, 0, 1, 0, 0, 1, 1] BT) := by kernel_rfl
theorem TC1_1_1_1_1_0_1_0_0_1_0 : (codeAt [1, 1, 1, 1, 1, 0, 1, 0, 0, 1, 0] BT) = .block 5 (codeAt [1, 1, 1, 1, 1, 0, 1, 0, 0, 1, 0, 0] BT) := by kernel_rfl
theorem TC1_1_1_1_1_0_1_0_0_1_0_0 : (codeAt [1, 1, 1, 1, 1, 0, 1, 0, 0, 1, 0, 0] BT) = .seq (codeAt [1, 1, 1, 1, 1, 0, 1, 0, 0, 1, 0, 0, 0] BT) (codeAt [1, 1, 1, 1, 1, 0, 1, 0, 0, 1, 0, 0, 1] BT) := by kernel_rfl
theorem TC1_1_1_1_1_0_1_0_0_0_1_1 : (codeAt [1, 1, 1, 1, 1, 0, 1, 0, 0, 0, 1, 1] BT) = .exit 4 := by kernel_rfl
theorem TC1_1_1_1_1_0_1_0_0_1_0_0_1_0_0 : (codeAt [1, 1, 1, 1, 1, 0, 1, 0, 0, 1, 0, 0, 1, 0, 0] BT) = .seq (codeAt [1, 1, 1, 1, 1, 0, 1, 0, 0, 1, 0, 0, 1, 0, 0, 0] BT) (codeAt [1, 1, 1, 1, 1, 0, 1, 0, 0, 1, 0, 0, 1, 0, 0, 1] BT) := by kernel_rfl
theorem TC1_1_1_1_1_0_1_0_0_1_0_0_1_0_0_0 : (codeAt [1, 1, 1, 1, 1, 0, 1, 0, 0, 1, 0, 0, 1, 0, 0, 0] BT) = .seq (codeAt [1, 1, 1, 1, 1, 0, 1, 0, 0, 1, 0, 0, 1, 0, 0, 0, 0] BT) (codeAt [1, 1, 1, 1, 1, 0, 1, 0, 0, 1, 0, 0, 1, 0, 0, 0, 1] BT) := by kernel_rfl
theorem TC1_1_1_1_1_0_1_0_0_1_0_0_1_0_0_0_1 : (codeAt [1, 1, 1, 1, 1, 0, 1, 0, 0, 1, 0, 0, 1, 0, 0, 0, 1] BT) = .cond (.tmp 40) (codeAt [1, 1, 1, 1, 1, 0, 1, 0, 0, 1, 0, 0, 1, 0, 0, 0, 1, 0] BT) (codeAt [1, 1, 1, 1, 1, 0, 1, 0, 0, 1, 0, 0, 1, 0, 0, 0, 1, 1] BT) := by kernel_rfl
theorem TC1_1_1_1_1_0_1_0_0_1_0_0_1_0_0_1 : (codeAt [1, 1, 1, 1, 1, 0, 1, 0, 0, 1, 0, 0, 1, 0, 0, 1] BT) = .seq (codeAt [1, 1, 1, 1, 1, 0, 1, 0, 0, 1, 0, 0, 1, 0, 0, 1, 0] BT) (codeAt [1, 1, 1, 1, 1, 0, 1, 0, 0, 1, 0, 0, 1, 0, 0, 1, 1] BT) := by kernel_rfl
theorem TC1_1_1_1_1_0_1_0_0_1_0_0_1_0_0_1_0 : (codeAt [1, 1, 1, 1, 1, 0, 1, 0, 0, 1, 0, 0, 1, 0, 0, 1, 0] BT) = .block 7 (codeAt [1, 1, 1, 1, 1, 0, 1, 0, 0, 1, 0, 0, 1, 0, 0, 1, 0, 0] BT) := by kernel_rfl
theorem TC1_1_1_1_1_0_1_0_0_1_0_0_1_0_0_0_1_1 : (codeAt [1, 1, 1, 1, 1, 0, 1, 0, 0, 1, 0, 0, 1, 0, 0, 0, 1, 1] BT) = .exit 6 := by kernel_rfl
theorem TC1_1_1_1_0_1 : (codeAt [1, 1, 1, 1, 0, 1] BT) = .block 2 (codeAt [1, 1, 1, 1, 0, 1, 0] BT) := by kernel_rfl
theorem TC1_1_1_1_0_1_0 : (codeAt [1, 1, 1, 1, 0, 1, 0] BT) = .loop (codeAt [1, 1, 1, 1, 0, 1, 0, 0] BT) := by kernel_rfl
theorem TC1_1_1_1_1_0_1 : (codeAt [1, 1, 1, 1, 1, 0, 1] BT) = .block 4 (codeAt [1, 1, 1, 1, 1, 0, 1, 0] BT) := by kernel_rfl
theorem TC1_1_1_1_1_0_1_0 : (codeAt [1, 1, 1, 1, 1, 0, 1, 0] BT) = .loop (codeAt [1, 1, 1, 1, 1, 0, 1, 0, 0] BT) := by kernel_rfl
theorem TC1_1_1_1_1_0_1_0_0_1_0_0_1 : (codeAt [1, 1, 1, 1, 1, 0, 1, 0, 0, 1, 0, 0, 1] BT) = .block 6 (codeAt [1, 1, 1, 1, 1, 0, 1, 0, 0, 1, 0, 0, 1, 0] BT) := by kernel_rfl
theorem TC1_1_1_1_1_0_1_0_0_1_0_0_1_0 : (codeAt [1, 1, 1, 1, 1, 0, 1, 0, 0, 1, 0, 0, 1, 0] BT) = .loop (codeAt [1, 1, 1, 1, 1, 0, 1, 0, 0, 1, 0, 0, 1, 0, 0] BT) := by kernel_rfl
noncomputable def TS0 (k : Int) : KSt := (firstK [(.int .i64 k)] 50 ⟨0, 1, []⟩)
noncomputable def TS1 (k : Int) : KSt := ⟨(frameL 50 [(0, (.int .i64 k))]), ⟨0, 1, []⟩⟩
theorem TR1 (k : Int) : TEV (codeAt [0] BT) (TS0 k) [0] =
  some (.normal, (TS1 k)) := by kernel_rfl
noncomputable def TS2 (k : Int) : KSt := ⟨(frameL 50 [(0, (.int .i64 k)), (3, (.slice (some ⟨0, 0, none⟩) 0 0))]), ⟨1, 1, [(0, 0, .cells [] 35 true)]⟩⟩
theorem TR2 (k : Int) : TEV (codeAt [1, 0] BT) (TS1 k) [0, 3] =
  some (.normal, (TS2 k)) := by kernel_rfl
noncomputable def TS3 (k : Int) : KSt := ⟨(frameL 50 [(3, (.slice (some ⟨0, 0, none⟩) 0 0)), (4, (.int .i64 (groupsV k)))]), ⟨1, 1, [(0, 0, .cells [] 35 true)]⟩⟩
theorem TR3 (k : Int) : TEV (codeAt [1, 1, 0] BT) (TS2 k) [3, 4] =
  some (.normal, (TS3 k)) := by kernel_rfl
noncomputable def TS4  : KSt := ⟨(frameL 50 [(3, (.slice (some ⟨0, 0, none⟩) 0 0)), (4, (.int .i64 0))]), ⟨1, 1, [(0, 0, .cells [] 35 true)]⟩⟩
noncomputable def TS5  : KSt := ⟨(frameL 50 [(3, (.slice (some ⟨0, 0, none⟩) 0 0)), (4, (.int .i64 0)), (5, (.int .i64 0))]), ⟨1, 1, [(0, 0, .cells [] 35 true)]⟩⟩
theorem TR4  : TEV (codeAt [1, 1, 1, 0, 0] BT) TS4 [3, 4, 5] =
  some (.normal, TS5) := by kernel_rfl
theorem TR5  : TEV (codeAt [1, 1, 1, 0, 1] BT) TS5 [3, 4] =
  some (.normal, TS4) := by kernel_rfl
noncomputable def TS6  : KSt := ⟨(frameL 50 [(3, (.slice (some ⟨0, 0, none⟩) 0 0)), (4, (.int .i64 0)), (6, (.int .i64 0))]), ⟨1, 1, [(0, 0, .cells [] 35 true)]⟩⟩
theorem TR6  : TEV (codeAt [1, 1, 1, 1, 0, 0] BT) TS4 [3, 4, 6] =
  some (.normal, TS6) := by kernel_rfl
theorem TR7  : TEV (codeAt [1, 1, 1, 1, 0, 1] BT) TS6 [3, 4] =
  some (.normal, TS4) := by kernel_rfl
noncomputable def TS7  : KSt := ⟨(frameL 50 [(3, (.slice (some ⟨0, 0, none⟩) 0 0)), (4, (.int .i64 0)), (7, (.int .i64 0))]), ⟨1, 1, [(0, 0, .cells [] 35 true)]⟩⟩
theorem TR8  : TEV (codeAt [1, 1, 1, 1, 1, 0, 0] BT) TS4 [3, 4, 7] =
  some (.normal, TS7) := by kernel_rfl
noncomputable def TS8  : KSt := ⟨(frameL 50 [(3, (.slice (some ⟨0, 0, none⟩) 0 0))]), ⟨1, 1, [(0, 0, .cells [] 35 true)]⟩⟩
theorem TR9  : TEV (codeAt [1, 1, 1, 1, 1, 0, 1] BT) TS7 [3] =
  some (.normal, TS8) := by kernel_rfl
noncomputable def TS9  : KSt := ⟨(frameL 50 [(2, (.slice (some ⟨0, 0, none⟩) 0 0))]), ⟨1, 1, [(0, 0, .cells [] 35 true)]⟩⟩
theorem TR10  : TEV (codeAt [1, 1, 1, 1, 1, 1, 0] BT) TS8 [2] =
  some (.normal, TS9) := by kernel_rfl
noncomputable def TS10 (nn : Nat) : KSt := ⟨(frameL 50 [(3, (.slice (some ⟨0, 0, none⟩) 0 0)), (4, (.int .i64 ((nn : Nat) : Int)))]), ⟨1, 1, [(0, 0, .cells [] 35 true)]⟩⟩
noncomputable def TS11 (nn : Nat) : KSt := ⟨(frameL 50 [(3, (.slice (some ⟨0, 0, none⟩) 0 0)), (4, (.int .i64 ((nn : Nat) : Int))), (5, (.int .i64 0))]), ⟨1, 1, [(0, 0, .cells [] 35 true)]⟩⟩
theorem TR11 (nn : Nat) : TEV (codeAt [1, 1, 1, 0, 0] BT) (TS10 nn) [3, 4, 5] =
  some (.normal, (TS11 nn)) := by kernel_rfl
noncomputable def TS12 (nn : Nat) : KSt := ⟨(frameL 50 [(3, (.slice (some ⟨0, 0, none⟩) 7 7)), (4, (.int .i64 ((nn : Nat) : Int)))]), ⟨1, 1, [(0, 0, .cells [(.int .i64 1), (.int .i64 0), (.int .i64 0), (.int .i64 1), (.int .i64 0), (.int .i64 0), (.int .i64 1), (.int .i64 0), (.int .i64 0), (.int .i64 1), (.int .i64 0), (.int .i64 0), (.int .i64 1), (.int .i64 0), (.int .i64 0), (.int .i64 1), (.int .i64 0), (.int .i64 0), (.int .i64 1), (.int .i64 0), (.int .i64 0)] 35 true)]⟩⟩
noncomputable def TS13 (nn : Nat) : KSt := ⟨(frameL 50 [(3, (.slice (some ⟨0, 0, none⟩) 6 6)), (4, (.int .i64 ((nn : Nat) : Int)))]), ⟨1, 1, [(0, 0, .cells [(.int .i64 1), (.int .i64 0), (.int .i64 0), (.int .i64 1), (.int .i64 0), (.int .i64 0), (.int .i64 1), (.int .i64 0), (.int .i64 0), (.int .i64 1), (.int .i64 0), (.int .i64 0), (.int .i64 1), (.int .i64 0), (.int .i64 0), (.int .i64 1), (.int .i64 0), (.int .i64 0)] 35 true)]⟩⟩
noncomputable def TS14 (nn : Nat) : KSt := ⟨(frameL 50 [(3, (.slice (some ⟨0, 0, none⟩) 5 5)), (4, (.int .i64 ((nn : Nat) : Int)))]), ⟨1, 1, [(0, 0, .cells [(.int .i64 1), (.int .i64 0), (.int .i64 0), (.int .i64 1), (.int .i64 0), (.int .i64 0), (.int .i64 1), (.int .i64 0), (.int .i64 0), (.int .i64 1), (.int .i64 0), (.int .i64 0), (.int .i64 1), (.int .i64 0), (.int .i64 0)] 35 true)]⟩⟩
noncomputable def TS15 (nn : Nat) : KSt := ⟨(frameL 50 [(3, (.slice (some ⟨0, 0, none⟩) 4 4)), (4, (.int .i64 ((nn : Nat) : Int)))]), ⟨1, 1, [(0, 0, .cells [(.int .i64 1), (.int .i64 0), (.int .i64 0), (.int .i64 1), (.int .i64 0), (.int .i64 0), (.int .i64 1), (.int .i64 0), (.int .i64 0), (.int .i64 1), (.int .i64 0), (.int .i64 0)] 35 true)]⟩⟩
noncomputable def TS16 (nn : Nat) : KSt := ⟨(frameL 50 [(3, (.slice (some ⟨0, 0, none⟩) 3 3)), (4, (.int .i64 ((nn : Nat) : Int)))]), ⟨1, 1, [(0, 0, .cells [(.int .i64 1), (.int .i64 0), (.int .i64 0), (.int .i64 1), (.int .i64 0), (.int .i64 0), (.int .i64 1), (.int .i64 0), (.int .i64 0)] 35 true)]⟩⟩
noncomputable def TS17 (nn : Nat) : KSt := ⟨(frameL 50 [(3, (.slice (some ⟨0, 0, none⟩) 2 2)), (4, (.int .i64 ((nn : Nat) : Int)))]), ⟨1, 1, [(0, 0, .cells [(.int .i64 1), (.int .i64 0), (.int .i64 0), (.int .i64 1), (.int .i64 0), (.int .i64 0)] 35 true)]⟩⟩
noncomputable def TS18 (nn : Nat) : KSt := ⟨(frameL 50 [(3, (.slice (some ⟨0, 0, none⟩) 1 1)), (4, (.int .i64 ((nn : Nat) : Int)))]), ⟨1, 1, [(0, 0, .cells [(.int .i64 1), (.int .i64 0), (.int .i64 0)] 35 true)]⟩⟩
theorem TR12 (nn : Nat) : TEV (codeAt [1, 1, 1, 0, 1] BT) (TS11 nn) [3, 4] =
  bif (decide (((nn : Nat) : Int) > 0)) then
    bif (decide (((nn : Nat) : Int) > 0)) then
      bif (decide (((nn : Nat) : Int) > 0)) then
        bif (decide (((nn : Nat) : Int) > 0)) then
          bif (decide (((nn : Nat) : Int) > 0)) then
            bif (decide (((nn : Nat) : Int) > 0)) then
              bif (decide (((nn : Nat) : Int) > 0)) then
                some (.normal, (TS12 nn))
              else
                some (.normal, (TS13 nn))
            else
              some (.normal, (TS14 nn))
          else
            some (.normal, (TS15 nn))
        else
          some (.normal, (TS16 nn))
      else
        some (.normal, (TS17 nn))
    else
      some (.normal, (TS18 nn))
  else
    some (.normal, (TS10 nn)) := by kernel_rfl
noncomputable def TS19 (nn : Nat) : KSt := ⟨(frameL 50 [(3, (.slice (some ⟨0, 0, none⟩) 7 7)), (4, (.int .i64 ((nn : Nat) : Int))), (6, (.int .i64 0))]), ⟨1, 1, [(0, 0, .cells [(.int .i64 1), (.int .i64 0), (.int .i64 0), (.int .i64 1), (.int .i64 0), (.int .i64 0), (.int .i64 1), (.int .i64 0), (.int .i64 0), (.int .i64 1), (.int .i64 0), (.int .i64 0), (.int .i64 1), (.int .i64 0), (.int .i64 0), (.int .i64 1), (.int .i64 0), (.int .i64 0), (.int .i64 1), (.int .i64 0), (.int .i64 0)] 35 true)]⟩⟩
theorem TR13 (nn : Nat) : TEV (codeAt [1, 1, 1, 1, 0, 0] BT) (TS12 nn) [3, 4, 6] =
  some (.normal, (TS19 nn)) := by kernel_rfl
noncomputable def TS20 (m : Nat) (nn : Nat) (g : Nat) (w : List Int) : KSt := ⟨(frameL 50 [(3, (.slice (some ⟨0, 0, none⟩) m m)), (4, (.int .i64 ((nn : Nat) : Int))), (6, (.int .i64 ((g : Nat) : Int)))]), ⟨1, 1, [(0, 0, .recs [.i64, .i64, .i64] w 35 true)]⟩⟩
noncomputable def TS21 (m : Nat) (nn : Nat) (g : Nat) (w : List Int) : KSt := ⟨(frameL 50 [(3, (.slice (some ⟨0, 0, none⟩) m m)), (4, (.int .i64 ((nn : Nat) : Int))), (6, (.int .i64 ((g : Nat) : Int))), (26, (.bool (decide (((g : Nat) : Int) < ((nn : Nat) : Int)))))]), ⟨1, 1, [(0, 0, .recs [.i64, .i64, .i64] w 35 true)]⟩⟩
theorem TR14 (m : Nat) (nn : Nat) (g : Nat) (w : List Int) : TEV (codeAt [1, 1, 1, 1, 0, 1, 0, 0, 0, 0] BT) (TS20 m nn g w) [3, 4, 6, 26] =
  some (.normal, (TS21 m nn g w)) := by kernel_rfl
theorem TR15 (m : Nat) (nn : Nat) (g : Nat) (w : List Int) : TEV (codeAt [1, 1, 1, 1, 0, 1, 0, 0, 0, 1, 0] BT) (TS21 m nn g w) [3, 4, 6] =
  some (.normal, (TS20 m nn g w)) := by kernel_rfl
noncomputable def TS22 (nn : Nat) (g : Nat) : KSt := ⟨(frameL 50 [(3, (.slice (some ⟨0, 0, none⟩) 1 1)), (4, (.int .i64 ((nn : Nat) : Int))), (6, (.int .i64 ((g : Nat) : Int)))]), ⟨1, 1, [(0, 0, .cells [(.int .i64 2), (.int .i64 ((g : Nat) : Int)), (.int .i64 0)] 35 true)]⟩⟩
noncomputable def TS23 (m : Nat) (nn : Nat) (g : Nat) (w : List Int) : KSt := ⟨(frameL 50 [(3, (.slice (some ⟨0, 0, none⟩) (m + 1) (m + 1))), (4, (.int .i64 ((nn : Nat) : Int))), (6, (.int .i64 ((g : Nat) : Int)))]), ⟨1, 1, [(0, 0, .recs [.i64, .i64, .i64] (List.take (m * 3) w ++ [2, ((g : Nat) : Int), 0]) 35 true)]⟩⟩
theorem TR16 (m : Nat) (nn : Nat) (g : Nat) (w : List Int) : TEV (codeAt [1, 1, 1, 1, 0, 1, 0, 0, 1, 0, 0] BT) (TS20 m nn g w) [3, 4, 6] =
  bif (Nat.ble ((m + 1) * 25) 1099511627776) then
    bif (Nat.ble (m + 1) m) then
      none
    else
      bif ((Nat.beq m 0) && (Nat.beq m 0)) then
        some (.normal, (TS22 nn g))
      else
        bif ((Nat.ble (m * 3) (List.length w)) && (Nat.ble 1 m)) then
          some (.normal, (TS23 m nn g w))
        else
          none
  else
    none := by kernel_rfl
noncomputable def TS24 (m : Nat) (nn : Nat) (g : Nat) (w : List Int) : KSt := ⟨(frameL 50 [(3, (.slice (some ⟨0, 0, none⟩) (m + 1) (m + 1))), (4, (.int .i64 ((nn : Nat) : Int))), (6, (.int .i64 (IntKind.wrap .i64 (((g : Nat) : Int) + 1))))]), ⟨1, 1, [(0, 0, .recs [.i64, .i64, .i64] (List.take (m * 3) w ++ [2, ((g : Nat) : Int), 0]) 35 true)]⟩⟩
theorem TR17 (m : Nat) (nn : Nat) (g : Nat) (w : List Int) : TEV (codeAt [1, 1, 1, 1, 0, 1, 0, 0, 1, 1] BT) (TS23 m nn g w) [3, 4, 6] =
  some (.normal, (TS24 m nn g w)) := by kernel_rfl
noncomputable def TS25 (m : Nat) (nn : Nat) (g : Nat) (w : List Int) : KSt := ⟨(frameL 50 [(3, (.slice (some ⟨0, 0, none⟩) (m + 1) (m + 1))), (4, (.int .i64 ((nn : Nat) : Int))), (6, (.int .i64 (((g : Nat) : Int) + 1)))]), ⟨1, 1, [(0, 0, .recs [.i64, .i64, .i64] (List.take (m * 3) w ++ [2, ((g : Nat) : Int), 0]) 35 true)]⟩⟩
noncomputable def TS26 (m : Nat) (nn : Nat) (w : List Int) : KSt := ⟨(frameL 50 [(3, (.slice (some ⟨0, 0, none⟩) m m)), (4, (.int .i64 ((nn : Nat) : Int))), (7, (.int .i64 0))]), ⟨1, 1, [(0, 0, .recs [.i64, .i64, .i64] w 35 true)]⟩⟩
theorem TR18 (m : Nat) (nn : Nat) (g : Nat) (w : List Int) : TEV (codeAt [1, 1, 1, 1, 1, 0, 0] BT) (TS21 m nn g w) [3, 4, 7] =
  some (.normal, (TS26 m nn w)) := by kernel_rfl
noncomputable def TS27 (m : Nat) (nn : Nat) (g : Nat) (w : List Int) : KSt := ⟨(frameL 50 [(3, (.slice (some ⟨0, 0, none⟩) m m)), (4, (.int .i64 ((nn : Nat) : Int))), (7, (.int .i64 ((g : Nat) : Int)))]), ⟨1, 1, [(0, 0, .recs [.i64, .i64, .i64] w 35 true)]⟩⟩
noncomputable def TS28 (m : Nat) (nn : Nat) (g : Nat) (w : List Int) : KSt := ⟨(frameL 50 [(3, (.slice (some ⟨0, 0, none⟩) m m)), (4, (.int .i64 ((nn : Nat) : Int))), (7, (.int .i64 ((g : Nat) : Int))), (36, (.bool (decide (((g : Nat) : Int) < ((nn : Nat) : Int)))))]), ⟨1, 1, [(0, 0, .recs [.i64, .i64, .i64] w 35 true)]⟩⟩
theorem TR19 (m : Nat) (nn : Nat) (g : Nat) (w : List Int) : TEV (codeAt [1, 1, 1, 1, 1, 0, 1, 0, 0, 0, 0] BT) (TS27 m nn g w) [3, 4, 7, 36] =
  some (.normal, (TS28 m nn g w)) := by kernel_rfl
theorem TR20 (m : Nat) (nn : Nat) (g : Nat) (w : List Int) : TEV (codeAt [1, 1, 1, 1, 1, 0, 1, 0, 0, 0, 1, 0] BT) (TS28 m nn g w) [3, 4, 7] =
  some (.normal, (TS27 m nn g w)) := by kernel_rfl
noncomputable def TS29 (m : Nat) (nn : Nat) (g : Nat) (w : List Int) : KSt := ⟨(frameL 50 [(3, (.slice (some ⟨0, 0, none⟩) m m)), (4, (.int .i64 ((nn : Nat) : Int))), (7, (.int .i64 ((g : Nat) : Int))), (8, (.int .i64 0))]), ⟨1, 1, [(0, 0, .recs [.i64, .i64, .i64] w 35 true)]⟩⟩
theorem TR21 (m : Nat) (nn : Nat) (g : Nat) (w : List Int) : TEV (codeAt [1, 1, 1, 1, 1, 0, 1, 0, 0, 1, 0, 0, 0] BT) (TS27 m nn g w) [3, 4, 7, 8] =
  some (.normal, (TS29 m nn g w)) := by kernel_rfl
noncomputable def TS30 (m : Nat) (nn : Nat) (g : Nat) (j : Nat) (w : List Int) : KSt := ⟨(frameL 50 [(3, (.slice (some ⟨0, 0, none⟩) m m)), (4, (.int .i64 ((nn : Nat) : Int))), (7, (.int .i64 ((g : Nat) : Int))), (8, (.int .i64 ((j : Nat) : Int)))]), ⟨1, 1, [(0, 0, .recs [.i64, .i64, .i64] w 35 true)]⟩⟩
noncomputable def TS31 (m : Nat) (nn : Nat) (g : Nat) (j : Nat) (w : List Int) : KSt := ⟨(frameL 50 [(3, (.slice (some ⟨0, 0, none⟩) m m)), (4, (.int .i64 ((nn : Nat) : Int))), (7, (.int .i64 ((g : Nat) : Int))), (8, (.int .i64 ((j : Nat) : Int))), (40, (.bool (decide (((j : Nat) : Int) < 8))))]), ⟨1, 1, [(0, 0, .recs [.i64, .i64, .i64] w 35 true)]⟩⟩
theorem TR22 (m : Nat) (nn : Nat) (g : Nat) (j : Nat) (w : List Int) : TEV (codeAt [1, 1, 1, 1, 1, 0, 1, 0, 0, 1, 0, 0, 1, 0, 0, 0, 0] BT) (TS30 m nn g j w) [3, 4, 7, 8, 40] =
  some (.normal, (TS31 m nn g j w)) := by kernel_rfl
theorem TR23 (m : Nat) (nn : Nat) (g : Nat) (j : Nat) (w : List Int) : TEV (codeAt [1, 1, 1, 1, 1, 0, 1, 0, 0, 1, 0, 0, 1, 0, 0, 0, 1, 0] BT) (TS31 m nn g j w) [3, 4, 7, 8] =
  some (.normal, (TS30 m nn g j w)) := by kernel_rfl
noncomputable def TS32 (nn : Nat) (g : Nat) (j : Nat) : KSt := ⟨(frameL 50 [(3, (.slice (some ⟨0, 0, none⟩) 1 1)), (4, (.int .i64 ((nn : Nat) : Int))), (7, (.int .i64 ((g : Nat) : Int))), (8, (.int .i64 ((j : Nat) : Int)))]), ⟨1, 1, [(0, 0, .cells [(.int .i64 3), (.int .i64 ((g : Nat) : Int)), (.int .i64 ((j : Nat) : Int))] 35 true)]⟩⟩
noncomputable def TS33 (m : Nat) (nn : Nat) (g : Nat) (j : Nat) (w : List Int) : KSt := ⟨(frameL 50 [(3, (.slice (some ⟨0, 0, none⟩) (m + 1) (m + 1))), (4, (.int .i64 ((nn : Nat) : Int))), (7, (.int .i64 ((g : Nat) : Int))), (8, (.int .i64 ((j : Nat) : Int)))]), ⟨1, 1, [(0, 0, .recs [.i64, .i64, .i64] (List.take (m * 3) w ++ [3, ((g : Nat) : Int), ((j : Nat) : Int)]) 35 true)]⟩⟩
theorem TR24 (m : Nat) (nn : Nat) (g : Nat) (j : Nat) (w : List Int) : TEV (codeAt [1, 1, 1, 1, 1, 0, 1, 0, 0, 1, 0, 0, 1, 0, 0, 1, 0, 0] BT) (TS30 m nn g j w) [3, 4, 7, 8] =
  bif (Nat.ble ((m + 1) * 25) 1099511627776) then
    bif (Nat.ble (m + 1) m) then
      none
    else
      bif ((Nat.beq m 0) && (Nat.beq m 0)) then
        some (.normal, (TS32 nn g j))
      else
        bif ((Nat.ble (m * 3) (List.length w)) && (Nat.ble 1 m)) then
          some (.normal, (TS33 m nn g j w))
        else
          none
  else
    none := by kernel_rfl
noncomputable def TS34 (m : Nat) (nn : Nat) (g : Nat) (j : Nat) (w : List Int) : KSt := ⟨(frameL 50 [(3, (.slice (some ⟨0, 0, none⟩) (m + 1) (m + 1))), (4, (.int .i64 ((nn : Nat) : Int))), (7, (.int .i64 ((g : Nat) : Int))), (8, (.int .i64 (IntKind.wrap .i64 (((j : Nat) : Int) + 1))))]), ⟨1, 1, [(0, 0, .recs [.i64, .i64, .i64] (List.take (m * 3) w ++ [3, ((g : Nat) : Int), ((j : Nat) : Int)]) 35 true)]⟩⟩
theorem TR25 (m : Nat) (nn : Nat) (g : Nat) (j : Nat) (w : List Int) : TEV (codeAt [1, 1, 1, 1, 1, 0, 1, 0, 0, 1, 0, 0, 1, 0, 0, 1, 1] BT) (TS33 m nn g j w) [3, 4, 7, 8] =
  some (.normal, (TS34 m nn g j w)) := by kernel_rfl
noncomputable def TS35 (m : Nat) (nn : Nat) (g : Nat) (j : Nat) (w : List Int) : KSt := ⟨(frameL 50 [(3, (.slice (some ⟨0, 0, none⟩) (m + 1) (m + 1))), (4, (.int .i64 ((nn : Nat) : Int))), (7, (.int .i64 ((g : Nat) : Int))), (8, (.int .i64 (((j : Nat) : Int) + 1)))]), ⟨1, 1, [(0, 0, .recs [.i64, .i64, .i64] (List.take (m * 3) w ++ [3, ((g : Nat) : Int), ((j : Nat) : Int)]) 35 true)]⟩⟩
noncomputable def TS36 (m : Nat) (nn : Nat) (g : Nat) (w : List Int) : KSt := ⟨(frameL 50 [(3, (.slice (some ⟨0, 0, none⟩) m m)), (4, (.int .i64 ((nn : Nat) : Int))), (7, (.int .i64 (IntKind.wrap .i64 (((g : Nat) : Int) + 1))))]), ⟨1, 1, [(0, 0, .recs [.i64, .i64, .i64] w 35 true)]⟩⟩
theorem TR26 (m : Nat) (nn : Nat) (g : Nat) (j : Nat) (w : List Int) : TEV (codeAt [1, 1, 1, 1, 1, 0, 1, 0, 0, 1, 1] BT) (TS31 m nn g j w) [3, 4, 7] =
  some (.normal, (TS36 m nn g w)) := by kernel_rfl
noncomputable def TS37 (m : Nat) (nn : Nat) (g : Nat) (w : List Int) : KSt := ⟨(frameL 50 [(3, (.slice (some ⟨0, 0, none⟩) m m)), (4, (.int .i64 ((nn : Nat) : Int))), (7, (.int .i64 (((g : Nat) : Int) + 1)))]), ⟨1, 1, [(0, 0, .recs [.i64, .i64, .i64] w 35 true)]⟩⟩
noncomputable def TS38 (m : Nat) (w : List Int) : KSt := ⟨(frameL 50 [(2, (.slice (some ⟨0, 0, none⟩) m m))]), ⟨1, 1, [(0, 0, .recs [.i64, .i64, .i64] w 35 true)]⟩⟩
theorem TR27 (m : Nat) (nn : Nat) (g : Nat) (w : List Int) : TEV (codeAt [1, 1, 1, 1, 1, 1, 0] BT) (TS28 m nn g w) [2] =
  some (.normal, (TS38 m w)) := by kernel_rfl
theorem Tno {k : Int} (hg : groupsV k = 0)   {Q : Ex → St → Prop} (hq : Q .ret (KSt.low TS9)) : Gets Try.prog (KH.low ⟨0, 1, []⟩) BT (KSt.low (TS0 k)) Q := by
  rw [TC]; refine Gets.seq ?_
  refine Tgo (TR1 k) ?_
  rw [TC1]; refine Gets.seq ?_
  refine Tgo (TR2 k) ?_
  rw [TC1_1]; refine Gets.seq ?_
  refine Tgo (x := .normal) (s' := TS4) ((TR3 k).trans (by (show some (Ex.normal, (TS3 k)) = some (Ex.normal, TS4); unfold TS3 TS4; rw [(show (groupsV k) = 0 from hg)]))) ?_
  rw [TC1_1_1]; refine Gets.seq ?_
  rw [TC1_1_1_0]; refine Gets.seq ?_
  refine Tgo (TR4) ?_
  refine Tgo (TR5) ?_
  rw [TC1_1_1_1]; refine Gets.seq ?_
  rw [TC1_1_1_1_0]; refine Gets.seq ?_
  refine Tgo (TR6) ?_
  refine Tgo (TR7) ?_
  rw [TC1_1_1_1_1]; refine Gets.seq ?_
  rw [TC1_1_1_1_1_0]; refine Gets.seq ?_
  refine Tgo (TR8) ?_
  refine Tgo (TR9) ?_
  rw [TC1_1_1_1_1_1]; refine Gets.seq ?_
  refine Tgo (TR10) ?_
  rw [TC1_1_1_1_1_1_1]; refine Gets.ev fitT.mix fitT.cfg (fitT.sound tt_sound 14 0) 14 rfl (s' := KSt.low TS9) (x := .ret) rfl ?_
  exact hq
theorem Tin {k : Int} {nn : Nat} (hg : groupsV k = ((nn : Nat) : Int)) (h1 : 1 ≤ nn)   {Q : Ex → St → Prop} (hq : Gets Try.prog (KH.low ⟨0, 1, []⟩) (codeAt [1, 1, 1, 1, 0, 1] BT) (KSt.low (TS19 nn)) (onN (fun s => Gets Try.prog (KH.low ⟨0, 1, []⟩) (codeAt [1, 1, 1, 1, 1] BT) s (Q)) (Q))) : Gets Try.prog (KH.low ⟨0, 1, []⟩) BT (KSt.low (TS0 k)) Q := by
  rw [TC]; refine Gets.seq ?_
  refine Tgo (TR1 k) ?_
  rw [TC1]; refine Gets.seq ?_
  refine Tgo (TR2 k) ?_
  rw [TC1_1]; refine Gets.seq ?_
  refine Tgo (x := .normal) (s' := (TS10 nn)) ((TR3 k).trans (by (show some (Ex.normal, (TS3 k)) = some (Ex.normal, (TS10 nn)); unfold TS3 TS10; rw [(show (groupsV k) = ((nn : Nat) : Int) from hg)]))) ?_
  rw [TC1_1_1]; refine Gets.seq ?_
  rw [TC1_1_1_0]; refine Gets.seq ?_
  refine Tgo (TR11 nn) ?_
  refine Tgo (x := .normal) (s' := (TS12 nn)) ((TR12 nn).trans (by rw [condT (decide_eq_true (by omega)), condT (decide_eq_true (by omega)), condT (decide_eq_true (by omega)), condT (decide_eq_true (by omega)), condT (decide_eq_true (by omega)), condT (decide_eq_true (by omega)), condT (decide_eq_true (by omega))])) ?_
  rw [TC1_1_1_1]; refine Gets.seq ?_
  rw [TC1_1_1_1_0]; refine Gets.seq ?_
  refine Tgo (TR13 nn) ?_
  exact hq
theorem Tg1 {w : List Int} {m : Nat} {g : Nat} {nn : Nat} (hw : w.length = m * 3) (hm : m ≤ 5000) (h1 : 1 ≤ m) (hi : g < nn) (h2 : nn ≤ 512)   {Q : Ex → St → Prop} (hq : Q .normal (KSt.low (TS25 m nn g w))) : Gets Try.prog (KH.low ⟨0, 1, []⟩) (codeAt [1, 1, 1, 1, 0, 1, 0, 0] BT) (KSt.low (TS20 m nn g w)) Q := by
  rw [TC1_1_1_1_0_1_0_0]; refine Gets.seq ?_
  rw [TC1_1_1_1_0_1_0_0_0]; refine Gets.seq ?_
  refine Tgo (TR14 m nn g w) ?_
  rw [TC1_1_1_1_0_1_0_0_0_1]; refine Gets.cond true (by kernel_rfl) (TeX (b := (decide (((g : Nat) : Int) < ((nn : Nat) : Int)))) (by kernel_rfl) ((show (decide (((g : Nat) : Int) < ((nn : Nat) : Int))) = true from decide_eq_true (by omega)))) ?_; show Gets _ _ (codeAt [1, 1, 1, 1, 0, 1, 0, 0, 0, 1, 0] BT) _ _
  refine Tgo (TR15 m nn g w) ?_
  rw [TC1_1_1_1_0_1_0_0_1]; refine Gets.seq ?_
  rw [TC1_1_1_1_0_1_0_0_1_0]; refine Gets.block ?_
  refine Tgo (x := .normal) (s' := (TS23 m nn g w)) ((TR16 m nn g w).trans (by rw [condT (ble_t (by omega)), condF (ble_f (by omega)), condF (and_f1 (nbeq_f (by omega))), condT (and_t (ble_t (by (first | omega | ((try simp (disch := omega) only [wrap_i64_id]) <;> omega)))) (ble_t (by omega)))])) ?_
  refine Tgo (x := .normal) (s' := (TS25 m nn g w)) ((TR17 m nn g w).trans (by (show some (Ex.normal, (TS24 m nn g w)) = some (Ex.normal, (TS25 m nn g w)); unfold TS24 TS25; rw [(show (IntKind.wrap .i64 (((g : Nat) : Int) + 1)) = (((g : Nat) : Int) + 1) from wrap_i64_id (by omega) (by omega))]))) ?_
  exact hq
theorem Tgx {nn : Nat} {g : Nat} {m : Nat} {w : List Int} (hi : nn ≤ g)   {Q : Ex → St → Prop} (hq : Q (.exit 2) (KSt.low (TS21 m nn g w))) : Gets Try.prog (KH.low ⟨0, 1, []⟩) (codeAt [1, 1, 1, 1, 0, 1, 0, 0] BT) (KSt.low (TS20 m nn g w)) Q := by
  rw [TC1_1_1_1_0_1_0_0]; refine Gets.seq ?_
  rw [TC1_1_1_1_0_1_0_0_0]; refine Gets.seq ?_
  refine Tgo (TR14 m nn g w) ?_
  rw [TC1_1_1_1_0_1_0_0_0_1]; refine Gets.cond false (by kernel_rfl) (TeX (b := (decide (((g : Nat) : Int) < ((nn : Nat) : Int)))) (by kernel_rfl) ((show (decide (((g : Nat) : Int) < ((nn : Nat) : Int))) = false from decide_eq_false (by omega)))) ?_; show Gets _ _ (codeAt [1, 1, 1, 1, 0, 1, 0, 0, 0, 1, 1] BT) _ _
  rw [TC1_1_1_1_0_1_0_0_0_1_1]; refine Gets.ev fitT.mix fitT.cfg (fitT.sound tt_sound 14 0) 14 rfl (s' := KSt.low (TS21 m nn g w)) (x := (.exit 2)) rfl ?_
  exact hq
theorem Ts0 {m : Nat} {nn : Nat} {w : List Int} {g : Nat}   {Q : Ex → St → Prop} (hq : Gets Try.prog (KH.low ⟨0, 1, []⟩) (codeAt [1, 1, 1, 1, 1, 0, 1] BT) (KSt.low (TS26 m nn w)) (onN (fun s => Gets Try.prog (KH.low ⟨0, 1, []⟩) (codeAt [1, 1, 1, 1, 1, 1] BT) s (Q)) (Q))) : Gets Try.prog (KH.low ⟨0, 1, []⟩) (codeAt [1, 1, 1, 1, 1] BT) (KSt.low (TS21 m nn g w)) Q := by
  rw [TC1_1_1_1_1]; refine Gets.seq ?_
  rw [TC1_1_1_1_1_0]; refine Gets.seq ?_
  refine Tgo (TR18 m nn g w) ?_
  exact hq
theorem Ta4 {g : Nat} {nn : Nat} {m : Nat} {w : List Int} (hi : g < nn)   {Q : Ex → St → Prop} (hq : Gets Try.prog (KH.low ⟨0, 1, []⟩) (codeAt [1, 1, 1, 1, 1, 0, 1, 0, 0, 1, 0, 0, 1] BT) (KSt.low (TS29 m nn g w)) (onB 5 (onN (fun s => Gets Try.prog (KH.low ⟨0, 1, []⟩) (codeAt [1, 1, 1, 1, 1, 0, 1, 0, 0, 1, 1] BT) s (Q)) (Q)))) : Gets Try.prog (KH.low ⟨0, 1, []⟩) (codeAt [1, 1, 1, 1, 1, 0, 1, 0, 0] BT) (KSt.low (TS27 m nn g w)) Q := by
  rw [TC1_1_1_1_1_0_1_0_0]; refine Gets.seq ?_
  rw [TC1_1_1_1_1_0_1_0_0_0]; refine Gets.seq ?_
  refine Tgo (TR19 m nn g w) ?_
  rw [TC1_1_1_1_1_0_1_0_0_0_1]; refine Gets.cond true (by kernel_rfl) (TeX (b := (decide (((g : Nat) : Int) < ((nn : Nat) : Int)))) (by kernel_rfl) ((show (decide (((g : Nat) : Int) < ((nn : Nat) : Int))) = true from decide_eq_true (by omega)))) ?_; show Gets _ _ (codeAt [1, 1, 1, 1, 1, 0, 1, 0, 0, 0, 1, 0] BT) _ _
  refine Tgo (TR20 m nn g w) ?_
  rw [TC1_1_1_1_1_0_1_0_0_1]; refine Gets.seq ?_
  rw [TC1_1_1_1_1_0_1_0_0_1_0]; refine Gets.block ?_
  rw [TC1_1_1_1_1_0_1_0_0_1_0_0]; refine Gets.seq ?_
  refine Tgo (TR21 m nn g w) ?_
  exact hq
theorem Tax {nn : Nat} {g : Nat} {m : Nat} {w : List Int} (hi : nn ≤ g)   {Q : Ex → St → Prop} (hq : Q (.exit 4) (KSt.low (TS28 m nn g w))) : Gets Try.prog (KH.low ⟨0, 1, []⟩) (codeAt [1, 1, 1, 1, 1, 0, 1, 0, 0] BT) (KSt.low (TS27 m nn g w)) Q := by
  rw [TC1_1_1_1_1_0_1_0_0]; refine Gets.seq ?_
  rw [TC1_1_1_1_1_0_1_0_0_0]; refine Gets.seq ?_
  refine Tgo (TR19 m nn g w) ?_
  rw [TC1_1_1_1_1_0_1_0_0_0_1]; refine Gets.cond false (by kernel_rfl) (TeX (b := (decide (((g : Nat) : Int) < ((nn : Nat) : Int)))) (by kernel_rfl) ((show (decide (((g : Nat) : Int) < ((nn : Nat) : Int))) = false from decide_eq_false (by omega)))) ?_; show Gets _ _ (codeAt [1, 1, 1, 1, 1, 0, 1, 0, 0, 0, 1, 1] BT) _ _
  rw [TC1_1_1_1_1_0_1_0_0_0_1_1]; refine Gets.ev fitT.mix fitT.cfg (fitT.sound tt_sound 14 0) 14 rfl (s' := KSt.low (TS28 m nn g w)) (x := (.exit 4)) rfl ?_
  exact hq
theorem Tb6 {w : List Int} {m : Nat} {j : Nat} {nn : Nat} {g : Nat} (hw : w.length = m * 3) (hm : m ≤ 5000) (h1 : 1 ≤ m) (hj : j < 8)   {Q : Ex → St → Prop} (hq : Q .normal (KSt.low (TS35 m nn g j w))) : Gets Try.prog (KH.low ⟨0, 1, []⟩) (codeAt [1, 1, 1, 1, 1, 0, 1, 0, 0, 1, 0, 0, 1, 0, 0] BT) (KSt.low (TS30 m nn g j w)) Q := by
  rw [TC1_1_1_1_1_0_1_0_0_1_0_0_1_0_0]; refine Gets.seq ?_
  rw [TC1_1_1_1_1_0_1_0_0_1_0_0_1_0_0_0]; refine Gets.seq ?_
  refine Tgo (TR22 m nn g j w) ?_
  rw [TC1_1_1_1_1_0_1_0_0_1_0_0_1_0_0_0_1]; refine Gets.cond true (by kernel_rfl) (TeX (b := (decide (((j : Nat) : Int) < 8))) (by kernel_rfl) ((show (decide (((j : Nat) : Int) < 8)) = true from decide_eq_true (by omega)))) ?_; show Gets _ _ (codeAt [1, 1, 1, 1, 1, 0, 1, 0, 0, 1, 0, 0, 1, 0, 0, 0, 1, 0] BT) _ _
  refine Tgo (TR23 m nn g j w) ?_
  rw [TC1_1_1_1_1_0_1_0_0_1_0_0_1_0_0_1]; refine Gets.seq ?_
  rw [TC1_1_1_1_1_0_1_0_0_1_0_0_1_0_0_1_0]; refine Gets.block ?_
  refine Tgo (x := .normal) (s' := (TS33 m nn g j w)) ((TR24 m nn g j w).trans (by rw [condT (ble_t (by omega)), condF (ble_f (by omega)), condF (and_f1 (nbeq_f (by omega))), condT (and_t (ble_t (by (first | omega | ((try simp (disch := omega) only [wrap_i64_id]) <;> omega)))) (ble_t (by omega)))])) ?_
  refine Tgo (x := .normal) (s' := (TS35 m nn g j w)) ((TR25 m nn g j w).trans (by (show some (Ex.normal, (TS34 m nn g j w)) = some (Ex.normal, (TS35 m nn g j w)); unfold TS34 TS35; rw [(show (IntKind.wrap .i64 (((j : Nat) : Int) + 1)) = (((j : Nat) : Int) + 1) from wrap_i64_id (by omega) (by omega))]))) ?_
  exact hq
theorem Tx6 {j : Nat} {m : Nat} {nn : Nat} {g : Nat} {w : List Int} (hj : 8 ≤ j)   {Q : Ex → St → Prop} (hq : Q (.exit 6) (KSt.low (TS31 m nn g j w))) : Gets Try.prog (KH.low ⟨0, 1, []⟩) (codeAt [1, 1, 1, 1, 1, 0, 1, 0, 0, 1, 0, 0, 1, 0, 0] BT) (KSt.low (TS30 m nn g j w)) Q := by
  rw [TC1_1_1_1_1_0_1_0_0_1_0_0_1_0_0]; refine Gets.seq ?_
  rw [TC1_1_1_1_1_0_1_0_0_1_0_0_1_0_0_0]; refine Gets.seq ?_
  refine Tgo (TR22 m nn g j w) ?_
  rw [TC1_1_1_1_1_0_1_0_0_1_0_0_1_0_0_0_1]; refine Gets.cond false (by kernel_rfl) (TeX (b := (decide (((j : Nat) : Int) < 8))) (by kernel_rfl) ((show (decide (((j : Nat) : Int) < 8)) = false from decide_eq_false (by omega)))) ?_; show Gets _ _ (codeAt [1, 1, 1, 1, 1, 0, 1, 0, 0, 1, 0, 0, 1, 0, 0, 0, 1, 1] BT) _ _
  rw [TC1_1_1_1_1_0_1_0_0_1_0_0_1_0_0_0_1_1]; refine Gets.ev fitT.mix fitT.cfg (fitT.sound tt_sound 14 0) 14 rfl (s' := KSt.low (TS31 m nn g j w)) (x := (.exit 6)) rfl ?_
  exact hq
theorem Tn4 {g : Nat} {m : Nat} {nn : Nat} {w : List Int} {j : Nat} (h2 : g ≤ 512)   {Q : Ex → St → Prop} (hq : Q .normal (KSt.low (TS37 m nn g w))) : Gets Try.prog (KH.low ⟨0, 1, []⟩) (codeAt [1, 1, 1, 1, 1, 0, 1, 0, 0, 1, 1] BT) (KSt.low (TS31 m nn g j w)) Q := by
  refine Tgo (x := .normal) (s' := (TS37 m nn g w)) ((TR26 m nn g j w).trans (by (show some (Ex.normal, (TS36 m nn g w)) = some (Ex.normal, (TS37 m nn g w)); unfold TS36 TS37; rw [(show (IntKind.wrap .i64 (((g : Nat) : Int) + 1)) = (((g : Nat) : Int) + 1) from wrap_i64_id (by omega) (by omega))]))) ?_
  exact hq
theorem Tend {m : Nat} {w : List Int} {nn : Nat} {g : Nat}   {Q : Ex → St → Prop} (hq : Q .ret (KSt.low (TS38 m w))) : Gets Try.prog (KH.low ⟨0, 1, []⟩) (codeAt [1, 1, 1, 1, 1, 1] BT) (KSt.low (TS28 m nn g w)) Q := by
  rw [TC1_1_1_1_1_1]; refine Gets.seq ?_
  refine Tgo (TR27 m nn g w) ?_
  rw [TC1_1_1_1_1_1_1]; refine Gets.ev fitT.mix fitT.cfg (fitT.sound tt_sound 14 0) 14 rfl (s' := KSt.low (TS38 m w)) (x := .ret) rfl ?_
  exact hq

end Go.Proofs.Ytgegcbeeljbiaaa
