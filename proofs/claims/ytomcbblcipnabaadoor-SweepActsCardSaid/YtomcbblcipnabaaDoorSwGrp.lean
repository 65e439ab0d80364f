/- Groups, slots and sizes of tables, beside the desk. -/
import Derived.Test.YtomcbblcipnabaaDoorDesk
import Derived.WalkKit
import Derived.ProofKit
import Derived.OpenShut
import Derived.ChangeOld
import Derived.Below
import Derived.SizedLaws
namespace Go.Proofs.YtomcbblcipnabaaDoor
open Go.Eng
open Go.ChangeShapes Go.WideShapes Go.ChangeAt Go.RowKit
set_option linter.unusedVariables false
set_option linter.unusedSimpArgs false
set_option maxRecDepth 100000
noncomputable def cfgG : Cfg := ⟨[]⟩
noncomputable def fsG : List FuncId := [15, 19, 27, 28, 34, 35]
theorem fitG : Fit Tryd.prog cfgG fsG := ⟨by kernel_rfl, Cfg.ok_of (by kernel_rfl), by kernel_rfl⟩
/-- How many groups there are. -/
def groupsV (a : Int) : Int := if a < 0 ∨ 9 < a then 0 else 2 ^ a.toNat
theorem small (a : Int) (h0 : ¬ a < 0) (h9 : ¬ 9 < a) : a = 0 ∨ a = 1 ∨ a = 2 ∨ a = 3 ∨ a = 4 ∨ a = 5 ∨ a = 6 ∨ a = 7 ∨ a = 8 ∨ a = 9 := by omega
theorem groupsV_bounds (a : Int) : 0 ≤ groupsV a ∧ groupsV a ≤ 512 := by
  unfold groupsV
  split
  · omega
  · rename_i h
    rcases small a (by omega) (by omega) with h | h | h | h | h | h | h | h | h | h <;> subst h <;> decide
theorem groupsV_pos (a : Int) : 0 < groupsV a ↔ 0 ≤ a ∧ a ≤ 9 := by
  unfold groupsV
  constructor
  · intro h
    split at h
    · omega
    · omega
  · intro h
    rw [if_neg (by omega)]
    rcases small a (by omega) (by omega) with h | h | h | h | h | h | h | h | h | h <;> subst h <;> decide
/-- Where a slot is, and how many cells a table has. -/
def slotV (a g s : Int) : Int := if 0 ≤ g ∧ g < groupsV a ∧ 0 ≤ s ∧ s ≤ 7 then 7 + groupsV a + 8 * g + s else -1
def sizeV (a : Int) : Int := if groupsV a = 0 then 0 else 7 + 9 * groupsV a
theorem groupsA_tree (a : Int) (e0 : TypeId) : runK Tryd.prog cfgG fsG noT 14 40 35 [.int .i64 a] (varH .i64 [1, 64, 1, 64] e0) valK =
  bif (decide (a < 0)) then
    some (.int .i64 0)
  else
    bif (decide (a > 9)) then
      some (.int .i64 0)
    else
      bif (decide (a < 0)) then
        none
      else
        some (.int .i64 (IntKind.wrap .i64 (1 * (2 ^ (min (Int.toNat a) (IntKind.bits .i64)))))) := by kernel_rfl
theorem groupsR_tree (a : Int) (e0 : TypeId) : runK Tryd.prog cfgG fsG noT 14 40 27 [.int .i64 a] (varH .i64 [1, 64, 1, 64] e0) valK =
  bif (decide (a < 0)) then
    some (.int .i64 0)
  else
    bif (decide (a > 9)) then
      some (.int .i64 0)
    else
      bif (decide (0 < a)) then
        bif (decide (1 < a)) then
          bif (decide (2 < a)) then
            bif (decide (3 < a)) then
              bif (decide (4 < a)) then
                bif (decide (5 < a)) then
                  bif (decide (6 < a)) then
                    bif (decide (7 < a)) then
                      bif (decide (8 < a)) then
                        bif (decide (9 < a)) then
                          bif (decide (10 < a)) then
                            bif (decide (11 < a)) then
                              bif (decide (12 < a)) then
                                bif (decide (13 < a)) then
                                  none
                                else
                                  some (.int .i64 8192)
                              else
                                some (.int .i64 4096)
                            else
                              some (.int .i64 2048)
                          else
                            some (.int .i64 1024)
                        else
                          some (.int .i64 512)
                      else
                        some (.int .i64 256)
                    else
                      some (.int .i64 128)
                  else
                    some (.int .i64 64)
                else
                  some (.int .i64 32)
              else
                some (.int .i64 16)
            else
              some (.int .i64 8)
          else
            some (.int .i64 4)
        else
          some (.int .i64 2)
      else
        some (.int .i64 1) := by kernel_rfl
theorem groupsA_told (a : Int) (e0 : TypeId) : Tells Tryd.prog 35 [.int .i64 a] (varH .i64 [1, 64, 1, 64] e0).low (.int .i64 (groupsV a)) := by
  refine Tells.of_tree (h := (varH .i64 [1, 64, 1, 64] e0)) fitG SoundC.no AgreeT.no (by kernel_rfl) rfl (show Ro (varH .i64 [1, 64, 1, 64] e0).low from Ro.varH) (n := 14) (d := 40) ?_
  rw [groupsA_tree]
  unfold groupsV
  by_cases h0 : a < 0
  · rw [if_pos (.inl h0), decide_eq_true h0]; rfl
  · by_cases h9 : 9 < a
    · rw [if_pos (.inr h9), decide_eq_false h0, decide_eq_true (show a > 9 from h9)]; rfl
    · rcases small a h0 h9 with h | h | h | h | h | h | h | h | h | h <;> subst h <;> kernel_rfl

theorem groupsR_told (a : Int) (e0 : TypeId) : Tells Tryd.prog 27 [.int .i64 a] (varH .i64 [1, 64, 1, 64] e0).low (.int .i64 (groupsV a)) := by
  refine Tells.of_tree (h := (varH .i64 [1, 64, 1, 64] e0)) fitG SoundC.no AgreeT.no (by kernel_rfl) rfl (show Ro (varH .i64 [1, 64, 1, 64] e0).low from Ro.varH) (n := 14) (d := 40) ?_
  rw [groupsR_tree]
  unfold groupsV
  by_cases h0 : a < 0
  · rw [if_pos (.inl h0), decide_eq_true h0]; rfl
  · by_cases h9 : 9 < a
    · rw [if_pos (.inr h9), decide_eq_false h0, decide_eq_true (show a > 9 from h9)]; rfl
    · rcases small a h0 h9 with h | h | h | h | h | h | h | h | h | h <;> subst h <;> kernel_rfl

def grp0E : ConE := fun acc f args => match acc.cells 0 with
  | some ([.int .i64 1, .int .i64 64, .int .i64 1, .int .i64 64], e, false) => (match f, args with
    | 35, [.int .i64 a] => some ⟨[0], [.int .i64 a], [.cells [.int .i64 1, .int .i64 64, .int .i64 1, .int .i64 64] e false], .int .i64 (groupsV a), [], []⟩
    | 27, [.int .i64 a] => some ⟨[0], [.int .i64 a], [.cells [.int .i64 1, .int .i64 64, .int .i64 1, .int .i64 64] e false], .int .i64 (groupsV a), [], []⟩
    | _, _ => none)
  | _ => none
def grp0Dom : List FuncId := [35, 27]
theorem grp0_sound : SoundC Tryd.prog (conC grp0Dom grp0E) := by
  refine SoundC.con (fun f hf => fitG.fnOk f (by
    have h0 : (grp0Dom.all fun f => fsG.contains f) = true := by kernel_rfl
    simpa using List.all_eq_true.1 h0 f hf)) ?_
  intro h f args c _ hE
  unfold grp0E at hE
  split at hE
  · rename_i e hc
    have hc0 : h.get 0 = some (.cells (intCells .i64 [1, 64, 1, 64]) e false) := by
      have hc : cellsA h 0 = _ := hc
      unfold cellsA at hc
      split at hc
      · rename_i hq; cases hc; exact hq
      · cases hc
    split at hE
    · cases hE; exact ConOk.var oneVar rfl rfl (groupsA_told _ _) h hc0
    · cases hE; exact ConOk.var oneVar rfl rfl (groupsR_told _ _) h hc0
    · cases hE
  · cases hE

theorem slotA_tree (a g s : Int) (e0 : TypeId) : runK Tryd.prog cfgG fsG (conT grp0Dom grp0E) 14 40 15 [(.int .i64 a), (.int .i64 g), (.int .i64 s)] (varH .i64 [1, 64, 1, 64] e0) valK =
  bif (decide (g < 0)) then
    some (.int .i64 (-1))
  else
    bif (decide (g ≥ (groupsV a))) then
      some (.int .i64 (-1))
    else
      bif (decide ((IntKind.wrap .i64 (7 + g)) < 0)) then
        some (.int .i64 (-1))
      else
        bif (decide (s < 0)) then
          some (.int .i64 (-1))
        else
          bif (decide (s ≥ 8)) then
            some (.int .i64 (-1))
          else
            some (.int .i64 (IntKind.wrap .i64 ((IntKind.wrap .i64 ((IntKind.wrap .i64 ((IntKind.wrap .i64 (7 + g)) + (groupsV a))) + (IntKind.wrap .i64 (7 * g)))) + s))) := by kernel_rfl
theorem slotA_told (a g s : Int) (e0 : TypeId) : Tells Tryd.prog 15 [(.int .i64 a), (.int .i64 g), (.int .i64 s)] (varH .i64 [1, 64, 1, 64] e0).low (.int .i64 (slotV a g s)) := by
  refine Tells.of_tree (h := (varH .i64 [1, 64, 1, 64] e0)) fitG grp0_sound (conT_agree _ _) (by kernel_rfl) rfl (show Ro (varH .i64 [1, 64, 1, 64] e0).low from Ro.varH) (n := 14) (d := 40) ?_
  rw [slotA_tree]
  unfold slotV
  obtain ⟨b1, b2⟩ := groupsV_bounds a
  generalize groupsV a = N at b1 b2 ⊢
  have hw : 0 ≤ g ∧ g < N → IntKind.wrap .i64 (7 + g) = 7 + g := fun h => wrap_i64_id (by omega) (by omega)
  simp only [cond_eq_ite, decide_eq_true_eq, bne_iff_ne, ne_eq, Bool.not_eq_true', decide_eq_false_iff_not, beq_iff_eq]
  repeat' split
  all_goals first | omega | (refine congrArg (fun b => some (Value.int .i64 b)) ?_; first | omega | (simp (disch := omega) only [wrap_i64_id]; omega) | (simp (disch := omega) only [wrap_i64_id]) | (simp only [IntKind.wrap_i64]; omega))

theorem slotR_tree (a g s : Int) (e0 : TypeId) : runK Tryd.prog cfgG fsG (conT grp0Dom grp0E) 14 40 28 [(.int .i64 a), (.int .i64 g), (.int .i64 s)] (varH .i64 [1, 64, 1, 64] e0) valK =
  bif (decide (g < 0)) then
    some (.int .i64 (-1))
  else
    bif (decide (g ≥ (groupsV a))) then
      some (.int .i64 (-1))
    else
      bif (decide (s < 0)) then
        some (.int .i64 (-1))
      else
        bif (decide (s > 7)) then
          some (.int .i64 (-1))
        else
          some (.int .i64 (IntKind.wrap .i64 ((IntKind.wrap .i64 ((IntKind.wrap .i64 (7 + (groupsV a))) + (IntKind.wrap .i64 (8 * g)))) + s))) := by kernel_rfl
theorem slotR_told (a g s : Int) (e0 : TypeId) : Tells Tryd.prog 28 [(.int .i64 a), (.int .i64 g), (.int .i64 s)] (varH .i64 [1, 64, 1, 64] e0).low (.int .i64 (slotV a g s)) := by
  refine Tells.of_tree (h := (varH .i64 [1, 64, 1, 64] e0)) fitG grp0_sound (conT_agree _ _) (by kernel_rfl) rfl (show Ro (varH .i64 [1, 64, 1, 64] e0).low from Ro.varH) (n := 14) (d := 40) ?_
  rw [slotR_tree]
  unfold slotV
  obtain ⟨b1, b2⟩ := groupsV_bounds a
  generalize groupsV a = N at b1 b2 ⊢

  simp only [cond_eq_ite, decide_eq_true_eq, bne_iff_ne, ne_eq, Bool.not_eq_true', decide_eq_false_iff_not, beq_iff_eq]
  repeat' split
  all_goals first | omega | (refine congrArg (fun b => some (Value.int .i64 b)) ?_; first | omega | (simp (disch := omega) only [wrap_i64_id]; omega) | (simp (disch := omega) only [wrap_i64_id]) | (simp only [IntKind.wrap_i64]; omega))

theorem sizeA_tree (a : Int) (e0 : TypeId) : runK Tryd.prog cfgG fsG (conT grp0Dom grp0E) 14 40 19 [(.int .i64 a)] (varH .i64 [1, 64, 1, 64] e0) valK =
  bif ((groupsV a) == 0) then
    some (.int .i64 0)
  else
    some (.int .i64 (IntKind.wrap .i64 ((IntKind.wrap .i64 (7 + (groupsV a))) + (IntKind.wrap .i64 (8 * (groupsV a)))))) := by kernel_rfl
theorem sizeA_told (a : Int) (e0 : TypeId) : Tells Tryd.prog 19 [(.int .i64 a)] (varH .i64 [1, 64, 1, 64] e0).low (.int .i64 (sizeV a)) := by
  refine Tells.of_tree (h := (varH .i64 [1, 64, 1, 64] e0)) fitG grp0_sound (conT_agree _ _) (by kernel_rfl) rfl (show Ro (varH .i64 [1, 64, 1, 64] e0).low from Ro.varH) (n := 14) (d := 40) ?_
  rw [sizeA_tree]
  unfold sizeV
  obtain ⟨b1, b2⟩ := groupsV_bounds a
  generalize groupsV a = N at b1 b2 ⊢

  simp only [cond_eq_ite, decide_eq_true_eq, bne_iff_ne, ne_eq, Bool.not_eq_true', decide_eq_false_iff_not, beq_iff_eq]
  repeat' split
  all_goals first | omega | (refine congrArg (fun b => some (Value.int .i64 b)) ?_; first | omega | (simp (disch := omega) only [wrap_i64_id]; omega) | (simp (disch := omega) only [wrap_i64_id]) | (simp only [IntKind.wrap_i64]; omega))

def grpE : ConE := fun acc f args => match acc.cells 0 with
  | some ([.int .i64 1, .int .i64 64, .int .i64 1, .int .i64 64], e, false) => (match f, args with
    | 27, [.int .i64 a] => some ⟨[0], [.int .i64 a], [.cells [.int .i64 1, .int .i64 64, .int .i64 1, .int .i64 64] e false], .int .i64 (groupsV a), [], []⟩
    | 15, [.int .i64 a, .int .i64 g, .int .i64 s] => some ⟨[0], [.int .i64 a, .int .i64 g, .int .i64 s], [.cells [.int .i64 1, .int .i64 64, .int .i64 1, .int .i64 64] e false], .int .i64 (slotV a g s), [], []⟩
    | 28, [.int .i64 a, .int .i64 g, .int .i64 s] => some ⟨[0], [.int .i64 a, .int .i64 g, .int .i64 s], [.cells [.int .i64 1, .int .i64 64, .int .i64 1, .int .i64 64] e false], .int .i64 (slotV a g s), [], []⟩
    | 19, [.int .i64 a] => some ⟨[0], [.int .i64 a], [.cells [.int .i64 1, .int .i64 64, .int .i64 1, .int .i64 64] e false], .int .i64 (sizeV a), [], []⟩
    | _, _ => none)
  | _ => none
def grpDom : List FuncId := [27, 15, 28, 19]
theorem grp_fn : ∀ f ∈ grpDom, FnOk Tryd.prog f := fun f hf => fitG.fnOk f (by
    have h0 : (grpDom.all fun f => fsG.contains f) = true := by kernel_rfl
    simpa using List.all_eq_true.1 h0 f hf)
theorem grp_ok : ∀ (h : AH) (f : FuncId) (args : List Value) (c : Con), grpE (accA h) f args = some c → ConOk Tryd.prog f args h c := by
  intro h f args c hE
  unfold grpE at hE
  split at hE
  · rename_i e hc
    have hc0 : h.get 0 = some (.cells (intCells .i64 [1, 64, 1, 64]) e false) := by
      have hc : cellsA h 0 = _ := hc
      unfold cellsA at hc
      split at hc
      · rename_i hq; cases hc; exact hq
      · cases hc
    split at hE
    · cases hE; exact ConOk.var oneVar rfl rfl (groupsR_told _ _) h hc0
    · cases hE; exact ConOk.var oneVar rfl rfl (slotA_told _ _ _ _) h hc0
    · cases hE; exact ConOk.var oneVar rfl rfl (slotR_told _ _ _ _) h hc0
    · cases hE; exact ConOk.var oneVar rfl rfl (sizeA_told _ _) h hc0
    · cases hE
  · cases hE
def swE : ConE := orE deskDom deskE grpE
def swDom : List FuncId := deskDom ++ grpDom
theorem sw_fn : ∀ f ∈ swDom, FnOk Tryd.prog f := fun f hf => by
  rcases List.mem_append.1 hf with hf | hf
  · exact desk_fn f hf
  · exact grp_fn f hf
theorem sw_ok : ∀ (h : AH) (f : FuncId) (args : List Value) (c : Con), swE (accA h) f args = some c → ConOk Tryd.prog f args h c := by
  intro h f args c hE
  unfold swE orE at hE
  cases hd : deskDom.contains f with
  | true => rw [hd] at hE; exact desk_ok h f args c hE
  | false => rw [hd] at hE; exact grp_ok h f args c hE
theorem sw_sound : SoundC Tryd.prog (conC swDom swE) := SoundC.con sw_fn fun h f args c _ hE => sw_ok h f args c hE

end Go.Proofs.YtomcbblcipnabaaDoor
