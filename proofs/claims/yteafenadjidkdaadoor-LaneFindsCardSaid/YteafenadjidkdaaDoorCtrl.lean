/- Classes, claims, seals and the next place, as contracts. -/
import Derived.Test.YteafenadjidkdaaDoorLanePm
import Derived.WalkKit
import Derived.ProofKit
import Derived.OpenShut
import Derived.ChangeOld
import Derived.Below
import Derived.SizedLaws
namespace Go.Proofs.YteafenadjidkdaaDoor.ctrls
open Go.Eng
open Go.ChangeShapes Go.WideShapes Go.ChangeAt Go.RowKit
set_option linter.unusedVariables false
set_option linter.unusedSimpArgs false
set_option maxRecDepth 100000
noncomputable def cfgC : Cfg := ⟨[]⟩
noncomputable def fsC : List FuncId := [9, 10, 11, 12, 13, 21, 24, 25, 26, 27, 28, 29, 30, 37, 40, 41, 43]
theorem fitC : Fit Tryd.prog cfgC fsC := ⟨by kernel_rfl, Cfg.ok_of (by kernel_rfl), by kernel_rfl⟩
/-- ctrl.Class -/
def classA (w i c : Int) : Int :=
  (bif ((byteV w i) == 0) then
    1
  else
    (bif ((byteV w i) == 1) then
      2
    else
      (bif ((byteV w i) == c) then
        (bif (decide (c ≥ 128)) then
          (bif (decide (c ≤ 255)) then
            3
          else
            0)
        else
          0)
      else
        0)))
theorem classA_tree (w i c : Int) (e0 : TypeId) : runK Tryd.prog cfgC fsC (conT laneDom laneE) 70 40 25 [(.int .u64 w), (.int .i64 i), (.int .i64 c)] (varH .u8 tz e0) valK =
  bif ((byteV w i) == 0) then
    some (.int .i64 1)
  else
    bif ((byteV w i) == 1) then
      some (.int .i64 2)
    else
      bif ((byteV w i) == c) then
        bif (decide (c ≥ 128)) then
          bif (decide (c ≤ 255)) then
            some (.int .i64 3)
          else
            some (.int .i64 0)
        else
          some (.int .i64 0)
      else
        some (.int .i64 0) := by kernel_rfl
theorem classA_told (w i c : Int) (e0 : TypeId) : Tells Tryd.prog 25 [(.int .u64 w), (.int .i64 i), (.int .i64 c)] (varH .u8 tz e0).low (.int .i64 (classA w i c)) := by
  refine Tells.of_tree (h := (varH .u8 tz e0)) fitC lane_sound (conT_agree _ _) (by kernel_rfl) rfl (show Ro (varH .u8 tz e0).low from Ro.varH) (n := 70) (d := 40) ?_
  rw [classA_tree]
  (try simp only [cond_bool, cond_int])
  rfl
/-- sprocketref12.Class -/
def classR (w i c : Int) : Int :=
  (bif ((byteRV w i) == 0) then
    1
  else
    (bif ((byteRV w i) == 1) then
      2
    else
      (bif (decide ((byteRV w i) ≥ 128)) then
        (bif ((byteRV w i) == c) then
          3
        else
          0)
      else
        0)))
theorem classR_tree (w i c : Int) (e0 : TypeId) : runK Tryd.prog cfgC fsC (conT laneDom laneE) 70 40 26 [(.int .u64 w), (.int .i64 i), (.int .i64 c)] (varH .u8 tz e0) valK =
  bif ((byteRV w i) == 0) then
    some (.int .i64 1)
  else
    bif ((byteRV w i) == 1) then
      some (.int .i64 2)
    else
      bif (decide ((byteRV w i) ≥ 128)) then
        bif ((byteRV w i) == c) then
          some (.int .i64 3)
        else
          some (.int .i64 0)
      else
        some (.int .i64 0) := by kernel_rfl
theorem classR_told (w i c : Int) (e0 : TypeId) : Tells Tryd.prog 26 [(.int .u64 w), (.int .i64 i), (.int .i64 c)] (varH .u8 tz e0).low (.int .i64 (classR w i c)) := by
  refine Tells.of_tree (h := (varH .u8 tz e0)) fitC lane_sound (conT_agree _ _) (by kernel_rfl) rfl (show Ro (varH .u8 tz e0).low from Ro.varH) (n := 70) (d := 40) ?_
  rw [classR_tree]
  (try simp only [cond_bool, cond_int])
  rfl
/-- ctrl.Claim -/
def claimA (w i c : Int) : Int :=
  (bif (decide (c ≥ 128)) then
    (bif (!(decide (c ≤ 255))) then
      w
    else
      (bif ((byteV w i) != 0) then
        w
      else
        (withV w i c)))
  else
    w)
theorem claimA_tree (w i c : Int) (e0 : TypeId) : runK Tryd.prog cfgC fsC (conT laneDom laneE) 70 40 28 [(.int .u64 w), (.int .i64 i), (.int .i64 c)] (varH .u8 tz e0) valK =
  bif (decide (c ≥ 128)) then
    bif (!(decide (c ≤ 255))) then
      some (.int .u64 w)
    else
      bif ((byteV w i) != 0) then
        some (.int .u64 w)
      else
        some (.int .u64 (withV w i c))
  else
    some (.int .u64 w) := by kernel_rfl
theorem claimA_told (w i c : Int) (e0 : TypeId) : Tells Tryd.prog 28 [(.int .u64 w), (.int .i64 i), (.int .i64 c)] (varH .u8 tz e0).low (.int .u64 (claimA w i c)) := by
  refine Tells.of_tree (h := (varH .u8 tz e0)) fitC lane_sound (conT_agree _ _) (by kernel_rfl) rfl (show Ro (varH .u8 tz e0).low from Ro.varH) (n := 70) (d := 40) ?_
  rw [claimA_tree]
  (try simp only [cond_bool, cond_int])
  rfl
/-- sprocketref12.Claim -/
def claimR (w i c : Int) : Int :=
  (bif (decide (c < 128)) then
    w
  else
    (bif (decide (c > 255)) then
      w
    else
      (bif ((byteRV w i) != 0) then
        w
      else
        (withRV w i c))))
theorem claimR_tree (w i c : Int) (e0 : TypeId) : runK Tryd.prog cfgC fsC (conT laneDom laneE) 70 40 29 [(.int .u64 w), (.int .i64 i), (.int .i64 c)] (varH .u8 tz e0) valK =
  bif (decide (c < 128)) then
    some (.int .u64 w)
  else
    bif (decide (c > 255)) then
      some (.int .u64 w)
    else
      bif ((byteRV w i) != 0) then
        some (.int .u64 w)
      else
        some (.int .u64 (withRV w i c)) := by kernel_rfl
theorem claimR_told (w i c : Int) (e0 : TypeId) : Tells Tryd.prog 29 [(.int .u64 w), (.int .i64 i), (.int .i64 c)] (varH .u8 tz e0).low (.int .u64 (claimR w i c)) := by
  refine Tells.of_tree (h := (varH .u8 tz e0)) fitC lane_sound (conT_agree _ _) (by kernel_rfl) rfl (show Ro (varH .u8 tz e0).low from Ro.varH) (n := 70) (d := 40) ?_
  rw [claimR_tree]
  (try simp only [cond_bool, cond_int])
  rfl
/-- ctrl.Seal -/
def sealA (w : Int) : Int :=
  (fillW w 0 1)
theorem sealA_tree (w : Int) (e0 : TypeId) : runK Tryd.prog cfgC fsC (conT laneDom laneE) 70 40 30 [(.int .u64 w)] (varH .u8 tz e0) valK =
  some (.int .u64 (fillW w 0 1)) := by kernel_rfl
theorem sealA_told (w : Int) (e0 : TypeId) : Tells Tryd.prog 30 [(.int .u64 w)] (varH .u8 tz e0).low (.int .u64 (sealA w)) := by
  refine Tells.of_tree (h := (varH .u8 tz e0)) fitC lane_sound (conT_agree _ _) (by kernel_rfl) rfl (show Ro (varH .u8 tz e0).low from Ro.varH) (n := 70) (d := 40) ?_
  rw [sealA_tree]
  (try simp only [cond_bool, cond_int])
  rfl
def ctrlE : ConE := fun acc f args => match acc.cells 0 with
  | some (cs, e, false) => (match isTz tz cs with
    | true => (match f, args with
      | 25, [.int .u64 w, .int .i64 i, .int .i64 c] => some ⟨[0], [.int .u64 w, .int .i64 i, .int .i64 c], [.cells cs e false], .int .i64 (classA w i c), [], []⟩
      | 26, [.int .u64 w, .int .i64 i, .int .i64 c] => some ⟨[0], [.int .u64 w, .int .i64 i, .int .i64 c], [.cells cs e false], .int .i64 (classR w i c), [], []⟩
      | 28, [.int .u64 w, .int .i64 i, .int .i64 c] => some ⟨[0], [.int .u64 w, .int .i64 i, .int .i64 c], [.cells cs e false], .int .u64 (claimA w i c), [], []⟩
      | 29, [.int .u64 w, .int .i64 i, .int .i64 c] => some ⟨[0], [.int .u64 w, .int .i64 i, .int .i64 c], [.cells cs e false], .int .u64 (claimR w i c), [], []⟩
      | 30, [.int .u64 w] => some ⟨[0], [.int .u64 w], [.cells cs e false], .int .u64 (sealA w), [], []⟩
      | _, _ => none)
    | false => none)
  | _ => none
def ctrlDom : List FuncId := [25, 26, 28, 29, 30]
theorem ctrlE_ok : ∀ (h : AH) (f : FuncId) (args : List Value) (c : Con), ctrlE (accA h) f args = some c → ConOk Tryd.prog f args h c := by
  intro h f args c hE
  unfold ctrlE at hE
  split at hE
  · rename_i cs e hc
    split at hE
    · rename_i hz
      have hcs := isTz_eq hz
      subst hcs
      have hc0 : h.get 0 = some (.cells (intCells .u8 tz) e false) := by
        have hc : cellsA h 0 = _ := hc
        unfold cellsA at hc
        split at hc
        · rename_i hq; cases hc; exact hq
        · cases hc
      split at hE
      · cases hE; exact ConOk.var oneVar rfl rfl (classA_told _ _ _ _) h hc0
      · cases hE; exact ConOk.var oneVar rfl rfl (classR_told _ _ _ _) h hc0
      · cases hE; exact ConOk.var oneVar rfl rfl (claimA_told _ _ _ _) h hc0
      · cases hE; exact ConOk.var oneVar rfl rfl (claimR_told _ _ _ _) h hc0
      · cases hE; exact ConOk.var oneVar rfl rfl (sealA_told _ _) h hc0
      · cases hE
    · cases hE
  · cases hE
theorem ctrlE_fn : ∀ f ∈ ctrlDom, FnOk Tryd.prog f := fun f hf => fitC.fnOk f (by
    have h0 : (ctrlDom.all fun f => fsC.contains f) = true := by kernel_rfl
    simpa using List.all_eq_true.1 h0 f hf)
def twoE : ConE := orE laneDom laneE ctrlE
def twoDom : List FuncId := laneDom ++ ctrlDom
theorem two_ok : ∀ (h : AH) (f : FuncId) (args : List Value) (c : Con), twoE (accA h) f args = some c → ConOk Tryd.prog f args h c := by
  intro h f args c hE
  unfold twoE orE at hE
  cases hd : laneDom.contains f with
  | true => rw [hd] at hE; exact lane_ok h f args c hE
  | false => rw [hd] at hE; exact ctrlE_ok h f args c hE
theorem two_fn : ∀ f ∈ twoDom, FnOk Tryd.prog f := fun f hf => by
  rcases List.mem_append.1 hf with hf | hf
  · exact lane_fn f hf
  · exact ctrlE_fn f hf
theorem two_sound : SoundC Tryd.prog (conC twoDom twoE) := SoundC.con two_fn fun h f args c _ hE => two_ok h f args c hE
noncomputable def BN : Code := bodyOf Tryd.prog 24
theorem BN_is : Tryd.f24.body = some BN := by kernel_rfl
theorem BN_ok : okCode Tryd.prog.globals.size BN = true := by kernel_rfl
noncomputable def S0 (w : Int) (fr : Int) (c : Int) (e0 : TypeId) : KSt := (firstK [(.int .u64 w), (.int .i64 fr), (.int .i64 c)] 28 ⟨1, 1, [(0, 0, .cells [(.int .u8 0), (.int .u8 1), (.int .u8 56), (.int .u8 2), (.int .u8 57), (.int .u8 49), (.int .u8 28), (.int .u8 3), (.int .u8 61), (.int .u8 58), (.int .u8 42), (.int .u8 50), (.int .u8 38), (.int .u8 29), (.int .u8 17), (.int .u8 4), (.int .u8 62), (.int .u8 47), (.int .u8 59), (.int .u8 36), (.int .u8 45), (.int .u8 43), (.int .u8 51), (.int .u8 22), (.int .u8 53), (.int .u8 39), (.int .u8 33), (.int .u8 30), (.int .u8 24), (.int .u8 18), (.int .u8 12), (.int .u8 5), (.int .u8 63), (.int .u8 55), (.int .u8 48), (.int .u8 27), (.int .u8 60), (.int .u8 41), (.int .u8 37), (.int .u8 16), (.int .u8 46), (.int .u8 35), (.int .u8 44), (.int .u8 21), (.int .u8 52), (.int .u8 32), (.int .u8 23), (.int .u8 11), (.int .u8 54), (.int .u8 26), (.int .u8 40), (.int .u8 15), (.int .u8 34), (.int .u8 20), (.int .u8 31), (.int .u8 10), (.int .u8 25), (.int .u8 14), (.int .u8 19), (.int .u8 9), (.int .u8 13), (.int .u8 8), (.int .u8 7), (.int .u8 6)] e0 false)]⟩)
theorem C : BN = .seq (codeAt [0] BN) (codeAt [1] BN) := by kernel_rfl
noncomputable def S1 (w : Int) (fr : Int) (c : Int) (e0 : TypeId) : KSt := ⟨(frameL 28 [(0, (.int .u64 w)), (1, (.int .i64 fr)), (2, (.int .i64 c))]), ⟨1, 1, [(0, 0, .cells [(.int .u8 0), (.int .u8 1), (.int .u8 56), (.int .u8 2), (.int .u8 57), (.int .u8 49), (.int .u8 28), (.int .u8 3), (.int .u8 61), (.int .u8 58), (.int .u8 42), (.int .u8 50), (.int .u8 38), (.int .u8 29), (.int .u8 17), (.int .u8 4), (.int .u8 62), (.int .u8 47), (.int .u8 59), (.int .u8 36), (.int .u8 45), (.int .u8 43), (.int .u8 51), (.int .u8 22), (.int .u8 53), (.int .u8 39), (.int .u8 33), (.int .u8 30), (.int .u8 24), (.int .u8 18), (.int .u8 12), (.int .u8 5), (.int .u8 63), (.int .u8 55), (.int .u8 48), (.int .u8 27), (.int .u8 60), (.int .u8 41), (.int .u8 37), (.int .u8 16), (.int .u8 46), (.int .u8 35), (.int .u8 44), (.int .u8 21), (.int .u8 52), (.int .u8 32), (.int .u8 23), (.int .u8 11), (.int .u8 54), (.int .u8 26), (.int .u8 40), (.int .u8 15), (.int .u8 34), (.int .u8 20), (.int .u8 31), (.int .u8 10), (.int .u8 25), (.int .u8 14), (.int .u8 19), (.int .u8 9), (.int .u8 13), (.int .u8 8), (.int .u8 7), (.int .u8 6)] e0 false)]⟩⟩
theorem R1 (w : Int) (fr : Int) (c : Int) (e0 : TypeId) : evCK Tryd.prog cfgC (runK Tryd.prog cfgC fsC (conT twoDom twoE) 12 40) 12 (codeAt [0] BN) (S0 w fr c e0) (normC 1 [0, 1, 2]) =
  some (.normal, (S1 w fr c e0)) := by kernel_rfl
theorem C1 : (codeAt [1] BN) = .seq (codeAt [1, 0] BN) (codeAt [1, 1] BN) := by kernel_rfl
theorem C1_0 : (codeAt [1, 0] BN) = .seq (codeAt [1, 0, 0] BN) (codeAt [1, 0, 1] BN) := by kernel_rfl
noncomputable def S2 (w : Int) (fr : Int) (c : Int) (e0 : TypeId) : KSt := ⟨(frameL 28 [(0, (.int .u64 w)), (1, (.int .i64 fr)), (2, (.int .i64 c)), (8, (.int .i64 0))]), ⟨1, 1, [(0, 0, .cells [(.int .u8 0), (.int .u8 1), (.int .u8 56), (.int .u8 2), (.int .u8 57), (.int .u8 49), (.int .u8 28), (.int .u8 3), (.int .u8 61), (.int .u8 58), (.int .u8 42), (.int .u8 50), (.int .u8 38), (.int .u8 29), (.int .u8 17), (.int .u8 4), (.int .u8 62), (.int .u8 47), (.int .u8 59), (.int .u8 36), (.int .u8 45), (.int .u8 43), (.int .u8 51), (.int .u8 22), (.int .u8 53), (.int .u8 39), (.int .u8 33), (.int .u8 30), (.int .u8 24), (.int .u8 18), (.int .u8 12), (.int .u8 5), (.int .u8 63), (.int .u8 55), (.int .u8 48), (.int .u8 27), (.int .u8 60), (.int .u8 41), (.int .u8 37), (.int .u8 16), (.int .u8 46), (.int .u8 35), (.int .u8 44), (.int .u8 21), (.int .u8 52), (.int .u8 32), (.int .u8 23), (.int .u8 11), (.int .u8 54), (.int .u8 26), (.int .u8 40), (.int .u8 15), (.int .u8 34), (.int .u8 20), (.int .u8 31), (.int .u8 10), (.int .u8 25), (.int .u8 14), (.int .u8 19), (.int .u8 9), (.int .u8 13), (.int .u8 8), (.int .u8 7), (.int .u8 6)] e0 false)]⟩⟩
theorem R2 (w : Int) (fr : Int) (c : Int) (e0 : TypeId) : evCK Tryd.prog cfgC (runK Tryd.prog cfgC fsC (conT twoDom twoE) 12 40) 12 (codeAt [1, 0, 0] BN) (S1 w fr c e0) (normC 1 [0, 1, 2, 8]) =
  some (.normal, (S2 w fr c e0)) := by kernel_rfl
theorem n_pre (w fr c k : Int) (e0 : TypeId)   {Q : Ex → St → Prop} (hq : Gets Tryd.prog (varH .u8 tz e0).low (codeAt [1, 0, 1] BN) (KSt.low (S2 w fr c e0)) (onN (fun s => Gets Tryd.prog (varH .u8 tz e0).low (codeAt [1, 1] BN) s (Q)) (Q))) : Gets Tryd.prog (varH .u8 tz e0).low BN (KSt.low (S0 w fr c e0)) Q := by
  rw [C]; refine Gets.seq ?_
  refine Gets.ofN fitC two_sound (conT_agree _ _) 12 40 (by kernel_rfl) (x := .normal) (s' := (S1 w fr c e0)) (R1 w fr c e0) ?_
  show Gets _ _ (codeAt [1] BN) _ _
  rw [C1]; refine Gets.seq ?_
  rw [C1_0]; refine Gets.seq ?_
  refine Gets.ofN fitC two_sound (conT_agree _ _) 12 40 (by kernel_rfl) (x := .normal) (s' := (S2 w fr c e0)) (R2 w fr c e0) ?_
  show Gets _ _ (codeAt [1, 0, 1] BN) _ _
  exact hq
noncomputable def S3 (w : Int) (fr : Int) (c : Int) (k : Int) (e0 : TypeId) : KSt := ⟨(frameL 28 [(0, (.int .u64 w)), (1, (.int .i64 fr)), (2, (.int .i64 c)), (8, (.int .i64 k))]), ⟨1, 1, [(0, 0, .cells [(.int .u8 0), (.int .u8 1), (.int .u8 56), (.int .u8 2), (.int .u8 57), (.int .u8 49), (.int .u8 28), (.int .u8 3), (.int .u8 61), (.int .u8 58), (.int .u8 42), (.int .u8 50), (.int .u8 38), (.int .u8 29), (.int .u8 17), (.int .u8 4), (.int .u8 62), (.int .u8 47), (.int .u8 59), (.int .u8 36), (.int .u8 45), (.int .u8 43), (.int .u8 51), (.int .u8 22), (.int .u8 53), (.int .u8 39), (.int .u8 33), (.int .u8 30), (.int .u8 24), (.int .u8 18), (.int .u8 12), (.int .u8 5), (.int .u8 63), (.int .u8 55), (.int .u8 48), (.int .u8 27), (.int .u8 60), (.int .u8 41), (.int .u8 37), (.int .u8 16), (.int .u8 46), (.int .u8 35), (.int .u8 44), (.int .u8 21), (.int .u8 52), (.int .u8 32), (.int .u8 23), (.int .u8 11), (.int .u8 54), (.int .u8 26), (.int .u8 40), (.int .u8 15), (.int .u8 34), (.int .u8 20), (.int .u8 31), (.int .u8 10), (.int .u8 25), (.int .u8 14), (.int .u8 19), (.int .u8 9), (.int .u8 13), (.int .u8 8), (.int .u8 7), (.int .u8 6)] e0 false)]⟩⟩
theorem C1_0_1_0_0 : (codeAt [1, 0, 1, 0, 0] BN) = .seq (codeAt [1, 0, 1, 0, 0, 0] BN) (codeAt [1, 0, 1, 0, 0, 1] BN) := by kernel_rfl
theorem C1_0_1_0_0_0 : (codeAt [1, 0, 1, 0, 0, 0] BN) = .seq (codeAt [1, 0, 1, 0, 0, 0, 0] BN) (codeAt [1, 0, 1, 0, 0, 0, 1] BN) := by kernel_rfl
noncomputable def S4 (w : Int) (fr : Int) (c : Int) (k : Int) (e0 : TypeId) : KSt := ⟨(frameL 28 [(0, (.int .u64 w)), (1, (.int .i64 fr)), (2, (.int .i64 c)), (8, (.int .i64 k)), (10, (.bool (decide (k < 8))))]), ⟨1, 1, [(0, 0, .cells [(.int .u8 0), (.int .u8 1), (.int .u8 56), (.int .u8 2), (.int .u8 57), (.int .u8 49), (.int .u8 28), (.int .u8 3), (.int .u8 61), (.int .u8 58), (.int .u8 42), (.int .u8 50), (.int .u8 38), (.int .u8 29), (.int .u8 17), (.int .u8 4), (.int .u8 62), (.int .u8 47), (.int .u8 59), (.int .u8 36), (.int .u8 45), (.int .u8 43), (.int .u8 51), (.int .u8 22), (.int .u8 53), (.int .u8 39), (.int .u8 33), (.int .u8 30), (.int .u8 24), (.int .u8 18), (.int .u8 12), (.int .u8 5), (.int .u8 63), (.int .u8 55), (.int .u8 48), (.int .u8 27), (.int .u8 60), (.int .u8 41), (.int .u8 37), (.int .u8 16), (.int .u8 46), (.int .u8 35), (.int .u8 44), (.int .u8 21), (.int .u8 52), (.int .u8 32), (.int .u8 23), (.int .u8 11), (.int .u8 54), (.int .u8 26), (.int .u8 40), (.int .u8 15), (.int .u8 34), (.int .u8 20), (.int .u8 31), (.int .u8 10), (.int .u8 25), (.int .u8 14), (.int .u8 19), (.int .u8 9), (.int .u8 13), (.int .u8 8), (.int .u8 7), (.int .u8 6)] e0 false)]⟩⟩
theorem R3 (w : Int) (fr : Int) (c : Int) (k : Int) (e0 : TypeId) : evCK Tryd.prog cfgC (runK Tryd.prog cfgC fsC (conT twoDom twoE) 12 40) 12 (codeAt [1, 0, 1, 0, 0, 0, 0] BN) (S3 w fr c k e0) (normC 1 [0, 1, 2, 8, 10]) =
  some (.normal, (S4 w fr c k e0)) := by kernel_rfl
theorem C1_0_1_0_0_0_1 : (codeAt [1, 0, 1, 0, 0, 0, 1] BN) = .cond (.tmp 10) (codeAt [1, 0, 1, 0, 0, 0, 1, 0] BN) (codeAt [1, 0, 1, 0, 0, 0, 1, 1] BN) := by kernel_rfl
theorem R4 (w : Int) (fr : Int) (c : Int) (k : Int) (e0 : TypeId) : evCK Tryd.prog cfgC (runK Tryd.prog cfgC fsC (conT twoDom twoE) 12 40) 12 (codeAt [1, 0, 1, 0, 0, 0, 1, 0] BN) (S4 w fr c k e0) (normC 1 [0, 1, 2, 8]) =
  some (.normal, (S3 w fr c k e0)) := by kernel_rfl
theorem C1_0_1_0_0_1 : (codeAt [1, 0, 1, 0, 0, 1] BN) = .seq (codeAt [1, 0, 1, 0, 0, 1, 0] BN) (codeAt [1, 0, 1, 0, 0, 1, 1] BN) := by kernel_rfl
theorem C1_0_1_0_0_1_0 : (codeAt [1, 0, 1, 0, 0, 1, 0] BN) = .block 1 (codeAt [1, 0, 1, 0, 0, 1, 0, 0] BN) := by kernel_rfl
theorem C1_0_1_0_0_1_0_0 : (codeAt [1, 0, 1, 0, 0, 1, 0, 0] BN) = .seq (codeAt [1, 0, 1, 0, 0, 1, 0, 0, 0] BN) (codeAt [1, 0, 1, 0, 0, 1, 0, 0, 1] BN) := by kernel_rfl
noncomputable def S5 (w : Int) (fr : Int) (c : Int) (k : Int) (e0 : TypeId) : KSt := ⟨(frameL 28 [(0, (.int .u64 w)), (1, (.int .i64 fr)), (2, (.int .i64 c)), (8, (.int .i64 k)), (22, (.bool ((classR w k c) != 0)))]), ⟨1, 1, [(0, 0, .cells [(.int .u8 0), (.int .u8 1), (.int .u8 56), (.int .u8 2), (.int .u8 57), (.int .u8 49), (.int .u8 28), (.int .u8 3), (.int .u8 61), (.int .u8 58), (.int .u8 42), (.int .u8 50), (.int .u8 38), (.int .u8 29), (.int .u8 17), (.int .u8 4), (.int .u8 62), (.int .u8 47), (.int .u8 59), (.int .u8 36), (.int .u8 45), (.int .u8 43), (.int .u8 51), (.int .u8 22), (.int .u8 53), (.int .u8 39), (.int .u8 33), (.int .u8 30), (.int .u8 24), (.int .u8 18), (.int .u8 12), (.int .u8 5), (.int .u8 63), (.int .u8 55), (.int .u8 48), (.int .u8 27), (.int .u8 60), (.int .u8 41), (.int .u8 37), (.int .u8 16), (.int .u8 46), (.int .u8 35), (.int .u8 44), (.int .u8 21), (.int .u8 52), (.int .u8 32), (.int .u8 23), (.int .u8 11), (.int .u8 54), (.int .u8 26), (.int .u8 40), (.int .u8 15), (.int .u8 34), (.int .u8 20), (.int .u8 31), (.int .u8 10), (.int .u8 25), (.int .u8 14), (.int .u8 19), (.int .u8 9), (.int .u8 13), (.int .u8 8), (.int .u8 7), (.int .u8 6)] e0 false)]⟩⟩
noncomputable def S6 (w : Int) (fr : Int) (c : Int) (k : Int) (e0 : TypeId) : KSt := ⟨(frameL 28 [(0, (.int .u64 w)), (1, (.int .i64 fr)), (2, (.int .i64 c)), (8, (.int .i64 k)), (22, (.bool false))]), ⟨1, 1, [(0, 0, .cells [(.int .u8 0), (.int .u8 1), (.int .u8 56), (.int .u8 2), (.int .u8 57), (.int .u8 49), (.int .u8 28), (.int .u8 3), (.int .u8 61), (.int .u8 58), (.int .u8 42), (.int .u8 50), (.int .u8 38), (.int .u8 29), (.int .u8 17), (.int .u8 4), (.int .u8 62), (.int .u8 47), (.int .u8 59), (.int .u8 36), (.int .u8 45), (.int .u8 43), (.int .u8 51), (.int .u8 22), (.int .u8 53), (.int .u8 39), (.int .u8 33), (.int .u8 30), (.int .u8 24), (.int .u8 18), (.int .u8 12), (.int .u8 5), (.int .u8 63), (.int .u8 55), (.int .u8 48), (.int .u8 27), (.int .u8 60), (.int .u8 41), (.int .u8 37), (.int .u8 16), (.int .u8 46), (.int .u8 35), (.int .u8 44), (.int .u8 21), (.int .u8 52), (.int .u8 32), (.int .u8 23), (.int .u8 11), (.int .u8 54), (.int .u8 26), (.int .u8 40), (.int .u8 15), (.int .u8 34), (.int .u8 20), (.int .u8 31), (.int .u8 10), (.int .u8 25), (.int .u8 14), (.int .u8 19), (.int .u8 9), (.int .u8 13), (.int .u8 8), (.int .u8 7), (.int .u8 6)] e0 false)]⟩⟩
theorem R5 (w : Int) (fr : Int) (c : Int) (k : Int) (e0 : TypeId) : evCK Tryd.prog cfgC (runK Tryd.prog cfgC fsC (conT twoDom twoE) 12 40) 12 (codeAt [1, 0, 1, 0, 0, 1, 0, 0, 0] BN) (S3 w fr c k e0) (normC 1 [0, 1, 2, 8, 22]) =
  bif (decide (k ≥ fr)) then
    some (.normal, (S5 w fr c k e0))
  else
    some (.normal, (S6 w fr c k e0)) := by kernel_rfl
theorem C1_0_1_0_0_1_0_0_1 : (codeAt [1, 0, 1, 0, 0, 1, 0, 0, 1] BN) = .cond (.tmp 22) (codeAt [1, 0, 1, 0, 0, 1, 0, 0, 1, 0] BN) (codeAt [1, 0, 1, 0, 0, 1, 0, 0, 1, 1] BN) := by kernel_rfl
theorem R6 (w : Int) (fr : Int) (c : Int) (k : Int) (e0 : TypeId) : evCK Tryd.prog cfgC (runK Tryd.prog cfgC fsC (conT twoDom twoE) 12 40) 12 (codeAt [1, 0, 1, 0, 0, 1, 0, 0, 1, 1] BN) (S6 w fr c k e0) (normC 1 [0, 1, 2, 8]) =
  some (.normal, (S3 w fr c k e0)) := by kernel_rfl
noncomputable def S7 (w : Int) (fr : Int) (c : Int) (k : Int) (e0 : TypeId) : KSt := ⟨(frameL 28 [(0, (.int .u64 w)), (1, (.int .i64 fr)), (2, (.int .i64 c)), (8, (.int .i64 (IntKind.wrap .i64 (k + 1))))]), ⟨1, 1, [(0, 0, .cells [(.int .u8 0), (.int .u8 1), (.int .u8 56), (.int .u8 2), (.int .u8 57), (.int .u8 49), (.int .u8 28), (.int .u8 3), (.int .u8 61), (.int .u8 58), (.int .u8 42), (.int .u8 50), (.int .u8 38), (.int .u8 29), (.int .u8 17), (.int .u8 4), (.int .u8 62), (.int .u8 47), (.int .u8 59), (.int .u8 36), (.int .u8 45), (.int .u8 43), (.int .u8 51), (.int .u8 22), (.int .u8 53), (.int .u8 39), (.int .u8 33), (.int .u8 30), (.int .u8 24), (.int .u8 18), (.int .u8 12), (.int .u8 5), (.int .u8 63), (.int .u8 55), (.int .u8 48), (.int .u8 27), (.int .u8 60), (.int .u8 41), (.int .u8 37), (.int .u8 16), (.int .u8 46), (.int .u8 35), (.int .u8 44), (.int .u8 21), (.int .u8 52), (.int .u8 32), (.int .u8 23), (.int .u8 11), (.int .u8 54), (.int .u8 26), (.int .u8 40), (.int .u8 15), (.int .u8 34), (.int .u8 20), (.int .u8 31), (.int .u8 10), (.int .u8 25), (.int .u8 14), (.int .u8 19), (.int .u8 9), (.int .u8 13), (.int .u8 8), (.int .u8 7), (.int .u8 6)] e0 false)]⟩⟩
theorem R7 (w : Int) (fr : Int) (c : Int) (k : Int) (e0 : TypeId) : evCK Tryd.prog cfgC (runK Tryd.prog cfgC fsC (conT twoDom twoE) 12 40) 12 (codeAt [1, 0, 1, 0, 0, 1, 1] BN) (S3 w fr c k e0) (normC 1 [0, 1, 2, 8]) =
  some (.normal, (S7 w fr c k e0)) := by kernel_rfl
noncomputable def S8 (w : Int) (fr : Int) (c : Int) (k : Int) (e0 : TypeId) : KSt := ⟨(frameL 28 [(0, (.int .u64 w)), (1, (.int .i64 fr)), (2, (.int .i64 c)), (8, (.int .i64 (k + 1)))]), ⟨1, 1, [(0, 0, .cells [(.int .u8 0), (.int .u8 1), (.int .u8 56), (.int .u8 2), (.int .u8 57), (.int .u8 49), (.int .u8 28), (.int .u8 3), (.int .u8 61), (.int .u8 58), (.int .u8 42), (.int .u8 50), (.int .u8 38), (.int .u8 29), (.int .u8 17), (.int .u8 4), (.int .u8 62), (.int .u8 47), (.int .u8 59), (.int .u8 36), (.int .u8 45), (.int .u8 43), (.int .u8 51), (.int .u8 22), (.int .u8 53), (.int .u8 39), (.int .u8 33), (.int .u8 30), (.int .u8 24), (.int .u8 18), (.int .u8 12), (.int .u8 5), (.int .u8 63), (.int .u8 55), (.int .u8 48), (.int .u8 27), (.int .u8 60), (.int .u8 41), (.int .u8 37), (.int .u8 16), (.int .u8 46), (.int .u8 35), (.int .u8 44), (.int .u8 21), (.int .u8 52), (.int .u8 32), (.int .u8 23), (.int .u8 11), (.int .u8 54), (.int .u8 26), (.int .u8 40), (.int .u8 15), (.int .u8 34), (.int .u8 20), (.int .u8 31), (.int .u8 10), (.int .u8 25), (.int .u8 14), (.int .u8 19), (.int .u8 9), (.int .u8 13), (.int .u8 8), (.int .u8 7), (.int .u8 6)] e0 false)]⟩⟩
theorem n_sk (w fr c k : Int) (e0 : TypeId) (hk : 0 ≤ k) (hk8 : k < 8) (hf : k < fr)   {Q : Ex → St → Prop} (hq : Q .normal (KSt.low (S8 w fr c k e0))) : Gets Tryd.prog (varH .u8 tz e0).low (codeAt [1, 0, 1, 0, 0] BN) (KSt.low (S3 w fr c k e0)) Q := by
  rw [C1_0_1_0_0]; refine Gets.seq ?_
  rw [C1_0_1_0_0_0]; refine Gets.seq ?_
  refine Gets.ofN fitC two_sound (conT_agree _ _) 12 40 (by kernel_rfl) (x := .normal) (s' := (S4 w fr c k e0)) (R3 w fr c k e0) ?_
  show Gets _ _ (codeAt [1, 0, 1, 0, 0, 0, 1] BN) _ _
  rw [C1_0_1_0_0_0_1]; refine Gets.cond true (by kernel_rfl) ((show evalX (KSt.ts (S4 w fr c k e0)) (.tmp 10) = .bool (decide (k < 8)) by kernel_rfl).trans (by rw [(show (decide (k < 8)) = true from decide_eq_true (by omega))])) ?_; show Gets _ _ (codeAt [1, 0, 1, 0, 0, 0, 1, 0] BN) _ _
  refine Gets.ofN fitC two_sound (conT_agree _ _) 12 40 (by kernel_rfl) (x := .normal) (s' := (S3 w fr c k e0)) (R4 w fr c k e0) ?_
  show Gets _ _ (codeAt [1, 0, 1, 0, 0, 1] BN) _ _
  rw [C1_0_1_0_0_1]; refine Gets.seq ?_
  rw [C1_0_1_0_0_1_0]; refine Gets.block ?_
  rw [C1_0_1_0_0_1_0_0]; refine Gets.seq ?_
  refine Gets.ofN fitC two_sound (conT_agree _ _) 12 40 (by kernel_rfl) (x := .normal) (s' := (S6 w fr c k e0)) ((R5 w fr c k e0).trans (by rw [condF (decide_eq_false (by omega))])) ?_
  show Gets _ _ (codeAt [1, 0, 1, 0, 0, 1, 0, 0, 1] BN) _ _
  rw [C1_0_1_0_0_1_0_0_1]; refine Gets.cond false (by kernel_rfl) (show evalX (KSt.ts (S6 w fr c k e0)) (.tmp 22) = .bool false by kernel_rfl) ?_; show Gets _ _ (codeAt [1, 0, 1, 0, 0, 1, 0, 0, 1, 1] BN) _ _
  refine Gets.ofN fitC two_sound (conT_agree _ _) 12 40 (by kernel_rfl) (x := .normal) (s' := (S3 w fr c k e0)) (R6 w fr c k e0) ?_
  show Gets _ _ (codeAt [1, 0, 1, 0, 0, 1, 1] BN) _ _
  refine Gets.ofN fitC two_sound (conT_agree _ _) 12 40 (by kernel_rfl) (x := .normal) (s' := (S8 w fr c k e0)) ((R7 w fr c k e0).trans (by (show some (Ex.normal, (S7 w fr c k e0)) = some (Ex.normal, (S8 w fr c k e0)); unfold S7 S8; rw [(show (IntKind.wrap .i64 (k + 1)) = (k + 1) from wrap_i64_id (by omega) (by omega))]))) ?_
  exact hq
theorem R8 (w : Int) (fr : Int) (c : Int) (k : Int) (e0 : TypeId) : evCK Tryd.prog cfgC (runK Tryd.prog cfgC fsC (conT twoDom twoE) 12 40) 12 (codeAt [1, 0, 1, 0, 0, 1, 0, 0, 1, 1] BN) (S5 w fr c k e0) (normC 1 [0, 1, 2, 8]) =
  some (.normal, (S3 w fr c k e0)) := by kernel_rfl
theorem n_ot (w fr c k : Int) (e0 : TypeId) (hk : 0 ≤ k) (hk8 : k < 8) (hf : fr ≤ k) (hC : ((classR w k c) != 0) = false)   {Q : Ex → St → Prop} (hq : Q .normal (KSt.low (S8 w fr c k e0))) : Gets Tryd.prog (varH .u8 tz e0).low (codeAt [1, 0, 1, 0, 0] BN) (KSt.low (S3 w fr c k e0)) Q := by
  rw [C1_0_1_0_0]; refine Gets.seq ?_
  rw [C1_0_1_0_0_0]; refine Gets.seq ?_
  refine Gets.ofN fitC two_sound (conT_agree _ _) 12 40 (by kernel_rfl) (x := .normal) (s' := (S4 w fr c k e0)) (R3 w fr c k e0) ?_
  show Gets _ _ (codeAt [1, 0, 1, 0, 0, 0, 1] BN) _ _
  rw [C1_0_1_0_0_0_1]; refine Gets.cond true (by kernel_rfl) ((show evalX (KSt.ts (S4 w fr c k e0)) (.tmp 10) = .bool (decide (k < 8)) by kernel_rfl).trans (by rw [(show (decide (k < 8)) = true from decide_eq_true (by omega))])) ?_; show Gets _ _ (codeAt [1, 0, 1, 0, 0, 0, 1, 0] BN) _ _
  refine Gets.ofN fitC two_sound (conT_agree _ _) 12 40 (by kernel_rfl) (x := .normal) (s' := (S3 w fr c k e0)) (R4 w fr c k e0) ?_
  show Gets _ _ (codeAt [1, 0, 1, 0, 0, 1] BN) _ _
  rw [C1_0_1_0_0_1]; refine Gets.seq ?_
  rw [C1_0_1_0_0_1_0]; refine Gets.block ?_
  rw [C1_0_1_0_0_1_0_0]; refine Gets.seq ?_
  refine Gets.ofN fitC two_sound (conT_agree _ _) 12 40 (by kernel_rfl) (x := .normal) (s' := (S5 w fr c k e0)) ((R5 w fr c k e0).trans (by rw [condT (decide_eq_true (by omega))])) ?_
  show Gets _ _ (codeAt [1, 0, 1, 0, 0, 1, 0, 0, 1] BN) _ _
  rw [C1_0_1_0_0_1_0_0_1]; refine Gets.cond false (by kernel_rfl) ((show evalX (KSt.ts (S5 w fr c k e0)) (.tmp 22) = .bool ((classR w k c) != 0) by kernel_rfl).trans (by rw [(show ((classR w k c) != 0) = false from hC)])) ?_; show Gets _ _ (codeAt [1, 0, 1, 0, 0, 1, 0, 0, 1, 1] BN) _ _
  refine Gets.ofN fitC two_sound (conT_agree _ _) 12 40 (by kernel_rfl) (x := .normal) (s' := (S3 w fr c k e0)) (R8 w fr c k e0) ?_
  show Gets _ _ (codeAt [1, 0, 1, 0, 0, 1, 1] BN) _ _
  refine Gets.ofN fitC two_sound (conT_agree _ _) 12 40 (by kernel_rfl) (x := .normal) (s' := (S8 w fr c k e0)) ((R7 w fr c k e0).trans (by (show some (Ex.normal, (S7 w fr c k e0)) = some (Ex.normal, (S8 w fr c k e0)); unfold S7 S8; rw [(show (IntKind.wrap .i64 (k + 1)) = (k + 1) from wrap_i64_id (by omega) (by omega))]))) ?_
  exact hq
theorem C1_0_1_0_0_1_0_0_1_0 : (codeAt [1, 0, 1, 0, 0, 1, 0, 0, 1, 0] BN) = .seq (codeAt [1, 0, 1, 0, 0, 1, 0, 0, 1, 0, 0] BN) (codeAt [1, 0, 1, 0, 0, 1, 0, 0, 1, 0, 1] BN) := by kernel_rfl
noncomputable def S9 (k : Int) (w : Int) (c : Int) (e0 : TypeId) : KSt := ⟨(frameL 28 [(6, (.int .i64 k)), (7, (.int .i64 (classR w k c)))]), ⟨1, 1, [(0, 0, .cells [(.int .u8 0), (.int .u8 1), (.int .u8 56), (.int .u8 2), (.int .u8 57), (.int .u8 49), (.int .u8 28), (.int .u8 3), (.int .u8 61), (.int .u8 58), (.int .u8 42), (.int .u8 50), (.int .u8 38), (.int .u8 29), (.int .u8 17), (.int .u8 4), (.int .u8 62), (.int .u8 47), (.int .u8 59), (.int .u8 36), (.int .u8 45), (.int .u8 43), (.int .u8 51), (.int .u8 22), (.int .u8 53), (.int .u8 39), (.int .u8 33), (.int .u8 30), (.int .u8 24), (.int .u8 18), (.int .u8 12), (.int .u8 5), (.int .u8 63), (.int .u8 55), (.int .u8 48), (.int .u8 27), (.int .u8 60), (.int .u8 41), (.int .u8 37), (.int .u8 16), (.int .u8 46), (.int .u8 35), (.int .u8 44), (.int .u8 21), (.int .u8 52), (.int .u8 32), (.int .u8 23), (.int .u8 11), (.int .u8 54), (.int .u8 26), (.int .u8 40), (.int .u8 15), (.int .u8 34), (.int .u8 20), (.int .u8 31), (.int .u8 10), (.int .u8 25), (.int .u8 14), (.int .u8 19), (.int .u8 9), (.int .u8 13), (.int .u8 8), (.int .u8 7), (.int .u8 6)] e0 false)]⟩⟩
theorem R9 (w : Int) (fr : Int) (c : Int) (k : Int) (e0 : TypeId) : evCK Tryd.prog cfgC (runK Tryd.prog cfgC fsC (conT twoDom twoE) 12 40) 12 (codeAt [1, 0, 1, 0, 0, 1, 0, 0, 1, 0, 0] BN) (S5 w fr c k e0) (normC 1 [6, 7]) =
  some (.normal, (S9 k w c e0)) := by kernel_rfl
theorem C1_0_1_0_0_1_0_0_1_0_1 : (codeAt [1, 0, 1, 0, 0, 1, 0, 0, 1, 0, 1] BN) = .ret := by kernel_rfl
theorem n_hi (w fr c k : Int) (e0 : TypeId) (hk : 0 ≤ k) (hk8 : k < 8) (hf : fr ≤ k) (hC : ((classR w k c) != 0) = true)   {Q : Ex → St → Prop} (hq : Q .ret (KSt.low (S9 k w c e0))) : Gets Tryd.prog (varH .u8 tz e0).low (codeAt [1, 0, 1, 0, 0] BN) (KSt.low (S3 w fr c k e0)) Q := by
  rw [C1_0_1_0_0]; refine Gets.seq ?_
  rw [C1_0_1_0_0_0]; refine Gets.seq ?_
  refine Gets.ofN fitC two_sound (conT_agree _ _) 12 40 (by kernel_rfl) (x := .normal) (s' := (S4 w fr c k e0)) (R3 w fr c k e0) ?_
  show Gets _ _ (codeAt [1, 0, 1, 0, 0, 0, 1] BN) _ _
  rw [C1_0_1_0_0_0_1]; refine Gets.cond true (by kernel_rfl) ((show evalX (KSt.ts (S4 w fr c k e0)) (.tmp 10) = .bool (decide (k < 8)) by kernel_rfl).trans (by rw [(show (decide (k < 8)) = true from decide_eq_true (by omega))])) ?_; show Gets _ _ (codeAt [1, 0, 1, 0, 0, 0, 1, 0] BN) _ _
  refine Gets.ofN fitC two_sound (conT_agree _ _) 12 40 (by kernel_rfl) (x := .normal) (s' := (S3 w fr c k e0)) (R4 w fr c k e0) ?_
  show Gets _ _ (codeAt [1, 0, 1, 0, 0, 1] BN) _ _
  rw [C1_0_1_0_0_1]; refine Gets.seq ?_
  rw [C1_0_1_0_0_1_0]; refine Gets.block ?_
  rw [C1_0_1_0_0_1_0_0]; refine Gets.seq ?_
  refine Gets.ofN fitC two_sound (conT_agree _ _) 12 40 (by kernel_rfl) (x := .normal) (s' := (S5 w fr c k e0)) ((R5 w fr c k e0).trans (by rw [condT (decide_eq_true (by omega))])) ?_
  show Gets _ _ (codeAt [1, 0, 1, 0, 0, 1, 0, 0, 1] BN) _ _
  rw [C1_0_1_0_0_1_0_0_1]; refine Gets.cond true (by kernel_rfl) ((show evalX (KSt.ts (S5 w fr c k e0)) (.tmp 22) = .bool ((classR w k c) != 0) by kernel_rfl).trans (by rw [(show ((classR w k c) != 0) = true from hC)])) ?_; show Gets _ _ (codeAt [1, 0, 1, 0, 0, 1, 0, 0, 1, 0] BN) _ _
  rw [C1_0_1_0_0_1_0_0_1_0]; refine Gets.seq ?_
  refine Gets.ofN fitC two_sound (conT_agree _ _) 12 40 (by kernel_rfl) (x := .normal) (s' := (S9 k w c e0)) (R9 w fr c k e0) ?_
  show Gets _ _ (codeAt [1, 0, 1, 0, 0, 1, 0, 0, 1, 0, 1] BN) _ _
  rw [C1_0_1_0_0_1_0_0_1_0_1]; refine Gets.ev fitC.mix fitC.cfg (fitC.sound two_sound 12 0) 12 rfl (s' := KSt.low (S9 k w c e0)) (x := .ret) rfl ?_
  exact hq
theorem C1_0_1_0_0_0_1_1 : (codeAt [1, 0, 1, 0, 0, 0, 1, 1] BN) = .exit 0 := by kernel_rfl
theorem n_ex (w fr c k : Int) (e0 : TypeId) (hk : k = 8)   {Q : Ex → St → Prop} (hq : Q (.exit 0) (KSt.low (S4 w fr c k e0))) : Gets Tryd.prog (varH .u8 tz e0).low (codeAt [1, 0, 1, 0, 0] BN) (KSt.low (S3 w fr c k e0)) Q := by
  rw [C1_0_1_0_0]; refine Gets.seq ?_
  rw [C1_0_1_0_0_0]; refine Gets.seq ?_
  refine Gets.ofN fitC two_sound (conT_agree _ _) 12 40 (by kernel_rfl) (x := .normal) (s' := (S4 w fr c k e0)) (R3 w fr c k e0) ?_
  show Gets _ _ (codeAt [1, 0, 1, 0, 0, 0, 1] BN) _ _
  rw [C1_0_1_0_0_0_1]; refine Gets.cond false (by kernel_rfl) ((show evalX (KSt.ts (S4 w fr c k e0)) (.tmp 10) = .bool (decide (k < 8)) by kernel_rfl).trans (by rw [(show (decide (k < 8)) = false from decide_eq_false (by omega))])) ?_; show Gets _ _ (codeAt [1, 0, 1, 0, 0, 0, 1, 1] BN) _ _
  rw [C1_0_1_0_0_0_1_1]; refine Gets.ev fitC.mix fitC.cfg (fitC.sound two_sound 12 0) 12 rfl (s' := KSt.low (S4 w fr c k e0)) (x := (.exit 0)) rfl ?_
  exact hq
theorem C1_1 : (codeAt [1, 1] BN) = .seq (codeAt [1, 1, 0] BN) (codeAt [1, 1, 1] BN) := by kernel_rfl
noncomputable def S10 (e0 : TypeId) : KSt := ⟨(frameL 28 [(6, (.int .i64 8)), (7, (.int .i64 0))]), ⟨1, 1, [(0, 0, .cells [(.int .u8 0), (.int .u8 1), (.int .u8 56), (.int .u8 2), (.int .u8 57), (.int .u8 49), (.int .u8 28), (.int .u8 3), (.int .u8 61), (.int .u8 58), (.int .u8 42), (.int .u8 50), (.int .u8 38), (.int .u8 29), (.int .u8 17), (.int .u8 4), (.int .u8 62), (.int .u8 47), (.int .u8 59), (.int .u8 36), (.int .u8 45), (.int .u8 43), (.int .u8 51), (.int .u8 22), (.int .u8 53), (.int .u8 39), (.int .u8 33), (.int .u8 30), (.int .u8 24), (.int .u8 18), (.int .u8 12), (.int .u8 5), (.int .u8 63), (.int .u8 55), (.int .u8 48), (.int .u8 27), (.int .u8 60), (.int .u8 41), (.int .u8 37), (.int .u8 16), (.int .u8 46), (.int .u8 35), (.int .u8 44), (.int .u8 21), (.int .u8 52), (.int .u8 32), (.int .u8 23), (.int .u8 11), (.int .u8 54), (.int .u8 26), (.int .u8 40), (.int .u8 15), (.int .u8 34), (.int .u8 20), (.int .u8 31), (.int .u8 10), (.int .u8 25), (.int .u8 14), (.int .u8 19), (.int .u8 9), (.int .u8 13), (.int .u8 8), (.int .u8 7), (.int .u8 6)] e0 false)]⟩⟩
theorem R10 (w : Int) (fr : Int) (c : Int) (k : Int) (e0 : TypeId) : evCK Tryd.prog cfgC (runK Tryd.prog cfgC fsC (conT twoDom twoE) 12 40) 12 (codeAt [1, 1, 0] BN) (S4 w fr c k e0) (normC 1 [6, 7]) =
  some (.normal, (S10 e0)) := by kernel_rfl
theorem C1_1_1 : (codeAt [1, 1, 1] BN) = .ret := by kernel_rfl
theorem n_fi (w fr c k : Int) (e0 : TypeId)   {Q : Ex → St → Prop} (hq : Q .ret (KSt.low (S10 e0))) : Gets Tryd.prog (varH .u8 tz e0).low (codeAt [1, 1] BN) (KSt.low (S4 w fr c k e0)) Q := by
  rw [C1_1]; refine Gets.seq ?_
  refine Gets.ofN fitC two_sound (conT_agree _ _) 12 40 (by kernel_rfl) (x := .normal) (s' := (S10 e0)) (R10 w fr c k e0) ?_
  show Gets _ _ (codeAt [1, 1, 1] BN) _ _
  rw [C1_1_1]; refine Gets.ev fitC.mix fitC.cfg (fitC.sound two_sound 12 0) 12 rfl (s' := KSt.low (S10 e0)) (x := .ret) rfl ?_
  exact hq
theorem C1_0_1 : (codeAt [1, 0, 1] BN) = .block 0 (codeAt [1, 0, 1, 0] BN) := by kernel_rfl
theorem C1_0_1_0 : (codeAt [1, 0, 1, 0] BN) = .loop (codeAt [1, 0, 1, 0, 0] BN) := by kernel_rfl
/-- The next place, looked for one by one. -/
def nextI (w fr c : Int) : Nat → Int → Int
  | 0, _ => 8
  | m + 1, k => if fr ≤ k ∧ classR w k c ≠ 0 then k else nextI w fr c m (k + 1)
def nextC (w c j : Int) : Int := if j = 8 then 0 else classR w j c
noncomputable def QN (w fr c : Int) : Ex → St → Prop := Eng.Ends Tryd.prog Tryd.f24.results.toList fun r _ => r = .tuple #[.int .i64 (nextI w fr c 8 0), .int .i64 (nextC w c (nextI w fr c 8 0))]
theorem qn_end {w fr c j v : Int} {s : KSt} (hj : nextI w fr c 8 0 = j) (hv : nextC w c j = v) (h : resL Tryd.prog s.low Tryd.f24.results.toList = some [.int .i64 j, .int .i64 v]) : QN w fr c .ret s.low := Ends.of h (by subst hj; subst hv; rfl)
inductive NInv (w fr c : Int) (e0 : TypeId) : Nat → KSt → Prop
  | at_ (k : Int) (m : Nat) (hk : 0 ≤ k) (hm : k + m = 8) (hG : nextI w fr c 8 0 = nextI w fr c m k) : NInv w fr c e0 m (S3 w fr c k e0)
theorem nextLoop (w fr c : Int) (e0 : TypeId) (m : Nat) (s : KSt) (hI : NInv w fr c e0 m s) :
    Gets Tryd.prog (varH .u8 tz e0).low (codeAt [1, 0, 1] BN) s.low (onN (fun s => Gets Tryd.prog (varH .u8 tz e0).low (codeAt [1, 1] BN) s ((QN w fr c))) ((QN w fr c))) := by
  rw [C1_0_1, C1_0_1_0]
  refine Gets.loopG (fun m s => NInv w fr c e0 m s) ?_ _ _ hI
  clear hI m s
  intro m s hI
  cases hI with
  | at_ k _ hk hm hG =>
    cases m with
    | zero =>
      refine n_ex w fr c k e0 (by omega) ?_
      refine ⟨fun _ => ?_, fun h => by cases h⟩
      exact n_fi w fr c k e0 (qn_end (j := 8) (v := 0) hG rfl (by kernel_rfl))
    | succ m =>
      by_cases hf : k < fr
      · refine n_sk w fr c k e0 hk (by omega) hf ?_
        refine ⟨_, _, Nat.lt_succ_self _, rfl, .at_ (k + 1) m (by omega) (by omega) (hG.trans ?_)⟩
        show (if _ then _ else _) = _
        rw [if_neg (by omega)]
      · cases hC : ((classR w k c) != 0) with
        | true =>
          have hz : classR w k c ≠ 0 := by simpa using hC
          refine n_hi w fr c k e0 hk (by omega) (by omega) hC ?_
          refine qn_end (j := k) (v := classR w k c) (hG.trans ?_) ?_ (by kernel_rfl)
          · show (if _ then _ else _) = _
            rw [if_pos ⟨by omega, hz⟩]
          · unfold nextC; rw [if_neg (by omega)]
        | false =>
          have hz : classR w k c = 0 := by simpa using hC
          refine n_ot w fr c k e0 hk (by omega) (by omega) hC ?_
          refine ⟨_, _, Nat.lt_succ_self _, rfl, .at_ (k + 1) m (by omega) (by omega) (hG.trans ?_)⟩
          show (if _ then _ else _) = _
          rw [if_neg (fun h => h.2 hz)]
theorem nextR_told (w fr c : Int) (e0 : TypeId) : Tells Tryd.prog 24 [.int .u64 w, .int .i64 fr, .int .i64 c] (varH .u8 tz e0).low (.tuple #[.int .i64 (nextI w fr c 8 0), .int .i64 (nextC w c (nextI w fr c 8 0))]) := by
  refine Gets.tells Tryd.func24 BN_is (by rw [oneVar]; exact Nat.le_refl _) rfl ?_ Ro.varH
  show Gets Tryd.prog (varH .u8 tz e0).low BN (KSt.low (S0 w fr c e0)) (QN w fr c)
  refine n_pre w fr c 0 e0 ?_
  exact nextLoop w fr c e0 _ _ (.at_ 0 8 (by omega) (by omega) rfl)
/-- A word of marks: each byte 128 or 0. -/
def spread (j : Nat) : Int := ((cat [hot (j.testBit 0), hot (j.testBit 1), hot (j.testBit 2), hot (j.testBit 3), hot (j.testBit 4), hot (j.testBit 5), hot (j.testBit 6), hot (j.testBit 7)] : Nat) : Int)
def isMark (m : Int) : Bool := (List.range 256).any fun j => decide (m = spread j)
/-- The lowest mark's place. -/
def low8 (m : Int) : Int := if m % 256 ≠ 0 then 0 else if m % 65536 ≠ 0 then 1 else if m % 16777216 ≠ 0 then 2 else if m % 4294967296 ≠ 0 then 3 else if m % 1099511627776 ≠ 0 then 4 else if m % 281474976710656 ≠ 0 then 5 else if m % 72057594037927936 ≠ 0 then 6 else 7
def tzV (m : Int) : Int := if m = 0 then 64 else 8 * low8 m + 7
theorem tz_each (e0 : TypeId) : ∀ j : Nat, j < 256 → runK Tryd.prog cfgC fsC noT 12 40 43 [.int .u64 (spread j)] (varH .u8 tz e0) valK = some (.int .i64 (tzV (spread j)))
  | 0, _ => by kernel_rfl
  | 1, _ => by kernel_rfl
  | 2, _ => by kernel_rfl
  | 3, _ => by kernel_rfl
  | 4, _ => by kernel_rfl
  | 5, _ => by kernel_rfl
  | 6, _ => by kernel_rfl
  | 7, _ => by kernel_rfl
  | 8, _ => by kernel_rfl
  | 9, _ => by kernel_rfl
  | 10, _ => by kernel_rfl
  | 11, _ => by kernel_rfl
  | 12, _ => by kernel_rfl
  | 13, _ => by kernel_rfl
  | 14, _ => by kernel_rfl
  | 15, _ => by kernel_rfl
  | 16, _ => by kernel_rfl
  | 17, _ => by kernel_rfl
  | 18, _ => by kernel_rfl
  | 19, _ => by kernel_rfl
  | 20, _ => by kernel_rfl
  | 21, _ => by kernel_rfl
  | 22, _ => by kernel_rfl
  | 23, _ => by kernel_rfl
  | 24, _ => by kernel_rfl
  | 25, _ => by kernel_rfl
  | 26, _ => by kernel_rfl
  | 27, _ => by kernel_rfl
  | 28, _ => by kernel_rfl
  | 29, _ => by kernel_rfl
  | 30, _ => by kernel_rfl
  | 31, _ => by kernel_rfl
  | 32, _ => by kernel_rfl
  | 33, _ => by kernel_rfl
  | 34, _ => by kernel_rfl
  | 35, _ => by kernel_rfl
  | 36, _ => by kernel_rfl
  | 37, _ => by kernel_rfl
  | 38, _ => by kernel_rfl
  | 39, _ => by kernel_rfl
  | 40, _ => by kernel_rfl
  | 41, _ => by kernel_rfl
  | 42, _ => by kernel_rfl
  | 43, _ => by kernel_rfl
  | 44, _ => by kernel_rfl
  | 45, _ => by kernel_rfl
  | 46, _ => by kernel_rfl
  | 47, _ => by kernel_rfl
  | 48, _ => by kernel_rfl
  | 49, _ => by kernel_rfl
  | 50, _ => by kernel_rfl
  | 51, _ => by kernel_rfl
  | 52, _ => by kernel_rfl
  | 53, _ => by kernel_rfl
  | 54, _ => by kernel_rfl
  | 55, _ => by kernel_rfl
  | 56, _ => by kernel_rfl
  | 57, _ => by kernel_rfl
  | 58, _ => by kernel_rfl
  | 59, _ => by kernel_rfl
  | 60, _ => by kernel_rfl
  | 61, _ => by kernel_rfl
  | 62, _ => by kernel_rfl
  | 63, _ => by kernel_rfl
  | 64, _ => by kernel_rfl
  | 65, _ => by kernel_rfl
  | 66, _ => by kernel_rfl
  | 67, _ => by kernel_rfl
  | 68, _ => by kernel_rfl
  | 69, _ => by kernel_rfl
  | 70, _ => by kernel_rfl
  | 71, _ => by kernel_rfl
  | 72, _ => by kernel_rfl
  | 73, _ => by kernel_rfl
  | 74, _ => by kernel_rfl
  | 75, _ => by kernel_rfl
  | 76, _ => by kernel_rfl
  | 77, _ => by kernel_rfl
  | 78, _ => by kernel_rfl
  | 79, _ => by kernel_rfl
  | 80, _ => by kernel_rfl
  | 81, _ => by kernel_rfl
  | 82, _ => by kernel_rfl
  | 83, _ => by kernel_rfl
  | 84, _ => by kernel_rfl
  | 85, _ => by kernel_rfl
  | 86, _ => by kernel_rfl
  | 87, _ => by kernel_rfl
  | 88, _ => by kernel_rfl
  | 89, _ => by kernel_rfl
  | 90, _ => by kernel_rfl
  | 91, _ => by kernel_rfl
  | 92, _ => by kernel_rfl
  | 93, _ => by kernel_rfl
  | 94, _ => by kernel_rfl
  | 95, _ => by kernel_rfl
  | 96, _ => by kernel_rfl
  | 97, _ => by kernel_rfl
  | 98, _ => by kernel_rfl
  | 99, _ => by kernel_rfl
  | 100, _ => by kernel_rfl
  | 101, _ => by kernel_rfl
  | 102, _ => by kernel_rfl
  | 103, _ => by kernel_rfl
  | 104, _ => by kernel_rfl
  | 105, _ => by kernel_rfl
  | 106, _ => by kernel_rfl
  | 107, _ => by kernel_rfl
  | 108, _ => by kernel_rfl
  | 109, _ => by kernel_rfl
  | 110, _ => by kernel_rfl
  | 111, _ => by kernel_rfl
  | 112, _ => by kernel_rfl
  | 113, _ => by kernel_rfl
  | 114, _ => by kernel_rfl
  | 115, _ => by kernel_rfl
  | 116, _ => by kernel_rfl
  | 117, _ => by kernel_rfl
  | 118, _ => by kernel_rfl
  | 119, _ => by kernel_rfl
  | 120, _ => by kernel_rfl
  | 121, _ => by kernel_rfl
  | 122, _ => by kernel_rfl
  | 123, _ => by kernel_rfl
  | 124, _ => by kernel_rfl
  | 125, _ => by kernel_rfl
  | 126, _ => by kernel_rfl
  | 127, _ => by kernel_rfl
  | 128, _ => by kernel_rfl
  | 129, _ => by kernel_rfl
  | 130, _ => by kernel_rfl
  | 131, _ => by kernel_rfl
  | 132, _ => by kernel_rfl
  | 133, _ => by kernel_rfl
  | 134, _ => by kernel_rfl
  | 135, _ => by kernel_rfl
  | 136, _ => by kernel_rfl
  | 137, _ => by kernel_rfl
  | 138, _ => by kernel_rfl
  | 139, _ => by kernel_rfl
  | 140, _ => by kernel_rfl
  | 141, _ => by kernel_rfl
  | 142, _ => by kernel_rfl
  | 143, _ => by kernel_rfl
  | 144, _ => by kernel_rfl
  | 145, _ => by kernel_rfl
  | 146, _ => by kernel_rfl
  | 147, _ => by kernel_rfl
  | 148, _ => by kernel_rfl
  | 149, _ => by kernel_rfl
  | 150, _ => by kernel_rfl
  | 151, _ => by kernel_rfl
  | 152, _ => by kernel_rfl
  | 153, _ => by kernel_rfl
  | 154, _ => by kernel_rfl
  | 155, _ => by kernel_rfl
  | 156, _ => by kernel_rfl
  | 157, _ => by kernel_rfl
  | 158, _ => by kernel_rfl
  | 159, _ => by kernel_rfl
  | 160, _ => by kernel_rfl
  | 161, _ => by kernel_rfl
  | 162, _ => by kernel_rfl
  | 163, _ => by kernel_rfl
  | 164, _ => by kernel_rfl
  | 165, _ => by kernel_rfl
  | 166, _ => by kernel_rfl
  | 167, _ => by kernel_rfl
  | 168, _ => by kernel_rfl
  | 169, _ => by kernel_rfl
  | 170, _ => by kernel_rfl
  | 171, _ => by kernel_rfl
  | 172, _ => by kernel_rfl
  | 173, _ => by kernel_rfl
  | 174, _ => by kernel_rfl
  | 175, _ => by kernel_rfl
  | 176, _ => by kernel_rfl
  | 177, _ => by kernel_rfl
  | 178, _ => by kernel_rfl
  | 179, _ => by kernel_rfl
  | 180, _ => by kernel_rfl
  | 181, _ => by kernel_rfl
  | 182, _ => by kernel_rfl
  | 183, _ => by kernel_rfl
  | 184, _ => by kernel_rfl
  | 185, _ => by kernel_rfl
  | 186, _ => by kernel_rfl
  | 187, _ => by kernel_rfl
  | 188, _ => by kernel_rfl
  | 189, _ => by kernel_rfl
  | 190, _ => by kernel_rfl
  | 191, _ => by kernel_rfl
  | 192, _ => by kernel_rfl
  | 193, _ => by kernel_rfl
  | 194, _ => by kernel_rfl
  | 195, _ => by kernel_rfl
  | 196, _ => by kernel_rfl
  | 197, _ => by kernel_rfl
  | 198, _ => by kernel_rfl
  | 199, _ => by kernel_rfl
  | 200, _ => by kernel_rfl
  | 201, _ => by kernel_rfl
  | 202, _ => by kernel_rfl
  | 203, _ => by kernel_rfl
  | 204, _ => by kernel_rfl
  | 205, _ => by kernel_rfl
  | 206, _ => by kernel_rfl
  | 207, _ => by kernel_rfl
  | 208, _ => by kernel_rfl
  | 209, _ => by kernel_rfl
  | 210, _ => by kernel_rfl
  | 211, _ => by kernel_rfl
  | 212, _ => by kernel_rfl
  | 213, _ => by kernel_rfl
  | 214, _ => by kernel_rfl
  | 215, _ => by kernel_rfl
  | 216, _ => by kernel_rfl
  | 217, _ => by kernel_rfl
  | 218, _ => by kernel_rfl
  | 219, _ => by kernel_rfl
  | 220, _ => by kernel_rfl
  | 221, _ => by kernel_rfl
  | 222, _ => by kernel_rfl
  | 223, _ => by kernel_rfl
  | 224, _ => by kernel_rfl
  | 225, _ => by kernel_rfl
  | 226, _ => by kernel_rfl
  | 227, _ => by kernel_rfl
  | 228, _ => by kernel_rfl
  | 229, _ => by kernel_rfl
  | 230, _ => by kernel_rfl
  | 231, _ => by kernel_rfl
  | 232, _ => by kernel_rfl
  | 233, _ => by kernel_rfl
  | 234, _ => by kernel_rfl
  | 235, _ => by kernel_rfl
  | 236, _ => by kernel_rfl
  | 237, _ => by kernel_rfl
  | 238, _ => by kernel_rfl
  | 239, _ => by kernel_rfl
  | 240, _ => by kernel_rfl
  | 241, _ => by kernel_rfl
  | 242, _ => by kernel_rfl
  | 243, _ => by kernel_rfl
  | 244, _ => by kernel_rfl
  | 245, _ => by kernel_rfl
  | 246, _ => by kernel_rfl
  | 247, _ => by kernel_rfl
  | 248, _ => by kernel_rfl
  | 249, _ => by kernel_rfl
  | 250, _ => by kernel_rfl
  | 251, _ => by kernel_rfl
  | 252, _ => by kernel_rfl
  | 253, _ => by kernel_rfl
  | 254, _ => by kernel_rfl
  | 255, _ => by kernel_rfl
  | n + 256, h => absurd h (by omega)
theorem tz_told (m : Int) (e0 : TypeId) (hm : isMark m = true) : Tells Tryd.prog 43 [.int .u64 m] (varH .u8 tz e0).low (.int .i64 (tzV m)) := by
  unfold isMark at hm
  obtain ⟨j, hj, hd⟩ := List.any_eq_true.1 hm
  have hj := List.mem_range.1 hj
  obtain rfl := of_decide_eq_true hd
  exact Tells.of_tree (h := (varH .u8 tz e0)) fitC SoundC.no AgreeT.no (by kernel_rfl) rfl (show Ro (varH .u8 tz e0).low from Ro.varH) (n := 12) (d := 40) (tz_each e0 j hj)
def tzE : ConE := fun acc f args => match f, args with
  | 43, [.int .u64 m] => (match acc.cells 0 with
    | some (cs, e, false) => (match isTz tz cs with
      | true => (match isMark m with
        | true => some ⟨[0], [.int .u64 m], [.cells cs e false], .int .i64 (tzV m), [], []⟩
        | false => none)
      | false => none)
    | _ => none)
  | _, _ => none
def tzK {β : Type} : ConEK β := fun h f args k => match f, args with
  | 43, [.int .u64 m] => (match (accK h).cells 0 with
    | some (cs, e, false) => (match isTz tz cs with
      | true => bif isMark m then k ⟨[0], [.int .u64 m], [.cells cs e false], .int .i64 (tzV m), [], []⟩ else none
      | false => none)
    | _ => none)
  | _, _ => none
theorem tz_tells {β : Type} : TellsK tzE (tzK (β := β)) := by
  intro h f args k r hk
  unfold tzK at hk
  unfold tzE
  rw [accK_low]
  split at hk
  · split at hk
    · rename_i cs e hc
      (try rw [hc])
      split at hk
      · rename_i hz
        (try rw [hz])
        cases hm : isMark _ with
        | true => rw [hm] at hk; exact ⟨_, rfl, hk⟩
        | false => rw [hm] at hk; cases hk
      · cases hk
    · cases hk
  · cases hk
theorem tz_ok : ∀ (h : AH) (f : FuncId) (args : List Value) (c : Con), tzE (accA h) f args = some c → ConOk Tryd.prog f args h c := by
  intro h f args c hE
  unfold tzE at hE
  split at hE
  · split at hE
    · rename_i cs e hc
      split at hE
      · rename_i hz
        have hcs := isTz_eq hz
        subst hcs
        have hc0 : h.get 0 = some (.cells (intCells .u8 tz) e false) := by
          have hc : cellsA h 0 = _ := hc
          unfold cellsA at hc
          split at hc
          · rename_i hq; cases hc; exact hq
          · cases hc
        split at hE
        · rename_i hm
          cases hE; exact ConOk.var oneVar rfl rfl (tz_told _ _ hm) h hc0
        · cases hE
      · cases hE
    · cases hE
  · cases hE
def nextE : ConE := fun acc f args => match acc.cells 0 with
  | some (cs, e, false) => (match isTz tz cs with
    | true => (match f, args with
      | 24, [.int .u64 w, .int .i64 i, .int .i64 c] => some ⟨[0], [.int .u64 w, .int .i64 i, .int .i64 c], [.cells cs e false], .tuple #[.int .i64 (nextI w i c 8 0), .int .i64 (nextC w c (nextI w i c 8 0))], [], []⟩
      | _, _ => none)
    | false => none)
  | _ => none
def nextDom : List FuncId := [24]
theorem nextE_ok : ∀ (h : AH) (f : FuncId) (args : List Value) (c : Con), nextE (accA h) f args = some c → ConOk Tryd.prog f args h c := by
  intro h f args c hE
  unfold nextE at hE
  split at hE
  · rename_i cs e hc
    split at hE
    · rename_i hz
      have hcs := isTz_eq hz
      subst hcs
      have hc0 : h.get 0 = some (.cells (intCells .u8 tz) e false) := by
        have hc : cellsA h 0 = _ := hc
        unfold cellsA at hc
        split at hc
        · rename_i hq; cases hc; exact hq
        · cases hc
      split at hE
      · cases hE; exact ConOk.var oneVar rfl rfl (nextR_told _ _ _ _) h hc0
      · cases hE
    · cases hE
  · cases hE
theorem nextE_fn : ∀ f ∈ nextDom, FnOk Tryd.prog f := fun f hf => fitC.fnOk f (by
    have h0 : (nextDom.all fun f => fsC.contains f) = true := by kernel_rfl
    simpa using List.all_eq_true.1 h0 f hf)
def threeE : ConE := orE twoDom twoE nextE
def threeDom : List FuncId := twoDom ++ nextDom
theorem three_ok : ∀ (h : AH) (f : FuncId) (args : List Value) (c : Con), threeE (accA h) f args = some c → ConOk Tryd.prog f args h c := by
  intro h f args c hE
  unfold threeE orE at hE
  cases hd : twoDom.contains f with
  | true => rw [hd] at hE; exact two_ok h f args c hE
  | false => rw [hd] at hE; exact nextE_ok h f args c hE
theorem three_fn : ∀ f ∈ threeDom, FnOk Tryd.prog f := fun f hf => by
  rcases List.mem_append.1 hf with hf | hf
  · exact two_fn f hf
  · exact nextE_fn f hf
theorem three_sound : SoundC Tryd.prog (conC threeDom threeE) := SoundC.con three_fn fun h f args c _ hE => three_ok h f args c hE
def looksE : ConE := orE threeDom threeE tzE
def looksK {β : Type} : ConEK β := orK threeDom (plainK threeE) tzK
def looksDom : List FuncId := 43 :: threeDom
theorem looks_agree {β : Type} : AgreeT (conC looksDom looksE) (conTk (β := β) looksDom looksK) := conTk_agree (orK_tells (plainK_tells _) tz_tells)
theorem looks_sound : SoundC Tryd.prog (conC looksDom looksE) := by
  refine SoundC.con ?_ ?_
  · intro f hf
    rcases List.mem_cons.1 hf with rfl | hf
    · exact fitC.fnOk _ (by
        have h0 : fsC.contains 43 = true := by kernel_rfl
        simpa using h0)
    · exact three_fn f hf
  · intro h f args c hm hE
    unfold looksE orE at hE
    cases hd : threeDom.contains f with
    | true => rw [hd] at hE; exact three_ok h f args c hE
    | false => rw [hd] at hE; exact tz_ok h f args c hE
end Go.Proofs.YteafenadjidkdaaDoor.ctrls
