import Derived.Test.YtfhfbbhoppnbiaaDoorDrD
import Derived.Test.YtfhfbbhoppnbiaaDoorRtF
import Derived.WalkKit
import Derived.ProofKit
import Derived.OpenShut
import Derived.ChangeOld
import Derived.Below
import Derived.SizedLaws
namespace Go.Proofs.YtfhfbbhoppnbiaaDoor
open Go.Eng
open Go.ChangeShapes Go.WideShapes Go.ChangeAt Go.RowKit
set_option linter.unusedVariables false
set_option linter.unusedSimpArgs false
set_option maxRecDepth 100000
theorem wp2 {i : Int} (h0 : 0 ≤ i) (h1 : i ≤ 100) : IntKind.wrap .u64 (IntKind.wrap .u64 i + 2) = i + 2 := by
  rw [wrap_u64_id (n := i) (by omega) (by omega), wrap_u64_id (by omega) (by omega)]
theorem bcw {t : Int} (h0 : 0 ≤ t) (h1 : t ≤ 63) : IntKind.wrap .i64 (IntKind.wrap .i64 (2 + IntKind.wrap .i64 (2 * t)) + 1) = 3 + 2 * t := by
  rw [wrap_i64_id (n := 2 * t) (by omega) (by omega), wrap_i64_id (n := 2 + 2 * t) (by omega) (by omega), wrap_i64_id (by omega) (by omega)]; omega
noncomputable def cfgS : Cfg := ⟨[]⟩
noncomputable def fsS : List FuncId := [4, 6, 8, 11, 13, 14, 15, 16, 17, 18, 35]
theorem fitS : Fit Tryd.prog cfgS fsS := ⟨by kernel_rfl, Cfg.ok_of (by kernel_rfl), by kernel_rfl⟩
noncomputable def sfaT : RTab := fun f => match f with
  | 13 => some rc_field
  | 6 => some rc_awake
  | 14 => some rc_actDo
  | 8 => some rc_LKm
  | 16 => some rc_drAlone
  | 11 => some rc_rtResA
  | 17 => some rc_arena_Arena_Faults
  | 18 => some rc_arena_Arena_Size
  | _ => none
def sfaDom : List FuncId := [13, 6, 14, 8, 16, 11, 17, 18]
theorem sfa_does : ∀ f rc, f ∈ sfaDom → sfaT f = some rc → RcDoes Tryd.prog varL f rc := by
  intro f rc hf hT
  simp only [sfaDom, List.mem_cons, List.not_mem_nil, or_false] at hf
  rcases hf with rfl | rfl | rfl | rfl | rfl | rfl | rfl | rfl
  · cases hT; exact rc_field_does
  · cases hT; exact rc_awake_does
  · cases hT; exact rc_actDo_does
  · cases hT; exact rc_LKm_does
  · cases hT; exact rc_drAlone_does
  · cases hT; exact rc_rtResA_does
  · cases hT; exact rc_arena_Arena_Faults_does
  · cases hT; exact rc_arena_Arena_Size_does
theorem sfa_fn : ∀ f ∈ sfaDom, FnOk Tryd.prog f := fun f hf => fitS.fnOk f (by
    have h0 : (sfaDom.all fun f => fsS.contains f) = true := by kernel_rfl
    simpa using List.all_eq_true.1 h0 f hf)
theorem sfa_sound : SoundC Tryd.prog (conC sfaDom (rcE varL sfaT)) := rc_sound oneVar sfa_fn sfa_does
noncomputable def sfbT : RTab := fun f => match f with
  | 13 => some rc_field
  | 6 => some rc_awake
  | 14 => some rc_actDo
  | 8 => some rc_LKm
  | 16 => some rc_drAlone
  | 11 => some rc_rtResB
  | 17 => some rc_arena_Arena_Faults
  | 18 => some rc_arena_Arena_Size
  | _ => none
def sfbDom : List FuncId := [13, 6, 14, 8, 16, 11, 17, 18]
theorem sfb_does : ∀ f rc, f ∈ sfbDom → sfbT f = some rc → RcDoes Tryd.prog varL f rc := by
  intro f rc hf hT
  simp only [sfbDom, List.mem_cons, List.not_mem_nil, or_false] at hf
  rcases hf with rfl | rfl | rfl | rfl | rfl | rfl | rfl | rfl
  · cases hT; exact rc_field_does
  · cases hT; exact rc_awake_does
  · cases hT; exact rc_actDo_does
  · cases hT; exact rc_LKm_does
  · cases hT; exact rc_drAlone_does
  · cases hT; exact rc_rtResB_does
  · cases hT; exact rc_arena_Arena_Faults_does
  · cases hT; exact rc_arena_Arena_Size_does
theorem sfb_fn : ∀ f ∈ sfbDom, FnOk Tryd.prog f := fun f hf => fitS.fnOk f (by
    have h0 : (sfbDom.all fun f => fsS.contains f) = true := by kernel_rfl
    simpa using List.all_eq_true.1 h0 f hf)
theorem sfb_sound : SoundC Tryd.prog (conC sfbDom (rcE varL sfbT)) := rc_sound oneVar sfb_fn sfb_does
noncomputable def BSa : Code := bodyOf Tryd.prog 4
theorem BSa_is : Tryd.f4.body = some BSa := by kernel_rfl
noncomputable abbrev SaH (e0 : TypeId) (off : Nat) (l : List Int) (e1 : TypeId) : AH := (KH.low ⟨2, 1, [(0, 0, .cells [(.int .i64 1), (.int .i64 64), (.int .i64 1), (.int .i64 64)] e0 false), (1, 0, .tail off .u8 l e1)]⟩)
noncomputable abbrev SaEA (c : Code) (lv p : List Nat) (st : Option (List Nat)) (ws : List Bool) (s : KSt) : Option Rs := evA (evCK Tryd.prog cfgS (runK Tryd.prog cfgS fsS (conTk sfaDom (rcK varL sfaT)) 40 40) 40) (stopW 2 lv) p c st ws s (finW 2 lv)
theorem Sato_ {c_ : Code} {lv_ p_ p2_ : List Nat} {ws_ : List Bool} {st_ s' : KSt} {Q : Ex → St → Prop} {e0 : TypeId} {off : Nat} {l : List Int} {e1 : TypeId} (hE_ : SaEA c_ lv_ p_ (some p2_) ws_ st_ = some (.stop s')) (hq_ : AtW Tryd.prog (SaH e0 off l e1) c_ p2_ s' Q) (hok_ : okCode Tryd.prog.globals.size c_ = true := by kernel_rfl) : AtW Tryd.prog (SaH e0 off l e1) c_ p_ st_ Q := AtW.to fitS sfa_sound (rc_agree _ _ _) 40 40 hok_ hE_ hq_
theorem Safi_ {c_ : Code} {lv_ p_ : List Nat} {ws_ : List Bool} {st_ s' : KSt} {x : Ex} {Q : Ex → St → Prop} {e0 : TypeId} {off : Nat} {l : List Int} {e1 : TypeId} (hE_ : SaEA c_ lv_ p_ none ws_ st_ = some (.fin x s')) (hq_ : Q x s'.low) (hok_ : okCode Tryd.prog.globals.size c_ = true := by kernel_rfl) : AtW Tryd.prog (SaH e0 off l e1) c_ p_ st_ Q := AtW.fin fitS sfa_sound (rc_agree _ _ _) 40 40 hok_ hE_ hq_
theorem SaC1_1_1_1_1_0_1 : (codeAt [1, 1, 1, 1, 1, 0, 1] BSa) = .block 0 (codeAt [1, 1, 1, 1, 1, 0, 1, 0] BSa) := by kernel_rfl
theorem SaC1_1_1_1_1_0_1_0 : (codeAt [1, 1, 1, 1, 1, 0, 1, 0] BSa) = .loop (codeAt [1, 1, 1, 1, 1, 0, 1, 0, 0] BSa) := by kernel_rfl
theorem SaC1_1_1_1_1_1_1_0_1 : (codeAt [1, 1, 1, 1, 1, 1, 1, 0, 1] BSa) = .block 2 (codeAt [1, 1, 1, 1, 1, 1, 1, 0, 1, 0] BSa) := by kernel_rfl
theorem SaC1_1_1_1_1_1_1_0_1_0 : (codeAt [1, 1, 1, 1, 1, 1, 1, 0, 1, 0] BSa) = .loop (codeAt [1, 1, 1, 1, 1, 1, 1, 0, 1, 0, 0] BSa) := by kernel_rfl
theorem SaC1_1_1_1_1_1_1_1_1_1_1_1_1_1_0_1 : (codeAt [1, 1, 1, 1, 1, 1, 1, 1, 1, 1, 1, 1, 1, 1, 0, 1] BSa) = .block 4 (codeAt [1, 1, 1, 1, 1, 1, 1, 1, 1, 1, 1, 1, 1, 1, 0, 1, 0] BSa) := by kernel_rfl
theorem SaC1_1_1_1_1_1_1_1_1_1_1_1_1_1_0_1_0 : (codeAt [1, 1, 1, 1, 1, 1, 1, 1, 1, 1, 1, 1, 1, 1, 0, 1, 0] BSa) = .loop (codeAt [1, 1, 1, 1, 1, 1, 1, 1, 1, 1, 1, 1, 1, 1, 0, 1, 0, 0] BSa) := by kernel_rfl
section
variable (thr blo : Int) (off gn gc : Nat) (e0 : TypeId) (l : List Int) (e1 : TypeId) (n : Int) (mm i : Nat) (w : List Int) (q : List Bool) (S : ArSt) (b : Nat) (x2 : RetireSt) (S2 : ArSt) (k : Nat) (R : List Int) (at_ : Nat)
noncomputable abbrev SaO0 (e0 : TypeId) : KObj := .cells [(.int .i64 1), (.int .i64 64), (.int .i64 1), (.int .i64 64)] e0 false
noncomputable def SaS0 : KSt := (firstK [(.int .u8 thr), (.int .u8 blo), (.slice (some ⟨1, off, none⟩) gn gc)] 154 ⟨2, 1, [(0, 0, (SaO0 e0)), (1, 0, .tail off .u8 l e1)]⟩)
noncomputable def SaS1 : KSt := ⟨(frameL 154 [(6, (.bool true))]), ⟨2, 1, [(0, 0, (SaO0 e0)), (1, 0, .tail off .u8 l e1)]⟩⟩
theorem SaW1 : SaEA BSa [6] [] none [true] (SaS0 thr blo off gn gc e0 l e1) =
  bif (decide (((gn : Nat) : Int) > 8)) then
    some (.fin .ret (SaS1 off e0 l e1))
  else
    none := by kernel_rfl
theorem SaW2 : SaEA BSa [2, 7, 8] [] (some [1, 1]) [] (SaS0 thr blo off gn gc e0 l e1) =
  some (.stop ⟨(frameL 154 [(2, (.slice (some ⟨1, off, none⟩) gn gc)), (7, (.int .i64 (IntKind.wrap .i64 ((Int.tmod (IntKind.wrap .i64 thr) 8) + 1)))), (8, (.int .i64 (Int.tmod (IntKind.wrap .i64 blo) 20)))]), ⟨2, 1, [(0, 0, .cells [(.int .i64 1), (.int .i64 64), (.int .i64 1), (.int .i64 64)] e0 false), (1, 0, .tail off .u8 l e1)]⟩⟩) := by kernel_rfl
noncomputable def SaS2 : KSt := ⟨(frameL 154 [(2, (.slice (some ⟨1, off, none⟩) gn gc)), (7, (.int .i64 n)), (8, (.int .i64 ((mm : Nat) : Int)))]), ⟨2, 1, [(0, 0, (SaO0 e0)), (1, 0, .tail off .u8 l e1)]⟩⟩
theorem SaW3 : SaEA BSa [2, 7, 8, 9] [1, 1] (some [1, 1, 1, 1]) [false] (SaS2 off gn gc e0 l e1 n mm) =
  bif (decide (((gn : Nat) : Int) > 8)) then
    none
  else
    bif ((decide (1 ≤ n)) && ((decide (n ≤ 8)) && ((decide (0 ≤ ((mm : Nat) : Int))) && (decide (((mm : Nat) : Int) ≤ 19))))) then
      some (.stop ⟨(frameL 154 [(2, (.slice (some ⟨1, off, none⟩) gn gc)), (7, (.int .i64 n)), (8, (.int .i64 ((mm : Nat) : Int))), (9, (.pointer (some ⟨2, 0, none⟩)))]), ⟨3, 1, [(2, 0, .mach (.arena (fieldS n (Int.toNat ((mm : Nat) : Int))))), (0, 0, .cells [(.int .i64 1), (.int .i64 64), (.int .i64 1), (.int .i64 64)] e0 false), (1, 0, .tail off .u8 l e1)]⟩⟩)
    else
      none := by kernel_rfl
noncomputable def SaS3 : KSt := ⟨(frameL 154 [(2, (.slice (some ⟨1, off, none⟩) gn gc)), (7, (.int .i64 n)), (8, (.int .i64 ((mm : Nat) : Int))), (9, (.pointer (some ⟨2, 0, none⟩)))]), ⟨3, 1, [(2, 0, .mach (.arena (fieldS n mm))), (0, 0, (SaO0 e0)), (1, 0, .tail off .u8 l e1)]⟩⟩
noncomputable def SaS4 : KSt := ⟨(frameL 154 [(2, (.slice (some ⟨1, off, none⟩) gn gc)), (7, (.int .i64 n)), (8, (.int .i64 ((mm : Nat) : Int))), (9, (.pointer (some ⟨2, 0, none⟩))), (10, (.slice (some ⟨3, 0, none⟩) 0 0)), (11, (.int .i64 0))]), ⟨4, 1, [(3, 0, .cells [] 22 true), (2, 0, .mach (.arena (fieldS n mm))), (0, 0, (SaO0 e0)), (1, 0, .tail off .u8 l e1)]⟩⟩
theorem SaW4 : SaEA BSa [2, 7, 8, 9, 10, 11] [1, 1, 1, 1] (some [1, 1, 1, 1, 1, 0, 1]) [] (SaS3 off gn gc e0 l e1 n mm) =
  some (.stop (SaS4 off gn gc e0 l e1 n mm)) := by kernel_rfl
noncomputable def SaS5 : KSt := ⟨(frameL 154 [(2, (.slice (some ⟨1, off, none⟩) gn gc)), (7, (.int .i64 n)), (8, (.int .i64 ((mm : Nat) : Int))), (9, (.pointer (some ⟨2, 0, none⟩))), (10, (.slice (some ⟨3, 0, none⟩) i i)), (11, (.int .i64 ((i : Nat) : Int)))]), ⟨4, 1, [(3, 0, .ints .u64 w 22 true), (2, 0, .mach (.arena (fieldS n mm))), (0, 0, (SaO0 e0)), (1, 0, .tail off .u8 l e1)]⟩⟩
noncomputable def SaS6 : KSt := ⟨(frameL 154 [(2, (.slice (some ⟨1, off, none⟩) gn gc)), (7, (.int .i64 n)), (8, (.int .i64 ((mm : Nat) : Int))), (9, (.pointer (some ⟨2, 0, none⟩))), (10, (.slice (some ⟨3, 0, none⟩) (i + 1) i)), (11, (.int .i64 ((i : Nat) : Int)))]), ⟨4, 1, [(3, 0, .ints .u64 (List.take (0 + i) w ++ [(IntKind.wrap .u64 ((IntKind.wrap .u64 ((i : Nat) : Int)) + 2))] ++ List.drop ((0 + i) + (List.length [(IntKind.wrap .u64 ((IntKind.wrap .u64 ((i : Nat) : Int)) + 2))])) w) 22 true), (2, 0, .mach (.arena (fieldS n mm))), (0, 0, (SaO0 e0)), (1, 0, .tail off .u8 l e1)]⟩⟩
theorem SaW5 : SaEA (codeAt [1, 1, 1, 1, 1, 0, 1, 0, 0] BSa) [2, 7, 8, 9, 10, 11] [] (some [1, 1]) [true, false] (SaS5 off gn gc e0 l e1 n mm i w) =
  bif (decide (((i : Nat) : Int) < ((mm : Nat) : Int))) then
    bif (Nat.ble ((i + 1) * 9) 1099511627776) then
      bif (Nat.ble (i + 1) i) then
        bif (Nat.ble (0 + (i + 1)) (List.length w)) then
          some (.stop (SaS6 off gn gc e0 l e1 n mm i w))
        else
          none
      else
        bif ((Nat.beq i 0) && (Nat.beq i 0)) then
          some (.stop ⟨(frameL 154 [(2, (.slice (some ⟨1, off, none⟩) gn gc)), (7, (.int .i64 n)), (8, (.int .i64 ((mm : Nat) : Int))), (9, (.pointer (some ⟨2, 0, none⟩))), (10, (.slice (some ⟨3, 0, none⟩) 1 1)), (11, (.int .i64 ((i : Nat) : Int)))]), ⟨4, 1, [(3, 0, .cells [(.int .u64 (IntKind.wrap .u64 ((IntKind.wrap .u64 ((i : Nat) : Int)) + 2)))] 22 true), (2, 0, .mach (.arena (fieldS n mm))), (0, 0, .cells [(.int .i64 1), (.int .i64 64), (.int .i64 1), (.int .i64 64)] e0 false), (1, 0, .tail off .u8 l e1)]⟩⟩)
        else
          bif ((Nat.ble i (List.length w)) && (Nat.ble 1 i)) then
            some (.stop ⟨(frameL 154 [(2, (.slice (some ⟨1, off, none⟩) gn gc)), (7, (.int .i64 n)), (8, (.int .i64 ((mm : Nat) : Int))), (9, (.pointer (some ⟨2, 0, none⟩))), (10, (.slice (some ⟨3, 0, none⟩) (i + 1) (i + 1))), (11, (.int .i64 ((i : Nat) : Int)))]), ⟨4, 1, [(3, 0, .ints .u64 (List.take i w ++ [(IntKind.wrap .u64 ((IntKind.wrap .u64 ((i : Nat) : Int)) + 2))]) 22 true), (2, 0, .mach (.arena (fieldS n mm))), (0, 0, .cells [(.int .i64 1), (.int .i64 64), (.int .i64 1), (.int .i64 64)] e0 false), (1, 0, .tail off .u8 l e1)]⟩⟩)
          else
            none
    else
      none
  else
    none := by kernel_rfl
noncomputable def SaS8 : KSt := ⟨(frameL 154 [(2, (.slice (some ⟨1, off, none⟩) gn gc)), (7, (.int .i64 n)), (8, (.int .i64 ((mm : Nat) : Int))), (9, (.pointer (some ⟨2, 0, none⟩))), (10, (.slice (some ⟨3, 0, none⟩) 1 1)), (11, (.int .i64 ((i : Nat) : Int)))]), ⟨4, 1, [(3, 0, .cells [(.int .u64 (((i : Nat) : Int) + 2))] 22 true), (2, 0, .mach (.arena (fieldS n mm))), (0, 0, (SaO0 e0)), (1, 0, .tail off .u8 l e1)]⟩⟩
theorem SaW6 : SaEA (codeAt [1, 1, 1, 1, 1, 0, 1, 0, 0] BSa) [2, 7, 8, 9, 10, 11] [1, 1] none [] (SaS8 off gn gc e0 l e1 n mm i) =
  some (.fin .normal ⟨(frameL 154 [(2, (.slice (some ⟨1, off, none⟩) gn gc)), (7, (.int .i64 n)), (8, (.int .i64 ((mm : Nat) : Int))), (9, (.pointer (some ⟨2, 0, none⟩))), (10, (.slice (some ⟨3, 0, none⟩) 1 1)), (11, (.int .i64 (IntKind.wrap .i64 (((i : Nat) : Int) + 1))))]), ⟨4, 1, [(3, 0, .cells [(.int .u64 (((i : Nat) : Int) + 2))] 22 true), (2, 0, .mach (.arena (fieldS n mm))), (0, 0, .cells [(.int .i64 1), (.int .i64 64), (.int .i64 1), (.int .i64 64)] e0 false), (1, 0, .tail off .u8 l e1)]⟩⟩) := by kernel_rfl
noncomputable def SaS9 : KSt := ⟨(frameL 154 [(2, (.slice (some ⟨1, off, none⟩) gn gc)), (7, (.int .i64 n)), (8, (.int .i64 ((mm : Nat) : Int))), (9, (.pointer (some ⟨2, 0, none⟩))), (10, (.slice (some ⟨3, 0, none⟩) 1 1)), (11, (.int .i64 (((i : Nat) : Int) + 1)))]), ⟨4, 1, [(3, 0, .cells [(.int .u64 (((i : Nat) : Int) + 2))] 22 true), (2, 0, .mach (.arena (fieldS n mm))), (0, 0, (SaO0 e0)), (1, 0, .tail off .u8 l e1)]⟩⟩
theorem SaW7 : SaEA (codeAt [1, 1, 1, 1, 1, 0, 1, 0, 0] BSa) [2, 7, 8, 9, 10, 11] [] (some [1, 1]) [true, false] (SaS5 off gn gc e0 l e1 n mm i w) =
  bif (decide (((i : Nat) : Int) < ((mm : Nat) : Int))) then
    bif (Nat.ble ((i + 1) * 9) 1099511627776) then
      bif (Nat.ble (i + 1) i) then
        bif (Nat.ble (0 + (i + 1)) (List.length w)) then
          some (.stop (SaS6 off gn gc e0 l e1 n mm i w))
        else
          none
      else
        bif ((Nat.beq i 0) && (Nat.beq i 0)) then
          some (.stop ⟨(frameL 154 [(2, (.slice (some ⟨1, off, none⟩) gn gc)), (7, (.int .i64 n)), (8, (.int .i64 ((mm : Nat) : Int))), (9, (.pointer (some ⟨2, 0, none⟩))), (10, (.slice (some ⟨3, 0, none⟩) 1 1)), (11, (.int .i64 ((i : Nat) : Int)))]), ⟨4, 1, [(3, 0, .cells [(.int .u64 (IntKind.wrap .u64 ((IntKind.wrap .u64 ((i : Nat) : Int)) + 2)))] 22 true), (2, 0, .mach (.arena (fieldS n mm))), (0, 0, .cells [(.int .i64 1), (.int .i64 64), (.int .i64 1), (.int .i64 64)] e0 false), (1, 0, .tail off .u8 l e1)]⟩⟩)
        else
          bif ((Nat.ble i (List.length w)) && (Nat.ble 1 i)) then
            some (.stop ⟨(frameL 154 [(2, (.slice (some ⟨1, off, none⟩) gn gc)), (7, (.int .i64 n)), (8, (.int .i64 ((mm : Nat) : Int))), (9, (.pointer (some ⟨2, 0, none⟩))), (10, (.slice (some ⟨3, 0, none⟩) (i + 1) (i + 1))), (11, (.int .i64 ((i : Nat) : Int)))]), ⟨4, 1, [(3, 0, .ints .u64 (List.take i w ++ [(IntKind.wrap .u64 ((IntKind.wrap .u64 ((i : Nat) : Int)) + 2))]) 22 true), (2, 0, .mach (.arena (fieldS n mm))), (0, 0, .cells [(.int .i64 1), (.int .i64 64), (.int .i64 1), (.int .i64 64)] e0 false), (1, 0, .tail off .u8 l e1)]⟩⟩)
          else
            none
    else
      none
  else
    none := by kernel_rfl
noncomputable def SaS11 : KSt := ⟨(frameL 154 [(2, (.slice (some ⟨1, off, none⟩) gn gc)), (7, (.int .i64 n)), (8, (.int .i64 ((mm : Nat) : Int))), (9, (.pointer (some ⟨2, 0, none⟩))), (10, (.slice (some ⟨3, 0, none⟩) (i + 1) (i + 1))), (11, (.int .i64 ((i : Nat) : Int)))]), ⟨4, 1, [(3, 0, .ints .u64 (List.take i w ++ [(((i : Nat) : Int) + 2)]) 22 true), (2, 0, .mach (.arena (fieldS n mm))), (0, 0, (SaO0 e0)), (1, 0, .tail off .u8 l e1)]⟩⟩
theorem SaW8 : SaEA (codeAt [1, 1, 1, 1, 1, 0, 1, 0, 0] BSa) [2, 7, 8, 9, 10, 11] [1, 1] none [] (SaS11 off gn gc e0 l e1 n mm i w) =
  some (.fin .normal ⟨(frameL 154 [(2, (.slice (some ⟨1, off, none⟩) gn gc)), (7, (.int .i64 n)), (8, (.int .i64 ((mm : Nat) : Int))), (9, (.pointer (some ⟨2, 0, none⟩))), (10, (.slice (some ⟨3, 0, none⟩) (i + 1) (i + 1))), (11, (.int .i64 (IntKind.wrap .i64 (((i : Nat) : Int) + 1))))]), ⟨4, 1, [(3, 0, .ints .u64 (List.take i w ++ [(((i : Nat) : Int) + 2)]) 22 true), (2, 0, .mach (.arena (fieldS n mm))), (0, 0, .cells [(.int .i64 1), (.int .i64 64), (.int .i64 1), (.int .i64 64)] e0 false), (1, 0, .tail off .u8 l e1)]⟩⟩) := by kernel_rfl
noncomputable def SaS12 : KSt := ⟨(frameL 154 [(2, (.slice (some ⟨1, off, none⟩) gn gc)), (7, (.int .i64 n)), (8, (.int .i64 ((mm : Nat) : Int))), (9, (.pointer (some ⟨2, 0, none⟩))), (10, (.slice (some ⟨3, 0, none⟩) (i + 1) (i + 1))), (11, (.int .i64 (((i : Nat) : Int) + 1)))]), ⟨4, 1, [(3, 0, .ints .u64 (List.take i w ++ [(((i : Nat) : Int) + 2)]) 22 true), (2, 0, .mach (.arena (fieldS n mm))), (0, 0, (SaO0 e0)), (1, 0, .tail off .u8 l e1)]⟩⟩
noncomputable def SaS13 : KSt := ⟨(frameL 154 [(2, (.slice (some ⟨1, off, none⟩) gn gc)), (7, (.int .i64 n)), (8, (.int .i64 ((mm : Nat) : Int))), (9, (.pointer (some ⟨2, 0, none⟩))), (10, (.slice (some ⟨3, 0, none⟩) i i))]), ⟨4, 1, [(3, 0, .ints .u64 w 22 true), (2, 0, .mach (.arena (fieldS n mm))), (0, 0, (SaO0 e0)), (1, 0, .tail off .u8 l e1)]⟩⟩
theorem SaW9 : SaEA (codeAt [1, 1, 1, 1, 1, 0, 1, 0, 0] BSa) [2, 7, 8, 9, 10] [] none [false] (SaS5 off gn gc e0 l e1 n mm i w) =
  bif (decide (((i : Nat) : Int) < ((mm : Nat) : Int))) then
    none
  else
    some (.fin (.exit 0) (SaS13 off gn gc e0 l e1 n mm i w)) := by kernel_rfl
noncomputable def SaS14 : KSt := ⟨(frameL 154 [(2, (.slice (some ⟨1, off, none⟩) gn gc)), (7, (.int .i64 n)), (8, (.int .i64 ((mm : Nat) : Int))), (9, (.pointer (some ⟨2, 0, none⟩))), (10, (.slice (some ⟨3, 0, none⟩) mm mm))]), ⟨4, 1, [(3, 0, .ints .u64 w 22 true), (2, 0, .mach (.arena (fieldS n mm))), (0, 0, (SaO0 e0)), (1, 0, .tail off .u8 l e1)]⟩⟩
theorem SaW10 : SaEA (codeAt [1, 1, 1, 1, 1, 1] BSa) [2, 7, 8, 9, 10, 12] [] (some [1]) [] (SaS14 off gn gc e0 l e1 n mm w) =
  if 0 ≤ (IntKind.wrap .i64 (((mm : Nat) : Int) + 40)) ∧ (IntKind.wrap .i64 (((mm : Nat) : Int) + 40)) ≤ (IntKind.wrap .i64 (((mm : Nat) : Int) + 40)) ∧ ((1 : Int) * (IntKind.wrap .i64 (((mm : Nat) : Int) + 40))) ≤ 1099511627776 ∧ (IntKind.wrap .i64 (((mm : Nat) : Int) + 40)) ≤ 1099511627776 then
    some (.stop ⟨(frameL 154 [(2, (.slice (some ⟨1, off, none⟩) gn gc)), (7, (.int .i64 n)), (8, (.int .i64 ((mm : Nat) : Int))), (9, (.pointer (some ⟨2, 0, none⟩))), (10, (.slice (some ⟨3, 0, none⟩) mm mm)), (12, (.slice (some ⟨4, 0, none⟩) (Int.toNat (IntKind.wrap .i64 (((mm : Nat) : Int) + 40))) (Int.toNat (IntKind.wrap .i64 (((mm : Nat) : Int) + 40)))))]), ⟨5, 1, [(4, 0, .bools (List.replicate (Int.toNat (IntKind.wrap .i64 (((mm : Nat) : Int) + 40))) false) 4 true), (3, 0, .ints .u64 w 22 true), (2, 0, .mach (.arena (fieldS n mm))), (0, 0, .cells [(.int .i64 1), (.int .i64 64), (.int .i64 1), (.int .i64 64)] e0 false), (1, 0, .tail off .u8 l e1)]⟩⟩)
  else
    none := by kernel_rfl
noncomputable def SaS15 : KSt := ⟨(frameL 154 [(2, (.slice (some ⟨1, off, none⟩) gn gc)), (7, (.int .i64 n)), (8, (.int .i64 ((mm : Nat) : Int))), (9, (.pointer (some ⟨2, 0, none⟩))), (10, (.slice (some ⟨3, 0, none⟩) mm mm)), (12, (.slice (some ⟨4, 0, none⟩) (mm + 40) (mm + 40)))]), ⟨5, 1, [(4, 0, .bools (List.replicate (mm + 40) false) 4 true), (3, 0, .ints .u64 w 22 true), (2, 0, .mach (.arena (fieldS n mm))), (0, 0, (SaO0 e0)), (1, 0, .tail off .u8 l e1)]⟩⟩
noncomputable def SaS16 : KSt := ⟨(frameL 154 [(2, (.slice (some ⟨1, off, none⟩) gn gc)), (7, (.int .i64 n)), (8, (.int .i64 ((mm : Nat) : Int))), (9, (.pointer (some ⟨2, 0, none⟩))), (10, (.slice (some ⟨3, 0, none⟩) mm mm)), (12, (.slice (some ⟨4, 0, none⟩) (mm + 40) (mm + 40))), (13, (.int .i64 0))]), ⟨5, 1, [(4, 0, .bools (List.replicate (mm + 40) false) 4 true), (3, 0, .ints .u64 w 22 true), (2, 0, .mach (.arena (fieldS n mm))), (0, 0, (SaO0 e0)), (1, 0, .tail off .u8 l e1)]⟩⟩
theorem SaW11 : SaEA (codeAt [1, 1, 1, 1, 1, 1] BSa) [2, 7, 8, 9, 10, 12, 13] [1] (some [1, 0, 1]) [] (SaS15 off gn gc e0 l e1 n mm w) =
  some (.stop (SaS16 off gn gc e0 l e1 n mm w)) := by kernel_rfl
noncomputable def SaS17 : KSt := ⟨(frameL 154 [(2, (.slice (some ⟨1, off, none⟩) gn gc)), (7, (.int .i64 n)), (8, (.int .i64 ((mm : Nat) : Int))), (9, (.pointer (some ⟨2, 0, none⟩))), (10, (.slice (some ⟨3, 0, none⟩) mm mm)), (12, (.slice (some ⟨4, 0, none⟩) (mm + 40) (mm + 40))), (13, (.int .i64 ((i : Nat) : Int)))]), ⟨5, 1, [(4, 0, .bools q 4 true), (3, 0, .ints .u64 w 22 true), (2, 0, .mach (.arena S)), (0, 0, (SaO0 e0)), (1, 0, .tail off .u8 l e1)]⟩⟩
noncomputable def SaS18 : KSt := ⟨(frameL 154 [(2, (.slice (some ⟨1, off, none⟩) gn gc)), (7, (.int .i64 n)), (8, (.int .i64 ((mm : Nat) : Int))), (9, (.pointer (some ⟨2, 0, none⟩))), (10, (.slice (some ⟨3, 0, none⟩) mm mm)), (12, (.slice (some ⟨4, 0, none⟩) (mm + 40) (mm + 40))), (13, (.int .i64 ((i : Nat) : Int))), (61, (.bool (decide (((i : Nat) : Int) < n))))]), ⟨5, 1, [(4, 0, .bools q 4 true), (3, 0, .ints .u64 w 22 true), (2, 0, .mach (.arena S)), (0, 0, (SaO0 e0)), (1, 0, .tail off .u8 l e1)]⟩⟩
noncomputable def SaS19 : KSt := ⟨(frameL 154 [(2, (.slice (some ⟨1, off, none⟩) gn gc)), (7, (.int .i64 n)), (8, (.int .i64 ((mm : Nat) : Int))), (9, (.pointer (some ⟨2, 0, none⟩))), (10, (.slice (some ⟨3, 0, none⟩) mm mm)), (12, (.slice (some ⟨4, 0, none⟩) (mm + 40) (mm + 40))), (13, (.int .i64 ((i : Nat) : Int))), (61, (.bool false))]), ⟨5, 1, [(4, 0, .bools q 4 true), (3, 0, .ints .u64 w 22 true), (2, 0, .mach (.arena S)), (0, 0, (SaO0 e0)), (1, 0, .tail off .u8 l e1)]⟩⟩
theorem SaW12 : SaEA (codeAt [1, 1, 1, 1, 1, 1, 1, 0, 1, 0, 0] BSa) [2, 7, 8, 9, 10, 12, 13, 61] [] (some [0, 1]) [] (SaS17 off gn gc e0 l e1 n mm i w q S) =
  bif (decide (((i : Nat) : Int) < ((gn : Nat) : Int))) then
    some (.stop (SaS18 off gn gc e0 l e1 n mm i w q S))
  else
    some (.stop (SaS19 off gn gc e0 l e1 n mm i w q S)) := by kernel_rfl
theorem SaW13 : SaEA (codeAt [1, 1, 1, 1, 1, 1, 1, 0, 1, 0, 0] BSa) [2, 7, 8, 9, 10, 12, 13, 14] [0, 1] (some [1, 0, 0, 1]) [true, false] (SaS18 off gn gc e0 l e1 n mm i w q S) =
  bif (decide (((i : Nat) : Int) < n)) then
    if 0 ≤ ((i : Nat) : Int) ∧ ((i : Nat) : Int) < ((gn : Nat) : Int) then
      bif (Nat.ble off (off + ((Int.toNat ((i : Nat) : Int)) * 1))) then
        obind (l[((off + ((Int.toNat ((i : Nat) : Int)) * 1)) - off)]?) fun zn1 =>
          bif (decide ((IntKind.wrap .i64 (((mm : Nat) : Int) + 3)) = 0)) then
            none
          else
            some (.stop ⟨(frameL 154 [(2, (.slice (some ⟨1, off, none⟩) gn gc)), (7, (.int .i64 n)), (8, (.int .i64 ((mm : Nat) : Int))), (9, (.pointer (some ⟨2, 0, none⟩))), (10, (.slice (some ⟨3, 0, none⟩) mm mm)), (12, (.slice (some ⟨4, 0, none⟩) (mm + 40) (mm + 40))), (13, (.int .i64 ((i : Nat) : Int))), (14, (.int .i64 (Int.tmod (IntKind.wrap .i64 zn1) (IntKind.wrap .i64 (((mm : Nat) : Int) + 3)))))]), ⟨5, 1, [(4, 0, .bools q 4 true), (3, 0, .ints .u64 w 22 true), (2, 0, .mach (.arena S)), (0, 0, .cells [(.int .i64 1), (.int .i64 64), (.int .i64 1), (.int .i64 64)] e0 false), (1, 0, .tail off .u8 l e1)]⟩⟩)
      else
        none
    else
      none
  else
    none := by kernel_rfl
noncomputable def SaS20 : KSt := ⟨(frameL 154 [(2, (.slice (some ⟨1, off, none⟩) gn gc)), (7, (.int .i64 n)), (8, (.int .i64 ((mm : Nat) : Int))), (9, (.pointer (some ⟨2, 0, none⟩))), (10, (.slice (some ⟨3, 0, none⟩) mm mm)), (12, (.slice (some ⟨4, 0, none⟩) (mm + 40) (mm + 40))), (13, (.int .i64 ((i : Nat) : Int))), (14, (.int .i64 ((b : Nat) : Int)))]), ⟨5, 1, [(4, 0, .bools q 4 true), (3, 0, .ints .u64 w 22 true), (2, 0, .mach (.arena S)), (0, 0, (SaO0 e0)), (1, 0, .tail off .u8 l e1)]⟩⟩
noncomputable def SaS21 : KSt := ⟨(frameL 154 [(2, (.slice (some ⟨1, off, none⟩) gn gc)), (7, (.int .i64 n)), (8, (.int .i64 ((mm : Nat) : Int))), (9, (.pointer (some ⟨2, 0, none⟩))), (10, (.slice (some ⟨3, 0, none⟩) mm mm)), (12, (.slice (some ⟨4, 0, none⟩) (mm + 40) (mm + 40))), (13, (.int .i64 ((i : Nat) : Int))), (14, (.int .i64 ((b : Nat) : Int)))]), ⟨5, 1, [(4, 0, .bools q 4 true), (3, 0, .ints .u64 w 22 true), (2, 0, .mach (.arena (actS S 2 1 (-1) 0 (IntKind.wrap .u64 ((b : Nat) : Int))))), (0, 0, (SaO0 e0)), (1, 0, .tail off .u8 l e1)]⟩⟩
theorem SaW14 : SaEA (codeAt [1, 1, 1, 1, 1, 1, 1, 0, 1, 0, 0] BSa) [2, 7, 8, 9, 10, 12, 13, 14] [1, 0, 0, 1] (some [1, 0, 0, 1, 1]) [] (SaS20 off gn gc e0 l e1 n mm i w q S b) =
  bif (decide (((i : Nat) : Int) < 0)) then
    bif (actP 2 1 (-1) 0 (IntKind.wrap .u64 ((b : Nat) : Int))) then
      some (.stop (SaS21 off gn gc e0 l e1 n mm i w q S b))
    else
      none
  else
    bif (decide (((i : Nat) : Int) ≥ 64)) then
      bif (actP 2 1 (-1) 0 (IntKind.wrap .u64 ((b : Nat) : Int))) then
        some (.stop (SaS21 off gn gc e0 l e1 n mm i w q S b))
      else
        none
    else
      bif (actP 2 1 (IntKind.wrap .i64 ((IntKind.wrap .i64 (2 + (IntKind.wrap .i64 (2 * ((i : Nat) : Int))))) + 1)) 0 (IntKind.wrap .u64 ((b : Nat) : Int))) then
        some (.stop ⟨(frameL 154 [(2, (.slice (some ⟨1, off, none⟩) gn gc)), (7, (.int .i64 n)), (8, (.int .i64 ((mm : Nat) : Int))), (9, (.pointer (some ⟨2, 0, none⟩))), (10, (.slice (some ⟨3, 0, none⟩) mm mm)), (12, (.slice (some ⟨4, 0, none⟩) (mm + 40) (mm + 40))), (13, (.int .i64 ((i : Nat) : Int))), (14, (.int .i64 ((b : Nat) : Int)))]), ⟨5, 1, [(4, 0, .bools q 4 true), (3, 0, .ints .u64 w 22 true), (2, 0, .mach (.arena (actS S 2 1 (IntKind.wrap .i64 ((IntKind.wrap .i64 (2 + (IntKind.wrap .i64 (2 * ((i : Nat) : Int))))) + 1)) 0 (IntKind.wrap .u64 ((b : Nat) : Int))))), (0, 0, .cells [(.int .i64 1), (.int .i64 64), (.int .i64 1), (.int .i64 64)] e0 false), (1, 0, .tail off .u8 l e1)]⟩⟩)
      else
        none := by kernel_rfl
noncomputable def SaS22 : KSt := ⟨(frameL 154 [(2, (.slice (some ⟨1, off, none⟩) gn gc)), (7, (.int .i64 n)), (8, (.int .i64 ((mm : Nat) : Int))), (9, (.pointer (some ⟨2, 0, none⟩))), (10, (.slice (some ⟨3, 0, none⟩) mm mm)), (12, (.slice (some ⟨4, 0, none⟩) (mm + 40) (mm + 40))), (13, (.int .i64 ((i : Nat) : Int))), (14, (.int .i64 ((b : Nat) : Int)))]), ⟨5, 1, [(4, 0, .bools q 4 true), (3, 0, .ints .u64 w 22 true), (2, 0, .mach (.arena (actS S 2 1 (3 + (2 * ((i : Nat) : Int))) 0 ((b : Nat) : Int)))), (0, 0, (SaO0 e0)), (1, 0, .tail off .u8 l e1)]⟩⟩
theorem SaW15 : SaEA (codeAt [1, 1, 1, 1, 1, 1, 1, 0, 1, 0, 0] BSa) [2, 7, 8, 9, 10, 12, 13] [1, 0, 0, 1, 1] (some [1, 1]) [] (SaS22 off gn gc e0 l e1 n mm i w q S b) =
  if 0 ≤ ((b : Nat) : Int) ∧ ((b : Nat) : Int) < (((mm + 40) : Nat) : Int) then
    bif (Nat.ble ((0 + ((Int.toNat ((b : Nat) : Int)) * 1)) + 1) (List.length q)) then
      some (.stop ⟨(frameL 154 [(2, (.slice (some ⟨1, off, none⟩) gn gc)), (7, (.int .i64 n)), (8, (.int .i64 ((mm : Nat) : Int))), (9, (.pointer (some ⟨2, 0, none⟩))), (10, (.slice (some ⟨3, 0, none⟩) mm mm)), (12, (.slice (some ⟨4, 0, none⟩) (mm + 40) (mm + 40))), (13, (.int .i64 ((i : Nat) : Int)))]), ⟨5, 1, [(4, 0, .bools (List.set q (0 + ((Int.toNat ((b : Nat) : Int)) * 1)) true) 4 true), (3, 0, .ints .u64 w 22 true), (2, 0, .mach (.arena (actS S 2 1 (3 + (2 * ((i : Nat) : Int))) 0 ((b : Nat) : Int)))), (0, 0, .cells [(.int .i64 1), (.int .i64 64), (.int .i64 1), (.int .i64 64)] e0 false), (1, 0, .tail off .u8 l e1)]⟩⟩)
    else
      none
  else
    none := by kernel_rfl
noncomputable def SaS23 : KSt := ⟨(frameL 154 [(2, (.slice (some ⟨1, off, none⟩) gn gc)), (7, (.int .i64 n)), (8, (.int .i64 ((mm : Nat) : Int))), (9, (.pointer (some ⟨2, 0, none⟩))), (10, (.slice (some ⟨3, 0, none⟩) mm mm)), (12, (.slice (some ⟨4, 0, none⟩) (mm + 40) (mm + 40))), (13, (.int .i64 ((i : Nat) : Int)))]), ⟨5, 1, [(4, 0, .bools (List.set q b true) 4 true), (3, 0, .ints .u64 w 22 true), (2, 0, .mach (.arena (actS S 2 1 (3 + (2 * ((i : Nat) : Int))) 0 ((b : Nat) : Int)))), (0, 0, (SaO0 e0)), (1, 0, .tail off .u8 l e1)]⟩⟩
theorem SaW16 : SaEA (codeAt [1, 1, 1, 1, 1, 1, 1, 0, 1, 0, 0] BSa) [2, 7, 8, 9, 10, 12, 13] [1, 1] none [] (SaS23 off gn gc e0 l e1 n mm i w q S b) =
  some (.fin .normal ⟨(frameL 154 [(2, (.slice (some ⟨1, off, none⟩) gn gc)), (7, (.int .i64 n)), (8, (.int .i64 ((mm : Nat) : Int))), (9, (.pointer (some ⟨2, 0, none⟩))), (10, (.slice (some ⟨3, 0, none⟩) mm mm)), (12, (.slice (some ⟨4, 0, none⟩) (mm + 40) (mm + 40))), (13, (.int .i64 (IntKind.wrap .i64 (((i : Nat) : Int) + 1))))]), ⟨5, 1, [(4, 0, .bools (List.set q b true) 4 true), (3, 0, .ints .u64 w 22 true), (2, 0, .mach (.arena (actS S 2 1 (3 + (2 * ((i : Nat) : Int))) 0 ((b : Nat) : Int)))), (0, 0, .cells [(.int .i64 1), (.int .i64 64), (.int .i64 1), (.int .i64 64)] e0 false), (1, 0, .tail off .u8 l e1)]⟩⟩) := by kernel_rfl
noncomputable def SaS24 : KSt := ⟨(frameL 154 [(2, (.slice (some ⟨1, off, none⟩) gn gc)), (7, (.int .i64 n)), (8, (.int .i64 ((mm : Nat) : Int))), (9, (.pointer (some ⟨2, 0, none⟩))), (10, (.slice (some ⟨3, 0, none⟩) mm mm)), (12, (.slice (some ⟨4, 0, none⟩) (mm + 40) (mm + 40))), (13, (.int .i64 (((i : Nat) : Int) + 1)))]), ⟨5, 1, [(4, 0, .bools (List.set q b true) 4 true), (3, 0, .ints .u64 w 22 true), (2, 0, .mach (.arena (actS S 2 1 (3 + (2 * ((i : Nat) : Int))) 0 ((b : Nat) : Int)))), (0, 0, (SaO0 e0)), (1, 0, .tail off .u8 l e1)]⟩⟩
noncomputable def SaS25 : KSt := ⟨(frameL 154 [(7, (.int .i64 n)), (8, (.int .i64 ((mm : Nat) : Int))), (9, (.pointer (some ⟨2, 0, none⟩))), (10, (.slice (some ⟨3, 0, none⟩) mm mm)), (12, (.slice (some ⟨4, 0, none⟩) (mm + 40) (mm + 40)))]), ⟨5, 1, [(4, 0, .bools q 4 true), (3, 0, .ints .u64 w 22 true), (2, 0, .mach (.arena S)), (0, 0, (SaO0 e0)), (1, 0, .tail off .u8 l e1)]⟩⟩
theorem SaW17 : SaEA (codeAt [1, 1, 1, 1, 1, 1, 1, 0, 1, 0, 0] BSa) [7, 8, 9, 10, 12] [0, 1] none [false] (SaS19 off gn gc e0 l e1 n mm i w q S) =
  some (.fin (.exit 2) (SaS25 off e0 l e1 n mm w q S)) := by kernel_rfl
theorem SaW18 : SaEA (codeAt [1, 1, 1, 1, 1, 1, 1, 0, 1, 0, 0] BSa) [7, 8, 9, 10, 12] [0, 1] none [false] (SaS18 off gn gc e0 l e1 n mm i w q S) =
  bif (decide (((i : Nat) : Int) < n)) then
    none
  else
    some (.fin (.exit 2) (SaS25 off e0 l e1 n mm w q S)) := by kernel_rfl
theorem SaW19 : SaEA (codeAt [1, 1, 1, 1, 1, 1, 1, 1] BSa) [8, 9, 10, 12, 15] [] (some [1]) [] (SaS25 off e0 l e1 n mm w q S) =
  some (.stop ⟨(frameL 154 [(8, (.int .i64 ((mm : Nat) : Int))), (9, (.pointer (some ⟨2, 0, none⟩))), (10, (.slice (some ⟨3, 0, none⟩) mm mm)), (12, (.slice (some ⟨4, 0, none⟩) (mm + 40) (mm + 40))), (15, (.pointer (some ⟨5, 0, none⟩)))]), ⟨6, 1, [(5, 0, .cells [(.int .u64 1), (.int .i64 (IntKind.wrap .i64 (n - 1))), (.int .i64 n), (.int .i64 1), (.int .u64 0)] 24 true), (4, 0, .bools q 4 true), (3, 0, .ints .u64 w 22 true), (2, 0, .mach (.arena S)), (0, 0, .cells [(.int .i64 1), (.int .i64 64), (.int .i64 1), (.int .i64 64)] e0 false), (1, 0, .tail off .u8 l e1)]⟩⟩) := by kernel_rfl
noncomputable def SaS26 : KSt := ⟨(frameL 154 [(8, (.int .i64 ((mm : Nat) : Int))), (9, (.pointer (some ⟨2, 0, none⟩))), (10, (.slice (some ⟨3, 0, none⟩) mm mm)), (12, (.slice (some ⟨4, 0, none⟩) (mm + 40) (mm + 40))), (15, (.pointer (some ⟨5, 0, none⟩)))]), ⟨6, 1, [(5, 0, .cells [(.int .u64 1), (.int .i64 (n - 1)), (.int .i64 n), (.int .i64 1), (.int .u64 0)] 24 true), (4, 0, .bools q 4 true), (3, 0, .ints .u64 w 22 true), (2, 0, .mach (.arena S)), (0, 0, (SaO0 e0)), (1, 0, .tail off .u8 l e1)]⟩⟩
theorem SaW20 : SaEA (codeAt [1, 1, 1, 1, 1, 1, 1, 1] BSa) [8, 9, 12, 16] [1] (some [1, 1]) [] (SaS26 off e0 l e1 n mm w q S) =
  bif (Nat.ble (0 + mm) (List.length w)) then
    bif ((siteP 1 (n - 1) n 1) && (Nat.ble (List.length (List.take mm (List.drop 0 w))) 900)) then
      some (.stop ⟨(frameL 154 [(8, (.int .i64 ((mm : Nat) : Int))), (9, (.pointer (some ⟨2, 0, none⟩))), (12, (.slice (some ⟨3, 0, none⟩) (mm + 40) (mm + 40))), (16, (.pointer (some ⟨4, 0, none⟩)))]), ⟨5, 1, [(4, 0, .mach (.retire (rtLook (SiteSt.mk 1 (n - 1) n 1 0) (List.take mm (List.drop 0 w))))), (3, 0, .bools q 4 true), (2, 0, .mach (.arena S)), (0, 0, .cells [(.int .i64 1), (.int .i64 64), (.int .i64 1), (.int .i64 64)] e0 false), (1, 0, .tail off .u8 l e1)]⟩⟩)
    else
      none
  else
    none := by kernel_rfl
noncomputable def SaS27 : KSt := ⟨(frameL 154 [(8, (.int .i64 ((mm : Nat) : Int))), (9, (.pointer (some ⟨2, 0, none⟩))), (12, (.slice (some ⟨3, 0, none⟩) (mm + 40) (mm + 40))), (16, (.pointer (some ⟨4, 0, none⟩)))]), ⟨5, 1, [(4, 0, .mach (.retire (rtLook (SiteSt.mk 1 (n - 1) n 1 0) w))), (3, 0, .bools q 4 true), (2, 0, .mach (.arena S)), (0, 0, (SaO0 e0)), (1, 0, .tail off .u8 l e1)]⟩⟩
theorem SaW21 : SaEA (codeAt [1, 1, 1, 1, 1, 1, 1, 1] BSa) [8, 9, 12, 16, 18] [1, 1] (some [1, 1, 1]) [] (SaS27 off e0 l e1 n mm w q S) =
  bif ((alOk (Int.toNat 100000) S (rtLook (SiteSt.mk 1 (n - 1) n 1 0) w)) && (decide (100000 < 4611686018427387904))) then
    some (.stop ⟨(frameL 154 [(8, (.int .i64 ((mm : Nat) : Int))), (9, (.pointer (some ⟨2, 0, none⟩))), (12, (.slice (some ⟨3, 0, none⟩) (mm + 40) (mm + 40))), (16, (.pointer (some ⟨4, 0, none⟩))), (18, (.bool (!(rtMore (Prod.snd (Prod.snd (alN (Int.toNat 100000) S (rtLook (SiteSt.mk 1 (n - 1) n 1 0) w))))))))]), ⟨5, 1, [(4, 0, .mach (.retire (Prod.snd (Prod.snd (alN (Int.toNat 100000) S (rtLook (SiteSt.mk 1 (n - 1) n 1 0) w)))))), (3, 0, .bools q 4 true), (2, 0, .mach (.arena (Prod.fst (Prod.snd (alN (Int.toNat 100000) S (rtLook (SiteSt.mk 1 (n - 1) n 1 0) w)))))), (0, 0, .cells [(.int .i64 1), (.int .i64 64), (.int .i64 1), (.int .i64 64)] e0 false), (1, 0, .tail off .u8 l e1)]⟩⟩)
  else
    none := by kernel_rfl
noncomputable def SaS28 : KSt := ⟨(frameL 154 [(8, (.int .i64 ((mm : Nat) : Int))), (9, (.pointer (some ⟨2, 0, none⟩))), (12, (.slice (some ⟨3, 0, none⟩) (mm + 40) (mm + 40))), (16, (.pointer (some ⟨4, 0, none⟩))), (18, (.bool (!(rtMore x2))))]), ⟨5, 1, [(4, 0, .mach (.retire x2)), (3, 0, .bools q 4 true), (2, 0, .mach (.arena S2)), (0, 0, (SaO0 e0)), (1, 0, .tail off .u8 l e1)]⟩⟩
theorem SaW22 : SaEA (codeAt [1, 1, 1, 1, 1, 1, 1, 1, 1, 1, 1] BSa) [8, 9, 12, 18, 19, 20] [] (some [1]) [] (SaS28 off e0 l e1 mm q x2 S2) =
  bif ((rtOk x2) && ((rtFin x2) && (Nat.ble 1 (List.length (rtRest x2))))) then
    some (.stop ⟨(frameL 154 [(8, (.int .i64 ((mm : Nat) : Int))), (9, (.pointer (some ⟨2, 0, none⟩))), (12, (.slice (some ⟨3, 0, none⟩) (mm + 40) (mm + 40))), (18, (.bool (!(rtMore x2)))), (19, (.slice (some ⟨4, 0, none⟩) (List.length (rtRest x2)) (List.length (rtRest x2)))), (20, (.bool true))]), ⟨5, 1, [(4, 0, .ints .u64 (rtRest x2) 22 true), (3, 0, .bools q 4 true), (2, 0, .mach (.arena S2)), (0, 0, .cells [(.int .i64 1), (.int .i64 64), (.int .i64 1), (.int .i64 64)] e0 false), (1, 0, .tail off .u8 l e1)]⟩⟩)
  else
    none := by kernel_rfl
noncomputable def SaS29 : KSt := ⟨(frameL 154 [(8, (.int .i64 ((mm : Nat) : Int))), (9, (.pointer (some ⟨2, 0, none⟩))), (12, (.slice (some ⟨3, 0, none⟩) (mm + 40) (mm + 40))), (18, (.bool (!(rtMore x2)))), (19, (.slice (some ⟨4, 0, none⟩) k k)), (20, (.bool true))]), ⟨5, 1, [(4, 0, .ints .u64 R 22 true), (3, 0, .bools q 4 true), (2, 0, .mach (.arena S2)), (0, 0, (SaO0 e0)), (1, 0, .tail off .u8 l e1)]⟩⟩
noncomputable def SaS31 : KSt := ⟨(frameL 154 [(8, (.int .i64 ((mm : Nat) : Int))), (9, (.pointer (some ⟨2, 0, none⟩))), (12, (.slice (some ⟨3, 0, none⟩) (mm + 40) (mm + 40))), (19, (.slice (some ⟨4, 0, none⟩) k k)), (111, (.bool (S2.faults != 0)))]), ⟨5, 1, [(4, 0, .ints .u64 R 22 true), (3, 0, .bools q 4 true), (2, 0, .mach (.arena S2)), (0, 0, (SaO0 e0)), (1, 0, .tail off .u8 l e1)]⟩⟩
theorem SaW23 : SaEA (codeAt [1, 1, 1, 1, 1, 1, 1, 1, 1, 1, 1] BSa) [8, 9, 12, 19, 111] [1] (some [1, 0, 1]) [] (SaS29 off e0 l e1 mm q x2 S2 k R) =
  bif (!(!(rtMore x2))) then
    some (.stop ⟨(frameL 154 [(8, (.int .i64 ((mm : Nat) : Int))), (9, (.pointer (some ⟨2, 0, none⟩))), (12, (.slice (some ⟨3, 0, none⟩) (mm + 40) (mm + 40))), (19, (.slice (some ⟨4, 0, none⟩) k k)), (111, (.bool true))]), ⟨5, 1, [(4, 0, .ints .u64 R 22 true), (3, 0, .bools q 4 true), (2, 0, .mach (.arena S2)), (0, 0, .cells [(.int .i64 1), (.int .i64 64), (.int .i64 1), (.int .i64 64)] e0 false), (1, 0, .tail off .u8 l e1)]⟩⟩)
  else
    some (.stop (SaS31 off e0 l e1 mm q S2 k R)) := by kernel_rfl
noncomputable def SaS32 : KSt := ⟨(frameL 154 [(8, (.int .i64 ((mm : Nat) : Int))), (9, (.pointer (some ⟨2, 0, none⟩))), (12, (.slice (some ⟨3, 0, none⟩) (mm + 40) (mm + 40))), (19, (.slice (some ⟨4, 0, none⟩) k k)), (21, (.int .i64 0)), (22, (.int .i64 0))]), ⟨5, 1, [(4, 0, .ints .u64 R 22 true), (3, 0, .bools q 4 true), (2, 0, .mach (.arena S2)), (0, 0, (SaO0 e0)), (1, 0, .tail off .u8 l e1)]⟩⟩
theorem SaW24 : SaEA (codeAt [1, 1, 1, 1, 1, 1, 1, 1, 1, 1, 1] BSa) [8, 9, 12, 19, 21, 22] [1, 0, 1] (some [1, 1, 1, 0, 1]) [false] (SaS31 off e0 l e1 mm q S2 k R) =
  bif (S2.faults != 0) then
    none
  else
    some (.stop (SaS32 off e0 l e1 mm q S2 k R)) := by kernel_rfl
noncomputable def SaS33 : KSt := ⟨(frameL 154 [(8, (.int .i64 ((mm : Nat) : Int))), (9, (.pointer (some ⟨2, 0, none⟩))), (12, (.slice (some ⟨3, 0, none⟩) (mm + 40) (mm + 40))), (19, (.slice (some ⟨4, 0, none⟩) k k)), (21, (.int .i64 ((at_ : Nat) : Int))), (22, (.int .i64 ((i : Nat) : Int)))]), ⟨5, 1, [(4, 0, .ints .u64 R 22 true), (3, 0, .bools q 4 true), (2, 0, .mach (.arena S2)), (0, 0, (SaO0 e0)), (1, 0, .tail off .u8 l e1)]⟩⟩
theorem SaW25 : SaEA (codeAt [1, 1, 1, 1, 1, 1, 1, 1, 1, 1, 1, 1, 1, 1, 0, 1, 0, 0] BSa) [8, 9, 12, 19, 21, 22, 23] [] (some [1, 0, 0, 1]) [true, false] (SaS33 off e0 l e1 mm i q S2 k R at_) =
  bif (decide (((i : Nat) : Int) < ((mm : Nat) : Int))) then
    some (.stop ⟨(frameL 154 [(8, (.int .i64 ((mm : Nat) : Int))), (9, (.pointer (some ⟨2, 0, none⟩))), (12, (.slice (some ⟨3, 0, none⟩) (mm + 40) (mm + 40))), (19, (.slice (some ⟨4, 0, none⟩) k k)), (21, (.int .i64 ((at_ : Nat) : Int))), (22, (.int .i64 ((i : Nat) : Int))), (23, (.bool ((ArSt.size S2 (IntKind.wrap .u64 ((IntKind.wrap .u64 ((i : Nat) : Int)) + 2))) == 1)))]), ⟨5, 1, [(4, 0, .ints .u64 R 22 true), (3, 0, .bools q 4 true), (2, 0, .mach (.arena S2)), (0, 0, .cells [(.int .i64 1), (.int .i64 64), (.int .i64 1), (.int .i64 64)] e0 false), (1, 0, .tail off .u8 l e1)]⟩⟩)
  else
    none := by kernel_rfl
noncomputable def SaS34 : KSt := ⟨(frameL 154 [(8, (.int .i64 ((mm : Nat) : Int))), (9, (.pointer (some ⟨2, 0, none⟩))), (12, (.slice (some ⟨3, 0, none⟩) (mm + 40) (mm + 40))), (19, (.slice (some ⟨4, 0, none⟩) k k)), (21, (.int .i64 ((at_ : Nat) : Int))), (22, (.int .i64 ((i : Nat) : Int))), (23, (.bool ((ArSt.size S2 (((i : Nat) : Int) + 2)) == 1)))]), ⟨5, 1, [(4, 0, .ints .u64 R 22 true), (3, 0, .bools q 4 true), (2, 0, .mach (.arena S2)), (0, 0, (SaO0 e0)), (1, 0, .tail off .u8 l e1)]⟩⟩
theorem SaW26 : SaEA (codeAt [1, 1, 1, 1, 1, 1, 1, 1, 1, 1, 1, 1, 1, 1, 0, 1, 0, 0] BSa) [8, 9, 12, 19, 21, 22, 23, 129] [1, 0, 0, 1] (some [1, 0, 0, 1, 0, 1]) [] (SaS34 off e0 l e1 mm i q S2 k R at_) =
  if 0 ≤ (IntKind.wrap .i64 (((i : Nat) : Int) + 2)) ∧ (IntKind.wrap .i64 (((i : Nat) : Int) + 2)) < (((mm + 40) : Nat) : Int) then
    obind (q[(0 + ((Int.toNat (IntKind.wrap .i64 (((i : Nat) : Int) + 2))) * 1))]?) fun zc1 =>
      some (.stop ⟨(frameL 154 [(8, (.int .i64 ((mm : Nat) : Int))), (9, (.pointer (some ⟨2, 0, none⟩))), (12, (.slice (some ⟨3, 0, none⟩) (mm + 40) (mm + 40))), (19, (.slice (some ⟨4, 0, none⟩) k k)), (21, (.int .i64 ((at_ : Nat) : Int))), (22, (.int .i64 ((i : Nat) : Int))), (23, (.bool ((ArSt.size S2 (((i : Nat) : Int) + 2)) == 1))), (129, (.bool (!(((ArSt.size S2 (((i : Nat) : Int) + 2)) == 1) == zc1))))]), ⟨5, 1, [(4, 0, .ints .u64 R 22 true), (3, 0, .bools q 4 true), (2, 0, .mach (.arena S2)), (0, 0, .cells [(.int .i64 1), (.int .i64 64), (.int .i64 1), (.int .i64 64)] e0 false), (1, 0, .tail off .u8 l e1)]⟩⟩)
  else
    none := by kernel_rfl
noncomputable def SaS35 : KSt := ⟨(frameL 154 [(8, (.int .i64 ((mm : Nat) : Int))), (9, (.pointer (some ⟨2, 0, none⟩))), (12, (.slice (some ⟨3, 0, none⟩) (mm + 40) (mm + 40))), (19, (.slice (some ⟨4, 0, none⟩) k k)), (21, (.int .i64 ((at_ : Nat) : Int))), (22, (.int .i64 ((i : Nat) : Int))), (23, (.bool ((ArSt.size S2 (((i : Nat) : Int) + 2)) == 1))), (129, (.bool (!(((ArSt.size S2 (((i : Nat) : Int) + 2)) == 1) == (q.getD (0 + (i + 2)) false)))))]), ⟨5, 1, [(4, 0, .ints .u64 R 22 true), (3, 0, .bools q 4 true), (2, 0, .mach (.arena S2)), (0, 0, (SaO0 e0)), (1, 0, .tail off .u8 l e1)]⟩⟩
theorem SaW27 : SaEA (codeAt [1, 1, 1, 1, 1, 1, 1, 1, 1, 1, 1, 1, 1, 1, 0, 1, 0, 0] BSa) [8, 9, 12, 19, 21, 22, 144] [1, 0, 0, 1, 0, 1] (some [1, 0, 0, 1, 1, 1, 0, 0, 1]) [false, true] (SaS35 off e0 l e1 mm i q S2 k R at_) =
  bif (!(((ArSt.size S2 (((i : Nat) : Int) + 2)) == 1) == (q.getD (0 + (i + 2)) false))) then
    none
  else
    bif ((ArSt.size S2 (((i : Nat) : Int) + 2)) == 1) then
      bif (decide (((at_ : Nat) : Int) ≥ ((k : Nat) : Int))) then
        some (.stop ⟨(frameL 154 [(8, (.int .i64 ((mm : Nat) : Int))), (9, (.pointer (some ⟨2, 0, none⟩))), (12, (.slice (some ⟨3, 0, none⟩) (mm + 40) (mm + 40))), (19, (.slice (some ⟨4, 0, none⟩) k k)), (21, (.int .i64 ((at_ : Nat) : Int))), (22, (.int .i64 ((i : Nat) : Int))), (144, (.bool true))]), ⟨5, 1, [(4, 0, .ints .u64 R 22 true), (3, 0, .bools q 4 true), (2, 0, .mach (.arena S2)), (0, 0, .cells [(.int .i64 1), (.int .i64 64), (.int .i64 1), (.int .i64 64)] e0 false), (1, 0, .tail off .u8 l e1)]⟩⟩)
      else
        if 0 ≤ ((at_ : Nat) : Int) ∧ ((at_ : Nat) : Int) < ((k : Nat) : Int) then
          obind (R[(0 + ((Int.toNat ((at_ : Nat) : Int)) * 1))]?) fun zn1 =>
            some (.stop ⟨(frameL 154 [(8, (.int .i64 ((mm : Nat) : Int))), (9, (.pointer (some ⟨2, 0, none⟩))), (12, (.slice (some ⟨3, 0, none⟩) (mm + 40) (mm + 40))), (19, (.slice (some ⟨4, 0, none⟩) k k)), (21, (.int .i64 ((at_ : Nat) : Int))), (22, (.int .i64 ((i : Nat) : Int))), (144, (.bool (zn1 != (IntKind.wrap .u64 ((IntKind.wrap .u64 ((i : Nat) : Int)) + 2)))))]), ⟨5, 1, [(4, 0, .ints .u64 R 22 true), (3, 0, .bools q 4 true), (2, 0, .mach (.arena S2)), (0, 0, .cells [(.int .i64 1), (.int .i64 64), (.int .i64 1), (.int .i64 64)] e0 false), (1, 0, .tail off .u8 l e1)]⟩⟩)
        else
          none
    else
      none := by kernel_rfl
noncomputable def SaS37 : KSt := ⟨(frameL 154 [(8, (.int .i64 ((mm : Nat) : Int))), (9, (.pointer (some ⟨2, 0, none⟩))), (12, (.slice (some ⟨3, 0, none⟩) (mm + 40) (mm + 40))), (19, (.slice (some ⟨4, 0, none⟩) k k)), (21, (.int .i64 ((at_ : Nat) : Int))), (22, (.int .i64 ((i : Nat) : Int))), (144, (.bool ((R.getD (0 + at_) 0) != (((i : Nat) : Int) + 2))))]), ⟨5, 1, [(4, 0, .ints .u64 R 22 true), (3, 0, .bools q 4 true), (2, 0, .mach (.arena S2)), (0, 0, (SaO0 e0)), (1, 0, .tail off .u8 l e1)]⟩⟩
theorem SaW28 : SaEA (codeAt [1, 1, 1, 1, 1, 1, 1, 1, 1, 1, 1, 1, 1, 1, 0, 1, 0, 0] BSa) [8, 9, 12, 19, 21, 22] [1, 0, 0, 1, 1, 1, 0, 0, 1] (some [1, 1]) [false] (SaS37 off e0 l e1 mm i q S2 k R at_) =
  bif ((R.getD (0 + at_) 0) != (((i : Nat) : Int) + 2)) then
    none
  else
    some (.stop ⟨(frameL 154 [(8, (.int .i64 ((mm : Nat) : Int))), (9, (.pointer (some ⟨2, 0, none⟩))), (12, (.slice (some ⟨3, 0, none⟩) (mm + 40) (mm + 40))), (19, (.slice (some ⟨4, 0, none⟩) k k)), (21, (.int .i64 (IntKind.wrap .i64 (((at_ : Nat) : Int) + 1)))), (22, (.int .i64 ((i : Nat) : Int)))]), ⟨5, 1, [(4, 0, .ints .u64 R 22 true), (3, 0, .bools q 4 true), (2, 0, .mach (.arena S2)), (0, 0, .cells [(.int .i64 1), (.int .i64 64), (.int .i64 1), (.int .i64 64)] e0 false), (1, 0, .tail off .u8 l e1)]⟩⟩) := by kernel_rfl
noncomputable def SaS38 : KSt := ⟨(frameL 154 [(8, (.int .i64 ((mm : Nat) : Int))), (9, (.pointer (some ⟨2, 0, none⟩))), (12, (.slice (some ⟨3, 0, none⟩) (mm + 40) (mm + 40))), (19, (.slice (some ⟨4, 0, none⟩) k k)), (21, (.int .i64 (((at_ : Nat) : Int) + 1))), (22, (.int .i64 ((i : Nat) : Int)))]), ⟨5, 1, [(4, 0, .ints .u64 R 22 true), (3, 0, .bools q 4 true), (2, 0, .mach (.arena S2)), (0, 0, (SaO0 e0)), (1, 0, .tail off .u8 l e1)]⟩⟩
theorem SaW29 : SaEA (codeAt [1, 1, 1, 1, 1, 1, 1, 1, 1, 1, 1, 1, 1, 1, 0, 1, 0, 0] BSa) [8, 9, 12, 19, 21, 22] [1, 1] none [] (SaS38 off e0 l e1 mm i q S2 k R at_) =
  some (.fin .normal ⟨(frameL 154 [(8, (.int .i64 ((mm : Nat) : Int))), (9, (.pointer (some ⟨2, 0, none⟩))), (12, (.slice (some ⟨3, 0, none⟩) (mm + 40) (mm + 40))), (19, (.slice (some ⟨4, 0, none⟩) k k)), (21, (.int .i64 (((at_ : Nat) : Int) + 1))), (22, (.int .i64 (IntKind.wrap .i64 (((i : Nat) : Int) + 1))))]), ⟨5, 1, [(4, 0, .ints .u64 R 22 true), (3, 0, .bools q 4 true), (2, 0, .mach (.arena S2)), (0, 0, .cells [(.int .i64 1), (.int .i64 64), (.int .i64 1), (.int .i64 64)] e0 false), (1, 0, .tail off .u8 l e1)]⟩⟩) := by kernel_rfl
noncomputable def SaS39 : KSt := ⟨(frameL 154 [(8, (.int .i64 ((mm : Nat) : Int))), (9, (.pointer (some ⟨2, 0, none⟩))), (12, (.slice (some ⟨3, 0, none⟩) (mm + 40) (mm + 40))), (19, (.slice (some ⟨4, 0, none⟩) k k)), (21, (.int .i64 (((at_ : Nat) : Int) + 1))), (22, (.int .i64 (((i : Nat) : Int) + 1)))]), ⟨5, 1, [(4, 0, .ints .u64 R 22 true), (3, 0, .bools q 4 true), (2, 0, .mach (.arena S2)), (0, 0, (SaO0 e0)), (1, 0, .tail off .u8 l e1)]⟩⟩
theorem SaW30 : SaEA (codeAt [1, 1, 1, 1, 1, 1, 1, 1, 1, 1, 1, 1, 1, 1, 0, 1, 0, 0] BSa) [8, 9, 12, 19, 21, 22] [1, 0, 0, 1, 0, 1] none [false, false] (SaS35 off e0 l e1 mm i q S2 k R at_) =
  bif (!(((ArSt.size S2 (((i : Nat) : Int) + 2)) == 1) == (q.getD (0 + (i + 2)) false))) then
    none
  else
    bif ((ArSt.size S2 (((i : Nat) : Int) + 2)) == 1) then
      none
    else
      some (.fin .normal ⟨(frameL 154 [(8, (.int .i64 ((mm : Nat) : Int))), (9, (.pointer (some ⟨2, 0, none⟩))), (12, (.slice (some ⟨3, 0, none⟩) (mm + 40) (mm + 40))), (19, (.slice (some ⟨4, 0, none⟩) k k)), (21, (.int .i64 ((at_ : Nat) : Int))), (22, (.int .i64 (IntKind.wrap .i64 (((i : Nat) : Int) + 1))))]), ⟨5, 1, [(4, 0, .ints .u64 R 22 true), (3, 0, .bools q 4 true), (2, 0, .mach (.arena S2)), (0, 0, .cells [(.int .i64 1), (.int .i64 64), (.int .i64 1), (.int .i64 64)] e0 false), (1, 0, .tail off .u8 l e1)]⟩⟩) := by kernel_rfl
noncomputable def SaS40 : KSt := ⟨(frameL 154 [(8, (.int .i64 ((mm : Nat) : Int))), (9, (.pointer (some ⟨2, 0, none⟩))), (12, (.slice (some ⟨3, 0, none⟩) (mm + 40) (mm + 40))), (19, (.slice (some ⟨4, 0, none⟩) k k)), (21, (.int .i64 ((at_ : Nat) : Int))), (22, (.int .i64 (((i : Nat) : Int) + 1)))]), ⟨5, 1, [(4, 0, .ints .u64 R 22 true), (3, 0, .bools q 4 true), (2, 0, .mach (.arena S2)), (0, 0, (SaO0 e0)), (1, 0, .tail off .u8 l e1)]⟩⟩
noncomputable def SaS41 : KSt := ⟨(frameL 154 [(19, (.slice (some ⟨2, 0, none⟩) k k)), (21, (.int .i64 ((at_ : Nat) : Int)))]), ⟨3, 1, [(2, 0, .ints .u64 R 22 true), (0, 0, (SaO0 e0)), (1, 0, .tail off .u8 l e1)]⟩⟩
theorem SaW31 : SaEA (codeAt [1, 1, 1, 1, 1, 1, 1, 1, 1, 1, 1, 1, 1, 1, 0, 1, 0, 0] BSa) [19, 21] [] none [false] (SaS33 off e0 l e1 mm i q S2 k R at_) =
  bif (decide (((i : Nat) : Int) < ((mm : Nat) : Int))) then
    none
  else
    some (.fin (.exit 4) (SaS41 off e0 l e1 k R at_)) := by kernel_rfl
theorem SaW32 : SaEA (codeAt [1, 1, 1, 1, 1, 1, 1, 1, 1, 1, 1, 1, 1, 1, 1] BSa) [6] [] (some [1]) [] (SaS41 off e0 l e1 k R at_) =
  bif (((at_ : Nat) : Int) == ((k : Nat) : Int)) then
    some (.stop (SaS1 off e0 l e1))
  else
    some (.stop ⟨(frameL 154 [(6, (.bool false))]), ⟨2, 1, [(0, 0, .cells [(.int .i64 1), (.int .i64 64), (.int .i64 1), (.int .i64 64)] e0 false), (1, 0, .tail off .u8 l e1)]⟩⟩) := by kernel_rfl
theorem SaW33 : SaEA (codeAt [1, 1, 1, 1, 1, 1, 1, 1, 1, 1, 1, 1, 1, 1, 1] BSa) [6] [1] none [] (SaS1 off e0 l e1) =
  some (.fin .ret (SaS1 off e0 l e1)) := by kernel_rfl
end
theorem Sal {gn off : Nat} {e0 : TypeId} {l : List Int} {e1 : TypeId} {thr blo : Int} {gc : Nat} (hg : ¬ gn ≤ 8)   {Q : Ex → St → Prop} (hq : Q .ret (KSt.low (SaS1 off e0 l e1))) : Gets Tryd.prog (SaH e0 off l e1) BSa (KSt.low (SaS0 thr blo off gn gc e0 l e1)) Q := by
  refine AtW.gets ?_
  exact Safi_ ((SaW1 ..).trans (by rw [dT])) hq
theorem Sain {thr n blo : Int} {mm gn : Nat} {e0 : TypeId} {off : Nat} {l : List Int} {e1 : TypeId} {gc : Nat} (hN : (IntKind.wrap .i64 ((Int.tmod (IntKind.wrap .i64 thr) 8) + 1)) = n) (hM : (Int.tmod (IntKind.wrap .i64 blo) 20) = ((mm : Nat) : Int)) (h1 : 1 ≤ n) (h2 : n ≤ 8) (hm : mm ≤ 19) (hg : gn ≤ 8)   {Q : Ex → St → Prop} (hq : Gets Tryd.prog (SaH e0 off l e1) (codeAt [1, 1, 1, 1, 1, 0, 1] BSa) (KSt.low (SaS4 off gn gc e0 l e1 n mm)) (onN (fun s => Gets Tryd.prog (SaH e0 off l e1) (codeAt [1, 1, 1, 1, 1, 1] BSa) s (Q)) (Q))) : Gets Tryd.prog (SaH e0 off l e1) BSa (KSt.low (SaS0 thr blo off gn gc e0 l e1)) Q := by
  refine AtW.gets ?_
  refine Sato_ (s' := (SaS2 off gn gc e0 l e1 n mm)) ((SaW2 ..).trans (by rw [(show (IntKind.wrap .i64 ((Int.tmod (IntKind.wrap .i64 thr) 8) + 1)) = n from hN), (show (Int.tmod (IntKind.wrap .i64 blo) 20) = ((mm : Nat) : Int) from hM)] <;> rfl)) ?_
  refine Sato_ (s' := (SaS3 off gn gc e0 l e1 n mm)) ((SaW3 ..).trans (by rw [dF, condT (and_t (decide_eq_true (by omega)) (and_t (decide_eq_true (by omega)) (and_t (decide_eq_true (by omega)) (decide_eq_true (by omega))))), (show (Int.toNat ((mm : Nat) : Int)) = mm from rfl)] <;> rfl)) ?_
  refine Sato_ (SaW4 ..) ?_
  exact AtW.place hq
theorem Sak0 {w : List Int} {i mm off gn gc : Nat} {e0 : TypeId} {l : List Int} {e1 : TypeId} {n : Int} (hw : w.length = i) (hm : mm ≤ 19) (hi : i < mm) (hz : i = 0)   {Q : Ex → St → Prop} (hq : Q .normal (KSt.low (SaS9 off gn gc e0 l e1 n mm i))) : Gets Tryd.prog (SaH e0 off l e1) (codeAt [1, 1, 1, 1, 1, 0, 1, 0, 0] BSa) (KSt.low (SaS5 off gn gc e0 l e1 n mm i w)) Q := by
  refine AtW.gets ?_
  refine Sato_ (s' := (SaS8 off gn gc e0 l e1 n mm i)) ((SaW5 ..).trans (by rw [dT, lT, lF, condT (and_t (nbeq_t (by omega)) (nbeq_t (by omega))), (show (IntKind.wrap .u64 ((IntKind.wrap .u64 ((i : Nat) : Int)) + 2)) = (((i : Nat) : Int) + 2) from wp2 (by omega) (by omega))] <;> rfl)) ?_
  exact Safi_ (x := .normal) (s' := (SaS9 off gn gc e0 l e1 n mm i)) ((SaW6 ..).trans (by rw [(show (IntKind.wrap .i64 (((i : Nat) : Int) + 1)) = (((i : Nat) : Int) + 1) from wi)] <;> rfl)) hq
theorem Sak1 {w : List Int} {i mm off gn gc : Nat} {e0 : TypeId} {l : List Int} {e1 : TypeId} {n : Int} (hw : w.length = i) (hm : mm ≤ 19) (hi : i < mm) (hz : 1 ≤ i)   {Q : Ex → St → Prop} (hq : Q .normal (KSt.low (SaS12 off gn gc e0 l e1 n mm i w))) : Gets Tryd.prog (SaH e0 off l e1) (codeAt [1, 1, 1, 1, 1, 0, 1, 0, 0] BSa) (KSt.low (SaS5 off gn gc e0 l e1 n mm i w)) Q := by
  refine AtW.gets ?_
  refine Sato_ (s' := (SaS11 off gn gc e0 l e1 n mm i w)) ((SaW7 ..).trans (by rw [dT, lT, lF, condF (and_f1 (nbeq_f (by omega))), condT (and_t (ble_t (by (first | omega | ((try simp (disch := omega) only [wrap_i64_id]) <;> omega)))) (ble_t (by omega))), (show (IntKind.wrap .u64 ((IntKind.wrap .u64 ((i : Nat) : Int)) + 2)) = (((i : Nat) : Int) + 2) from wp2 (by omega) (by omega))] <;> rfl)) ?_
  exact Safi_ (x := .normal) (s' := (SaS12 off gn gc e0 l e1 n mm i w)) ((SaW8 ..).trans (by rw [(show (IntKind.wrap .i64 (((i : Nat) : Int) + 1)) = (((i : Nat) : Int) + 1) from wi)] <;> rfl)) hq
theorem Sakx {mm i off gn gc : Nat} {e0 : TypeId} {l : List Int} {e1 : TypeId} {n : Int} {w : List Int} (hi : mm ≤ i) (hi2 : i ≤ mm)   {Q : Ex → St → Prop} (hq : Q (.exit 0) (KSt.low (SaS13 off gn gc e0 l e1 n mm i w))) : Gets Tryd.prog (SaH e0 off l e1) (codeAt [1, 1, 1, 1, 1, 0, 1, 0, 0] BSa) (KSt.low (SaS5 off gn gc e0 l e1 n mm i w)) Q := by
  refine AtW.gets ?_
  exact Safi_ ((SaW9 ..).trans (by rw [dF])) hq
theorem Samid {mm : Nat} {e0 : TypeId} {off : Nat} {l : List Int} {e1 : TypeId} {gn gc : Nat} {n : Int} {w : List Int} (hm : mm ≤ 19)   {Q : Ex → St → Prop} (hq : Gets Tryd.prog (SaH e0 off l e1) (codeAt [1, 1, 1, 1, 1, 1, 1, 0, 1] BSa) (KSt.low (SaS16 off gn gc e0 l e1 n mm w)) (onN (fun s => Gets Tryd.prog (SaH e0 off l e1) (codeAt [1, 1, 1, 1, 1, 1, 1, 1] BSa) s (Q)) (Q))) : Gets Tryd.prog (SaH e0 off l e1) (codeAt [1, 1, 1, 1, 1, 1] BSa) (KSt.low (SaS14 off gn gc e0 l e1 n mm w)) Q := by
  refine AtW.gets ?_
  refine Sato_ (s' := (SaS15 off gn gc e0 l e1 n mm w)) ((SaW10 ..).trans (by rw [if_pos (by refine ⟨?_, ?_, ?_, ?_⟩ <;> (first | omega | ((try simp (disch := omega) only [wrap_i64_id]) <;> omega))), (show (Int.toNat (IntKind.wrap .i64 (((mm : Nat) : Int) + 40))) = (mm + 40) from by rw [wi]; rfl)] <;> rfl)) ?_
  refine Sato_ (SaW11 ..) ?_
  exact AtW.place hq
theorem Sag {l : List Int} {gc gn : Nat} {n : Int} {i mm : Nat} {q : List Bool} {b off : Nat} {e0 e1 : TypeId} {w : List Int} {S : ArSt} (hgl : l.length = gc) (hgc : gn ≤ gc) (hg : gn ≤ 8) (hn8 : n ≤ 8) (hi : i < gn) (hin : ((i : Nat) : Int) < n) (hm : mm ≤ 19) (hql : q.length = mm + 40) (hbl : b < mm + 40) (hb : (Int.tmod (IntKind.wrap .i64 (l.getD i 0)) (IntKind.wrap .i64 (((mm : Nat) : Int) + 3))) = ((b : Nat) : Int)) (hap : actP 2 1 (3 + (2 * ((i : Nat) : Int))) 0 ((b : Nat) : Int) = true)   {Q : Ex → St → Prop} (hq : Q .normal (KSt.low (SaS24 off gn gc e0 l e1 n mm i w q S b))) : Gets Tryd.prog (SaH e0 off l e1) (codeAt [1, 1, 1, 1, 1, 1, 1, 0, 1, 0, 0] BSa) (KSt.low (SaS17 off gn gc e0 l e1 n mm i w q S)) Q := by
  refine AtW.gets ?_
  refine Sato_ ((SaW12 ..).trans (by rw [dT])) ?_
  refine Sato_ (s' := (SaS20 off gn gc e0 l e1 n mm i w q S b)) ((SaW13 ..).trans (by rw [dT, iP, lT, obind_at (k := ((Int.toNat ((i : Nat) : Int)) * 1)) (by omega) (by omega), dF2, (show ((Int.toNat ((i : Nat) : Int)) * 1) = i from by rw [Nat.mul_one]; rfl), (show (Int.tmod (IntKind.wrap .i64 (l.getD i 0)) (IntKind.wrap .i64 (((mm : Nat) : Int) + 3))) = ((b : Nat) : Int) from hb)] <;> rfl)) ?_
  refine Sato_ (s' := (SaS22 off gn gc e0 l e1 n mm i w q S b)) ((SaW14 ..).trans (by rw [dF, dF, condT (by rw [bcw (by omega) (by omega), wrap_u64_id (by omega) (by omega)]; exact hap), (show (IntKind.wrap .i64 ((IntKind.wrap .i64 (2 + (IntKind.wrap .i64 (2 * ((i : Nat) : Int))))) + 1)) = (3 + (2 * ((i : Nat) : Int))) from bcw (by omega) (by omega)), (show (IntKind.wrap .u64 ((b : Nat) : Int)) = ((b : Nat) : Int) from wrap_u64_id (by omega) (by omega))] <;> rfl)) ?_
  refine Sato_ (s' := (SaS23 off gn gc e0 l e1 n mm i w q S b)) ((SaW15 ..).trans (by rw [iP, lT2, (show ((Int.toNat ((b : Nat) : Int)) * 1) = b from by rw [Nat.mul_one]; rfl), (show (0 + b) = b from Nat.zero_add b)] <;> rfl)) ?_
  exact Safi_ (x := .normal) (s' := (SaS24 off gn gc e0 l e1 n mm i w q S b)) ((SaW16 ..).trans (by rw [(show (IntKind.wrap .i64 (((i : Nat) : Int) + 1)) = (((i : Nat) : Int) + 1) from wi)] <;> rfl)) hq
theorem Sagx1 {gn i off : Nat} {e0 : TypeId} {l : List Int} {e1 : TypeId} {n : Int} {mm : Nat} {w : List Int} {q : List Bool} {S : ArSt} {gc : Nat} (hi : gn ≤ i)   {Q : Ex → St → Prop} (hq : Q (.exit 2) (KSt.low (SaS25 off e0 l e1 n mm w q S))) : Gets Tryd.prog (SaH e0 off l e1) (codeAt [1, 1, 1, 1, 1, 1, 1, 0, 1, 0, 0] BSa) (KSt.low (SaS17 off gn gc e0 l e1 n mm i w q S)) Q := by
  refine AtW.gets ?_
  refine Sato_ ((SaW12 ..).trans (by rw [dF])) ?_
  exact Safi_ (SaW17 ..) hq
theorem Sagx2 {i gn : Nat} {n : Int} {off : Nat} {e0 : TypeId} {l : List Int} {e1 : TypeId} {mm : Nat} {w : List Int} {q : List Bool} {S : ArSt} {gc : Nat} (hi : i < gn) (hin : n ≤ ((i : Nat) : Int))   {Q : Ex → St → Prop} (hq : Q (.exit 2) (KSt.low (SaS25 off e0 l e1 n mm w q S))) : Gets Tryd.prog (SaH e0 off l e1) (codeAt [1, 1, 1, 1, 1, 1, 1, 0, 1, 0, 0] BSa) (KSt.low (SaS17 off gn gc e0 l e1 n mm i w q S)) Q := by
  refine AtW.gets ?_
  refine Sato_ ((SaW12 ..).trans (by rw [dT])) ?_
  exact Safi_ ((SaW18 ..).trans (by rw [dF])) hq
theorem Saal {w : List Int} {mm : Nat} {n : Int} {S : ArSt} {S2 : ArSt} {x2 : RetireSt} {cnt : Nat} {e0 : TypeId} {off : Nat} {l : List Int} {e1 : TypeId} {q : List Bool} (hwl : w.length = mm) (hn1 : 1 ≤ n) (hn8 : n ≤ 8) (hm : mm ≤ 19) (hs : siteP 1 (n - 1) n 1 = true) (hO : alOk (Int.toNat 100000) S (rtLook (SiteSt.mk 1 (n - 1) n 1 0) w) = true) (h3 : (Prod.fst (Prod.snd (alN (Int.toNat 100000) S (rtLook (SiteSt.mk 1 (n - 1) n 1 0) w)))) = S2) (h4 : (Prod.snd (Prod.snd (alN (Int.toNat 100000) S (rtLook (SiteSt.mk 1 (n - 1) n 1 0) w)))) = x2) (h5 : (Prod.fst (alN (Int.toNat 100000) S (rtLook (SiteSt.mk 1 (n - 1) n 1 0) w))) = cnt)   {Q : Ex → St → Prop} (hq : Gets Tryd.prog (SaH e0 off l e1) (codeAt [1, 1, 1, 1, 1, 1, 1, 1, 1, 1, 1] BSa) (KSt.low (SaS28 off e0 l e1 mm q x2 S2)) (Q)) : Gets Tryd.prog (SaH e0 off l e1) (codeAt [1, 1, 1, 1, 1, 1, 1, 1] BSa) (KSt.low (SaS25 off e0 l e1 n mm w q S)) Q := by
  refine AtW.gets ?_
  refine Sato_ (s' := (SaS26 off e0 l e1 n mm w q S)) ((SaW19 ..).trans (by rw [(show (IntKind.wrap .i64 (n - 1)) = (n - 1) from wi)] <;> rfl)) ?_
  refine Sato_ (s' := (SaS27 off e0 l e1 n mm w q S)) ((SaW20 ..).trans (by rw [lT2, condT (and_t (hs) (by rw [List.drop_zero, ← hwl, List.take_length]; exact ble_t (by omega))), (show (List.take mm (List.drop 0 w)) = w from by rw [List.drop_zero, ← hwl, List.take_length])] <;> rfl)) ?_
  refine Sato_ (s' := (SaS28 off e0 l e1 mm q x2 S2)) ((SaW21 ..).trans (by rw [condT (and_t (hO) (decide_eq_true (by decide))), (show (Prod.fst (Prod.snd (alN (Int.toNat 100000) S (rtLook (SiteSt.mk 1 (n - 1) n 1 0) w)))) = S2 from h3), (show (Prod.snd (Prod.snd (alN (Int.toNat 100000) S (rtLook (SiteSt.mk 1 (n - 1) n 1 0) w)))) = x2 from h4)] <;> rfl)) ?_
  exact AtW.place hq
theorem Sara {x2 : RetireSt} {S2 : ArSt} {R : List Int} {k : Nat} {e0 : TypeId} {off : Nat} {l : List Int} {e1 : TypeId} {mm : Nat} {q : List Bool} (hok : rtOk x2 = true) (hfin : rtFin x2 = true) (hm2 : rtMore x2 = false) (hf : S2.faults = 0) (hR : rtRest x2 = R) (hk : R.length = k) (hr : 1 ≤ (rtRest x2).length)   {Q : Ex → St → Prop} (hq : Gets Tryd.prog (SaH e0 off l e1) (codeAt [1, 1, 1, 1, 1, 1, 1, 1, 1, 1, 1, 1, 1, 1, 0, 1] BSa) (KSt.low (SaS32 off e0 l e1 mm q S2 k R)) (onN (fun s => Gets Tryd.prog (SaH e0 off l e1) (codeAt [1, 1, 1, 1, 1, 1, 1, 1, 1, 1, 1, 1, 1, 1, 1] BSa) s (Q)) (Q))) : Gets Tryd.prog (SaH e0 off l e1) (codeAt [1, 1, 1, 1, 1, 1, 1, 1, 1, 1, 1] BSa) (KSt.low (SaS28 off e0 l e1 mm q x2 S2)) Q := by
  refine AtW.gets ?_
  refine Sato_ (s' := (SaS29 off e0 l e1 mm q x2 S2 k R)) ((SaW22 ..).trans (by rw [condT (and_t (hok) (and_t (hfin) (ble_t (by omega)))), (show (List.length (rtRest x2)) = (List.length R) from by rw [hR]), (show (rtRest x2) = R from hR), (show (List.length R) = k from hk)] <;> rfl)) ?_
  refine Sato_ ((SaW23 ..).trans (by rw [condF (not_f (not_t (hm2)))])) ?_
  refine Sato_ ((SaW24 ..).trans (by rw [nF])) ?_
  exact AtW.place hq
theorem Sath {i mm : Nat} {q : List Bool} {R : List Int} {k at_ : Nat} {S2 : ArSt} {off : Nat} {e0 : TypeId} {l : List Int} {e1 : TypeId} (hi : i < mm) (hm : mm ≤ 19) (hql : q.length = mm + 40) (hRk : R.length = k) (hk2 : k ≤ 1000) (hat : at_ < k) (hth : ((ArSt.size S2 (((i : Nat) : Int) + 2)) == 1) = true) (hsf : (q.getD (i + 2) false) = true) (hRa : R.getD at_ 0 = (((i : Nat) : Int) + 2))   {Q : Ex → St → Prop} (hq : Q .normal (KSt.low (SaS39 off e0 l e1 mm i q S2 k R at_))) : Gets Tryd.prog (SaH e0 off l e1) (codeAt [1, 1, 1, 1, 1, 1, 1, 1, 1, 1, 1, 1, 1, 1, 0, 1, 0, 0] BSa) (KSt.low (SaS33 off e0 l e1 mm i q S2 k R at_)) Q := by
  refine AtW.gets ?_
  refine Sato_ (s' := (SaS34 off e0 l e1 mm i q S2 k R at_)) ((SaW25 ..).trans (by rw [dT, (show (IntKind.wrap .u64 ((IntKind.wrap .u64 ((i : Nat) : Int)) + 2)) = (((i : Nat) : Int) + 2) from wp2 (by omega) (by omega))] <;> rfl)) ?_
  refine Sato_ (s' := (SaS35 off e0 l e1 mm i q S2 k R at_)) ((SaW26 ..).trans (by rw [if_pos (⟨by (first | omega | (simp (disch := omega) only [wrap_i64_id, Nat.mul_one]; omega) | (rw [wi]; omega)), by (first | omega | (simp (disch := omega) only [wrap_i64_id, Nat.mul_one]; omega) | (rw [wi]; omega))⟩), obind_atB (k := 0 + ((Int.toNat (IntKind.wrap .i64 (((i : Nat) : Int) + 2))) * 1)) (by (first | omega | (simp (disch := omega) only [wrap_i64_id, Nat.mul_one]; omega) | (rw [wi]; omega))) (by (first | omega | (simp (disch := omega) only [wrap_i64_id, Nat.mul_one]; omega) | (rw [wi]; omega))), (show (IntKind.wrap .i64 (((i : Nat) : Int) + 2)) = (((i : Nat) : Int) + 2) from wi), (show ((Int.toNat (((i : Nat) : Int) + 2)) * 1) = (i + 2) from by rw [Nat.mul_one]; rfl)] <;> rfl)) ?_
  refine Sato_ (s' := (SaS37 off e0 l e1 mm i q S2 k R at_)) ((SaW27 ..).trans (by rw [condF (not_f (by rw [Nat.zero_add, hth, hsf]; rfl)), condT (hth), dF, iP, obind_at (k := 0 + ((Int.toNat ((at_ : Nat) : Int)) * 1)) (by omega) (by omega), (show (IntKind.wrap .u64 ((IntKind.wrap .u64 ((i : Nat) : Int)) + 2)) = (((i : Nat) : Int) + 2) from wp2 (by omega) (by omega)), (show ((Int.toNat ((at_ : Nat) : Int)) * 1) = at_ from by rw [Nat.mul_one]; rfl)] <;> rfl)) ?_
  refine Sato_ (s' := (SaS38 off e0 l e1 mm i q S2 k R at_)) ((SaW28 ..).trans (by rw [condF (ibne_f (by rw [Nat.zero_add]; exact hRa)), (show (IntKind.wrap .i64 (((at_ : Nat) : Int) + 1)) = (((at_ : Nat) : Int) + 1) from wi)] <;> rfl)) ?_
  exact Safi_ (x := .normal) (s' := (SaS39 off e0 l e1 mm i q S2 k R at_)) ((SaW29 ..).trans (by rw [(show (IntKind.wrap .i64 (((i : Nat) : Int) + 1)) = (((i : Nat) : Int) + 1) from wi)] <;> rfl)) hq
theorem Sant {i mm : Nat} {q : List Bool} {S2 : ArSt} {off : Nat} {e0 : TypeId} {l : List Int} {e1 : TypeId} {k : Nat} {R : List Int} {at_ : Nat} (hi : i < mm) (hm : mm ≤ 19) (hql : q.length = mm + 40) (hth : ((ArSt.size S2 (((i : Nat) : Int) + 2)) == 1) = false) (hsf : (q.getD (i + 2) false) = false)   {Q : Ex → St → Prop} (hq : Q .normal (KSt.low (SaS40 off e0 l e1 mm i q S2 k R at_))) : Gets Tryd.prog (SaH e0 off l e1) (codeAt [1, 1, 1, 1, 1, 1, 1, 1, 1, 1, 1, 1, 1, 1, 0, 1, 0, 0] BSa) (KSt.low (SaS33 off e0 l e1 mm i q S2 k R at_)) Q := by
  refine AtW.gets ?_
  refine Sato_ (s' := (SaS34 off e0 l e1 mm i q S2 k R at_)) ((SaW25 ..).trans (by rw [dT, (show (IntKind.wrap .u64 ((IntKind.wrap .u64 ((i : Nat) : Int)) + 2)) = (((i : Nat) : Int) + 2) from wp2 (by omega) (by omega))] <;> rfl)) ?_
  refine Sato_ (s' := (SaS35 off e0 l e1 mm i q S2 k R at_)) ((SaW26 ..).trans (by rw [if_pos (⟨by (first | omega | (simp (disch := omega) only [wrap_i64_id, Nat.mul_one]; omega) | (rw [wi]; omega)), by (first | omega | (simp (disch := omega) only [wrap_i64_id, Nat.mul_one]; omega) | (rw [wi]; omega))⟩), obind_atB (k := 0 + ((Int.toNat (IntKind.wrap .i64 (((i : Nat) : Int) + 2))) * 1)) (by (first | omega | (simp (disch := omega) only [wrap_i64_id, Nat.mul_one]; omega) | (rw [wi]; omega))) (by (first | omega | (simp (disch := omega) only [wrap_i64_id, Nat.mul_one]; omega) | (rw [wi]; omega))), (show (IntKind.wrap .i64 (((i : Nat) : Int) + 2)) = (((i : Nat) : Int) + 2) from wi), (show ((Int.toNat (((i : Nat) : Int) + 2)) * 1) = (i + 2) from by rw [Nat.mul_one]; rfl)] <;> rfl)) ?_
  exact Safi_ (x := .normal) (s' := (SaS40 off e0 l e1 mm i q S2 k R at_)) ((SaW30 ..).trans (by rw [condF (not_f (by rw [Nat.zero_add, hth, hsf]; rfl)), condF (hth), (show (IntKind.wrap .i64 (((i : Nat) : Int) + 1)) = (((i : Nat) : Int) + 1) from wi)] <;> rfl)) hq
theorem Saex {mm i off : Nat} {e0 : TypeId} {l : List Int} {e1 : TypeId} {k : Nat} {R : List Int} {at_ : Nat} {q : List Bool} {S2 : ArSt} (hi : mm ≤ i)   {Q : Ex → St → Prop} (hq : Q (.exit 4) (KSt.low (SaS41 off e0 l e1 k R at_))) : Gets Tryd.prog (SaH e0 off l e1) (codeAt [1, 1, 1, 1, 1, 1, 1, 1, 1, 1, 1, 1, 1, 1, 0, 1, 0, 0] BSa) (KSt.low (SaS33 off e0 l e1 mm i q S2 k R at_)) Q := by
  refine AtW.gets ?_
  exact Safi_ ((SaW31 ..).trans (by rw [dF])) hq
theorem Saen {at_ k off : Nat} {e0 : TypeId} {l : List Int} {e1 : TypeId} {R : List Int} (hat : at_ = k)   {Q : Ex → St → Prop} (hq : Q .ret (KSt.low (SaS1 off e0 l e1))) : Gets Tryd.prog (SaH e0 off l e1) (codeAt [1, 1, 1, 1, 1, 1, 1, 1, 1, 1, 1, 1, 1, 1, 1] BSa) (KSt.low (SaS41 off e0 l e1 k R at_)) Q := by
  refine AtW.gets ?_
  refine Sato_ ((SaW32 ..).trans (by rw [eT])) ?_
  exact Safi_ (SaW33 ..) hq
noncomputable def BSb : Code := bodyOf Tryd.prog 4
noncomputable abbrev SbH (e0 : TypeId) (off : Nat) (l : List Int) (e1 : TypeId) : AH := (KH.low ⟨2, 1, [(0, 0, .cells [(.int .i64 1), (.int .i64 64), (.int .i64 1), (.int .i64 64)] e0 false), (1, 0, .tail off .u8 l e1)]⟩)
noncomputable abbrev SbEA (c : Code) (lv p : List Nat) (st : Option (List Nat)) (ws : List Bool) (s : KSt) : Option Rs := evA (evCK Tryd.prog cfgS (runK Tryd.prog cfgS fsS (conTk sfbDom (rcK varL sfbT)) 40 40) 40) (stopW 2 lv) p c st ws s (finW 2 lv)
theorem Sbto_ {c_ : Code} {lv_ p_ p2_ : List Nat} {ws_ : List Bool} {st_ s' : KSt} {Q : Ex → St → Prop} {e0 : TypeId} {off : Nat} {l : List Int} {e1 : TypeId} (hE_ : SbEA c_ lv_ p_ (some p2_) ws_ st_ = some (.stop s')) (hq_ : AtW Tryd.prog (SbH e0 off l e1) c_ p2_ s' Q) (hok_ : okCode Tryd.prog.globals.size c_ = true := by kernel_rfl) : AtW Tryd.prog (SbH e0 off l e1) c_ p_ st_ Q := AtW.to fitS sfb_sound (rc_agree _ _ _) 40 40 hok_ hE_ hq_
theorem Sbfi_ {c_ : Code} {lv_ p_ : List Nat} {ws_ : List Bool} {st_ s' : KSt} {x : Ex} {Q : Ex → St → Prop} {e0 : TypeId} {off : Nat} {l : List Int} {e1 : TypeId} (hE_ : SbEA c_ lv_ p_ none ws_ st_ = some (.fin x s')) (hq_ : Q x s'.low) (hok_ : okCode Tryd.prog.globals.size c_ = true := by kernel_rfl) : AtW Tryd.prog (SbH e0 off l e1) c_ p_ st_ Q := AtW.fin fitS sfb_sound (rc_agree _ _ _) 40 40 hok_ hE_ hq_
theorem SbC1_1_1_1_1_1_1_1_1_1_1_1_1_1_0_1 : (codeAt [1, 1, 1, 1, 1, 1, 1, 1, 1, 1, 1, 1, 1, 1, 0, 1] BSb) = .block 4 (codeAt [1, 1, 1, 1, 1, 1, 1, 1, 1, 1, 1, 1, 1, 1, 0, 1, 0] BSb) := by kernel_rfl
theorem SbC1_1_1_1_1_1_1_1_1_1_1_1_1_1_0_1_0 : (codeAt [1, 1, 1, 1, 1, 1, 1, 1, 1, 1, 1, 1, 1, 1, 0, 1, 0] BSb) = .loop (codeAt [1, 1, 1, 1, 1, 1, 1, 1, 1, 1, 1, 1, 1, 1, 0, 1, 0, 0] BSb) := by kernel_rfl
section
variable (mm : Nat) (x2 : RetireSt) (q : List Bool) (S2 : ArSt) (e0 : TypeId) (off : Nat) (l : List Int) (e1 : TypeId) (i : Nat) (thr blo : Int) (gn gc : Nat)
noncomputable abbrev SbO0 (e0 : TypeId) : KObj := .cells [(.int .i64 1), (.int .i64 64), (.int .i64 1), (.int .i64 64)] e0 false
noncomputable def SbS0 : KSt := ⟨(frameL 154 [(8, (.int .i64 ((mm : Nat) : Int))), (9, (.pointer (some ⟨2, 0, none⟩))), (12, (.slice (some ⟨3, 0, none⟩) (mm + 40) (mm + 40))), (16, (.pointer (some ⟨4, 0, none⟩))), (18, (.bool (!(rtMore x2))))]), ⟨5, 1, [(4, 0, .mach (.retire x2)), (3, 0, .bools q 4 true), (2, 0, .mach (.arena S2)), (0, 0, (SbO0 e0)), (1, 0, .tail off .u8 l e1)]⟩⟩
theorem SbW1 : SbEA (codeAt [1, 1, 1, 1, 1, 1, 1, 1, 1, 1, 1] BSb) [8, 9, 12, 18, 19, 20] [] (some [1]) [] (SbS0 mm x2 q S2 e0 off l e1) =
  bif ((rtOk x2) && (!((rtFin x2) && (Nat.ble 1 (List.length (rtRest x2)))))) then
    some (.stop ⟨(frameL 154 [(8, (.int .i64 ((mm : Nat) : Int))), (9, (.pointer (some ⟨2, 0, none⟩))), (12, (.slice (some ⟨3, 0, none⟩) (mm + 40) (mm + 40))), (18, (.bool (!(rtMore x2)))), (19, (.slice (some ⟨0, 0, none⟩) 0 0)), (20, (.bool (rtFin x2)))]), ⟨4, 1, [(3, 0, .bools q 4 true), (2, 0, .mach (.arena S2)), (0, 0, .cells [(.int .i64 1), (.int .i64 64), (.int .i64 1), (.int .i64 64)] e0 false), (1, 0, .tail off .u8 l e1)]⟩⟩)
  else
    none := by kernel_rfl
noncomputable def SbS1 : KSt := ⟨(frameL 154 [(8, (.int .i64 ((mm : Nat) : Int))), (9, (.pointer (some ⟨2, 0, none⟩))), (12, (.slice (some ⟨3, 0, none⟩) (mm + 40) (mm + 40))), (18, (.bool (!(rtMore x2)))), (19, (.slice (some ⟨0, 0, none⟩) 0 0)), (20, (.bool true))]), ⟨4, 1, [(3, 0, .bools q 4 true), (2, 0, .mach (.arena S2)), (0, 0, (SbO0 e0)), (1, 0, .tail off .u8 l e1)]⟩⟩
noncomputable def SbS2 : KSt := ⟨(frameL 154 [(8, (.int .i64 ((mm : Nat) : Int))), (9, (.pointer (some ⟨2, 0, none⟩))), (12, (.slice (some ⟨3, 0, none⟩) (mm + 40) (mm + 40))), (19, (.slice (some ⟨0, 0, none⟩) 0 0)), (111, (.bool true))]), ⟨4, 1, [(3, 0, .bools q 4 true), (2, 0, .mach (.arena S2)), (0, 0, (SbO0 e0)), (1, 0, .tail off .u8 l e1)]⟩⟩
noncomputable def SbS3 : KSt := ⟨(frameL 154 [(8, (.int .i64 ((mm : Nat) : Int))), (9, (.pointer (some ⟨2, 0, none⟩))), (12, (.slice (some ⟨3, 0, none⟩) (mm + 40) (mm + 40))), (19, (.slice (some ⟨0, 0, none⟩) 0 0)), (111, (.bool (S2.faults != 0)))]), ⟨4, 1, [(3, 0, .bools q 4 true), (2, 0, .mach (.arena S2)), (0, 0, (SbO0 e0)), (1, 0, .tail off .u8 l e1)]⟩⟩
theorem SbW2 : SbEA (codeAt [1, 1, 1, 1, 1, 1, 1, 1, 1, 1, 1] BSb) [8, 9, 12, 19, 111] [1] (some [1, 0, 1]) [] (SbS1 mm x2 q S2 e0 off l e1) =
  bif (!(!(rtMore x2))) then
    some (.stop (SbS2 mm q S2 e0 off l e1))
  else
    bif (!true) then
      some (.stop (SbS2 mm q S2 e0 off l e1))
    else
      some (.stop (SbS3 mm q S2 e0 off l e1)) := by kernel_rfl
noncomputable def SbS4 : KSt := ⟨(frameL 154 [(8, (.int .i64 ((mm : Nat) : Int))), (9, (.pointer (some ⟨2, 0, none⟩))), (12, (.slice (some ⟨3, 0, none⟩) (mm + 40) (mm + 40))), (19, (.slice (some ⟨0, 0, none⟩) 0 0)), (21, (.int .i64 0)), (22, (.int .i64 0))]), ⟨4, 1, [(3, 0, .bools q 4 true), (2, 0, .mach (.arena S2)), (0, 0, (SbO0 e0)), (1, 0, .tail off .u8 l e1)]⟩⟩
theorem SbW3 : SbEA (codeAt [1, 1, 1, 1, 1, 1, 1, 1, 1, 1, 1] BSb) [8, 9, 12, 19, 21, 22] [1, 0, 1] (some [1, 1, 1, 0, 1]) [false] (SbS3 mm q S2 e0 off l e1) =
  bif (S2.faults != 0) then
    none
  else
    some (.stop (SbS4 mm q S2 e0 off l e1)) := by kernel_rfl
noncomputable def SbS5 : KSt := ⟨(frameL 154 [(8, (.int .i64 ((mm : Nat) : Int))), (9, (.pointer (some ⟨2, 0, none⟩))), (12, (.slice (some ⟨3, 0, none⟩) (mm + 40) (mm + 40))), (19, (.slice (some ⟨0, 0, none⟩) 0 0)), (21, (.int .i64 0)), (22, (.int .i64 ((i : Nat) : Int)))]), ⟨4, 1, [(3, 0, .bools q 4 true), (2, 0, .mach (.arena S2)), (0, 0, (SbO0 e0)), (1, 0, .tail off .u8 l e1)]⟩⟩
theorem SbW4 : SbEA (codeAt [1, 1, 1, 1, 1, 1, 1, 1, 1, 1, 1, 1, 1, 1, 0, 1, 0, 0] BSb) [8, 9, 12, 19, 21, 22, 23] [] (some [1, 0, 0, 1]) [true, false] (SbS5 mm q S2 e0 off l e1 i) =
  bif (decide (((i : Nat) : Int) < ((mm : Nat) : Int))) then
    some (.stop ⟨(frameL 154 [(8, (.int .i64 ((mm : Nat) : Int))), (9, (.pointer (some ⟨2, 0, none⟩))), (12, (.slice (some ⟨3, 0, none⟩) (mm + 40) (mm + 40))), (19, (.slice (some ⟨0, 0, none⟩) 0 0)), (21, (.int .i64 0)), (22, (.int .i64 ((i : Nat) : Int))), (23, (.bool ((ArSt.size S2 (IntKind.wrap .u64 ((IntKind.wrap .u64 ((i : Nat) : Int)) + 2))) == 1)))]), ⟨4, 1, [(3, 0, .bools q 4 true), (2, 0, .mach (.arena S2)), (0, 0, .cells [(.int .i64 1), (.int .i64 64), (.int .i64 1), (.int .i64 64)] e0 false), (1, 0, .tail off .u8 l e1)]⟩⟩)
  else
    none := by kernel_rfl
noncomputable def SbS6 : KSt := ⟨(frameL 154 [(8, (.int .i64 ((mm : Nat) : Int))), (9, (.pointer (some ⟨2, 0, none⟩))), (12, (.slice (some ⟨3, 0, none⟩) (mm + 40) (mm + 40))), (19, (.slice (some ⟨0, 0, none⟩) 0 0)), (21, (.int .i64 0)), (22, (.int .i64 ((i : Nat) : Int))), (23, (.bool ((ArSt.size S2 (((i : Nat) : Int) + 2)) == 1)))]), ⟨4, 1, [(3, 0, .bools q 4 true), (2, 0, .mach (.arena S2)), (0, 0, (SbO0 e0)), (1, 0, .tail off .u8 l e1)]⟩⟩
theorem SbW5 : SbEA (codeAt [1, 1, 1, 1, 1, 1, 1, 1, 1, 1, 1, 1, 1, 1, 0, 1, 0, 0] BSb) [8, 9, 12, 19, 21, 22, 23, 129] [1, 0, 0, 1] (some [1, 0, 0, 1, 0, 1]) [] (SbS6 mm q S2 e0 off l e1 i) =
  if 0 ≤ (IntKind.wrap .i64 (((i : Nat) : Int) + 2)) ∧ (IntKind.wrap .i64 (((i : Nat) : Int) + 2)) < (((mm + 40) : Nat) : Int) then
    obind (q[(0 + ((Int.toNat (IntKind.wrap .i64 (((i : Nat) : Int) + 2))) * 1))]?) fun zc1 =>
      some (.stop ⟨(frameL 154 [(8, (.int .i64 ((mm : Nat) : Int))), (9, (.pointer (some ⟨2, 0, none⟩))), (12, (.slice (some ⟨3, 0, none⟩) (mm + 40) (mm + 40))), (19, (.slice (some ⟨0, 0, none⟩) 0 0)), (21, (.int .i64 0)), (22, (.int .i64 ((i : Nat) : Int))), (23, (.bool ((ArSt.size S2 (((i : Nat) : Int) + 2)) == 1))), (129, (.bool (!(((ArSt.size S2 (((i : Nat) : Int) + 2)) == 1) == zc1))))]), ⟨4, 1, [(3, 0, .bools q 4 true), (2, 0, .mach (.arena S2)), (0, 0, .cells [(.int .i64 1), (.int .i64 64), (.int .i64 1), (.int .i64 64)] e0 false), (1, 0, .tail off .u8 l e1)]⟩⟩)
  else
    none := by kernel_rfl
noncomputable def SbS7 : KSt := ⟨(frameL 154 [(8, (.int .i64 ((mm : Nat) : Int))), (9, (.pointer (some ⟨2, 0, none⟩))), (12, (.slice (some ⟨3, 0, none⟩) (mm + 40) (mm + 40))), (19, (.slice (some ⟨0, 0, none⟩) 0 0)), (21, (.int .i64 0)), (22, (.int .i64 ((i : Nat) : Int))), (23, (.bool ((ArSt.size S2 (((i : Nat) : Int) + 2)) == 1))), (129, (.bool (!(((ArSt.size S2 (((i : Nat) : Int) + 2)) == 1) == (q.getD (0 + (i + 2)) false)))))]), ⟨4, 1, [(3, 0, .bools q 4 true), (2, 0, .mach (.arena S2)), (0, 0, (SbO0 e0)), (1, 0, .tail off .u8 l e1)]⟩⟩
theorem SbW6 : SbEA (codeAt [1, 1, 1, 1, 1, 1, 1, 1, 1, 1, 1, 1, 1, 1, 0, 1, 0, 0] BSb) [8, 9, 12, 19, 21, 22] [1, 0, 0, 1, 0, 1] none [false, false] (SbS7 mm q S2 e0 off l e1 i) =
  bif (!(((ArSt.size S2 (((i : Nat) : Int) + 2)) == 1) == (q.getD (0 + (i + 2)) false))) then
    none
  else
    bif ((ArSt.size S2 (((i : Nat) : Int) + 2)) == 1) then
      none
    else
      some (.fin .normal ⟨(frameL 154 [(8, (.int .i64 ((mm : Nat) : Int))), (9, (.pointer (some ⟨2, 0, none⟩))), (12, (.slice (some ⟨3, 0, none⟩) (mm + 40) (mm + 40))), (19, (.slice (some ⟨0, 0, none⟩) 0 0)), (21, (.int .i64 0)), (22, (.int .i64 (IntKind.wrap .i64 (((i : Nat) : Int) + 1))))]), ⟨4, 1, [(3, 0, .bools q 4 true), (2, 0, .mach (.arena S2)), (0, 0, .cells [(.int .i64 1), (.int .i64 64), (.int .i64 1), (.int .i64 64)] e0 false), (1, 0, .tail off .u8 l e1)]⟩⟩) := by kernel_rfl
noncomputable def SbS8 : KSt := ⟨(frameL 154 [(8, (.int .i64 ((mm : Nat) : Int))), (9, (.pointer (some ⟨2, 0, none⟩))), (12, (.slice (some ⟨3, 0, none⟩) (mm + 40) (mm + 40))), (19, (.slice (some ⟨0, 0, none⟩) 0 0)), (21, (.int .i64 0)), (22, (.int .i64 (((i : Nat) : Int) + 1)))]), ⟨4, 1, [(3, 0, .bools q 4 true), (2, 0, .mach (.arena S2)), (0, 0, (SbO0 e0)), (1, 0, .tail off .u8 l e1)]⟩⟩
noncomputable def SbS9 : KSt := ⟨(frameL 154 [(19, (.slice (some ⟨0, 0, none⟩) 0 0)), (21, (.int .i64 0))]), ⟨2, 1, [(0, 0, (SbO0 e0)), (1, 0, .tail off .u8 l e1)]⟩⟩
theorem SbW7 : SbEA (codeAt [1, 1, 1, 1, 1, 1, 1, 1, 1, 1, 1, 1, 1, 1, 0, 1, 0, 0] BSb) [19, 21] [] none [false] (SbS5 mm q S2 e0 off l e1 i) =
  bif (decide (((i : Nat) : Int) < ((mm : Nat) : Int))) then
    none
  else
    some (.fin (.exit 4) (SbS9 e0 off l e1)) := by kernel_rfl
noncomputable def SbS10 : KSt := ⟨(frameL 154 [(6, (.bool true))]), ⟨2, 1, [(0, 0, (SbO0 e0)), (1, 0, .tail off .u8 l e1)]⟩⟩
theorem SbW8 : SbEA (codeAt [1, 1, 1, 1, 1, 1, 1, 1, 1, 1, 1, 1, 1, 1, 1] BSb) [6] [] none [] (SbS9 e0 off l e1) =
  some (.fin .ret (SbS10 e0 off l e1)) := by kernel_rfl
end
theorem Sbrb {x2 : RetireSt} {S2 : ArSt} {e0 : TypeId} {off : Nat} {l : List Int} {e1 : TypeId} {mm : Nat} {q : List Bool} (hok : rtOk x2 = true) (hfin : rtFin x2 = true) (hm2 : rtMore x2 = false) (hf : S2.faults = 0) (hr : Nat.ble 1 (rtRest x2).length = false)   {Q : Ex → St → Prop} (hq : Gets Tryd.prog (SbH e0 off l e1) (codeAt [1, 1, 1, 1, 1, 1, 1, 1, 1, 1, 1, 1, 1, 1, 0, 1] BSb) (KSt.low (SbS4 mm q S2 e0 off l e1)) (onN (fun s => Gets Tryd.prog (SbH e0 off l e1) (codeAt [1, 1, 1, 1, 1, 1, 1, 1, 1, 1, 1, 1, 1, 1, 1] BSb) s (Q)) (Q))) : Gets Tryd.prog (SbH e0 off l e1) (codeAt [1, 1, 1, 1, 1, 1, 1, 1, 1, 1, 1] BSb) (KSt.low (SbS0 mm x2 q S2 e0 off l e1)) Q := by
  refine AtW.gets ?_
  refine Sbto_ (s' := (SbS1 mm x2 q S2 e0 off l e1)) ((SbW1 ..).trans (by rw [condT (and_t (hok) (not_t (and_f2 (hr)))), (show (rtFin x2) = true from hfin)] <;> rfl)) ?_
  refine Sbto_ ((SbW2 ..).trans (by rw [condF (not_f (not_t (hm2))), condF (not_f (rfl))])) ?_
  refine Sbto_ ((SbW3 ..).trans (by rw [nF])) ?_
  exact AtW.place hq
theorem Sbnt {i mm : Nat} {q : List Bool} {S2 : ArSt} {e0 : TypeId} {off : Nat} {l : List Int} {e1 : TypeId} (hi : i < mm) (hm : mm ≤ 19) (hql : q.length = mm + 40) (hth : ((ArSt.size S2 (((i : Nat) : Int) + 2)) == 1) = false) (hsf : (q.getD (i + 2) false) = false)   {Q : Ex → St → Prop} (hq : Q .normal (KSt.low (SbS8 mm q S2 e0 off l e1 i))) : Gets Tryd.prog (SbH e0 off l e1) (codeAt [1, 1, 1, 1, 1, 1, 1, 1, 1, 1, 1, 1, 1, 1, 0, 1, 0, 0] BSb) (KSt.low (SbS5 mm q S2 e0 off l e1 i)) Q := by
  refine AtW.gets ?_
  refine Sbto_ (s' := (SbS6 mm q S2 e0 off l e1 i)) ((SbW4 ..).trans (by rw [dT, (show (IntKind.wrap .u64 ((IntKind.wrap .u64 ((i : Nat) : Int)) + 2)) = (((i : Nat) : Int) + 2) from wp2 (by omega) (by omega))] <;> rfl)) ?_
  refine Sbto_ (s' := (SbS7 mm q S2 e0 off l e1 i)) ((SbW5 ..).trans (by rw [if_pos (⟨by (first | omega | (simp (disch := omega) only [wrap_i64_id, Nat.mul_one]; omega) | (rw [wi]; omega)), by (first | omega | (simp (disch := omega) only [wrap_i64_id, Nat.mul_one]; omega) | (rw [wi]; omega))⟩), obind_atB (k := 0 + ((Int.toNat (IntKind.wrap .i64 (((i : Nat) : Int) + 2))) * 1)) (by (first | omega | (simp (disch := omega) only [wrap_i64_id, Nat.mul_one]; omega) | (rw [wi]; omega))) (by (first | omega | (simp (disch := omega) only [wrap_i64_id, Nat.mul_one]; omega) | (rw [wi]; omega))), (show (IntKind.wrap .i64 (((i : Nat) : Int) + 2)) = (((i : Nat) : Int) + 2) from wi), (show ((Int.toNat (((i : Nat) : Int) + 2)) * 1) = (i + 2) from by rw [Nat.mul_one]; rfl)] <;> rfl)) ?_
  exact Sbfi_ (x := .normal) (s' := (SbS8 mm q S2 e0 off l e1 i)) ((SbW6 ..).trans (by rw [condF (not_f (by rw [Nat.zero_add, hth, hsf]; rfl)), condF (hth), (show (IntKind.wrap .i64 (((i : Nat) : Int) + 1)) = (((i : Nat) : Int) + 1) from wi)] <;> rfl)) hq
theorem Sbex {mm i : Nat} {e0 : TypeId} {off : Nat} {l : List Int} {e1 : TypeId} {q : List Bool} {S2 : ArSt} (hi : mm ≤ i)   {Q : Ex → St → Prop} (hq : Q (.exit 4) (KSt.low (SbS9 e0 off l e1))) : Gets Tryd.prog (SbH e0 off l e1) (codeAt [1, 1, 1, 1, 1, 1, 1, 1, 1, 1, 1, 1, 1, 1, 0, 1, 0, 0] BSb) (KSt.low (SbS5 mm q S2 e0 off l e1 i)) Q := by
  refine AtW.gets ?_
  exact Sbfi_ ((SbW7 ..).trans (by rw [dF])) hq
theorem Sben {e0 : TypeId} {off : Nat} {l : List Int} {e1 : TypeId}   {Q : Ex → St → Prop} (hq : Q .ret (KSt.low (SbS10 e0 off l e1))) : Gets Tryd.prog (SbH e0 off l e1) (codeAt [1, 1, 1, 1, 1, 1, 1, 1, 1, 1, 1, 1, 1, 1, 1] BSb) (KSt.low (SbS9 e0 off l e1)) Q := by
  refine AtW.gets ?_
  exact Sbfi_ (SbW8 ..) hq
end Go.Proofs.YtfhfbbhoppnbiaaDoor
