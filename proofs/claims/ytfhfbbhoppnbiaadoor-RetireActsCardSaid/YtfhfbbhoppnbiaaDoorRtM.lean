import Derived.Test.YtfhfbbhoppnbiaaDoorRtW
import Derived.WalkKit
import Derived.ProofKit
import Derived.OpenShut
import Derived.ChangeOld
import Derived.Below
import Derived.SizedLaws
namespace Go.Proofs.YtfhfbbhoppnbiaaDoor
open Go.Eng
open Go.ChangeShapes Go.WideShapes Go.ChangeAt Go.RowKit
set_option linter.unusedVariables false
set_option linter.unusedSimpArgs false
set_option maxRecDepth 100000
noncomputable def cfgM : Cfg := ⟨[32]⟩
noncomputable def fsM : List FuncId := [10, 11, 12, 20, 21, 24, 25]
theorem fitM : Fit Tryd.prog cfgM fsM := ⟨by kernel_rfl, Cfg.ok_of (by kernel_rfl), by kernel_rfl⟩
noncomputable def tbAT (rlLook : List Int → Int → Int → TpS → List Int → TpS × List Int) (rlRet : List Int → Int → Int → Int → TpS → List Int → Int → TpS × List Int) (sameW : List Int → List Int → Bool) : RTab := fun f => match f with
  | 24 => some (rc_rLook rlLook)
  | 25 => some (rc_rRet rlRet)
  | 21 => some (rc_rWords sameW)
  | 10 => some rc_rtAct
  | 11 => some rc_rtResA
  | 20 => some rc_rtTake
  | _ => none
def tbADom : List FuncId := [24, 25, 21, 10, 11, 20]
theorem tbA_does : ∀ f rc, f ∈ tbADom → (tbAT rlLook rlRet sameW) f = some rc → RcDoes Tryd.prog varL f rc := by
  intro f rc hf hT
  simp only [tbADom, List.mem_cons, List.not_mem_nil, or_false] at hf
  rcases hf with rfl | rfl | rfl | rfl | rfl | rfl
  · cases hT; exact rc_rLook_does
  · cases hT; exact rc_rRet_does
  · cases hT; exact rc_rWords_does
  · cases hT; exact rc_rtAct_does
  · cases hT; exact rc_rtResA_does
  · cases hT; exact rc_rtTake_does
theorem tbA_fn : ∀ f ∈ tbADom, FnOk Tryd.prog f := fun f hf => fitM.fnOk f (by
    have h0 : (tbADom.all fun f => fsM.contains f) = true := by kernel_rfl
    simpa using List.all_eq_true.1 h0 f hf)
theorem tbA_sound : SoundC Tryd.prog (conC tbADom (rcE varL (tbAT rlLook rlRet sameW))) := rc_sound oneVar tbA_fn tbA_does
noncomputable def tbBT (rlLook : List Int → Int → Int → TpS → List Int → TpS × List Int) (rlRet : List Int → Int → Int → Int → TpS → List Int → Int → TpS × List Int) (sameW : List Int → List Int → Bool) : RTab := fun f => match f with
  | 24 => some (rc_rLook rlLook)
  | 25 => some (rc_rRet rlRet)
  | 21 => some (rc_rWords sameW)
  | 10 => some rc_rtAct
  | 11 => some rc_rtResB
  | 20 => some rc_rtTake
  | _ => none
def tbBDom : List FuncId := [24, 25, 21, 10, 11, 20]
theorem tbB_does : ∀ f rc, f ∈ tbBDom → (tbBT rlLook rlRet sameW) f = some rc → RcDoes Tryd.prog varL f rc := by
  intro f rc hf hT
  simp only [tbBDom, List.mem_cons, List.not_mem_nil, or_false] at hf
  rcases hf with rfl | rfl | rfl | rfl | rfl | rfl
  · cases hT; exact rc_rLook_does
  · cases hT; exact rc_rRet_does
  · cases hT; exact rc_rWords_does
  · cases hT; exact rc_rtAct_does
  · cases hT; exact rc_rtResB_does
  · cases hT; exact rc_rtTake_does
theorem tbB_fn : ∀ f ∈ tbBDom, FnOk Tryd.prog f := fun f hf => fitM.fnOk f (by
    have h0 : (tbBDom.all fun f => fsM.contains f) = true := by kernel_rfl
    simpa using List.all_eq_true.1 h0 f hf)
theorem tbB_sound : SoundC Tryd.prog (conC tbBDom (rcE varL (tbBT rlLook rlRet sameW))) := rc_sound oneVar tbB_fn tbB_does
noncomputable def BFa : Code := bodyOf Tryd.prog 12
theorem BFa_is : Tryd.f12.body = some BFa := by kernel_rfl
noncomputable abbrev FaH (e : TypeId) (xx : RetireSt) (off2 : Nat) (m : List Int) (g2 : TypeId) (off3 : Nat) (g : List Int) (g3 : TypeId) : AH := (KH.low ⟨4, 1, [(0, 0, .cells [(.int .i64 1), (.int .i64 64), (.int .i64 1), (.int .i64 64)] e false), (1, 0, .mach (.retire xx)), (2, 0, .tail off2 .u64 m g2), (3, 0, .tail off3 .u64 g g3)]⟩)
noncomputable abbrev FaEA (rlLook : List Int → Int → Int → TpS → List Int → TpS × List Int) (rlRet : List Int → Int → Int → Int → TpS → List Int → Int → TpS × List Int) (sameW : List Int → List Int → Bool) (c : Code) (lv p : List Nat) (st : Option (List Nat)) (ws : List Bool) (s : KSt) : Option Rs := evA (evCK Tryd.prog cfgM (runK Tryd.prog cfgM fsM (conTk tbADom (rcK varL (tbAT rlLook rlRet sameW))) 14 40) 14) (stopW 4 lv) p c st ws s (finW 4 lv)
theorem Fato_ {c_ : Code} {lv_ p_ p2_ : List Nat} {ws_ : List Bool} {st_ s' : KSt} {Q : Ex → St → Prop} {e : TypeId} {xx : RetireSt} {off2 : Nat} {m : List Int} {g2 : TypeId} {off3 : Nat} {g : List Int} {g3 : TypeId} (hE_ : FaEA rlLook rlRet sameW c_ lv_ p_ (some p2_) ws_ st_ = some (.stop s')) (hq_ : AtW Tryd.prog (FaH e xx off2 m g2 off3 g g3) c_ p2_ s' Q) (hok_ : okCode Tryd.prog.globals.size c_ = true := by kernel_rfl) : AtW Tryd.prog (FaH e xx off2 m g2 off3 g g3) c_ p_ st_ Q := AtW.to fitM tbA_sound (rc_agree _ _ _) 14 40 hok_ hE_ hq_
theorem Fafi_ {c_ : Code} {lv_ p_ : List Nat} {ws_ : List Bool} {st_ s' : KSt} {x : Ex} {Q : Ex → St → Prop} {e : TypeId} {xx : RetireSt} {off2 : Nat} {m : List Int} {g2 : TypeId} {off3 : Nat} {g : List Int} {g3 : TypeId} (hE_ : FaEA rlLook rlRet sameW c_ lv_ p_ none ws_ st_ = some (.fin x s')) (hq_ : Q x s'.low) (hok_ : okCode Tryd.prog.globals.size c_ = true := by kernel_rfl) : AtW Tryd.prog (FaH e xx off2 m g2 off3 g g3) c_ p_ st_ Q := AtW.fin fitM tbA_sound (rc_agree _ _ _) 14 40 hok_ hE_ hq_
theorem FaC1_0_1 : (codeAt [1, 0, 1] BFa) = .block 0 (codeAt [1, 0, 1, 0] BFa) := by kernel_rfl
theorem FaC1_0_1_0 : (codeAt [1, 0, 1, 0] BFa) = .loop (codeAt [1, 0, 1, 0, 0] BFa) := by kernel_rfl
section
variable (rlLook : List Int → Int → Int → TpS → List Int → TpS × List Int) (rlRet : List Int → Int → Int → Int → TpS → List Int → Int → TpS × List Int) (sameW : List Int → List Int → Bool) (dk th ts kp sd : Int) (off2 nm c2 : Nat) (b0 : Int) (lo : Bool) (off3 ng c3 : Nat) (e : TypeId) (xx : RetireSt) (m : List Int) (g2 : TypeId) (g : List Int) (g3 : TypeId) (y : Nat) (xz : RetireSt) (p : List Int) (va : Int)
noncomputable abbrev FaO0 (e : TypeId) : KObj := .cells [(.int .i64 1), (.int .i64 64), (.int .i64 1), (.int .i64 64)] e false
noncomputable abbrev FaO1 (dk th ts kp sd : Int) : KObj := .cells [(.int .u64 dk), (.int .i64 th), (.int .i64 ts), (.int .i64 kp), (.int .u64 sd)] 24 true
noncomputable def FaS0 : KSt := (firstK [(.pointer (some ⟨1, 0, none⟩)), (.agg #[(.int .u64 dk), (.int .i64 th), (.int .i64 ts), (.int .i64 kp), (.int .u64 sd)]), (.slice (some ⟨2, off2, none⟩) nm c2), (.int .u64 b0), (.bool lo), (.slice (some ⟨3, off3, none⟩) ng c3)] 102 ⟨4, 1, [(0, 0, (FaO0 e)), (1, 0, .mach (.retire xx)), (2, 0, .tail off2 .u64 m g2), (3, 0, .tail off3 .u64 g g3)]⟩)
noncomputable def FaS1 : KSt := ⟨(frameL 102 [(0, (.pointer (some ⟨1, 0, none⟩))), (2, (.slice (some ⟨2, off2, none⟩) nm c2)), (3, (.int .u64 b0)), (4, (.bool lo)), (5, (.slice (some ⟨3, off3, none⟩) ng c3)), (7, (.pointer (some ⟨4, 0, none⟩))), (13, (.int .i64 0))]), ⟨5, 1, [(4, 0, (FaO1 dk th ts kp sd)), (0, 0, (FaO0 e)), (1, 0, .mach (.retire xx)), (2, 0, .tail off2 .u64 m g2), (3, 0, .tail off3 .u64 g g3)]⟩⟩
theorem FaW1 : FaEA rlLook rlRet sameW BFa [0, 2, 3, 4, 5, 7, 13] [] (some [1, 0, 1]) [] (FaS0 dk th ts kp sd off2 nm c2 b0 lo off3 ng c3 e xx m g2 g g3) =
  some (.stop (FaS1 dk th ts kp sd off2 nm c2 b0 lo off3 ng c3 e xx m g2 g g3)) := by kernel_rfl
noncomputable def FaS2 : KSt := ⟨(frameL 102 [(0, (.pointer (some ⟨1, 0, none⟩))), (2, (.slice (some ⟨2, off2, none⟩) nm c2)), (3, (.int .u64 b0)), (4, (.bool lo)), (5, (.slice (some ⟨3, off3, none⟩) ng c3)), (7, (.pointer (some ⟨4, 0, none⟩))), (13, (.int .i64 ((y : Nat) : Int)))]), ⟨5, 1, [(4, 0, (FaO1 dk th ts kp sd)), (0, 0, (FaO0 e)), (1, 0, .mach (.retire xz)), (2, 0, .tail off2 .u64 m g2), (3, 0, .tail off3 .u64 g g3)]⟩⟩
theorem FaW2 : FaEA rlLook rlRet sameW (codeAt [1, 0, 1, 0, 0] BFa) [0, 2, 3, 4, 5, 7, 13, 14, 15] [] (some [1, 0, 0, 1, 1, 1]) [true, false, true] (FaS2 dk th ts kp sd off2 nm c2 b0 lo off3 ng c3 e m g2 g g3 y xz) =
  bif (decide (((y : Nat) : Int) ≤ ((ng : Nat) : Int))) then
    if 0 ≤ ((y : Nat) : Int) ∧ ((y : Nat) : Int) ≤ ((c3 : Nat) : Int) then
      bif ((Nat.ble 0 (Int.toNat ((y : Nat) : Int))) && (Nat.ble (Int.toNat ((y : Nat) : Int)) c3)) then
        bif lo then
          bif (Nat.ble off3 off3) then
            bif (Nat.ble ((off3 - off3) + (Int.toNat ((y : Nat) : Int))) (List.length g)) then
              bif (Nat.ble off2 off2) then
                bif (Nat.ble ((off2 - off2) + nm) (List.length m)) then
                  bif ((siteP dk th ts kp) && ((decide (0 ≤ 0)) && ((Nat.ble (List.length (List.take (Int.toNat ((y : Nat) : Int)) (List.drop (off3 - off3) g))) 1000) && (Nat.ble (List.length (List.take nm (List.drop (off2 - off2) m))) 1000)))) then
                    some (.stop ⟨(frameL 102 [(0, (.pointer (some ⟨1, 0, none⟩))), (2, (.slice (some ⟨2, off2, none⟩) nm c2)), (3, (.int .u64 b0)), (4, (.bool lo)), (5, (.slice (some ⟨3, off3, none⟩) ng c3)), (7, (.pointer (some ⟨4, 0, none⟩))), (13, (.int .i64 ((y : Nat) : Int))), (14, (.pointer (some ⟨5, 0, none⟩))), (15, (.slice (some ⟨6, 0, none⟩) (List.length (Prod.snd (rlLook (List.take (Int.toNat ((y : Nat) : Int)) (List.drop (off3 - off3) g)) dk ts (TpS.mk 0 false 0 0 0 0 0) (List.take nm (List.drop (off2 - off2) m))))) (List.length (Prod.snd (rlLook (List.take (Int.toNat ((y : Nat) : Int)) (List.drop (off3 - off3) g)) dk ts (TpS.mk 0 false 0 0 0 0 0) (List.take nm (List.drop (off2 - off2) m)))))))]), ⟨7, 1, [(6, 0, .ints .u64 (Prod.snd (rlLook (List.take (Int.toNat ((y : Nat) : Int)) (List.drop (off3 - off3) g)) dk ts (TpS.mk 0 false 0 0 0 0 0) (List.take nm (List.drop (off2 - off2) m)))) 22 true), (5, 0, .cells [(.slice (some ⟨3, off3, none⟩) (Int.toNat ((y : Nat) : Int)) c3), (.int .i64 (TpS.at_ (Prod.fst (rlLook (List.take (Int.toNat ((y : Nat) : Int)) (List.drop (off3 - off3) g)) dk ts (TpS.mk 0 false 0 0 0 0 0) (List.take nm (List.drop (off2 - off2) m)))))), (.bool (TpS.ov (Prod.fst (rlLook (List.take (Int.toNat ((y : Nat) : Int)) (List.drop (off3 - off3) g)) dk ts (TpS.mk 0 false 0 0 0 0 0) (List.take nm (List.drop (off2 - off2) m)))))), (.int .i64 (TpS.k (Prod.fst (rlLook (List.take (Int.toNat ((y : Nat) : Int)) (List.drop (off3 - off3) g)) dk ts (TpS.mk 0 false 0 0 0 0 0) (List.take nm (List.drop (off2 - off2) m)))))), (.int .u64 (TpS.b (Prod.fst (rlLook (List.take (Int.toNat ((y : Nat) : Int)) (List.drop (off3 - off3) g)) dk ts (TpS.mk 0 false 0 0 0 0 0) (List.take nm (List.drop (off2 - off2) m)))))), (.int .i64 (TpS.c (Prod.fst (rlLook (List.take (Int.toNat ((y : Nat) : Int)) (List.drop (off3 - off3) g)) dk ts (TpS.mk 0 false 0 0 0 0 0) (List.take nm (List.drop (off2 - off2) m)))))), (.int .u64 (TpS.o (Prod.fst (rlLook (List.take (Int.toNat ((y : Nat) : Int)) (List.drop (off3 - off3) g)) dk ts (TpS.mk 0 false 0 0 0 0 0) (List.take nm (List.drop (off2 - off2) m)))))), (.int .u64 (TpS.n (Prod.fst (rlLook (List.take (Int.toNat ((y : Nat) : Int)) (List.drop (off3 - off3) g)) dk ts (TpS.mk 0 false 0 0 0 0 0) (List.take nm (List.drop (off2 - off2) m))))))] 59 true), (4, 0, .cells [(.int .u64 dk), (.int .i64 th), (.int .i64 ts), (.int .i64 kp), (.int .u64 sd)] 24 true), (0, 0, .cells [(.int .i64 1), (.int .i64 64), (.int .i64 1), (.int .i64 64)] e false), (1, 0, .mach (.retire xz)), (2, 0, .tail off2 .u64 m g2), (3, 0, .tail off3 .u64 g g3)]⟩⟩)
                  else
                    none
                else
                  none
              else
                none
            else
              none
          else
            none
        else
          none
      else
        none
    else
      none
  else
    none := by kernel_rfl
noncomputable def FaS3 : KSt := ⟨(frameL 102 [(0, (.pointer (some ⟨1, 0, none⟩))), (2, (.slice (some ⟨2, off2, none⟩) nm c2)), (3, (.int .u64 b0)), (4, (.bool true)), (5, (.slice (some ⟨3, off3, none⟩) ng c3)), (7, (.pointer (some ⟨4, 0, none⟩))), (13, (.int .i64 ((y : Nat) : Int))), (14, (.pointer (some ⟨5, 0, none⟩))), (15, (.slice (some ⟨6, 0, none⟩) (List.length (Prod.snd (rlLook (List.take y g) dk ts (TpS.mk 0 false 0 0 0 0 0) m))) (List.length (Prod.snd (rlLook (List.take y g) dk ts (TpS.mk 0 false 0 0 0 0 0) m)))))]), ⟨7, 1, [(6, 0, .ints .u64 (Prod.snd (rlLook (List.take y g) dk ts (TpS.mk 0 false 0 0 0 0 0) m)) 22 true), (5, 0, .cells [(.slice (some ⟨3, off3, none⟩) (Int.toNat ((y : Nat) : Int)) c3), (.int .i64 (TpS.at_ (Prod.fst (rlLook (List.take y g) dk ts (TpS.mk 0 false 0 0 0 0 0) m)))), (.bool (TpS.ov (Prod.fst (rlLook (List.take y g) dk ts (TpS.mk 0 false 0 0 0 0 0) m)))), (.int .i64 (TpS.k (Prod.fst (rlLook (List.take y g) dk ts (TpS.mk 0 false 0 0 0 0 0) m)))), (.int .u64 (TpS.b (Prod.fst (rlLook (List.take y g) dk ts (TpS.mk 0 false 0 0 0 0 0) m)))), (.int .i64 (TpS.c (Prod.fst (rlLook (List.take y g) dk ts (TpS.mk 0 false 0 0 0 0 0) m)))), (.int .u64 (TpS.o (Prod.fst (rlLook (List.take y g) dk ts (TpS.mk 0 false 0 0 0 0 0) m)))), (.int .u64 (TpS.n (Prod.fst (rlLook (List.take y g) dk ts (TpS.mk 0 false 0 0 0 0 0) m))))] 59 true), (4, 0, (FaO1 dk th ts kp sd)), (0, 0, (FaO0 e)), (1, 0, .mach (.retire xz)), (2, 0, .tail off2 .u64 m g2), (3, 0, .tail off3 .u64 g g3)]⟩⟩
theorem FaW3 : FaEA rlLook rlRet sameW (codeAt [1, 0, 1, 0, 0] BFa) [0, 2, 3, 4, 5, 7, 13, 14, 15] [] (some [1, 0, 0, 1, 1, 1]) [true, false, false] (FaS2 dk th ts kp sd off2 nm c2 b0 lo off3 ng c3 e m g2 g g3 y xz) =
  bif (decide (((y : Nat) : Int) ≤ ((ng : Nat) : Int))) then
    if 0 ≤ ((y : Nat) : Int) ∧ ((y : Nat) : Int) ≤ ((c3 : Nat) : Int) then
      bif ((Nat.ble 0 (Int.toNat ((y : Nat) : Int))) && (Nat.ble (Int.toNat ((y : Nat) : Int)) c3)) then
        bif lo then
          none
        else
          bif (Nat.ble off3 off3) then
            bif (Nat.ble ((off3 - off3) + (Int.toNat ((y : Nat) : Int))) (List.length g)) then
              bif (Nat.ble off2 off2) then
                bif (Nat.ble ((off2 - off2) + nm) (List.length m)) then
                  bif ((siteP dk th ts kp) && ((decide (0 ≤ 0)) && ((Nat.ble (List.length (List.take (Int.toNat ((y : Nat) : Int)) (List.drop (off3 - off3) g))) 1000) && (Nat.ble (List.length (List.take nm (List.drop (off2 - off2) m))) 900)))) then
                    some (.stop ⟨(frameL 102 [(0, (.pointer (some ⟨1, 0, none⟩))), (2, (.slice (some ⟨2, off2, none⟩) nm c2)), (3, (.int .u64 b0)), (4, (.bool lo)), (5, (.slice (some ⟨3, off3, none⟩) ng c3)), (7, (.pointer (some ⟨4, 0, none⟩))), (13, (.int .i64 ((y : Nat) : Int))), (14, (.pointer (some ⟨5, 0, none⟩))), (15, (.slice (some ⟨6, 0, none⟩) (List.length (Prod.snd (rlRet (List.take (Int.toNat ((y : Nat) : Int)) (List.drop (off3 - off3) g)) dk ts kp (TpS.mk 0 false 0 0 0 0 0) (List.take nm (List.drop (off2 - off2) m)) b0))) (List.length (Prod.snd (rlRet (List.take (Int.toNat ((y : Nat) : Int)) (List.drop (off3 - off3) g)) dk ts kp (TpS.mk 0 false 0 0 0 0 0) (List.take nm (List.drop (off2 - off2) m)) b0)))))]), ⟨7, 1, [(6, 0, .ints .u64 (Prod.snd (rlRet (List.take (Int.toNat ((y : Nat) : Int)) (List.drop (off3 - off3) g)) dk ts kp (TpS.mk 0 false 0 0 0 0 0) (List.take nm (List.drop (off2 - off2) m)) b0)) 22 true), (5, 0, .cells [(.slice (some ⟨3, off3, none⟩) (Int.toNat ((y : Nat) : Int)) c3), (.int .i64 (TpS.at_ (Prod.fst (rlRet (List.take (Int.toNat ((y : Nat) : Int)) (List.drop (off3 - off3) g)) dk ts kp (TpS.mk 0 false 0 0 0 0 0) (List.take nm (List.drop (off2 - off2) m)) b0)))), (.bool (TpS.ov (Prod.fst (rlRet (List.take (Int.toNat ((y : Nat) : Int)) (List.drop (off3 - off3) g)) dk ts kp (TpS.mk 0 false 0 0 0 0 0) (List.take nm (List.drop (off2 - off2) m)) b0)))), (.int .i64 (TpS.k (Prod.fst (rlRet (List.take (Int.toNat ((y : Nat) : Int)) (List.drop (off3 - off3) g)) dk ts kp (TpS.mk 0 false 0 0 0 0 0) (List.take nm (List.drop (off2 - off2) m)) b0)))), (.int .u64 (TpS.b (Prod.fst (rlRet (List.take (Int.toNat ((y : Nat) : Int)) (List.drop (off3 - off3) g)) dk ts kp (TpS.mk 0 false 0 0 0 0 0) (List.take nm (List.drop (off2 - off2) m)) b0)))), (.int .i64 (TpS.c (Prod.fst (rlRet (List.take (Int.toNat ((y : Nat) : Int)) (List.drop (off3 - off3) g)) dk ts kp (TpS.mk 0 false 0 0 0 0 0) (List.take nm (List.drop (off2 - off2) m)) b0)))), (.int .u64 (TpS.o (Prod.fst (rlRet (List.take (Int.toNat ((y : Nat) : Int)) (List.drop (off3 - off3) g)) dk ts kp (TpS.mk 0 false 0 0 0 0 0) (List.take nm (List.drop (off2 - off2) m)) b0)))), (.int .u64 (TpS.n (Prod.fst (rlRet (List.take (Int.toNat ((y : Nat) : Int)) (List.drop (off3 - off3) g)) dk ts kp (TpS.mk 0 false 0 0 0 0 0) (List.take nm (List.drop (off2 - off2) m)) b0))))] 59 true), (4, 0, .cells [(.int .u64 dk), (.int .i64 th), (.int .i64 ts), (.int .i64 kp), (.int .u64 sd)] 24 true), (0, 0, .cells [(.int .i64 1), (.int .i64 64), (.int .i64 1), (.int .i64 64)] e false), (1, 0, .mach (.retire xz)), (2, 0, .tail off2 .u64 m g2), (3, 0, .tail off3 .u64 g g3)]⟩⟩)
                  else
                    none
                else
                  none
              else
                none
            else
              none
          else
            none
      else
        none
    else
      none
  else
    none := by kernel_rfl
noncomputable def FaS4 : KSt := ⟨(frameL 102 [(0, (.pointer (some ⟨1, 0, none⟩))), (2, (.slice (some ⟨2, off2, none⟩) nm c2)), (3, (.int .u64 b0)), (4, (.bool false)), (5, (.slice (some ⟨3, off3, none⟩) ng c3)), (7, (.pointer (some ⟨4, 0, none⟩))), (13, (.int .i64 ((y : Nat) : Int))), (14, (.pointer (some ⟨5, 0, none⟩))), (15, (.slice (some ⟨6, 0, none⟩) (List.length (Prod.snd (rlRet (List.take y g) dk ts kp (TpS.mk 0 false 0 0 0 0 0) m b0))) (List.length (Prod.snd (rlRet (List.take y g) dk ts kp (TpS.mk 0 false 0 0 0 0 0) m b0)))))]), ⟨7, 1, [(6, 0, .ints .u64 (Prod.snd (rlRet (List.take y g) dk ts kp (TpS.mk 0 false 0 0 0 0 0) m b0)) 22 true), (5, 0, .cells [(.slice (some ⟨3, off3, none⟩) (Int.toNat ((y : Nat) : Int)) c3), (.int .i64 (TpS.at_ (Prod.fst (rlRet (List.take y g) dk ts kp (TpS.mk 0 false 0 0 0 0 0) m b0)))), (.bool (TpS.ov (Prod.fst (rlRet (List.take y g) dk ts kp (TpS.mk 0 false 0 0 0 0 0) m b0)))), (.int .i64 (TpS.k (Prod.fst (rlRet (List.take y g) dk ts kp (TpS.mk 0 false 0 0 0 0 0) m b0)))), (.int .u64 (TpS.b (Prod.fst (rlRet (List.take y g) dk ts kp (TpS.mk 0 false 0 0 0 0 0) m b0)))), (.int .i64 (TpS.c (Prod.fst (rlRet (List.take y g) dk ts kp (TpS.mk 0 false 0 0 0 0 0) m b0)))), (.int .u64 (TpS.o (Prod.fst (rlRet (List.take y g) dk ts kp (TpS.mk 0 false 0 0 0 0 0) m b0)))), (.int .u64 (TpS.n (Prod.fst (rlRet (List.take y g) dk ts kp (TpS.mk 0 false 0 0 0 0 0) m b0))))] 59 true), (4, 0, (FaO1 dk th ts kp sd)), (0, 0, (FaO0 e)), (1, 0, .mach (.retire xz)), (2, 0, .tail off2 .u64 m g2), (3, 0, .tail off3 .u64 g g3)]⟩⟩
noncomputable def FaS5 : KSt := ⟨(frameL 102 [(0, (.pointer (some ⟨1, 0, none⟩))), (2, (.slice (some ⟨2, off2, none⟩) nm c2)), (3, (.int .u64 b0)), (4, (.bool lo)), (5, (.slice (some ⟨3, off3, none⟩) ng c3)), (7, (.pointer (some ⟨4, 0, none⟩))), (13, (.int .i64 ((y : Nat) : Int))), (14, (.pointer (some ⟨5, 0, none⟩))), (15, (.slice (some ⟨6, 0, none⟩) (List.length p) (List.length p)))]), ⟨7, 1, [(6, 0, .ints .u64 p 22 true), (5, 0, .cells [(.slice (some ⟨3, off3, none⟩) y c3), (.int .i64 va), (.bool false), (.int .i64 (rtK xz)), (.int .u64 (rtB xz)), (.int .i64 (rtC xz)), (.int .u64 0), (.int .u64 0)] 59 true), (4, 0, (FaO1 dk th ts kp sd)), (0, 0, (FaO0 e)), (1, 0, .mach (.retire xz)), (2, 0, .tail off2 .u64 m g2), (3, 0, .tail off3 .u64 g g3)]⟩⟩
noncomputable def FaS6 : KSt := ⟨(frameL 102 [(0, (.pointer (some ⟨1, 0, none⟩))), (2, (.slice (some ⟨2, off2, none⟩) nm c2)), (3, (.int .u64 b0)), (4, (.bool lo)), (5, (.slice (some ⟨3, off3, none⟩) ng c3)), (7, (.pointer (some ⟨4, 0, none⟩))), (13, (.int .i64 ((y : Nat) : Int))), (91, (.bool true))]), ⟨5, 1, [(4, 0, (FaO1 dk th ts kp sd)), (0, 0, (FaO0 e)), (1, 0, .mach (.retire xz)), (2, 0, .tail off2 .u64 m g2), (3, 0, .tail off3 .u64 g g3)]⟩⟩
noncomputable def FaS7 : KSt := ⟨(frameL 102 [(0, (.pointer (some ⟨1, 0, none⟩))), (2, (.slice (some ⟨2, off2, none⟩) nm c2)), (3, (.int .u64 b0)), (4, (.bool lo)), (5, (.slice (some ⟨3, off3, none⟩) ng c3)), (7, (.pointer (some ⟨4, 0, none⟩))), (13, (.int .i64 ((y : Nat) : Int))), (91, (.bool false))]), ⟨5, 1, [(4, 0, (FaO1 dk th ts kp sd)), (0, 0, (FaO0 e)), (1, 0, .mach (.retire xz)), (2, 0, .tail off2 .u64 m g2), (3, 0, .tail off3 .u64 g g3)]⟩⟩
theorem FaW4 : FaEA rlLook rlRet sameW (codeAt [1, 0, 1, 0, 0, 1, 0, 0, 1, 1, 1] BFa) [0, 2, 3, 4, 5, 7, 13, 91] [] (some [1, 1, 0, 1]) [] (FaS5 dk th ts kp sd off2 nm c2 b0 lo off3 ng c3 e m g2 g g3 y xz p va) =
  bif ((rtOk xz) && ((rtFin xz) && (Nat.ble 1 (List.length (rtRest xz))))) then
    bif (rtOk xz) then
      bif (!((rtMore xz) == false)) then
        some (.stop (FaS6 dk th ts kp sd off2 nm c2 b0 lo off3 ng c3 e m g2 g g3 y xz))
      else
        bif (!(((rtK xz) == (rtK xz)) && (((rtB xz) == (rtB xz)) && (((rtC xz) == (rtC xz)) && true)))) then
          some (.stop (FaS6 dk th ts kp sd off2 nm c2 b0 lo off3 ng c3 e m g2 g g3 y xz))
        else
          bif (Nat.ble (0 + (List.length (rtRest xz))) (List.length (rtRest xz))) then
            bif (Nat.ble (0 + (List.length p)) (List.length p)) then
              bif ((sameW (List.take (List.length (rtRest xz)) (List.drop 0 (rtRest xz))) (List.take (List.length p) (List.drop 0 p))) && (Nat.ble (List.length (List.take (List.length (rtRest xz)) (List.drop 0 (rtRest xz)))) 1000)) then
                some (.stop (FaS7 dk th ts kp sd off2 nm c2 b0 lo off3 ng c3 e m g2 g g3 y xz))
              else
                none
            else
              none
          else
            none
    else
      none
  else
    none := by kernel_rfl
theorem FaW5 : FaEA rlLook rlRet sameW (codeAt [1, 0, 1, 0, 0, 1, 0, 0, 1, 1, 1] BFa) [0, 2, 3, 4, 5, 7, 13] [1, 1, 0, 1] (some [1, 1, 1]) [false] (FaS7 dk th ts kp sd off2 nm c2 b0 lo off3 ng c3 e m g2 g g3 y xz) =
  some (.stop (FaS2 dk th ts kp sd off2 nm c2 b0 lo off3 ng c3 e m g2 g g3 y xz)) := by kernel_rfl
theorem FaW6 : FaEA rlLook rlRet sameW (codeAt [1, 0, 1, 0, 0, 1, 0, 0, 1, 1, 1, 1, 1, 1] BFa) [0, 2, 3, 4, 5, 7, 13] [] none [true] (FaS2 dk th ts kp sd off2 nm c2 b0 lo off3 ng c3 e m g2 g g3 y xz) =
  bif (decide (((y : Nat) : Int) < ((ng : Nat) : Int))) then
    if 0 ≤ ((y : Nat) : Int) ∧ ((y : Nat) : Int) < ((ng : Nat) : Int) then
      bif (Nat.ble off3 (off3 + ((Int.toNat ((y : Nat) : Int)) * 1))) then
        obind (g[((off3 + ((Int.toNat ((y : Nat) : Int)) * 1)) - off3)]?) fun zn1 =>
          bif (rtOk xz) then
            some (.fin .normal ⟨(frameL 102 [(0, (.pointer (some ⟨1, 0, none⟩))), (2, (.slice (some ⟨2, off2, none⟩) nm c2)), (3, (.int .u64 b0)), (4, (.bool lo)), (5, (.slice (some ⟨3, off3, none⟩) ng c3)), (7, (.pointer (some ⟨4, 0, none⟩))), (13, (.int .i64 ((y : Nat) : Int)))]), ⟨5, 1, [(4, 0, .cells [(.int .u64 dk), (.int .i64 th), (.int .i64 ts), (.int .i64 kp), (.int .u64 sd)] 24 true), (0, 0, .cells [(.int .i64 1), (.int .i64 64), (.int .i64 1), (.int .i64 64)] e false), (1, 0, .mach (.retire (rtTake xz zn1))), (2, 0, .tail off2 .u64 m g2), (3, 0, .tail off3 .u64 g g3)]⟩⟩)
          else
            none
      else
        none
    else
      none
  else
    none := by kernel_rfl
noncomputable def FaS8 : KSt := ⟨(frameL 102 [(0, (.pointer (some ⟨1, 0, none⟩))), (2, (.slice (some ⟨2, off2, none⟩) nm c2)), (3, (.int .u64 b0)), (4, (.bool lo)), (5, (.slice (some ⟨3, off3, none⟩) ng c3)), (7, (.pointer (some ⟨4, 0, none⟩))), (13, (.int .i64 ((y : Nat) : Int)))]), ⟨5, 1, [(4, 0, (FaO1 dk th ts kp sd)), (0, 0, (FaO0 e)), (1, 0, .mach (.retire (rtTake xz (g.getD y 0)))), (2, 0, .tail off2 .u64 m g2), (3, 0, .tail off3 .u64 g g3)]⟩⟩
theorem FaW7 : FaEA rlLook rlRet sameW (codeAt [1, 0, 1, 0, 0, 1, 0, 0, 1, 1, 1, 1, 1, 1] BFa) [0, 2, 3, 4, 5, 7, 13] [] none [false] (FaS2 dk th ts kp sd off2 nm c2 b0 lo off3 ng c3 e m g2 g g3 y xz) =
  bif (decide (((y : Nat) : Int) < ((ng : Nat) : Int))) then
    none
  else
    some (.fin .normal (FaS2 dk th ts kp sd off2 nm c2 b0 lo off3 ng c3 e m g2 g g3 y xz)) := by kernel_rfl
noncomputable def FaS9 : KSt := ⟨(frameL 102 []), ⟨4, 1, [(0, 0, (FaO0 e)), (1, 0, .mach (.retire xz)), (2, 0, .tail off2 .u64 m g2), (3, 0, .tail off3 .u64 g g3)]⟩⟩
theorem FaW8 : FaEA rlLook rlRet sameW (codeAt [1, 0, 1, 0, 0] BFa) [] [] none [false] (FaS2 dk th ts kp sd off2 nm c2 b0 lo off3 ng c3 e m g2 g g3 y xz) =
  bif (decide (((y : Nat) : Int) ≤ ((ng : Nat) : Int))) then
    none
  else
    some (.fin (.exit 0) (FaS9 off2 off3 e m g2 g g3 xz)) := by kernel_rfl
noncomputable def FaS10 : KSt := ⟨(frameL 102 [(12, (.bool true))]), ⟨4, 1, [(0, 0, (FaO0 e)), (1, 0, .mach (.retire xz)), (2, 0, .tail off2 .u64 m g2), (3, 0, .tail off3 .u64 g g3)]⟩⟩
theorem FaW9 : FaEA rlLook rlRet sameW (codeAt [1, 1] BFa) [12] [] none [] (FaS9 off2 off3 e m g2 g g3 xz) =
  some (.fin .ret (FaS10 off2 off3 e m g2 g g3 xz)) := by kernel_rfl
theorem FaW10 : FaEA rlLook rlRet sameW (codeAt [1, 0, 1, 0, 0, 1, 1] BFa) [0, 2, 3, 4, 5, 7, 13] [] none [] (FaS2 dk th ts kp sd off2 nm c2 b0 lo off3 ng c3 e m g2 g g3 y xz) =
  some (.fin .normal ⟨(frameL 102 [(0, (.pointer (some ⟨1, 0, none⟩))), (2, (.slice (some ⟨2, off2, none⟩) nm c2)), (3, (.int .u64 b0)), (4, (.bool lo)), (5, (.slice (some ⟨3, off3, none⟩) ng c3)), (7, (.pointer (some ⟨4, 0, none⟩))), (13, (.int .i64 (IntKind.wrap .i64 (((y : Nat) : Int) + 1))))]), ⟨5, 1, [(4, 0, .cells [(.int .u64 dk), (.int .i64 th), (.int .i64 ts), (.int .i64 kp), (.int .u64 sd)] 24 true), (0, 0, .cells [(.int .i64 1), (.int .i64 64), (.int .i64 1), (.int .i64 64)] e false), (1, 0, .mach (.retire xz)), (2, 0, .tail off2 .u64 m g2), (3, 0, .tail off3 .u64 g g3)]⟩⟩) := by kernel_rfl
noncomputable def FaS11 : KSt := ⟨(frameL 102 [(0, (.pointer (some ⟨1, 0, none⟩))), (2, (.slice (some ⟨2, off2, none⟩) nm c2)), (3, (.int .u64 b0)), (4, (.bool lo)), (5, (.slice (some ⟨3, off3, none⟩) ng c3)), (7, (.pointer (some ⟨4, 0, none⟩))), (13, (.int .i64 (((y : Nat) : Int) + 1)))]), ⟨5, 1, [(4, 0, (FaO1 dk th ts kp sd)), (0, 0, (FaO0 e)), (1, 0, .mach (.retire xz)), (2, 0, .tail off2 .u64 m g2), (3, 0, .tail off3 .u64 g g3)]⟩⟩
noncomputable def FaS12 : KSt := ⟨(frameL 102 [(0, (.pointer (some ⟨1, 0, none⟩))), (2, (.slice (some ⟨2, off2, none⟩) nm c2)), (3, (.int .u64 b0)), (4, (.bool lo)), (5, (.slice (some ⟨3, off3, none⟩) ng c3)), (7, (.pointer (some ⟨4, 0, none⟩))), (13, (.int .i64 ((y : Nat) : Int))), (14, (.pointer (some ⟨5, 0, none⟩))), (15, (.slice (some ⟨6, 0, none⟩) (List.length p) (List.length p)))]), ⟨7, 1, [(6, 0, .ints .u64 p 22 true), (5, 0, .cells [(.slice (some ⟨3, off3, none⟩) y c3), (.int .i64 va), (.bool true), (.int .i64 (rtK xz)), (.int .u64 (rtB xz)), (.int .i64 (rtC xz)), (.int .u64 0), (.int .u64 0)] 59 true), (4, 0, (FaO1 dk th ts kp sd)), (0, 0, (FaO0 e)), (1, 0, .mach (.retire xz)), (2, 0, .tail off2 .u64 m g2), (3, 0, .tail off3 .u64 g g3)]⟩⟩
end
theorem Fain {e : TypeId} {xx : RetireSt} {off2 : Nat} {m : List Int} {g2 : TypeId} {off3 : Nat} {g : List Int} {g3 : TypeId} {dk th ts kp sd : Int} {nm c2 : Nat} {b0 : Int} {lo : Bool} {ng c3 : Nat}   {Q : Ex → St → Prop} (hq : Gets Tryd.prog (FaH e xx off2 m g2 off3 g g3) (codeAt [1, 0, 1] BFa) (KSt.low (FaS1 dk th ts kp sd off2 nm c2 b0 lo off3 ng c3 e xx m g2 g g3)) (onN (fun s => Gets Tryd.prog (FaH e xx off2 m g2 off3 g g3) (codeAt [1, 1] BFa) s (Q)) (Q))) : Gets Tryd.prog (FaH e xx off2 m g2 off3 g g3) BFa (KSt.low (FaS0 dk th ts kp sd off2 nm c2 b0 lo off3 ng c3 e xx m g2 g g3)) Q := by
  refine AtW.gets ?_
  refine Fato_ (FaW1 ..) ?_
  exact AtW.place hq
theorem Fal {dk ts kp th : Int} {m : List Int} {nm : Nat} {g : List Int} {ng c3 y : Nat} {lo : Bool} {e : TypeId} {xx : RetireSt} {off2 : Nat} {g2 : TypeId} {off3 : Nat} {g3 : TypeId} {sd : Int} {c2 : Nat} {b0 : Int} {xz : RetireSt} (hd : ¬ dk = 0) (h1 : 1 ≤ ts) (h2 : ts ≤ 64) (h3 : 1 ≤ kp) (h4 : kp ≤ 64) (h5 : 0 ≤ th) (h6 : th < ts) (hm : m.length = nm) (hmn : nm ≤ 900) (hg : g.length = ng) (hgn : ng ≤ 900) (hc : ng ≤ c3) (hy : y ≤ ng) (hlo : lo = true)   {Q : Ex → St → Prop} (hq : Gets Tryd.prog (FaH e xx off2 m g2 off3 g g3) (codeAt [1, 0, 1, 0, 0, 1, 0, 0, 1, 1, 1] BFa) (KSt.low (FaS3 rlLook dk th ts kp sd off2 nm c2 b0 off3 ng c3 e m g2 g g3 y xz)) (onB 1 (onN (fun s => Gets Tryd.prog (FaH e xx off2 m g2 off3 g g3) (codeAt [1, 0, 1, 0, 0, 1, 1] BFa) s (Q)) (Q)))) : Gets Tryd.prog (FaH e xx off2 m g2 off3 g g3) (codeAt [1, 0, 1, 0, 0] BFa) (KSt.low (FaS2 dk th ts kp sd off2 nm c2 b0 lo off3 ng c3 e m g2 g g3 y xz)) Q := by
  refine AtW.gets ?_
  refine Fato_ (s' := (FaS3 rlLook dk th ts kp sd off2 nm c2 b0 off3 ng c3 e m g2 g g3 y xz)) ((FaW2 ..).trans (by rw [dT, iP, condT (and_t (ble_t (by omega)) (ble_t (by omega))), condT (hlo), lT, lT2, lT, lT2, condT (and_t (siteP_t hd h1 h2 h3 h4 h5 h6) (and_t (decide_eq_true (by omega)) (and_t (by rw [List.length_take, List.length_drop]; exact ble_t (by omega)) (by rw [Nat.sub_self, List.drop_zero, ← hm, List.take_length]; exact ble_t (by omega))))), (show lo = true from hlo), (show (List.take (Int.toNat ((y : Nat) : Int)) (List.drop (off3 - off3) g)) = (List.take y g) from by rw [Nat.sub_self, List.drop_zero, Int.toNat_natCast]), (show (List.take nm (List.drop (off2 - off2) m)) = m from by rw [Nat.sub_self, List.drop_zero, ← hm, List.take_length])] <;> rfl)) ?_
  exact AtW.place hq
theorem Far {dk ts kp th : Int} {m : List Int} {nm : Nat} {g : List Int} {ng c3 y : Nat} {lo : Bool} {e : TypeId} {xx : RetireSt} {off2 : Nat} {g2 : TypeId} {off3 : Nat} {g3 : TypeId} {sd : Int} {c2 : Nat} {b0 : Int} {xz : RetireSt} (hd : ¬ dk = 0) (h1 : 1 ≤ ts) (h2 : ts ≤ 64) (h3 : 1 ≤ kp) (h4 : kp ≤ 64) (h5 : 0 ≤ th) (h6 : th < ts) (hm : m.length = nm) (hmn : nm ≤ 900) (hg : g.length = ng) (hgn : ng ≤ 900) (hc : ng ≤ c3) (hy : y ≤ ng) (hlo : lo = false)   {Q : Ex → St → Prop} (hq : Gets Tryd.prog (FaH e xx off2 m g2 off3 g g3) (codeAt [1, 0, 1, 0, 0, 1, 0, 0, 1, 1, 1] BFa) (KSt.low (FaS4 rlRet dk th ts kp sd off2 nm c2 b0 off3 ng c3 e m g2 g g3 y xz)) (onB 1 (onN (fun s => Gets Tryd.prog (FaH e xx off2 m g2 off3 g g3) (codeAt [1, 0, 1, 0, 0, 1, 1] BFa) s (Q)) (Q)))) : Gets Tryd.prog (FaH e xx off2 m g2 off3 g g3) (codeAt [1, 0, 1, 0, 0] BFa) (KSt.low (FaS2 dk th ts kp sd off2 nm c2 b0 lo off3 ng c3 e m g2 g g3 y xz)) Q := by
  refine AtW.gets ?_
  refine Fato_ (s' := (FaS4 rlRet dk th ts kp sd off2 nm c2 b0 off3 ng c3 e m g2 g g3 y xz)) ((FaW3 ..).trans (by rw [dT, iP, condT (and_t (ble_t (by omega)) (ble_t (by omega))), condF (hlo), lT, lT2, lT, lT2, condT (and_t (siteP_t hd h1 h2 h3 h4 h5 h6) (and_t (decide_eq_true (by omega)) (and_t (by rw [List.length_take, List.length_drop]; exact ble_t (by omega)) (by rw [Nat.sub_self, List.drop_zero, ← hm, List.take_length]; exact ble_t (by omega))))), (show lo = false from hlo), (show (List.take (Int.toNat ((y : Nat) : Int)) (List.drop (off3 - off3) g)) = (List.take y g) from by rw [Nat.sub_self, List.drop_zero, Int.toNat_natCast]), (show (List.take nm (List.drop (off2 - off2) m)) = m from by rw [Nat.sub_self, List.drop_zero, ← hm, List.take_length])] <;> rfl)) ?_
  exact AtW.place hq
theorem Fawa {xz : RetireSt} {p : List Int} {e : TypeId} {xx : RetireSt} {off2 : Nat} {m : List Int} {g2 : TypeId} {off3 : Nat} {g : List Int} {g3 : TypeId} {dk th ts kp sd : Int} {nm c2 : Nat} {b0 : Int} {lo : Bool} {ng c3 y : Nat} {va : Int} (hok : rtOk xz = true) (hpn : p.length ≤ 1000) (hf : rtFin xz = true) (hr : 1 ≤ (rtRest xz).length) (hrn : (rtRest xz).length ≤ 1000) (e1 : rtMore xz = false) (hw : sameW (rtRest xz) p = true)   {Q : Ex → St → Prop} (hq : Gets Tryd.prog (FaH e xx off2 m g2 off3 g g3) (codeAt [1, 0, 1, 0, 0, 1, 0, 0, 1, 1, 1, 1, 1, 1] BFa) (KSt.low (FaS2 dk th ts kp sd off2 nm c2 b0 lo off3 ng c3 e m g2 g g3 y xz)) (Q)) : Gets Tryd.prog (FaH e xx off2 m g2 off3 g g3) (codeAt [1, 0, 1, 0, 0, 1, 0, 0, 1, 1, 1] BFa) (KSt.low (FaS5 dk th ts kp sd off2 nm c2 b0 lo off3 ng c3 e m g2 g g3 y xz p va)) Q := by
  refine AtW.gets ?_
  refine Fato_ ((FaW4 ..).trans (by rw [condT (and_t (hok) (and_t (hf) (ble_t (by (first | omega | ((try simp (disch := omega) only [wrap_i64_id]) <;> omega)))))), condT (hok), condF (not_f (by rw [e1]; rfl)), condF (not_f (and_t (beq_self_eq_true _) (and_t (beq_self_eq_true _) (and_t (beq_self_eq_true _) (rfl))))), lT2, lT2, condT (and_t (by rw [List.drop_zero, List.take_length, List.drop_zero, List.take_length]; exact hw) (by rw [List.length_take]; exact ble_t (by omega)))])) ?_
  refine Fato_ (FaW5 ..) ?_
  exact AtW.place hq
theorem Fat {xz : RetireSt} {g : List Int} {ng y : Nat} {dk th ts kp sd : Int} {off2 nm c2 : Nat} {b0 : Int} {lo : Bool} {off3 c3 : Nat} {e : TypeId} {m : List Int} {g2 g3 : TypeId} {xx : RetireSt} (hok : rtOk xz = true) (hg : g.length = ng) (hgn : ng ≤ 900) (hy : y < ng)   {Q : Ex → St → Prop} (hq : Q .normal (KSt.low (FaS8 dk th ts kp sd off2 nm c2 b0 lo off3 ng c3 e m g2 g g3 y xz))) : Gets Tryd.prog (FaH e xx off2 m g2 off3 g g3) (codeAt [1, 0, 1, 0, 0, 1, 0, 0, 1, 1, 1, 1, 1, 1] BFa) (KSt.low (FaS2 dk th ts kp sd off2 nm c2 b0 lo off3 ng c3 e m g2 g g3 y xz)) Q := by
  refine AtW.gets ?_
  exact Fafi_ (x := .normal) (s' := (FaS8 dk th ts kp sd off2 nm c2 b0 lo off3 ng c3 e m g2 g g3 y xz)) ((FaW6 ..).trans (by rw [dT, iP, lT, obind_at (k := ((Int.toNat ((y : Nat) : Int)) * 1)) (by omega) (by omega), condT (hok), (show ((Int.toNat ((y : Nat) : Int)) * 1) = y from by rw [Nat.mul_one, Int.toNat_natCast])] <;> rfl)) hq
theorem Fan {y ng : Nat} {dk th ts kp sd : Int} {off2 nm c2 : Nat} {b0 : Int} {lo : Bool} {off3 c3 : Nat} {e : TypeId} {m : List Int} {g2 : TypeId} {g : List Int} {g3 : TypeId} {xz : RetireSt} {xx : RetireSt} (hy : ¬ y < ng)   {Q : Ex → St → Prop} (hq : Q .normal (KSt.low (FaS2 dk th ts kp sd off2 nm c2 b0 lo off3 ng c3 e m g2 g g3 y xz))) : Gets Tryd.prog (FaH e xx off2 m g2 off3 g g3) (codeAt [1, 0, 1, 0, 0, 1, 0, 0, 1, 1, 1, 1, 1, 1] BFa) (KSt.low (FaS2 dk th ts kp sd off2 nm c2 b0 lo off3 ng c3 e m g2 g g3 y xz)) Q := by
  refine AtW.gets ?_
  exact Fafi_ ((FaW7 ..).trans (by rw [dF])) hq
theorem Fax {y ng off2 off3 : Nat} {e : TypeId} {m : List Int} {g2 : TypeId} {g : List Int} {g3 : TypeId} {xz : RetireSt} {xx : RetireSt} {dk th ts kp sd : Int} {nm c2 : Nat} {b0 : Int} {lo : Bool} {c3 : Nat} (hy : ¬ y ≤ ng)   {Q : Ex → St → Prop} (hq : Q (.exit 0) (KSt.low (FaS9 off2 off3 e m g2 g g3 xz))) : Gets Tryd.prog (FaH e xx off2 m g2 off3 g g3) (codeAt [1, 0, 1, 0, 0] BFa) (KSt.low (FaS2 dk th ts kp sd off2 nm c2 b0 lo off3 ng c3 e m g2 g g3 y xz)) Q := by
  refine AtW.gets ?_
  exact Fafi_ ((FaW8 ..).trans (by rw [dF])) hq
theorem Fae {off2 off3 : Nat} {e : TypeId} {m : List Int} {g2 : TypeId} {g : List Int} {g3 : TypeId} {xz : RetireSt} {xx : RetireSt}   {Q : Ex → St → Prop} (hq : Q .ret (KSt.low (FaS10 off2 off3 e m g2 g g3 xz))) : Gets Tryd.prog (FaH e xx off2 m g2 off3 g g3) (codeAt [1, 1] BFa) (KSt.low (FaS9 off2 off3 e m g2 g g3 xz)) Q := by
  refine AtW.gets ?_
  exact Fafi_ (FaW9 ..) hq
theorem Fap {ng y : Nat} {dk th ts kp sd : Int} {off2 nm c2 : Nat} {b0 : Int} {lo : Bool} {off3 c3 : Nat} {e : TypeId} {m : List Int} {g2 : TypeId} {g : List Int} {g3 : TypeId} {xz : RetireSt} {xx : RetireSt} (hgn : ng ≤ 900) (hy : y ≤ ng)   {Q : Ex → St → Prop} (hq : Q .normal (KSt.low (FaS11 dk th ts kp sd off2 nm c2 b0 lo off3 ng c3 e m g2 g g3 y xz))) : Gets Tryd.prog (FaH e xx off2 m g2 off3 g g3) (codeAt [1, 0, 1, 0, 0, 1, 1] BFa) (KSt.low (FaS2 dk th ts kp sd off2 nm c2 b0 lo off3 ng c3 e m g2 g g3 y xz)) Q := by
  refine AtW.gets ?_
  exact Fafi_ (x := .normal) (s' := (FaS11 dk th ts kp sd off2 nm c2 b0 lo off3 ng c3 e m g2 g g3 y xz)) ((FaW10 ..).trans (by rw [(show (IntKind.wrap .i64 (((y : Nat) : Int) + 1)) = (((y : Nat) : Int) + 1) from wi)] <;> rfl)) hq
noncomputable def BFb : Code := bodyOf Tryd.prog 12
noncomputable abbrev FbH (e : TypeId) (xx : RetireSt) (off2 : Nat) (m : List Int) (g2 : TypeId) (off3 : Nat) (g : List Int) (g3 : TypeId) : AH := (KH.low ⟨4, 1, [(0, 0, .cells [(.int .i64 1), (.int .i64 64), (.int .i64 1), (.int .i64 64)] e false), (1, 0, .mach (.retire xx)), (2, 0, .tail off2 .u64 m g2), (3, 0, .tail off3 .u64 g g3)]⟩)
noncomputable abbrev FbEA (rlLook : List Int → Int → Int → TpS → List Int → TpS × List Int) (rlRet : List Int → Int → Int → Int → TpS → List Int → Int → TpS × List Int) (sameW : List Int → List Int → Bool) (c : Code) (lv p : List Nat) (st : Option (List Nat)) (ws : List Bool) (s : KSt) : Option Rs := evA (evCK Tryd.prog cfgM (runK Tryd.prog cfgM fsM (conTk tbBDom (rcK varL (tbBT rlLook rlRet sameW))) 14 40) 14) (stopW 4 lv) p c st ws s (finW 4 lv)
theorem Fbto_ {c_ : Code} {lv_ p_ p2_ : List Nat} {ws_ : List Bool} {st_ s' : KSt} {Q : Ex → St → Prop} {e : TypeId} {xx : RetireSt} {off2 : Nat} {m : List Int} {g2 : TypeId} {off3 : Nat} {g : List Int} {g3 : TypeId} (hE_ : FbEA rlLook rlRet sameW c_ lv_ p_ (some p2_) ws_ st_ = some (.stop s')) (hq_ : AtW Tryd.prog (FbH e xx off2 m g2 off3 g g3) c_ p2_ s' Q) (hok_ : okCode Tryd.prog.globals.size c_ = true := by kernel_rfl) : AtW Tryd.prog (FbH e xx off2 m g2 off3 g g3) c_ p_ st_ Q := AtW.to fitM tbB_sound (rc_agree _ _ _) 14 40 hok_ hE_ hq_
section
variable (rlLook : List Int → Int → Int → TpS → List Int → TpS × List Int) (rlRet : List Int → Int → Int → Int → TpS → List Int → Int → TpS × List Int) (sameW : List Int → List Int → Bool) (off2 nm c2 : Nat) (b0 : Int) (lo : Bool) (off3 ng c3 y : Nat) (p : List Int) (va : Int) (xz : RetireSt) (dk th ts kp sd : Int) (e : TypeId) (m : List Int) (g2 : TypeId) (g : List Int) (g3 : TypeId)
noncomputable abbrev FbO0 (dk th ts kp sd : Int) : KObj := .cells [(.int .u64 dk), (.int .i64 th), (.int .i64 ts), (.int .i64 kp), (.int .u64 sd)] 24 true
noncomputable abbrev FbO1 (e : TypeId) : KObj := .cells [(.int .i64 1), (.int .i64 64), (.int .i64 1), (.int .i64 64)] e false
noncomputable def FbS0 : KSt := ⟨(frameL 102 [(0, (.pointer (some ⟨1, 0, none⟩))), (2, (.slice (some ⟨2, off2, none⟩) nm c2)), (3, (.int .u64 b0)), (4, (.bool lo)), (5, (.slice (some ⟨3, off3, none⟩) ng c3)), (7, (.pointer (some ⟨4, 0, none⟩))), (13, (.int .i64 ((y : Nat) : Int))), (14, (.pointer (some ⟨5, 0, none⟩))), (15, (.slice (some ⟨6, 0, none⟩) (List.length p) (List.length p)))]), ⟨7, 1, [(6, 0, .ints .u64 p 22 true), (5, 0, .cells [(.slice (some ⟨3, off3, none⟩) y c3), (.int .i64 va), (.bool false), (.int .i64 (rtK xz)), (.int .u64 (rtB xz)), (.int .i64 (rtC xz)), (.int .u64 0), (.int .u64 0)] 59 true), (4, 0, (FbO0 dk th ts kp sd)), (0, 0, (FbO1 e)), (1, 0, .mach (.retire xz)), (2, 0, .tail off2 .u64 m g2), (3, 0, .tail off3 .u64 g g3)]⟩⟩
noncomputable def FbS1 : KSt := ⟨(frameL 102 [(0, (.pointer (some ⟨1, 0, none⟩))), (2, (.slice (some ⟨2, off2, none⟩) nm c2)), (3, (.int .u64 b0)), (4, (.bool lo)), (5, (.slice (some ⟨3, off3, none⟩) ng c3)), (7, (.pointer (some ⟨4, 0, none⟩))), (13, (.int .i64 ((y : Nat) : Int))), (91, (.bool true))]), ⟨5, 1, [(4, 0, (FbO0 dk th ts kp sd)), (0, 0, (FbO1 e)), (1, 0, .mach (.retire xz)), (2, 0, .tail off2 .u64 m g2), (3, 0, .tail off3 .u64 g g3)]⟩⟩
noncomputable def FbS2 : KSt := ⟨(frameL 102 [(0, (.pointer (some ⟨1, 0, none⟩))), (2, (.slice (some ⟨2, off2, none⟩) nm c2)), (3, (.int .u64 b0)), (4, (.bool lo)), (5, (.slice (some ⟨3, off3, none⟩) ng c3)), (7, (.pointer (some ⟨4, 0, none⟩))), (13, (.int .i64 ((y : Nat) : Int))), (91, (.bool false))]), ⟨5, 1, [(4, 0, (FbO0 dk th ts kp sd)), (0, 0, (FbO1 e)), (1, 0, .mach (.retire xz)), (2, 0, .tail off2 .u64 m g2), (3, 0, .tail off3 .u64 g g3)]⟩⟩
theorem FbW1 : FbEA rlLook rlRet sameW (codeAt [1, 0, 1, 0, 0, 1, 0, 0, 1, 1, 1] BFb) [0, 2, 3, 4, 5, 7, 13, 91] [] (some [1, 1, 0, 1]) [] (FbS0 off2 nm c2 b0 lo off3 ng c3 y p va xz dk th ts kp sd e m g2 g g3) =
  bif ((rtOk xz) && (!((rtFin xz) && (Nat.ble 1 (List.length (rtRest xz)))))) then
    bif (rtOk xz) then
      bif (!((rtMore xz) == false)) then
        some (.stop (FbS1 off2 nm c2 b0 lo off3 ng c3 y xz dk th ts kp sd e m g2 g g3))
      else
        bif (!(((rtK xz) == (rtK xz)) && (((rtB xz) == (rtB xz)) && (((rtC xz) == (rtC xz)) && true)))) then
          some (.stop (FbS1 off2 nm c2 b0 lo off3 ng c3 y xz dk th ts kp sd e m g2 g g3))
        else
          bif ((rtFin xz) == false) then
            some (.stop (FbS1 off2 nm c2 b0 lo off3 ng c3 y xz dk th ts kp sd e m g2 g g3))
          else
            bif (rtFin xz) then
              bif (Nat.ble (0 + (List.length p)) (List.length p)) then
                bif ((sameW ([] : List Int) (List.take (List.length p) (List.drop 0 p))) && (Nat.ble (List.length ([] : List Int)) 1000)) then
                  bif (!(rtFin xz)) then
                    some (.stop (FbS2 off2 nm c2 b0 lo off3 ng c3 y xz dk th ts kp sd e m g2 g g3))
                  else
                    some (.stop (FbS2 off2 nm c2 b0 lo off3 ng c3 y xz dk th ts kp sd e m g2 g g3))
                else
                  none
              else
                none
            else
              bif (!(rtFin xz)) then
                some (.stop (FbS2 off2 nm c2 b0 lo off3 ng c3 y xz dk th ts kp sd e m g2 g g3))
              else
                some (.stop (FbS2 off2 nm c2 b0 lo off3 ng c3 y xz dk th ts kp sd e m g2 g g3))
    else
      none
  else
    none := by kernel_rfl
noncomputable def FbS3 : KSt := ⟨(frameL 102 [(0, (.pointer (some ⟨1, 0, none⟩))), (2, (.slice (some ⟨2, off2, none⟩) nm c2)), (3, (.int .u64 b0)), (4, (.bool lo)), (5, (.slice (some ⟨3, off3, none⟩) ng c3)), (7, (.pointer (some ⟨4, 0, none⟩))), (13, (.int .i64 ((y : Nat) : Int)))]), ⟨5, 1, [(4, 0, (FbO0 dk th ts kp sd)), (0, 0, (FbO1 e)), (1, 0, .mach (.retire xz)), (2, 0, .tail off2 .u64 m g2), (3, 0, .tail off3 .u64 g g3)]⟩⟩
theorem FbW2 : FbEA rlLook rlRet sameW (codeAt [1, 0, 1, 0, 0, 1, 0, 0, 1, 1, 1] BFb) [0, 2, 3, 4, 5, 7, 13] [1, 1, 0, 1] (some [1, 1, 1]) [false] (FbS2 off2 nm c2 b0 lo off3 ng c3 y xz dk th ts kp sd e m g2 g g3) =
  some (.stop (FbS3 off2 nm c2 b0 lo off3 ng c3 y xz dk th ts kp sd e m g2 g g3)) := by kernel_rfl
noncomputable def FbS4 : KSt := ⟨(frameL 102 [(0, (.pointer (some ⟨1, 0, none⟩))), (2, (.slice (some ⟨2, off2, none⟩) nm c2)), (3, (.int .u64 b0)), (4, (.bool lo)), (5, (.slice (some ⟨3, off3, none⟩) ng c3)), (7, (.pointer (some ⟨4, 0, none⟩))), (13, (.int .i64 ((y : Nat) : Int))), (14, (.pointer (some ⟨5, 0, none⟩))), (15, (.slice (some ⟨6, 0, none⟩) (List.length p) (List.length p)))]), ⟨7, 1, [(6, 0, .ints .u64 p 22 true), (5, 0, .cells [(.slice (some ⟨3, off3, none⟩) y c3), (.int .i64 va), (.bool true), (.int .i64 (rtK xz)), (.int .u64 (rtB xz)), (.int .i64 (rtC xz)), (.int .u64 0), (.int .u64 0)] 59 true), (4, 0, (FbO0 dk th ts kp sd)), (0, 0, (FbO1 e)), (1, 0, .mach (.retire xz)), (2, 0, .tail off2 .u64 m g2), (3, 0, .tail off3 .u64 g g3)]⟩⟩
theorem FbW3 : FbEA rlLook rlRet sameW (codeAt [1, 0, 1, 0, 0, 1, 0, 0, 1, 1, 1] BFb) [0, 2, 3, 4, 5, 7, 13, 91] [] (some [1, 1, 0, 1]) [] (FbS4 off2 nm c2 b0 lo off3 ng c3 y p va xz dk th ts kp sd e m g2 g g3) =
  bif ((rtOk xz) && (!((rtFin xz) && (Nat.ble 1 (List.length (rtRest xz)))))) then
    bif (rtOk xz) then
      bif (!((rtMore xz) == true)) then
        some (.stop (FbS1 off2 nm c2 b0 lo off3 ng c3 y xz dk th ts kp sd e m g2 g g3))
      else
        bif (!(((rtK xz) == (rtK xz)) && (((rtB xz) == (rtB xz)) && (((rtC xz) == (rtC xz)) && true)))) then
          some (.stop (FbS1 off2 nm c2 b0 lo off3 ng c3 y xz dk th ts kp sd e m g2 g g3))
        else
          bif ((rtFin xz) == true) then
            some (.stop (FbS1 off2 nm c2 b0 lo off3 ng c3 y xz dk th ts kp sd e m g2 g g3))
          else
            bif (rtFin xz) then
              bif (Nat.ble (0 + (List.length p)) (List.length p)) then
                bif ((sameW ([] : List Int) (List.take (List.length p) (List.drop 0 p))) && (Nat.ble (List.length ([] : List Int)) 1000)) then
                  bif (!(rtFin xz)) then
                    some (.stop (FbS2 off2 nm c2 b0 lo off3 ng c3 y xz dk th ts kp sd e m g2 g g3))
                  else
                    some (.stop (FbS2 off2 nm c2 b0 lo off3 ng c3 y xz dk th ts kp sd e m g2 g g3))
                else
                  none
              else
                none
            else
              bif (!(rtFin xz)) then
                some (.stop (FbS2 off2 nm c2 b0 lo off3 ng c3 y xz dk th ts kp sd e m g2 g g3))
              else
                some (.stop (FbS2 off2 nm c2 b0 lo off3 ng c3 y xz dk th ts kp sd e m g2 g g3))
    else
      none
  else
    none := by kernel_rfl
end
theorem Fbwb {xz : RetireSt} {p : List Int} {e : TypeId} {xx : RetireSt} {off2 : Nat} {m : List Int} {g2 : TypeId} {off3 : Nat} {g : List Int} {g3 : TypeId} {nm c2 : Nat} {b0 : Int} {lo : Bool} {ng c3 y : Nat} {dk th ts kp sd va : Int} (hok : rtOk xz = true) (hpn : p.length ≤ 1000) (hf : rtFin xz = true) (hr : Nat.ble 1 (rtRest xz).length = false) (e1 : rtMore xz = false) (hw : sameW [] p = true)   {Q : Ex → St → Prop} (hq : Gets Tryd.prog (FbH e xx off2 m g2 off3 g g3) (codeAt [1, 0, 1, 0, 0, 1, 0, 0, 1, 1, 1, 1, 1, 1] BFb) (KSt.low (FbS3 off2 nm c2 b0 lo off3 ng c3 y xz dk th ts kp sd e m g2 g g3)) (Q)) : Gets Tryd.prog (FbH e xx off2 m g2 off3 g g3) (codeAt [1, 0, 1, 0, 0, 1, 0, 0, 1, 1, 1] BFb) (KSt.low (FbS0 off2 nm c2 b0 lo off3 ng c3 y p va xz dk th ts kp sd e m g2 g g3)) Q := by
  refine AtW.gets ?_
  refine Fbto_ ((FbW1 ..).trans (by rw [condT (and_t (hok) (not_t (and_f2 (hr)))), condT (hok), condF (not_f (by rw [e1]; rfl)), condF (not_f (and_t (beq_self_eq_true _) (and_t (beq_self_eq_true _) (and_t (beq_self_eq_true _) (rfl))))), condF (by rw [hf]; rfl), condT (hf), lT2, condT (and_t (by rw [List.drop_zero, List.take_length]; exact hw) (show (Nat.ble (List.length ([] : List Int)) 1000) = true from rfl)), condF (not_f (hf))])) ?_
  refine Fbto_ (FbW2 ..) ?_
  exact AtW.place hq
theorem Fbwc {xz : RetireSt} {p : List Int} {e : TypeId} {xx : RetireSt} {off2 : Nat} {m : List Int} {g2 : TypeId} {off3 : Nat} {g : List Int} {g3 : TypeId} {nm c2 : Nat} {b0 : Int} {lo : Bool} {ng c3 y : Nat} {dk th ts kp sd va : Int} (hok : rtOk xz = true) (hpn : p.length ≤ 1000) (hf : rtFin xz = false) (e1 : rtMore xz = true)   {Q : Ex → St → Prop} (hq : Gets Tryd.prog (FbH e xx off2 m g2 off3 g g3) (codeAt [1, 0, 1, 0, 0, 1, 0, 0, 1, 1, 1, 1, 1, 1] BFb) (KSt.low (FbS3 off2 nm c2 b0 lo off3 ng c3 y xz dk th ts kp sd e m g2 g g3)) (Q)) : Gets Tryd.prog (FbH e xx off2 m g2 off3 g g3) (codeAt [1, 0, 1, 0, 0, 1, 0, 0, 1, 1, 1] BFb) (KSt.low (FbS4 off2 nm c2 b0 lo off3 ng c3 y p va xz dk th ts kp sd e m g2 g g3)) Q := by
  refine AtW.gets ?_
  refine Fbto_ ((FbW3 ..).trans (by rw [condT (and_t (hok) (not_t (and_f1 (hf)))), condT (hok), condF (not_f (by rw [e1]; rfl)), condF (not_f (and_t (beq_self_eq_true _) (and_t (beq_self_eq_true _) (and_t (beq_self_eq_true _) (rfl))))), condF (by rw [hf]; rfl), condF (hf), condT (not_t (hf))])) ?_
  refine Fbto_ (FbW2 ..) ?_
  exact AtW.place hq
def aRef (lo : Bool) (g : List Int) (dk ts kp : Int) (m : List Int) (b0 : Int) : TpS × List Int := bif lo then rlLook g dk ts ⟨0, false, 0, 0, 0, 0, 0⟩ m else rlRet g dk ts kp ⟨0, false, 0, 0, 0, 0, 0⟩ m b0
structure Good (x : RetireSt) (P : TpS × List Int) : Prop where
  ok : rtOk x = true
  eq : ∃ va p, P = (⟨va, rtMore x, rtK x, rtB x, rtC x, 0, 0⟩, p) ∧ p.length ≤ 1000 ∧ (rtFin x = true → p = rtRest x)
  fin : rtFin x = !rtMore x
  rn : (rtRest x).length ≤ 1000
theorem mid_a {dk : Int} {th : Int} {ts : Int} {kp : Int} {sd : Int} {off2 : Nat} {nm : Nat} {c2 : Nat} {b0 : Int} {lo : Bool} {off3 : Nat} {ng : Nat} {c3 : Nat} {e : TypeId} {m : List Int} {g2 : TypeId} {g : List Int} {g3 : TypeId} {y : Nat} {xz : RetireSt} {p : List Int} {va : Int} {xx : RetireSt} (hok : rtOk xz = true) (hpn : p.length ≤ 1000) (hf : rtFin xz = true) (hr : 1 ≤ (rtRest xz).length) (hrn : (rtRest xz).length ≤ 1000) (e1 : rtMore xz = false) (hw : sameW (rtRest xz) p = true) {Q : Ex → St → Prop} (hq : Gets Tryd.prog (KH.low ⟨4, 1, [(0, 0, .cells [(.int .i64 1), (.int .i64 64), (.int .i64 1), (.int .i64 64)] e false), (1, 0, .mach (.retire xx)), (2, 0, .tail off2 .u64 m g2), (3, 0, .tail off3 .u64 g g3)]⟩) (codeAt [1, 0, 1, 0, 0, 1, 0, 0, 1, 1, 1, 1, 1, 1] BFa) (KSt.low (FaS2 dk th ts kp sd off2 nm c2 b0 lo off3 ng c3 e m g2 g g3 y xz)) Q) : Gets Tryd.prog (KH.low ⟨4, 1, [(0, 0, .cells [(.int .i64 1), (.int .i64 64), (.int .i64 1), (.int .i64 64)] e false), (1, 0, .mach (.retire xx)), (2, 0, .tail off2 .u64 m g2), (3, 0, .tail off3 .u64 g g3)]⟩) (codeAt [1, 0, 1, 0, 0, 1, 0, 0, 1, 1, 1] BFa) (KSt.low (FaS5 dk th ts kp sd off2 nm c2 b0 lo off3 ng c3 e m g2 g g3 y xz p va)) Q :=
  Fawa hok hpn hf hr hrn e1 hw hq
theorem mid_b {dk : Int} {th : Int} {ts : Int} {kp : Int} {sd : Int} {off2 : Nat} {nm : Nat} {c2 : Nat} {b0 : Int} {lo : Bool} {off3 : Nat} {ng : Nat} {c3 : Nat} {e : TypeId} {m : List Int} {g2 : TypeId} {g : List Int} {g3 : TypeId} {y : Nat} {xz : RetireSt} {p : List Int} {va : Int} {xx : RetireSt} (hok : rtOk xz = true) (hpn : p.length ≤ 1000) (hf : rtFin xz = true) (hr : Nat.ble 1 (rtRest xz).length = false) (e1 : rtMore xz = false) (hw : sameW [] p = true) {Q : Ex → St → Prop} (hq : Gets Tryd.prog (KH.low ⟨4, 1, [(0, 0, .cells [(.int .i64 1), (.int .i64 64), (.int .i64 1), (.int .i64 64)] e false), (1, 0, .mach (.retire xx)), (2, 0, .tail off2 .u64 m g2), (3, 0, .tail off3 .u64 g g3)]⟩) (codeAt [1, 0, 1, 0, 0, 1, 0, 0, 1, 1, 1, 1, 1, 1] BFa) (KSt.low (FaS2 dk th ts kp sd off2 nm c2 b0 lo off3 ng c3 e m g2 g g3 y xz)) Q) : Gets Tryd.prog (KH.low ⟨4, 1, [(0, 0, .cells [(.int .i64 1), (.int .i64 64), (.int .i64 1), (.int .i64 64)] e false), (1, 0, .mach (.retire xx)), (2, 0, .tail off2 .u64 m g2), (3, 0, .tail off3 .u64 g g3)]⟩) (codeAt [1, 0, 1, 0, 0, 1, 0, 0, 1, 1, 1] BFa) (KSt.low (FaS5 dk th ts kp sd off2 nm c2 b0 lo off3 ng c3 e m g2 g g3 y xz p va)) Q :=
  Fbwb hok hpn hf hr e1 hw hq
theorem mid_c {dk : Int} {th : Int} {ts : Int} {kp : Int} {sd : Int} {off2 : Nat} {nm : Nat} {c2 : Nat} {b0 : Int} {lo : Bool} {off3 : Nat} {ng : Nat} {c3 : Nat} {e : TypeId} {m : List Int} {g2 : TypeId} {g : List Int} {g3 : TypeId} {y : Nat} {xz : RetireSt} {p : List Int} {va : Int} {xx : RetireSt} (hok : rtOk xz = true) (hpn : p.length ≤ 1000) (hf : rtFin xz = false) (e1 : rtMore xz = true) {Q : Ex → St → Prop} (hq : Gets Tryd.prog (KH.low ⟨4, 1, [(0, 0, .cells [(.int .i64 1), (.int .i64 64), (.int .i64 1), (.int .i64 64)] e false), (1, 0, .mach (.retire xx)), (2, 0, .tail off2 .u64 m g2), (3, 0, .tail off3 .u64 g g3)]⟩) (codeAt [1, 0, 1, 0, 0, 1, 0, 0, 1, 1, 1, 1, 1, 1] BFa) (KSt.low (FaS2 dk th ts kp sd off2 nm c2 b0 lo off3 ng c3 e m g2 g g3 y xz)) Q) : Gets Tryd.prog (KH.low ⟨4, 1, [(0, 0, .cells [(.int .i64 1), (.int .i64 64), (.int .i64 1), (.int .i64 64)] e false), (1, 0, .mach (.retire xx)), (2, 0, .tail off2 .u64 m g2), (3, 0, .tail off3 .u64 g g3)]⟩) (codeAt [1, 0, 1, 0, 0, 1, 0, 0, 1, 1, 1] BFa) (KSt.low (FaS12 dk th ts kp sd off2 nm c2 b0 lo off3 ng c3 e m g2 g g3 y xz p va)) Q :=
  Fbwc hok hpn hf e1 hq
inductive AInv (dk : Int) (th : Int) (ts : Int) (kp : Int) (sd : Int) (off2 : Nat) (nm : Nat) (c2 : Nat) (b0 : Int) (lo : Bool) (off3 : Nat) (ng : Nat) (c3 : Nat) (e : TypeId) (m : List Int) (g2 : TypeId) (g : List Int) (g3 : TypeId) (xx : RetireSt) : Nat → KSt → Prop
  | s (y : Nat) (hy : y ≤ ng + 1) : AInv dk th ts kp sd off2 nm c2 b0 lo off3 ng c3 e m g2 g g3 xx (ng + 1 - y) (FaS2 dk th ts kp sd off2 nm c2 b0 lo off3 ng c3 e m g2 g g3 y ((g.take y).foldl rtTake xx))
theorem acts_loop (dk : Int) (th : Int) (ts : Int) (kp : Int) (sd : Int) (off2 : Nat) (nm : Nat) (c2 : Nat) (b0 : Int) (lo : Bool) (off3 : Nat) (ng : Nat) (c3 : Nat) (e : TypeId) (m : List Int) (g2 : TypeId) (g : List Int) (g3 : TypeId) (xx : RetireSt) (hd : ¬ dk = 0) (h1 : 1 ≤ ts) (h2 : ts ≤ 64) (h3 : 1 ≤ kp) (h4 : kp ≤ 64) (h5 : 0 ≤ th) (h6 : th < ts) (hm : m.length = nm) (hmn : nm ≤ 900) (hg : g.length = ng) (hgn : ng ≤ 900) (hc : ng ≤ c3) (H : ∀ y, y ≤ ng → Good ((g.take y).foldl rtTake xx) (aRef lo (g.take y) dk ts kp m b0)) (z : Nat) (t_ : KSt) (hI : AInv dk th ts kp sd off2 nm c2 b0 lo off3 ng c3 e m g2 g g3 xx z t_) : Gets Tryd.prog (KH.low ⟨4, 1, [(0, 0, .cells [(.int .i64 1), (.int .i64 64), (.int .i64 1), (.int .i64 64)] e false), (1, 0, .mach (.retire xx)), (2, 0, .tail off2 .u64 m g2), (3, 0, .tail off3 .u64 g g3)]⟩) (codeAt [1, 0, 1] BFa) t_.low (onN (fun s => Gets Tryd.prog (FaH e xx off2 m g2 off3 g g3) (codeAt [1, 1] BFa) s ((EndsK Tryd.prog Tryd.f12 (.bool true) (mkH [.cells [(.int .i64 1), (.int .i64 64), (.int .i64 1), (.int .i64 64)] e false, .mach (.retire xx), .tail off2 .u64 m g2, .tail off3 .u64 g g3]) (KH.put (mkH [.cells [(.int .i64 1), (.int .i64 64), (.int .i64 1), (.int .i64 64)] e false, .mach (.retire xx), .tail off2 .u64 m g2, .tail off3 .u64 g g3]) 1 (.mach (.retire (g.foldl rtTake xx))))))) ((EndsK Tryd.prog Tryd.f12 (.bool true) (mkH [.cells [(.int .i64 1), (.int .i64 64), (.int .i64 1), (.int .i64 64)] e false, .mach (.retire xx), .tail off2 .u64 m g2, .tail off3 .u64 g g3]) (KH.put (mkH [.cells [(.int .i64 1), (.int .i64 64), (.int .i64 1), (.int .i64 64)] e false, .mach (.retire xx), .tail off2 .u64 m g2, .tail off3 .u64 g g3]) 1 (.mach (.retire (g.foldl rtTake xx))))))) := by
  rw [FaC1_0_1, FaC1_0_1_0]
  refine Gets.loopG (fun z t_ => AInv dk th ts kp sd off2 nm c2 b0 lo off3 ng c3 e m g2 g g3 xx z t_) ?_ _ _ hI
  clear hI z t_
  intro z t_ hI
  cases hI with
  | s y hy =>
    by_cases hle : y ≤ ng
    · have Gd := H y hle
      have hnx : ∀ (hlt : y < ng), (g.take (y + 1)).foldl rtTake xx = rtTake ((g.take y).foldl rtTake xx) (g.getD y 0) := fun hlt => by
        rw [List.take_add_one, List.foldl_append, List.getElem?_eq_getElem (by omega), List.getD_eq_getElem?_getD, List.getElem?_eq_getElem (by omega)]; rfl
      have hnl : ¬ y < ng → (g.take (y + 1)).foldl rtTake xx = ((g.take y).foldl rtTake xx) := fun h => by
        rw [List.take_of_length_le (by omega), List.take_of_length_le (by omega)]
      generalize hxz : ((g.take y).foldl rtTake xx) = xz at Gd hnx hnl ⊢
      obtain ⟨va, p, hP, hpl, hpr⟩ := Gd.eq
      have hinv : AInv dk th ts kp sd off2 nm c2 b0 lo off3 ng c3 e m g2 g g3 xx (ng + 1 - (y + 1)) (FaS2 dk th ts kp sd off2 nm c2 b0 lo off3 ng c3 e m g2 g g3 (y + 1) ((g.take (y + 1)).foldl rtTake xx)) := .s (y + 1) (by omega)
      cases lo with
      | true =>
        refine Fal hd h1 h2 h3 h4 h5 h6 hm hmn hg hgn hc hle rfl ?_
        cases ho : rtMore xz with
        | true =>
          have hP2 : rlLook (List.take y g) dk ts (TpS.mk 0 false 0 0 0 0 0) m = (⟨va, true, rtK xz, rtB xz, rtC xz, 0, 0⟩, p) := by have h := hP; rw [ho] at h; exact h
          rw [show (FaS3 rlLook dk th ts kp sd off2 nm c2 b0 off3 ng c3 e m g2 g g3 y xz) = (FaS12 dk th ts kp sd off2 nm c2 b0 (true) off3 ng c3 e m g2 g g3 y xz p va) from by unfold FaS3 FaS12; rw [hP2]; rfl]
          refine mid_c Gd.ok hpl (by rw [Gd.fin, ho]; rfl) ho ?_
          by_cases hlt : y < ng
          · refine Fat Gd.ok hg hgn hlt ?_
            refine Fap hgn hle ?_
            rw [hnx hlt] at hinv
            exact ⟨_, _, by omega, rfl, hinv⟩
          · refine Fan hlt ?_
            refine Fap hgn hle ?_
            rw [hnl hlt] at hinv
            exact ⟨_, _, by omega, rfl, hinv⟩
        | false =>
          have hP2 : rlLook (List.take y g) dk ts (TpS.mk 0 false 0 0 0 0 0) m = (⟨va, false, rtK xz, rtB xz, rtC xz, 0, 0⟩, p) := by have h := hP; rw [ho] at h; exact h
          have hf : rtFin xz = true := by rw [Gd.fin, ho]; rfl
          rw [show (FaS3 rlLook dk th ts kp sd off2 nm c2 b0 off3 ng c3 e m g2 g g3 y xz) = (FaS5 dk th ts kp sd off2 nm c2 b0 (true) off3 ng c3 e m g2 g g3 y xz p va) from by unfold FaS3 FaS5; rw [hP2]; rfl]
          cases hr : Nat.ble 1 (rtRest xz).length with
          | true =>
            refine mid_a Gd.ok hpl hf (Nat.le_of_ble_eq_true hr) Gd.rn ho (decide_eq_true (hpr hf).symm) ?_
            by_cases hlt : y < ng
            · refine Fat Gd.ok hg hgn hlt ?_
              refine Fap hgn hle ?_
              rw [hnx hlt] at hinv
              exact ⟨_, _, by omega, rfl, hinv⟩
            · refine Fan hlt ?_
              refine Fap hgn hle ?_
              rw [hnl hlt] at hinv
              exact ⟨_, _, by omega, rfl, hinv⟩
          | false =>
            have he : rtRest xz = [] := by
              cases hq : rtRest xz with
              | nil => rfl
              | cons a l' => rw [hq] at hr; cases hr
            refine mid_b Gd.ok hpl hf hr ho (decide_eq_true (by rw [hpr hf, he])) ?_
            by_cases hlt : y < ng
            · refine Fat Gd.ok hg hgn hlt ?_
              refine Fap hgn hle ?_
              rw [hnx hlt] at hinv
              exact ⟨_, _, by omega, rfl, hinv⟩
            · refine Fan hlt ?_
              refine Fap hgn hle ?_
              rw [hnl hlt] at hinv
              exact ⟨_, _, by omega, rfl, hinv⟩
      | false =>
        refine Far hd h1 h2 h3 h4 h5 h6 hm hmn hg hgn hc hle rfl ?_
        cases ho : rtMore xz with
        | true =>
          have hP2 : rlRet (List.take y g) dk ts kp (TpS.mk 0 false 0 0 0 0 0) m b0 = (⟨va, true, rtK xz, rtB xz, rtC xz, 0, 0⟩, p) := by have h := hP; rw [ho] at h; exact h
          rw [show (FaS4 rlRet dk th ts kp sd off2 nm c2 b0 off3 ng c3 e m g2 g g3 y xz) = (FaS12 dk th ts kp sd off2 nm c2 b0 (false) off3 ng c3 e m g2 g g3 y xz p va) from by unfold FaS4 FaS12; rw [hP2]; rfl]
          refine mid_c Gd.ok hpl (by rw [Gd.fin, ho]; rfl) ho ?_
          by_cases hlt : y < ng
          · refine Fat Gd.ok hg hgn hlt ?_
            refine Fap hgn hle ?_
            rw [hnx hlt] at hinv
            exact ⟨_, _, by omega, rfl, hinv⟩
          · refine Fan hlt ?_
            refine Fap hgn hle ?_
            rw [hnl hlt] at hinv
            exact ⟨_, _, by omega, rfl, hinv⟩
        | false =>
          have hP2 : rlRet (List.take y g) dk ts kp (TpS.mk 0 false 0 0 0 0 0) m b0 = (⟨va, false, rtK xz, rtB xz, rtC xz, 0, 0⟩, p) := by have h := hP; rw [ho] at h; exact h
          have hf : rtFin xz = true := by rw [Gd.fin, ho]; rfl
          rw [show (FaS4 rlRet dk th ts kp sd off2 nm c2 b0 off3 ng c3 e m g2 g g3 y xz) = (FaS5 dk th ts kp sd off2 nm c2 b0 (false) off3 ng c3 e m g2 g g3 y xz p va) from by unfold FaS4 FaS5; rw [hP2]; rfl]
          cases hr : Nat.ble 1 (rtRest xz).length with
          | true =>
            refine mid_a Gd.ok hpl hf (Nat.le_of_ble_eq_true hr) Gd.rn ho (decide_eq_true (hpr hf).symm) ?_
            by_cases hlt : y < ng
            · refine Fat Gd.ok hg hgn hlt ?_
              refine Fap hgn hle ?_
              rw [hnx hlt] at hinv
              exact ⟨_, _, by omega, rfl, hinv⟩
            · refine Fan hlt ?_
              refine Fap hgn hle ?_
              rw [hnl hlt] at hinv
              exact ⟨_, _, by omega, rfl, hinv⟩
          | false =>
            have he : rtRest xz = [] := by
              cases hq : rtRest xz with
              | nil => rfl
              | cons a l' => rw [hq] at hr; cases hr
            refine mid_b Gd.ok hpl hf hr ho (decide_eq_true (by rw [hpr hf, he])) ?_
            by_cases hlt : y < ng
            · refine Fat Gd.ok hg hgn hlt ?_
              refine Fap hgn hle ?_
              rw [hnx hlt] at hinv
              exact ⟨_, _, by omega, rfl, hinv⟩
            · refine Fan hlt ?_
              refine Fap hgn hle ?_
              rw [hnl hlt] at hinv
              exact ⟨_, _, by omega, rfl, hinv⟩
    · rw [List.take_of_length_le (show g.length ≤ y by omega)]
      refine Fax hle ?_
      exact ⟨fun _ => Fae (EndsK.ret (l := [.bool true]) (by kernel_rfl) rfl (Fits.kh (growPut (Grow.refl _) rfl) rfl ⟨rfl, rfl, rfl, rfl, trivial⟩)), fun h => by cases h⟩
theorem acts_does (dk : Int) (th : Int) (ts : Int) (kp : Int) (sd : Int) (off2 : Nat) (nm : Nat) (c2 : Nat) (b0 : Int) (lo : Bool) (off3 : Nat) (ng : Nat) (c3 : Nat) (e : TypeId) (m : List Int) (g2 : TypeId) (g : List Int) (g3 : TypeId) (xx : RetireSt) (hd : ¬ dk = 0) (h1 : 1 ≤ ts) (h2 : ts ≤ 64) (h3 : 1 ≤ kp) (h4 : kp ≤ 64) (h5 : 0 ≤ th) (h6 : th < ts) (hm : m.length = nm) (hmn : nm ≤ 900) (hg : g.length = ng) (hgn : ng ≤ 900) (hc : ng ≤ c3) (H : ∀ y, y ≤ ng → Good ((g.take y).foldl rtTake xx) (aRef lo (g.take y) dk ts kp m b0)) : DoesC Tryd.prog 12 [(.pointer (some ⟨1, 0, none⟩)), (.agg #[(.int .u64 dk), (.int .i64 th), (.int .i64 ts), (.int .i64 kp), (.int .u64 sd)]), (.slice (some ⟨2, off2, none⟩) nm c2), (.int .u64 b0), (.bool lo), (.slice (some ⟨3, off3, none⟩) ng c3)] (mkH [.cells [(.int .i64 1), (.int .i64 64), (.int .i64 1), (.int .i64 64)] e false, .mach (.retire xx), .tail off2 .u64 m g2, .tail off3 .u64 g g3]).low (.bool true) (KH.put (mkH [.cells [(.int .i64 1), (.int .i64 64), (.int .i64 1), (.int .i64 64)] e false, .mach (.retire xx), .tail off2 .u64 m g2, .tail off3 .u64 g g3]) 1 (.mach (.retire (g.foldl rtTake xx)))).low := by
  refine EndsK.does Tryd.func12 BFa_is (by rw [oneVar]; exact Nat.le_add_left _ _) ?_
  refine Fain ?_
  exact acts_loop dk th ts kp sd off2 nm c2 b0 lo off3 ng c3 e m g2 g g3 xx hd h1 h2 h3 h4 h5 h6 hm hmn hg hgn hc H (ng + 1 - 0) (FaS2 dk th ts kp sd off2 nm c2 b0 lo off3 ng c3 e m g2 g g3 (0) (xx)) (.s 0 (Nat.zero_le _))
end Go.Proofs.YtfhfbbhoppnbiaaDoor
