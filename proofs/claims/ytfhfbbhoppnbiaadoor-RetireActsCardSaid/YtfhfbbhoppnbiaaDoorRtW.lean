import Derived.Test.YtfhfbbhoppnbiaaDoorRtL
import Derived.WalkKit
import Derived.ProofKit
import Derived.OpenShut
import Derived.ChangeOld
import Derived.Below
import Derived.SizedLaws
namespace Go.Proofs.YtfhfbbhoppnbiaaDoor
open Go.Eng
open Go.ChangeShapes Go.WideShapes Go.ChangeAt Go.RowKit
set_option linter.unusedVariables false
set_option linter.unusedSimpArgs false
set_option maxRecDepth 100000
noncomputable def cfgW : Cfg := ⟨[]⟩
noncomputable def fsW : List FuncId := [21]
theorem fitW : Fit Tryd.prog cfgW fsW := ⟨by kernel_rfl, Cfg.ok_of (by kernel_rfl), by kernel_rfl⟩
noncomputable def BWq : Code := bodyOf Tryd.prog 21
theorem BWq_is : Tryd.f21.body = some BWq := by kernel_rfl
noncomputable abbrev WqH (e : TypeId) (off : Nat) (l : List Int) (g_ : TypeId) (of2 : Nat) (l2 : List Int) (e2 : TypeId) : AH := (KH.low ⟨3, 1, [(0, 0, .cells [(.int .i64 1), (.int .i64 64), (.int .i64 1), (.int .i64 64)] e false), (1, 0, .tail off .u64 l g_), (2, 0, .tail of2 .u64 l2 e2)]⟩)
noncomputable abbrev WqEA (c : Code) (lv p : List Nat) (st : Option (List Nat)) (ws : List Bool) (s : KSt) : Option Rs := evA (evCK Tryd.prog cfgW (runK Tryd.prog cfgW fsW noT 14 40) 14) (stopW 3 lv) p c st ws s (finW 3 lv)
theorem Wqto_ {c_ : Code} {lv_ p_ p2_ : List Nat} {ws_ : List Bool} {st_ s' : KSt} {Q : Ex → St → Prop} {e : TypeId} {off : Nat} {l : List Int} {g_ : TypeId} {of2 : Nat} {l2 : List Int} {e2 : TypeId} (hE_ : WqEA c_ lv_ p_ (some p2_) ws_ st_ = some (.stop s')) (hq_ : AtW Tryd.prog (WqH e off l g_ of2 l2 e2) c_ p2_ s' Q) (hok_ : okCode Tryd.prog.globals.size c_ = true := by kernel_rfl) : AtW Tryd.prog (WqH e off l g_ of2 l2 e2) c_ p_ st_ Q := AtW.to fitW SoundC.no AgreeT.no 14 40 hok_ hE_ hq_
theorem Wqfi_ {c_ : Code} {lv_ p_ : List Nat} {ws_ : List Bool} {st_ s' : KSt} {x : Ex} {Q : Ex → St → Prop} {e : TypeId} {off : Nat} {l : List Int} {g_ : TypeId} {of2 : Nat} {l2 : List Int} {e2 : TypeId} (hE_ : WqEA c_ lv_ p_ none ws_ st_ = some (.fin x s')) (hq_ : Q x s'.low) (hok_ : okCode Tryd.prog.globals.size c_ = true := by kernel_rfl) : AtW Tryd.prog (WqH e off l g_ of2 l2 e2) c_ p_ st_ Q := AtW.fin fitW SoundC.no AgreeT.no 14 40 hok_ hE_ hq_
theorem WqC1_1_0_1 : (codeAt [1, 1, 0, 1] BWq) = .block 0 (codeAt [1, 1, 0, 1, 0] BWq) := by kernel_rfl
theorem WqC1_1_0_1_0 : (codeAt [1, 1, 0, 1, 0] BWq) = .loop (codeAt [1, 1, 0, 1, 0, 0] BWq) := by kernel_rfl
section
variable (off n c of2 c2 : Nat) (e : TypeId) (l : List Int) (g_ : TypeId) (l2 : List Int) (e2 : TypeId) (i : Int)
noncomputable abbrev WqO0 (e : TypeId) : KObj := .cells [(.int .i64 1), (.int .i64 64), (.int .i64 1), (.int .i64 64)] e false
noncomputable def WqS0 : KSt := (firstK [(.slice (some ⟨1, off, none⟩) n c), (.slice (some ⟨2, of2, none⟩) n c2)] 26 ⟨3, 1, [(0, 0, (WqO0 e)), (1, 0, .tail off .u64 l g_), (2, 0, .tail of2 .u64 l2 e2)]⟩)
noncomputable def WqS1 : KSt := ⟨(frameL 26 [(0, (.slice (some ⟨1, off, none⟩) n c)), (1, (.slice (some ⟨2, of2, none⟩) n c2)), (5, (.int .i64 0))]), ⟨3, 1, [(0, 0, (WqO0 e)), (1, 0, .tail off .u64 l g_), (2, 0, .tail of2 .u64 l2 e2)]⟩⟩
theorem WqW1 : WqEA BWq [0, 1, 5] [] (some [1, 1, 0, 1]) [false] (WqS0 off n c of2 c2 e l g_ l2 e2) =
  bif (((n : Nat) : Int) != ((n : Nat) : Int)) then
    none
  else
    some (.stop (WqS1 off n c of2 c2 e l g_ l2 e2)) := by kernel_rfl
noncomputable def WqS2 : KSt := ⟨(frameL 26 [(0, (.slice (some ⟨1, off, none⟩) n c)), (1, (.slice (some ⟨2, of2, none⟩) n c2)), (5, (.int .i64 i))]), ⟨3, 1, [(0, 0, (WqO0 e)), (1, 0, .tail off .u64 l g_), (2, 0, .tail of2 .u64 l2 e2)]⟩⟩
noncomputable def WqS3 : KSt := ⟨(frameL 26 []), ⟨3, 1, [(0, 0, (WqO0 e)), (1, 0, .tail off .u64 l g_), (2, 0, .tail of2 .u64 l2 e2)]⟩⟩
theorem WqW2 : WqEA (codeAt [1, 1, 0, 1, 0, 0] BWq) [] [] none [false] (WqS2 off n c of2 c2 e l g_ l2 e2 i) =
  bif (decide (i < ((n : Nat) : Int))) then
    none
  else
    some (.fin (.exit 0) (WqS3 off of2 e l g_ l2 e2)) := by kernel_rfl
noncomputable def WqS4 : KSt := ⟨(frameL 26 [(4, (.bool true))]), ⟨3, 1, [(0, 0, (WqO0 e)), (1, 0, .tail off .u64 l g_), (2, 0, .tail of2 .u64 l2 e2)]⟩⟩
theorem WqW3 : WqEA (codeAt [1, 1, 1] BWq) [4] [] none [] (WqS3 off of2 e l g_ l2 e2) =
  some (.fin .ret (WqS4 off of2 e l g_ l2 e2)) := by kernel_rfl
theorem WqW4 : WqEA (codeAt [1, 1, 0, 1, 0, 0] BWq) [0, 1, 5] [] none [true, false, false] (WqS2 off n c of2 c2 e l g_ l2 e2 i) =
  bif (decide (i < ((n : Nat) : Int))) then
    if 0 ≤ i ∧ i < ((n : Nat) : Int) then
      bif (Nat.ble off (off + ((Int.toNat i) * 1))) then
        obind (l[((off + ((Int.toNat i) * 1)) - off)]?) fun zn1 =>
          if 0 ≤ i ∧ i < ((n : Nat) : Int) then
            bif (Nat.ble of2 (of2 + ((Int.toNat i) * 1))) then
              obind (l2[((of2 + ((Int.toNat i) * 1)) - of2)]?) fun zn2 =>
                bif (zn1 != zn2) then
                  none
                else
                  some (.fin .normal ⟨(frameL 26 [(0, (.slice (some ⟨1, off, none⟩) n c)), (1, (.slice (some ⟨2, of2, none⟩) n c2)), (5, (.int .i64 (IntKind.wrap .i64 (i + 1))))]), ⟨3, 1, [(0, 0, .cells [(.int .i64 1), (.int .i64 64), (.int .i64 1), (.int .i64 64)] e false), (1, 0, .tail off .u64 l g_), (2, 0, .tail of2 .u64 l2 e2)]⟩⟩)
            else
              none
          else
            none
      else
        none
    else
      none
  else
    none := by kernel_rfl
noncomputable def WqS5 : KSt := ⟨(frameL 26 [(0, (.slice (some ⟨1, off, none⟩) n c)), (1, (.slice (some ⟨2, of2, none⟩) n c2)), (5, (.int .i64 (i + 1)))]), ⟨3, 1, [(0, 0, (WqO0 e)), (1, 0, .tail off .u64 l g_), (2, 0, .tail of2 .u64 l2 e2)]⟩⟩
end
theorem Wqpre {e : TypeId} {off : Nat} {l : List Int} {g_ : TypeId} {of2 : Nat} {l2 : List Int} {e2 : TypeId} {n c c2 : Nat}   {Q : Ex → St → Prop} (hq : Gets Tryd.prog (WqH e off l g_ of2 l2 e2) (codeAt [1, 1, 0, 1] BWq) (KSt.low (WqS1 off n c of2 c2 e l g_ l2 e2)) (onN (fun s => Gets Tryd.prog (WqH e off l g_ of2 l2 e2) (codeAt [1, 1, 1] BWq) s (Q)) (Q))) : Gets Tryd.prog (WqH e off l g_ of2 l2 e2) BWq (KSt.low (WqS0 off n c of2 c2 e l g_ l2 e2)) Q := by
  refine AtW.gets ?_
  refine Wqto_ ((WqW1 ..).trans (by rw [nF])) ?_
  exact AtW.place hq
theorem Wqx {i : Int} {n off of2 : Nat} {e : TypeId} {l : List Int} {g_ : TypeId} {l2 : List Int} {e2 : TypeId} {c c2 : Nat} (hin : i = (n : Int))   {Q : Ex → St → Prop} (hq : Q (.exit 0) (KSt.low (WqS3 off of2 e l g_ l2 e2))) : Gets Tryd.prog (WqH e off l g_ of2 l2 e2) (codeAt [1, 1, 0, 1, 0, 0] BWq) (KSt.low (WqS2 off n c of2 c2 e l g_ l2 e2 i)) Q := by
  refine AtW.gets ?_
  exact Wqfi_ ((WqW2 ..).trans (by rw [dF])) hq
theorem Wqfi {off of2 : Nat} {e : TypeId} {l : List Int} {g_ : TypeId} {l2 : List Int} {e2 : TypeId}   {Q : Ex → St → Prop} (hq : Q .ret (KSt.low (WqS4 off of2 e l g_ l2 e2))) : Gets Tryd.prog (WqH e off l g_ of2 l2 e2) (codeAt [1, 1, 1] BWq) (KSt.low (WqS3 off of2 e l g_ l2 e2)) Q := by
  refine AtW.gets ?_
  exact Wqfi_ (WqW3 ..) hq
theorem Wqrd {l : List Int} {n : Nat} {l2 : List Int} {i : Int} {off c of2 c2 : Nat} {e g_ e2 : TypeId} (hl : l.length = n) (hl2 : l2.length = n) (hb : n ≤ 1000) (hi : 0 ≤ i) (hin : i < (n : Int)) (he : l.getD ((Int.toNat i) * 1) 0 = l2.getD ((Int.toNat i) * 1) 0)   {Q : Ex → St → Prop} (hq : Q .normal (KSt.low (WqS5 off n c of2 c2 e l g_ l2 e2 i))) : Gets Tryd.prog (WqH e off l g_ of2 l2 e2) (codeAt [1, 1, 0, 1, 0, 0] BWq) (KSt.low (WqS2 off n c of2 c2 e l g_ l2 e2 i)) Q := by
  refine AtW.gets ?_
  exact Wqfi_ (x := .normal) (s' := (WqS5 off n c of2 c2 e l g_ l2 e2 i)) ((WqW4 ..).trans (by rw [dT, iP, lT, obind_at (k := ((Int.toNat i) * 1)) (by omega) (by omega), iP, lT, obind_at (k := ((Int.toNat i) * 1)) (by omega) (by omega), nF, (show (IntKind.wrap .i64 (i + 1)) = (i + 1) from wi)] <;> rfl)) hq
noncomputable def BWa : Code := bodyOf Tryd.prog 21
theorem BWa_is : Tryd.f21.body = some BWa := by kernel_rfl
noncomputable abbrev WaH (e : TypeId) : AH := (KH.low ⟨1, 1, [(0, 0, .cells [(.int .i64 1), (.int .i64 64), (.int .i64 1), (.int .i64 64)] e false)]⟩)
noncomputable abbrev WaEA (c : Code) (lv p : List Nat) (st : Option (List Nat)) (ws : List Bool) (s : KSt) : Option Rs := evA (evCK Tryd.prog cfgW (runK Tryd.prog cfgW fsW noT 14 40) 14) (stopW 1 lv) p c st ws s (finW 1 lv)
theorem Wafi_ {c_ : Code} {lv_ p_ : List Nat} {ws_ : List Bool} {st_ s' : KSt} {x : Ex} {Q : Ex → St → Prop} {e : TypeId} (hE_ : WaEA c_ lv_ p_ none ws_ st_ = some (.fin x s')) (hq_ : Q x s'.low) (hok_ : okCode Tryd.prog.globals.size c_ = true := by kernel_rfl) : AtW Tryd.prog (WaH e) c_ p_ st_ Q := AtW.fin fitW SoundC.no AgreeT.no 14 40 hok_ hE_ hq_
section
variable (e : TypeId)
noncomputable def WaS0 : KSt := (firstK [(.slice (some ⟨0, 0, some 0⟩) 0 0), (.slice (some ⟨0, 0, some 0⟩) 0 0)] 26 ⟨1, 1, [(0, 0, .cells [(.int .i64 1), (.int .i64 64), (.int .i64 1), (.int .i64 64)] e false)]⟩)
noncomputable def WaS1 : KSt := ⟨(frameL 26 [(4, (.bool true))]), ⟨1, 1, [(0, 0, .cells [(.int .i64 1), (.int .i64 64), (.int .i64 1), (.int .i64 64)] e false)]⟩⟩
theorem WaW1 : WaEA BWa [4] [] none [false, true] (WaS0 e) =
  some (.fin .ret (WaS1 e)) := by kernel_rfl
end
theorem Wat {e : TypeId}   {Q : Ex → St → Prop} (hq : Q .ret (KSt.low (WaS1 e))) : Gets Tryd.prog (WaH e) BWa (KSt.low (WaS0 e)) Q := by
  refine AtW.gets ?_
  exact Wafi_ (WaW1 ..) hq
noncomputable def BWb : Code := bodyOf Tryd.prog 21
theorem BWb_is : Tryd.f21.body = some BWb := by kernel_rfl
noncomputable abbrev WbH (e : TypeId) (of2 : Nat) (l2 : List Int) (e2 : TypeId) : AH := (KH.low ⟨2, 1, [(0, 0, .cells [(.int .i64 1), (.int .i64 64), (.int .i64 1), (.int .i64 64)] e false), (1, 0, .tail of2 .u64 l2 e2)]⟩)
noncomputable abbrev WbEA (c : Code) (lv p : List Nat) (st : Option (List Nat)) (ws : List Bool) (s : KSt) : Option Rs := evA (evCK Tryd.prog cfgW (runK Tryd.prog cfgW fsW noT 14 40) 14) (stopW 2 lv) p c st ws s (finW 2 lv)
theorem Wbfi_ {c_ : Code} {lv_ p_ : List Nat} {ws_ : List Bool} {st_ s' : KSt} {x : Ex} {Q : Ex → St → Prop} {e : TypeId} {of2 : Nat} {l2 : List Int} {e2 : TypeId} (hE_ : WbEA c_ lv_ p_ none ws_ st_ = some (.fin x s')) (hq_ : Q x s'.low) (hok_ : okCode Tryd.prog.globals.size c_ = true := by kernel_rfl) : AtW Tryd.prog (WbH e of2 l2 e2) c_ p_ st_ Q := AtW.fin fitW SoundC.no AgreeT.no 14 40 hok_ hE_ hq_
section
variable (of2 c2 : Nat) (e : TypeId) (l2 : List Int) (e2 : TypeId)
noncomputable def WbS0 : KSt := (firstK [(.slice (some ⟨0, 0, some 0⟩) 0 0), (.slice (some ⟨1, of2, none⟩) 0 c2)] 26 ⟨2, 1, [(0, 0, .cells [(.int .i64 1), (.int .i64 64), (.int .i64 1), (.int .i64 64)] e false), (1, 0, .tail of2 .u64 l2 e2)]⟩)
noncomputable def WbS1 : KSt := ⟨(frameL 26 [(4, (.bool true))]), ⟨2, 1, [(0, 0, .cells [(.int .i64 1), (.int .i64 64), (.int .i64 1), (.int .i64 64)] e false), (1, 0, .tail of2 .u64 l2 e2)]⟩⟩
theorem WbW1 : WbEA BWb [4] [] none [false, true] (WbS0 of2 c2 e l2 e2) =
  some (.fin .ret (WbS1 of2 e l2 e2)) := by kernel_rfl
end
theorem Wbt {of2 : Nat} {e : TypeId} {l2 : List Int} {e2 : TypeId} {c2 : Nat}   {Q : Ex → St → Prop} (hq : Q .ret (KSt.low (WbS1 of2 e l2 e2))) : Gets Tryd.prog (WbH e of2 l2 e2) BWb (KSt.low (WbS0 of2 c2 e l2 e2)) Q := by
  refine AtW.gets ?_
  exact Wbfi_ (WbW1 ..) hq
noncomputable def BWc : Code := bodyOf Tryd.prog 21
theorem BWc_is : Tryd.f21.body = some BWc := by kernel_rfl
noncomputable abbrev WcH (e : TypeId) (off : Nat) (l : List Int) (g_ : TypeId) : AH := (KH.low ⟨2, 1, [(0, 0, .cells [(.int .i64 1), (.int .i64 64), (.int .i64 1), (.int .i64 64)] e false), (1, 0, .tail off .u64 l g_)]⟩)
noncomputable abbrev WcEA (c : Code) (lv p : List Nat) (st : Option (List Nat)) (ws : List Bool) (s : KSt) : Option Rs := evA (evCK Tryd.prog cfgW (runK Tryd.prog cfgW fsW noT 14 40) 14) (stopW 2 lv) p c st ws s (finW 2 lv)
theorem Wcfi_ {c_ : Code} {lv_ p_ : List Nat} {ws_ : List Bool} {st_ s' : KSt} {x : Ex} {Q : Ex → St → Prop} {e : TypeId} {off : Nat} {l : List Int} {g_ : TypeId} (hE_ : WcEA c_ lv_ p_ none ws_ st_ = some (.fin x s')) (hq_ : Q x s'.low) (hok_ : okCode Tryd.prog.globals.size c_ = true := by kernel_rfl) : AtW Tryd.prog (WcH e off l g_) c_ p_ st_ Q := AtW.fin fitW SoundC.no AgreeT.no 14 40 hok_ hE_ hq_
section
variable (off c : Nat) (e : TypeId) (l : List Int) (g_ : TypeId)
noncomputable def WcS0 : KSt := (firstK [(.slice (some ⟨1, off, none⟩) 0 c), (.slice (some ⟨0, 0, some 0⟩) 0 0)] 26 ⟨2, 1, [(0, 0, .cells [(.int .i64 1), (.int .i64 64), (.int .i64 1), (.int .i64 64)] e false), (1, 0, .tail off .u64 l g_)]⟩)
noncomputable def WcS1 : KSt := ⟨(frameL 26 [(4, (.bool true))]), ⟨2, 1, [(0, 0, .cells [(.int .i64 1), (.int .i64 64), (.int .i64 1), (.int .i64 64)] e false), (1, 0, .tail off .u64 l g_)]⟩⟩
theorem WcW1 : WcEA BWc [4] [] none [false, true] (WcS0 off c e l g_) =
  some (.fin .ret (WcS1 off e l g_)) := by kernel_rfl
end
theorem Wct {off : Nat} {e : TypeId} {l : List Int} {g_ : TypeId} {c : Nat}   {Q : Ex → St → Prop} (hq : Q .ret (KSt.low (WcS1 off e l g_))) : Gets Tryd.prog (WcH e off l g_) BWc (KSt.low (WcS0 off c e l g_)) Q := by
  refine AtW.gets ?_
  exact Wcfi_ (WcW1 ..) hq
def sameW (l m : List Int) : Bool := decide (l = m)
inductive WInv (off : Nat) (n : Nat) (c : Nat) (of2 : Nat) (c2 : Nat) (e : TypeId) (l : List Int) (g_ : TypeId) (l2 : List Int) (e2 : TypeId) : Nat → KSt → Prop
  | s (i : Int) (h0 : 0 ≤ i) (hi : i ≤ (n : Int)) : WInv off n c of2 c2 e l g_ l2 e2 ((n : Int) - i).toNat (WqS2 off n c of2 c2 e l g_ l2 e2 i)
theorem words_does (e : TypeId) (off n c : Nat) (l : List Int) (g_ : TypeId) (of2 c2 : Nat) (l2 : List Int) (e2 : TypeId) (hl : l.length = n) (hb : n ≤ 1000) (h : l = l2) : DoesC Tryd.prog 21 [(.slice (some ⟨1, off, none⟩) n c), (.slice (some ⟨2, of2, none⟩) n c2)] (mkH [.cells [(.int .i64 1), (.int .i64 64), (.int .i64 1), (.int .i64 64)] e false, .tail off .u64 l g_, .tail of2 .u64 l2 e2]).low ((.bool true)) (effK (mkH [.cells [(.int .i64 1), (.int .i64 64), (.int .i64 1), (.int .i64 64)] e false, .tail off .u64 l g_, .tail of2 .u64 l2 e2]) [] []).low := by
  refine EndsR.does Tryd.func21 BWq_is (by rw [oneVar]; exact Nat.le_add_left _ _) ?_
  show Gets Tryd.prog (KH.low ⟨3, 1, [(0, 0, .cells [(.int .i64 1), (.int .i64 64), (.int .i64 1), (.int .i64 64)] e false), (1, 0, .tail off .u64 l g_), (2, 0, .tail of2 .u64 l2 e2)]⟩) BWq (KSt.low (WqS0 off n c of2 c2 e l g_ l2 e2)) _
  refine Wqpre ?_
  suffices hs : ∀ m t_, WInv off n c of2 c2 e l g_ l2 e2 m t_ → Gets Tryd.prog (KH.low ⟨3, 1, [(0, 0, .cells [(.int .i64 1), (.int .i64 64), (.int .i64 1), (.int .i64 64)] e false), (1, 0, .tail off .u64 l g_), (2, 0, .tail of2 .u64 l2 e2)]⟩) (codeAt [1, 1, 0, 1] BWq) t_.low (onN (fun s => Gets Tryd.prog (WqH e off l g_ of2 l2 e2) (codeAt [1, 1, 1] BWq) s ((EndsR Tryd.prog Tryd.f21 (.bool true) [.cells [(.int .i64 1), (.int .i64 64), (.int .i64 1), (.int .i64 64)] e false, .tail off .u64 l g_, .tail of2 .u64 l2 e2] [] []))) ((EndsR Tryd.prog Tryd.f21 (.bool true) [.cells [(.int .i64 1), (.int .i64 64), (.int .i64 1), (.int .i64 64)] e false, .tail off .u64 l g_, .tail of2 .u64 l2 e2] [] []))) from hs ((n : Int) - 0).toNat (WqS2 off n c of2 c2 e l g_ l2 e2 (0)) (.s 0 (Int.le_refl _) (by omega))
  intro m t_ hI
  rw [WqC1_1_0_1, WqC1_1_0_1_0]
  refine Gets.loopG (fun m t_ => WInv off n c of2 c2 e l g_ l2 e2 m t_) ?_ _ _ hI
  clear hI m t_
  intro m t_ hI
  cases hI with
  | s i h0 hi =>
    by_cases hlt : i < (n : Int)
    · refine Wqrd hl (by rw [← h]; exact hl) hb h0 hlt (by rw [h]) ?_
      exact ⟨((n : Int) - (i + 1)).toNat, _, by omega, rfl, .s (i + 1) (by omega) (by omega)⟩
    · refine Wqx (by omega) ?_
      exact ⟨fun _ => Wqfi (EndsR.ret (l := [.bool true]) (by kernel_rfl) rfl (Fits.n0 rfl rfl (Nat.le_refl _))), fun h => by cases h⟩
theorem words2 (e : TypeId) : DoesC Tryd.prog 21 [(.slice (some ⟨0, 0, some 0⟩) 0 0), (.slice (some ⟨0, 0, some 0⟩) 0 0)] (mkH [.cells [(.int .i64 1), (.int .i64 64), (.int .i64 1), (.int .i64 64)] e false]).low ((.bool true)) (effK (mkH [.cells [(.int .i64 1), (.int .i64 64), (.int .i64 1), (.int .i64 64)] e false]) [] []).low := by
  refine EndsR.does Tryd.func21 BWa_is (by rw [oneVar]; exact Nat.le_add_left _ _) ?_
  show Gets Tryd.prog (KH.low ⟨1, 1, [(0, 0, .cells [(.int .i64 1), (.int .i64 64), (.int .i64 1), (.int .i64 64)] e false)]⟩) BWa (KSt.low (WaS0 e)) _
  exact Wat (EndsR.ret (l := [.bool true]) (by kernel_rfl) rfl (Fits.n0 rfl rfl (Nat.le_refl _)))
theorem words3 (e : TypeId) (of2 c2 : Nat) (l2 : List Int) (e2 : TypeId) : DoesC Tryd.prog 21 [(.slice (some ⟨0, 0, some 0⟩) 0 0), (.slice (some ⟨1, of2, none⟩) 0 c2)] (mkH [.cells [(.int .i64 1), (.int .i64 64), (.int .i64 1), (.int .i64 64)] e false, .tail of2 .u64 l2 e2]).low ((.bool true)) (effK (mkH [.cells [(.int .i64 1), (.int .i64 64), (.int .i64 1), (.int .i64 64)] e false, .tail of2 .u64 l2 e2]) [] []).low := by
  refine EndsR.does Tryd.func21 BWb_is (by rw [oneVar]; exact Nat.le_add_left _ _) ?_
  show Gets Tryd.prog (KH.low ⟨2, 1, [(0, 0, .cells [(.int .i64 1), (.int .i64 64), (.int .i64 1), (.int .i64 64)] e false), (1, 0, .tail of2 .u64 l2 e2)]⟩) BWb (KSt.low (WbS0 of2 c2 e l2 e2)) _
  exact Wbt (EndsR.ret (l := [.bool true]) (by kernel_rfl) rfl (Fits.n0 rfl rfl (Nat.le_refl _)))
theorem words4 (e : TypeId) (off c : Nat) (l : List Int) (g_ : TypeId) : DoesC Tryd.prog 21 [(.slice (some ⟨1, off, none⟩) 0 c), (.slice (some ⟨0, 0, some 0⟩) 0 0)] (mkH [.cells [(.int .i64 1), (.int .i64 64), (.int .i64 1), (.int .i64 64)] e false, .tail off .u64 l g_]).low ((.bool true)) (effK (mkH [.cells [(.int .i64 1), (.int .i64 64), (.int .i64 1), (.int .i64 64)] e false, .tail off .u64 l g_]) [] []).low := by
  refine EndsR.does Tryd.func21 BWc_is (by rw [oneVar]; exact Nat.le_add_left _ _) ?_
  show Gets Tryd.prog (KH.low ⟨2, 1, [(0, 0, .cells [(.int .i64 1), (.int .i64 64), (.int .i64 1), (.int .i64 64)] e false), (1, 0, .tail off .u64 l g_)]⟩) BWc (KSt.low (WcS0 off c e l g_)) _
  exact Wct (EndsR.ret (l := [.bool true]) (by kernel_rfl) rfl (Fits.n0 rfl rfl (Nat.le_refl _)))
noncomputable def rc_rWords (sameW : List Int → List Int → Bool) : RC := ⟨[.row .u64, .row .u64], fun avs => match avs with | [.row l, .row m] => ((sameW l m) && (Nat.ble (List.length l) 1000)) | _ => false,
  fun N avs => match avs with | [.row l, .row m] => ((.bool true), [], []) | _ => (.bool false, [], [])⟩
theorem rc_rWords_does : RcDoes Tryd.prog varL 21 (rc_rWords sameW) := by
  intro vb avs args blks hv hs hp
  obtain ⟨e0, rfl⟩ := var1 hv
  cases hs with
  | row0 hs =>
    cases hs with
    | row0 hs =>
      cases hs
      exact words2 e0
    | row off_m n_m c_m m e_m hl_m hs =>
      cases hs
      have hp : (sameW ([] : List Int) m && Nat.ble ([] : List Int).length 1000) = true := hp
      rw [Bool.and_eq_true] at hp
      obtain ⟨hp1, hp2⟩ := hp
      have hp1 : ([] : List Int) = m := of_decide_eq_true hp1
      subst hp1
      have hn : n_m = 0 := hl_m.symm
      subst hn
      exact words3 e0 off_m c_m [] e_m
  | row off_l n_l c_l l e_l hl_l hs =>
    cases hs with
    | row0 hs =>
      cases hs
      have hp : (sameW l ([] : List Int) && Nat.ble l.length 1000) = true := hp
      rw [Bool.and_eq_true] at hp
      obtain ⟨hp1, hp2⟩ := hp
      have hp1 : l = ([] : List Int) := of_decide_eq_true hp1
      subst hp1
      have hn : n_l = 0 := hl_l.symm
      subst hn
      exact words4 e0 off_l c_l [] e_l
    | row off_m n_m c_m m e_m hl_m hs =>
      cases hs
      have hp : (sameW l m && Nat.ble l.length 1000) = true := hp
      rw [Bool.and_eq_true] at hp
      obtain ⟨hp1, hp2⟩ := hp
      have hp1 : l = m := of_decide_eq_true hp1
      have hb := Nat.le_of_ble_eq_true hp2
      have hn : n_m = n_l := by rw [← hl_m, ← hp1]; exact hl_l
      subst hn
      exact words_does e0 off_l _ c_l l e_l off_m c_m m e_m hl_l (by omega) hp1
end Go.Proofs.YtfhfbbhoppnbiaaDoor
