import Derived.Test.YtfhfbbhoppnbiaaDoorRtB
import Derived.WalkKit
import Derived.ProofKit
import Derived.OpenShut
import Derived.ChangeOld
import Derived.Below
import Derived.SizedLaws
namespace Go.Proofs.YtfhfbbhoppnbiaaDoor
open Go.Eng
open Go.ChangeShapes Go.WideShapes Go.ChangeAt Go.RowKit
set_option linter.unusedVariables false
set_option linter.unusedSimpArgs false
set_option maxRecDepth 100000
noncomputable def cfgT : Cfg := ⟨[]⟩
noncomputable def fsT : List FuncId := [10, 15, 20, 35]
theorem fitT : Fit Tryd.prog cfgT fsT := ⟨by kernel_rfl, Cfg.ok_of (by kernel_rfl), by kernel_rfl⟩
def skP (fr : DictSt) (Q : List Int) : List Int := Q.takeWhile fun w => fr.get w == 0
theorem skP_out {fr : DictSt} {W : List Int} {k : Nat} (h : W.length ≤ k) : skP fr (W.drop k) = [] := by rw [List.drop_of_length_le h]; rfl
theorem drop_cons {W : List Int} {k : Nat} (h : k < W.length) : W.drop k = W.getD k 0 :: W.drop (k + 1) := by
  rw [List.drop_eq_getElem_cons h, List.getD_eq_getElem?_getD, List.getElem?_eq_getElem h]; rfl
theorem skP_stop {fr : DictSt} {W : List Int} {k : Nat} (h : k < W.length) (hz : ¬ fr.get (W.getD k 0) = 0) : skP fr (W.drop k) = [] := by
  rw [drop_cons h]; unfold skP; rw [List.takeWhile_cons, ibeq_f hz]; rfl
theorem skP_go {fr : DictSt} {W : List Int} {k : Nat} (h : k < W.length) (hz : fr.get (W.getD k 0) = 0) : skP fr (W.drop k) = W.getD k 0 :: skP fr (W.drop (k + 1)) := by
  rw [drop_cons h]; unfold skP; rw [List.takeWhile_cons, ibeq_t hz]; rfl
theorem skP_len (fr : DictSt) (W : List Int) (k : Nat) : (skP fr (W.drop k)).length ≤ W.length - k := by
  have := (List.takeWhile_sublist (p := fun w => fr.get w == 0) (l := W.drop k)).length_le
  rw [List.length_drop] at this; exact this
def rtStep (x : RetireSt) (w : Int) : RetireSt := bif decide (x.thread < x.site.threads) then { x with thread := x.thread + 1, free := x.free.del w } else { x with at_ := x.at_ + 1 }
def rtSkip (x : RetireSt) : RetireSt := bif decide (x.thread < x.site.threads) then x else
  { x with at_ := x.at_ + ((skP x.free (x.waiting.drop x.at_.toNat)).length : Nat), rest := x.rest ++ skP x.free (x.waiting.drop x.at_.toNat) }
def rtTake (x : RetireSt) (w : Int) : RetireSt := bif rtMore x then rtSkip (rtStep x w) else x
noncomputable def BTa : Code := bodyOf Tryd.prog 20
theorem BTa_is : Tryd.f20.body = some BTa := by kernel_rfl
noncomputable abbrev TaH (e : TypeId) (dk th ts kp sd t a : Int) (fr : DictSt) : AH := (KH.low ⟨3, 1, [(0, 0, .cells [(.int .i64 1), (.int .i64 64), (.int .i64 1), (.int .i64 64)] e false), (1, 0, .cells [(.int .u64 dk), (.int .i64 th), (.int .i64 ts), (.int .i64 kp), (.int .u64 sd), (.bool true), (.bool false), (.int .i64 t), (.slice (some ⟨0, 0, none⟩) 0 0), (.int .i64 a), (.map (some 2)), (.slice (some ⟨0, 0, none⟩) 0 0)] 55 true), (2, 0, .dict .u64 .i64 fr)]⟩)
noncomputable abbrev TaEA (c : Code) (lv p : List Nat) (st : Option (List Nat)) (ws : List Bool) (s : KSt) : Option Rs := evA (evCK Tryd.prog cfgT (runK Tryd.prog cfgT fsT noT 14 40) 14) (stopW 3 lv) p c st ws s (finW 3 lv)
theorem Tafi {c_ : Code} {lv_ p_ : List Nat} {ws_ : List Bool} {st_ s' : KSt} {x : Ex} {Q : Ex → St → Prop} {e : TypeId} {dk th ts kp sd t a : Int} {fr : DictSt} (hE_ : TaEA c_ lv_ p_ none ws_ st_ = some (.fin x s')) (hq_ : Q x s'.low) (hok_ : okCode Tryd.prog.globals.size c_ = true := by kernel_rfl) : AtW Tryd.prog (TaH e dk th ts kp sd t a fr) c_ p_ st_ Q := AtW.fin fitT SoundC.no AgreeT.no 14 40 hok_ hE_ hq_
section
variable (g : Int) (e : TypeId) (dk th ts kp sd t a : Int) (fr : DictSt)
noncomputable def TaS0 : KSt := (firstK [(.pointer (some ⟨1, 0, none⟩)), (.int .u64 g)] 106 ⟨3, 1, [(0, 0, .cells [(.int .i64 1), (.int .i64 64), (.int .i64 1), (.int .i64 64)] e false), (1, 0, .cells [(.int .u64 dk), (.int .i64 th), (.int .i64 ts), (.int .i64 kp), (.int .u64 sd), (.bool true), (.bool false), (.int .i64 t), (.slice (some ⟨0, 0, none⟩) 0 0), (.int .i64 a), (.map (some 2)), (.slice (some ⟨0, 0, none⟩) 0 0)] 55 true), (2, 0, .dict .u64 .i64 fr)]⟩)
noncomputable def TaS1 : KSt := ⟨(frameL 106 []), ⟨3, 1, [(0, 0, .cells [(.int .i64 1), (.int .i64 64), (.int .i64 1), (.int .i64 64)] e false), (1, 0, .cells [(.int .u64 dk), (.int .i64 th), (.int .i64 ts), (.int .i64 kp), (.int .u64 sd), (.bool true), (.bool false), (.int .i64 t), (.slice (some ⟨0, 0, none⟩) 0 0), (.int .i64 a), (.map (some 2)), (.slice (some ⟨0, 0, none⟩) 0 0)] 55 true), (2, 0, .dict .u64 .i64 fr)]⟩⟩
theorem TaW1 : TaEA BTa [] [] none [true] (TaS0 g e dk th ts kp sd t a fr) =
  some (.fin .ret (TaS1 e dk th ts kp sd t a fr)) := by kernel_rfl
end
theorem Tan {e : TypeId} {dk th ts kp sd t a : Int} {fr : DictSt} {g : Int}   {Q : Ex → St → Prop} (hq : Q .ret (KSt.low (TaS1 e dk th ts kp sd t a fr))) : Gets Tryd.prog (TaH e dk th ts kp sd t a fr) BTa (KSt.low (TaS0 g e dk th ts kp sd t a fr)) Q := by
  refine AtW.gets ?_
  exact Tafi (TaW1 ..) hq
noncomputable def BTb : Code := bodyOf Tryd.prog 20
theorem BTb_is : Tryd.f20.body = some BTb := by kernel_rfl
noncomputable abbrev TbH (e : TypeId) (dk th ts kp sd t a : Int) (fr : DictSt) : AH := (KH.low ⟨3, 1, [(0, 0, .cells [(.int .i64 1), (.int .i64 64), (.int .i64 1), (.int .i64 64)] e false), (1, 0, .cells [(.int .u64 dk), (.int .i64 th), (.int .i64 ts), (.int .i64 kp), (.int .u64 sd), (.bool true), (.bool false), (.int .i64 t), (.slice (some ⟨0, 0, none⟩) 0 0), (.int .i64 a), (.map (some 2)), (.slice none 0 0)] 55 true), (2, 0, .dict .u64 .i64 fr)]⟩)
noncomputable abbrev TbEA (c : Code) (lv p : List Nat) (st : Option (List Nat)) (ws : List Bool) (s : KSt) : Option Rs := evA (evCK Tryd.prog cfgT (runK Tryd.prog cfgT fsT noT 14 40) 14) (stopW 3 lv) p c st ws s (finW 3 lv)
theorem Tbfi {c_ : Code} {lv_ p_ : List Nat} {ws_ : List Bool} {st_ s' : KSt} {x : Ex} {Q : Ex → St → Prop} {e : TypeId} {dk th ts kp sd t a : Int} {fr : DictSt} (hE_ : TbEA c_ lv_ p_ none ws_ st_ = some (.fin x s')) (hq_ : Q x s'.low) (hok_ : okCode Tryd.prog.globals.size c_ = true := by kernel_rfl) : AtW Tryd.prog (TbH e dk th ts kp sd t a fr) c_ p_ st_ Q := AtW.fin fitT SoundC.no AgreeT.no 14 40 hok_ hE_ hq_
section
variable (g : Int) (e : TypeId) (dk th ts kp sd t a : Int) (fr : DictSt)
noncomputable def TbS0 : KSt := (firstK [(.pointer (some ⟨1, 0, none⟩)), (.int .u64 g)] 106 ⟨3, 1, [(0, 0, .cells [(.int .i64 1), (.int .i64 64), (.int .i64 1), (.int .i64 64)] e false), (1, 0, .cells [(.int .u64 dk), (.int .i64 th), (.int .i64 ts), (.int .i64 kp), (.int .u64 sd), (.bool true), (.bool false), (.int .i64 t), (.slice (some ⟨0, 0, none⟩) 0 0), (.int .i64 a), (.map (some 2)), (.slice none 0 0)] 55 true), (2, 0, .dict .u64 .i64 fr)]⟩)
noncomputable def TbS1 : KSt := ⟨(frameL 106 []), ⟨3, 1, [(0, 0, .cells [(.int .i64 1), (.int .i64 64), (.int .i64 1), (.int .i64 64)] e false), (1, 0, .cells [(.int .u64 dk), (.int .i64 th), (.int .i64 ts), (.int .i64 kp), (.int .u64 sd), (.bool true), (.bool false), (.int .i64 t), (.slice (some ⟨0, 0, none⟩) 0 0), (.int .i64 a), (.map (some 2)), (.slice none 0 0)] 55 true), (2, 0, .dict .u64 .i64 fr)]⟩⟩
theorem TbW1 : TbEA BTb [] [] none [true] (TbS0 g e dk th ts kp sd t a fr) =
  some (.fin .ret (TbS1 e dk th ts kp sd t a fr)) := by kernel_rfl
end
theorem Tbn {e : TypeId} {dk th ts kp sd t a : Int} {fr : DictSt} {g : Int}   {Q : Ex → St → Prop} (hq : Q .ret (KSt.low (TbS1 e dk th ts kp sd t a fr))) : Gets Tryd.prog (TbH e dk th ts kp sd t a fr) BTb (KSt.low (TbS0 g e dk th ts kp sd t a fr)) Q := by
  refine AtW.gets ?_
  exact Tbfi (TbW1 ..) hq
noncomputable def BTc : Code := bodyOf Tryd.prog 20
theorem BTc_is : Tryd.f20.body = some BTc := by kernel_rfl
noncomputable abbrev TcH (e : TypeId) (dk th ts kp sd t : Int) (W : List Int) (a : Int) (fr : DictSt) : AH := (KH.low ⟨4, 1, [(0, 0, .cells [(.int .i64 1), (.int .i64 64), (.int .i64 1), (.int .i64 64)] e false), (1, 0, .cells [(.int .u64 dk), (.int .i64 th), (.int .i64 ts), (.int .i64 kp), (.int .u64 sd), (.bool true), (.bool false), (.int .i64 t), (.slice (some ⟨3, 0, none⟩) (List.length W) (List.length W)), (.int .i64 a), (.map (some 2)), (.slice (some ⟨3, 0, none⟩) (List.length W) (List.length W))] 55 true), (2, 0, .dict .u64 .i64 fr), (3, 0, .ints .u64 W 22 true)]⟩)
noncomputable abbrev TcEA (c : Code) (lv p : List Nat) (st : Option (List Nat)) (ws : List Bool) (s : KSt) : Option Rs := evA (evCK Tryd.prog cfgT (runK Tryd.prog cfgT fsT noT 14 40) 14) (stopW 4 lv) p c st ws s (finW 4 lv)
theorem Tcfi {c_ : Code} {lv_ p_ : List Nat} {ws_ : List Bool} {st_ s' : KSt} {x : Ex} {Q : Ex → St → Prop} {e : TypeId} {dk th ts kp sd t : Int} {W : List Int} {a : Int} {fr : DictSt} (hE_ : TcEA c_ lv_ p_ none ws_ st_ = some (.fin x s')) (hq_ : Q x s'.low) (hok_ : okCode Tryd.prog.globals.size c_ = true := by kernel_rfl) : AtW Tryd.prog (TcH e dk th ts kp sd t W a fr) c_ p_ st_ Q := AtW.fin fitT SoundC.no AgreeT.no 14 40 hok_ hE_ hq_
section
variable (g : Int) (e : TypeId) (dk th ts kp sd t : Int) (W : List Int) (a : Int) (fr : DictSt)
noncomputable def TcS0 : KSt := (firstK [(.pointer (some ⟨1, 0, none⟩)), (.int .u64 g)] 106 ⟨4, 1, [(0, 0, .cells [(.int .i64 1), (.int .i64 64), (.int .i64 1), (.int .i64 64)] e false), (1, 0, .cells [(.int .u64 dk), (.int .i64 th), (.int .i64 ts), (.int .i64 kp), (.int .u64 sd), (.bool true), (.bool false), (.int .i64 t), (.slice (some ⟨3, 0, none⟩) (List.length W) (List.length W)), (.int .i64 a), (.map (some 2)), (.slice (some ⟨3, 0, none⟩) (List.length W) (List.length W))] 55 true), (2, 0, .dict .u64 .i64 fr), (3, 0, .ints .u64 W 22 true)]⟩)
noncomputable def TcS1 : KSt := ⟨(frameL 106 []), ⟨4, 1, [(0, 0, .cells [(.int .i64 1), (.int .i64 64), (.int .i64 1), (.int .i64 64)] e false), (1, 0, .cells [(.int .u64 dk), (.int .i64 th), (.int .i64 ts), (.int .i64 kp), (.int .u64 sd), (.bool true), (.bool false), (.int .i64 t), (.slice (some ⟨3, 0, none⟩) (List.length W) (List.length W)), (.int .i64 a), (.map (some 2)), (.slice (some ⟨3, 0, none⟩) (List.length W) (List.length W))] 55 true), (2, 0, .dict .u64 .i64 fr), (3, 0, .ints .u64 W 22 true)]⟩⟩
theorem TcW1 : TcEA BTc [] [] none [true] (TcS0 g e dk th ts kp sd t W a fr) =
  some (.fin .ret (TcS1 e dk th ts kp sd t W a fr)) := by kernel_rfl
end
theorem Tcn {e : TypeId} {dk th ts kp sd t : Int} {W : List Int} {a : Int} {fr : DictSt} {g : Int}   {Q : Ex → St → Prop} (hq : Q .ret (KSt.low (TcS1 e dk th ts kp sd t W a fr))) : Gets Tryd.prog (TcH e dk th ts kp sd t W a fr) BTc (KSt.low (TcS0 g e dk th ts kp sd t W a fr)) Q := by
  refine AtW.gets ?_
  exact Tcfi (TcW1 ..) hq
noncomputable def BTd : Code := bodyOf Tryd.prog 20
theorem BTd_is : Tryd.f20.body = some BTd := by kernel_rfl
noncomputable abbrev TdH (e : TypeId) (dk th ts kp sd t : Int) (W : List Int) (a : Int) (fr : DictSt) : AH := (KH.low ⟨4, 1, [(0, 0, .cells [(.int .i64 1), (.int .i64 64), (.int .i64 1), (.int .i64 64)] e false), (1, 0, .cells [(.int .u64 dk), (.int .i64 th), (.int .i64 ts), (.int .i64 kp), (.int .u64 sd), (.bool true), (.bool true), (.int .i64 t), (.slice (some ⟨3, 0, none⟩) (List.length W) (List.length W)), (.int .i64 a), (.map (some 2)), (.slice none 0 0)] 55 true), (2, 0, .dict .u64 .i64 fr), (3, 0, .ints .u64 W 22 true)]⟩)
noncomputable abbrev TdEA (c : Code) (lv p : List Nat) (st : Option (List Nat)) (ws : List Bool) (s : KSt) : Option Rs := evA (evCK Tryd.prog cfgT (runK Tryd.prog cfgT fsT noT 14 40) 14) (stopW 4 lv) p c st ws s (finW 4 lv)
theorem Tdto {c_ : Code} {lv_ p_ p2_ : List Nat} {ws_ : List Bool} {st_ s' : KSt} {Q : Ex → St → Prop} {e : TypeId} {dk th ts kp sd t : Int} {W : List Int} {a : Int} {fr : DictSt} (hE_ : TdEA c_ lv_ p_ (some p2_) ws_ st_ = some (.stop s')) (hq_ : AtW Tryd.prog (TdH e dk th ts kp sd t W a fr) c_ p2_ s' Q) (hok_ : okCode Tryd.prog.globals.size c_ = true := by kernel_rfl) : AtW Tryd.prog (TdH e dk th ts kp sd t W a fr) c_ p_ st_ Q := AtW.to fitT SoundC.no AgreeT.no 14 40 hok_ hE_ hq_
theorem Tdfi {c_ : Code} {lv_ p_ : List Nat} {ws_ : List Bool} {st_ s' : KSt} {x : Ex} {Q : Ex → St → Prop} {e : TypeId} {dk th ts kp sd t : Int} {W : List Int} {a : Int} {fr : DictSt} (hE_ : TdEA c_ lv_ p_ none ws_ st_ = some (.fin x s')) (hq_ : Q x s'.low) (hok_ : okCode Tryd.prog.globals.size c_ = true := by kernel_rfl) : AtW Tryd.prog (TdH e dk th ts kp sd t W a fr) c_ p_ st_ Q := AtW.fin fitT SoundC.no AgreeT.no 14 40 hok_ hE_ hq_
theorem TdC1_1_1 : (codeAt [1, 1, 1] BTd) = .block 0 (codeAt [1, 1, 1, 0] BTd) := by kernel_rfl
theorem TdC1_1_1_0 : (codeAt [1, 1, 1, 0] BTd) = .loop (codeAt [1, 1, 1, 0, 0] BTd) := by kernel_rfl
section
variable (g : Int) (e : TypeId) (dk th ts kp sd t : Int) (W : List Int) (a : Int) (fr : DictSt) (t2 a2 : Int) (f2 : DictSt) (zn1 : Int) (R2 : List Int)
noncomputable abbrev TdO0 (e : TypeId) : KObj := .cells [(.int .i64 1), (.int .i64 64), (.int .i64 1), (.int .i64 64)] e false
noncomputable abbrev TdO1 (dk th ts kp sd t : Int) (W : List Int) (a : Int) : KObj := .cells [(.int .u64 dk), (.int .i64 th), (.int .i64 ts), (.int .i64 kp), (.int .u64 sd), (.bool true), (.bool true), (.int .i64 t), (.slice (some ⟨3, 0, none⟩) (List.length W) (List.length W)), (.int .i64 a), (.map (some 2)), (.slice none 0 0)] 55 true
noncomputable abbrev TdO2 (dk th ts kp sd t2 : Int) (W : List Int) (a2 : Int) : KObj := .cells [(.int .u64 dk), (.int .i64 th), (.int .i64 ts), (.int .i64 kp), (.int .u64 sd), (.bool true), (.bool true), (.int .i64 t2), (.slice (some ⟨3, 0, none⟩) (List.length W) (List.length W)), (.int .i64 a2), (.map (some 2)), (.slice none 0 0)] 55 true
noncomputable abbrev TdO3 (dk th ts kp sd t2 : Int) (W : List Int) (a2 : Int) (R2 : List Int) : KObj := .cells [(.int .u64 dk), (.int .i64 th), (.int .i64 ts), (.int .i64 kp), (.int .u64 sd), (.bool true), (.bool true), (.int .i64 t2), (.slice (some ⟨3, 0, none⟩) (List.length W) (List.length W)), (.int .i64 a2), (.map (some 2)), (.slice (some ⟨4, 0, none⟩) (List.length R2) (List.length R2))] 55 true
noncomputable def TdS0 : KSt := (firstK [(.pointer (some ⟨1, 0, none⟩)), (.int .u64 g)] 106 ⟨4, 1, [(0, 0, (TdO0 e)), (1, 0, (TdO1 dk th ts kp sd t W a)), (2, 0, .dict .u64 .i64 fr), (3, 0, .ints .u64 W 22 true)]⟩)
noncomputable def TdS1 : KSt := ⟨(frameL 106 [(0, (.pointer (some ⟨1, 0, none⟩))), (1, (.int .u64 g)), (5, (.bool true))]), ⟨4, 1, [(0, 0, (TdO0 e)), (1, 0, (TdO1 dk th ts kp sd t W a)), (2, 0, .dict .u64 .i64 fr), (3, 0, .ints .u64 W 22 true)]⟩⟩
noncomputable def TdS2 : KSt := ⟨(frameL 106 [(0, (.pointer (some ⟨1, 0, none⟩))), (1, (.int .u64 g)), (5, (.bool false))]), ⟨4, 1, [(0, 0, (TdO0 e)), (1, 0, (TdO1 dk th ts kp sd t W a)), (2, 0, .dict .u64 .i64 fr), (3, 0, .ints .u64 W 22 true)]⟩⟩
theorem TdW1 : TdEA BTd [0, 1, 5] [] (some [0, 1]) [] (TdS0 g e dk th ts kp sd t W a fr) =
  bif (decide (t < ts)) then
    bif (decide (t < 0)) then
      some (.stop (TdS1 g e dk th ts kp sd t W a fr))
    else
      bif (decide (t ≥ 64)) then
        some (.stop (TdS1 g e dk th ts kp sd t W a fr))
      else
        some (.stop (TdS1 g e dk th ts kp sd t W a fr))
  else
    bif (decide (a < (((List.length W) : Nat) : Int))) then
      if 0 ≤ a ∧ a < (((List.length W) : Nat) : Int) then
        obind (W[(0 + ((Int.toNat a) * 1))]?) fun zn1 =>
          some (.stop (TdS1 g e dk th ts kp sd t W a fr))
      else
        none
    else
      some (.stop (TdS2 g e dk th ts kp sd t W a fr)) := by kernel_rfl
theorem TdW2 : TdEA BTd [0] [0, 1] (some [1, 1]) [false, true] (TdS1 g e dk th ts kp sd t W a fr) =
  bif (decide (t < ts)) then
    some (.stop ⟨(frameL 106 [(0, (.pointer (some ⟨1, 0, none⟩)))]), ⟨4, 1, [(0, 0, .cells [(.int .i64 1), (.int .i64 64), (.int .i64 1), (.int .i64 64)] e false), (1, 0, .cells [(.int .u64 dk), (.int .i64 th), (.int .i64 ts), (.int .i64 kp), (.int .u64 sd), (.bool true), (.bool true), (.int .i64 (IntKind.wrap .i64 (t + 1))), (.slice (some ⟨3, 0, none⟩) (List.length W) (List.length W)), (.int .i64 a), (.map (some 2)), (.slice none 0 0)] 55 true), (2, 0, .dict .u64 .i64 (DictSt.del fr g)), (3, 0, .ints .u64 W 22 true)]⟩⟩)
  else
    none := by kernel_rfl
noncomputable def TdS3 : KSt := ⟨(frameL 106 [(0, (.pointer (some ⟨1, 0, none⟩)))]), ⟨4, 1, [(0, 0, (TdO0 e)), (1, 0, .cells [(.int .u64 dk), (.int .i64 th), (.int .i64 ts), (.int .i64 kp), (.int .u64 sd), (.bool true), (.bool true), (.int .i64 (t + 1)), (.slice (some ⟨3, 0, none⟩) (List.length W) (List.length W)), (.int .i64 a), (.map (some 2)), (.slice none 0 0)] 55 true), (2, 0, .dict .u64 .i64 (DictSt.del fr g)), (3, 0, .ints .u64 W 22 true)]⟩⟩
noncomputable def TdS4 : KSt := ⟨(frameL 106 []), ⟨4, 1, [(0, 0, (TdO0 e)), (1, 0, .cells [(.int .u64 dk), (.int .i64 th), (.int .i64 ts), (.int .i64 kp), (.int .u64 sd), (.bool true), (.bool true), (.int .i64 (t + 1)), (.slice (some ⟨3, 0, none⟩) (List.length W) (List.length W)), (.int .i64 a), (.map (some 2)), (.slice none 0 0)] 55 true), (2, 0, .dict .u64 .i64 (DictSt.del fr g)), (3, 0, .ints .u64 W 22 true)]⟩⟩
theorem TdW3 : TdEA BTd [] [1, 1] none [true] (TdS3 g e dk th ts kp sd t W a fr) =
  bif (decide ((t + 1) < ts)) then
    some (.fin .ret (TdS4 g e dk th ts kp sd t W a fr))
  else
    none := by kernel_rfl
theorem TdW4 : TdEA BTd [0] [1, 1] (some [1, 1, 1]) [false] (TdS3 g e dk th ts kp sd t W a fr) =
  bif (decide ((t + 1) < ts)) then
    none
  else
    some (.stop (TdS3 g e dk th ts kp sd t W a fr)) := by kernel_rfl
theorem TdW5 : TdEA BTd [0, 1, 5] [] (some [0, 1]) [] (TdS0 g e dk th ts kp sd t W a fr) =
  bif (decide (t < ts)) then
    bif (decide (t < 0)) then
      some (.stop (TdS1 g e dk th ts kp sd t W a fr))
    else
      bif (decide (t ≥ 64)) then
        some (.stop (TdS1 g e dk th ts kp sd t W a fr))
      else
        some (.stop (TdS1 g e dk th ts kp sd t W a fr))
  else
    bif (decide (a < (((List.length W) : Nat) : Int))) then
      if 0 ≤ a ∧ a < (((List.length W) : Nat) : Int) then
        obind (W[(0 + ((Int.toNat a) * 1))]?) fun zn1 =>
          some (.stop ⟨(frameL 106 [(0, (.pointer (some ⟨1, 0, none⟩))), (1, (.int .u64 g)), (5, (.bool true))]), ⟨4, 1, [(0, 0, .cells [(.int .i64 1), (.int .i64 64), (.int .i64 1), (.int .i64 64)] e false), (1, 0, .cells [(.int .u64 dk), (.int .i64 th), (.int .i64 ts), (.int .i64 kp), (.int .u64 sd), (.bool true), (.bool true), (.int .i64 t), (.slice (some ⟨3, 0, none⟩) (List.length W) (List.length W)), (.int .i64 a), (.map (some 2)), (.slice none 0 0)] 55 true), (2, 0, .dict .u64 .i64 fr), (3, 0, .ints .u64 W 22 true)]⟩⟩)
      else
        none
    else
      some (.stop (TdS2 g e dk th ts kp sd t W a fr)) := by kernel_rfl
theorem TdW6 : TdEA BTd [0] [0, 1] (some [1, 1]) [false, false] (TdS1 g e dk th ts kp sd t W a fr) =
  bif (decide (t < ts)) then
    none
  else
    some (.stop ⟨(frameL 106 [(0, (.pointer (some ⟨1, 0, none⟩)))]), ⟨4, 1, [(0, 0, .cells [(.int .i64 1), (.int .i64 64), (.int .i64 1), (.int .i64 64)] e false), (1, 0, .cells [(.int .u64 dk), (.int .i64 th), (.int .i64 ts), (.int .i64 kp), (.int .u64 sd), (.bool true), (.bool true), (.int .i64 t), (.slice (some ⟨3, 0, none⟩) (List.length W) (List.length W)), (.int .i64 (IntKind.wrap .i64 (a + 1))), (.map (some 2)), (.slice none 0 0)] 55 true), (2, 0, .dict .u64 .i64 fr), (3, 0, .ints .u64 W 22 true)]⟩⟩) := by kernel_rfl
noncomputable def TdS5 : KSt := ⟨(frameL 106 [(0, (.pointer (some ⟨1, 0, none⟩)))]), ⟨4, 1, [(0, 0, (TdO0 e)), (1, 0, .cells [(.int .u64 dk), (.int .i64 th), (.int .i64 ts), (.int .i64 kp), (.int .u64 sd), (.bool true), (.bool true), (.int .i64 t), (.slice (some ⟨3, 0, none⟩) (List.length W) (List.length W)), (.int .i64 (a + 1)), (.map (some 2)), (.slice none 0 0)] 55 true), (2, 0, .dict .u64 .i64 fr), (3, 0, .ints .u64 W 22 true)]⟩⟩
theorem TdW7 : TdEA BTd [0] [1, 1] (some [1, 1, 1]) [false] (TdS5 e dk th ts kp sd t W a fr) =
  bif (decide (t < ts)) then
    none
  else
    some (.stop (TdS5 e dk th ts kp sd t W a fr)) := by kernel_rfl
noncomputable def TdS6 : KSt := ⟨(frameL 106 []), ⟨4, 1, [(0, 0, (TdO0 e)), (1, 0, (TdO1 dk th ts kp sd t W a)), (2, 0, .dict .u64 .i64 fr), (3, 0, .ints .u64 W 22 true)]⟩⟩
theorem TdW8 : TdEA BTd [] [0, 1] none [true] (TdS2 g e dk th ts kp sd t W a fr) =
  some (.fin .ret (TdS6 e dk th ts kp sd t W a fr)) := by kernel_rfl
noncomputable def TdS7 : KSt := ⟨(frameL 106 [(0, (.pointer (some ⟨1, 0, none⟩)))]), ⟨4, 1, [(0, 0, (TdO0 e)), (1, 0, (TdO2 dk th ts kp sd t2 W a2)), (2, 0, .dict .u64 .i64 f2), (3, 0, .ints .u64 W 22 true)]⟩⟩
noncomputable def TdS9 : KSt := ⟨(frameL 106 [(0, (.pointer (some ⟨1, 0, none⟩))), (79, (.bool false))]), ⟨4, 1, [(0, 0, (TdO0 e)), (1, 0, (TdO2 dk th ts kp sd t2 W a2)), (2, 0, .dict .u64 .i64 f2), (3, 0, .ints .u64 W 22 true)]⟩⟩
theorem TdW9 : TdEA (codeAt [1, 1, 1, 0, 0] BTd) [0, 79] [] (some [0, 1]) [] (TdS7 e dk th ts kp sd W t2 a2 f2) =
  bif (decide (a2 < (((List.length W) : Nat) : Int))) then
    if 0 ≤ a2 ∧ a2 < (((List.length W) : Nat) : Int) then
      obind (W[(0 + ((Int.toNat a2) * 1))]?) fun zn1 =>
        some (.stop ⟨(frameL 106 [(0, (.pointer (some ⟨1, 0, none⟩))), (79, (.bool ((DictSt.get f2 zn1) == 0)))]), ⟨4, 1, [(0, 0, .cells [(.int .i64 1), (.int .i64 64), (.int .i64 1), (.int .i64 64)] e false), (1, 0, .cells [(.int .u64 dk), (.int .i64 th), (.int .i64 ts), (.int .i64 kp), (.int .u64 sd), (.bool true), (.bool true), (.int .i64 t2), (.slice (some ⟨3, 0, none⟩) (List.length W) (List.length W)), (.int .i64 a2), (.map (some 2)), (.slice none 0 0)] 55 true), (2, 0, .dict .u64 .i64 f2), (3, 0, .ints .u64 W 22 true)]⟩⟩)
    else
      none
  else
    some (.stop (TdS9 e dk th ts kp sd W t2 a2 f2)) := by kernel_rfl
noncomputable def TdS10 : KSt := ⟨(frameL 106 []), ⟨4, 1, [(0, 0, (TdO0 e)), (1, 0, (TdO2 dk th ts kp sd t2 W a2)), (2, 0, .dict .u64 .i64 f2), (3, 0, .ints .u64 W 22 true)]⟩⟩
theorem TdW10 : TdEA (codeAt [1, 1, 1, 0, 0] BTd) [] [0, 1] none [false] (TdS9 e dk th ts kp sd W t2 a2 f2) =
  some (.fin (.exit 0) (TdS10 e dk th ts kp sd W t2 a2 f2)) := by kernel_rfl
theorem TdW11 : TdEA (codeAt [1, 1, 1, 0, 0] BTd) [0, 79] [] (some [0, 1]) [] (TdS7 e dk th ts kp sd W t2 a2 f2) =
  bif (decide (a2 < (((List.length W) : Nat) : Int))) then
    if 0 ≤ a2 ∧ a2 < (((List.length W) : Nat) : Int) then
      obind (W[(0 + ((Int.toNat a2) * 1))]?) fun zn1 =>
        some (.stop ⟨(frameL 106 [(0, (.pointer (some ⟨1, 0, none⟩))), (79, (.bool ((DictSt.get f2 zn1) == 0)))]), ⟨4, 1, [(0, 0, .cells [(.int .i64 1), (.int .i64 64), (.int .i64 1), (.int .i64 64)] e false), (1, 0, .cells [(.int .u64 dk), (.int .i64 th), (.int .i64 ts), (.int .i64 kp), (.int .u64 sd), (.bool true), (.bool true), (.int .i64 t2), (.slice (some ⟨3, 0, none⟩) (List.length W) (List.length W)), (.int .i64 a2), (.map (some 2)), (.slice none 0 0)] 55 true), (2, 0, .dict .u64 .i64 f2), (3, 0, .ints .u64 W 22 true)]⟩⟩)
    else
      none
  else
    some (.stop (TdS9 e dk th ts kp sd W t2 a2 f2)) := by kernel_rfl
noncomputable def TdS11 : KSt := ⟨(frameL 106 [(0, (.pointer (some ⟨1, 0, none⟩))), (79, (.bool ((DictSt.get f2 (W.getD (0 + ((Int.toNat a2) * 1)) 0)) == 0)))]), ⟨4, 1, [(0, 0, (TdO0 e)), (1, 0, (TdO2 dk th ts kp sd t2 W a2)), (2, 0, .dict .u64 .i64 f2), (3, 0, .ints .u64 W 22 true)]⟩⟩
theorem TdW12 : TdEA (codeAt [1, 1, 1, 0, 0] BTd) [] [0, 1] none [false] (TdS11 e dk th ts kp sd W t2 a2 f2) =
  bif ((DictSt.get f2 (W.getD (0 + ((Int.toNat a2) * 1)) 0)) == 0) then
    none
  else
    some (.fin (.exit 0) (TdS10 e dk th ts kp sd W t2 a2 f2)) := by kernel_rfl
theorem TdW13 : TdEA (codeAt [1, 1, 1, 0, 0] BTd) [0] [0, 1] none [true, false] (TdS11 e dk th ts kp sd W t2 a2 f2) =
  bif ((DictSt.get f2 (W.getD (0 + ((Int.toNat a2) * 1)) 0)) == 0) then
    if 0 ≤ a2 ∧ a2 < (((List.length W) : Nat) : Int) then
      obind (W[(0 + ((Int.toNat a2) * 1))]?) fun zn1 =>
        some (.fin .normal ⟨(frameL 106 [(0, (.pointer (some ⟨1, 0, none⟩)))]), ⟨5, 1, [(4, 0, .cells [(.int .u64 zn1)] 22 true), (0, 0, .cells [(.int .i64 1), (.int .i64 64), (.int .i64 1), (.int .i64 64)] e false), (1, 0, .cells [(.int .u64 dk), (.int .i64 th), (.int .i64 ts), (.int .i64 kp), (.int .u64 sd), (.bool true), (.bool true), (.int .i64 t2), (.slice (some ⟨3, 0, none⟩) (List.length W) (List.length W)), (.int .i64 (IntKind.wrap .i64 (a2 + 1))), (.map (some 2)), (.slice (some ⟨4, 0, none⟩) 1 1)] 55 true), (2, 0, .dict .u64 .i64 f2), (3, 0, .ints .u64 W 22 true)]⟩⟩)
    else
      none
  else
    none := by kernel_rfl
noncomputable def TdS12 : KSt := ⟨(frameL 106 [(0, (.pointer (some ⟨1, 0, none⟩)))]), ⟨5, 1, [(4, 0, .cells [(.int .u64 (W.getD (0 + ((Int.toNat a2) * 1)) 0))] 22 true), (0, 0, (TdO0 e)), (1, 0, .cells [(.int .u64 dk), (.int .i64 th), (.int .i64 ts), (.int .i64 kp), (.int .u64 sd), (.bool true), (.bool true), (.int .i64 t2), (.slice (some ⟨3, 0, none⟩) (List.length W) (List.length W)), (.int .i64 (a2 + 1)), (.map (some 2)), (.slice (some ⟨4, 0, none⟩) 1 1)] 55 true), (2, 0, .dict .u64 .i64 f2), (3, 0, .ints .u64 W 22 true)]⟩⟩
noncomputable def TdS13 : KSt := ⟨(frameL 106 [(0, (.pointer (some ⟨1, 0, none⟩)))]), ⟨5, 1, [(4, 0, .ints .u64 R2 22 true), (0, 0, (TdO0 e)), (1, 0, (TdO3 dk th ts kp sd t2 W a2 R2)), (2, 0, .dict .u64 .i64 f2), (3, 0, .ints .u64 W 22 true)]⟩⟩
noncomputable def TdS15 : KSt := ⟨(frameL 106 [(0, (.pointer (some ⟨1, 0, none⟩))), (79, (.bool false))]), ⟨5, 1, [(4, 0, .ints .u64 R2 22 true), (0, 0, (TdO0 e)), (1, 0, (TdO3 dk th ts kp sd t2 W a2 R2)), (2, 0, .dict .u64 .i64 f2), (3, 0, .ints .u64 W 22 true)]⟩⟩
theorem TdW14 : TdEA (codeAt [1, 1, 1, 0, 0] BTd) [0, 79] [] (some [0, 1]) [] (TdS13 e dk th ts kp sd W t2 a2 f2 R2) =
  bif (decide (a2 < (((List.length W) : Nat) : Int))) then
    if 0 ≤ a2 ∧ a2 < (((List.length W) : Nat) : Int) then
      obind (W[(0 + ((Int.toNat a2) * 1))]?) fun zn1 =>
        some (.stop ⟨(frameL 106 [(0, (.pointer (some ⟨1, 0, none⟩))), (79, (.bool ((DictSt.get f2 zn1) == 0)))]), ⟨5, 1, [(4, 0, .ints .u64 R2 22 true), (0, 0, .cells [(.int .i64 1), (.int .i64 64), (.int .i64 1), (.int .i64 64)] e false), (1, 0, .cells [(.int .u64 dk), (.int .i64 th), (.int .i64 ts), (.int .i64 kp), (.int .u64 sd), (.bool true), (.bool true), (.int .i64 t2), (.slice (some ⟨3, 0, none⟩) (List.length W) (List.length W)), (.int .i64 a2), (.map (some 2)), (.slice (some ⟨4, 0, none⟩) (List.length R2) (List.length R2))] 55 true), (2, 0, .dict .u64 .i64 f2), (3, 0, .ints .u64 W 22 true)]⟩⟩)
    else
      none
  else
    some (.stop (TdS15 e dk th ts kp sd W t2 a2 f2 R2)) := by kernel_rfl
noncomputable def TdS16 : KSt := ⟨(frameL 106 []), ⟨5, 1, [(4, 0, .ints .u64 R2 22 true), (0, 0, (TdO0 e)), (1, 0, (TdO3 dk th ts kp sd t2 W a2 R2)), (2, 0, .dict .u64 .i64 f2), (3, 0, .ints .u64 W 22 true)]⟩⟩
theorem TdW15 : TdEA (codeAt [1, 1, 1, 0, 0] BTd) [] [0, 1] none [false] (TdS15 e dk th ts kp sd W t2 a2 f2 R2) =
  some (.fin (.exit 0) (TdS16 e dk th ts kp sd W t2 a2 f2 R2)) := by kernel_rfl
theorem TdW16 : TdEA (codeAt [1, 1, 1, 0, 0] BTd) [0, 79] [] (some [0, 1]) [] (TdS13 e dk th ts kp sd W t2 a2 f2 R2) =
  bif (decide (a2 < (((List.length W) : Nat) : Int))) then
    if 0 ≤ a2 ∧ a2 < (((List.length W) : Nat) : Int) then
      obind (W[(0 + ((Int.toNat a2) * 1))]?) fun zn1 =>
        some (.stop ⟨(frameL 106 [(0, (.pointer (some ⟨1, 0, none⟩))), (79, (.bool ((DictSt.get f2 zn1) == 0)))]), ⟨5, 1, [(4, 0, .ints .u64 R2 22 true), (0, 0, .cells [(.int .i64 1), (.int .i64 64), (.int .i64 1), (.int .i64 64)] e false), (1, 0, .cells [(.int .u64 dk), (.int .i64 th), (.int .i64 ts), (.int .i64 kp), (.int .u64 sd), (.bool true), (.bool true), (.int .i64 t2), (.slice (some ⟨3, 0, none⟩) (List.length W) (List.length W)), (.int .i64 a2), (.map (some 2)), (.slice (some ⟨4, 0, none⟩) (List.length R2) (List.length R2))] 55 true), (2, 0, .dict .u64 .i64 f2), (3, 0, .ints .u64 W 22 true)]⟩⟩)
    else
      none
  else
    some (.stop (TdS15 e dk th ts kp sd W t2 a2 f2 R2)) := by kernel_rfl
noncomputable def TdS17 : KSt := ⟨(frameL 106 [(0, (.pointer (some ⟨1, 0, none⟩))), (79, (.bool ((DictSt.get f2 (W.getD (0 + ((Int.toNat a2) * 1)) 0)) == 0)))]), ⟨5, 1, [(4, 0, .ints .u64 R2 22 true), (0, 0, (TdO0 e)), (1, 0, (TdO3 dk th ts kp sd t2 W a2 R2)), (2, 0, .dict .u64 .i64 f2), (3, 0, .ints .u64 W 22 true)]⟩⟩
theorem TdW17 : TdEA (codeAt [1, 1, 1, 0, 0] BTd) [] [0, 1] none [false] (TdS17 e dk th ts kp sd W t2 a2 f2 R2) =
  bif ((DictSt.get f2 (W.getD (0 + ((Int.toNat a2) * 1)) 0)) == 0) then
    none
  else
    some (.fin (.exit 0) (TdS16 e dk th ts kp sd W t2 a2 f2 R2)) := by kernel_rfl
theorem TdW18 : TdEA (codeAt [1, 1, 1, 0, 0] BTd) [0] [0, 1] (some [1, 0, 1]) [true, false] (TdS17 e dk th ts kp sd W t2 a2 f2 R2) =
  bif ((DictSt.get f2 (W.getD (0 + ((Int.toNat a2) * 1)) 0)) == 0) then
    if 0 ≤ a2 ∧ a2 < (((List.length W) : Nat) : Int) then
      obind (W[(0 + ((Int.toNat a2) * 1))]?) fun zn1 =>
        bif (Nat.ble (((List.length R2) + 1) * 9) 1099511627776) then
          bif (Nat.ble ((List.length R2) + 1) (List.length R2)) then
            bif (Nat.ble (0 + ((List.length R2) + 1)) (List.length R2)) then
              some (.stop ⟨(frameL 106 [(0, (.pointer (some ⟨1, 0, none⟩)))]), ⟨5, 1, [(4, 0, .ints .u64 (List.take (0 + (List.length R2)) R2 ++ [zn1] ++ List.drop ((0 + (List.length R2)) + (List.length [zn1])) R2) 22 true), (0, 0, .cells [(.int .i64 1), (.int .i64 64), (.int .i64 1), (.int .i64 64)] e false), (1, 0, .cells [(.int .u64 dk), (.int .i64 th), (.int .i64 ts), (.int .i64 kp), (.int .u64 sd), (.bool true), (.bool true), (.int .i64 t2), (.slice (some ⟨3, 0, none⟩) (List.length W) (List.length W)), (.int .i64 a2), (.map (some 2)), (.slice (some ⟨4, 0, none⟩) ((List.length R2) + 1) (List.length R2))] 55 true), (2, 0, .dict .u64 .i64 f2), (3, 0, .ints .u64 W 22 true)]⟩⟩)
            else
              none
          else
            bif ((Nat.beq (List.length R2) 0) && (Nat.beq (List.length R2) 0)) then
              some (.stop ⟨(frameL 106 [(0, (.pointer (some ⟨1, 0, none⟩)))]), ⟨5, 1, [(4, 0, .cells [(.int .u64 zn1)] 22 true), (0, 0, .cells [(.int .i64 1), (.int .i64 64), (.int .i64 1), (.int .i64 64)] e false), (1, 0, .cells [(.int .u64 dk), (.int .i64 th), (.int .i64 ts), (.int .i64 kp), (.int .u64 sd), (.bool true), (.bool true), (.int .i64 t2), (.slice (some ⟨3, 0, none⟩) (List.length W) (List.length W)), (.int .i64 a2), (.map (some 2)), (.slice (some ⟨4, 0, none⟩) 1 1)] 55 true), (2, 0, .dict .u64 .i64 f2), (3, 0, .ints .u64 W 22 true)]⟩⟩)
            else
              bif ((Nat.ble (List.length R2) (List.length R2)) && (Nat.ble 1 (List.length R2))) then
                some (.stop ⟨(frameL 106 [(0, (.pointer (some ⟨1, 0, none⟩)))]), ⟨5, 1, [(4, 0, .ints .u64 (List.take (List.length R2) R2 ++ [zn1]) 22 true), (0, 0, .cells [(.int .i64 1), (.int .i64 64), (.int .i64 1), (.int .i64 64)] e false), (1, 0, .cells [(.int .u64 dk), (.int .i64 th), (.int .i64 ts), (.int .i64 kp), (.int .u64 sd), (.bool true), (.bool true), (.int .i64 t2), (.slice (some ⟨3, 0, none⟩) (List.length W) (List.length W)), (.int .i64 a2), (.map (some 2)), (.slice (some ⟨4, 0, none⟩) ((List.length R2) + 1) ((List.length R2) + 1))] 55 true), (2, 0, .dict .u64 .i64 f2), (3, 0, .ints .u64 W 22 true)]⟩⟩)
              else
                none
        else
          none
    else
      none
  else
    none := by kernel_rfl
noncomputable def TdS20 : KSt := ⟨(frameL 106 [(0, (.pointer (some ⟨1, 0, none⟩)))]), ⟨5, 1, [(4, 0, .ints .u64 (List.take (List.length R2) R2 ++ [(W.getD (0 + ((Int.toNat a2) * 1)) 0)]) 22 true), (0, 0, (TdO0 e)), (1, 0, .cells [(.int .u64 dk), (.int .i64 th), (.int .i64 ts), (.int .i64 kp), (.int .u64 sd), (.bool true), (.bool true), (.int .i64 t2), (.slice (some ⟨3, 0, none⟩) (List.length W) (List.length W)), (.int .i64 a2), (.map (some 2)), (.slice (some ⟨4, 0, none⟩) (List.length (List.take (List.length R2) R2 ++ [(W.getD (0 + ((Int.toNat a2) * 1)) 0)])) (List.length (List.take (List.length R2) R2 ++ [(W.getD (0 + ((Int.toNat a2) * 1)) 0)])))] 55 true), (2, 0, .dict .u64 .i64 f2), (3, 0, .ints .u64 W 22 true)]⟩⟩
theorem TdW19 : TdEA (codeAt [1, 1, 1, 0, 0] BTd) [0] [1, 0, 1] none [] (TdS20 e dk th ts kp sd W t2 a2 f2 R2) =
  some (.fin .normal ⟨(frameL 106 [(0, (.pointer (some ⟨1, 0, none⟩)))]), ⟨5, 1, [(4, 0, .ints .u64 (List.take (List.length R2) R2 ++ [(W.getD (0 + ((Int.toNat a2) * 1)) 0)]) 22 true), (0, 0, .cells [(.int .i64 1), (.int .i64 64), (.int .i64 1), (.int .i64 64)] e false), (1, 0, .cells [(.int .u64 dk), (.int .i64 th), (.int .i64 ts), (.int .i64 kp), (.int .u64 sd), (.bool true), (.bool true), (.int .i64 t2), (.slice (some ⟨3, 0, none⟩) (List.length W) (List.length W)), (.int .i64 (IntKind.wrap .i64 (a2 + 1))), (.map (some 2)), (.slice (some ⟨4, 0, none⟩) (List.length (List.take (List.length R2) R2 ++ [(W.getD (0 + ((Int.toNat a2) * 1)) 0)])) (List.length (List.take (List.length R2) R2 ++ [(W.getD (0 + ((Int.toNat a2) * 1)) 0)])))] 55 true), (2, 0, .dict .u64 .i64 f2), (3, 0, .ints .u64 W 22 true)]⟩⟩) := by kernel_rfl
noncomputable def TdS21 : KSt := ⟨(frameL 106 [(0, (.pointer (some ⟨1, 0, none⟩)))]), ⟨5, 1, [(4, 0, .ints .u64 (List.take (List.length R2) R2 ++ [(W.getD (0 + ((Int.toNat a2) * 1)) 0)]) 22 true), (0, 0, (TdO0 e)), (1, 0, .cells [(.int .u64 dk), (.int .i64 th), (.int .i64 ts), (.int .i64 kp), (.int .u64 sd), (.bool true), (.bool true), (.int .i64 t2), (.slice (some ⟨3, 0, none⟩) (List.length W) (List.length W)), (.int .i64 (a2 + 1)), (.map (some 2)), (.slice (some ⟨4, 0, none⟩) (List.length (List.take (List.length R2) R2 ++ [(W.getD (0 + ((Int.toNat a2) * 1)) 0)])) (List.length (List.take (List.length R2) R2 ++ [(W.getD (0 + ((Int.toNat a2) * 1)) 0)])))] 55 true), (2, 0, .dict .u64 .i64 f2), (3, 0, .ints .u64 W 22 true)]⟩⟩
end
theorem Tdl {t ts g : Int} {e : TypeId} {dk th kp sd : Int} {W : List Int} {a : Int} {fr : DictSt} (ht : t < ts) (ht2 : t + 1 < ts) (h0 : 0 ≤ t) (h1 : t ≤ 63)   {Q : Ex → St → Prop} (hq : Q .ret (KSt.low (TdS4 g e dk th ts kp sd t W a fr))) : Gets Tryd.prog (TdH e dk th ts kp sd t W a fr) BTd (KSt.low (TdS0 g e dk th ts kp sd t W a fr)) Q := by
  refine AtW.gets ?_
  refine Tdto ((TdW1 ..).trans (by rw [dT, dF, dF])) ?_
  refine Tdto (s' := (TdS3 g e dk th ts kp sd t W a fr)) ((TdW2 ..).trans (by rw [dT, (show (IntKind.wrap .i64 (t + 1)) = (t + 1) from wi)] <;> rfl)) ?_
  exact Tdfi ((TdW3 ..).trans (by rw [dT])) hq
theorem Tds {t ts : Int} {e : TypeId} {dk th kp sd : Int} {W : List Int} {a : Int} {fr : DictSt} {g : Int} (ht : t < ts) (ht2 : ts ≤ t + 1) (h0 : 0 ≤ t) (h1 : t ≤ 63)   {Q : Ex → St → Prop} (hq : Gets Tryd.prog (TdH e dk th ts kp sd t W a fr) (codeAt [1, 1, 1] BTd) (KSt.low (TdS3 g e dk th ts kp sd t W a fr)) (Q)) : Gets Tryd.prog (TdH e dk th ts kp sd t W a fr) BTd (KSt.low (TdS0 g e dk th ts kp sd t W a fr)) Q := by
  refine AtW.gets ?_
  refine Tdto ((TdW1 ..).trans (by rw [dT, dF, dF])) ?_
  refine Tdto (s' := (TdS3 g e dk th ts kp sd t W a fr)) ((TdW2 ..).trans (by rw [dT, (show (IntKind.wrap .i64 (t + 1)) = (t + 1) from wi)] <;> rfl)) ?_
  refine Tdto ((TdW4 ..).trans (by rw [dF])) ?_
  exact AtW.place hq
theorem Tdt {ts t a : Int} {W : List Int} {e : TypeId} {dk th kp sd : Int} {fr : DictSt} {g : Int} (ht : ts ≤ t) (ha0 : 0 ≤ a) (ha : a < ((W.length : Nat) : Int)) (hb : W.length ≤ 1000)   {Q : Ex → St → Prop} (hq : Gets Tryd.prog (TdH e dk th ts kp sd t W a fr) (codeAt [1, 1, 1] BTd) (KSt.low (TdS5 e dk th ts kp sd t W a fr)) (Q)) : Gets Tryd.prog (TdH e dk th ts kp sd t W a fr) BTd (KSt.low (TdS0 g e dk th ts kp sd t W a fr)) Q := by
  refine AtW.gets ?_
  refine Tdto (s' := (TdS1 g e dk th ts kp sd t W a fr)) ((TdW5 ..).trans (by rw [dF, dT2, iP2, obind_at (k := 0 + ((Int.toNat a) * 1)) (by omega) (by omega)] <;> rfl)) ?_
  refine Tdto (s' := (TdS5 e dk th ts kp sd t W a fr)) ((TdW6 ..).trans (by rw [dF, (show (IntKind.wrap .i64 (a + 1)) = (a + 1) from wi)] <;> rfl)) ?_
  refine Tdto ((TdW7 ..).trans (by rw [dF])) ?_
  exact AtW.place hq
theorem Tdz {ts t : Int} {W : List Int} {a : Int} {e : TypeId} {dk th kp sd : Int} {fr : DictSt} {g : Int} (ht : ts ≤ t) (ha : ((W.length : Nat) : Int) ≤ a)   {Q : Ex → St → Prop} (hq : Q .ret (KSt.low (TdS6 e dk th ts kp sd t W a fr))) : Gets Tryd.prog (TdH e dk th ts kp sd t W a fr) BTd (KSt.low (TdS0 g e dk th ts kp sd t W a fr)) Q := by
  refine AtW.gets ?_
  refine Tdto ((TdW1 ..).trans (by rw [dF, dF2])) ?_
  exact Tdfi (TdW8 ..) hq
theorem Tdnx {W : List Int} {a2 : Int} {e : TypeId} {dk th ts kp sd t2 : Int} {f2 : DictSt} {t a : Int} {fr : DictSt} (ha : ((W.length : Nat) : Int) ≤ a2)   {Q : Ex → St → Prop} (hq : Q (.exit 0) (KSt.low (TdS10 e dk th ts kp sd W t2 a2 f2))) : Gets Tryd.prog (TdH e dk th ts kp sd t W a fr) (codeAt [1, 1, 1, 0, 0] BTd) (KSt.low (TdS7 e dk th ts kp sd W t2 a2 f2)) Q := by
  refine AtW.gets ?_
  refine Tdto ((TdW9 ..).trans (by rw [dF2])) ?_
  exact Tdfi (TdW10 ..) hq
theorem Tdny {a2 : Int} {W : List Int} {f2 : DictSt} {e : TypeId} {dk th ts kp sd t2 t a : Int} {fr : DictSt} (ha0 : 0 ≤ a2) (ha : a2 < ((W.length : Nat) : Int)) (hb : W.length ≤ 1000) (hz : ¬ DictSt.get f2 (W.getD (0 + ((Int.toNat a2) * 1)) 0) = 0)   {Q : Ex → St → Prop} (hq : Q (.exit 0) (KSt.low (TdS10 e dk th ts kp sd W t2 a2 f2))) : Gets Tryd.prog (TdH e dk th ts kp sd t W a fr) (codeAt [1, 1, 1, 0, 0] BTd) (KSt.low (TdS7 e dk th ts kp sd W t2 a2 f2)) Q := by
  refine AtW.gets ?_
  refine Tdto (s' := (TdS11 e dk th ts kp sd W t2 a2 f2)) ((TdW11 ..).trans (by rw [dT2, iP2, obind_at (k := 0 + ((Int.toNat a2) * 1)) (by omega) (by omega)] <;> rfl)) ?_
  exact Tdfi ((TdW12 ..).trans (by rw [condF (ibeq_f hz)])) hq
theorem Tdna {a2 : Int} {W : List Int} {f2 : DictSt} {e : TypeId} {dk th ts kp sd t2 t a : Int} {fr : DictSt} (ha0 : 0 ≤ a2) (ha : a2 < ((W.length : Nat) : Int)) (hb : W.length ≤ 1000) (hz : DictSt.get f2 (W.getD (0 + ((Int.toNat a2) * 1)) 0) = 0)   {Q : Ex → St → Prop} (hq : Q .normal (KSt.low (TdS12 e dk th ts kp sd W t2 a2 f2))) : Gets Tryd.prog (TdH e dk th ts kp sd t W a fr) (codeAt [1, 1, 1, 0, 0] BTd) (KSt.low (TdS7 e dk th ts kp sd W t2 a2 f2)) Q := by
  refine AtW.gets ?_
  refine Tdto (s' := (TdS11 e dk th ts kp sd W t2 a2 f2)) ((TdW11 ..).trans (by rw [dT2, iP2, obind_at (k := 0 + ((Int.toNat a2) * 1)) (by omega) (by omega)] <;> rfl)) ?_
  exact Tdfi (x := .normal) (s' := (TdS12 e dk th ts kp sd W t2 a2 f2)) ((TdW13 ..).trans (by rw [condT (ibeq_t hz), iP2, obind_at (k := 0 + ((Int.toNat a2) * 1)) (by omega) (by omega), (show (IntKind.wrap .i64 (a2 + 1)) = (a2 + 1) from wi)] <;> rfl)) hq
theorem Tdrx {W : List Int} {a2 : Int} {e : TypeId} {dk th ts kp sd t2 : Int} {f2 : DictSt} {R2 : List Int} {t a : Int} {fr : DictSt} (ha : ((W.length : Nat) : Int) ≤ a2)   {Q : Ex → St → Prop} (hq : Q (.exit 0) (KSt.low (TdS16 e dk th ts kp sd W t2 a2 f2 R2))) : Gets Tryd.prog (TdH e dk th ts kp sd t W a fr) (codeAt [1, 1, 1, 0, 0] BTd) (KSt.low (TdS13 e dk th ts kp sd W t2 a2 f2 R2)) Q := by
  refine AtW.gets ?_
  refine Tdto ((TdW14 ..).trans (by rw [dF2])) ?_
  exact Tdfi (TdW15 ..) hq
theorem Tdry {a2 : Int} {W : List Int} {f2 : DictSt} {e : TypeId} {dk th ts kp sd t2 : Int} {R2 : List Int} {t a : Int} {fr : DictSt} (ha0 : 0 ≤ a2) (ha : a2 < ((W.length : Nat) : Int)) (hb : W.length ≤ 1000) (hz : ¬ DictSt.get f2 (W.getD (0 + ((Int.toNat a2) * 1)) 0) = 0)   {Q : Ex → St → Prop} (hq : Q (.exit 0) (KSt.low (TdS16 e dk th ts kp sd W t2 a2 f2 R2))) : Gets Tryd.prog (TdH e dk th ts kp sd t W a fr) (codeAt [1, 1, 1, 0, 0] BTd) (KSt.low (TdS13 e dk th ts kp sd W t2 a2 f2 R2)) Q := by
  refine AtW.gets ?_
  refine Tdto (s' := (TdS17 e dk th ts kp sd W t2 a2 f2 R2)) ((TdW16 ..).trans (by rw [dT2, iP2, obind_at (k := 0 + ((Int.toNat a2) * 1)) (by omega) (by omega)] <;> rfl)) ?_
  exact Tdfi ((TdW17 ..).trans (by rw [condF (ibeq_f hz)])) hq
theorem Tdra {a2 : Int} {W : List Int} {f2 : DictSt} {R2 : List Int} {e : TypeId} {dk th ts kp sd t2 t a : Int} {fr : DictSt} (ha0 : 0 ≤ a2) (ha : a2 < ((W.length : Nat) : Int)) (hb : W.length ≤ 1000) (hz : DictSt.get f2 (W.getD (0 + ((Int.toNat a2) * 1)) 0) = 0) (hR : R2.length ≤ 1000) (hR1 : 1 ≤ R2.length)   {Q : Ex → St → Prop} (hq : Q .normal (KSt.low (TdS21 e dk th ts kp sd W t2 a2 f2 R2))) : Gets Tryd.prog (TdH e dk th ts kp sd t W a fr) (codeAt [1, 1, 1, 0, 0] BTd) (KSt.low (TdS13 e dk th ts kp sd W t2 a2 f2 R2)) Q := by
  refine AtW.gets ?_
  refine Tdto (s' := (TdS17 e dk th ts kp sd W t2 a2 f2 R2)) ((TdW16 ..).trans (by rw [dT2, iP2, obind_at (k := 0 + ((Int.toNat a2) * 1)) (by omega) (by omega)] <;> rfl)) ?_
  refine Tdto (s' := (TdS20 e dk th ts kp sd W t2 a2 f2 R2)) ((TdW18 ..).trans (by rw [condT (ibeq_t hz), iP2, obind_at (k := 0 + ((Int.toNat a2) * 1)) (by omega) (by omega), lT2, condF (ble_f (by (first | omega | ((try simp (disch := omega) only [wrap_i64_id]) <;> omega)))), condF (and_f1 (nbeq_f (by (first | omega | ((try simp (disch := omega) only [wrap_i64_id]) <;> omega))))), condT (and_t (ble_t (by (first | omega | ((try simp (disch := omega) only [wrap_i64_id]) <;> omega)))) (ble_t (by (first | omega | ((try simp (disch := omega) only [wrap_i64_id]) <;> omega))))), (show ((List.length R2) + 1) = (List.length (List.take (List.length R2) R2 ++ [(W.getD (0 + ((Int.toNat a2) * 1)) 0)])) from by simp)] <;> rfl)) ?_
  exact Tdfi (x := .normal) (s' := (TdS21 e dk th ts kp sd W t2 a2 f2 R2)) ((TdW19 ..).trans (by rw [(show (IntKind.wrap .i64 (a2 + 1)) = (a2 + 1) from wi)] <;> rfl)) hq
noncomputable def BTf : Code := bodyOf Tryd.prog 20
theorem BTf_is : Tryd.f20.body = some BTf := by kernel_rfl
noncomputable abbrev TfH (e : TypeId) (dk th ts kp sd t : Int) (W : List Int) (a : Int) (R : List Int) (fr : DictSt) : AH := (KH.low ⟨5, 1, [(0, 0, .cells [(.int .i64 1), (.int .i64 64), (.int .i64 1), (.int .i64 64)] e false), (1, 0, .cells [(.int .u64 dk), (.int .i64 th), (.int .i64 ts), (.int .i64 kp), (.int .u64 sd), (.bool true), (.bool true), (.int .i64 t), (.slice (some ⟨3, 0, none⟩) (List.length W) (List.length W)), (.int .i64 a), (.map (some 2)), (.slice (some ⟨4, 0, none⟩) (List.length R) (List.length R))] 55 true), (2, 0, .dict .u64 .i64 fr), (3, 0, .ints .u64 W 22 true), (4, 0, .ints .u64 R 22 true)]⟩)
noncomputable abbrev TfEA (c : Code) (lv p : List Nat) (st : Option (List Nat)) (ws : List Bool) (s : KSt) : Option Rs := evA (evCK Tryd.prog cfgT (runK Tryd.prog cfgT fsT noT 14 40) 14) (stopW 5 lv) p c st ws s (finW 5 lv)
theorem Tfto {c_ : Code} {lv_ p_ p2_ : List Nat} {ws_ : List Bool} {st_ s' : KSt} {Q : Ex → St → Prop} {e : TypeId} {dk th ts kp sd t : Int} {W : List Int} {a : Int} {R : List Int} {fr : DictSt} (hE_ : TfEA c_ lv_ p_ (some p2_) ws_ st_ = some (.stop s')) (hq_ : AtW Tryd.prog (TfH e dk th ts kp sd t W a R fr) c_ p2_ s' Q) (hok_ : okCode Tryd.prog.globals.size c_ = true := by kernel_rfl) : AtW Tryd.prog (TfH e dk th ts kp sd t W a R fr) c_ p_ st_ Q := AtW.to fitT SoundC.no AgreeT.no 14 40 hok_ hE_ hq_
theorem Tffi {c_ : Code} {lv_ p_ : List Nat} {ws_ : List Bool} {st_ s' : KSt} {x : Ex} {Q : Ex → St → Prop} {e : TypeId} {dk th ts kp sd t : Int} {W : List Int} {a : Int} {R : List Int} {fr : DictSt} (hE_ : TfEA c_ lv_ p_ none ws_ st_ = some (.fin x s')) (hq_ : Q x s'.low) (hok_ : okCode Tryd.prog.globals.size c_ = true := by kernel_rfl) : AtW Tryd.prog (TfH e dk th ts kp sd t W a R fr) c_ p_ st_ Q := AtW.fin fitT SoundC.no AgreeT.no 14 40 hok_ hE_ hq_
theorem TfC1_1_1 : (codeAt [1, 1, 1] BTf) = .block 0 (codeAt [1, 1, 1, 0] BTf) := by kernel_rfl
theorem TfC1_1_1_0 : (codeAt [1, 1, 1, 0] BTf) = .loop (codeAt [1, 1, 1, 0, 0] BTf) := by kernel_rfl
section
variable (g : Int) (e : TypeId) (dk th ts kp sd t : Int) (W : List Int) (a : Int) (R : List Int) (fr : DictSt) (t2 a2 : Int) (R2 : List Int) (f2 : DictSt) (zn1 : Int)
noncomputable abbrev TfO0 (e : TypeId) : KObj := .cells [(.int .i64 1), (.int .i64 64), (.int .i64 1), (.int .i64 64)] e false
noncomputable abbrev TfO1 (dk th ts kp sd t : Int) (W : List Int) (a : Int) (R : List Int) : KObj := .cells [(.int .u64 dk), (.int .i64 th), (.int .i64 ts), (.int .i64 kp), (.int .u64 sd), (.bool true), (.bool true), (.int .i64 t), (.slice (some ⟨3, 0, none⟩) (List.length W) (List.length W)), (.int .i64 a), (.map (some 2)), (.slice (some ⟨4, 0, none⟩) (List.length R) (List.length R))] 55 true
noncomputable abbrev TfO2 (dk th ts kp sd t2 : Int) (W : List Int) (a2 : Int) (R2 : List Int) : KObj := .cells [(.int .u64 dk), (.int .i64 th), (.int .i64 ts), (.int .i64 kp), (.int .u64 sd), (.bool true), (.bool true), (.int .i64 t2), (.slice (some ⟨3, 0, none⟩) (List.length W) (List.length W)), (.int .i64 a2), (.map (some 2)), (.slice (some ⟨4, 0, none⟩) (List.length R2) (List.length R2))] 55 true
noncomputable abbrev TfO3 (dk th ts kp sd t2 : Int) (W : List Int) (a2 : Int) (R2 : List Int) : KObj := .cells [(.int .u64 dk), (.int .i64 th), (.int .i64 ts), (.int .i64 kp), (.int .u64 sd), (.bool true), (.bool true), (.int .i64 t2), (.slice (some ⟨3, 0, none⟩) (List.length W) (List.length W)), (.int .i64 a2), (.map (some 2)), (.slice (some ⟨5, 0, none⟩) (List.length R2) (List.length R2))] 55 true
noncomputable def TfS0 : KSt := (firstK [(.pointer (some ⟨1, 0, none⟩)), (.int .u64 g)] 106 ⟨5, 1, [(0, 0, (TfO0 e)), (1, 0, (TfO1 dk th ts kp sd t W a R)), (2, 0, .dict .u64 .i64 fr), (3, 0, .ints .u64 W 22 true), (4, 0, .ints .u64 R 22 true)]⟩)
noncomputable def TfS1 : KSt := ⟨(frameL 106 [(0, (.pointer (some ⟨1, 0, none⟩))), (1, (.int .u64 g)), (5, (.bool true))]), ⟨5, 1, [(0, 0, (TfO0 e)), (1, 0, (TfO1 dk th ts kp sd t W a R)), (2, 0, .dict .u64 .i64 fr), (3, 0, .ints .u64 W 22 true), (4, 0, .ints .u64 R 22 true)]⟩⟩
noncomputable def TfS2 : KSt := ⟨(frameL 106 [(0, (.pointer (some ⟨1, 0, none⟩))), (1, (.int .u64 g)), (5, (.bool false))]), ⟨5, 1, [(0, 0, (TfO0 e)), (1, 0, (TfO1 dk th ts kp sd t W a R)), (2, 0, .dict .u64 .i64 fr), (3, 0, .ints .u64 W 22 true), (4, 0, .ints .u64 R 22 true)]⟩⟩
theorem TfW1 : TfEA BTf [0, 1, 5] [] (some [0, 1]) [] (TfS0 g e dk th ts kp sd t W a R fr) =
  bif (decide (t < ts)) then
    bif (decide (t < 0)) then
      some (.stop (TfS1 g e dk th ts kp sd t W a R fr))
    else
      bif (decide (t ≥ 64)) then
        some (.stop (TfS1 g e dk th ts kp sd t W a R fr))
      else
        some (.stop (TfS1 g e dk th ts kp sd t W a R fr))
  else
    bif (decide (a < (((List.length W) : Nat) : Int))) then
      if 0 ≤ a ∧ a < (((List.length W) : Nat) : Int) then
        obind (W[(0 + ((Int.toNat a) * 1))]?) fun zn1 =>
          some (.stop (TfS1 g e dk th ts kp sd t W a R fr))
      else
        none
    else
      some (.stop (TfS2 g e dk th ts kp sd t W a R fr)) := by kernel_rfl
theorem TfW2 : TfEA BTf [0] [0, 1] (some [1, 1]) [false, true] (TfS1 g e dk th ts kp sd t W a R fr) =
  bif (decide (t < ts)) then
    some (.stop ⟨(frameL 106 [(0, (.pointer (some ⟨1, 0, none⟩)))]), ⟨5, 1, [(0, 0, .cells [(.int .i64 1), (.int .i64 64), (.int .i64 1), (.int .i64 64)] e false), (1, 0, .cells [(.int .u64 dk), (.int .i64 th), (.int .i64 ts), (.int .i64 kp), (.int .u64 sd), (.bool true), (.bool true), (.int .i64 (IntKind.wrap .i64 (t + 1))), (.slice (some ⟨3, 0, none⟩) (List.length W) (List.length W)), (.int .i64 a), (.map (some 2)), (.slice (some ⟨4, 0, none⟩) (List.length R) (List.length R))] 55 true), (2, 0, .dict .u64 .i64 (DictSt.del fr g)), (3, 0, .ints .u64 W 22 true), (4, 0, .ints .u64 R 22 true)]⟩⟩)
  else
    none := by kernel_rfl
noncomputable def TfS3 : KSt := ⟨(frameL 106 [(0, (.pointer (some ⟨1, 0, none⟩)))]), ⟨5, 1, [(0, 0, (TfO0 e)), (1, 0, .cells [(.int .u64 dk), (.int .i64 th), (.int .i64 ts), (.int .i64 kp), (.int .u64 sd), (.bool true), (.bool true), (.int .i64 (t + 1)), (.slice (some ⟨3, 0, none⟩) (List.length W) (List.length W)), (.int .i64 a), (.map (some 2)), (.slice (some ⟨4, 0, none⟩) (List.length R) (List.length R))] 55 true), (2, 0, .dict .u64 .i64 (DictSt.del fr g)), (3, 0, .ints .u64 W 22 true), (4, 0, .ints .u64 R 22 true)]⟩⟩
noncomputable def TfS4 : KSt := ⟨(frameL 106 []), ⟨5, 1, [(0, 0, (TfO0 e)), (1, 0, .cells [(.int .u64 dk), (.int .i64 th), (.int .i64 ts), (.int .i64 kp), (.int .u64 sd), (.bool true), (.bool true), (.int .i64 (t + 1)), (.slice (some ⟨3, 0, none⟩) (List.length W) (List.length W)), (.int .i64 a), (.map (some 2)), (.slice (some ⟨4, 0, none⟩) (List.length R) (List.length R))] 55 true), (2, 0, .dict .u64 .i64 (DictSt.del fr g)), (3, 0, .ints .u64 W 22 true), (4, 0, .ints .u64 R 22 true)]⟩⟩
theorem TfW3 : TfEA BTf [] [1, 1] none [true] (TfS3 g e dk th ts kp sd t W a R fr) =
  bif (decide ((t + 1) < ts)) then
    some (.fin .ret (TfS4 g e dk th ts kp sd t W a R fr))
  else
    none := by kernel_rfl
theorem TfW4 : TfEA BTf [0] [1, 1] (some [1, 1, 1]) [false] (TfS3 g e dk th ts kp sd t W a R fr) =
  bif (decide ((t + 1) < ts)) then
    none
  else
    some (.stop (TfS3 g e dk th ts kp sd t W a R fr)) := by kernel_rfl
theorem TfW5 : TfEA BTf [0, 1, 5] [] (some [0, 1]) [] (TfS0 g e dk th ts kp sd t W a R fr) =
  bif (decide (t < ts)) then
    bif (decide (t < 0)) then
      some (.stop (TfS1 g e dk th ts kp sd t W a R fr))
    else
      bif (decide (t ≥ 64)) then
        some (.stop (TfS1 g e dk th ts kp sd t W a R fr))
      else
        some (.stop (TfS1 g e dk th ts kp sd t W a R fr))
  else
    bif (decide (a < (((List.length W) : Nat) : Int))) then
      if 0 ≤ a ∧ a < (((List.length W) : Nat) : Int) then
        obind (W[(0 + ((Int.toNat a) * 1))]?) fun zn1 =>
          some (.stop ⟨(frameL 106 [(0, (.pointer (some ⟨1, 0, none⟩))), (1, (.int .u64 g)), (5, (.bool true))]), ⟨5, 1, [(0, 0, .cells [(.int .i64 1), (.int .i64 64), (.int .i64 1), (.int .i64 64)] e false), (1, 0, .cells [(.int .u64 dk), (.int .i64 th), (.int .i64 ts), (.int .i64 kp), (.int .u64 sd), (.bool true), (.bool true), (.int .i64 t), (.slice (some ⟨3, 0, none⟩) (List.length W) (List.length W)), (.int .i64 a), (.map (some 2)), (.slice (some ⟨4, 0, none⟩) (List.length R) (List.length R))] 55 true), (2, 0, .dict .u64 .i64 fr), (3, 0, .ints .u64 W 22 true), (4, 0, .ints .u64 R 22 true)]⟩⟩)
      else
        none
    else
      some (.stop (TfS2 g e dk th ts kp sd t W a R fr)) := by kernel_rfl
theorem TfW6 : TfEA BTf [0] [0, 1] (some [1, 1]) [false, false] (TfS1 g e dk th ts kp sd t W a R fr) =
  bif (decide (t < ts)) then
    none
  else
    some (.stop ⟨(frameL 106 [(0, (.pointer (some ⟨1, 0, none⟩)))]), ⟨5, 1, [(0, 0, .cells [(.int .i64 1), (.int .i64 64), (.int .i64 1), (.int .i64 64)] e false), (1, 0, .cells [(.int .u64 dk), (.int .i64 th), (.int .i64 ts), (.int .i64 kp), (.int .u64 sd), (.bool true), (.bool true), (.int .i64 t), (.slice (some ⟨3, 0, none⟩) (List.length W) (List.length W)), (.int .i64 (IntKind.wrap .i64 (a + 1))), (.map (some 2)), (.slice (some ⟨4, 0, none⟩) (List.length R) (List.length R))] 55 true), (2, 0, .dict .u64 .i64 fr), (3, 0, .ints .u64 W 22 true), (4, 0, .ints .u64 R 22 true)]⟩⟩) := by kernel_rfl
noncomputable def TfS5 : KSt := ⟨(frameL 106 [(0, (.pointer (some ⟨1, 0, none⟩)))]), ⟨5, 1, [(0, 0, (TfO0 e)), (1, 0, .cells [(.int .u64 dk), (.int .i64 th), (.int .i64 ts), (.int .i64 kp), (.int .u64 sd), (.bool true), (.bool true), (.int .i64 t), (.slice (some ⟨3, 0, none⟩) (List.length W) (List.length W)), (.int .i64 (a + 1)), (.map (some 2)), (.slice (some ⟨4, 0, none⟩) (List.length R) (List.length R))] 55 true), (2, 0, .dict .u64 .i64 fr), (3, 0, .ints .u64 W 22 true), (4, 0, .ints .u64 R 22 true)]⟩⟩
theorem TfW7 : TfEA BTf [0] [1, 1] (some [1, 1, 1]) [false] (TfS5 e dk th ts kp sd t W a R fr) =
  bif (decide (t < ts)) then
    none
  else
    some (.stop (TfS5 e dk th ts kp sd t W a R fr)) := by kernel_rfl
noncomputable def TfS6 : KSt := ⟨(frameL 106 []), ⟨5, 1, [(0, 0, (TfO0 e)), (1, 0, (TfO1 dk th ts kp sd t W a R)), (2, 0, .dict .u64 .i64 fr), (3, 0, .ints .u64 W 22 true), (4, 0, .ints .u64 R 22 true)]⟩⟩
theorem TfW8 : TfEA BTf [] [0, 1] none [true] (TfS2 g e dk th ts kp sd t W a R fr) =
  some (.fin .ret (TfS6 e dk th ts kp sd t W a R fr)) := by kernel_rfl
noncomputable def TfS7 : KSt := ⟨(frameL 106 [(0, (.pointer (some ⟨1, 0, none⟩)))]), ⟨5, 1, [(0, 0, (TfO0 e)), (1, 0, (TfO2 dk th ts kp sd t2 W a2 R2)), (2, 0, .dict .u64 .i64 f2), (3, 0, .ints .u64 W 22 true), (4, 0, .ints .u64 R2 22 true)]⟩⟩
noncomputable def TfS9 : KSt := ⟨(frameL 106 [(0, (.pointer (some ⟨1, 0, none⟩))), (79, (.bool false))]), ⟨5, 1, [(0, 0, (TfO0 e)), (1, 0, (TfO2 dk th ts kp sd t2 W a2 R2)), (2, 0, .dict .u64 .i64 f2), (3, 0, .ints .u64 W 22 true), (4, 0, .ints .u64 R2 22 true)]⟩⟩
theorem TfW9 : TfEA (codeAt [1, 1, 1, 0, 0] BTf) [0, 79] [] (some [0, 1]) [] (TfS7 e dk th ts kp sd W t2 a2 R2 f2) =
  bif (decide (a2 < (((List.length W) : Nat) : Int))) then
    if 0 ≤ a2 ∧ a2 < (((List.length W) : Nat) : Int) then
      obind (W[(0 + ((Int.toNat a2) * 1))]?) fun zn1 =>
        some (.stop ⟨(frameL 106 [(0, (.pointer (some ⟨1, 0, none⟩))), (79, (.bool ((DictSt.get f2 zn1) == 0)))]), ⟨5, 1, [(0, 0, .cells [(.int .i64 1), (.int .i64 64), (.int .i64 1), (.int .i64 64)] e false), (1, 0, .cells [(.int .u64 dk), (.int .i64 th), (.int .i64 ts), (.int .i64 kp), (.int .u64 sd), (.bool true), (.bool true), (.int .i64 t2), (.slice (some ⟨3, 0, none⟩) (List.length W) (List.length W)), (.int .i64 a2), (.map (some 2)), (.slice (some ⟨4, 0, none⟩) (List.length R2) (List.length R2))] 55 true), (2, 0, .dict .u64 .i64 f2), (3, 0, .ints .u64 W 22 true), (4, 0, .ints .u64 R2 22 true)]⟩⟩)
    else
      none
  else
    some (.stop (TfS9 e dk th ts kp sd W t2 a2 R2 f2)) := by kernel_rfl
noncomputable def TfS10 : KSt := ⟨(frameL 106 []), ⟨5, 1, [(0, 0, (TfO0 e)), (1, 0, (TfO2 dk th ts kp sd t2 W a2 R2)), (2, 0, .dict .u64 .i64 f2), (3, 0, .ints .u64 W 22 true), (4, 0, .ints .u64 R2 22 true)]⟩⟩
theorem TfW10 : TfEA (codeAt [1, 1, 1, 0, 0] BTf) [] [0, 1] none [false] (TfS9 e dk th ts kp sd W t2 a2 R2 f2) =
  some (.fin (.exit 0) (TfS10 e dk th ts kp sd W t2 a2 R2 f2)) := by kernel_rfl
theorem TfW11 : TfEA (codeAt [1, 1, 1, 0, 0] BTf) [0, 79] [] (some [0, 1]) [] (TfS7 e dk th ts kp sd W t2 a2 R2 f2) =
  bif (decide (a2 < (((List.length W) : Nat) : Int))) then
    if 0 ≤ a2 ∧ a2 < (((List.length W) : Nat) : Int) then
      obind (W[(0 + ((Int.toNat a2) * 1))]?) fun zn1 =>
        some (.stop ⟨(frameL 106 [(0, (.pointer (some ⟨1, 0, none⟩))), (79, (.bool ((DictSt.get f2 zn1) == 0)))]), ⟨5, 1, [(0, 0, .cells [(.int .i64 1), (.int .i64 64), (.int .i64 1), (.int .i64 64)] e false), (1, 0, .cells [(.int .u64 dk), (.int .i64 th), (.int .i64 ts), (.int .i64 kp), (.int .u64 sd), (.bool true), (.bool true), (.int .i64 t2), (.slice (some ⟨3, 0, none⟩) (List.length W) (List.length W)), (.int .i64 a2), (.map (some 2)), (.slice (some ⟨4, 0, none⟩) (List.length R2) (List.length R2))] 55 true), (2, 0, .dict .u64 .i64 f2), (3, 0, .ints .u64 W 22 true), (4, 0, .ints .u64 R2 22 true)]⟩⟩)
    else
      none
  else
    some (.stop (TfS9 e dk th ts kp sd W t2 a2 R2 f2)) := by kernel_rfl
noncomputable def TfS11 : KSt := ⟨(frameL 106 [(0, (.pointer (some ⟨1, 0, none⟩))), (79, (.bool ((DictSt.get f2 (W.getD (0 + ((Int.toNat a2) * 1)) 0)) == 0)))]), ⟨5, 1, [(0, 0, (TfO0 e)), (1, 0, (TfO2 dk th ts kp sd t2 W a2 R2)), (2, 0, .dict .u64 .i64 f2), (3, 0, .ints .u64 W 22 true), (4, 0, .ints .u64 R2 22 true)]⟩⟩
theorem TfW12 : TfEA (codeAt [1, 1, 1, 0, 0] BTf) [] [0, 1] none [false] (TfS11 e dk th ts kp sd W t2 a2 R2 f2) =
  bif ((DictSt.get f2 (W.getD (0 + ((Int.toNat a2) * 1)) 0)) == 0) then
    none
  else
    some (.fin (.exit 0) (TfS10 e dk th ts kp sd W t2 a2 R2 f2)) := by kernel_rfl
theorem TfW13 : TfEA (codeAt [1, 1, 1, 0, 0] BTf) [0] [0, 1] (some [1, 0, 1]) [true, false] (TfS11 e dk th ts kp sd W t2 a2 R2 f2) =
  bif ((DictSt.get f2 (W.getD (0 + ((Int.toNat a2) * 1)) 0)) == 0) then
    if 0 ≤ a2 ∧ a2 < (((List.length W) : Nat) : Int) then
      obind (W[(0 + ((Int.toNat a2) * 1))]?) fun zn1 =>
        bif (Nat.ble (((List.length R2) + 1) * 9) 1099511627776) then
          bif (Nat.ble ((List.length R2) + 1) (List.length R2)) then
            bif (Nat.ble (0 + ((List.length R2) + 1)) (List.length R2)) then
              some (.stop ⟨(frameL 106 [(0, (.pointer (some ⟨1, 0, none⟩)))]), ⟨5, 1, [(0, 0, .cells [(.int .i64 1), (.int .i64 64), (.int .i64 1), (.int .i64 64)] e false), (1, 0, .cells [(.int .u64 dk), (.int .i64 th), (.int .i64 ts), (.int .i64 kp), (.int .u64 sd), (.bool true), (.bool true), (.int .i64 t2), (.slice (some ⟨3, 0, none⟩) (List.length W) (List.length W)), (.int .i64 a2), (.map (some 2)), (.slice (some ⟨4, 0, none⟩) ((List.length R2) + 1) (List.length R2))] 55 true), (2, 0, .dict .u64 .i64 f2), (3, 0, .ints .u64 W 22 true), (4, 0, .ints .u64 (List.take (0 + (List.length R2)) R2 ++ [zn1] ++ List.drop ((0 + (List.length R2)) + (List.length [zn1])) R2) 22 true)]⟩⟩)
            else
              none
          else
            bif ((Nat.beq (List.length R2) 0) && (Nat.beq (List.length R2) 0)) then
              some (.stop ⟨(frameL 106 [(0, (.pointer (some ⟨1, 0, none⟩)))]), ⟨6, 1, [(5, 0, .cells [(.int .u64 zn1)] 22 true), (0, 0, .cells [(.int .i64 1), (.int .i64 64), (.int .i64 1), (.int .i64 64)] e false), (1, 0, .cells [(.int .u64 dk), (.int .i64 th), (.int .i64 ts), (.int .i64 kp), (.int .u64 sd), (.bool true), (.bool true), (.int .i64 t2), (.slice (some ⟨3, 0, none⟩) (List.length W) (List.length W)), (.int .i64 a2), (.map (some 2)), (.slice (some ⟨5, 0, none⟩) 1 1)] 55 true), (2, 0, .dict .u64 .i64 f2), (3, 0, .ints .u64 W 22 true), (4, 0, .ints .u64 R2 22 true)]⟩⟩)
            else
              bif ((Nat.ble (List.length R2) (List.length R2)) && (Nat.ble 1 (List.length R2))) then
                some (.stop ⟨(frameL 106 [(0, (.pointer (some ⟨1, 0, none⟩)))]), ⟨6, 1, [(5, 0, .ints .u64 (List.take (List.length R2) R2 ++ [zn1]) 22 true), (0, 0, .cells [(.int .i64 1), (.int .i64 64), (.int .i64 1), (.int .i64 64)] e false), (1, 0, .cells [(.int .u64 dk), (.int .i64 th), (.int .i64 ts), (.int .i64 kp), (.int .u64 sd), (.bool true), (.bool true), (.int .i64 t2), (.slice (some ⟨3, 0, none⟩) (List.length W) (List.length W)), (.int .i64 a2), (.map (some 2)), (.slice (some ⟨5, 0, none⟩) ((List.length R2) + 1) ((List.length R2) + 1))] 55 true), (2, 0, .dict .u64 .i64 f2), (3, 0, .ints .u64 W 22 true)]⟩⟩)
              else
                none
        else
          none
    else
      none
  else
    none := by kernel_rfl
noncomputable def TfS14 : KSt := ⟨(frameL 106 [(0, (.pointer (some ⟨1, 0, none⟩)))]), ⟨6, 1, [(5, 0, .ints .u64 (List.take (List.length R2) R2 ++ [(W.getD (0 + ((Int.toNat a2) * 1)) 0)]) 22 true), (0, 0, (TfO0 e)), (1, 0, .cells [(.int .u64 dk), (.int .i64 th), (.int .i64 ts), (.int .i64 kp), (.int .u64 sd), (.bool true), (.bool true), (.int .i64 t2), (.slice (some ⟨3, 0, none⟩) (List.length W) (List.length W)), (.int .i64 a2), (.map (some 2)), (.slice (some ⟨5, 0, none⟩) (List.length (List.take (List.length R2) R2 ++ [(W.getD (0 + ((Int.toNat a2) * 1)) 0)])) (List.length (List.take (List.length R2) R2 ++ [(W.getD (0 + ((Int.toNat a2) * 1)) 0)])))] 55 true), (2, 0, .dict .u64 .i64 f2), (3, 0, .ints .u64 W 22 true)]⟩⟩
theorem TfW14 : TfEA (codeAt [1, 1, 1, 0, 0] BTf) [0] [1, 0, 1] none [] (TfS14 e dk th ts kp sd W t2 a2 R2 f2) =
  some (.fin .normal ⟨(frameL 106 [(0, (.pointer (some ⟨1, 0, none⟩)))]), ⟨6, 1, [(5, 0, .ints .u64 (List.take (List.length R2) R2 ++ [(W.getD (0 + ((Int.toNat a2) * 1)) 0)]) 22 true), (0, 0, .cells [(.int .i64 1), (.int .i64 64), (.int .i64 1), (.int .i64 64)] e false), (1, 0, .cells [(.int .u64 dk), (.int .i64 th), (.int .i64 ts), (.int .i64 kp), (.int .u64 sd), (.bool true), (.bool true), (.int .i64 t2), (.slice (some ⟨3, 0, none⟩) (List.length W) (List.length W)), (.int .i64 (IntKind.wrap .i64 (a2 + 1))), (.map (some 2)), (.slice (some ⟨5, 0, none⟩) (List.length (List.take (List.length R2) R2 ++ [(W.getD (0 + ((Int.toNat a2) * 1)) 0)])) (List.length (List.take (List.length R2) R2 ++ [(W.getD (0 + ((Int.toNat a2) * 1)) 0)])))] 55 true), (2, 0, .dict .u64 .i64 f2), (3, 0, .ints .u64 W 22 true)]⟩⟩) := by kernel_rfl
noncomputable def TfS15 : KSt := ⟨(frameL 106 [(0, (.pointer (some ⟨1, 0, none⟩)))]), ⟨6, 1, [(5, 0, .ints .u64 (List.take (List.length R2) R2 ++ [(W.getD (0 + ((Int.toNat a2) * 1)) 0)]) 22 true), (0, 0, (TfO0 e)), (1, 0, .cells [(.int .u64 dk), (.int .i64 th), (.int .i64 ts), (.int .i64 kp), (.int .u64 sd), (.bool true), (.bool true), (.int .i64 t2), (.slice (some ⟨3, 0, none⟩) (List.length W) (List.length W)), (.int .i64 (a2 + 1)), (.map (some 2)), (.slice (some ⟨5, 0, none⟩) (List.length (List.take (List.length R2) R2 ++ [(W.getD (0 + ((Int.toNat a2) * 1)) 0)])) (List.length (List.take (List.length R2) R2 ++ [(W.getD (0 + ((Int.toNat a2) * 1)) 0)])))] 55 true), (2, 0, .dict .u64 .i64 f2), (3, 0, .ints .u64 W 22 true)]⟩⟩
noncomputable def TfS16 : KSt := ⟨(frameL 106 [(0, (.pointer (some ⟨1, 0, none⟩)))]), ⟨6, 1, [(5, 0, .ints .u64 R2 22 true), (0, 0, (TfO0 e)), (1, 0, (TfO3 dk th ts kp sd t2 W a2 R2)), (2, 0, .dict .u64 .i64 f2), (3, 0, .ints .u64 W 22 true)]⟩⟩
noncomputable def TfS18 : KSt := ⟨(frameL 106 [(0, (.pointer (some ⟨1, 0, none⟩))), (79, (.bool false))]), ⟨6, 1, [(5, 0, .ints .u64 R2 22 true), (0, 0, (TfO0 e)), (1, 0, (TfO3 dk th ts kp sd t2 W a2 R2)), (2, 0, .dict .u64 .i64 f2), (3, 0, .ints .u64 W 22 true)]⟩⟩
theorem TfW15 : TfEA (codeAt [1, 1, 1, 0, 0] BTf) [0, 79] [] (some [0, 1]) [] (TfS16 e dk th ts kp sd W t2 a2 R2 f2) =
  bif (decide (a2 < (((List.length W) : Nat) : Int))) then
    if 0 ≤ a2 ∧ a2 < (((List.length W) : Nat) : Int) then
      obind (W[(0 + ((Int.toNat a2) * 1))]?) fun zn1 =>
        some (.stop ⟨(frameL 106 [(0, (.pointer (some ⟨1, 0, none⟩))), (79, (.bool ((DictSt.get f2 zn1) == 0)))]), ⟨6, 1, [(5, 0, .ints .u64 R2 22 true), (0, 0, .cells [(.int .i64 1), (.int .i64 64), (.int .i64 1), (.int .i64 64)] e false), (1, 0, .cells [(.int .u64 dk), (.int .i64 th), (.int .i64 ts), (.int .i64 kp), (.int .u64 sd), (.bool true), (.bool true), (.int .i64 t2), (.slice (some ⟨3, 0, none⟩) (List.length W) (List.length W)), (.int .i64 a2), (.map (some 2)), (.slice (some ⟨5, 0, none⟩) (List.length R2) (List.length R2))] 55 true), (2, 0, .dict .u64 .i64 f2), (3, 0, .ints .u64 W 22 true)]⟩⟩)
    else
      none
  else
    some (.stop (TfS18 e dk th ts kp sd W t2 a2 R2 f2)) := by kernel_rfl
noncomputable def TfS19 : KSt := ⟨(frameL 106 []), ⟨6, 1, [(5, 0, .ints .u64 R2 22 true), (0, 0, (TfO0 e)), (1, 0, (TfO3 dk th ts kp sd t2 W a2 R2)), (2, 0, .dict .u64 .i64 f2), (3, 0, .ints .u64 W 22 true)]⟩⟩
theorem TfW16 : TfEA (codeAt [1, 1, 1, 0, 0] BTf) [] [0, 1] none [false] (TfS18 e dk th ts kp sd W t2 a2 R2 f2) =
  some (.fin (.exit 0) (TfS19 e dk th ts kp sd W t2 a2 R2 f2)) := by kernel_rfl
theorem TfW17 : TfEA (codeAt [1, 1, 1, 0, 0] BTf) [0, 79] [] (some [0, 1]) [] (TfS16 e dk th ts kp sd W t2 a2 R2 f2) =
  bif (decide (a2 < (((List.length W) : Nat) : Int))) then
    if 0 ≤ a2 ∧ a2 < (((List.length W) : Nat) : Int) then
      obind (W[(0 + ((Int.toNat a2) * 1))]?) fun zn1 =>
        some (.stop ⟨(frameL 106 [(0, (.pointer (some ⟨1, 0, none⟩))), (79, (.bool ((DictSt.get f2 zn1) == 0)))]), ⟨6, 1, [(5, 0, .ints .u64 R2 22 true), (0, 0, .cells [(.int .i64 1), (.int .i64 64), (.int .i64 1), (.int .i64 64)] e false), (1, 0, .cells [(.int .u64 dk), (.int .i64 th), (.int .i64 ts), (.int .i64 kp), (.int .u64 sd), (.bool true), (.bool true), (.int .i64 t2), (.slice (some ⟨3, 0, none⟩) (List.length W) (List.length W)), (.int .i64 a2), (.map (some 2)), (.slice (some ⟨5, 0, none⟩) (List.length R2) (List.length R2))] 55 true), (2, 0, .dict .u64 .i64 f2), (3, 0, .ints .u64 W 22 true)]⟩⟩)
    else
      none
  else
    some (.stop (TfS18 e dk th ts kp sd W t2 a2 R2 f2)) := by kernel_rfl
noncomputable def TfS20 : KSt := ⟨(frameL 106 [(0, (.pointer (some ⟨1, 0, none⟩))), (79, (.bool ((DictSt.get f2 (W.getD (0 + ((Int.toNat a2) * 1)) 0)) == 0)))]), ⟨6, 1, [(5, 0, .ints .u64 R2 22 true), (0, 0, (TfO0 e)), (1, 0, (TfO3 dk th ts kp sd t2 W a2 R2)), (2, 0, .dict .u64 .i64 f2), (3, 0, .ints .u64 W 22 true)]⟩⟩
theorem TfW18 : TfEA (codeAt [1, 1, 1, 0, 0] BTf) [] [0, 1] none [false] (TfS20 e dk th ts kp sd W t2 a2 R2 f2) =
  bif ((DictSt.get f2 (W.getD (0 + ((Int.toNat a2) * 1)) 0)) == 0) then
    none
  else
    some (.fin (.exit 0) (TfS19 e dk th ts kp sd W t2 a2 R2 f2)) := by kernel_rfl
theorem TfW19 : TfEA (codeAt [1, 1, 1, 0, 0] BTf) [0] [0, 1] (some [1, 0, 1]) [true, false] (TfS20 e dk th ts kp sd W t2 a2 R2 f2) =
  bif ((DictSt.get f2 (W.getD (0 + ((Int.toNat a2) * 1)) 0)) == 0) then
    if 0 ≤ a2 ∧ a2 < (((List.length W) : Nat) : Int) then
      obind (W[(0 + ((Int.toNat a2) * 1))]?) fun zn1 =>
        bif (Nat.ble (((List.length R2) + 1) * 9) 1099511627776) then
          bif (Nat.ble ((List.length R2) + 1) (List.length R2)) then
            bif (Nat.ble (0 + ((List.length R2) + 1)) (List.length R2)) then
              some (.stop ⟨(frameL 106 [(0, (.pointer (some ⟨1, 0, none⟩)))]), ⟨6, 1, [(5, 0, .ints .u64 (List.take (0 + (List.length R2)) R2 ++ [zn1] ++ List.drop ((0 + (List.length R2)) + (List.length [zn1])) R2) 22 true), (0, 0, .cells [(.int .i64 1), (.int .i64 64), (.int .i64 1), (.int .i64 64)] e false), (1, 0, .cells [(.int .u64 dk), (.int .i64 th), (.int .i64 ts), (.int .i64 kp), (.int .u64 sd), (.bool true), (.bool true), (.int .i64 t2), (.slice (some ⟨3, 0, none⟩) (List.length W) (List.length W)), (.int .i64 a2), (.map (some 2)), (.slice (some ⟨5, 0, none⟩) ((List.length R2) + 1) (List.length R2))] 55 true), (2, 0, .dict .u64 .i64 f2), (3, 0, .ints .u64 W 22 true)]⟩⟩)
            else
              none
          else
            bif ((Nat.beq (List.length R2) 0) && (Nat.beq (List.length R2) 0)) then
              some (.stop ⟨(frameL 106 [(0, (.pointer (some ⟨1, 0, none⟩)))]), ⟨6, 1, [(5, 0, .cells [(.int .u64 zn1)] 22 true), (0, 0, .cells [(.int .i64 1), (.int .i64 64), (.int .i64 1), (.int .i64 64)] e false), (1, 0, .cells [(.int .u64 dk), (.int .i64 th), (.int .i64 ts), (.int .i64 kp), (.int .u64 sd), (.bool true), (.bool true), (.int .i64 t2), (.slice (some ⟨3, 0, none⟩) (List.length W) (List.length W)), (.int .i64 a2), (.map (some 2)), (.slice (some ⟨5, 0, none⟩) 1 1)] 55 true), (2, 0, .dict .u64 .i64 f2), (3, 0, .ints .u64 W 22 true)]⟩⟩)
            else
              bif ((Nat.ble (List.length R2) (List.length R2)) && (Nat.ble 1 (List.length R2))) then
                some (.stop ⟨(frameL 106 [(0, (.pointer (some ⟨1, 0, none⟩)))]), ⟨6, 1, [(5, 0, .ints .u64 (List.take (List.length R2) R2 ++ [zn1]) 22 true), (0, 0, .cells [(.int .i64 1), (.int .i64 64), (.int .i64 1), (.int .i64 64)] e false), (1, 0, .cells [(.int .u64 dk), (.int .i64 th), (.int .i64 ts), (.int .i64 kp), (.int .u64 sd), (.bool true), (.bool true), (.int .i64 t2), (.slice (some ⟨3, 0, none⟩) (List.length W) (List.length W)), (.int .i64 a2), (.map (some 2)), (.slice (some ⟨5, 0, none⟩) ((List.length R2) + 1) ((List.length R2) + 1))] 55 true), (2, 0, .dict .u64 .i64 f2), (3, 0, .ints .u64 W 22 true)]⟩⟩)
              else
                none
        else
          none
    else
      none
  else
    none := by kernel_rfl
end
theorem Tfl {t ts g : Int} {e : TypeId} {dk th kp sd : Int} {W : List Int} {a : Int} {R : List Int} {fr : DictSt} (ht : t < ts) (ht2 : t + 1 < ts) (h0 : 0 ≤ t) (h1 : t ≤ 63)   {Q : Ex → St → Prop} (hq : Q .ret (KSt.low (TfS4 g e dk th ts kp sd t W a R fr))) : Gets Tryd.prog (TfH e dk th ts kp sd t W a R fr) BTf (KSt.low (TfS0 g e dk th ts kp sd t W a R fr)) Q := by
  refine AtW.gets ?_
  refine Tfto ((TfW1 ..).trans (by rw [dT, dF, dF])) ?_
  refine Tfto (s' := (TfS3 g e dk th ts kp sd t W a R fr)) ((TfW2 ..).trans (by rw [dT, (show (IntKind.wrap .i64 (t + 1)) = (t + 1) from wi)] <;> rfl)) ?_
  exact Tffi ((TfW3 ..).trans (by rw [dT])) hq
theorem Tfs {t ts : Int} {e : TypeId} {dk th kp sd : Int} {W : List Int} {a : Int} {R : List Int} {fr : DictSt} {g : Int} (ht : t < ts) (ht2 : ts ≤ t + 1) (h0 : 0 ≤ t) (h1 : t ≤ 63)   {Q : Ex → St → Prop} (hq : Gets Tryd.prog (TfH e dk th ts kp sd t W a R fr) (codeAt [1, 1, 1] BTf) (KSt.low (TfS3 g e dk th ts kp sd t W a R fr)) (Q)) : Gets Tryd.prog (TfH e dk th ts kp sd t W a R fr) BTf (KSt.low (TfS0 g e dk th ts kp sd t W a R fr)) Q := by
  refine AtW.gets ?_
  refine Tfto ((TfW1 ..).trans (by rw [dT, dF, dF])) ?_
  refine Tfto (s' := (TfS3 g e dk th ts kp sd t W a R fr)) ((TfW2 ..).trans (by rw [dT, (show (IntKind.wrap .i64 (t + 1)) = (t + 1) from wi)] <;> rfl)) ?_
  refine Tfto ((TfW4 ..).trans (by rw [dF])) ?_
  exact AtW.place hq
theorem Tft {ts t a : Int} {W : List Int} {e : TypeId} {dk th kp sd : Int} {R : List Int} {fr : DictSt} {g : Int} (ht : ts ≤ t) (ha0 : 0 ≤ a) (ha : a < ((W.length : Nat) : Int)) (hb : W.length ≤ 1000)   {Q : Ex → St → Prop} (hq : Gets Tryd.prog (TfH e dk th ts kp sd t W a R fr) (codeAt [1, 1, 1] BTf) (KSt.low (TfS5 e dk th ts kp sd t W a R fr)) (Q)) : Gets Tryd.prog (TfH e dk th ts kp sd t W a R fr) BTf (KSt.low (TfS0 g e dk th ts kp sd t W a R fr)) Q := by
  refine AtW.gets ?_
  refine Tfto (s' := (TfS1 g e dk th ts kp sd t W a R fr)) ((TfW5 ..).trans (by rw [dF, dT2, iP2, obind_at (k := 0 + ((Int.toNat a) * 1)) (by omega) (by omega)] <;> rfl)) ?_
  refine Tfto (s' := (TfS5 e dk th ts kp sd t W a R fr)) ((TfW6 ..).trans (by rw [dF, (show (IntKind.wrap .i64 (a + 1)) = (a + 1) from wi)] <;> rfl)) ?_
  refine Tfto ((TfW7 ..).trans (by rw [dF])) ?_
  exact AtW.place hq
theorem Tfz {ts t : Int} {W : List Int} {a : Int} {e : TypeId} {dk th kp sd : Int} {R : List Int} {fr : DictSt} {g : Int} (ht : ts ≤ t) (ha : ((W.length : Nat) : Int) ≤ a)   {Q : Ex → St → Prop} (hq : Q .ret (KSt.low (TfS6 e dk th ts kp sd t W a R fr))) : Gets Tryd.prog (TfH e dk th ts kp sd t W a R fr) BTf (KSt.low (TfS0 g e dk th ts kp sd t W a R fr)) Q := by
  refine AtW.gets ?_
  refine Tfto ((TfW1 ..).trans (by rw [dF, dF2])) ?_
  exact Tffi (TfW8 ..) hq
theorem Tfox {W : List Int} {a2 : Int} {e : TypeId} {dk th ts kp sd t2 : Int} {R2 : List Int} {f2 : DictSt} {t a : Int} {R : List Int} {fr : DictSt} (ha : ((W.length : Nat) : Int) ≤ a2)   {Q : Ex → St → Prop} (hq : Q (.exit 0) (KSt.low (TfS10 e dk th ts kp sd W t2 a2 R2 f2))) : Gets Tryd.prog (TfH e dk th ts kp sd t W a R fr) (codeAt [1, 1, 1, 0, 0] BTf) (KSt.low (TfS7 e dk th ts kp sd W t2 a2 R2 f2)) Q := by
  refine AtW.gets ?_
  refine Tfto ((TfW9 ..).trans (by rw [dF2])) ?_
  exact Tffi (TfW10 ..) hq
theorem Tfoy {a2 : Int} {W : List Int} {f2 : DictSt} {e : TypeId} {dk th ts kp sd t2 : Int} {R2 : List Int} {t a : Int} {R : List Int} {fr : DictSt} (ha0 : 0 ≤ a2) (ha : a2 < ((W.length : Nat) : Int)) (hb : W.length ≤ 1000) (hz : ¬ DictSt.get f2 (W.getD (0 + ((Int.toNat a2) * 1)) 0) = 0)   {Q : Ex → St → Prop} (hq : Q (.exit 0) (KSt.low (TfS10 e dk th ts kp sd W t2 a2 R2 f2))) : Gets Tryd.prog (TfH e dk th ts kp sd t W a R fr) (codeAt [1, 1, 1, 0, 0] BTf) (KSt.low (TfS7 e dk th ts kp sd W t2 a2 R2 f2)) Q := by
  refine AtW.gets ?_
  refine Tfto (s' := (TfS11 e dk th ts kp sd W t2 a2 R2 f2)) ((TfW11 ..).trans (by rw [dT2, iP2, obind_at (k := 0 + ((Int.toNat a2) * 1)) (by omega) (by omega)] <;> rfl)) ?_
  exact Tffi ((TfW12 ..).trans (by rw [condF (ibeq_f hz)])) hq
theorem Tfoa {a2 : Int} {W : List Int} {f2 : DictSt} {R2 : List Int} {e : TypeId} {dk th ts kp sd t2 t a : Int} {R : List Int} {fr : DictSt} (ha0 : 0 ≤ a2) (ha : a2 < ((W.length : Nat) : Int)) (hb : W.length ≤ 1000) (hz : DictSt.get f2 (W.getD (0 + ((Int.toNat a2) * 1)) 0) = 0) (hR : R2.length ≤ 1000) (hR1 : 1 ≤ R2.length)   {Q : Ex → St → Prop} (hq : Q .normal (KSt.low (TfS15 e dk th ts kp sd W t2 a2 R2 f2))) : Gets Tryd.prog (TfH e dk th ts kp sd t W a R fr) (codeAt [1, 1, 1, 0, 0] BTf) (KSt.low (TfS7 e dk th ts kp sd W t2 a2 R2 f2)) Q := by
  refine AtW.gets ?_
  refine Tfto (s' := (TfS11 e dk th ts kp sd W t2 a2 R2 f2)) ((TfW11 ..).trans (by rw [dT2, iP2, obind_at (k := 0 + ((Int.toNat a2) * 1)) (by omega) (by omega)] <;> rfl)) ?_
  refine Tfto (s' := (TfS14 e dk th ts kp sd W t2 a2 R2 f2)) ((TfW13 ..).trans (by rw [condT (ibeq_t hz), iP2, obind_at (k := 0 + ((Int.toNat a2) * 1)) (by omega) (by omega), lT2, condF (ble_f (by (first | omega | ((try simp (disch := omega) only [wrap_i64_id]) <;> omega)))), condF (and_f1 (nbeq_f (by (first | omega | ((try simp (disch := omega) only [wrap_i64_id]) <;> omega))))), condT (and_t (ble_t (by (first | omega | ((try simp (disch := omega) only [wrap_i64_id]) <;> omega)))) (ble_t (by (first | omega | ((try simp (disch := omega) only [wrap_i64_id]) <;> omega))))), (show ((List.length R2) + 1) = (List.length (List.take (List.length R2) R2 ++ [(W.getD (0 + ((Int.toNat a2) * 1)) 0)])) from by simp)] <;> rfl)) ?_
  exact Tffi (x := .normal) (s' := (TfS15 e dk th ts kp sd W t2 a2 R2 f2)) ((TfW14 ..).trans (by rw [(show (IntKind.wrap .i64 (a2 + 1)) = (a2 + 1) from wi)] <;> rfl)) hq
theorem Tfrx {W : List Int} {a2 : Int} {e : TypeId} {dk th ts kp sd t2 : Int} {R2 : List Int} {f2 : DictSt} {t a : Int} {R : List Int} {fr : DictSt} (ha : ((W.length : Nat) : Int) ≤ a2)   {Q : Ex → St → Prop} (hq : Q (.exit 0) (KSt.low (TfS19 e dk th ts kp sd W t2 a2 R2 f2))) : Gets Tryd.prog (TfH e dk th ts kp sd t W a R fr) (codeAt [1, 1, 1, 0, 0] BTf) (KSt.low (TfS16 e dk th ts kp sd W t2 a2 R2 f2)) Q := by
  refine AtW.gets ?_
  refine Tfto ((TfW15 ..).trans (by rw [dF2])) ?_
  exact Tffi (TfW16 ..) hq
theorem Tfry {a2 : Int} {W : List Int} {f2 : DictSt} {e : TypeId} {dk th ts kp sd t2 : Int} {R2 : List Int} {t a : Int} {R : List Int} {fr : DictSt} (ha0 : 0 ≤ a2) (ha : a2 < ((W.length : Nat) : Int)) (hb : W.length ≤ 1000) (hz : ¬ DictSt.get f2 (W.getD (0 + ((Int.toNat a2) * 1)) 0) = 0)   {Q : Ex → St → Prop} (hq : Q (.exit 0) (KSt.low (TfS19 e dk th ts kp sd W t2 a2 R2 f2))) : Gets Tryd.prog (TfH e dk th ts kp sd t W a R fr) (codeAt [1, 1, 1, 0, 0] BTf) (KSt.low (TfS16 e dk th ts kp sd W t2 a2 R2 f2)) Q := by
  refine AtW.gets ?_
  refine Tfto (s' := (TfS20 e dk th ts kp sd W t2 a2 R2 f2)) ((TfW17 ..).trans (by rw [dT2, iP2, obind_at (k := 0 + ((Int.toNat a2) * 1)) (by omega) (by omega)] <;> rfl)) ?_
  exact Tffi ((TfW18 ..).trans (by rw [condF (ibeq_f hz)])) hq
theorem Tfra {a2 : Int} {W : List Int} {f2 : DictSt} {R2 : List Int} {e : TypeId} {dk th ts kp sd t2 t a : Int} {R : List Int} {fr : DictSt} (ha0 : 0 ≤ a2) (ha : a2 < ((W.length : Nat) : Int)) (hb : W.length ≤ 1000) (hz : DictSt.get f2 (W.getD (0 + ((Int.toNat a2) * 1)) 0) = 0) (hR : R2.length ≤ 1000) (hR1 : 1 ≤ R2.length)   {Q : Ex → St → Prop} (hq : Q .normal (KSt.low (TfS15 e dk th ts kp sd W t2 a2 R2 f2))) : Gets Tryd.prog (TfH e dk th ts kp sd t W a R fr) (codeAt [1, 1, 1, 0, 0] BTf) (KSt.low (TfS16 e dk th ts kp sd W t2 a2 R2 f2)) Q := by
  refine AtW.gets ?_
  refine Tfto (s' := (TfS20 e dk th ts kp sd W t2 a2 R2 f2)) ((TfW17 ..).trans (by rw [dT2, iP2, obind_at (k := 0 + ((Int.toNat a2) * 1)) (by omega) (by omega)] <;> rfl)) ?_
  refine Tfto (s' := (TfS14 e dk th ts kp sd W t2 a2 R2 f2)) ((TfW19 ..).trans (by rw [condT (ibeq_t hz), iP2, obind_at (k := 0 + ((Int.toNat a2) * 1)) (by omega) (by omega), lT2, condF (ble_f (by (first | omega | ((try simp (disch := omega) only [wrap_i64_id]) <;> omega)))), condF (and_f1 (nbeq_f (by (first | omega | ((try simp (disch := omega) only [wrap_i64_id]) <;> omega))))), condT (and_t (ble_t (by (first | omega | ((try simp (disch := omega) only [wrap_i64_id]) <;> omega)))) (ble_t (by (first | omega | ((try simp (disch := omega) only [wrap_i64_id]) <;> omega))))), (show ((List.length R2) + 1) = (List.length (List.take (List.length R2) R2 ++ [(W.getD (0 + ((Int.toNat a2) * 1)) 0)])) from by simp)] <;> rfl)) ?_
  exact Tffi (x := .normal) (s' := (TfS15 e dk th ts kp sd W t2 a2 R2 f2)) ((TfW14 ..).trans (by rw [(show (IntKind.wrap .i64 (a2 + 1)) = (a2 + 1) from wi)] <;> rfl)) hq
inductive Lpd (e : TypeId) (dk : Int) (th : Int) (ts : Int) (kp : Int) (sd : Int) (W : List Int) (t2 : Int) (f2 : DictSt) (t : Int) (a : Int) (fr : DictSt) (e1 : Nat) (Re : List Int) : Nat → KSt → Prop
  | s (k : Nat) (hk : k ≤ W.length) (h1 : k + (skP f2 (W.drop k)).length = e1) (h2 : [] ++ skP f2 (W.drop k) = Re) : Lpd e dk th ts kp sd W t2 f2 t a fr e1 Re (W.length - k) (TdS7 e dk th ts kp sd W t2 (((k : Nat) : Int)) f2)
  | r (k : Nat) (Rk : List Int) (hk : k ≤ W.length) (hR : 1 ≤ Rk.length) (hRk : Rk.length ≤ k) (h1 : k + (skP f2 (W.drop k)).length = e1) (h2 : Rk ++ skP f2 (W.drop k) = Re) : Lpd e dk th ts kp sd W t2 f2 t a fr e1 Re (W.length - k) (TdS13 e dk th ts kp sd W t2 (((k : Nat) : Int)) f2 (Rk))
theorem loopd {e : TypeId} {dk : Int} {th : Int} {ts : Int} {kp : Int} {sd : Int} {W : List Int} {t2 : Int} {f2 : DictSt} {t : Int} {a : Int} {fr : DictSt} {e1 : Nat} {Re : List Int} {Q : Ex → St → Prop} (hb : W.length ≤ 1000) (hq0 : Re = [] → ∀ ts_, Q .normal (KSt.low ⟨ts_, ⟨4, 1, [(0, 0, .cells [(.int .i64 1), (.int .i64 64), (.int .i64 1), (.int .i64 64)] e false), (1, 0, .cells [(.int .u64 dk), (.int .i64 th), (.int .i64 ts), (.int .i64 kp), (.int .u64 sd), (.bool true), (.bool true), (.int .i64 t2), (.slice (some ⟨3, 0, none⟩) (List.length W) (List.length W)), (.int .i64 (((e1 : Nat) : Int))), (.map (some 2)), (.slice none 0 0)] 55 true), (2, 0, .dict .u64 .i64 f2), (3, 0, .ints .u64 W 22 true)]⟩⟩)) (hq1 : Re ≠ [] → ∀ ts_, Q .normal (KSt.low ⟨ts_, ⟨5, 1, [(4, 0, .ints .u64 (Re) 22 true), (0, 0, .cells [(.int .i64 1), (.int .i64 64), (.int .i64 1), (.int .i64 64)] e false), (1, 0, .cells [(.int .u64 dk), (.int .i64 th), (.int .i64 ts), (.int .i64 kp), (.int .u64 sd), (.bool true), (.bool true), (.int .i64 t2), (.slice (some ⟨3, 0, none⟩) (List.length W) (List.length W)), (.int .i64 (((e1 : Nat) : Int))), (.map (some 2)), (.slice (some ⟨4, 0, none⟩) (List.length (Re)) (List.length (Re)))] 55 true), (2, 0, .dict .u64 .i64 f2), (3, 0, .ints .u64 W 22 true)]⟩⟩))
    (m : Nat) (t_ : KSt) (hI : Lpd e dk th ts kp sd W t2 f2 t a fr e1 Re m t_) : Gets Tryd.prog (KH.low ⟨4, 1, [(0, 0, .cells [(.int .i64 1), (.int .i64 64), (.int .i64 1), (.int .i64 64)] e false), (1, 0, .cells [(.int .u64 dk), (.int .i64 th), (.int .i64 ts), (.int .i64 kp), (.int .u64 sd), (.bool true), (.bool true), (.int .i64 t), (.slice (some ⟨3, 0, none⟩) (List.length W) (List.length W)), (.int .i64 a), (.map (some 2)), (.slice none 0 0)] 55 true), (2, 0, .dict .u64 .i64 fr), (3, 0, .ints .u64 W 22 true)]⟩) (codeAt [1, 1, 1] BTd) t_.low (Q) := by
  rw [TdC1_1_1, TdC1_1_1_0]
  refine Gets.loopG (fun m t_ => Lpd e dk th ts kp sd W t2 f2 t a fr e1 Re m t_) ?_ _ _ hI
  clear hI m t_
  intro m t_ hI
  have hz1 : ∀ k : Nat, (0 + ((Int.toNat ((k : Nat) : Int)) * 1)) = k := fun k => by rw [Nat.mul_one, Nat.zero_add, Int.toNat_natCast]
  cases hI with
  | s k hk h1 h2 =>
    by_cases hlt : k < W.length
    · by_cases hz : f2.get (W.getD k 0) = 0
      · rw [skP_go hlt hz] at h1 h2
        refine Tdna (by omega) (by omega) hb (by rw [hz1]; exact hz) ?_
        have hn : Lpd e dk th ts kp sd W t2 f2 t a fr e1 Re (W.length - (k + 1)) (TdS13 e dk th ts kp sd W t2 (((k + 1 : Nat) : Int)) f2 ([] ++ [W.getD (0 + ((Int.toNat ((k : Nat) : Int)) * 1)) 0])) := by
          refine .r (k + 1) _ (by omega) (by simp) (by simp <;> omega) (by simp only [List.length_cons] at h1; omega) ?_
          rw [hz1, List.append_assoc]; exact h2
        exact ⟨W.length - (k + 1), (TdS13 e dk th ts kp sd W t2 (((k + 1 : Nat) : Int)) f2 ([] ++ [W.getD (0 + ((Int.toNat ((k : Nat) : Int)) * 1)) 0])), by omega, rfl, hn⟩
      · rw [skP_stop hlt hz] at h1 h2
        refine Tdny (by omega) (by omega) hb (by rw [hz1]; exact hz) ?_
        refine ⟨fun _ => ?_, fun h => by cases h⟩
        rw [List.append_nil] at h2
        have := hq0 h2.symm
        rw [← h1] at this
        exact this _
    · rw [skP_out (by omega)] at h1 h2
      refine Tdnx (by omega) ?_
      refine ⟨fun _ => ?_, fun h => by cases h⟩
      rw [List.append_nil] at h2
      have := hq0 h2.symm
      rw [← h1] at this
      exact this _
  | r k Rk hk hR hRk h1 h2 =>
    have hfin : ∀ E : List Int, E = [] → k + E.length = e1 → Rk ++ E = Re → ∀ ts_, Q .normal (KSt.low ⟨ts_, ⟨5, 1, [(4, 0, .ints .u64 (Rk) 22 true), (0, 0, .cells [(.int .i64 1), (.int .i64 64), (.int .i64 1), (.int .i64 64)] e false), (1, 0, .cells [(.int .u64 dk), (.int .i64 th), (.int .i64 ts), (.int .i64 kp), (.int .u64 sd), (.bool true), (.bool true), (.int .i64 t2), (.slice (some ⟨3, 0, none⟩) (List.length W) (List.length W)), (.int .i64 (((k : Nat) : Int))), (.map (some 2)), (.slice (some ⟨4, 0, none⟩) (List.length (Rk)) (List.length (Rk)))] 55 true), (2, 0, .dict .u64 .i64 f2), (3, 0, .ints .u64 W 22 true)]⟩⟩) := fun E he g1 g2 => by
      subst he
      rw [List.append_nil] at g2
      have g1 : k = e1 := g1
      subst g2; subst g1
      exact hq1 (fun h => by rw [h] at hR; exact absurd hR (by decide))
    by_cases hlt : k < W.length
    · by_cases hz : f2.get (W.getD k 0) = 0
      · rw [skP_go hlt hz] at h1 h2
        refine Tdra (by omega) (by omega) hb (by rw [hz1]; exact hz) (by omega) hR ?_
        have hn : Lpd e dk th ts kp sd W t2 f2 t a fr e1 Re (W.length - (k + 1)) (TdS13 e dk th ts kp sd W t2 (((k + 1 : Nat) : Int)) f2 (List.take Rk.length Rk ++ [W.getD (0 + ((Int.toNat ((k : Nat) : Int)) * 1)) 0])) := by
          refine .r (k + 1) _ (by omega) (by simp) (by simp <;> omega) (by simp only [List.length_cons] at h1; omega) ?_
          rw [hz1, List.take_length, List.append_assoc]; exact h2
        exact ⟨W.length - (k + 1), _, by omega, rfl, hn⟩
      · rw [skP_stop hlt hz] at h1 h2
        refine Tdry (by omega) (by omega) hb (by rw [hz1]; exact hz) ?_
        exact ⟨fun _ => hfin [] rfl h1 h2 _, fun h => by cases h⟩
    · rw [skP_out (by omega)] at h1 h2
      refine Tdrx (by omega) ?_
      exact ⟨fun _ => hfin [] rfl h1 h2 _, fun h => by cases h⟩
inductive Lpf (e : TypeId) (dk : Int) (th : Int) (ts : Int) (kp : Int) (sd : Int) (W : List Int) (t2 : Int) (f2 : DictSt) (t : Int) (a : Int) (R : List Int) (fr : DictSt) (R0 : List Int) (e1 : Nat) (Re : List Int) : Nat → KSt → Prop
  | s (k : Nat) (hk : k ≤ W.length) (h1 : k + (skP f2 (W.drop k)).length = e1) (h2 : R0 ++ skP f2 (W.drop k) = Re) : Lpf e dk th ts kp sd W t2 f2 t a R fr R0 e1 Re (W.length - k) (TfS7 e dk th ts kp sd W t2 (((k : Nat) : Int)) (R0) f2)
  | r (k : Nat) (Rk : List Int) (hk : k ≤ W.length) (hR : 1 ≤ Rk.length) (hRk : Rk.length ≤ k + R0.length) (hne : R0.length < Rk.length) (h1 : k + (skP f2 (W.drop k)).length = e1) (h2 : Rk ++ skP f2 (W.drop k) = Re) : Lpf e dk th ts kp sd W t2 f2 t a R fr R0 e1 Re (W.length - k) (TfS16 e dk th ts kp sd W t2 (((k : Nat) : Int)) (Rk) f2)
theorem loopf {e : TypeId} {dk : Int} {th : Int} {ts : Int} {kp : Int} {sd : Int} {W : List Int} {t2 : Int} {f2 : DictSt} {t : Int} {a : Int} {R : List Int} {fr : DictSt} {R0 : List Int} (hR0 : 1 ≤ R0.length) (hR0b : R0.length ≤ 1000) {e1 : Nat} {Re : List Int} {Q : Ex → St → Prop} (hb : W.length ≤ 1000) (hRe : Re.length ≤ 1000) (hq0 : Re = R0 → ∀ ts_, Q .normal (KSt.low ⟨ts_, ⟨5, 1, [(0, 0, .cells [(.int .i64 1), (.int .i64 64), (.int .i64 1), (.int .i64 64)] e false), (1, 0, .cells [(.int .u64 dk), (.int .i64 th), (.int .i64 ts), (.int .i64 kp), (.int .u64 sd), (.bool true), (.bool true), (.int .i64 t2), (.slice (some ⟨3, 0, none⟩) (List.length W) (List.length W)), (.int .i64 (((e1 : Nat) : Int))), (.map (some 2)), (.slice (some ⟨4, 0, none⟩) (List.length (R0)) (List.length (R0)))] 55 true), (2, 0, .dict .u64 .i64 f2), (3, 0, .ints .u64 W 22 true), (4, 0, .ints .u64 (R0) 22 true)]⟩⟩)) (hq1 : Re ≠ R0 → ∀ ts_, Q .normal (KSt.low ⟨ts_, ⟨6, 1, [(5, 0, .ints .u64 (Re) 22 true), (0, 0, .cells [(.int .i64 1), (.int .i64 64), (.int .i64 1), (.int .i64 64)] e false), (1, 0, .cells [(.int .u64 dk), (.int .i64 th), (.int .i64 ts), (.int .i64 kp), (.int .u64 sd), (.bool true), (.bool true), (.int .i64 t2), (.slice (some ⟨3, 0, none⟩) (List.length W) (List.length W)), (.int .i64 (((e1 : Nat) : Int))), (.map (some 2)), (.slice (some ⟨5, 0, none⟩) (List.length (Re)) (List.length (Re)))] 55 true), (2, 0, .dict .u64 .i64 f2), (3, 0, .ints .u64 W 22 true)]⟩⟩))
    (m : Nat) (t_ : KSt) (hI : Lpf e dk th ts kp sd W t2 f2 t a R fr R0 e1 Re m t_) : Gets Tryd.prog (KH.low ⟨5, 1, [(0, 0, .cells [(.int .i64 1), (.int .i64 64), (.int .i64 1), (.int .i64 64)] e false), (1, 0, .cells [(.int .u64 dk), (.int .i64 th), (.int .i64 ts), (.int .i64 kp), (.int .u64 sd), (.bool true), (.bool true), (.int .i64 t), (.slice (some ⟨3, 0, none⟩) (List.length W) (List.length W)), (.int .i64 a), (.map (some 2)), (.slice (some ⟨4, 0, none⟩) (List.length R) (List.length R))] 55 true), (2, 0, .dict .u64 .i64 fr), (3, 0, .ints .u64 W 22 true), (4, 0, .ints .u64 R 22 true)]⟩) (codeAt [1, 1, 1] BTf) t_.low (Q) := by
  rw [TfC1_1_1, TfC1_1_1_0]
  refine Gets.loopG (fun m t_ => Lpf e dk th ts kp sd W t2 f2 t a R fr R0 e1 Re m t_) ?_ _ _ hI
  clear hI m t_
  intro m t_ hI
  have hz1 : ∀ k : Nat, (0 + ((Int.toNat ((k : Nat) : Int)) * 1)) = k := fun k => by rw [Nat.mul_one, Nat.zero_add, Int.toNat_natCast]
  cases hI with
  | s k hk h1 h2 =>
    by_cases hlt : k < W.length
    · by_cases hz : f2.get (W.getD k 0) = 0
      · rw [skP_go hlt hz] at h1 h2
        refine Tfoa (by omega) (by omega) hb (by rw [hz1]; exact hz) hR0b hR0 ?_
        have hn : Lpf e dk th ts kp sd W t2 f2 t a R fr R0 e1 Re (W.length - (k + 1)) (TfS16 e dk th ts kp sd W t2 (((k + 1 : Nat) : Int)) (List.take R0.length R0 ++ [W.getD (0 + ((Int.toNat ((k : Nat) : Int)) * 1)) 0]) f2) := by
          refine .r (k + 1) _ (by omega) (by simp) (by simp <;> omega) (by simp) (by simp only [List.length_cons] at h1; omega) ?_
          rw [hz1, List.take_length, List.append_assoc]; exact h2
        exact ⟨W.length - (k + 1), (TfS16 e dk th ts kp sd W t2 (((k + 1 : Nat) : Int)) (List.take R0.length R0 ++ [W.getD (0 + ((Int.toNat ((k : Nat) : Int)) * 1)) 0]) f2), by omega, rfl, hn⟩
      · rw [skP_stop hlt hz] at h1 h2
        refine Tfoy (by omega) (by omega) hb (by rw [hz1]; exact hz) ?_
        refine ⟨fun _ => ?_, fun h => by cases h⟩
        rw [List.append_nil] at h2
        have := hq0 h2.symm
        rw [← h1] at this
        exact this _
    · rw [skP_out (by omega)] at h1 h2
      refine Tfox (by omega) ?_
      refine ⟨fun _ => ?_, fun h => by cases h⟩
      rw [List.append_nil] at h2
      have := hq0 h2.symm
      rw [← h1] at this
      exact this _
  | r k Rk hk hR hRk hne h1 h2 =>
    have hfin : ∀ E : List Int, E = [] → k + E.length = e1 → Rk ++ E = Re → ∀ ts_, Q .normal (KSt.low ⟨ts_, ⟨6, 1, [(5, 0, .ints .u64 (Rk) 22 true), (0, 0, .cells [(.int .i64 1), (.int .i64 64), (.int .i64 1), (.int .i64 64)] e false), (1, 0, .cells [(.int .u64 dk), (.int .i64 th), (.int .i64 ts), (.int .i64 kp), (.int .u64 sd), (.bool true), (.bool true), (.int .i64 t2), (.slice (some ⟨3, 0, none⟩) (List.length W) (List.length W)), (.int .i64 (((k : Nat) : Int))), (.map (some 2)), (.slice (some ⟨5, 0, none⟩) (List.length (Rk)) (List.length (Rk)))] 55 true), (2, 0, .dict .u64 .i64 f2), (3, 0, .ints .u64 W 22 true)]⟩⟩) := fun E he g1 g2 => by
      subst he
      rw [List.append_nil] at g2
      have g1 : k = e1 := g1
      subst g2; subst g1
      exact hq1 (fun h => by rw [h] at hne; omega)
    by_cases hlt : k < W.length
    · by_cases hz : f2.get (W.getD k 0) = 0
      · rw [skP_go hlt hz] at h1 h2
        refine Tfra (by omega) (by omega) hb (by rw [hz1]; exact hz) (by have := congrArg List.length h2; simp only [List.length_append, List.length_cons] at this; omega) hR ?_
        have hn : Lpf e dk th ts kp sd W t2 f2 t a R fr R0 e1 Re (W.length - (k + 1)) (TfS16 e dk th ts kp sd W t2 (((k + 1 : Nat) : Int)) (List.take Rk.length Rk ++ [W.getD (0 + ((Int.toNat ((k : Nat) : Int)) * 1)) 0]) f2) := by
          refine .r (k + 1) _ (by omega) (by simp) (by simp <;> omega) (by simp; omega) (by simp only [List.length_cons] at h1; omega) ?_
          rw [hz1, List.take_length, List.append_assoc]; exact h2
        exact ⟨W.length - (k + 1), _, by omega, rfl, hn⟩
      · rw [skP_stop hlt hz] at h1 h2
        refine Tfry (by omega) (by omega) hb (by rw [hz1]; exact hz) ?_
        exact ⟨fun _ => hfin [] rfl h1 h2 _, fun h => by cases h⟩
    · rw [skP_out (by omega)] at h1 h2
      refine Tfrx (by omega) ?_
      exact ⟨fun _ => hfin [] rfl h1 h2 _, fun h => by cases h⟩
end Go.Proofs.YtfhfbbhoppnbiaaDoor
