import Derived.Test.YtfhfbbhoppnbiaaDoorRtG
import Derived.WalkKit
import Derived.ProofKit
import Derived.OpenShut
import Derived.ChangeOld
import Derived.Below
import Derived.SizedLaws
namespace Go.Proofs.YtfhfbbhoppnbiaaDoor
open Go.Eng
open Go.ChangeShapes Go.WideShapes Go.ChangeAt Go.RowKit
set_option linter.unusedVariables false
set_option linter.unusedSimpArgs false
set_option maxRecDepth 100000
noncomputable def cfgH : Cfg := ⟨[]⟩
noncomputable def fsH : List FuncId := [41, 44, 51]
theorem fitH : Fit Tryd.prog cfgH fsH := ⟨by kernel_rfl, Cfg.ok_of (by kernel_rfl), by kernel_rfl⟩
noncomputable def BDr : Code := bodyOf Tryd.prog 51
theorem BDr_is : Tryd.f51.body = some BDr := by kernel_rfl
noncomputable abbrev DrH (e : TypeId) (off n c : Nat) (ta : Int) (tv : Bool) (tk tb tc to tn : Int) (et : TypeId) (l : List Int) (g_ : TypeId) : AH := (KH.low ⟨3, 1, [(0, 0, .cells [(.int .i64 1), (.int .i64 64), (.int .i64 1), (.int .i64 64)] e false), (1, 0, .cells [(.slice (some ⟨2, off, none⟩) n c), (.int .i64 ta), (.bool tv), (.int .i64 tk), (.int .u64 tb), (.int .i64 tc), (.int .u64 to), (.int .u64 tn)] et true), (2, 0, .tail off .u64 l g_)]⟩)
noncomputable abbrev DrEA (c : Code) (lv p : List Nat) (st : Option (List Nat)) (ws : List Bool) (s : KSt) : Option Rs := evA (evCK Tryd.prog cfgH (runK Tryd.prog cfgH fsH noT 14 40) 14) (stopW 3 lv) p c st ws s (finW 3 lv)
theorem Drto {c_ : Code} {lv_ p_ p2_ : List Nat} {ws_ : List Bool} {st_ s' : KSt} {Q : Ex → St → Prop} {e : TypeId} {off n c : Nat} {ta : Int} {tv : Bool} {tk tb tc to tn : Int} {et : TypeId} {l : List Int} {g_ : TypeId} (hE_ : DrEA c_ lv_ p_ (some p2_) ws_ st_ = some (.stop s')) (hq_ : AtW Tryd.prog (DrH e off n c ta tv tk tb tc to tn et l g_) c_ p2_ s' Q) (hok_ : okCode Tryd.prog.globals.size c_ = true := by kernel_rfl) : AtW Tryd.prog (DrH e off n c ta tv tk tb tc to tn et l g_) c_ p_ st_ Q := AtW.to fitH SoundC.no AgreeT.no 14 40 hok_ hE_ hq_
theorem Drfi {c_ : Code} {lv_ p_ : List Nat} {ws_ : List Bool} {st_ s' : KSt} {x : Ex} {Q : Ex → St → Prop} {e : TypeId} {off n c : Nat} {ta : Int} {tv : Bool} {tk tb tc to tn : Int} {et : TypeId} {l : List Int} {g_ : TypeId} (hE_ : DrEA c_ lv_ p_ none ws_ st_ = some (.fin x s')) (hq_ : Q x s'.low) (hok_ : okCode Tryd.prog.globals.size c_ = true := by kernel_rfl) : AtW Tryd.prog (DrH e off n c ta tv tk tb tc to tn et l g_) c_ p_ st_ Q := AtW.fin fitH SoundC.no AgreeT.no 14 40 hok_ hE_ hq_
section
variable (xk xb xc xo xn : Int) (e : TypeId) (off n c : Nat) (ta : Int) (tv : Bool) (tk tb tc to tn : Int) (et : TypeId) (l : List Int) (g_ : TypeId)
noncomputable abbrev DrO0 (e : TypeId) : KObj := .cells [(.int .i64 1), (.int .i64 64), (.int .i64 1), (.int .i64 64)] e false
noncomputable def DrS0 : KSt := (firstK [(.pointer (some ⟨1, 0, none⟩)), (.agg #[(.int .i64 xk), (.int .u64 xb), (.int .i64 xc), (.int .u64 xo), (.int .u64 xn)])] 44 ⟨3, 1, [(0, 0, (DrO0 e)), (1, 0, .cells [(.slice (some ⟨2, off, none⟩) n c), (.int .i64 ta), (.bool tv), (.int .i64 tk), (.int .u64 tb), (.int .i64 tc), (.int .u64 to), (.int .u64 tn)] et true), (2, 0, .tail off .u64 l g_)]⟩)
theorem DrW1 : DrEA BDr [4] [] none [true] (DrS0 xk xb xc xo xn e off n c ta tv tk tb tc to tn et l g_) =
  bif tv then
    some (.fin .ret ⟨(frameL 44 [(4, (.int .u64 0))]), ⟨3, 1, [(0, 0, .cells [(.int .i64 1), (.int .i64 64), (.int .i64 1), (.int .i64 64)] e false), (1, 0, .cells [(.slice (some ⟨2, off, none⟩) n c), (.int .i64 ta), (.bool tv), (.int .i64 tk), (.int .u64 tb), (.int .i64 tc), (.int .u64 to), (.int .u64 tn)] et true), (2, 0, .tail off .u64 l g_)]⟩⟩)
  else
    none := by kernel_rfl
noncomputable def DrS1 : KSt := ⟨(frameL 44 [(4, (.int .u64 0))]), ⟨3, 1, [(0, 0, (DrO0 e)), (1, 0, .cells [(.slice (some ⟨2, off, none⟩) n c), (.int .i64 ta), (.bool true), (.int .i64 tk), (.int .u64 tb), (.int .i64 tc), (.int .u64 to), (.int .u64 tn)] et true), (2, 0, .tail off .u64 l g_)]⟩⟩
theorem DrW2 : DrEA BDr [0] [] (some [1, 1, 0, 1, 0, 1]) [false, true] (DrS0 xk xb xc xo xn e off n c ta tv tk tb tc to tn et l g_) =
  bif tv then
    none
  else
    bif (decide (ta < ((n : Nat) : Int))) then
      some (.stop ⟨(frameL 44 [(0, (.pointer (some ⟨1, 0, none⟩)))]), ⟨3, 1, [(0, 0, .cells [(.int .i64 1), (.int .i64 64), (.int .i64 1), (.int .i64 64)] e false), (1, 0, .cells [(.slice (some ⟨2, off, none⟩) n c), (.int .i64 (IntKind.wrap .i64 (ta + 1))), (.bool tv), (.int .i64 tk), (.int .u64 tb), (.int .i64 tc), (.int .u64 to), (.int .u64 tn)] et true), (2, 0, .tail off .u64 l g_)]⟩⟩)
    else
      none := by kernel_rfl
noncomputable def DrS2 : KSt := ⟨(frameL 44 [(0, (.pointer (some ⟨1, 0, none⟩)))]), ⟨3, 1, [(0, 0, (DrO0 e)), (1, 0, .cells [(.slice (some ⟨2, off, none⟩) n c), (.int .i64 (ta + 1)), (.bool false), (.int .i64 tk), (.int .u64 tb), (.int .i64 tc), (.int .u64 to), (.int .u64 tn)] et true), (2, 0, .tail off .u64 l g_)]⟩⟩
theorem DrW3 : DrEA BDr [4] [1, 1, 0, 1, 0, 1] (some [1, 1, 0, 1, 0, 1, 1]) [] (DrS2 e off n c ta tk tb tc to tn et l g_) =
  if 0 ≤ (IntKind.wrap .i64 ((ta + 1) - 1)) ∧ (IntKind.wrap .i64 ((ta + 1) - 1)) < ((n : Nat) : Int) then
    bif (Nat.ble off (off + ((Int.toNat (IntKind.wrap .i64 ((ta + 1) - 1))) * 1))) then
      obind (l[((off + ((Int.toNat (IntKind.wrap .i64 ((ta + 1) - 1))) * 1)) - off)]?) fun zn1 =>
        some (.stop ⟨(frameL 44 [(4, (.int .u64 zn1))]), ⟨3, 1, [(0, 0, .cells [(.int .i64 1), (.int .i64 64), (.int .i64 1), (.int .i64 64)] e false), (1, 0, .cells [(.slice (some ⟨2, off, none⟩) n c), (.int .i64 (ta + 1)), (.bool false), (.int .i64 tk), (.int .u64 tb), (.int .i64 tc), (.int .u64 to), (.int .u64 tn)] et true), (2, 0, .tail off .u64 l g_)]⟩⟩)
    else
      none
  else
    none := by kernel_rfl
noncomputable def DrS3 : KSt := ⟨(frameL 44 [(4, (.int .u64 (l.getD (Int.toNat ta) 0)))]), ⟨3, 1, [(0, 0, (DrO0 e)), (1, 0, .cells [(.slice (some ⟨2, off, none⟩) n c), (.int .i64 (ta + 1)), (.bool false), (.int .i64 tk), (.int .u64 tb), (.int .i64 tc), (.int .u64 to), (.int .u64 tn)] et true), (2, 0, .tail off .u64 l g_)]⟩⟩
theorem DrW4 : DrEA BDr [4] [1, 1, 0, 1, 0, 1, 1] none [] (DrS3 e off n c ta tk tb tc to tn et l g_) =
  some (.fin .ret (DrS3 e off n c ta tk tb tc to tn et l g_)) := by kernel_rfl
noncomputable def DrS4 : KSt := ⟨(frameL 44 [(4, (.int .u64 0))]), ⟨3, 1, [(0, 0, (DrO0 e)), (1, 0, .cells [(.slice (some ⟨2, off, none⟩) n c), (.int .i64 ta), (.bool true), (.int .i64 xk), (.int .u64 xb), (.int .i64 xc), (.int .u64 xo), (.int .u64 xn)] et true), (2, 0, .tail off .u64 l g_)]⟩⟩
theorem DrW5 : DrEA BDr [4] [] none [false, false] (DrS0 xk xb xc xo xn e off n c ta tv tk tb tc to tn et l g_) =
  bif tv then
    none
  else
    bif (decide (ta < ((n : Nat) : Int))) then
      none
    else
      some (.fin .ret (DrS4 xk xb xc xo xn e off n c ta et l g_)) := by kernel_rfl
end
theorem Dro {tv : Bool} {e : TypeId} {off n c : Nat} {ta tk tb tc to tn : Int} {et : TypeId} {l : List Int} {g_ : TypeId} {xk xb xc xo xn : Int} (hv : tv = true)   {Q : Ex → St → Prop} (hq : Q .ret (KSt.low (DrS1 e off n c ta tk tb tc to tn et l g_))) : Gets Tryd.prog (DrH e off n c ta tv tk tb tc to tn et l g_) BDr (KSt.low (DrS0 xk xb xc xo xn e off n c ta tv tk tb tc to tn et l g_)) Q := by
  refine AtW.gets ?_
  exact Drfi (x := .ret) (s' := (DrS1 e off n c ta tk tb tc to tn et l g_)) ((DrW1 ..).trans (by rw [condT (hv), (show tv = true from hv)] <;> rfl)) hq
theorem Drl {tv : Bool} {ta : Int} {n : Nat} {l : List Int} {e : TypeId} {off c : Nat} {tk tb tc to tn : Int} {et g_ : TypeId} {xk xb xc xo xn : Int} (hv : tv = false) (h0 : 0 ≤ ta) (h1 : ta < (n : Int)) (hl : l.length = n) (hb : n ≤ 1000)   {Q : Ex → St → Prop} (hq : Q .ret (KSt.low (DrS3 e off n c ta tk tb tc to tn et l g_))) : Gets Tryd.prog (DrH e off n c ta tv tk tb tc to tn et l g_) BDr (KSt.low (DrS0 xk xb xc xo xn e off n c ta tv tk tb tc to tn et l g_)) Q := by
  refine AtW.gets ?_
  refine Drto (s' := (DrS2 e off n c ta tk tb tc to tn et l g_)) ((DrW2 ..).trans (by rw [condF (hv), dT, (show tv = false from hv), (show (IntKind.wrap .i64 (ta + 1)) = (ta + 1) from wi)] <;> rfl)) ?_
  refine Drto (s' := (DrS3 e off n c ta tk tb tc to tn et l g_)) ((DrW3 ..).trans (by rw [iP2, lT2, obind_at (k := ((Int.toNat (IntKind.wrap .i64 ((ta + 1) - 1))) * 1)) (by (first | omega | ((try simp (disch := omega) only [wrap_i64_id]) <;> omega))) (by (first | omega | ((try simp (disch := omega) only [wrap_i64_id]) <;> omega))), (show (IntKind.wrap .i64 ((ta + 1) - 1)) = ta from by rw [wi]; omega), (show ((Int.toNat ta) * 1) = (Int.toNat ta) from Nat.mul_one _)] <;> rfl)) ?_
  exact Drfi (DrW4 ..) hq
theorem Dre {tv : Bool} {ta : Int} {n : Nat} {xk xb xc xo xn : Int} {e : TypeId} {off c : Nat} {et : TypeId} {l : List Int} {g_ : TypeId} {tk tb tc to tn : Int} (hv : tv = false) (h1 : ¬ ta < (n : Int))   {Q : Ex → St → Prop} (hq : Q .ret (KSt.low (DrS4 xk xb xc xo xn e off n c ta et l g_))) : Gets Tryd.prog (DrH e off n c ta tv tk tb tc to tn et l g_) BDr (KSt.low (DrS0 xk xb xc xo xn e off n c ta tv tk tb tc to tn et l g_)) Q := by
  refine AtW.gets ?_
  exact Drfi ((DrW5 ..).trans (by rw [condF (hv), dF])) hq
noncomputable def BD0 : Code := bodyOf Tryd.prog 51
theorem BD0_is : Tryd.f51.body = some BD0 := by kernel_rfl
noncomputable abbrev D0H (e : TypeId) (ta : Int) (tv : Bool) (tk tb tc to tn : Int) (et : TypeId) : AH := (KH.low ⟨2, 1, [(0, 0, .cells [(.int .i64 1), (.int .i64 64), (.int .i64 1), (.int .i64 64)] e false), (1, 0, .cells [(.slice (some ⟨0, 0, some 0⟩) 0 0), (.int .i64 ta), (.bool tv), (.int .i64 tk), (.int .u64 tb), (.int .i64 tc), (.int .u64 to), (.int .u64 tn)] et true)]⟩)
noncomputable abbrev D0EA (c : Code) (lv p : List Nat) (st : Option (List Nat)) (ws : List Bool) (s : KSt) : Option Rs := evA (evCK Tryd.prog cfgH (runK Tryd.prog cfgH fsH noT 14 40) 14) (stopW 2 lv) p c st ws s (finW 2 lv)
theorem D0fi {c_ : Code} {lv_ p_ : List Nat} {ws_ : List Bool} {st_ s' : KSt} {x : Ex} {Q : Ex → St → Prop} {e : TypeId} {ta : Int} {tv : Bool} {tk tb tc to tn : Int} {et : TypeId} (hE_ : D0EA c_ lv_ p_ none ws_ st_ = some (.fin x s')) (hq_ : Q x s'.low) (hok_ : okCode Tryd.prog.globals.size c_ = true := by kernel_rfl) : AtW Tryd.prog (D0H e ta tv tk tb tc to tn et) c_ p_ st_ Q := AtW.fin fitH SoundC.no AgreeT.no 14 40 hok_ hE_ hq_
section
variable (xk xb xc xo xn : Int) (e : TypeId) (ta : Int) (tv : Bool) (tk tb tc to tn : Int) (et : TypeId)
noncomputable def D0S0 : KSt := (firstK [(.pointer (some ⟨1, 0, none⟩)), (.agg #[(.int .i64 xk), (.int .u64 xb), (.int .i64 xc), (.int .u64 xo), (.int .u64 xn)])] 44 ⟨2, 1, [(0, 0, .cells [(.int .i64 1), (.int .i64 64), (.int .i64 1), (.int .i64 64)] e false), (1, 0, .cells [(.slice (some ⟨0, 0, some 0⟩) 0 0), (.int .i64 ta), (.bool tv), (.int .i64 tk), (.int .u64 tb), (.int .i64 tc), (.int .u64 to), (.int .u64 tn)] et true)]⟩)
theorem D0W1 : D0EA BD0 [4] [] none [true] (D0S0 xk xb xc xo xn e ta tv tk tb tc to tn et) =
  bif tv then
    some (.fin .ret ⟨(frameL 44 [(4, (.int .u64 0))]), ⟨2, 1, [(0, 0, .cells [(.int .i64 1), (.int .i64 64), (.int .i64 1), (.int .i64 64)] e false), (1, 0, .cells [(.slice (some ⟨0, 0, some 0⟩) 0 0), (.int .i64 ta), (.bool tv), (.int .i64 tk), (.int .u64 tb), (.int .i64 tc), (.int .u64 to), (.int .u64 tn)] et true)]⟩⟩)
  else
    none := by kernel_rfl
noncomputable def D0S1 : KSt := ⟨(frameL 44 [(4, (.int .u64 0))]), ⟨2, 1, [(0, 0, .cells [(.int .i64 1), (.int .i64 64), (.int .i64 1), (.int .i64 64)] e false), (1, 0, .cells [(.slice (some ⟨0, 0, some 0⟩) 0 0), (.int .i64 ta), (.bool true), (.int .i64 tk), (.int .u64 tb), (.int .i64 tc), (.int .u64 to), (.int .u64 tn)] et true)]⟩⟩
noncomputable def D0S2 : KSt := ⟨(frameL 44 [(4, (.int .u64 0))]), ⟨2, 1, [(0, 0, .cells [(.int .i64 1), (.int .i64 64), (.int .i64 1), (.int .i64 64)] e false), (1, 0, .cells [(.slice (some ⟨0, 0, some 0⟩) 0 0), (.int .i64 ta), (.bool true), (.int .i64 xk), (.int .u64 xb), (.int .i64 xc), (.int .u64 xo), (.int .u64 xn)] et true)]⟩⟩
theorem D0W2 : D0EA BD0 [4] [] none [false, false] (D0S0 xk xb xc xo xn e ta tv tk tb tc to tn et) =
  bif tv then
    none
  else
    bif (decide (ta < 0)) then
      none
    else
      some (.fin .ret (D0S2 xk xb xc xo xn e ta et)) := by kernel_rfl
end
theorem D0o {tv : Bool} {e : TypeId} {ta tk tb tc to tn : Int} {et : TypeId} {xk xb xc xo xn : Int} (hv : tv = true)   {Q : Ex → St → Prop} (hq : Q .ret (KSt.low (D0S1 e ta tk tb tc to tn et))) : Gets Tryd.prog (D0H e ta tv tk tb tc to tn et) BD0 (KSt.low (D0S0 xk xb xc xo xn e ta tv tk tb tc to tn et)) Q := by
  refine AtW.gets ?_
  exact D0fi (x := .ret) (s' := (D0S1 e ta tk tb tc to tn et)) ((D0W1 ..).trans (by rw [condT (hv), (show tv = true from hv)] <;> rfl)) hq
theorem D0e {tv : Bool} {ta xk xb xc xo xn : Int} {e et : TypeId} {tk tb tc to tn : Int} (hv : tv = false) (h1 : ¬ ta < 0)   {Q : Ex → St → Prop} (hq : Q .ret (KSt.low (D0S2 xk xb xc xo xn e ta et))) : Gets Tryd.prog (D0H e ta tv tk tb tc to tn et) BD0 (KSt.low (D0S0 xk xb xc xo xn e ta tv tk tb tc to tn et)) Q := by
  refine AtW.gets ?_
  exact D0fi ((D0W2 ..).trans (by rw [condF (hv), dF])) hq
def tLv (l : List Int) (ta : Int) : Bool := decide (ta < ((l.length : Nat) : Int))
def tAns (l : List Int) (ta : Int) (tv : Bool) : Int := bif tv then 0 else bif tLv l ta then l.getD ta.toNat 0 else 0
def tAt (l : List Int) (ta : Int) (tv : Bool) : Int := bif tv then ta else bif tLv l ta then ta + 1 else ta
def tOv (l : List Int) (ta : Int) (tv : Bool) : Bool := tv || !tLv l ta
def tF (l : List Int) (ta : Int) (tv : Bool) (x y : Int) : Int := bif tv || tLv l ta then y else x
noncomputable def actOk (x : Value) : Bool := match x with
  | .agg ⟨[.int .i64 k, .int .u64 b, .int .i64 c, .int .u64 o, .int .u64 n]⟩ => true
  | _ => false
noncomputable def actFk (x : Value) : Int := match x with
  | .agg ⟨[.int .i64 k, .int .u64 b, .int .i64 c, .int .u64 o, .int .u64 n]⟩ => k
  | _ => 0
noncomputable def actFb (x : Value) : Int := match x with
  | .agg ⟨[.int .i64 k, .int .u64 b, .int .i64 c, .int .u64 o, .int .u64 n]⟩ => b
  | _ => 0
noncomputable def actFc (x : Value) : Int := match x with
  | .agg ⟨[.int .i64 k, .int .u64 b, .int .i64 c, .int .u64 o, .int .u64 n]⟩ => c
  | _ => 0
noncomputable def actFo (x : Value) : Int := match x with
  | .agg ⟨[.int .i64 k, .int .u64 b, .int .i64 c, .int .u64 o, .int .u64 n]⟩ => o
  | _ => 0
noncomputable def actFn (x : Value) : Int := match x with
  | .agg ⟨[.int .i64 k, .int .u64 b, .int .i64 c, .int .u64 o, .int .u64 n]⟩ => n
  | _ => 0
theorem do_does (e : TypeId) (et : TypeId) (off n c : Nat) (l : List Int) (g_ : TypeId) (ta : Int) (tv : Bool) (tk tb tc to tn xk xb xc xo xn : Int) (hl : l.length = n) (hb : n ≤ 1000) (h0 : 0 ≤ ta) : DoesC Tryd.prog 51 [.pointer (some ⟨1, 0, none⟩), .agg ⟨[.int .i64 xk, .int .u64 xb, .int .i64 xc, .int .u64 xo, .int .u64 xn]⟩] (mkH [.cells [(.int .i64 1), (.int .i64 64), (.int .i64 1), (.int .i64 64)] e false, .cells [(.slice (some ⟨2, off, none⟩) n c), (.int .i64 ta), (.bool tv), (.int .i64 tk), (.int .u64 tb), (.int .i64 tc), (.int .u64 to), (.int .u64 tn)] et true, .tail off .u64 l g_]).low (.int .u64 (tAns l ta tv)) (effK (mkH [.cells [(.int .i64 1), (.int .i64 64), (.int .i64 1), (.int .i64 64)] e false, .cells [(.slice (some ⟨2, off, none⟩) n c), (.int .i64 ta), (.bool tv), (.int .i64 tk), (.int .u64 tb), (.int .i64 tc), (.int .u64 to), (.int .u64 tn)] et true, .tail off .u64 l g_]) [(1, .cells [.slice (some ⟨2, off, none⟩) n c, (.int .i64 (tAt l ta tv)), (.bool (tOv l ta tv)), (.int .i64 (tF l ta tv xk tk)), (.int .u64 (tF l ta tv xb tb)), (.int .i64 (tF l ta tv xc tc)), (.int .u64 (tF l ta tv xo to)), (.int .u64 (tF l ta tv xn tn))] et true)] []).low := by
  rcases Bool.eq_false_or_eq_true tv with hv0 | hv0
  · have e1 : tAns l ta tv = 0 := by rw [hv0]; rfl
    have e2 : tAt l ta tv = ta := by rw [hv0]; rfl
    have e3 : tOv l ta tv = true := by rw [hv0]; rfl
    have e4 : ∀ x y : Int, tF l ta tv x y = y := fun x y => by rw [hv0]; rfl
    rw [e1, e2, e3, e4, e4, e4, e4, e4]
    refine EndsR.does Tryd.func51 BDr_is (by rw [oneVar]; exact Nat.le_add_left _ _) ?_
    show Gets Tryd.prog (KH.low ⟨3, 1, [(0, 0, .cells [(.int .i64 1), (.int .i64 64), (.int .i64 1), (.int .i64 64)] e false), (1, 0, .cells [(.slice (some ⟨2, off, none⟩) n c), (.int .i64 ta), (.bool tv), (.int .i64 tk), (.int .u64 tb), (.int .i64 tc), (.int .u64 to), (.int .u64 tn)] et true), (2, 0, .tail off .u64 l g_)]⟩) BDr (KSt.low (DrS0 xk xb xc xo xn e off n c ta tv tk tb tc to tn et l g_)) _
    exact Dro hv0 (EndsR.ret (l := [.int .u64 0]) (by kernel_rfl) rfl (Fits.p1 (by kernel_rfl) (by kernel_rfl) (Nat.le_refl _)))
  · by_cases h1 : ta < (n : Int)
    · have hv : tLv l ta = true := decide_eq_true (by rw [hl]; exact h1)
      have e1 : tAns l ta tv = l.getD ta.toNat 0 := by unfold tAns; rw [hv0, hv]; rfl
      have e2 : tAt l ta tv = ta + 1 := by unfold tAt; rw [hv0, hv]; rfl
      have e3 : tOv l ta tv = false := by unfold tOv; rw [hv0, hv]; rfl
      have e4 : ∀ x y : Int, tF l ta tv x y = y := fun x y => by unfold tF; rw [hv0, hv]; rfl
      rw [e1, e2, e3, e4, e4, e4, e4, e4]
      refine EndsR.does Tryd.func51 BDr_is (by rw [oneVar]; exact Nat.le_add_left _ _) ?_
      show Gets Tryd.prog (KH.low ⟨3, 1, [(0, 0, .cells [(.int .i64 1), (.int .i64 64), (.int .i64 1), (.int .i64 64)] e false), (1, 0, .cells [(.slice (some ⟨2, off, none⟩) n c), (.int .i64 ta), (.bool tv), (.int .i64 tk), (.int .u64 tb), (.int .i64 tc), (.int .u64 to), (.int .u64 tn)] et true), (2, 0, .tail off .u64 l g_)]⟩) BDr (KSt.low (DrS0 xk xb xc xo xn e off n c ta tv tk tb tc to tn et l g_)) _
      exact Drl hv0 h0 h1 hl hb (EndsR.ret (l := [.int .u64 (l.getD (Int.toNat ta) 0)]) (by kernel_rfl) rfl (Fits.p1 (by kernel_rfl) (by kernel_rfl) (Nat.le_refl _)))
    · have hv : tLv l ta = false := decide_eq_false (by rw [hl]; exact h1)
      have e1 : tAns l ta tv = 0 := by unfold tAns; rw [hv0, hv]; rfl
      have e2 : tAt l ta tv = ta := by unfold tAt; rw [hv0, hv]; rfl
      have e3 : tOv l ta tv = true := by unfold tOv; rw [hv0, hv]; rfl
      have e4 : ∀ x y : Int, tF l ta tv x y = x := fun x y => by unfold tF; rw [hv0, hv]; rfl
      rw [e1, e2, e3, e4, e4, e4, e4, e4]
      refine EndsR.does Tryd.func51 BDr_is (by rw [oneVar]; exact Nat.le_add_left _ _) ?_
      show Gets Tryd.prog (KH.low ⟨3, 1, [(0, 0, .cells [(.int .i64 1), (.int .i64 64), (.int .i64 1), (.int .i64 64)] e false), (1, 0, .cells [(.slice (some ⟨2, off, none⟩) n c), (.int .i64 ta), (.bool tv), (.int .i64 tk), (.int .u64 tb), (.int .i64 tc), (.int .u64 to), (.int .u64 tn)] et true), (2, 0, .tail off .u64 l g_)]⟩) BDr (KSt.low (DrS0 xk xb xc xo xn e off n c ta tv tk tb tc to tn et l g_)) _
      exact Dre hv0 h1 (EndsR.ret (l := [.int .u64 0]) (by kernel_rfl) rfl (Fits.p1 (by kernel_rfl) (by kernel_rfl) (Nat.le_refl _)))
theorem do0_does (e : TypeId) (et : TypeId) (ta : Int) (tv : Bool) (tk tb tc to tn xk xb xc xo xn : Int) (h0 : 0 ≤ ta) : DoesC Tryd.prog 51 [.pointer (some ⟨1, 0, none⟩), .agg ⟨[.int .i64 xk, .int .u64 xb, .int .i64 xc, .int .u64 xo, .int .u64 xn]⟩] (mkH [.cells [(.int .i64 1), (.int .i64 64), (.int .i64 1), (.int .i64 64)] e false, .cells [(.slice (some ⟨0, 0, some 0⟩) 0 0), (.int .i64 ta), (.bool tv), (.int .i64 tk), (.int .u64 tb), (.int .i64 tc), (.int .u64 to), (.int .u64 tn)] et true]).low (.int .u64 (tAns [] ta tv)) (effK (mkH [.cells [(.int .i64 1), (.int .i64 64), (.int .i64 1), (.int .i64 64)] e false, .cells [(.slice (some ⟨0, 0, some 0⟩) 0 0), (.int .i64 ta), (.bool tv), (.int .i64 tk), (.int .u64 tb), (.int .i64 tc), (.int .u64 to), (.int .u64 tn)] et true]) [(1, .cells [slice0V, (.int .i64 (tAt [] ta tv)), (.bool (tOv [] ta tv)), (.int .i64 (tF [] ta tv xk tk)), (.int .u64 (tF [] ta tv xb tb)), (.int .i64 (tF [] ta tv xc tc)), (.int .u64 (tF [] ta tv xo to)), (.int .u64 (tF [] ta tv xn tn))] et true)] []).low := by
  rcases Bool.eq_false_or_eq_true tv with hv0 | hv0
  · have e1 : tAns [] ta tv = 0 := by rw [hv0]; rfl
    have e2 : tAt [] ta tv = ta := by rw [hv0]; rfl
    have e3 : tOv [] ta tv = true := by rw [hv0]; rfl
    have e4 : ∀ x y : Int, tF [] ta tv x y = y := fun x y => by rw [hv0]; rfl
    rw [e1, e2, e3, e4, e4, e4, e4, e4]
    refine EndsR.does Tryd.func51 BD0_is (by rw [oneVar]; exact Nat.le_add_left _ _) ?_
    show Gets Tryd.prog (KH.low ⟨2, 1, [(0, 0, .cells [(.int .i64 1), (.int .i64 64), (.int .i64 1), (.int .i64 64)] e false), (1, 0, .cells [(.slice (some ⟨0, 0, some 0⟩) 0 0), (.int .i64 ta), (.bool tv), (.int .i64 tk), (.int .u64 tb), (.int .i64 tc), (.int .u64 to), (.int .u64 tn)] et true)]⟩) BD0 (KSt.low (D0S0 xk xb xc xo xn e ta tv tk tb tc to tn et)) _
    exact D0o hv0 (EndsR.ret (l := [.int .u64 0]) (by kernel_rfl) rfl (Fits.p1 (by kernel_rfl) (by kernel_rfl) (Nat.le_refl _)))
  · have hv : tLv [] ta = false := decide_eq_false (by show ¬ ta < 0; omega)
    have e1 : tAns [] ta tv = 0 := by unfold tAns; rw [hv0, hv]; rfl
    have e2 : tAt [] ta tv = ta := by unfold tAt; rw [hv0, hv]; rfl
    have e3 : tOv [] ta tv = true := by unfold tOv; rw [hv0, hv]; rfl
    have e4 : ∀ x y : Int, tF [] ta tv x y = x := fun x y => by unfold tF; rw [hv0, hv]; rfl
    rw [e1, e2, e3, e4, e4, e4, e4, e4]
    refine EndsR.does Tryd.func51 BD0_is (by rw [oneVar]; exact Nat.le_add_left _ _) ?_
    show Gets Tryd.prog (KH.low ⟨2, 1, [(0, 0, .cells [(.int .i64 1), (.int .i64 64), (.int .i64 1), (.int .i64 64)] e false), (1, 0, .cells [(.slice (some ⟨0, 0, some 0⟩) 0 0), (.int .i64 ta), (.bool tv), (.int .i64 tk), (.int .u64 tb), (.int .i64 tc), (.int .u64 to), (.int .u64 tn)] et true)]⟩) BD0 (KSt.low (D0S0 xk xb xc xo xn e ta tv tk tb tc to tn et)) _
    exact D0e hv0 (by omega) (EndsR.ret (l := [.int .u64 0]) (by kernel_rfl) rfl (Fits.p1 (by kernel_rfl) (by kernel_rfl) (Nat.le_refl _)))
noncomputable def rc_tDo (tAns : List Int → Int → Bool → Int) (tAt : List Int → Int → Bool → Int) (tF : List Int → Int → Bool → Int → Int → Int) (tOv : List Int → Int → Bool → Bool) : RC := ⟨[.tape, .val], fun avs => match avs with | [.tape l [.int .i64 ta, .bool tv, .int .i64 tk, .int .u64 tb, .int .i64 tc, .int .u64 to, .int .u64 tn] sl e, .val x] => actOk x && (decide (0 ≤ ta) && Nat.ble (List.length l) 1000) | _ => false,
  fun N avs => match avs with | [.tape l [.int .i64 ta, .bool tv, .int .i64 tk, .int .u64 tb, .int .i64 tc, .int .u64 to, .int .u64 tn] sl e, .val x] => (.int .u64 (tAns l ta tv), [(1, .cells [sl, (.int .i64 (tAt l ta tv)), (.bool (tOv l ta tv)), (.int .i64 (tF l ta tv (actFk x) tk)), (.int .u64 (tF l ta tv (actFb x) tb)), (.int .i64 (tF l ta tv (actFc x) tc)), (.int .u64 (tF l ta tv (actFo x) to)), (.int .u64 (tF l ta tv (actFn x) tn))] e true)], []) | _ => (.bool false, [], [])⟩
theorem rc_tDo_does : RcDoes Tryd.prog varL 51 (rc_tDo tAns tAt tF tOv) := by
  intro vb avs args blks hv hs hp
  obtain ⟨e0, rfl⟩ := var1 hv
  cases hs with
  | tape0 more e hpm hs =>
    cases hs with
    | val x hp_x hs =>
      cases hs
      unfold rc_tDo at hp
      dsimp only at hp
      split at hp
      case h_2 => cases hp
      rename_i heq
      cases heq
      simp only [Bool.and_eq_true, decide_eq_true_eq] at hp
      obtain ⟨hk, h0, hb⟩ := hp
      have hb := Nat.le_of_ble_eq_true hb
      unfold actOk at hk
      split at hk
      · exact do0_does e0 _ _ _ _ _ _ _ _ _ _ _ _ _ h0
      · cases hk
  | tape off_l n_l c_l l more e e_l hl_l hpm hs =>
    cases hs with
    | val x hp_x hs =>
      cases hs
      unfold rc_tDo at hp
      dsimp only at hp
      split at hp
      case h_2 => cases hp
      rename_i heq
      cases heq
      simp only [Bool.and_eq_true, decide_eq_true_eq] at hp
      obtain ⟨hk, h0, hb⟩ := hp
      have hb := Nat.le_of_ble_eq_true hb
      unfold actOk at hk
      split at hk
      · exact do_does e0 _ off_l n_l c_l l e_l _ _ _ _ _ _ _ _ _ _ _ _ hl_l (by omega) h0
      · cases hk
end Go.Proofs.YtfhfbbhoppnbiaaDoor
