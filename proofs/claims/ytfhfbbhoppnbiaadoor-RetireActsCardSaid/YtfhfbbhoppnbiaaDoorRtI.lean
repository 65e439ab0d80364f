import Derived.Test.YtfhfbbhoppnbiaaDoorRtH
import Derived.WalkKit
import Derived.ProofKit
import Derived.OpenShut
import Derived.ChangeOld
import Derived.Below
import Derived.SizedLaws
namespace Go.Proofs.YtfhfbbhoppnbiaaDoor
open Go.Eng
open Go.ChangeShapes Go.WideShapes Go.ChangeAt Go.RowKit
set_option linter.unusedVariables false
set_option linter.unusedSimpArgs false
set_option maxRecDepth 100000
noncomputable def cfgI : Cfg := ⟨[]⟩
noncomputable def fsI : List FuncId := [43]
theorem fitI : Fit Tryd.prog cfgI fsI := ⟨by kernel_rfl, Cfg.ok_of (by kernel_rfl), by kernel_rfl⟩
noncomputable def BHa : Code := bodyOf Tryd.prog 43
theorem BHa_is : Tryd.f43.body = some BHa := by kernel_rfl
noncomputable abbrev HaH (e : TypeId) (off : Nat) (l : List Int) (g_ : TypeId) : AH := (KH.low ⟨2, 1, [(0, 0, .cells [(.int .i64 1), (.int .i64 64), (.int .i64 1), (.int .i64 64)] e false), (1, 0, .tail off .u64 l g_)]⟩)
noncomputable abbrev HaEA (c : Code) (lv p : List Nat) (st : Option (List Nat)) (ws : List Bool) (s : KSt) : Option Rs := evA (evCK Tryd.prog cfgI (runK Tryd.prog cfgI fsI noT 14 40) 14) (stopW 2 lv) p c st ws s (finW 2 lv)
theorem Hato {c_ : Code} {lv_ p_ p2_ : List Nat} {ws_ : List Bool} {st_ s' : KSt} {Q : Ex → St → Prop} {e : TypeId} {off : Nat} {l : List Int} {g_ : TypeId} (hE_ : HaEA c_ lv_ p_ (some p2_) ws_ st_ = some (.stop s')) (hq_ : AtW Tryd.prog (HaH e off l g_) c_ p2_ s' Q) (hok_ : okCode Tryd.prog.globals.size c_ = true := by kernel_rfl) : AtW Tryd.prog (HaH e off l g_) c_ p_ st_ Q := AtW.to fitI SoundC.no AgreeT.no 14 40 hok_ hE_ hq_
theorem Hafi {c_ : Code} {lv_ p_ : List Nat} {ws_ : List Bool} {st_ s' : KSt} {x : Ex} {Q : Ex → St → Prop} {e : TypeId} {off : Nat} {l : List Int} {g_ : TypeId} (hE_ : HaEA c_ lv_ p_ none ws_ st_ = some (.fin x s')) (hq_ : Q x s'.low) (hok_ : okCode Tryd.prog.globals.size c_ = true := by kernel_rfl) : AtW Tryd.prog (HaH e off l g_) c_ p_ st_ Q := AtW.fin fitI SoundC.no AgreeT.no 14 40 hok_ hE_ hq_
theorem HaC1_0_1 : (codeAt [1, 0, 1] BHa) = .block 0 (codeAt [1, 0, 1, 0] BHa) := by kernel_rfl
theorem HaC1_0_1_0 : (codeAt [1, 0, 1, 0] BHa) = .loop (codeAt [1, 0, 1, 0, 0] BHa) := by kernel_rfl
section
variable (off n c : Nat) (w : Int) (e : TypeId) (l : List Int) (g_ : TypeId) (i : Nat)
noncomputable abbrev HaO0 (e : TypeId) : KObj := .cells [(.int .i64 1), (.int .i64 64), (.int .i64 1), (.int .i64 64)] e false
noncomputable def HaS0 : KSt := (firstK [(.slice (some ⟨1, off, none⟩) n c), (.int .u64 w)] 18 ⟨2, 1, [(0, 0, (HaO0 e)), (1, 0, .tail off .u64 l g_)]⟩)
noncomputable def HaS1 : KSt := ⟨(frameL 18 [(0, (.slice (some ⟨1, off, none⟩) n c)), (1, (.int .u64 w)), (5, (.int .i64 0))]), ⟨2, 1, [(0, 0, (HaO0 e)), (1, 0, .tail off .u64 l g_)]⟩⟩
theorem HaW1 : HaEA BHa [0, 1, 5] [] (some [1, 0, 1]) [] (HaS0 off n c w e l g_) =
  some (.stop (HaS1 off n c w e l g_)) := by kernel_rfl
noncomputable def HaS2 : KSt := ⟨(frameL 18 [(0, (.slice (some ⟨1, off, none⟩) n c)), (1, (.int .u64 w)), (5, (.int .i64 ((i : Nat) : Int)))]), ⟨2, 1, [(0, 0, (HaO0 e)), (1, 0, .tail off .u64 l g_)]⟩⟩
theorem HaW2 : HaEA (codeAt [1, 0, 1, 0, 0] BHa) [0, 1, 5, 17] [] (some [1, 0, 0, 1]) [true, false] (HaS2 off n c w e l g_ i) =
  bif (decide (((i : Nat) : Int) < ((n : Nat) : Int))) then
    if 0 ≤ ((i : Nat) : Int) ∧ ((i : Nat) : Int) < ((n : Nat) : Int) then
      bif (Nat.ble off (off + ((Int.toNat ((i : Nat) : Int)) * 1))) then
        obind (l[((off + ((Int.toNat ((i : Nat) : Int)) * 1)) - off)]?) fun zn1 =>
          some (.stop ⟨(frameL 18 [(0, (.slice (some ⟨1, off, none⟩) n c)), (1, (.int .u64 w)), (5, (.int .i64 ((i : Nat) : Int))), (17, (.bool (zn1 == w)))]), ⟨2, 1, [(0, 0, .cells [(.int .i64 1), (.int .i64 64), (.int .i64 1), (.int .i64 64)] e false), (1, 0, .tail off .u64 l g_)]⟩⟩)
      else
        none
    else
      none
  else
    none := by kernel_rfl
noncomputable def HaS3 : KSt := ⟨(frameL 18 [(0, (.slice (some ⟨1, off, none⟩) n c)), (1, (.int .u64 w)), (5, (.int .i64 ((i : Nat) : Int))), (17, (.bool ((l.getD i 0) == w)))]), ⟨2, 1, [(0, 0, (HaO0 e)), (1, 0, .tail off .u64 l g_)]⟩⟩
theorem HaW3 : HaEA (codeAt [1, 0, 1, 0, 0] BHa) [0, 1, 5] [1, 0, 0, 1] none [false] (HaS3 off n c w e l g_ i) =
  bif ((l.getD i 0) == w) then
    none
  else
    some (.fin .normal ⟨(frameL 18 [(0, (.slice (some ⟨1, off, none⟩) n c)), (1, (.int .u64 w)), (5, (.int .i64 (IntKind.wrap .i64 (((i : Nat) : Int) + 1))))]), ⟨2, 1, [(0, 0, .cells [(.int .i64 1), (.int .i64 64), (.int .i64 1), (.int .i64 64)] e false), (1, 0, .tail off .u64 l g_)]⟩⟩) := by kernel_rfl
noncomputable def HaS4 : KSt := ⟨(frameL 18 [(0, (.slice (some ⟨1, off, none⟩) n c)), (1, (.int .u64 w)), (5, (.int .i64 (((i : Nat) : Int) + 1)))]), ⟨2, 1, [(0, 0, (HaO0 e)), (1, 0, .tail off .u64 l g_)]⟩⟩
noncomputable def HaS5 : KSt := ⟨(frameL 18 [(4, (.bool true))]), ⟨2, 1, [(0, 0, (HaO0 e)), (1, 0, .tail off .u64 l g_)]⟩⟩
theorem HaW4 : HaEA (codeAt [1, 0, 1, 0, 0] BHa) [4] [1, 0, 0, 1] none [true] (HaS3 off n c w e l g_ i) =
  bif ((l.getD i 0) == w) then
    some (.fin .ret (HaS5 off e l g_))
  else
    none := by kernel_rfl
noncomputable def HaS6 : KSt := ⟨(frameL 18 []), ⟨2, 1, [(0, 0, (HaO0 e)), (1, 0, .tail off .u64 l g_)]⟩⟩
theorem HaW5 : HaEA (codeAt [1, 0, 1, 0, 0] BHa) [] [] none [false] (HaS2 off n c w e l g_ i) =
  bif (decide (((i : Nat) : Int) < ((n : Nat) : Int))) then
    none
  else
    some (.fin (.exit 0) (HaS6 off e l g_)) := by kernel_rfl
noncomputable def HaS7 : KSt := ⟨(frameL 18 [(4, (.bool false))]), ⟨2, 1, [(0, 0, (HaO0 e)), (1, 0, .tail off .u64 l g_)]⟩⟩
theorem HaW6 : HaEA (codeAt [1, 1] BHa) [4] [] none [] (HaS6 off e l g_) =
  some (.fin .ret (HaS7 off e l g_)) := by kernel_rfl
end
theorem Hain {e : TypeId} {off : Nat} {l : List Int} {g_ : TypeId} {n c : Nat} {w : Int}   {Q : Ex → St → Prop} (hq : Gets Tryd.prog (HaH e off l g_) (codeAt [1, 0, 1] BHa) (KSt.low (HaS1 off n c w e l g_)) (onN (fun s => Gets Tryd.prog (HaH e off l g_) (codeAt [1, 1] BHa) s (Q)) (Q))) : Gets Tryd.prog (HaH e off l g_) BHa (KSt.low (HaS0 off n c w e l g_)) Q := by
  refine AtW.gets ?_
  refine Hato (HaW1 ..) ?_
  exact AtW.place hq
theorem Hab {l : List Int} {n i : Nat} {w : Int} {off c : Nat} {e g_ : TypeId} (hl : l.length = n) (hb : n ≤ 1000) (hi : i < n) (hw : ¬ l.getD i 0 = w)   {Q : Ex → St → Prop} (hq : Q .normal (KSt.low (HaS4 off n c w e l g_ i))) : Gets Tryd.prog (HaH e off l g_) (codeAt [1, 0, 1, 0, 0] BHa) (KSt.low (HaS2 off n c w e l g_ i)) Q := by
  refine AtW.gets ?_
  refine Hato (s' := (HaS3 off n c w e l g_ i)) ((HaW2 ..).trans (by rw [dT, iP, lT, obind_at (k := ((Int.toNat ((i : Nat) : Int)) * 1)) (by omega) (by omega), (show (l.getD ((Int.toNat ((i : Nat) : Int)) * 1) 0) = (l.getD i 0) from by rw [Nat.mul_one]; rfl)] <;> rfl)) ?_
  exact Hafi (x := .normal) (s' := (HaS4 off n c w e l g_ i)) ((HaW3 ..).trans (by rw [eF, (show (IntKind.wrap .i64 (((i : Nat) : Int) + 1)) = (((i : Nat) : Int) + 1) from wi)] <;> rfl)) hq
theorem Haf {l : List Int} {n i : Nat} {w : Int} {off : Nat} {e g_ : TypeId} {c : Nat} (hl : l.length = n) (hb : n ≤ 1000) (hi : i < n) (hw : l.getD i 0 = w)   {Q : Ex → St → Prop} (hq : Q .ret (KSt.low (HaS5 off e l g_))) : Gets Tryd.prog (HaH e off l g_) (codeAt [1, 0, 1, 0, 0] BHa) (KSt.low (HaS2 off n c w e l g_ i)) Q := by
  refine AtW.gets ?_
  refine Hato (s' := (HaS3 off n c w e l g_ i)) ((HaW2 ..).trans (by rw [dT, iP, lT, obind_at (k := ((Int.toNat ((i : Nat) : Int)) * 1)) (by omega) (by omega), (show (l.getD ((Int.toNat ((i : Nat) : Int)) * 1) 0) = (l.getD i 0) from by rw [Nat.mul_one]; rfl)] <;> rfl)) ?_
  exact Hafi ((HaW4 ..).trans (by rw [eT])) hq
theorem Hax {n i off : Nat} {e : TypeId} {l : List Int} {g_ : TypeId} {c : Nat} {w : Int} (hi : n ≤ i)   {Q : Ex → St → Prop} (hq : Q (.exit 0) (KSt.low (HaS6 off e l g_))) : Gets Tryd.prog (HaH e off l g_) (codeAt [1, 0, 1, 0, 0] BHa) (KSt.low (HaS2 off n c w e l g_ i)) Q := by
  refine AtW.gets ?_
  exact Hafi ((HaW5 ..).trans (by rw [dF])) hq
theorem Hae {off : Nat} {e : TypeId} {l : List Int} {g_ : TypeId}   {Q : Ex → St → Prop} (hq : Q .ret (KSt.low (HaS7 off e l g_))) : Gets Tryd.prog (HaH e off l g_) (codeAt [1, 1] BHa) (KSt.low (HaS6 off e l g_)) Q := by
  refine AtW.gets ?_
  exact Hafi (HaW6 ..) hq
noncomputable def BHz : Code := bodyOf Tryd.prog 43
theorem BHz_is : Tryd.f43.body = some BHz := by kernel_rfl
noncomputable abbrev HzH (e : TypeId) : AH := (KH.low ⟨1, 1, [(0, 0, .cells [(.int .i64 1), (.int .i64 64), (.int .i64 1), (.int .i64 64)] e false)]⟩)
noncomputable abbrev HzEA (c : Code) (lv p : List Nat) (st : Option (List Nat)) (ws : List Bool) (s : KSt) : Option Rs := evA (evCK Tryd.prog cfgI (runK Tryd.prog cfgI fsI noT 14 40) 14) (stopW 1 lv) p c st ws s (finW 1 lv)
theorem Hzfi {c_ : Code} {lv_ p_ : List Nat} {ws_ : List Bool} {st_ s' : KSt} {x : Ex} {Q : Ex → St → Prop} {e : TypeId} (hE_ : HzEA c_ lv_ p_ none ws_ st_ = some (.fin x s')) (hq_ : Q x s'.low) (hok_ : okCode Tryd.prog.globals.size c_ = true := by kernel_rfl) : AtW Tryd.prog (HzH e) c_ p_ st_ Q := AtW.fin fitI SoundC.no AgreeT.no 14 40 hok_ hE_ hq_
section
variable (w : Int) (e : TypeId)
noncomputable def HzS0 : KSt := (firstK [(.slice (some ⟨0, 0, some 0⟩) 0 0), (.int .u64 w)] 18 ⟨1, 1, [(0, 0, .cells [(.int .i64 1), (.int .i64 64), (.int .i64 1), (.int .i64 64)] e false)]⟩)
noncomputable def HzS1 : KSt := ⟨(frameL 18 [(4, (.bool false))]), ⟨1, 1, [(0, 0, .cells [(.int .i64 1), (.int .i64 64), (.int .i64 1), (.int .i64 64)] e false)]⟩⟩
theorem HzW1 : HzEA BHz [4] [] none [true] (HzS0 w e) =
  some (.fin .ret (HzS1 e)) := by kernel_rfl
end
theorem Hzz {e : TypeId} {w : Int}   {Q : Ex → St → Prop} (hq : Q .ret (KSt.low (HzS1 e))) : Gets Tryd.prog (HzH e) BHz (KSt.low (HzS0 w e)) Q := by
  refine AtW.gets ?_
  exact Hzfi (HzW1 ..) hq
def hasW (l : List Int) (w : Int) : Bool := decide (w ∈ l)
theorem hasW_t {l : List Int} {i : Nat} {w : Int} (hi : i < l.length) (hw : l.getD i 0 = w) : hasW l w = true := by
  refine decide_eq_true ?_
  rw [List.getD_eq_getElem?_getD, List.getElem?_eq_getElem hi] at hw
  rw [← hw]
  exact List.getElem_mem hi
theorem hasW_f {l : List Int} {w : Int} (h : ∀ j, j < l.length → ¬ l.getD j 0 = w) : hasW l w = false := by
  refine decide_eq_false fun hm => ?_
  obtain ⟨j, hj, e⟩ := List.getElem_of_mem hm
  refine h j hj ?_
  rw [List.getD_eq_getElem?_getD, List.getElem?_eq_getElem hj]; exact e
inductive HasInv (off : Nat) (n : Nat) (c : Nat) (w : Int) (e : TypeId) (l : List Int) (g_ : TypeId) : Nat → KSt → Prop
  | s (i : Nat) (hi : i ≤ n) (h : ∀ j, j < i → ¬ l.getD j 0 = w) : HasInv off n c w e l g_ (n - i) (HaS2 off n c w e l g_ i)
theorem has_does (e : TypeId) (off n c : Nat) (l : List Int) (g_ : TypeId) (w : Int) (hl : l.length = n) (hb : n ≤ 1000) : DoesC Tryd.prog 43 [(.slice (some ⟨1, off, none⟩) n c), (.int .u64 w)] (mkH [.cells [(.int .i64 1), (.int .i64 64), (.int .i64 1), (.int .i64 64)] e false, .tail off .u64 l g_]).low ((.bool (hasW l w))) (effK (mkH [.cells [(.int .i64 1), (.int .i64 64), (.int .i64 1), (.int .i64 64)] e false, .tail off .u64 l g_]) [] []).low := by
  refine EndsR.does Tryd.func43 BHa_is (by rw [oneVar]; exact Nat.le_add_left _ _) ?_
  show Gets Tryd.prog (KH.low ⟨2, 1, [(0, 0, .cells [(.int .i64 1), (.int .i64 64), (.int .i64 1), (.int .i64 64)] e false), (1, 0, .tail off .u64 l g_)]⟩) BHa (KSt.low (HaS0 off n c w e l g_)) _
  refine Hain ?_
  suffices hs : ∀ m t_, HasInv off n c w e l g_ m t_ → Gets Tryd.prog (KH.low ⟨2, 1, [(0, 0, .cells [(.int .i64 1), (.int .i64 64), (.int .i64 1), (.int .i64 64)] e false), (1, 0, .tail off .u64 l g_)]⟩) (codeAt [1, 0, 1] BHa) t_.low (onN (fun s => Gets Tryd.prog (HaH e off l g_) (codeAt [1, 1] BHa) s ((EndsR Tryd.prog Tryd.f43 (.bool (hasW l w)) [.cells [(.int .i64 1), (.int .i64 64), (.int .i64 1), (.int .i64 64)] e false, .tail off .u64 l g_] [] []))) ((EndsR Tryd.prog Tryd.f43 (.bool (hasW l w)) [.cells [(.int .i64 1), (.int .i64 64), (.int .i64 1), (.int .i64 64)] e false, .tail off .u64 l g_] [] []))) from hs (n - 0) (HaS2 off n c w e l g_ (0)) (.s 0 (Nat.zero_le _) fun j h => absurd h (Nat.not_lt_zero _))
  intro m t_ hI
  rw [HaC1_0_1, HaC1_0_1_0]
  refine Gets.loopG (fun m t_ => HasInv off n c w e l g_ m t_) ?_ _ _ hI
  clear hI m t_
  intro m t_ hI
  cases hI with
  | s i hi hj =>
    by_cases hlt : i < n
    · by_cases hw : l.getD i 0 = w
      · rw [hasW_t (by omega) hw]
        refine Haf hl hb hlt hw ?_
        exact (EndsR.ret (l := [.bool true]) (by kernel_rfl) rfl (Fits.n0 rfl rfl (Nat.le_refl _)))
      · refine Hab hl hb hlt hw ?_
        exact ⟨n - (i + 1), _, by omega, rfl, .s (i + 1) (by omega) fun j h => by
          by_cases e : j = i
          · rw [e]; exact hw
          · exact hj j (by omega)⟩
    · have e : i = n := by omega
      rw [hasW_f fun j h => hj j (by omega)]
      refine Hax (by omega) ?_
      exact ⟨fun _ => Hae (EndsR.ret (l := [.bool false]) (by kernel_rfl) rfl (Fits.n0 rfl rfl (Nat.le_refl _))), fun h => by cases h⟩
theorem has0_does (e : TypeId) (w : Int) : DoesC Tryd.prog 43 [(.slice (some ⟨0, 0, some 0⟩) 0 0), (.int .u64 w)] (mkH [.cells [(.int .i64 1), (.int .i64 64), (.int .i64 1), (.int .i64 64)] e false]).low ((.bool (hasW [] w))) (effK (mkH [.cells [(.int .i64 1), (.int .i64 64), (.int .i64 1), (.int .i64 64)] e false]) [] []).low := by
  refine EndsR.does Tryd.func43 BHz_is (by rw [oneVar]; exact Nat.le_add_left _ _) ?_
  show Gets Tryd.prog (KH.low ⟨1, 1, [(0, 0, .cells [(.int .i64 1), (.int .i64 64), (.int .i64 1), (.int .i64 64)] e false)]⟩) BHz (KSt.low (HzS0 w e)) _
  rw [show hasW [] w = false from decide_eq_false (by simp)]
  exact Hzz (EndsR.ret (l := [.bool false]) (by kernel_rfl) rfl (Fits.n0 rfl rfl (Nat.le_refl _)))
noncomputable def rc_rHas (hasW : List Int → Int → Bool) : RC := ⟨[.row .u64, .int .u64], fun avs => match avs with | [.row l, .int w] => (Nat.ble (List.length l) 1000) | _ => false,
  fun N avs => match avs with | [.row l, .int w] => ((.bool (hasW l w)), [], []) | _ => (.bool false, [], [])⟩
theorem rc_rHas_does : RcDoes Tryd.prog varL 43 (rc_rHas hasW) := by
  intro vb avs args blks hv hs hp
  obtain ⟨e0, rfl⟩ := var1 hv
  cases hs with
  | row0 hs =>
    cases hs with
    | int w hs =>
      cases hs
      exact has0_does e0 w
  | row off_l n_l c_l l e_l hl_l hs =>
    cases hs with
    | int w hs =>
      cases hs
      have hp : Nat.ble l.length 1000 = true := hp
      exact has_does e0 off_l n_l c_l l e_l w hl_l (by have := Nat.le_of_ble_eq_true hp; omega)
end Go.Proofs.YtfhfbbhoppnbiaaDoor
