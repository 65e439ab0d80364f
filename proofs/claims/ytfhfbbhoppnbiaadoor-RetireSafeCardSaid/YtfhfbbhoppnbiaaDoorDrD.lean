import Derived.Test.YtfhfbbhoppnbiaaDoorDrC
import Derived.WalkKit
import Derived.ProofKit
import Derived.OpenShut
import Derived.ChangeOld
import Derived.Below
import Derived.SizedLaws
namespace Go.Proofs.YtfhfbbhoppnbiaaDoor
open Go.Eng
open Go.ChangeShapes Go.WideShapes Go.ChangeAt Go.RowKit
set_option linter.unusedVariables false
set_option linter.unusedSimpArgs false
set_option maxRecDepth 100000
theorem szw {n : Int} (h1 : 1 ≤ n) (h2 : n ≤ 64) : IntKind.wrap .i64 (2 + IntKind.wrap .i64 (2 * n)) = 2 + (2 * n) := by
  rw [wrap_i64_id (n := 2 * n) (by omega) (by omega), wrap_i64_id (by omega) (by omega)]
def fieldS (n : Int) : Nat → ArSt
  | 0 => ArSt.alloc (ArSt.mk 300 0 0 0 []) (2 + (2 * n))
  | m + 1 => ArSt.alloc (fieldS n m) 1
noncomputable def cfgFi : Cfg := ⟨[32]⟩
noncomputable def fsFi : List FuncId := [13, 26, 27, 28, 40]
theorem fitFi : Fit Tryd.prog cfgFi fsFi := ⟨by kernel_rfl, Cfg.ok_of (by kernel_rfl), by kernel_rfl⟩
noncomputable def fiT : RTab := fun f => match f with
  | 26 => some rc_arena_New
  | 27 => some rc_arena_Arena_Alloc
  | _ => none
def fiDom : List FuncId := [26, 27]
theorem fi_does : ∀ f rc, f ∈ fiDom → fiT f = some rc → RcDoes Tryd.prog varL f rc := by
  intro f rc hf hT
  simp only [fiDom, List.mem_cons, List.not_mem_nil, or_false] at hf
  rcases hf with rfl | rfl
  · cases hT; exact rc_arena_New_does
  · cases hT; exact rc_arena_Arena_Alloc_does
theorem fi_fn : ∀ f ∈ fiDom, FnOk Tryd.prog f := fun f hf => fitFi.fnOk f (by
    have h0 : (fiDom.all fun f => fsFi.contains f) = true := by kernel_rfl
    simpa using List.all_eq_true.1 h0 f hf)
theorem fi_sound : SoundC Tryd.prog (conC fiDom (rcE varL fiT)) := rc_sound oneVar fi_fn fi_does
noncomputable def BFi : Code := bodyOf Tryd.prog 13
theorem BFi_is : Tryd.f13.body = some BFi := by kernel_rfl
noncomputable abbrev FiH (e : TypeId) : AH := (KH.low ⟨1, 1, [(0, 0, .cells [(.int .i64 1), (.int .i64 64), (.int .i64 1), (.int .i64 64)] e false)]⟩)
noncomputable abbrev FiEA (c : Code) (lv p : List Nat) (st : Option (List Nat)) (ws : List Bool) (s : KSt) : Option Rs := evA (evCK Tryd.prog cfgFi (runK Tryd.prog cfgFi fsFi (conTk fiDom (rcK varL fiT)) 14 40) 14) (stopW 1 lv) p c st ws s (finW 1 lv)
theorem Fito_ {c_ : Code} {lv_ p_ p2_ : List Nat} {ws_ : List Bool} {st_ s' : KSt} {Q : Ex → St → Prop} {e : TypeId} (hE_ : FiEA c_ lv_ p_ (some p2_) ws_ st_ = some (.stop s')) (hq_ : AtW Tryd.prog (FiH e) c_ p2_ s' Q) (hok_ : okCode Tryd.prog.globals.size c_ = true := by kernel_rfl) : AtW Tryd.prog (FiH e) c_ p_ st_ Q := AtW.to fitFi fi_sound (rc_agree _ _ _) 14 40 hok_ hE_ hq_
theorem Fifi_ {c_ : Code} {lv_ p_ : List Nat} {ws_ : List Bool} {st_ s' : KSt} {x : Ex} {Q : Ex → St → Prop} {e : TypeId} (hE_ : FiEA c_ lv_ p_ none ws_ st_ = some (.fin x s')) (hq_ : Q x s'.low) (hok_ : okCode Tryd.prog.globals.size c_ = true := by kernel_rfl) : AtW Tryd.prog (FiH e) c_ p_ st_ Q := AtW.fin fitFi fi_sound (rc_agree _ _ _) 14 40 hok_ hE_ hq_
theorem FiC1_1_1_0_1 : (codeAt [1, 1, 1, 0, 1] BFi) = .block 0 (codeAt [1, 1, 1, 0, 1, 0] BFi) := by kernel_rfl
theorem FiC1_1_1_0_1_0 : (codeAt [1, 1, 1, 0, 1, 0] BFi) = .loop (codeAt [1, 1, 1, 0, 1, 0, 0] BFi) := by kernel_rfl
section
variable (n : Int) (mm : Nat) (e : TypeId) (i : Nat) (S : ArSt)
noncomputable abbrev FiO0 (e : TypeId) : KObj := .cells [(.int .i64 1), (.int .i64 64), (.int .i64 1), (.int .i64 64)] e false
noncomputable def FiS0 : KSt := (firstK [(.int .i64 n), (.int .i64 ((mm : Nat) : Int))] 20 ⟨1, 1, [(0, 0, (FiO0 e))]⟩)
noncomputable def FiS1 : KSt := ⟨(frameL 20 [(1, (.int .i64 ((mm : Nat) : Int))), (5, (.pointer (some ⟨1, 0, none⟩)))]), ⟨2, 1, [(1, 0, .mach (.arena (ArSt.alloc (ArSt.mk 300 0 0 0 []) 0))), (0, 0, (FiO0 e))]⟩⟩
theorem FiW1 : FiEA BFi [1, 5] [] (some [1, 1, 1]) [] (FiS0 n mm e) =
  bif ((decide (1 ≤ 300)) && (decide (300 ≤ 65536))) then
    bif (decide (n ≥ 1)) then
      bif (!(decide (n ≤ 64))) then
        some (.stop (FiS1 mm e))
      else
        some (.stop ⟨(frameL 20 [(1, (.int .i64 ((mm : Nat) : Int))), (5, (.pointer (some ⟨1, 0, none⟩)))]), ⟨2, 1, [(1, 0, .mach (.arena (ArSt.alloc (ArSt.mk 300 0 0 0 []) (IntKind.wrap .i64 (2 + (IntKind.wrap .i64 (2 * n))))))), (0, 0, .cells [(.int .i64 1), (.int .i64 64), (.int .i64 1), (.int .i64 64)] e false)]⟩⟩)
    else
      some (.stop (FiS1 mm e))
  else
    none := by kernel_rfl
noncomputable def FiS2 : KSt := ⟨(frameL 20 [(1, (.int .i64 ((mm : Nat) : Int))), (5, (.pointer (some ⟨1, 0, none⟩)))]), ⟨2, 1, [(1, 0, .mach (.arena (ArSt.alloc (ArSt.mk 300 0 0 0 []) (2 + (2 * n))))), (0, 0, (FiO0 e))]⟩⟩
noncomputable def FiS3 : KSt := ⟨(frameL 20 [(1, (.int .i64 ((mm : Nat) : Int))), (5, (.pointer (some ⟨1, 0, none⟩))), (6, (.int .i64 0))]), ⟨2, 1, [(1, 0, .mach (.arena (ArSt.alloc (ArSt.mk 300 0 0 0 []) (2 + (2 * n))))), (0, 0, (FiO0 e))]⟩⟩
theorem FiW2 : FiEA BFi [1, 5, 6] [1, 1, 1] (some [1, 1, 1, 0, 1]) [] (FiS2 n mm e) =
  some (.stop (FiS3 n mm e)) := by kernel_rfl
noncomputable def FiS4 : KSt := ⟨(frameL 20 [(1, (.int .i64 ((mm : Nat) : Int))), (5, (.pointer (some ⟨1, 0, none⟩))), (6, (.int .i64 ((i : Nat) : Int)))]), ⟨2, 1, [(1, 0, .mach (.arena S)), (0, 0, (FiO0 e))]⟩⟩
theorem FiW3 : FiEA (codeAt [1, 1, 1, 0, 1, 0, 0] BFi) [1, 5, 6] [] none [true, false] (FiS4 mm e i S) =
  bif (decide (((i : Nat) : Int) < ((mm : Nat) : Int))) then
    some (.fin .normal ⟨(frameL 20 [(1, (.int .i64 ((mm : Nat) : Int))), (5, (.pointer (some ⟨1, 0, none⟩))), (6, (.int .i64 (IntKind.wrap .i64 (((i : Nat) : Int) + 1))))]), ⟨2, 1, [(1, 0, .mach (.arena (ArSt.alloc S 1))), (0, 0, .cells [(.int .i64 1), (.int .i64 64), (.int .i64 1), (.int .i64 64)] e false)]⟩⟩)
  else
    none := by kernel_rfl
noncomputable def FiS5 : KSt := ⟨(frameL 20 [(1, (.int .i64 ((mm : Nat) : Int))), (5, (.pointer (some ⟨1, 0, none⟩))), (6, (.int .i64 (((i : Nat) : Int) + 1)))]), ⟨2, 1, [(1, 0, .mach (.arena (ArSt.alloc S 1))), (0, 0, (FiO0 e))]⟩⟩
noncomputable def FiS6 : KSt := ⟨(frameL 20 [(5, (.pointer (some ⟨1, 0, none⟩)))]), ⟨2, 1, [(1, 0, .mach (.arena S)), (0, 0, (FiO0 e))]⟩⟩
theorem FiW4 : FiEA (codeAt [1, 1, 1, 0, 1, 0, 0] BFi) [5] [] none [false] (FiS4 mm e i S) =
  bif (decide (((i : Nat) : Int) < ((mm : Nat) : Int))) then
    none
  else
    some (.fin (.exit 0) (FiS6 e S)) := by kernel_rfl
noncomputable def FiS7 : KSt := ⟨(frameL 20 [(4, (.pointer (some ⟨1, 0, none⟩)))]), ⟨2, 1, [(1, 0, .mach (.arena S)), (0, 0, (FiO0 e))]⟩⟩
theorem FiW5 : FiEA (codeAt [1, 1, 1, 1] BFi) [4] [] none [] (FiS6 e S) =
  some (.fin .ret (FiS7 e S)) := by kernel_rfl
end
theorem Fiin {n : Int} {e : TypeId} {mm : Nat} (h1 : 1 ≤ n) (h2 : n ≤ 8)   {Q : Ex → St → Prop} (hq : Gets Tryd.prog (FiH e) (codeAt [1, 1, 1, 0, 1] BFi) (KSt.low (FiS3 n mm e)) (onN (fun s => Gets Tryd.prog (FiH e) (codeAt [1, 1, 1, 1] BFi) s (Q)) (Q))) : Gets Tryd.prog (FiH e) BFi (KSt.low (FiS0 n mm e)) Q := by
  refine AtW.gets ?_
  refine Fito_ (s' := (FiS2 n mm e)) ((FiW1 ..).trans (by rw [condT (and_t (decide_eq_true (by omega)) (decide_eq_true (by omega))), dT, condF (not_f (decide_eq_true (by omega))), (show (IntKind.wrap .i64 (2 + (IntKind.wrap .i64 (2 * n)))) = (2 + (2 * n)) from szw (by omega) (by omega))] <;> rfl)) ?_
  refine Fito_ (FiW2 ..) ?_
  exact AtW.place hq
theorem Fib {i mm : Nat} {e : TypeId} {S : ArSt} (hi : i < mm) (hm : mm ≤ 19)   {Q : Ex → St → Prop} (hq : Q .normal (KSt.low (FiS5 mm e i S))) : Gets Tryd.prog (FiH e) (codeAt [1, 1, 1, 0, 1, 0, 0] BFi) (KSt.low (FiS4 mm e i S)) Q := by
  refine AtW.gets ?_
  exact Fifi_ (x := .normal) (s' := (FiS5 mm e i S)) ((FiW3 ..).trans (by rw [dT, (show (IntKind.wrap .i64 (((i : Nat) : Int) + 1)) = (((i : Nat) : Int) + 1) from wi)] <;> rfl)) hq
theorem Fix {mm i : Nat} {e : TypeId} {S : ArSt} (hi : mm ≤ i)   {Q : Ex → St → Prop} (hq : Q (.exit 0) (KSt.low (FiS6 e S))) : Gets Tryd.prog (FiH e) (codeAt [1, 1, 1, 0, 1, 0, 0] BFi) (KSt.low (FiS4 mm e i S)) Q := by
  refine AtW.gets ?_
  exact Fifi_ ((FiW4 ..).trans (by rw [dF])) hq
theorem Fie {e : TypeId} {S : ArSt}   {Q : Ex → St → Prop} (hq : Q .ret (KSt.low (FiS7 e S))) : Gets Tryd.prog (FiH e) (codeAt [1, 1, 1, 1] BFi) (KSt.low (FiS6 e S)) Q := by
  refine AtW.gets ?_
  exact Fifi_ (FiW5 ..) hq
inductive FiInv (e : TypeId) (n : Int) (mm : Nat) : Nat → KSt → Prop
  | r (i : Nat) (hi : i ≤ mm) : FiInv e n mm (mm - i) (FiS4 mm e i (fieldS n i))
theorem field_does (e : TypeId) (n : Int) (mm : Nat) (h1 : 1 ≤ n) (h2 : n ≤ 8) (hm : mm ≤ 19) : DoesC Tryd.prog 13 [.int .i64 n, .int .i64 ((mm : Nat) : Int)] (mkH [.cells [(.int .i64 1), (.int .i64 64), (.int .i64 1), (.int .i64 64)] e false]).low (.pointer (some ⟨1, 0, none⟩)) (effK (mkH [.cells [(.int .i64 1), (.int .i64 64), (.int .i64 1), (.int .i64 64)] e false]) [] [.mach (.arena (fieldS n mm))]).low := by
  refine EndsR.does Tryd.func13 BFi_is (by rw [oneVar]; exact Nat.le_add_left _ _) ?_
  show Gets Tryd.prog (KH.low ⟨1, 1, [(0, 0, .cells [(.int .i64 1), (.int .i64 64), (.int .i64 1), (.int .i64 64)] e false)]⟩) BFi (KSt.low (FiS0 n mm e)) _
  refine Fiin h1 h2 ?_
  suffices hs : ∀ m t_, FiInv e n mm m t_ → Gets Tryd.prog (KH.low ⟨1, 1, [(0, 0, .cells [(.int .i64 1), (.int .i64 64), (.int .i64 1), (.int .i64 64)] e false)]⟩) (codeAt [1, 1, 1, 0, 1] BFi) t_.low (onN (fun s => Gets Tryd.prog (FiH e) (codeAt [1, 1, 1, 1] BFi) s ((EndsR Tryd.prog Tryd.f13 (.pointer (some ⟨1, 0, none⟩)) [.cells [(.int .i64 1), (.int .i64 64), (.int .i64 1), (.int .i64 64)] e false] [] [.mach (.arena (fieldS n mm))]))) ((EndsR Tryd.prog Tryd.f13 (.pointer (some ⟨1, 0, none⟩)) [.cells [(.int .i64 1), (.int .i64 64), (.int .i64 1), (.int .i64 64)] e false] [] [.mach (.arena (fieldS n mm))]))) from hs (mm - 0) (FiS4 mm e (0) (fieldS n 0)) (.r 0 (Nat.zero_le _))
  intro m t_ hI
  rw [FiC1_1_1_0_1, FiC1_1_1_0_1_0]
  refine Gets.loopG (fun m t_ => FiInv e n mm m t_) ?_ _ _ hI
  clear hI m t_
  intro m t_ hI
  cases hI with
  | r i hi =>
    by_cases hlt : i < mm
    · refine Fib hlt hm ?_
      exact ⟨mm - (i + 1), _, by omega, rfl, .r (i + 1) (by omega)⟩
    · have : i = mm := by omega
      subst this
      refine Fix (Nat.le_refl _) ?_
      exact ⟨fun _ => Fie (EndsR.ret (l := [.pointer (some ⟨1, 0, none⟩)]) (by kernel_rfl) rfl (Fits.n1 rfl rfl rfl (Nat.le_refl _))), fun h => by cases h⟩
noncomputable def rc_field : RC := ⟨[.int .i64, .int .i64], fun avs => match avs with | [.int n, .int m] => ((decide (1 ≤ n)) && ((decide (n ≤ 8)) && ((decide (0 ≤ m)) && (decide (m ≤ 19))))) | _ => false,
  fun N avs => match avs with | [.int n, .int m] => ((.pointer (some ⟨N, 0, none⟩)), [], [.mach (.arena (fieldS n (Int.toNat m)))]) | _ => (.bool false, [], [])⟩
theorem rc_field_does : RcDoes Tryd.prog varL 13 rc_field := by
  intro vb avs args blks hv hs hp
  obtain ⟨e0, rfl⟩ := var1 hv
  cases hs with | int n hs =>
  cases hs with | int m hs =>
  cases hs
  have hp : (decide (1 ≤ n) && (decide (n ≤ 8) && (decide (0 ≤ m) && decide (m ≤ 19)))) = true := hp
  simp only [Bool.and_eq_true, decide_eq_true_eq] at hp
  obtain ⟨h1, h2, h3, h4⟩ := hp
  have h := field_does e0 n m.toNat h1 h2 (by omega)
  rw [show ((m.toNat : Nat) : Int) = m by omega] at h
  exact h
noncomputable def cfgAw : Cfg := ⟨[32]⟩
noncomputable def fsAw : List FuncId := [6, 7, 8, 10, 11, 15, 20, 21, 22, 23, 35, 40]
theorem fitAw : Fit Tryd.prog cfgAw fsAw := ⟨by kernel_rfl, Cfg.ok_of (by kernel_rfl), by kernel_rfl⟩
theorem awake_told (e0 : TypeId) : Tells Tryd.prog 6 [] (varH .i64 [1, 64, 1, 64] e0).low (.bool true) := by
  refine Tells.of_tree (h := varH .i64 [1, 64, 1, 64] e0) fitAw SoundC.no AgreeT.no (by kernel_rfl) rfl Ro.varH (n := 400) (d := 60) ?_
  kernel_rfl
noncomputable def rc_awake : RC := ⟨[], fun avs => match avs with | [] => true | _ => false,
  fun N avs => match avs with | [] => ((.bool true), [], []) | _ => (.bool false, [], [])⟩
theorem rc_awake_does : RcDoes Tryd.prog varL 6 rc_awake := by
  intro vb avs args blks hv hs hp
  obtain ⟨e0, rfl⟩ := var1 hv
  cases hs
  exact DoesC.of_tells (awake_told e0) rfl
end Go.Proofs.YtfhfbbhoppnbiaaDoor
