import Derived.Test.YtfhfbbhoppnbiaaDoorDrB
import Derived.WalkKit
import Derived.ProofKit
import Derived.OpenShut
import Derived.ChangeOld
import Derived.Below
import Derived.SizedLaws
namespace Go.Proofs.YtfhfbbhoppnbiaaDoor
open Go.Eng
open Go.ChangeShapes Go.WideShapes Go.ChangeAt Go.RowKit
set_option linter.unusedVariables false
set_option linter.unusedSimpArgs false
set_option maxRecDepth 100000
def alN : Nat → ArSt → RetireSt → Nat × ArSt × RetireSt
  | 0, S, x => (0, S, x)
  | m + 1, S, x => bif rtMore x then ((alN m (nxS S x) (nxX S x)).1 + 1, (alN m (nxS S x) (nxX S x)).2) else (0, S, x)
def alOk : Nat → ArSt → RetireSt → Bool
  | 0, _, x => rtOk x
  | m + 1, S, x => rtOk x && (bif rtMore x then alOk m (nxS S x) (nxX S x) else true)
theorem alN_go {m : Nat} {S : ArSt} {x : RetireSt} (h : rtMore x = true) : alN (m + 1) S x = ((alN m (nxS S x) (nxX S x)).1 + 1, (alN m (nxS S x) (nxX S x)).2) := by rw [alN, h]; rfl
theorem alN_no {m : Nat} {S : ArSt} {x : RetireSt} (h : rtMore x = false) : alN m S x = (0, S, x) := by cases m with | zero => rfl | succ m => rw [alN, h]; rfl
theorem alOk_ok {m : Nat} {S : ArSt} {x : RetireSt} (h : alOk m S x = true) : rtOk x = true := by cases m with | zero => exact h | succ m => rw [alOk, Bool.and_eq_true] at h; exact h.1
theorem alOk_go {m : Nat} {S : ArSt} {x : RetireSt} (h : alOk (m + 1) S x = true) (hm : rtMore x = true) : alOk m (nxS S x) (nxX S x) = true := by rw [alOk, Bool.and_eq_true, hm] at h; exact h.2
theorem nx_no {S : ArSt} {x : RetireSt} (h : rtMore x = false) : nxS S x = S ∧ nxX S x = x := by unfold nxS nxX; rw [h]; exact ⟨rfl, rfl⟩
noncomputable def cfgAl : Cfg := ⟨[]⟩
noncomputable def fsAl : List FuncId := [10, 16, 36, 46, 47]
theorem fitAl : Fit Tryd.prog cfgAl fsAl := ⟨by kernel_rfl, Cfg.ok_of (by kernel_rfl), by kernel_rfl⟩
noncomputable def altT : RTab := fun f => match f with
  | 47 => some rc_drNext
  | 10 => some rc_rtAct
  | _ => none
def altDom : List FuncId := [47, 10]
theorem alt_does : ∀ f rc, f ∈ altDom → altT f = some rc → RcDoes Tryd.prog varL f rc := by
  intro f rc hf hT
  simp only [altDom, List.mem_cons, List.not_mem_nil, or_false] at hf
  rcases hf with rfl | rfl
  · cases hT; exact rc_drNext_does
  · cases hT; exact rc_rtAct_does
theorem alt_fn : ∀ f ∈ altDom, FnOk Tryd.prog f := fun f hf => fitAl.fnOk f (by
    have h0 : (altDom.all fun f => fsAl.contains f) = true := by kernel_rfl
    simpa using List.all_eq_true.1 h0 f hf)
theorem alt_sound : SoundC Tryd.prog (conC altDom (rcE varL altT)) := rc_sound oneVar alt_fn alt_does
noncomputable def alcT : RTab := fun f => match f with
  | 47 => some rc_drNext
  | _ => none
def alcDom : List FuncId := [47]
theorem alc_does : ∀ f rc, f ∈ alcDom → alcT f = some rc → RcDoes Tryd.prog varL f rc := by
  intro f rc hf hT
  simp only [alcDom, List.mem_cons, List.not_mem_nil, or_false] at hf
  subst hf
  cases hT; exact rc_drNext_does
theorem alc_fn : ∀ f ∈ alcDom, FnOk Tryd.prog f := fun f hf => fitAl.fnOk f (by
    have h0 : (alcDom.all fun f => fsAl.contains f) = true := by kernel_rfl
    simpa using List.all_eq_true.1 h0 f hf)
theorem alc_sound : SoundC Tryd.prog (conC alcDom (rcE varL alcT)) := rc_sound oneVar alc_fn alc_does
noncomputable def BdvA : Code := bodyOf Tryd.prog 16
theorem BdvA_is : Tryd.f16.body = some BdvA := by kernel_rfl
noncomputable abbrev dvAH (e : TypeId) (S : ArSt) (mx : RetireSt) : AH := (KH.low ⟨3, 1, [(0, 0, .cells [(.int .i64 1), (.int .i64 64), (.int .i64 1), (.int .i64 64)] e false), (1, 0, .mach (.arena S)), (2, 0, .mach (.retire mx))]⟩)
noncomputable abbrev dvAEA (c : Code) (lv p : List Nat) (st : Option (List Nat)) (ws : List Bool) (s : KSt) : Option Rs := evA (evCK Tryd.prog cfgAl (runK Tryd.prog cfgAl fsAl (conTk altDom (rcK varL altT)) 14 40) 14) (stopW 3 lv) p c st ws s (finW 3 lv)
theorem dvAto_ {c_ : Code} {lv_ p_ p2_ : List Nat} {ws_ : List Bool} {st_ s' : KSt} {Q : Ex → St → Prop} {e : TypeId} {S : ArSt} {mx : RetireSt} (hE_ : dvAEA c_ lv_ p_ (some p2_) ws_ st_ = some (.stop s')) (hq_ : AtW Tryd.prog (dvAH e S mx) c_ p2_ s' Q) (hok_ : okCode Tryd.prog.globals.size c_ = true := by kernel_rfl) : AtW Tryd.prog (dvAH e S mx) c_ p_ st_ Q := AtW.to fitAl alt_sound (rc_agree _ _ _) 14 40 hok_ hE_ hq_
theorem dvAfi_ {c_ : Code} {lv_ p_ : List Nat} {ws_ : List Bool} {st_ s' : KSt} {x : Ex} {Q : Ex → St → Prop} {e : TypeId} {S : ArSt} {mx : RetireSt} (hE_ : dvAEA c_ lv_ p_ none ws_ st_ = some (.fin x s')) (hq_ : Q x s'.low) (hok_ : okCode Tryd.prog.globals.size c_ = true := by kernel_rfl) : AtW Tryd.prog (dvAH e S mx) c_ p_ st_ Q := AtW.fin fitAl alt_sound (rc_agree _ _ _) 14 40 hok_ hE_ hq_
theorem dvAC1_1_0_1_0_1_0 : (codeAt [1, 1, 0, 1, 0, 1, 0] BdvA) = .rangeFunc (.tmp 15) #[16, 17] (codeAt [1, 1, 0, 1, 0, 1, 0, 0] BdvA) (codeAt [1, 1, 0, 1, 0, 1, 0, 1] BdvA) := by kernel_rfl
section
variable (mo : Int) (e : TypeId) (S : ArSt) (mx : RetireSt) (kk : Nat) (S2 : ArSt) (my : RetireSt)
noncomputable abbrev dvAO0 (e : TypeId) : KObj := .cells [(.int .i64 1), (.int .i64 64), (.int .i64 1), (.int .i64 64)] e false
noncomputable def dvAS0 : KSt := (firstK [(.pointer (some ⟨1, 0, none⟩)), (.iface 27 (.pointer (some ⟨2, 0, none⟩))), (.int .i64 mo)] 34 ⟨3, 1, [(0, 0, (dvAO0 e)), (1, 0, .mach (.arena S)), (2, 0, .mach (.retire mx))]⟩)
noncomputable def dvAS1 : KSt := ⟨(frameL 34 [(6, (.int .i64 0)), (7, (.bool (!(rtMore mx))))]), ⟨3, 1, [(0, 0, (dvAO0 e)), (1, 0, .mach (.arena S)), (2, 0, .mach (.retire mx))]⟩⟩
theorem dvAW1 : dvAEA BdvA [6, 7] [] none [false, false] (dvAS0 mo e S mx) =
  bif (decide (mo > 0)) then
    none
  else
    bif (rtOk mx) then
      some (.fin .ret (dvAS1 e S mx))
    else
      none := by kernel_rfl
noncomputable def dvAS2 : KSt := ⟨(frameL 34 [(1, (.iface 27 (.pointer (some ⟨2, 0, none⟩)))), (5, (.pointer (some ⟨3, 0, none⟩))), (8, (.pointer (some ⟨4, 0, none⟩))), (15, (.func (.func 46) #[] #[(.pointer (some ⟨5, 0, none⟩)), (.pointer (some ⟨6, 0, none⟩))]))]), ⟨7, 1, [(6, 0, .cells [(.iface 27 (.pointer (some ⟨2, 0, none⟩)))] 74 true), (5, 0, .cells [(.pointer (some ⟨1, 0, none⟩))] 40 true), (4, 0, .cells [(.int .i64 0)] 3 true), (3, 0, .cells [(.int .i64 mo)] 3 true), (0, 0, (dvAO0 e)), (1, 0, .mach (.arena S)), (2, 0, .mach (.retire mx))]⟩⟩
theorem dvAW2 : dvAEA BdvA [1, 5, 8, 15] [] (some [1, 1, 0, 1, 0, 1, 0]) [true, false] (dvAS0 mo e S mx) =
  bif (decide (mo > 0)) then
    some (.stop (dvAS2 mo e S mx))
  else
    none := by kernel_rfl
noncomputable def dvAS3 : KSt := ⟨(frameL 34 [(1, (.iface 27 (.pointer (some ⟨2, 0, none⟩)))), (5, (.pointer (some ⟨3, 0, none⟩))), (8, (.pointer (some ⟨4, 0, none⟩))), (15, (.func (.func 46) #[] #[(.pointer (some ⟨5, 0, none⟩)), (.pointer (some ⟨6, 0, none⟩))]))]), ⟨8, 7, [(6, 0, .cells [(.iface 27 (.pointer (some ⟨2, 0, none⟩)))] 74 true), (5, 0, .cells [(.pointer (some ⟨1, 0, none⟩))] 40 true), (4, 4, .cells [(.int .i64 ((kk : Nat) : Int))] 3 true), (3, 0, .cells [(.int .i64 mo)] 3 true), (0, 0, (dvAO0 e)), (1, 2, .mach (.arena S2)), (2, 3, .mach (.retire my))]⟩⟩
noncomputable def dvAS4 : KSt := ⟨(frameL 34 [(6, (.int .i64 ((kk : Nat) : Int))), (7, (.bool (!(rtMore my))))]), ⟨3, 1, [(0, 0, (dvAO0 e)), (1, 0, .mach (.arena S2)), (2, 0, .mach (.retire my))]⟩⟩
theorem dvAW3 : dvAEA (codeAt [1, 1, 1] BdvA) [6, 7] [] none [false] (dvAS3 mo e kk S2 my) =
  bif (rtOk my) then
    some (.fin .ret (dvAS4 e kk S2 my))
  else
    none := by kernel_rfl
end
theorem dvAz {mo : Int} {mx : RetireSt} {e : TypeId} {S : ArSt} (hz : ¬ 0 < mo) (hk : rtOk mx = true)   {Q : Ex → St → Prop} (hq : Q .ret (KSt.low (dvAS1 e S mx))) : Gets Tryd.prog (dvAH e S mx) BdvA (KSt.low (dvAS0 mo e S mx)) Q := by
  refine AtW.gets ?_
  exact dvAfi_ ((dvAW1 ..).trans (by rw [dF, condT (hk)])) hq
theorem dvAin {mo : Int} {e : TypeId} {S : ArSt} {mx : RetireSt} (hz : 0 < mo)   {Q : Ex → St → Prop} (hq : Gets Tryd.prog (dvAH e S mx) (codeAt [1, 1, 0, 1, 0, 1, 0] BdvA) (KSt.low (dvAS2 mo e S mx)) (onB 0 (onN (fun s => Gets Tryd.prog (dvAH e S mx) (codeAt [1, 1, 1] BdvA) s (Q)) (Q)))) : Gets Tryd.prog (dvAH e S mx) BdvA (KSt.low (dvAS0 mo e S mx)) Q := by
  refine AtW.gets ?_
  refine dvAto_ ((dvAW2 ..).trans (by rw [dT])) ?_
  exact AtW.place hq
theorem dvAaft {my : RetireSt} {e : TypeId} {kk : Nat} {S2 : ArSt} {S : ArSt} {mx : RetireSt} {mo : Int} (hk : rtOk my = true)   {Q : Ex → St → Prop} (hq : Q .ret (KSt.low (dvAS4 e kk S2 my))) : Gets Tryd.prog (dvAH e S mx) (codeAt [1, 1, 1] BdvA) (KSt.low (dvAS3 mo e kk S2 my)) Q := by
  refine AtW.gets ?_
  exact dvAfi_ ((dvAW3 ..).trans (by rw [condT (hk)])) hq
noncomputable def BdvC : Code := bodyOf Tryd.prog 46
theorem BdvC_is : Tryd.f46.body = some BdvC := by kernel_rfl
noncomputable abbrev dvCH (mo : Int) (e : TypeId) (S : ArSt) (mx : RetireSt) : AH := (KH.low ⟨8, 2, [(7, 1, .loop (frameL 34 [(1, (.iface 27 (.pointer (some ⟨2, 0, none⟩)))), (5, (.pointer (some ⟨3, 0, none⟩))), (8, (.pointer (some ⟨4, 0, none⟩))), (15, (.func (.func 46) #[] #[(.pointer (some ⟨5, 0, none⟩)), (.pointer (some ⟨6, 0, none⟩))]))]) #[16, 17] (codeAt [1, 1, 0, 1, 0, 1, 0, 0] BdvA) (codeAt [1, 1, 0, 1, 0, 1, 0, 1] BdvA) .ready), (6, 0, .cells [(.iface 27 (.pointer (some ⟨2, 0, none⟩)))] 74 true), (5, 0, .cells [(.pointer (some ⟨1, 0, none⟩))] 40 true), (4, 0, .cells [(.int .i64 0)] 3 true), (3, 0, .cells [(.int .i64 mo)] 3 true), (0, 0, .cells [(.int .i64 1), (.int .i64 64), (.int .i64 1), (.int .i64 64)] e false), (1, 0, .mach (.arena S)), (2, 0, .mach (.retire mx))]⟩)
noncomputable abbrev dvCEA (c : Code) (lv p : List Nat) (st : Option (List Nat)) (ws : List Bool) (s : KSt) : Option Rs := evA (evCK Tryd.prog cfgAl (runK Tryd.prog cfgAl fsAl (conTk alcDom (rcK varL alcT)) 14 40) 14) (stopW 8 lv) p c st ws s (finW 8 lv)
theorem dvCto_ {c_ : Code} {lv_ p_ p2_ : List Nat} {ws_ : List Bool} {st_ s' : KSt} {Q : Ex → St → Prop} {mo : Int} {e : TypeId} {S : ArSt} {mx : RetireSt} (hE_ : dvCEA c_ lv_ p_ (some p2_) ws_ st_ = some (.stop s')) (hq_ : AtW Tryd.prog (dvCH mo e S mx) c_ p2_ s' Q) (hok_ : okCode Tryd.prog.globals.size c_ = true := by kernel_rfl) : AtW Tryd.prog (dvCH mo e S mx) c_ p_ st_ Q := AtW.to fitAl alc_sound (rc_agree _ _ _) 14 40 hok_ hE_ hq_
theorem dvCfi_ {c_ : Code} {lv_ p_ : List Nat} {ws_ : List Bool} {st_ s' : KSt} {x : Ex} {Q : Ex → St → Prop} {mo : Int} {e : TypeId} {S : ArSt} {mx : RetireSt} (hE_ : dvCEA c_ lv_ p_ none ws_ st_ = some (.fin x s')) (hq_ : Q x s'.low) (hok_ : okCode Tryd.prog.globals.size c_ = true := by kernel_rfl) : AtW Tryd.prog (dvCH mo e S mx) c_ p_ st_ Q := AtW.fin fitAl alc_sound (rc_agree _ _ _) 14 40 hok_ hE_ hq_
theorem dvCC : BdvC = .block 0 (codeAt [0] BdvC) := by kernel_rfl
theorem dvCC0 : (codeAt [0] BdvC) = .loop (codeAt [0, 0] BdvC) := by kernel_rfl
section
variable (kk : Nat) (mo : Int) (e : TypeId) (S2 : ArSt) (my : RetireSt) (S : ArSt) (mx : RetireSt)
noncomputable abbrev dvCO0 : KObj := .loop (frameL 34 [(1, (.iface 27 (.pointer (some ⟨2, 0, none⟩)))), (5, (.pointer (some ⟨3, 0, none⟩))), (8, (.pointer (some ⟨4, 0, none⟩))), (15, (.func (.func 46) #[] #[(.pointer (some ⟨5, 0, none⟩)), (.pointer (some ⟨6, 0, none⟩))]))]) #[16, 17] (codeAt [1, 1, 0, 1, 0, 1, 0, 0] BdvA) (codeAt [1, 1, 0, 1, 0, 1, 0, 1] BdvA) .ready
noncomputable abbrev dvCO1 (e : TypeId) : KObj := .cells [(.int .i64 1), (.int .i64 64), (.int .i64 1), (.int .i64 64)] e false
noncomputable abbrev dvCO2 : KObj := .loop (frameL 34 [(1, (.iface 27 (.pointer (some ⟨2, 0, none⟩)))), (5, (.pointer (some ⟨3, 0, none⟩))), (8, (.pointer (some ⟨4, 0, none⟩))), (15, (.func (.func 46) #[] #[(.pointer (some ⟨5, 0, none⟩)), (.pointer (some ⟨6, 0, none⟩))]))]) #[16, 17] (codeAt [1, 1, 0, 1, 0, 1, 0, 0] BdvA) (codeAt [1, 1, 0, 1, 0, 1, 0, 1] BdvA) (.done (.exit 0))
noncomputable def dvCS0 : KSt := ⟨(frameL 23 [(0, (.func (.yield 7) #[] #[])), (1, (.pointer (some ⟨5, 0, none⟩))), (2, (.pointer (some ⟨6, 0, none⟩)))]), ⟨8, 1, [(7, 0, dvCO0), (6, 0, .cells [(.iface 27 (.pointer (some ⟨2, 0, none⟩)))] 74 true), (5, 0, .cells [(.pointer (some ⟨1, 0, none⟩))] 40 true), (4, 0, .cells [(.int .i64 ((kk : Nat) : Int))] 3 true), (3, 0, .cells [(.int .i64 mo)] 3 true), (0, 0, (dvCO1 e)), (1, 0, .mach (.arena S2)), (2, 0, .mach (.retire my))]⟩⟩
noncomputable def dvCS1 : KSt := ⟨(frameL 23 [(0, (.func (.yield 7) #[] #[])), (1, (.pointer (some ⟨5, 0, none⟩))), (2, (.pointer (some ⟨6, 0, none⟩))), (22, (.bool true))]), ⟨8, 1, [(7, 0, dvCO0), (6, 0, .cells [(.iface 27 (.pointer (some ⟨2, 0, none⟩)))] 74 true), (5, 0, .cells [(.pointer (some ⟨1, 0, none⟩))] 40 true), (4, 0, .cells [(.int .i64 ((kk : Nat) : Int))] 3 true), (3, 0, .cells [(.int .i64 mo)] 3 true), (0, 0, (dvCO1 e)), (1, 0, .mach (.arena (nxS S2 my))), (2, 0, .mach (.retire (nxX S2 my)))]⟩⟩
noncomputable def dvCS2 : KSt := ⟨(frameL 23 [(0, (.func (.yield 7) #[] #[])), (1, (.pointer (some ⟨5, 0, none⟩))), (2, (.pointer (some ⟨6, 0, none⟩))), (22, (.bool true))]), ⟨8, 1, [(7, 0, dvCO2), (6, 0, .cells [(.iface 27 (.pointer (some ⟨2, 0, none⟩)))] 74 true), (5, 0, .cells [(.pointer (some ⟨1, 0, none⟩))] 40 true), (4, 0, .cells [(.int .i64 (IntKind.wrap .i64 (((kk : Nat) : Int) + 1)))] 3 true), (3, 0, .cells [(.int .i64 mo)] 3 true), (0, 0, (dvCO1 e)), (1, 0, .mach (.arena (nxS S2 my))), (2, 0, .mach (.retire (nxX S2 my)))]⟩⟩
theorem dvCW1 : dvCEA (codeAt [0, 0] BdvC) [0, 1, 2, 22] [] (some [0, 1, 1]) [false] (dvCS0 kk mo e S2 my) =
  bif (rtOk my) then
    bif (!(rtMore my)) then
      some (.stop (dvCS1 kk mo e S2 my))
    else
      bif ((IntKind.wrap .i64 (((kk : Nat) : Int) + 1)) == mo) then
        some (.stop (dvCS2 kk mo e S2 my))
      else
        some (.stop ⟨(frameL 23 [(0, (.func (.yield 7) #[] #[])), (1, (.pointer (some ⟨5, 0, none⟩))), (2, (.pointer (some ⟨6, 0, none⟩))), (22, (.bool false))]), ⟨8, 1, [(7, 0, .loop (frameL 34 [(1, (.iface 27 (.pointer (some ⟨2, 0, none⟩)))), (5, (.pointer (some ⟨3, 0, none⟩))), (8, (.pointer (some ⟨4, 0, none⟩))), (15, (.func (.func 46) #[] #[(.pointer (some ⟨5, 0, none⟩)), (.pointer (some ⟨6, 0, none⟩))]))]) #[16, 17] (codeAt [1, 1, 0, 1, 0, 1, 0, 0] BdvA) (codeAt [1, 1, 0, 1, 0, 1, 0, 1] BdvA) .ready), (6, 0, .cells [(.iface 27 (.pointer (some ⟨2, 0, none⟩)))] 74 true), (5, 0, .cells [(.pointer (some ⟨1, 0, none⟩))] 40 true), (4, 0, .cells [(.int .i64 (IntKind.wrap .i64 (((kk : Nat) : Int) + 1)))] 3 true), (3, 0, .cells [(.int .i64 mo)] 3 true), (0, 0, .cells [(.int .i64 1), (.int .i64 64), (.int .i64 1), (.int .i64 64)] e false), (1, 0, .mach (.arena (nxS S2 my))), (2, 0, .mach (.retire (nxX S2 my)))]⟩⟩)
  else
    none := by kernel_rfl
noncomputable def dvCS3 : KSt := ⟨(frameL 23 [(0, (.func (.yield 7) #[] #[])), (1, (.pointer (some ⟨5, 0, none⟩))), (2, (.pointer (some ⟨6, 0, none⟩))), (22, (.bool false))]), ⟨8, 1, [(7, 0, dvCO0), (6, 0, .cells [(.iface 27 (.pointer (some ⟨2, 0, none⟩)))] 74 true), (5, 0, .cells [(.pointer (some ⟨1, 0, none⟩))] 40 true), (4, 0, .cells [(.int .i64 (((kk : Nat) : Int) + 1))] 3 true), (3, 0, .cells [(.int .i64 mo)] 3 true), (0, 0, (dvCO1 e)), (1, 0, .mach (.arena (nxS S2 my))), (2, 0, .mach (.retire (nxX S2 my)))]⟩⟩
noncomputable def dvCS4 : KSt := ⟨(frameL 23 [(0, (.func (.yield 7) #[] #[])), (1, (.pointer (some ⟨5, 0, none⟩))), (2, (.pointer (some ⟨6, 0, none⟩)))]), ⟨8, 1, [(7, 0, dvCO0), (6, 0, .cells [(.iface 27 (.pointer (some ⟨2, 0, none⟩)))] 74 true), (5, 0, .cells [(.pointer (some ⟨1, 0, none⟩))] 40 true), (4, 0, .cells [(.int .i64 (((kk : Nat) : Int) + 1))] 3 true), (3, 0, .cells [(.int .i64 mo)] 3 true), (0, 0, (dvCO1 e)), (1, 0, .mach (.arena (nxS S2 my))), (2, 0, .mach (.retire (nxX S2 my)))]⟩⟩
theorem dvCW2 : dvCEA (codeAt [0, 0] BdvC) [0, 1, 2] [0, 1, 1] none [false] (dvCS3 kk mo e S2 my) =
  some (.fin .normal (dvCS4 kk mo e S2 my)) := by kernel_rfl
noncomputable def dvCS5 : KSt := ⟨(frameL 23 [(0, (.func (.yield 7) #[] #[])), (1, (.pointer (some ⟨5, 0, none⟩))), (2, (.pointer (some ⟨6, 0, none⟩))), (22, (.bool false))]), ⟨8, 1, [(7, 0, dvCO0), (6, 0, .cells [(.iface 27 (.pointer (some ⟨2, 0, none⟩)))] 74 true), (5, 0, .cells [(.pointer (some ⟨1, 0, none⟩))] 40 true), (4, 0, .cells [(.int .i64 (IntKind.wrap .i64 (((kk : Nat) : Int) + 1)))] 3 true), (3, 0, .cells [(.int .i64 mo)] 3 true), (0, 0, (dvCO1 e)), (1, 0, .mach (.arena (nxS S2 my))), (2, 0, .mach (.retire (nxX S2 my)))]⟩⟩
theorem dvCW3 : dvCEA (codeAt [0, 0] BdvC) [0, 1, 2, 22] [] (some [0, 1, 1]) [false] (dvCS0 kk mo e S2 my) =
  bif (rtOk my) then
    bif (!(rtMore my)) then
      some (.stop (dvCS1 kk mo e S2 my))
    else
      bif ((IntKind.wrap .i64 (((kk : Nat) : Int) + 1)) == mo) then
        some (.stop ⟨(frameL 23 [(0, (.func (.yield 7) #[] #[])), (1, (.pointer (some ⟨5, 0, none⟩))), (2, (.pointer (some ⟨6, 0, none⟩))), (22, (.bool true))]), ⟨8, 1, [(7, 0, .loop (frameL 34 [(1, (.iface 27 (.pointer (some ⟨2, 0, none⟩)))), (5, (.pointer (some ⟨3, 0, none⟩))), (8, (.pointer (some ⟨4, 0, none⟩))), (15, (.func (.func 46) #[] #[(.pointer (some ⟨5, 0, none⟩)), (.pointer (some ⟨6, 0, none⟩))]))]) #[16, 17] (codeAt [1, 1, 0, 1, 0, 1, 0, 0] BdvA) (codeAt [1, 1, 0, 1, 0, 1, 0, 1] BdvA) (.done (.exit 0))), (6, 0, .cells [(.iface 27 (.pointer (some ⟨2, 0, none⟩)))] 74 true), (5, 0, .cells [(.pointer (some ⟨1, 0, none⟩))] 40 true), (4, 0, .cells [(.int .i64 (IntKind.wrap .i64 (((kk : Nat) : Int) + 1)))] 3 true), (3, 0, .cells [(.int .i64 mo)] 3 true), (0, 0, .cells [(.int .i64 1), (.int .i64 64), (.int .i64 1), (.int .i64 64)] e false), (1, 0, .mach (.arena (nxS S2 my))), (2, 0, .mach (.retire (nxX S2 my)))]⟩⟩)
      else
        some (.stop (dvCS5 kk mo e S2 my))
  else
    none := by kernel_rfl
noncomputable def dvCS6 : KSt := ⟨(frameL 23 [(0, (.func (.yield 7) #[] #[])), (1, (.pointer (some ⟨5, 0, none⟩))), (2, (.pointer (some ⟨6, 0, none⟩))), (22, (.bool true))]), ⟨8, 1, [(7, 0, dvCO2), (6, 0, .cells [(.iface 27 (.pointer (some ⟨2, 0, none⟩)))] 74 true), (5, 0, .cells [(.pointer (some ⟨1, 0, none⟩))] 40 true), (4, 0, .cells [(.int .i64 (((kk : Nat) : Int) + 1))] 3 true), (3, 0, .cells [(.int .i64 mo)] 3 true), (0, 0, (dvCO1 e)), (1, 0, .mach (.arena (nxS S2 my))), (2, 0, .mach (.retire (nxX S2 my)))]⟩⟩
noncomputable def dvCS7 : KSt := ⟨(frameL 23 []), ⟨8, 1, [(7, 0, dvCO2), (6, 0, .cells [(.iface 27 (.pointer (some ⟨2, 0, none⟩)))] 74 true), (5, 0, .cells [(.pointer (some ⟨1, 0, none⟩))] 40 true), (4, 0, .cells [(.int .i64 (((kk : Nat) : Int) + 1))] 3 true), (3, 0, .cells [(.int .i64 mo)] 3 true), (0, 0, (dvCO1 e)), (1, 0, .mach (.arena (nxS S2 my))), (2, 0, .mach (.retire (nxX S2 my)))]⟩⟩
theorem dvCW4 : dvCEA (codeAt [0, 0] BdvC) [] [0, 1, 1] none [true] (dvCS6 kk mo e S2 my) =
  some (.fin .ret (dvCS7 kk mo e S2 my)) := by kernel_rfl
theorem dvCW5 : dvCEA (codeAt [0, 0] BdvC) [0, 1, 2, 22] [] (some [0, 1, 1]) [false] (dvCS0 kk mo e S2 my) =
  bif (rtOk my) then
    bif (!(rtMore my)) then
      some (.stop (dvCS1 kk mo e S2 my))
    else
      bif ((IntKind.wrap .i64 (((kk : Nat) : Int) + 1)) == mo) then
        some (.stop (dvCS2 kk mo e S2 my))
      else
        some (.stop (dvCS5 kk mo e S2 my))
  else
    none := by kernel_rfl
noncomputable def dvCS8 : KSt := ⟨(frameL 23 []), ⟨8, 1, [(7, 0, dvCO0), (6, 0, .cells [(.iface 27 (.pointer (some ⟨2, 0, none⟩)))] 74 true), (5, 0, .cells [(.pointer (some ⟨1, 0, none⟩))] 40 true), (4, 0, .cells [(.int .i64 ((kk : Nat) : Int))] 3 true), (3, 0, .cells [(.int .i64 mo)] 3 true), (0, 0, (dvCO1 e)), (1, 0, .mach (.arena (nxS S2 my))), (2, 0, .mach (.retire (nxX S2 my)))]⟩⟩
theorem dvCW6 : dvCEA (codeAt [0, 0] BdvC) [] [0, 1, 1] none [true] (dvCS1 kk mo e S2 my) =
  some (.fin .ret (dvCS8 kk mo e S2 my)) := by kernel_rfl
noncomputable def dvCS9 : KSt := (firstK [(.func (.yield 7) #[] #[]), (.pointer (some ⟨5, 0, none⟩)), (.pointer (some ⟨6, 0, none⟩))] 23 ⟨8, 2, [(7, 1, dvCO0), (6, 0, .cells [(.iface 27 (.pointer (some ⟨2, 0, none⟩)))] 74 true), (5, 0, .cells [(.pointer (some ⟨1, 0, none⟩))] 40 true), (4, 0, .cells [(.int .i64 0)] 3 true), (3, 0, .cells [(.int .i64 mo)] 3 true), (0, 0, (dvCO1 e)), (1, 0, .mach (.arena S)), (2, 0, .mach (.retire mx))]⟩)
end
theorem dvCrn {my : RetireSt} {mo : Int} {kk : Nat} {e : TypeId} {S2 : ArSt} {S : ArSt} {mx : RetireSt} (hk : rtOk my = true) (hb : mo < 4611686018427387904) (hkm : ((kk : Nat) : Int) < mo) (hm : rtMore my = true) (hl : ((kk : Nat) : Int) + 1 < mo)   {Q : Ex → St → Prop} (hq : Q .normal (KSt.low (dvCS4 kk mo e S2 my))) : Gets Tryd.prog (dvCH mo e S mx) (codeAt [0, 0] BdvC) (KSt.low (dvCS0 kk mo e S2 my)) Q := by
  refine AtW.gets ?_
  refine dvCto_ (s' := (dvCS3 kk mo e S2 my)) ((dvCW1 ..).trans (by rw [condT (hk), condF (not_f (hm)), condF (ibeq_f (by (first | omega | ((try simp (disch := omega) only [wrap_i64_id]) <;> omega)))), (show (IntKind.wrap .i64 (((kk : Nat) : Int) + 1)) = (((kk : Nat) : Int) + 1) from wi)] <;> rfl)) ?_
  exact dvCfi_ (dvCW2 ..) hq
theorem dvCla {my : RetireSt} {mo : Int} {kk : Nat} {e : TypeId} {S2 : ArSt} {S : ArSt} {mx : RetireSt} (hk : rtOk my = true) (hb : mo < 4611686018427387904) (hkm : ((kk : Nat) : Int) < mo) (hm : rtMore my = true) (hl : ((kk : Nat) : Int) + 1 = mo)   {Q : Ex → St → Prop} (hq : Q .ret (KSt.low (dvCS7 kk mo e S2 my))) : Gets Tryd.prog (dvCH mo e S mx) (codeAt [0, 0] BdvC) (KSt.low (dvCS0 kk mo e S2 my)) Q := by
  refine AtW.gets ?_
  refine dvCto_ (s' := (dvCS6 kk mo e S2 my)) ((dvCW3 ..).trans (by rw [condT (hk), condF (not_f (hm)), condT (ibeq_t (by (first | omega | ((try simp (disch := omega) only [wrap_i64_id]) <;> omega)))), (show (IntKind.wrap .i64 (((kk : Nat) : Int) + 1)) = (((kk : Nat) : Int) + 1) from wi)] <;> rfl)) ?_
  exact dvCfi_ (dvCW4 ..) hq
theorem dvCno {my : RetireSt} {mo : Int} {kk : Nat} {e : TypeId} {S2 : ArSt} {S : ArSt} {mx : RetireSt} (hk : rtOk my = true) (hb : mo < 4611686018427387904) (hkm : ((kk : Nat) : Int) < mo) (hm : rtMore my = false)   {Q : Ex → St → Prop} (hq : Q .ret (KSt.low (dvCS8 kk mo e S2 my))) : Gets Tryd.prog (dvCH mo e S mx) (codeAt [0, 0] BdvC) (KSt.low (dvCS0 kk mo e S2 my)) Q := by
  refine AtW.gets ?_
  refine dvCto_ ((dvCW5 ..).trans (by rw [condT (hk), condT (not_t (hm))])) ?_
  exact dvCfi_ (dvCW6 ..) hq
noncomputable abbrev dvH2 (e : TypeId) (S : ArSt) (mx : RetireSt) (mo : Int) : KH := ⟨8, 2, [(7, 1, .loop (frameL 34 [(1, (.iface 27 (.pointer (some ⟨2, 0, none⟩)))), (5, (.pointer (some ⟨3, 0, none⟩))), (8, (.pointer (some ⟨4, 0, none⟩))), (15, (.func (.func 46) #[] #[(.pointer (some ⟨5, 0, none⟩)), (.pointer (some ⟨6, 0, none⟩))]))]) #[16, 17] (codeAt [1, 1, 0, 1, 0, 1, 0, 0] BdvA) (codeAt [1, 1, 0, 1, 0, 1, 0, 1] BdvA) .ready), (6, 0, .cells [(.iface 27 (.pointer (some ⟨2, 0, none⟩)))] 74 true), (5, 0, .cells [(.pointer (some ⟨1, 0, none⟩))] 40 true), (4, 0, .cells [(.int .i64 0)] 3 true), (3, 0, .cells [(.int .i64 mo)] 3 true), (0, 0, .cells [(.int .i64 1), (.int .i64 64), (.int .i64 1), (.int .i64 64)] e false), (1, 0, .mach (.arena S)), (2, 0, .mach (.retire mx))]⟩
def dvA (e : TypeId) (S : ArSt) (mx : RetireSt) (mo : Int) (h2 : AH) : Prop := ∃ kk S2 my, alN mo.toNat S mx = (kk, S2, my) ∧ rtOk my = true ∧ (h2 = (KH.low (KH.put (KH.put (KH.put (KH.put (dvH2 e S mx mo) 1 (.mach (.arena S2))) 2 (.mach (.retire my))) 4 (.cells [(.int .i64 ((kk : Nat) : Int))] 3 true)) 7 (.loop (frameL 34 [(1, (.iface 27 (.pointer (some ⟨2, 0, none⟩)))), (5, (.pointer (some ⟨3, 0, none⟩))), (8, (.pointer (some ⟨4, 0, none⟩))), (15, (.func (.func 46) #[] #[(.pointer (some ⟨5, 0, none⟩)), (.pointer (some ⟨6, 0, none⟩))]))]) #[16, 17] (codeAt [1, 1, 0, 1, 0, 1, 0, 0] BdvA) (codeAt [1, 1, 0, 1, 0, 1, 0, 1] BdvA) .ready))) ∨ h2 = (KH.low (KH.put (KH.put (KH.put (KH.put (dvH2 e S mx mo) 1 (.mach (.arena S2))) 2 (.mach (.retire my))) 4 (.cells [(.int .i64 ((kk : Nat) : Int))] 3 true)) 7 (.loop (frameL 34 [(1, (.iface 27 (.pointer (some ⟨2, 0, none⟩)))), (5, (.pointer (some ⟨3, 0, none⟩))), (8, (.pointer (some ⟨4, 0, none⟩))), (15, (.func (.func 46) #[] #[(.pointer (some ⟨5, 0, none⟩)), (.pointer (some ⟨6, 0, none⟩))]))]) #[16, 17] (codeAt [1, 1, 0, 1, 0, 1, 0, 0] BdvA) (codeAt [1, 1, 0, 1, 0, 1, 0, 1] BdvA) (.done (.exit 0))))))
noncomputable def dvQ (e : TypeId) (S : ArSt) (mx : RetireSt) (mo : Int) : Ex → St → Prop := Eng.Ends Tryd.prog Tryd.f46.results.toList fun r sh => ∃ h2, dvA e S mx mo h2 ∧ Fits (KH.low (dvH2 e S mx mo)) sh h2
theorem dvQ_ret (e : TypeId) (S : ArSt) (mx : RetireSt) (mo : Int) {s : KSt} (hr : resL Tryd.prog s.low Tryd.f46.results.toList = some []) (h2 : AH) (hA : dvA e S mx mo h2) (hf : Fits (KH.low (dvH2 e S mx mo)) s.h.low h2) : dvQ e S mx mo .ret s.low := Ends.of hr ⟨h2, hA, hf⟩
inductive AlInv (e : TypeId) (S : ArSt) (mx : RetireSt) (mo : Int) : Nat → KSt → Prop
  | r (kk : Nat) (S2 : ArSt) (my : RetireSt) (hlt : ((kk : Nat) : Int) < mo) (hA : alN mo.toNat S mx = ((alN (mo.toNat - kk) S2 my).1 + kk, (alN (mo.toNat - kk) S2 my).2)) (hO : alOk (mo.toNat - kk) S2 my = true) : AlInv e S mx mo (mo.toNat - kk) (dvCS0 kk mo e S2 my)
theorem dv_loop (e : TypeId) (S : ArSt) (mx : RetireSt) (mo : Int) (hb : mo < 4611686018427387904) (z : Nat) (t_ : KSt) (hI : AlInv e S mx mo z t_) : Gets Tryd.prog (KH.low ⟨8, 2, [(7, 1, .loop (frameL 34 [(1, (.iface 27 (.pointer (some ⟨2, 0, none⟩)))), (5, (.pointer (some ⟨3, 0, none⟩))), (8, (.pointer (some ⟨4, 0, none⟩))), (15, (.func (.func 46) #[] #[(.pointer (some ⟨5, 0, none⟩)), (.pointer (some ⟨6, 0, none⟩))]))]) #[16, 17] (codeAt [1, 1, 0, 1, 0, 1, 0, 0] BdvA) (codeAt [1, 1, 0, 1, 0, 1, 0, 1] BdvA) .ready), (6, 0, .cells [(.iface 27 (.pointer (some ⟨2, 0, none⟩)))] 74 true), (5, 0, .cells [(.pointer (some ⟨1, 0, none⟩))] 40 true), (4, 0, .cells [(.int .i64 0)] 3 true), (3, 0, .cells [(.int .i64 mo)] 3 true), (0, 0, .cells [(.int .i64 1), (.int .i64 64), (.int .i64 1), (.int .i64 64)] e false), (1, 0, .mach (.arena S)), (2, 0, .mach (.retire mx))]⟩) BdvC t_.low ((dvQ e S mx mo)) := by
  rw [dvCC, dvCC0]
  refine Gets.loopG (fun z t_ => AlInv e S mx mo z t_) ?_ _ _ hI
  clear hI z t_
  intro z t_ hI
  cases hI with
  | r kk S2 my hlt hA hO =>
    obtain ⟨m, hm1⟩ : ∃ m, mo.toNat - kk = m + 1 := ⟨mo.toNat - kk - 1, by omega⟩
    have hk := alOk_ok hO
    cases hm : rtMore my with
    | false =>
      rw [alN_no hm] at hA
      obtain ⟨e1, e2⟩ := nx_no (S := S2) hm
      refine dvCno hk hb hlt hm ?_
      exact dvQ_ret e S mx mo (s := (dvCS8 kk mo e S2 my)) rfl _ ⟨kk, nxS S2 my, nxX S2 my, by rw [hA, e1, e2, Nat.zero_add], by rw [e2]; exact hk, .inl rfl⟩ (Fits.kh (growPut (growPut (growPut (growPut (Grow.refl _) rfl) rfl) rfl) rfl) rfl ⟨rfl, rfl, rfl, rfl, rfl, rfl, rfl, rfl, trivial⟩)
    | true =>
      rw [hm1] at hA hO
      rw [alN_go hm] at hA
      have hO2 := alOk_go hO hm
      by_cases hl : ((kk : Nat) : Int) + 1 < mo
      · refine dvCrn hk hb hlt hm hl ?_
        have hm2 : mo.toNat - (kk + 1) = m := by omega
        exact ⟨mo.toNat - (kk + 1), _, by omega, rfl, .r (kk + 1) (nxS S2 my) (nxX S2 my) (by push_cast; omega) (by rw [hm2, hA, Nat.add_assoc, Nat.add_comm 1 kk]) (by rw [hm2]; exact hO2)⟩
      · have hm0 : m = 0 := by omega
        subst hm0
        refine dvCla hk hb hlt hm (by omega) ?_
        exact dvQ_ret e S mx mo (s := (dvCS7 kk mo e S2 my)) rfl _ ⟨kk + 1, nxS S2 my, nxX S2 my, by rw [hA]; show (0 + 1 + kk, nxS S2 my, nxX S2 my) = _; rw [Nat.zero_add, Nat.add_comm], hO2, .inr rfl⟩ (Fits.kh (growPut (growPut (growPut (growPut (Grow.refl _) rfl) rfl) rfl) rfl) rfl ⟨rfl, rfl, rfl, rfl, rfl, rfl, rfl, rfl, trivial⟩)
theorem dv_cl (e : TypeId) (S : ArSt) (mx : RetireSt) (mo : Int) (hz : 0 < mo) (hb : mo < 4611686018427387904) (hO : alOk mo.toNat S mx = true) : DoesE Tryd.prog 46 [(.func (.yield 7) #[] #[]), (.pointer (some ⟨5, 0, none⟩)), (.pointer (some ⟨6, 0, none⟩))] (KH.low (dvH2 e S mx mo)) (fun _ => dvA e S mx mo) := by
  refine Gets.doesE Tryd.func46 BdvC_is (by rw [oneVar]; exact (show 1 ≤ 8 by decide)) ?_
  show Gets Tryd.prog (KH.low (dvH2 e S mx mo)) BdvC (KSt.low (dvCS9 mo e S mx)) (dvQ e S mx mo)
  refine Gets.norm (live := [0, 1, 2]) (s' := (dvCS0 (0) mo e (S) (mx))) (by kernel_rfl) ?_
  exact dv_loop e S mx mo hb (mo.toNat - 0) _ (.r 0 S mx hz rfl hO)
theorem drAlone_at (e : TypeId) (S : ArSt) (mx : RetireSt) (mo : Int) (hb : mo < 4611686018427387904) (hO : alOk mo.toNat S mx = true) (kk : Nat) (S2 : ArSt) (my : RetireSt) (hr : alN mo.toNat S mx = (kk, S2, my)) : DoesC Tryd.prog 16 [(.pointer (some ⟨1, 0, none⟩)), (.iface 27 (.pointer (some ⟨2, 0, none⟩))), (.int .i64 mo)] (mkH [.cells [(.int .i64 1), (.int .i64 64), (.int .i64 1), (.int .i64 64)] e false, .mach (.arena S), .mach (.retire mx)]).low (.tuple #[(.int .i64 ((kk : Nat) : Int)), (.bool (!(rtMore my)))]) (KH.put (KH.put (mkH [.cells [(.int .i64 1), (.int .i64 64), (.int .i64 1), (.int .i64 64)] e false, .mach (.arena S), .mach (.retire mx)]) 1 (.mach (.arena S2))) 2 (.mach (.retire my))).low := by
  refine EndsK.does Tryd.func16 BdvA_is (by rw [oneVar]; exact Nat.le_add_left _ _) ?_
  by_cases hz : 0 < mo
  · refine dvAin hz ?_
    rw [dvAC1_1_0_1_0_1_0]
    refine Gets.rangeFunc (f := 46) (first := #[]) (cap := #[(.pointer (some ⟨5, 0, none⟩)), (.pointer (some ⟨6, 0, none⟩))]) (A := dvA e S mx mo) (by kernel_rfl) (by kernel_rfl) (fitAl.fnOk 46 (by decide)) ?_ ?_
    · exact dv_cl e S mx mo hz hb hO
    · rintro hh ⟨k2, S3, mz, hr2, hk, hA⟩
      rw [hr] at hr2
      cases hr2
      have fin : Gets Tryd.prog (mkH [.cells [(.int .i64 1), (.int .i64 64), (.int .i64 1), (.int .i64 64)] e false, .mach (.arena S), .mach (.retire mx)]).low (codeAt [1, 1, 1] BdvA) (KSt.low (dvAS3 mo e kk S2 my)) (EndsK Tryd.prog Tryd.f16 (.tuple #[(.int .i64 ((kk : Nat) : Int)), (.bool (!(rtMore my)))]) (mkH [.cells [(.int .i64 1), (.int .i64 64), (.int .i64 1), (.int .i64 64)] e false, .mach (.arena S), .mach (.retire mx)]) (KH.put (KH.put (mkH [.cells [(.int .i64 1), (.int .i64 64), (.int .i64 1), (.int .i64 64)] e false, .mach (.arena S), .mach (.retire mx)]) 1 (.mach (.arena S2))) 2 (.mach (.retire my)))) := dvAaft hk (EndsK.ret (l := [(.int .i64 ((kk : Nat) : Int)), (.bool (!(rtMore my)))]) (by kernel_rfl) rfl (Fits.kh (growPut (growPut (Grow.refl _) rfl) rfl) rfl ⟨rfl, rfl, rfl, trivial⟩))
      rcases hA with rfl | rfl
      · exact ⟨_, _, _, _, _, rfl, .inl rfl, fin⟩
      · exact ⟨_, _, _, _, _, rfl, .inr ⟨_, rfl⟩, fun _ => fin, fun h => by cases h⟩
  · have e : mo.toNat = 0 := by omega
    rw [e] at hr hO
    cases hr
    exact dvAz hz hO (EndsK.ret (l := [(.int .i64 0), (.bool (!(rtMore mx)))]) (by kernel_rfl) rfl (Fits.kh (growPut (growPut (Grow.refl _) rfl) rfl) rfl ⟨rfl, rfl, rfl, trivial⟩))
theorem drAlone_does (e : TypeId) (S : ArSt) (mx : RetireSt) (mo : Int) (hb : mo < 4611686018427387904) (hO : alOk mo.toNat S mx = true) : DoesC Tryd.prog 16 [.pointer (some ⟨1, 0, none⟩), .iface 27 (.pointer (some ⟨2, 0, none⟩)), .int .i64 mo] (mkH [.cells (intCells .i64 [1, 64, 1, 64]) e false, .mach (.arena S), .mach (.retire mx)]).low (.tuple #[(.int .i64 (((Prod.fst (alN (Int.toNat mo) S mx)) : Nat) : Int)), (.bool (!(rtMore (Prod.snd (Prod.snd (alN (Int.toNat mo) S mx))))))]) (effK (mkH [.cells (intCells .i64 [1, 64, 1, 64]) e false, .mach (.arena S), .mach (.retire mx)]) [(1, .mach (.arena (Prod.fst (Prod.snd (alN (Int.toNat mo) S mx))))), (2, .mach (.retire (Prod.snd (Prod.snd (alN (Int.toNat mo) S mx)))))] []).low := drAlone_at e S mx mo hb hO _ _ _ rfl
noncomputable def rc_drAlone : RC := ⟨[.mach, .imach 27, .int .i64], fun avs => match avs with | [.mach (.arena S), .mach (.retire x), .int m] => ((alOk (Int.toNat m) S x) && (decide (m < 4611686018427387904))) | _ => false,
  fun N avs => match avs with | [.mach (.arena S), .mach (.retire x), .int m] => ((.tuple #[(.int .i64 (((Prod.fst (alN (Int.toNat m) S x)) : Nat) : Int)), (.bool (!(rtMore (Prod.snd (Prod.snd (alN (Int.toNat m) S x))))))]), [(1, .mach (.arena (Prod.fst (Prod.snd (alN (Int.toNat m) S x))))), (2, .mach (.retire (Prod.snd (Prod.snd (alN (Int.toNat m) S x)))))], []) | _ => (.bool false, [], [])⟩
theorem rc_drAlone_does : RcDoes Tryd.prog varL 16 rc_drAlone := by
  intro vb avs args blks hv hs hp
  obtain ⟨e0, rfl⟩ := var1 hv
  cases hs with | mach m_S hs =>
  cases m_S with
  | retire _ => cases hp
  | guard _ => cases hp
  | shield _ => cases hp
  | arena S =>
  cases hs with | imach _ m_x hs =>
  cases m_x with
  | arena _ => cases hp
  | guard _ => cases hp
  | shield _ => cases hp
  | retire x =>
  cases hs with | int m hs =>
  cases hs
  have hp : (alOk (Int.toNat m) S x && decide (m < 4611686018427387904)) = true := hp
  rw [Bool.and_eq_true, decide_eq_true_eq] at hp
  exact drAlone_does e0 S x m hp.2 hp.1
end Go.Proofs.YtfhfbbhoppnbiaaDoor
