import Derived.Test.YtfhfbbhoppnbiaaDoorDrA
import Derived.Test.YtfhfbbhoppnbiaaDoorRtD
import Derived.WalkKit
import Derived.ProofKit
import Derived.OpenShut
import Derived.ChangeOld
import Derived.Below
import Derived.SizedLaws
namespace Go.Proofs.YtfhfbbhoppnbiaaDoor
open Go.Eng
open Go.ChangeShapes Go.WideShapes Go.ChangeAt Go.RowKit
set_option linter.unusedVariables false
set_option linter.unusedSimpArgs false
set_option maxRecDepth 100000
theorem rt_zero {x : RetireSt} (h : rtMore x = false) : rtK x = 0 ∧ rtB x = 0 ∧ rtC x = 0 := by
  unfold rtMore at h
  unfold rtK rtB rtC
  cases hl : x.looks with
  | false => exact ⟨rfl, rfl, rfl⟩
  | true =>
    rw [hl, Bool.true_and, Bool.or_eq_false_iff] at h
    rw [h.1, h.2]; exact ⟨rfl, rfl, rfl⟩
theorem rt_actp {x : RetireSt} (hk : rtOk x = true) (hm : rtMore x = true) : actP (rtK x) (rtB x) (rtC x) 0 0 = true := by
  cases rtOk_shp hk with
  | a => cases hm
  | b => cases hm
  | c => cases hm
  | d dk th ts kp sd t a fr w ws hl ht htt hts ha haw =>
    unfold rtMore at hm
    unfold rtK rtB rtC actP
    by_cases h1 : t < ts
    · simp only [decide_eq_true h1, cond_true]
      exact decide_eq_true (.inl ⟨rfl, by omega, rfl, rfl⟩)
    · simp only [decide_eq_false h1, cond_false, cond_true, Bool.false_or, Bool.true_and] at hm ⊢
      simp only [hm, cond_true]
      exact decide_eq_true (.inr (.inr (.inr (.inr (.inr ⟨rfl, rfl, rfl, rfl⟩)))))
  | f dk th ts kp sd t a fr w ws r rs hl hr ht htt hts ha haw hra =>
    unfold rtMore at hm
    unfold rtK rtB rtC actP
    by_cases h1 : t < ts
    · simp only [decide_eq_true h1, cond_true]
      exact decide_eq_true (.inl ⟨rfl, by omega, rfl, rfl⟩)
    · simp only [decide_eq_false h1, cond_false, cond_true, Bool.false_or, Bool.true_and] at hm ⊢
      simp only [hm, cond_true]
      exact decide_eq_true (.inr (.inr (.inr (.inr (.inr ⟨rfl, rfl, rfl, rfl⟩)))))
noncomputable def cfgNx : Cfg := ⟨[]⟩
noncomputable def fsNx : List FuncId := [10, 14, 20, 47]
theorem fitNx : Fit Tryd.prog cfgNx fsNx := ⟨by kernel_rfl, Cfg.ok_of (by kernel_rfl), by kernel_rfl⟩
def nxG (S : ArSt) (x : RetireSt) : Int := bif rtMore x then actG S (rtK x) (rtB x) (rtC x) else 0
def nxS (S : ArSt) (x : RetireSt) : ArSt := bif rtMore x then actS S (rtK x) (rtB x) (rtC x) 0 0 else S
def nxX (S : ArSt) (x : RetireSt) : RetireSt := bif rtMore x then rtTake x (nxG S x) else x
noncomputable def nxtT : RTab := fun f => match f with
  | 10 => some rc_rtAct
  | 14 => some rc_actDo
  | 20 => some rc_rtTake
  | _ => none
def nxtDom : List FuncId := [10, 14, 20]
theorem nxt_does : ∀ f rc, f ∈ nxtDom → nxtT f = some rc → RcDoes Tryd.prog varL f rc := by
  intro f rc hf hT
  simp only [nxtDom, List.mem_cons, List.not_mem_nil, or_false] at hf
  rcases hf with rfl | rfl | rfl
  · cases hT; exact rc_rtAct_does
  · cases hT; exact rc_actDo_does
  · cases hT; exact rc_rtTake_does
theorem nxt_fn : ∀ f ∈ nxtDom, FnOk Tryd.prog f := fun f hf => fitNx.fnOk f (by
    have h0 : (nxtDom.all fun f => fsNx.contains f) = true := by kernel_rfl
    simpa using List.all_eq_true.1 h0 f hf)
theorem nxt_sound : SoundC Tryd.prog (conC nxtDom (rcE varL nxtT)) := rc_sound oneVar nxt_fn nxt_does
noncomputable def BdvN : Code := bodyOf Tryd.prog 47
theorem BdvN_is : Tryd.f47.body = some BdvN := by kernel_rfl
noncomputable abbrev dvNH (e : TypeId) (S : ArSt) (mx : RetireSt) : AH := (KH.low ⟨3, 1, [(0, 0, .cells [(.int .i64 1), (.int .i64 64), (.int .i64 1), (.int .i64 64)] e false), (1, 0, .mach (.arena S)), (2, 0, .mach (.retire mx))]⟩)
noncomputable abbrev dvNEA (c : Code) (lv p : List Nat) (st : Option (List Nat)) (ws : List Bool) (s : KSt) : Option Rs := evA (evCK Tryd.prog cfgNx (runK Tryd.prog cfgNx fsNx (conTk nxtDom (rcK varL nxtT)) 14 40) 14) (stopW 3 lv) p c st ws s (finW 3 lv)
theorem dvNfi_ {c_ : Code} {lv_ p_ : List Nat} {ws_ : List Bool} {st_ s' : KSt} {x : Ex} {Q : Ex → St → Prop} {e : TypeId} {S : ArSt} {mx : RetireSt} (hE_ : dvNEA c_ lv_ p_ none ws_ st_ = some (.fin x s')) (hq_ : Q x s'.low) (hok_ : okCode Tryd.prog.globals.size c_ = true := by kernel_rfl) : AtW Tryd.prog (dvNH e S mx) c_ p_ st_ Q := AtW.fin fitNx nxt_sound (rc_agree _ _ _) 14 40 hok_ hE_ hq_
section
variable (e : TypeId) (S : ArSt) (mx : RetireSt)
noncomputable def dvNS0 : KSt := (firstK [(.pointer (some ⟨1, 0, none⟩)), (.iface 27 (.pointer (some ⟨2, 0, none⟩)))] 29 ⟨3, 1, [(0, 0, .cells [(.int .i64 1), (.int .i64 64), (.int .i64 1), (.int .i64 64)] e false), (1, 0, .mach (.arena S)), (2, 0, .mach (.retire mx))]⟩)
noncomputable def dvNS1 : KSt := ⟨(frameL 29 [(4, (.pointer (some ⟨3, 0, none⟩))), (5, (.int .u64 (actG S (rtK mx) (rtB mx) (rtC mx)))), (6, (.bool true))]), ⟨4, 1, [(3, 0, .cells [(.int .i64 (rtK mx)), (.int .u64 (rtB mx)), (.int .i64 (rtC mx)), (.int .u64 0), (.int .u64 0)] 32 true), (0, 0, .cells [(.int .i64 1), (.int .i64 64), (.int .i64 1), (.int .i64 64)] e false), (1, 0, .mach (.arena (actS S (rtK mx) (rtB mx) (rtC mx) 0 0))), (2, 0, .mach (.retire (rtTake mx (actG S (rtK mx) (rtB mx) (rtC mx)))))]⟩⟩
theorem dvNW1 : dvNEA BdvN [4, 5, 6] [] none [false, false] (dvNS0 e S mx) =
  bif (rtOk mx) then
    bif (!(rtMore mx)) then
      none
    else
      bif (actP (rtK mx) (rtB mx) (rtC mx) 0 0) then
        bif (rtOk mx) then
          some (.fin .ret (dvNS1 e S mx))
        else
          none
      else
        none
  else
    none := by kernel_rfl
noncomputable def dvNS2 : KSt := ⟨(frameL 29 [(4, (.pointer (some ⟨3, 0, none⟩))), (5, (.int .u64 0)), (6, (.bool false))]), ⟨4, 1, [(3, 0, .cells [(.int .i64 0), (.int .u64 0), (.int .i64 0), (.int .u64 0), (.int .u64 0)] 32 true), (0, 0, .cells [(.int .i64 1), (.int .i64 64), (.int .i64 1), (.int .i64 64)] e false), (1, 0, .mach (.arena S)), (2, 0, .mach (.retire mx))]⟩⟩
theorem dvNW2 : dvNEA BdvN [4, 5, 6] [] none [false, true] (dvNS0 e S mx) =
  bif (rtOk mx) then
    bif (!(rtMore mx)) then
      some (.fin .ret (dvNS2 e S mx))
    else
      none
  else
    none := by kernel_rfl
end
theorem dvNm {mx : RetireSt} {e : TypeId} {S : ArSt} (hk : rtOk mx = true) (hm : rtMore mx = true) (hp : actP (rtK mx) (rtB mx) (rtC mx) 0 0 = true)   {Q : Ex → St → Prop} (hq : Q .ret (KSt.low (dvNS1 e S mx))) : Gets Tryd.prog (dvNH e S mx) BdvN (KSt.low (dvNS0 e S mx)) Q := by
  refine AtW.gets ?_
  exact dvNfi_ ((dvNW1 ..).trans (by rw [condT (hk), condF (not_f (hm)), condT (hp), condT (hk)])) hq
theorem dvNz {mx : RetireSt} {e : TypeId} {S : ArSt} (hk : rtOk mx = true) (hm : rtMore mx = false)   {Q : Ex → St → Prop} (hq : Q .ret (KSt.low (dvNS2 e S mx))) : Gets Tryd.prog (dvNH e S mx) BdvN (KSt.low (dvNS0 e S mx)) Q := by
  refine AtW.gets ?_
  exact dvNfi_ ((dvNW2 ..).trans (by rw [condT (hk), condT (not_t (hm))])) hq
theorem drNext_does (e : TypeId) (S : ArSt) (x : RetireSt) (hk : rtOk x = true) : DoesC Tryd.prog 47 [.pointer (some ⟨1, 0, none⟩), .iface 27 (.pointer (some ⟨2, 0, none⟩))] (mkH [.cells (intCells .i64 [1, 64, 1, 64]) e false, .mach (.arena S), .mach (.retire x)]).low (.tuple #[(.agg #[(.int .i64 (rtK x)), (.int .u64 (rtB x)), (.int .i64 (rtC x)), (.int .u64 0), (.int .u64 0)]), (.int .u64 (nxG S x)), (.bool (rtMore x))]) (effK (mkH [.cells (intCells .i64 [1, 64, 1, 64]) e false, .mach (.arena S), .mach (.retire x)]) [(1, .mach (.arena (nxS S x))), (2, .mach (.retire (nxX S x)))] [.cells [(.int .i64 (rtK x)), (.int .u64 (rtB x)), (.int .i64 (rtC x)), (.int .u64 0), (.int .u64 0)] 32 true]).low := by
  cases hm : rtMore x with
  | true =>
    have e1 : nxG S x = actG S (rtK x) (rtB x) (rtC x) := by unfold nxG; rw [hm]; rfl
    have e2 : nxS S x = actS S (rtK x) (rtB x) (rtC x) 0 0 := by unfold nxS; rw [hm]; rfl
    have e3 : nxX S x = rtTake x (actG S (rtK x) (rtB x) (rtC x)) := by unfold nxX; rw [hm, e1]; rfl
    rw [e1, e2, e3]
    refine EndsK.does (h := mkH [.cells [(.int .i64 1), (.int .i64 64), (.int .i64 1), (.int .i64 64)] e false, .mach (.arena S), .mach (.retire x)]) (h' := KH.new (KH.put (KH.put (mkH [.cells [(.int .i64 1), (.int .i64 64), (.int .i64 1), (.int .i64 64)] e false, .mach (.arena S), .mach (.retire x)]) 1 (.mach (.arena (actS S (rtK x) (rtB x) (rtC x) 0 0)))) 2 (.mach (.retire (rtTake x (actG S (rtK x) (rtB x) (rtC x)))))) (.cells [(.int .i64 (rtK x)), (.int .u64 (rtB x)), (.int .i64 (rtC x)), (.int .u64 0), (.int .u64 0)] 32 true)) Tryd.func47 BdvN_is (by rw [oneVar]; exact Nat.le_add_left _ _) ?_
    exact dvNm hk hm (rt_actp hk hm) (EndsK.ret (l := [(.agg #[(.int .i64 (rtK x)), (.int .u64 (rtB x)), (.int .i64 (rtC x)), (.int .u64 0), (.int .u64 0)]), .int .u64 (actG S (rtK x) (rtB x) (rtC x)), .bool true]) (by kernel_rfl) rfl (Fits.kh (growNew (growPut (growPut (Grow.refl _) rfl) rfl)) rfl ⟨rfl, rfl, rfl, rfl, trivial⟩))
  | false =>
    have e1 : nxG S x = 0 := by unfold nxG; rw [hm]; rfl
    have e2 : nxS S x = S := by unfold nxS; rw [hm]; rfl
    have e3 : nxX S x = x := by unfold nxX; rw [hm]; rfl
    obtain ⟨zK, zB, zC⟩ := rt_zero hm
    rw [e1, e2, e3, zK, zB, zC]
    refine EndsK.does (h := mkH [.cells [(.int .i64 1), (.int .i64 64), (.int .i64 1), (.int .i64 64)] e false, .mach (.arena S), .mach (.retire x)]) (h' := KH.new (KH.put (KH.put (mkH [.cells [(.int .i64 1), (.int .i64 64), (.int .i64 1), (.int .i64 64)] e false, .mach (.arena S), .mach (.retire x)]) 1 (.mach (.arena S))) 2 (.mach (.retire x))) (.cells [(.int .i64 0), (.int .u64 0), (.int .i64 0), (.int .u64 0), (.int .u64 0)] 32 true)) Tryd.func47 BdvN_is (by rw [oneVar]; exact Nat.le_add_left _ _) ?_
    exact dvNz hk hm (EndsK.ret (l := [.agg #[(.int .i64 0), (.int .u64 0), (.int .i64 0), (.int .u64 0), (.int .u64 0)], .int .u64 0, .bool false]) (by kernel_rfl) rfl (Fits.kh (growNew (growPut (growPut (Grow.refl _) rfl) rfl)) rfl ⟨rfl, rfl, rfl, rfl, trivial⟩))
noncomputable def rc_drNext : RC := ⟨[.mach, .imach 27], fun avs => match avs with | [.mach (.arena S), .mach (.retire x)] => (rtOk x) | _ => false,
  fun N avs => match avs with | [.mach (.arena S), .mach (.retire x)] => ((.tuple #[(.agg #[(.int .i64 (rtK x)), (.int .u64 (rtB x)), (.int .i64 (rtC x)), (.int .u64 0), (.int .u64 0)]), (.int .u64 (nxG S x)), (.bool (rtMore x))]), [(1, .mach (.arena (nxS S x))), (2, .mach (.retire (nxX S x)))], [.cells [(.int .i64 (rtK x)), (.int .u64 (rtB x)), (.int .i64 (rtC x)), (.int .u64 0), (.int .u64 0)] 32 true]) | _ => (.bool false, [], [])⟩
theorem rc_drNext_does : RcDoes Tryd.prog varL 47 rc_drNext := by
  intro vb avs args blks hv hs hp
  obtain ⟨e0, rfl⟩ := var1 hv
  cases hs with | mach m_S hs =>
  cases m_S with
  | retire _ => cases hp
  | guard _ => cases hp
  | shield _ => cases hp
  | arena S =>
  cases hs with | imach _ m_x hs =>
  cases m_x with
  | arena _ => cases hp
  | guard _ => cases hp
  | shield _ => cases hp
  | retire x =>
  cases hs
  exact drNext_does e0 S x hp
end Go.Proofs.YtfhfbbhoppnbiaaDoor
