import Derived.Test.YtfhfbbhoppnbiaaDoorRtJ
import Derived.WalkKit
import Derived.ProofKit
import Derived.OpenShut
import Derived.ChangeOld
import Derived.Below
import Derived.SizedLaws
namespace Go.Proofs.YtfhfbbhoppnbiaaDoor
open Go.Eng
open Go.ChangeShapes Go.WideShapes Go.ChangeAt Go.RowKit
set_option linter.unusedVariables false
set_option linter.unusedSimpArgs false
set_option maxRecDepth 100000
noncomputable def cfgK : Cfg := ⟨[]⟩
noncomputable def fsK : List FuncId := [24, 43, 51]
theorem fitK : Fit Tryd.prog cfgK fsK := ⟨by kernel_rfl, Cfg.ok_of (by kernel_rfl), by kernel_rfl⟩
noncomputable def BJs : Code := bodyOf Tryd.prog 24
theorem BJs_is : Tryd.f24.body = some BJs := by kernel_rfl
noncomputable abbrev JsH (e : TypeId) (off n c : Nat) (ta : Int) (tv : Bool) (tk tb tc to tn : Int) (et : TypeId) (l : List Int) (g_ : TypeId) (off2 : Nat) (m : List Int) (g2 : TypeId) : AH := (KH.low ⟨4, 1, [(0, 0, .cells [(.int .i64 1), (.int .i64 64), (.int .i64 1), (.int .i64 64)] e false), (1, 0, .cells [(.slice (some ⟨2, off, none⟩) n c), (.int .i64 ta), (.bool tv), (.int .i64 tk), (.int .u64 tb), (.int .i64 tc), (.int .u64 to), (.int .u64 tn)] et true), (2, 0, .tail off .u64 l g_), (3, 0, .tail off2 .u64 m g2)]⟩)
noncomputable abbrev JsEA (c : Code) (lv p : List Nat) (st : Option (List Nat)) (ws : List Bool) (s : KSt) : Option Rs := evA (evCK Tryd.prog cfgK (runK Tryd.prog cfgK fsK noT 14 40) 14) (stopW 4 lv) p c st ws s (finW 4 lv)
theorem Jsto {c_ : Code} {lv_ p_ p2_ : List Nat} {ws_ : List Bool} {st_ s' : KSt} {Q : Ex → St → Prop} {e : TypeId} {off n c : Nat} {ta : Int} {tv : Bool} {tk tb tc to tn : Int} {et : TypeId} {l : List Int} {g_ : TypeId} {off2 : Nat} {m : List Int} {g2 : TypeId} (hE_ : JsEA c_ lv_ p_ (some p2_) ws_ st_ = some (.stop s')) (hq_ : AtW Tryd.prog (JsH e off n c ta tv tk tb tc to tn et l g_ off2 m g2) c_ p2_ s' Q) (hok_ : okCode Tryd.prog.globals.size c_ = true := by kernel_rfl) : AtW Tryd.prog (JsH e off n c ta tv tk tb tc to tn et l g_ off2 m g2) c_ p_ st_ Q := AtW.to fitK SoundC.no AgreeT.no 14 40 hok_ hE_ hq_
theorem Jsfi {c_ : Code} {lv_ p_ : List Nat} {ws_ : List Bool} {st_ s' : KSt} {x : Ex} {Q : Ex → St → Prop} {e : TypeId} {off n c : Nat} {ta : Int} {tv : Bool} {tk tb tc to tn : Int} {et : TypeId} {l : List Int} {g_ : TypeId} {off2 : Nat} {m : List Int} {g2 : TypeId} (hE_ : JsEA c_ lv_ p_ none ws_ st_ = some (.fin x s')) (hq_ : Q x s'.low) (hok_ : okCode Tryd.prog.globals.size c_ = true := by kernel_rfl) : AtW Tryd.prog (JsH e off n c ta tv tk tb tc to tn et l g_ off2 m g2) c_ p_ st_ Q := AtW.fin fitK SoundC.no AgreeT.no 14 40 hok_ hE_ hq_
section
variable (dk th ts kp sd : Int) (off2 c2 : Nat) (e : TypeId) (off n c : Nat) (ta : Int) (tv : Bool) (tk tb tc to tn : Int) (et : TypeId) (l : List Int) (g_ : TypeId) (m : List Int) (g2 : TypeId)
noncomputable abbrev JsO0 (off n c : Nat) (ta : Int) (tv : Bool) (tk tb tc to tn : Int) (et : TypeId) : KObj := .cells [(.slice (some ⟨2, off, none⟩) n c), (.int .i64 ta), (.bool tv), (.int .i64 tk), (.int .u64 tb), (.int .i64 tc), (.int .u64 to), (.int .u64 tn)] et true
noncomputable def JsS0 : KSt := (firstK [(.pointer (some ⟨1, 0, none⟩)), (.agg #[(.int .u64 dk), (.int .i64 th), (.int .i64 ts), (.int .i64 kp), (.int .u64 sd)]), (.slice (some ⟨3, off2, none⟩) 0 c2)] 59 ⟨4, 1, [(0, 0, .cells [(.int .i64 1), (.int .i64 64), (.int .i64 1), (.int .i64 64)] e false), (1, 0, (JsO0 off n c ta tv tk tb tc to tn et)), (2, 0, .tail off .u64 l g_), (3, 0, .tail off2 .u64 m g2)]⟩)
noncomputable def JsS1 : KSt := ⟨(frameL 59 [(0, (.pointer (some ⟨1, 0, none⟩))), (2, (.slice (some ⟨3, off2, none⟩) 0 c2)), (7, (.slice (some ⟨4, 0, none⟩) 0 0)), (8, (.slice (some ⟨5, 0, none⟩) 0 0))]), ⟨6, 1, [(5, 0, .cells [] 22 true), (4, 0, .cells [] 22 true), (0, 0, .cells [(.int .i64 1), (.int .i64 64), (.int .i64 1), (.int .i64 64)] e false), (1, 0, (JsO0 off n c ta tv tk tb tc to tn et)), (2, 0, .tail off .u64 l g_), (3, 0, .tail off2 .u64 m g2)]⟩⟩
theorem JsW1 : JsEA BJs [0, 2, 7, 8] [] (some [1, 1, 1, 1]) [true] (JsS0 dk th ts kp sd off2 c2 e off n c ta tv tk tb tc to tn et l g_ m g2) =
  bif (decide (0 < ts)) then
    some (.stop (JsS1 off2 c2 e off n c ta tv tk tb tc to tn et l g_ m g2))
  else
    some (.stop (JsS1 off2 c2 e off n c ta tv tk tb tc to tn et l g_ m g2)) := by kernel_rfl
noncomputable def JsS2 : KSt := ⟨(frameL 59 [(6, (.slice (some ⟨4, 0, none⟩) 0 0))]), ⟨5, 1, [(4, 0, .cells [] 22 true), (0, 0, .cells [(.int .i64 1), (.int .i64 64), (.int .i64 1), (.int .i64 64)] e false), (1, 0, (JsO0 off n c ta tv tk tb tc to tn et)), (2, 0, .tail off .u64 l g_), (3, 0, .tail off2 .u64 m g2)]⟩⟩
theorem JsW2 : JsEA BJs [6] [1, 1, 1, 1] none [true] (JsS1 off2 c2 e off n c ta tv tk tb tc to tn et l g_ m g2) =
  some (.fin .ret (JsS2 off2 e off n c ta tv tk tb tc to tn et l g_ m g2)) := by kernel_rfl
end
theorem Jsk {ts : Int} {off2 : Nat} {e : TypeId} {off n c : Nat} {ta : Int} {tv : Bool} {tk tb tc to tn : Int} {et : TypeId} {l : List Int} {g_ : TypeId} {m : List Int} {g2 : TypeId} {dk th kp sd : Int} {c2 : Nat} (h1 : 1 ≤ ts)   {Q : Ex → St → Prop} (hq : Q .ret (KSt.low (JsS2 off2 e off n c ta tv tk tb tc to tn et l g_ m g2))) : Gets Tryd.prog (JsH e off n c ta tv tk tb tc to tn et l g_ off2 m g2) BJs (KSt.low (JsS0 dk th ts kp sd off2 c2 e off n c ta tv tk tb tc to tn et l g_ m g2)) Q := by
  refine AtW.gets ?_
  refine Jsto ((JsW1 ..).trans (by rw [dT])) ?_
  exact Jsfi (JsW2 ..) hq
noncomputable def BJz : Code := bodyOf Tryd.prog 24
theorem BJz_is : Tryd.f24.body = some BJz := by kernel_rfl
noncomputable abbrev JzH (e : TypeId) (off n c : Nat) (ta : Int) (tv : Bool) (tk tb tc to tn : Int) (et : TypeId) (l : List Int) (g_ : TypeId) : AH := (KH.low ⟨3, 1, [(0, 0, .cells [(.int .i64 1), (.int .i64 64), (.int .i64 1), (.int .i64 64)] e false), (1, 0, .cells [(.slice (some ⟨2, off, none⟩) n c), (.int .i64 ta), (.bool tv), (.int .i64 tk), (.int .u64 tb), (.int .i64 tc), (.int .u64 to), (.int .u64 tn)] et true), (2, 0, .tail off .u64 l g_)]⟩)
noncomputable abbrev JzEA (c : Code) (lv p : List Nat) (st : Option (List Nat)) (ws : List Bool) (s : KSt) : Option Rs := evA (evCK Tryd.prog cfgK (runK Tryd.prog cfgK fsK noT 14 40) 14) (stopW 3 lv) p c st ws s (finW 3 lv)
theorem Jzto {c_ : Code} {lv_ p_ p2_ : List Nat} {ws_ : List Bool} {st_ s' : KSt} {Q : Ex → St → Prop} {e : TypeId} {off n c : Nat} {ta : Int} {tv : Bool} {tk tb tc to tn : Int} {et : TypeId} {l : List Int} {g_ : TypeId} (hE_ : JzEA c_ lv_ p_ (some p2_) ws_ st_ = some (.stop s')) (hq_ : AtW Tryd.prog (JzH e off n c ta tv tk tb tc to tn et l g_) c_ p2_ s' Q) (hok_ : okCode Tryd.prog.globals.size c_ = true := by kernel_rfl) : AtW Tryd.prog (JzH e off n c ta tv tk tb tc to tn et l g_) c_ p_ st_ Q := AtW.to fitK SoundC.no AgreeT.no 14 40 hok_ hE_ hq_
theorem Jzfi {c_ : Code} {lv_ p_ : List Nat} {ws_ : List Bool} {st_ s' : KSt} {x : Ex} {Q : Ex → St → Prop} {e : TypeId} {off n c : Nat} {ta : Int} {tv : Bool} {tk tb tc to tn : Int} {et : TypeId} {l : List Int} {g_ : TypeId} (hE_ : JzEA c_ lv_ p_ none ws_ st_ = some (.fin x s')) (hq_ : Q x s'.low) (hok_ : okCode Tryd.prog.globals.size c_ = true := by kernel_rfl) : AtW Tryd.prog (JzH e off n c ta tv tk tb tc to tn et l g_) c_ p_ st_ Q := AtW.fin fitK SoundC.no AgreeT.no 14 40 hok_ hE_ hq_
section
variable (dk th ts kp sd : Int) (e : TypeId) (off n c : Nat) (ta : Int) (tv : Bool) (tk tb tc to tn : Int) (et : TypeId) (l : List Int) (g_ : TypeId)
noncomputable abbrev JzO0 (off n c : Nat) (ta : Int) (tv : Bool) (tk tb tc to tn : Int) (et : TypeId) : KObj := .cells [(.slice (some ⟨2, off, none⟩) n c), (.int .i64 ta), (.bool tv), (.int .i64 tk), (.int .u64 tb), (.int .i64 tc), (.int .u64 to), (.int .u64 tn)] et true
noncomputable def JzS0 : KSt := (firstK [(.pointer (some ⟨1, 0, none⟩)), (.agg #[(.int .u64 dk), (.int .i64 th), (.int .i64 ts), (.int .i64 kp), (.int .u64 sd)]), (.slice (some ⟨0, 0, some 0⟩) 0 0)] 59 ⟨3, 1, [(0, 0, .cells [(.int .i64 1), (.int .i64 64), (.int .i64 1), (.int .i64 64)] e false), (1, 0, (JzO0 off n c ta tv tk tb tc to tn et)), (2, 0, .tail off .u64 l g_)]⟩)
noncomputable def JzS1 : KSt := ⟨(frameL 59 [(0, (.pointer (some ⟨1, 0, none⟩))), (2, (.slice (some ⟨0, 0, some 0⟩) 0 0)), (7, (.slice (some ⟨3, 0, none⟩) 0 0)), (8, (.slice (some ⟨4, 0, none⟩) 0 0))]), ⟨5, 1, [(4, 0, .cells [] 22 true), (3, 0, .cells [] 22 true), (0, 0, .cells [(.int .i64 1), (.int .i64 64), (.int .i64 1), (.int .i64 64)] e false), (1, 0, (JzO0 off n c ta tv tk tb tc to tn et)), (2, 0, .tail off .u64 l g_)]⟩⟩
theorem JzW1 : JzEA BJz [0, 2, 7, 8] [] (some [1, 1, 1, 1]) [true] (JzS0 dk th ts kp sd e off n c ta tv tk tb tc to tn et l g_) =
  bif (decide (0 < ts)) then
    some (.stop (JzS1 e off n c ta tv tk tb tc to tn et l g_))
  else
    some (.stop (JzS1 e off n c ta tv tk tb tc to tn et l g_)) := by kernel_rfl
noncomputable def JzS2 : KSt := ⟨(frameL 59 [(6, (.slice (some ⟨3, 0, none⟩) 0 0))]), ⟨4, 1, [(3, 0, .cells [] 22 true), (0, 0, .cells [(.int .i64 1), (.int .i64 64), (.int .i64 1), (.int .i64 64)] e false), (1, 0, (JzO0 off n c ta tv tk tb tc to tn et)), (2, 0, .tail off .u64 l g_)]⟩⟩
theorem JzW2 : JzEA BJz [6] [1, 1, 1, 1] none [true] (JzS1 e off n c ta tv tk tb tc to tn et l g_) =
  some (.fin .ret (JzS2 e off n c ta tv tk tb tc to tn et l g_)) := by kernel_rfl
end
theorem Jzk {ts : Int} {e : TypeId} {off n c : Nat} {ta : Int} {tv : Bool} {tk tb tc to tn : Int} {et : TypeId} {l : List Int} {g_ : TypeId} {dk th kp sd : Int} (h1 : 1 ≤ ts)   {Q : Ex → St → Prop} (hq : Q .ret (KSt.low (JzS2 e off n c ta tv tk tb tc to tn et l g_))) : Gets Tryd.prog (JzH e off n c ta tv tk tb tc to tn et l g_) BJz (KSt.low (JzS0 dk th ts kp sd e off n c ta tv tk tb tc to tn et l g_)) Q := by
  refine AtW.gets ?_
  refine Jzto ((JzW1 ..).trans (by rw [dT])) ?_
  exact Jzfi (JzW2 ..) hq
noncomputable def slRow (x : Value) : Bool := match x with
  | .slice (some ⟨_, _, none⟩) _ _ => true
  | _ => false
theorem rlk1 (e : TypeId) (dk th ts kp sd : Int) (h1 : 1 ≤ ts) (off n c : Nat) (l : List Int) (g_ et : TypeId) (T : TpS) (off2 c2 : Nat) (m : List Int) (g2 : TypeId) : DoesC Tryd.prog 24 [.pointer (some ⟨1, 0, none⟩), (.agg #[(.int .u64 dk), (.int .i64 th), (.int .i64 ts), (.int .i64 kp), (.int .u64 sd)]), .slice (some ⟨3, off2, none⟩) 0 c2] (mkH [.cells [(.int .i64 1), (.int .i64 64), (.int .i64 1), (.int .i64 64)] e false, .cells [(.slice (some ⟨2, off, none⟩) n c), (.int .i64 T.at_), (.bool T.ov), (.int .i64 T.k), (.int .u64 T.b), (.int .i64 T.c), (.int .u64 T.o), (.int .u64 T.n)] et true, .tail off .u64 l g_, .tail off2 .u64 m g2]).low (.slice (some ⟨4, 0, none⟩) 0 0) (effK (mkH [.cells [(.int .i64 1), (.int .i64 64), (.int .i64 1), (.int .i64 64)] e false, .cells [(.slice (some ⟨2, off, none⟩) n c), (.int .i64 T.at_), (.bool T.ov), (.int .i64 T.k), (.int .u64 T.b), (.int .i64 T.c), (.int .u64 T.o), (.int .u64 T.n)] et true, .tail off .u64 l g_, .tail off2 .u64 m g2]) [(1, .cells [(.slice (some ⟨2, off, none⟩) n c), .int .i64 (TpS.at_ T), .bool (TpS.ov T), .int .i64 (TpS.k T), .int .u64 (TpS.b T), .int .i64 (TpS.c T), .int .u64 (TpS.o T), .int .u64 (TpS.n T)] et true)] [.ints .u64 [] 22 true]).low := by
  refine EndsR.does Tryd.func24 BJs_is (by rw [oneVar]; exact Nat.le_add_left _ _) ?_
  show Gets Tryd.prog (KH.low ⟨4, 1, [(0, 0, .cells [(.int .i64 1), (.int .i64 64), (.int .i64 1), (.int .i64 64)] e false), (1, 0, .cells [(.slice (some ⟨2, off, none⟩) n c), (.int .i64 T.at_), (.bool T.ov), (.int .i64 T.k), (.int .u64 T.b), (.int .i64 T.c), (.int .u64 T.o), (.int .u64 T.n)] et true), (2, 0, .tail off .u64 l g_), (3, 0, .tail off2 .u64 m g2)]⟩) BJs (KSt.low (JsS0 dk th ts kp sd off2 c2 e off n c T.at_ T.ov T.k T.b T.c T.o T.n et l g_ m g2)) _
  exact Jsk h1 (EndsR.ret (l := [.slice (some ⟨4, 0, none⟩) 0 0]) (by kernel_rfl) rfl (fitsPN (by kernel_rfl) (by kernel_rfl) (by kernel_rfl) (Nat.le_refl _)))
theorem rlk0 (e : TypeId) (dk th ts kp sd : Int) (h1 : 1 ≤ ts) (off n c : Nat) (l : List Int) (g_ et : TypeId) (T : TpS) : DoesC Tryd.prog 24 [.pointer (some ⟨1, 0, none⟩), (.agg #[(.int .u64 dk), (.int .i64 th), (.int .i64 ts), (.int .i64 kp), (.int .u64 sd)]), slice0V] (mkH [.cells [(.int .i64 1), (.int .i64 64), (.int .i64 1), (.int .i64 64)] e false, .cells [(.slice (some ⟨2, off, none⟩) n c), (.int .i64 T.at_), (.bool T.ov), (.int .i64 T.k), (.int .u64 T.b), (.int .i64 T.c), (.int .u64 T.o), (.int .u64 T.n)] et true, .tail off .u64 l g_]).low (.slice (some ⟨3, 0, none⟩) 0 0) (effK (mkH [.cells [(.int .i64 1), (.int .i64 64), (.int .i64 1), (.int .i64 64)] e false, .cells [(.slice (some ⟨2, off, none⟩) n c), (.int .i64 T.at_), (.bool T.ov), (.int .i64 T.k), (.int .u64 T.b), (.int .i64 T.c), (.int .u64 T.o), (.int .u64 T.n)] et true, .tail off .u64 l g_]) [(1, .cells [(.slice (some ⟨2, off, none⟩) n c), .int .i64 (TpS.at_ T), .bool (TpS.ov T), .int .i64 (TpS.k T), .int .u64 (TpS.b T), .int .i64 (TpS.c T), .int .u64 (TpS.o T), .int .u64 (TpS.n T)] et true)] [.ints .u64 [] 22 true]).low := by
  refine EndsR.does Tryd.func24 BJz_is (by rw [oneVar]; exact Nat.le_add_left _ _) ?_
  show Gets Tryd.prog (KH.low ⟨3, 1, [(0, 0, .cells [(.int .i64 1), (.int .i64 64), (.int .i64 1), (.int .i64 64)] e false), (1, 0, .cells [(.slice (some ⟨2, off, none⟩) n c), (.int .i64 T.at_), (.bool T.ov), (.int .i64 T.k), (.int .u64 T.b), (.int .i64 T.c), (.int .u64 T.o), (.int .u64 T.n)] et true), (2, 0, .tail off .u64 l g_)]⟩) BJz (KSt.low (JzS0 dk th ts kp sd e off n c T.at_ T.ov T.k T.b T.c T.o T.n et l g_)) _
  exact Jzk h1 (EndsR.ret (l := [.slice (some ⟨3, 0, none⟩) 0 0]) (by kernel_rfl) rfl (fitsPN (by kernel_rfl) (by kernel_rfl) (by kernel_rfl) (Nat.le_refl _)))
noncomputable def rc_rLook (rlLook : List Int → Int → Int → TpS → List Int → TpS × List Int) : RC := ⟨[.tape, .val, .row .u64], fun avs => match avs with | [.tape l [.int .i64 ta, .bool tv, .int .i64 tk, .int .u64 tb, .int .i64 tc, .int .u64 to, .int .u64 tn] sl e, .val x, .row m] => slRow sl && (siteOk x && ((decide (0 ≤ ta)) && ((Nat.ble (List.length l) 1000) && (Nat.ble (List.length m) 1000)))) | _ => false,
  fun N avs => match avs with | [.tape l [.int .i64 ta, .bool tv, .int .i64 tk, .int .u64 tb, .int .i64 tc, .int .u64 to, .int .u64 tn] sl e, .val x, .row m] => (.slice (some ⟨N, 0, none⟩) (List.length (Prod.snd (rlLook l (SiteSt.desk (siteOf x)) (SiteSt.threads (siteOf x)) (TpS.mk ta tv tk tb tc to tn) m))) (List.length (Prod.snd (rlLook l (SiteSt.desk (siteOf x)) (SiteSt.threads (siteOf x)) (TpS.mk ta tv tk tb tc to tn) m))), [(1, .cells [sl, (.int .i64 (TpS.at_ (Prod.fst (rlLook l (SiteSt.desk (siteOf x)) (SiteSt.threads (siteOf x)) (TpS.mk ta tv tk tb tc to tn) m)))), (.bool (TpS.ov (Prod.fst (rlLook l (SiteSt.desk (siteOf x)) (SiteSt.threads (siteOf x)) (TpS.mk ta tv tk tb tc to tn) m)))), (.int .i64 (TpS.k (Prod.fst (rlLook l (SiteSt.desk (siteOf x)) (SiteSt.threads (siteOf x)) (TpS.mk ta tv tk tb tc to tn) m)))), (.int .u64 (TpS.b (Prod.fst (rlLook l (SiteSt.desk (siteOf x)) (SiteSt.threads (siteOf x)) (TpS.mk ta tv tk tb tc to tn) m)))), (.int .i64 (TpS.c (Prod.fst (rlLook l (SiteSt.desk (siteOf x)) (SiteSt.threads (siteOf x)) (TpS.mk ta tv tk tb tc to tn) m)))), (.int .u64 (TpS.o (Prod.fst (rlLook l (SiteSt.desk (siteOf x)) (SiteSt.threads (siteOf x)) (TpS.mk ta tv tk tb tc to tn) m)))), (.int .u64 (TpS.n (Prod.fst (rlLook l (SiteSt.desk (siteOf x)) (SiteSt.threads (siteOf x)) (TpS.mk ta tv tk tb tc to tn) m))))] e true)], [.ints .u64 (Prod.snd (rlLook l (SiteSt.desk (siteOf x)) (SiteSt.threads (siteOf x)) (TpS.mk ta tv tk tb tc to tn) m)) 22 true]) | _ => (.bool false, [], [])⟩
theorem rc_rLook_does : RcDoes Tryd.prog varL 24 (rc_rLook rlLook) := by
  intro vb avs args blks hv hs hp
  obtain ⟨e0, rfl⟩ := var1 hv
  cases hs with
  | tape0 more e hpm hs =>
    cases hs with
    | val x hp_x hs =>
      cases hs with
      | row0 hs =>
        cases hs
        unfold rc_rLook at hp
        dsimp only at hp
        split at hp
        case h_2 => cases hp
        rename_i heq
        cases heq
        rw [Bool.and_eq_true] at hp
        exact absurd hp.1 (by decide)
      | row off_m n_m c_m m e_m hl_m hs =>
        cases hs
        unfold rc_rLook at hp
        dsimp only at hp
        split at hp
        case h_2 => cases hp
        rename_i heq
        cases heq
        rw [Bool.and_eq_true] at hp
        exact absurd hp.1 (by decide)
  | tape off_l n_l c_l l more e e_l hl_l hpm hs =>
    cases hs with
    | val x hp_x hs =>
      cases hs with
      | row0 hs =>
        cases hs
        unfold rc_rLook at hp
        dsimp only at hp
        split at hp
        case h_2 => cases hp
        rename_i heq
        cases heq
        rename_i ta tv tk tb tc to tn
        simp only [Bool.and_eq_true, decide_eq_true_eq] at hp
        obtain ⟨_, hk, h0a, hb1, hb2⟩ := hp
        have hb1 := Nat.le_of_ble_eq_true hb1
        unfold siteOk at hk
        split at hk
        · rename_i dk th ts kp sd
          unfold siteP at hk
          simp only [Bool.and_eq_true, decide_eq_true_eq] at hk
          obtain ⟨h0, h1, h2, h3, h4, h5, h6⟩ := hk
          exact rlk0 e0 dk th ts kp sd h1 off_l n_l c_l l e_l e ⟨ta, tv, tk, tb, tc, to, tn⟩
        · cases hk
      | row off_m n_m c_m m e_m hl_m hs =>
        cases hs
        unfold rc_rLook at hp
        dsimp only at hp
        split at hp
        case h_2 => cases hp
        rename_i heq
        cases heq
        rename_i ta tv tk tb tc to tn
        simp only [Bool.and_eq_true, decide_eq_true_eq] at hp
        obtain ⟨_, hk, h0a, hb1, hb2⟩ := hp
        have hb1 := Nat.le_of_ble_eq_true hb1
        unfold siteOk at hk
        split at hk
        · rename_i dk th ts kp sd
          unfold siteP at hk
          simp only [Bool.and_eq_true, decide_eq_true_eq] at hk
          obtain ⟨h0, h1, h2, h3, h4, h5, h6⟩ := hk
          have hb2 := Nat.le_of_ble_eq_true hb2
          cases m with
          | nil =>
            have hn : n_m = 0 := hl_m.symm
            subst hn
            exact rlk1 e0 dk th ts kp sd h1 off_l n_l c_l l e_l e ⟨ta, tv, tk, tb, tc, to, tn⟩ off_m c_m [] e_m
          | cons w ws =>
            subst hl_m
            exact rl_does e0 off_l n_l c_l l e_l e off_m (w :: ws).length c_m (w :: ws) e_m dk th ts kp sd hl_l (by omega) rfl hb2 h2 h1 (by simp) ⟨ta, tv, tk, tb, tc, to, tn⟩ h0a (rlLook l dk ts ⟨ta, tv, tk, tb, tc, to, tn⟩ (w :: ws)).1 (rlLook l dk ts ⟨ta, tv, tk, tb, tc, to, tn⟩ (w :: ws)).2 rfl
        · cases hk
end Go.Proofs.YtfhfbbhoppnbiaaDoor
