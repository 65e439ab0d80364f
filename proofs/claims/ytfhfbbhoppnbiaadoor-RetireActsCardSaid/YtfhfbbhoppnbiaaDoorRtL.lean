import Derived.Test.YtfhfbbhoppnbiaaDoorRtK
import Derived.WalkKit
import Derived.ProofKit
import Derived.OpenShut
import Derived.ChangeOld
import Derived.Below
import Derived.SizedLaws
namespace Go.Proofs.YtfhfbbhoppnbiaaDoor
open Go.Eng
open Go.ChangeShapes Go.WideShapes Go.ChangeAt Go.RowKit
set_option linter.unusedVariables false
set_option linter.unusedSimpArgs false
set_option maxRecDepth 100000
noncomputable def cfgL : Cfg := ⟨[]⟩
noncomputable def fsL : List FuncId := [24, 25]
theorem fitL : Fit Tryd.prog cfgL fsL := ⟨by kernel_rfl, Cfg.ok_of (by kernel_rfl), by kernel_rfl⟩
noncomputable def rlrT (rlLook : List Int → Int → Int → TpS → List Int → TpS × List Int) : RTab := fun f => match f with
  | 24 => some (rc_rLook rlLook)
  | _ => none
def rlrDom : List FuncId := [24]
theorem rlr_does : ∀ f rc, f ∈ rlrDom → (rlrT rlLook) f = some rc → RcDoes Tryd.prog varL f rc := by
  intro f rc hf hT
  simp only [rlrDom, List.mem_cons, List.not_mem_nil, or_false] at hf
  subst hf
  cases hT; exact rc_rLook_does
theorem rlr_fn : ∀ f ∈ rlrDom, FnOk Tryd.prog f := fun f hf => fitL.fnOk f (by
    have h0 : (rlrDom.all fun f => fsL.contains f) = true := by kernel_rfl
    simpa using List.all_eq_true.1 h0 f hf)
theorem rlr_sound : SoundC Tryd.prog (conC rlrDom (rcE varL (rlrT rlLook))) := rc_sound oneVar rlr_fn rlr_does
noncomputable def BQ2 : Code := bodyOf Tryd.prog 25
theorem BQ2_is : Tryd.f25.body = some BQ2 := by kernel_rfl
noncomputable abbrev Q2H (e : TypeId) (off n c : Nat) (ta : Int) (tv : Bool) (tk tb tc to tn : Int) (et : TypeId) (l : List Int) (g_ : TypeId) (off2 : Nat) (m : List Int) (g2 : TypeId) : AH := (KH.low ⟨4, 1, [(0, 0, .cells [(.int .i64 1), (.int .i64 64), (.int .i64 1), (.int .i64 64)] e false), (1, 0, .cells [(.slice (some ⟨2, off, none⟩) n c), (.int .i64 ta), (.bool tv), (.int .i64 tk), (.int .u64 tb), (.int .i64 tc), (.int .u64 to), (.int .u64 tn)] et true), (2, 0, .tail off .u64 l g_), (3, 0, .tail off2 .u64 m g2)]⟩)
noncomputable abbrev Q2EA (rlLook : List Int → Int → Int → TpS → List Int → TpS × List Int) (c : Code) (lv p : List Nat) (st : Option (List Nat)) (ws : List Bool) (s : KSt) : Option Rs := evA (evCK Tryd.prog cfgL (runK Tryd.prog cfgL fsL (conTk rlrDom (rcK varL (rlrT rlLook))) 14 40) 14) (stopW 4 lv) p c st ws s (finW 4 lv)
theorem Q2to {c_ : Code} {lv_ p_ p2_ : List Nat} {ws_ : List Bool} {st_ s' : KSt} {Q : Ex → St → Prop} {e : TypeId} {off n c : Nat} {ta : Int} {tv : Bool} {tk tb tc to tn : Int} {et : TypeId} {l : List Int} {g_ : TypeId} {off2 : Nat} {m : List Int} {g2 : TypeId} (hE_ : Q2EA rlLook c_ lv_ p_ (some p2_) ws_ st_ = some (.stop s')) (hq_ : AtW Tryd.prog (Q2H e off n c ta tv tk tb tc to tn et l g_ off2 m g2) c_ p2_ s' Q) (hok_ : okCode Tryd.prog.globals.size c_ = true := by kernel_rfl) : AtW Tryd.prog (Q2H e off n c ta tv tk tb tc to tn et l g_ off2 m g2) c_ p_ st_ Q := AtW.to fitL rlr_sound (rc_agree _ _ _) 14 40 hok_ hE_ hq_
theorem Q2fi {c_ : Code} {lv_ p_ : List Nat} {ws_ : List Bool} {st_ s' : KSt} {x : Ex} {Q : Ex → St → Prop} {e : TypeId} {off n c : Nat} {ta : Int} {tv : Bool} {tk tb tc to tn : Int} {et : TypeId} {l : List Int} {g_ : TypeId} {off2 : Nat} {m : List Int} {g2 : TypeId} (hE_ : Q2EA rlLook c_ lv_ p_ none ws_ st_ = some (.fin x s')) (hq_ : Q x s'.low) (hok_ : okCode Tryd.prog.globals.size c_ = true := by kernel_rfl) : AtW Tryd.prog (Q2H e off n c ta tv tk tb tc to tn et l g_ off2 m g2) c_ p_ st_ Q := AtW.fin fitL rlr_sound (rc_agree _ _ _) 14 40 hok_ hE_ hq_
section
variable (rlLook : List Int → Int → Int → TpS → List Int → TpS × List Int) (dk th ts kp sd : Int) (off2 n2 c2 : Nat) (w : Int) (e : TypeId) (off n c : Nat) (ta : Int) (tv : Bool) (tk tb tc to tn : Int) (et : TypeId) (l : List Int) (g_ : TypeId) (m : List Int) (g2 : TypeId)
noncomputable abbrev Q2O0 (e : TypeId) : KObj := .cells [(.int .i64 1), (.int .i64 64), (.int .i64 1), (.int .i64 64)] e false
noncomputable abbrev Q2O1 (off n c : Nat) (ta : Int) (tv : Bool) (tk tb tc to tn : Int) (et : TypeId) : KObj := .cells [(.slice (some ⟨2, off, none⟩) n c), (.int .i64 ta), (.bool tv), (.int .i64 tk), (.int .u64 tb), (.int .i64 tc), (.int .u64 to), (.int .u64 tn)] et true
noncomputable def Q2S0 : KSt := (firstK [(.pointer (some ⟨1, 0, none⟩)), (.agg #[(.int .u64 dk), (.int .i64 th), (.int .i64 ts), (.int .i64 kp), (.int .u64 sd)]), (.slice (some ⟨3, off2, none⟩) (n2 + 1) c2), (.int .u64 w)] 29 ⟨4, 1, [(0, 0, (Q2O0 e)), (1, 0, (Q2O1 off n c ta tv tk tb tc to tn et)), (2, 0, .tail off .u64 l g_), (3, 0, .tail off2 .u64 m g2)]⟩)
theorem Q2W1 : Q2EA rlLook BQ2 [0, 3, 5, 9] [] (some [1, 1]) [] (Q2S0 dk th ts kp sd off2 n2 c2 w e off n c ta tv tk tb tc to tn et l g_ m g2) =
  bif (Nat.beq (n2 + 1) 0) then
    some (.stop ⟨(frameL 29 [(0, (.pointer (some ⟨1, 0, none⟩))), (3, (.int .u64 w)), (5, (.pointer (some ⟨4, 0, none⟩))), (9, (.slice (some ⟨5, 0, none⟩) 0 0))]), ⟨6, 1, [(5, 0, .cells [] 22 true), (4, 0, .cells [(.int .u64 dk), (.int .i64 th), (.int .i64 ts), (.int .i64 kp), (.int .u64 sd)] 24 true), (0, 0, .cells [(.int .i64 1), (.int .i64 64), (.int .i64 1), (.int .i64 64)] e false), (1, 0, .cells [(.slice (some ⟨2, off, none⟩) n c), (.int .i64 ta), (.bool tv), (.int .i64 tk), (.int .u64 tb), (.int .i64 tc), (.int .u64 to), (.int .u64 tn)] et true), (2, 0, .tail off .u64 l g_), (3, 0, .tail off2 .u64 m g2)]⟩⟩)
  else
    bif ((Nat.ble off2 off2) && (Nat.ble ((off2 - off2) + (n2 + 1)) (List.length m))) then
      bif (Nat.ble ((0 + (n2 + 1)) * 9) 1099511627776) then
        bif (Nat.ble (0 + (n2 + 1)) 0) then
          none
        else
          some (.stop ⟨(frameL 29 [(0, (.pointer (some ⟨1, 0, none⟩))), (3, (.int .u64 w)), (5, (.pointer (some ⟨4, 0, none⟩))), (9, (.slice (some ⟨5, 0, none⟩) (n2 + 1) (n2 + 1)))]), ⟨6, 1, [(5, 0, .ints .u64 (List.take (n2 + 1) (List.drop (off2 - off2) m)) 22 true), (4, 0, .cells [(.int .u64 dk), (.int .i64 th), (.int .i64 ts), (.int .i64 kp), (.int .u64 sd)] 24 true), (0, 0, .cells [(.int .i64 1), (.int .i64 64), (.int .i64 1), (.int .i64 64)] e false), (1, 0, .cells [(.slice (some ⟨2, off, none⟩) n c), (.int .i64 ta), (.bool tv), (.int .i64 tk), (.int .u64 tb), (.int .i64 tc), (.int .u64 to), (.int .u64 tn)] et true), (2, 0, .tail off .u64 l g_), (3, 0, .tail off2 .u64 m g2)]⟩⟩)
      else
        none
    else
      none := by kernel_rfl
noncomputable def Q2S2 : KSt := ⟨(frameL 29 [(0, (.pointer (some ⟨1, 0, none⟩))), (3, (.int .u64 w)), (5, (.pointer (some ⟨4, 0, none⟩))), (9, (.slice (some ⟨5, 0, none⟩) (n2 + 1) (n2 + 1)))]), ⟨6, 1, [(5, 0, .ints .u64 m 22 true), (4, 0, .cells [(.int .u64 dk), (.int .i64 th), (.int .i64 ts), (.int .i64 kp), (.int .u64 sd)] 24 true), (0, 0, (Q2O0 e)), (1, 0, (Q2O1 off n c ta tv tk tb tc to tn et)), (2, 0, .tail off .u64 l g_), (3, 0, .tail off2 .u64 m g2)]⟩⟩
noncomputable def Q2S3 : KSt := ⟨(frameL 29 [(8, (.slice (some ⟨4, 0, none⟩) (n2 + 1) (n2 + 1)))]), ⟨5, 1, [(4, 0, .ints .u64 m 22 true), (0, 0, (Q2O0 e)), (1, 0, (Q2O1 off n c ta tv tk tb tc to tn et)), (2, 0, .tail off .u64 l g_), (3, 0, .tail off2 .u64 m g2)]⟩⟩
theorem Q2W2 : Q2EA rlLook BQ2 [8] [1, 1] none [false, true] (Q2S2 dk th ts kp sd off2 n2 w e off n c ta tv tk tb tc to tn et l g_ m g2) =
  bif (w != 0) then
    none
  else
    bif (decide ((((n2 + 1) : Nat) : Int) < kp)) then
      some (.fin .ret (Q2S3 off2 n2 e off n c ta tv tk tb tc to tn et l g_ m g2))
    else
      none := by kernel_rfl
theorem Q2W3 : Q2EA rlLook BQ2 [8] [1, 1] (some [1, 1, 1, 1, 1]) [false, false] (Q2S2 dk th ts kp sd off2 n2 w e off n c ta tv tk tb tc to tn et l g_ m g2) =
  bif (w != 0) then
    none
  else
    bif (decide ((((n2 + 1) : Nat) : Int) < kp)) then
      none
    else
      bif (Nat.ble off off) then
        bif (Nat.ble ((off - off) + n) (List.length l)) then
          bif (Nat.ble (0 + (n2 + 1)) (List.length m)) then
            bif ((siteP dk th ts kp) && ((decide (0 ≤ ta)) && ((Nat.ble (List.length (List.take n (List.drop (off - off) l))) 1000) && (Nat.ble (List.length (List.take (n2 + 1) (List.drop 0 m))) 1000)))) then
              some (.stop ⟨(frameL 29 [(8, (.slice (some ⟨4, 0, none⟩) (List.length (Prod.snd (rlLook (List.take n (List.drop (off - off) l)) dk ts (TpS.mk ta tv tk tb tc to tn) (List.take (n2 + 1) (List.drop 0 m))))) (List.length (Prod.snd (rlLook (List.take n (List.drop (off - off) l)) dk ts (TpS.mk ta tv tk tb tc to tn) (List.take (n2 + 1) (List.drop 0 m)))))))]), ⟨5, 1, [(4, 0, .ints .u64 (Prod.snd (rlLook (List.take n (List.drop (off - off) l)) dk ts (TpS.mk ta tv tk tb tc to tn) (List.take (n2 + 1) (List.drop 0 m)))) 22 true), (0, 0, .cells [(.int .i64 1), (.int .i64 64), (.int .i64 1), (.int .i64 64)] e false), (1, 0, .cells [(.slice (some ⟨2, off, none⟩) n c), (.int .i64 (TpS.at_ (Prod.fst (rlLook (List.take n (List.drop (off - off) l)) dk ts (TpS.mk ta tv tk tb tc to tn) (List.take (n2 + 1) (List.drop 0 m)))))), (.bool (TpS.ov (Prod.fst (rlLook (List.take n (List.drop (off - off) l)) dk ts (TpS.mk ta tv tk tb tc to tn) (List.take (n2 + 1) (List.drop 0 m)))))), (.int .i64 (TpS.k (Prod.fst (rlLook (List.take n (List.drop (off - off) l)) dk ts (TpS.mk ta tv tk tb tc to tn) (List.take (n2 + 1) (List.drop 0 m)))))), (.int .u64 (TpS.b (Prod.fst (rlLook (List.take n (List.drop (off - off) l)) dk ts (TpS.mk ta tv tk tb tc to tn) (List.take (n2 + 1) (List.drop 0 m)))))), (.int .i64 (TpS.c (Prod.fst (rlLook (List.take n (List.drop (off - off) l)) dk ts (TpS.mk ta tv tk tb tc to tn) (List.take (n2 + 1) (List.drop 0 m)))))), (.int .u64 (TpS.o (Prod.fst (rlLook (List.take n (List.drop (off - off) l)) dk ts (TpS.mk ta tv tk tb tc to tn) (List.take (n2 + 1) (List.drop 0 m)))))), (.int .u64 (TpS.n (Prod.fst (rlLook (List.take n (List.drop (off - off) l)) dk ts (TpS.mk ta tv tk tb tc to tn) (List.take (n2 + 1) (List.drop 0 m))))))] et true), (2, 0, .tail off .u64 l g_), (3, 0, .tail off2 .u64 m g2)]⟩⟩)
            else
              none
          else
            none
        else
          none
      else
        none := by kernel_rfl
noncomputable def Q2S4 : KSt := ⟨(frameL 29 [(8, (.slice (some ⟨4, 0, none⟩) (List.length (Prod.snd (rlLook l dk ts (TpS.mk ta tv tk tb tc to tn) m))) (List.length (Prod.snd (rlLook l dk ts (TpS.mk ta tv tk tb tc to tn) m)))))]), ⟨5, 1, [(4, 0, .ints .u64 (Prod.snd (rlLook l dk ts (TpS.mk ta tv tk tb tc to tn) m)) 22 true), (0, 0, (Q2O0 e)), (1, 0, .cells [(.slice (some ⟨2, off, none⟩) n c), (.int .i64 (TpS.at_ (Prod.fst (rlLook l dk ts (TpS.mk ta tv tk tb tc to tn) m)))), (.bool (TpS.ov (Prod.fst (rlLook l dk ts (TpS.mk ta tv tk tb tc to tn) m)))), (.int .i64 (TpS.k (Prod.fst (rlLook l dk ts (TpS.mk ta tv tk tb tc to tn) m)))), (.int .u64 (TpS.b (Prod.fst (rlLook l dk ts (TpS.mk ta tv tk tb tc to tn) m)))), (.int .i64 (TpS.c (Prod.fst (rlLook l dk ts (TpS.mk ta tv tk tb tc to tn) m)))), (.int .u64 (TpS.o (Prod.fst (rlLook l dk ts (TpS.mk ta tv tk tb tc to tn) m)))), (.int .u64 (TpS.n (Prod.fst (rlLook l dk ts (TpS.mk ta tv tk tb tc to tn) m))))] et true), (2, 0, .tail off .u64 l g_), (3, 0, .tail off2 .u64 m g2)]⟩⟩
theorem Q2W4 : Q2EA rlLook BQ2 [8] [1, 1, 1, 1, 1] none [] (Q2S4 rlLook dk ts off2 e off n c ta tv tk tb tc to tn et l g_ m g2) =
  some (.fin .ret (Q2S4 rlLook dk ts off2 e off n c ta tv tk tb tc to tn et l g_ m g2)) := by kernel_rfl
theorem Q2W5 : Q2EA rlLook BQ2 [0, 5, 9] [1, 1] (some [1, 1, 1]) [true] (Q2S2 dk th ts kp sd off2 n2 w e off n c ta tv tk tb tc to tn et l g_ m g2) =
  bif (w != 0) then
    bif (Nat.ble (((n2 + 1) + 1) * 9) 1099511627776) then
      bif (Nat.ble ((n2 + 1) + 1) (n2 + 1)) then
        bif (Nat.ble (0 + ((n2 + 1) + 1)) (List.length m)) then
          some (.stop ⟨(frameL 29 [(0, (.pointer (some ⟨1, 0, none⟩))), (5, (.pointer (some ⟨4, 0, none⟩))), (9, (.slice (some ⟨5, 0, none⟩) ((n2 + 1) + 1) (n2 + 1)))]), ⟨6, 1, [(5, 0, .ints .u64 (List.take (0 + (n2 + 1)) m ++ [w] ++ List.drop ((0 + (n2 + 1)) + (List.length [w])) m) 22 true), (4, 0, .cells [(.int .u64 dk), (.int .i64 th), (.int .i64 ts), (.int .i64 kp), (.int .u64 sd)] 24 true), (0, 0, .cells [(.int .i64 1), (.int .i64 64), (.int .i64 1), (.int .i64 64)] e false), (1, 0, .cells [(.slice (some ⟨2, off, none⟩) n c), (.int .i64 ta), (.bool tv), (.int .i64 tk), (.int .u64 tb), (.int .i64 tc), (.int .u64 to), (.int .u64 tn)] et true), (2, 0, .tail off .u64 l g_), (3, 0, .tail off2 .u64 m g2)]⟩⟩)
        else
          none
      else
        bif ((Nat.beq (n2 + 1) 0) && (Nat.beq (n2 + 1) 0)) then
          some (.stop ⟨(frameL 29 [(0, (.pointer (some ⟨1, 0, none⟩))), (5, (.pointer (some ⟨4, 0, none⟩))), (9, (.slice (some ⟨5, 0, none⟩) 1 1))]), ⟨6, 1, [(5, 0, .cells [(.int .u64 w)] 22 true), (4, 0, .cells [(.int .u64 dk), (.int .i64 th), (.int .i64 ts), (.int .i64 kp), (.int .u64 sd)] 24 true), (0, 0, .cells [(.int .i64 1), (.int .i64 64), (.int .i64 1), (.int .i64 64)] e false), (1, 0, .cells [(.slice (some ⟨2, off, none⟩) n c), (.int .i64 ta), (.bool tv), (.int .i64 tk), (.int .u64 tb), (.int .i64 tc), (.int .u64 to), (.int .u64 tn)] et true), (2, 0, .tail off .u64 l g_), (3, 0, .tail off2 .u64 m g2)]⟩⟩)
        else
          bif ((Nat.ble (n2 + 1) (List.length m)) && (Nat.ble 1 (n2 + 1))) then
            some (.stop ⟨(frameL 29 [(0, (.pointer (some ⟨1, 0, none⟩))), (5, (.pointer (some ⟨4, 0, none⟩))), (9, (.slice (some ⟨5, 0, none⟩) ((n2 + 1) + 1) ((n2 + 1) + 1)))]), ⟨6, 1, [(5, 0, .ints .u64 (List.take (n2 + 1) m ++ [w]) 22 true), (4, 0, .cells [(.int .u64 dk), (.int .i64 th), (.int .i64 ts), (.int .i64 kp), (.int .u64 sd)] 24 true), (0, 0, .cells [(.int .i64 1), (.int .i64 64), (.int .i64 1), (.int .i64 64)] e false), (1, 0, .cells [(.slice (some ⟨2, off, none⟩) n c), (.int .i64 ta), (.bool tv), (.int .i64 tk), (.int .u64 tb), (.int .i64 tc), (.int .u64 to), (.int .u64 tn)] et true), (2, 0, .tail off .u64 l g_), (3, 0, .tail off2 .u64 m g2)]⟩⟩)
          else
            none
    else
      none
  else
    none := by kernel_rfl
noncomputable def Q2S7 : KSt := ⟨(frameL 29 [(0, (.pointer (some ⟨1, 0, none⟩))), (5, (.pointer (some ⟨4, 0, none⟩))), (9, (.slice (some ⟨5, 0, none⟩) ((n2 + 1) + 1) ((n2 + 1) + 1)))]), ⟨6, 1, [(5, 0, .ints .u64 (m ++ [w]) 22 true), (4, 0, .cells [(.int .u64 dk), (.int .i64 th), (.int .i64 ts), (.int .i64 kp), (.int .u64 sd)] 24 true), (0, 0, (Q2O0 e)), (1, 0, (Q2O1 off n c ta tv tk tb tc to tn et)), (2, 0, .tail off .u64 l g_), (3, 0, .tail off2 .u64 m g2)]⟩⟩
noncomputable def Q2S8 : KSt := ⟨(frameL 29 [(8, (.slice (some ⟨4, 0, none⟩) ((n2 + 1) + 1) ((n2 + 1) + 1)))]), ⟨5, 1, [(4, 0, .ints .u64 (m ++ [w]) 22 true), (0, 0, (Q2O0 e)), (1, 0, (Q2O1 off n c ta tv tk tb tc to tn et)), (2, 0, .tail off .u64 l g_), (3, 0, .tail off2 .u64 m g2)]⟩⟩
theorem Q2W6 : Q2EA rlLook BQ2 [8] [1, 1, 1] none [true] (Q2S7 dk th ts kp sd off2 n2 w e off n c ta tv tk tb tc to tn et l g_ m g2) =
  bif (decide (((((n2 + 1) + 1) : Nat) : Int) < kp)) then
    some (.fin .ret (Q2S8 off2 n2 w e off n c ta tv tk tb tc to tn et l g_ m g2))
  else
    none := by kernel_rfl
theorem Q2W7 : Q2EA rlLook BQ2 [8] [1, 1, 1] (some [1, 1, 1, 1, 1]) [false] (Q2S7 dk th ts kp sd off2 n2 w e off n c ta tv tk tb tc to tn et l g_ m g2) =
  bif (decide (((((n2 + 1) + 1) : Nat) : Int) < kp)) then
    none
  else
    bif (Nat.ble off off) then
      bif (Nat.ble ((off - off) + n) (List.length l)) then
        bif (Nat.ble (0 + ((n2 + 1) + 1)) (List.length (m ++ [w]))) then
          bif ((siteP dk th ts kp) && ((decide (0 ≤ ta)) && ((Nat.ble (List.length (List.take n (List.drop (off - off) l))) 1000) && (Nat.ble (List.length (List.take ((n2 + 1) + 1) (List.drop 0 (m ++ [w])))) 1000)))) then
            some (.stop ⟨(frameL 29 [(8, (.slice (some ⟨4, 0, none⟩) (List.length (Prod.snd (rlLook (List.take n (List.drop (off - off) l)) dk ts (TpS.mk ta tv tk tb tc to tn) (List.take ((n2 + 1) + 1) (List.drop 0 (m ++ [w])))))) (List.length (Prod.snd (rlLook (List.take n (List.drop (off - off) l)) dk ts (TpS.mk ta tv tk tb tc to tn) (List.take ((n2 + 1) + 1) (List.drop 0 (m ++ [w]))))))))]), ⟨5, 1, [(4, 0, .ints .u64 (Prod.snd (rlLook (List.take n (List.drop (off - off) l)) dk ts (TpS.mk ta tv tk tb tc to tn) (List.take ((n2 + 1) + 1) (List.drop 0 (m ++ [w]))))) 22 true), (0, 0, .cells [(.int .i64 1), (.int .i64 64), (.int .i64 1), (.int .i64 64)] e false), (1, 0, .cells [(.slice (some ⟨2, off, none⟩) n c), (.int .i64 (TpS.at_ (Prod.fst (rlLook (List.take n (List.drop (off - off) l)) dk ts (TpS.mk ta tv tk tb tc to tn) (List.take ((n2 + 1) + 1) (List.drop 0 (m ++ [w]))))))), (.bool (TpS.ov (Prod.fst (rlLook (List.take n (List.drop (off - off) l)) dk ts (TpS.mk ta tv tk tb tc to tn) (List.take ((n2 + 1) + 1) (List.drop 0 (m ++ [w]))))))), (.int .i64 (TpS.k (Prod.fst (rlLook (List.take n (List.drop (off - off) l)) dk ts (TpS.mk ta tv tk tb tc to tn) (List.take ((n2 + 1) + 1) (List.drop 0 (m ++ [w]))))))), (.int .u64 (TpS.b (Prod.fst (rlLook (List.take n (List.drop (off - off) l)) dk ts (TpS.mk ta tv tk tb tc to tn) (List.take ((n2 + 1) + 1) (List.drop 0 (m ++ [w]))))))), (.int .i64 (TpS.c (Prod.fst (rlLook (List.take n (List.drop (off - off) l)) dk ts (TpS.mk ta tv tk tb tc to tn) (List.take ((n2 + 1) + 1) (List.drop 0 (m ++ [w]))))))), (.int .u64 (TpS.o (Prod.fst (rlLook (List.take n (List.drop (off - off) l)) dk ts (TpS.mk ta tv tk tb tc to tn) (List.take ((n2 + 1) + 1) (List.drop 0 (m ++ [w]))))))), (.int .u64 (TpS.n (Prod.fst (rlLook (List.take n (List.drop (off - off) l)) dk ts (TpS.mk ta tv tk tb tc to tn) (List.take ((n2 + 1) + 1) (List.drop 0 (m ++ [w])))))))] et true), (2, 0, .tail off .u64 l g_), (3, 0, .tail off2 .u64 m g2)]⟩⟩)
          else
            none
        else
          none
      else
        none
    else
      none := by kernel_rfl
noncomputable def Q2S9 : KSt := ⟨(frameL 29 [(8, (.slice (some ⟨4, 0, none⟩) (List.length (Prod.snd (rlLook l dk ts (TpS.mk ta tv tk tb tc to tn) (m ++ [w])))) (List.length (Prod.snd (rlLook l dk ts (TpS.mk ta tv tk tb tc to tn) (m ++ [w]))))))]), ⟨5, 1, [(4, 0, .ints .u64 (Prod.snd (rlLook l dk ts (TpS.mk ta tv tk tb tc to tn) (m ++ [w]))) 22 true), (0, 0, (Q2O0 e)), (1, 0, .cells [(.slice (some ⟨2, off, none⟩) n c), (.int .i64 (TpS.at_ (Prod.fst (rlLook l dk ts (TpS.mk ta tv tk tb tc to tn) (m ++ [w]))))), (.bool (TpS.ov (Prod.fst (rlLook l dk ts (TpS.mk ta tv tk tb tc to tn) (m ++ [w]))))), (.int .i64 (TpS.k (Prod.fst (rlLook l dk ts (TpS.mk ta tv tk tb tc to tn) (m ++ [w]))))), (.int .u64 (TpS.b (Prod.fst (rlLook l dk ts (TpS.mk ta tv tk tb tc to tn) (m ++ [w]))))), (.int .i64 (TpS.c (Prod.fst (rlLook l dk ts (TpS.mk ta tv tk tb tc to tn) (m ++ [w]))))), (.int .u64 (TpS.o (Prod.fst (rlLook l dk ts (TpS.mk ta tv tk tb tc to tn) (m ++ [w]))))), (.int .u64 (TpS.n (Prod.fst (rlLook l dk ts (TpS.mk ta tv tk tb tc to tn) (m ++ [w])))))] et true), (2, 0, .tail off .u64 l g_), (3, 0, .tail off2 .u64 m g2)]⟩⟩
theorem Q2W8 : Q2EA rlLook BQ2 [8] [1, 1, 1, 1, 1] none [] (Q2S9 rlLook dk ts off2 w e off n c ta tv tk tb tc to tn et l g_ m g2) =
  some (.fin .ret (Q2S9 rlLook dk ts off2 w e off n c ta tv tk tb tc to tn et l g_ m g2)) := by kernel_rfl
end
theorem Q2zs {dk ts kp th ta : Int} {l : List Int} {n : Nat} {m : List Int} {n2 : Nat} {w : Int} {off2 : Nat} {e : TypeId} {off c : Nat} {tv : Bool} {tk tb tc to tn : Int} {et g_ g2 : TypeId} {sd : Int} {c2 : Nat} (hd : ¬ dk = 0) (h1 : 1 ≤ ts) (h2 : ts ≤ 64) (h3 : 1 ≤ kp) (h4 : kp ≤ 64) (h5 : 0 ≤ th) (h6 : th < ts) (ht0 : 0 ≤ ta) (hg : l.length = n) (hgn : n ≤ 1000) (hm : m.length = n2 + 1) (hmn : n2 < 900) (hw : w = 0) (hk : ((n2 : Nat) : Int) + 1 < kp)   {Q : Ex → St → Prop} (hq : Q .ret (KSt.low (Q2S3 off2 n2 e off n c ta tv tk tb tc to tn et l g_ m g2))) : Gets Tryd.prog (Q2H e off n c ta tv tk tb tc to tn et l g_ off2 m g2) BQ2 (KSt.low (Q2S0 dk th ts kp sd off2 n2 c2 w e off n c ta tv tk tb tc to tn et l g_ m g2)) Q := by
  refine AtW.gets ?_
  refine Q2to (s' := (Q2S2 dk th ts kp sd off2 n2 w e off n c ta tv tk tb tc to tn et l g_ m g2)) ((Q2W1 ..).trans (by rw [qF, condT (and_t (ble_t (by omega)) (ble_t (by (first | omega | ((try simp (disch := omega) only [wrap_i64_id]) <;> omega))))), lT, lF, (show (List.take (n2 + 1) (List.drop (off2 - off2) m)) = m from by rw [Nat.sub_self, List.drop_zero, ← hm, List.take_length])] <;> rfl)) ?_
  exact Q2fi ((Q2W2 ..).trans (by rw [nF, dT])) hq
theorem Q2zl {dk ts kp th ta : Int} {l : List Int} {n : Nat} {m : List Int} {n2 : Nat} {w : Int} {off2 : Nat} {e : TypeId} {off c : Nat} {tv : Bool} {tk tb tc to tn : Int} {et g_ g2 : TypeId} {sd : Int} {c2 : Nat} (hd : ¬ dk = 0) (h1 : 1 ≤ ts) (h2 : ts ≤ 64) (h3 : 1 ≤ kp) (h4 : kp ≤ 64) (h5 : 0 ≤ th) (h6 : th < ts) (ht0 : 0 ≤ ta) (hg : l.length = n) (hgn : n ≤ 1000) (hm : m.length = n2 + 1) (hmn : n2 < 900) (hw : w = 0) (hk : ¬ ((n2 : Nat) : Int) + 1 < kp)   {Q : Ex → St → Prop} (hq : Q .ret (KSt.low (Q2S4 rlLook dk ts off2 e off n c ta tv tk tb tc to tn et l g_ m g2))) : Gets Tryd.prog (Q2H e off n c ta tv tk tb tc to tn et l g_ off2 m g2) BQ2 (KSt.low (Q2S0 dk th ts kp sd off2 n2 c2 w e off n c ta tv tk tb tc to tn et l g_ m g2)) Q := by
  refine AtW.gets ?_
  refine Q2to (s' := (Q2S2 dk th ts kp sd off2 n2 w e off n c ta tv tk tb tc to tn et l g_ m g2)) ((Q2W1 ..).trans (by rw [qF, condT (and_t (ble_t (by omega)) (ble_t (by (first | omega | ((try simp (disch := omega) only [wrap_i64_id]) <;> omega))))), lT, lF, (show (List.take (n2 + 1) (List.drop (off2 - off2) m)) = m from by rw [Nat.sub_self, List.drop_zero, ← hm, List.take_length])] <;> rfl)) ?_
  refine Q2to (s' := (Q2S4 rlLook dk ts off2 e off n c ta tv tk tb tc to tn et l g_ m g2)) ((Q2W3 ..).trans (by rw [nF, dF, lT, lT2, lT2, condT (and_t (siteP_t hd h1 h2 h3 h4 h5 h6) (and_t (decide_eq_true (by omega)) (and_t (by rw [Nat.sub_self, List.drop_zero, ← hg, List.take_length]; exact ble_t (by omega)) (by rw [List.drop_zero, List.length_take]; exact ble_t (by omega))))), (show (List.take n (List.drop (off - off) l)) = l from by rw [Nat.sub_self, List.drop_zero, ← hg, List.take_length]), (show (List.take (n2 + 1) (List.drop 0 m)) = m from by rw [List.drop_zero, ← hm, List.take_length])] <;> rfl)) ?_
  exact Q2fi (Q2W4 ..) hq
theorem Q2ps {dk ts kp th ta : Int} {l : List Int} {n : Nat} {m : List Int} {n2 : Nat} {w : Int} {off2 : Nat} {e : TypeId} {off c : Nat} {tv : Bool} {tk tb tc to tn : Int} {et g_ g2 : TypeId} {sd : Int} {c2 : Nat} (hd : ¬ dk = 0) (h1 : 1 ≤ ts) (h2 : ts ≤ 64) (h3 : 1 ≤ kp) (h4 : kp ≤ 64) (h5 : 0 ≤ th) (h6 : th < ts) (ht0 : 0 ≤ ta) (hg : l.length = n) (hgn : n ≤ 1000) (hm : m.length = n2 + 1) (hmn : n2 < 900) (hw : ¬ w = 0) (hk : ((n2 : Nat) : Int) + 1 + 1 < kp)   {Q : Ex → St → Prop} (hq : Q .ret (KSt.low (Q2S8 off2 n2 w e off n c ta tv tk tb tc to tn et l g_ m g2))) : Gets Tryd.prog (Q2H e off n c ta tv tk tb tc to tn et l g_ off2 m g2) BQ2 (KSt.low (Q2S0 dk th ts kp sd off2 n2 c2 w e off n c ta tv tk tb tc to tn et l g_ m g2)) Q := by
  refine AtW.gets ?_
  refine Q2to (s' := (Q2S2 dk th ts kp sd off2 n2 w e off n c ta tv tk tb tc to tn et l g_ m g2)) ((Q2W1 ..).trans (by rw [qF, condT (and_t (ble_t (by omega)) (ble_t (by (first | omega | ((try simp (disch := omega) only [wrap_i64_id]) <;> omega))))), lT, lF, (show (List.take (n2 + 1) (List.drop (off2 - off2) m)) = m from by rw [Nat.sub_self, List.drop_zero, ← hm, List.take_length])] <;> rfl)) ?_
  refine Q2to (s' := (Q2S7 dk th ts kp sd off2 n2 w e off n c ta tv tk tb tc to tn et l g_ m g2)) ((Q2W5 ..).trans (by rw [nT, lT, lF, condF (and_f1 (nbeq_f (by omega))), condT (and_t (ble_t (by (first | omega | ((try simp (disch := omega) only [wrap_i64_id]) <;> omega)))) (ble_t (by omega))), (show (List.take (n2 + 1) m ++ [w]) = (m ++ [w]) from by rw [← hm, List.take_length])] <;> rfl)) ?_
  exact Q2fi ((Q2W6 ..).trans (by rw [dT])) hq
theorem Q2pl {dk ts kp th ta : Int} {l : List Int} {n : Nat} {m : List Int} {n2 : Nat} {w : Int} {off2 : Nat} {e : TypeId} {off c : Nat} {tv : Bool} {tk tb tc to tn : Int} {et g_ g2 : TypeId} {sd : Int} {c2 : Nat} (hd : ¬ dk = 0) (h1 : 1 ≤ ts) (h2 : ts ≤ 64) (h3 : 1 ≤ kp) (h4 : kp ≤ 64) (h5 : 0 ≤ th) (h6 : th < ts) (ht0 : 0 ≤ ta) (hg : l.length = n) (hgn : n ≤ 1000) (hm : m.length = n2 + 1) (hmn : n2 < 900) (hw : ¬ w = 0) (hk : ¬ ((n2 : Nat) : Int) + 1 + 1 < kp)   {Q : Ex → St → Prop} (hq : Q .ret (KSt.low (Q2S9 rlLook dk ts off2 w e off n c ta tv tk tb tc to tn et l g_ m g2))) : Gets Tryd.prog (Q2H e off n c ta tv tk tb tc to tn et l g_ off2 m g2) BQ2 (KSt.low (Q2S0 dk th ts kp sd off2 n2 c2 w e off n c ta tv tk tb tc to tn et l g_ m g2)) Q := by
  refine AtW.gets ?_
  refine Q2to (s' := (Q2S2 dk th ts kp sd off2 n2 w e off n c ta tv tk tb tc to tn et l g_ m g2)) ((Q2W1 ..).trans (by rw [qF, condT (and_t (ble_t (by omega)) (ble_t (by (first | omega | ((try simp (disch := omega) only [wrap_i64_id]) <;> omega))))), lT, lF, (show (List.take (n2 + 1) (List.drop (off2 - off2) m)) = m from by rw [Nat.sub_self, List.drop_zero, ← hm, List.take_length])] <;> rfl)) ?_
  refine Q2to (s' := (Q2S7 dk th ts kp sd off2 n2 w e off n c ta tv tk tb tc to tn et l g_ m g2)) ((Q2W5 ..).trans (by rw [nT, lT, lF, condF (and_f1 (nbeq_f (by omega))), condT (and_t (ble_t (by (first | omega | ((try simp (disch := omega) only [wrap_i64_id]) <;> omega)))) (ble_t (by omega))), (show (List.take (n2 + 1) m ++ [w]) = (m ++ [w]) from by rw [← hm, List.take_length])] <;> rfl)) ?_
  refine Q2to (s' := (Q2S9 rlLook dk ts off2 w e off n c ta tv tk tb tc to tn et l g_ m g2)) ((Q2W7 ..).trans (by rw [dF, lT, lT2, condT (ble_t (by rw [List.length_append, hm]; simp)), condT (and_t (siteP_t hd h1 h2 h3 h4 h5 h6) (and_t (decide_eq_true (by omega)) (and_t (by rw [Nat.sub_self, List.drop_zero, ← hg, List.take_length]; exact ble_t (by omega)) (by rw [List.drop_zero, List.length_take]; exact ble_t (by omega))))), (show (List.take n (List.drop (off - off) l)) = l from by rw [Nat.sub_self, List.drop_zero, ← hg, List.take_length]), (show (List.take ((n2 + 1) + 1) (List.drop 0 (m ++ [w]))) = (m ++ [w]) from by rw [List.drop_zero, ← hm]; exact List.take_of_length_le (by simp))] <;> rfl)) ?_
  exact Q2fi (Q2W8 ..) hq
noncomputable def BQ1 : Code := bodyOf Tryd.prog 25
theorem BQ1_is : Tryd.f25.body = some BQ1 := by kernel_rfl
noncomputable abbrev Q1H (e : TypeId) (off n c : Nat) (ta : Int) (tv : Bool) (tk tb tc to tn : Int) (et : TypeId) (l : List Int) (g_ : TypeId) (off2 : Nat) (m : List Int) (g2 : TypeId) : AH := (KH.low ⟨4, 1, [(0, 0, .cells [(.int .i64 1), (.int .i64 64), (.int .i64 1), (.int .i64 64)] e false), (1, 0, .cells [(.slice (some ⟨2, off, none⟩) n c), (.int .i64 ta), (.bool tv), (.int .i64 tk), (.int .u64 tb), (.int .i64 tc), (.int .u64 to), (.int .u64 tn)] et true), (2, 0, .tail off .u64 l g_), (3, 0, .tail off2 .u64 m g2)]⟩)
noncomputable abbrev Q1EA (rlLook : List Int → Int → Int → TpS → List Int → TpS × List Int) (c : Code) (lv p : List Nat) (st : Option (List Nat)) (ws : List Bool) (s : KSt) : Option Rs := evA (evCK Tryd.prog cfgL (runK Tryd.prog cfgL fsL (conTk rlrDom (rcK varL (rlrT rlLook))) 14 40) 14) (stopW 4 lv) p c st ws s (finW 4 lv)
theorem Q1to {c_ : Code} {lv_ p_ p2_ : List Nat} {ws_ : List Bool} {st_ s' : KSt} {Q : Ex → St → Prop} {e : TypeId} {off n c : Nat} {ta : Int} {tv : Bool} {tk tb tc to tn : Int} {et : TypeId} {l : List Int} {g_ : TypeId} {off2 : Nat} {m : List Int} {g2 : TypeId} (hE_ : Q1EA rlLook c_ lv_ p_ (some p2_) ws_ st_ = some (.stop s')) (hq_ : AtW Tryd.prog (Q1H e off n c ta tv tk tb tc to tn et l g_ off2 m g2) c_ p2_ s' Q) (hok_ : okCode Tryd.prog.globals.size c_ = true := by kernel_rfl) : AtW Tryd.prog (Q1H e off n c ta tv tk tb tc to tn et l g_ off2 m g2) c_ p_ st_ Q := AtW.to fitL rlr_sound (rc_agree _ _ _) 14 40 hok_ hE_ hq_
theorem Q1fi {c_ : Code} {lv_ p_ : List Nat} {ws_ : List Bool} {st_ s' : KSt} {x : Ex} {Q : Ex → St → Prop} {e : TypeId} {off n c : Nat} {ta : Int} {tv : Bool} {tk tb tc to tn : Int} {et : TypeId} {l : List Int} {g_ : TypeId} {off2 : Nat} {m : List Int} {g2 : TypeId} (hE_ : Q1EA rlLook c_ lv_ p_ none ws_ st_ = some (.fin x s')) (hq_ : Q x s'.low) (hok_ : okCode Tryd.prog.globals.size c_ = true := by kernel_rfl) : AtW Tryd.prog (Q1H e off n c ta tv tk tb tc to tn et l g_ off2 m g2) c_ p_ st_ Q := AtW.fin fitL rlr_sound (rc_agree _ _ _) 14 40 hok_ hE_ hq_
section
variable (rlLook : List Int → Int → Int → TpS → List Int → TpS × List Int) (dk th ts kp sd : Int) (off2 c2 : Nat) (w : Int) (e : TypeId) (off n c : Nat) (ta : Int) (tv : Bool) (tk tb tc to tn : Int) (et : TypeId) (l : List Int) (g_ : TypeId) (m : List Int) (g2 : TypeId)
noncomputable abbrev Q1O0 (e : TypeId) : KObj := .cells [(.int .i64 1), (.int .i64 64), (.int .i64 1), (.int .i64 64)] e false
noncomputable abbrev Q1O1 (off n c : Nat) (ta : Int) (tv : Bool) (tk tb tc to tn : Int) (et : TypeId) : KObj := .cells [(.slice (some ⟨2, off, none⟩) n c), (.int .i64 ta), (.bool tv), (.int .i64 tk), (.int .u64 tb), (.int .i64 tc), (.int .u64 to), (.int .u64 tn)] et true
noncomputable def Q1S0 : KSt := (firstK [(.pointer (some ⟨1, 0, none⟩)), (.agg #[(.int .u64 dk), (.int .i64 th), (.int .i64 ts), (.int .i64 kp), (.int .u64 sd)]), (.slice (some ⟨3, off2, none⟩) 0 c2), (.int .u64 w)] 29 ⟨4, 1, [(0, 0, (Q1O0 e)), (1, 0, (Q1O1 off n c ta tv tk tb tc to tn et)), (2, 0, .tail off .u64 l g_), (3, 0, .tail off2 .u64 m g2)]⟩)
noncomputable def Q1S1 : KSt := ⟨(frameL 29 [(8, (.slice (some ⟨4, 0, none⟩) 0 0))]), ⟨5, 1, [(4, 0, .cells [] 22 true), (0, 0, (Q1O0 e)), (1, 0, (Q1O1 off n c ta tv tk tb tc to tn et)), (2, 0, .tail off .u64 l g_), (3, 0, .tail off2 .u64 m g2)]⟩⟩
theorem Q1W1 : Q1EA rlLook BQ1 [8] [] none [false, true] (Q1S0 dk th ts kp sd off2 c2 w e off n c ta tv tk tb tc to tn et l g_ m g2) =
  bif (w != 0) then
    none
  else
    bif (decide (0 < kp)) then
      some (.fin .ret (Q1S1 off2 e off n c ta tv tk tb tc to tn et l g_ m g2))
    else
      none := by kernel_rfl
noncomputable def Q1S2 : KSt := ⟨(frameL 29 [(8, (.slice (some ⟨4, 0, none⟩) 1 1))]), ⟨5, 1, [(4, 0, .cells [(.int .u64 w)] 22 true), (0, 0, (Q1O0 e)), (1, 0, (Q1O1 off n c ta tv tk tb tc to tn et)), (2, 0, .tail off .u64 l g_), (3, 0, .tail off2 .u64 m g2)]⟩⟩
theorem Q1W2 : Q1EA rlLook BQ1 [8] [] none [true, true] (Q1S0 dk th ts kp sd off2 c2 w e off n c ta tv tk tb tc to tn et l g_ m g2) =
  bif (w != 0) then
    bif (decide (1 < kp)) then
      some (.fin .ret (Q1S2 off2 w e off n c ta tv tk tb tc to tn et l g_ m g2))
    else
      none
  else
    none := by kernel_rfl
theorem Q1W3 : Q1EA rlLook BQ1 [8] [] (some [1, 1, 1, 1, 1]) [true, false] (Q1S0 dk th ts kp sd off2 c2 w e off n c ta tv tk tb tc to tn et l g_ m g2) =
  bif (w != 0) then
    bif (decide (1 < kp)) then
      none
    else
      bif (Nat.ble off off) then
        bif (Nat.ble ((off - off) + n) (List.length l)) then
          bif ((siteP dk th ts kp) && ((decide (0 ≤ ta)) && ((Nat.ble (List.length (List.take n (List.drop (off - off) l))) 1000) && (Nat.ble (List.length ([w] : List Int)) 1000)))) then
            some (.stop ⟨(frameL 29 [(8, (.slice (some ⟨4, 0, none⟩) (List.length (Prod.snd (rlLook (List.take n (List.drop (off - off) l)) dk ts (TpS.mk ta tv tk tb tc to tn) ([w] : List Int)))) (List.length (Prod.snd (rlLook (List.take n (List.drop (off - off) l)) dk ts (TpS.mk ta tv tk tb tc to tn) ([w] : List Int))))))]), ⟨5, 1, [(4, 0, .ints .u64 (Prod.snd (rlLook (List.take n (List.drop (off - off) l)) dk ts (TpS.mk ta tv tk tb tc to tn) ([w] : List Int))) 22 true), (0, 0, .cells [(.int .i64 1), (.int .i64 64), (.int .i64 1), (.int .i64 64)] e false), (1, 0, .cells [(.slice (some ⟨2, off, none⟩) n c), (.int .i64 (TpS.at_ (Prod.fst (rlLook (List.take n (List.drop (off - off) l)) dk ts (TpS.mk ta tv tk tb tc to tn) ([w] : List Int))))), (.bool (TpS.ov (Prod.fst (rlLook (List.take n (List.drop (off - off) l)) dk ts (TpS.mk ta tv tk tb tc to tn) ([w] : List Int))))), (.int .i64 (TpS.k (Prod.fst (rlLook (List.take n (List.drop (off - off) l)) dk ts (TpS.mk ta tv tk tb tc to tn) ([w] : List Int))))), (.int .u64 (TpS.b (Prod.fst (rlLook (List.take n (List.drop (off - off) l)) dk ts (TpS.mk ta tv tk tb tc to tn) ([w] : List Int))))), (.int .i64 (TpS.c (Prod.fst (rlLook (List.take n (List.drop (off - off) l)) dk ts (TpS.mk ta tv tk tb tc to tn) ([w] : List Int))))), (.int .u64 (TpS.o (Prod.fst (rlLook (List.take n (List.drop (off - off) l)) dk ts (TpS.mk ta tv tk tb tc to tn) ([w] : List Int))))), (.int .u64 (TpS.n (Prod.fst (rlLook (List.take n (List.drop (off - off) l)) dk ts (TpS.mk ta tv tk tb tc to tn) ([w] : List Int)))))] et true), (2, 0, .tail off .u64 l g_), (3, 0, .tail off2 .u64 m g2)]⟩⟩)
          else
            none
        else
          none
      else
        none
  else
    none := by kernel_rfl
noncomputable def Q1S3 : KSt := ⟨(frameL 29 [(8, (.slice (some ⟨4, 0, none⟩) (List.length (Prod.snd (rlLook l dk ts (TpS.mk ta tv tk tb tc to tn) ([w] : List Int)))) (List.length (Prod.snd (rlLook l dk ts (TpS.mk ta tv tk tb tc to tn) ([w] : List Int))))))]), ⟨5, 1, [(4, 0, .ints .u64 (Prod.snd (rlLook l dk ts (TpS.mk ta tv tk tb tc to tn) ([w] : List Int))) 22 true), (0, 0, (Q1O0 e)), (1, 0, .cells [(.slice (some ⟨2, off, none⟩) n c), (.int .i64 (TpS.at_ (Prod.fst (rlLook l dk ts (TpS.mk ta tv tk tb tc to tn) ([w] : List Int))))), (.bool (TpS.ov (Prod.fst (rlLook l dk ts (TpS.mk ta tv tk tb tc to tn) ([w] : List Int))))), (.int .i64 (TpS.k (Prod.fst (rlLook l dk ts (TpS.mk ta tv tk tb tc to tn) ([w] : List Int))))), (.int .u64 (TpS.b (Prod.fst (rlLook l dk ts (TpS.mk ta tv tk tb tc to tn) ([w] : List Int))))), (.int .i64 (TpS.c (Prod.fst (rlLook l dk ts (TpS.mk ta tv tk tb tc to tn) ([w] : List Int))))), (.int .u64 (TpS.o (Prod.fst (rlLook l dk ts (TpS.mk ta tv tk tb tc to tn) ([w] : List Int))))), (.int .u64 (TpS.n (Prod.fst (rlLook l dk ts (TpS.mk ta tv tk tb tc to tn) ([w] : List Int)))))] et true), (2, 0, .tail off .u64 l g_), (3, 0, .tail off2 .u64 m g2)]⟩⟩
theorem Q1W4 : Q1EA rlLook BQ1 [8] [1, 1, 1, 1, 1] none [] (Q1S3 rlLook dk ts off2 w e off n c ta tv tk tb tc to tn et l g_ m g2) =
  some (.fin .ret (Q1S3 rlLook dk ts off2 w e off n c ta tv tk tb tc to tn et l g_ m g2)) := by kernel_rfl
end
theorem Q1zs {dk ts kp th ta : Int} {l : List Int} {n : Nat} {w : Int} {off2 : Nat} {e : TypeId} {off c : Nat} {tv : Bool} {tk tb tc to tn : Int} {et g_ : TypeId} {m : List Int} {g2 : TypeId} {sd : Int} {c2 : Nat} (hd : ¬ dk = 0) (h1 : 1 ≤ ts) (h2 : ts ≤ 64) (h3 : 1 ≤ kp) (h4 : kp ≤ 64) (h5 : 0 ≤ th) (h6 : th < ts) (ht0 : 0 ≤ ta) (hg : l.length = n) (hgn : n ≤ 1000) (hw : w = 0)   {Q : Ex → St → Prop} (hq : Q .ret (KSt.low (Q1S1 off2 e off n c ta tv tk tb tc to tn et l g_ m g2))) : Gets Tryd.prog (Q1H e off n c ta tv tk tb tc to tn et l g_ off2 m g2) BQ1 (KSt.low (Q1S0 dk th ts kp sd off2 c2 w e off n c ta tv tk tb tc to tn et l g_ m g2)) Q := by
  refine AtW.gets ?_
  exact Q1fi ((Q1W1 ..).trans (by rw [nF, dT])) hq
theorem Q1ps {dk ts kp th ta : Int} {l : List Int} {n : Nat} {w : Int} {off2 : Nat} {e : TypeId} {off c : Nat} {tv : Bool} {tk tb tc to tn : Int} {et g_ : TypeId} {m : List Int} {g2 : TypeId} {sd : Int} {c2 : Nat} (hd : ¬ dk = 0) (h1 : 1 ≤ ts) (h2 : ts ≤ 64) (h3 : 1 ≤ kp) (h4 : kp ≤ 64) (h5 : 0 ≤ th) (h6 : th < ts) (ht0 : 0 ≤ ta) (hg : l.length = n) (hgn : n ≤ 1000) (hw : ¬ w = 0) (hk : 1 < kp)   {Q : Ex → St → Prop} (hq : Q .ret (KSt.low (Q1S2 off2 w e off n c ta tv tk tb tc to tn et l g_ m g2))) : Gets Tryd.prog (Q1H e off n c ta tv tk tb tc to tn et l g_ off2 m g2) BQ1 (KSt.low (Q1S0 dk th ts kp sd off2 c2 w e off n c ta tv tk tb tc to tn et l g_ m g2)) Q := by
  refine AtW.gets ?_
  exact Q1fi ((Q1W2 ..).trans (by rw [nT, dT])) hq
theorem Q1pl {dk ts kp th ta : Int} {l : List Int} {n : Nat} {w : Int} {off2 : Nat} {e : TypeId} {off c : Nat} {tv : Bool} {tk tb tc to tn : Int} {et g_ : TypeId} {m : List Int} {g2 : TypeId} {sd : Int} {c2 : Nat} (hd : ¬ dk = 0) (h1 : 1 ≤ ts) (h2 : ts ≤ 64) (h3 : 1 ≤ kp) (h4 : kp ≤ 64) (h5 : 0 ≤ th) (h6 : th < ts) (ht0 : 0 ≤ ta) (hg : l.length = n) (hgn : n ≤ 1000) (hw : ¬ w = 0) (hk : ¬ 1 < kp)   {Q : Ex → St → Prop} (hq : Q .ret (KSt.low (Q1S3 rlLook dk ts off2 w e off n c ta tv tk tb tc to tn et l g_ m g2))) : Gets Tryd.prog (Q1H e off n c ta tv tk tb tc to tn et l g_ off2 m g2) BQ1 (KSt.low (Q1S0 dk th ts kp sd off2 c2 w e off n c ta tv tk tb tc to tn et l g_ m g2)) Q := by
  refine AtW.gets ?_
  refine Q1to (s' := (Q1S3 rlLook dk ts off2 w e off n c ta tv tk tb tc to tn et l g_ m g2)) ((Q1W3 ..).trans (by rw [nT, dF, lT, lT2, condT (and_t (siteP_t hd h1 h2 h3 h4 h5 h6) (and_t (decide_eq_true (by omega)) (and_t (by rw [Nat.sub_self, List.drop_zero, ← hg, List.take_length]; exact ble_t (by omega)) (ble_t (by simp))))), (show (List.take n (List.drop (off - off) l)) = l from by rw [Nat.sub_self, List.drop_zero, ← hg, List.take_length])] <;> rfl)) ?_
  exact Q1fi (Q1W4 ..) hq
noncomputable def BQ0 : Code := bodyOf Tryd.prog 25
theorem BQ0_is : Tryd.f25.body = some BQ0 := by kernel_rfl
noncomputable abbrev Q0H (e : TypeId) (off n c : Nat) (ta : Int) (tv : Bool) (tk tb tc to tn : Int) (et : TypeId) (l : List Int) (g_ : TypeId) : AH := (KH.low ⟨3, 1, [(0, 0, .cells [(.int .i64 1), (.int .i64 64), (.int .i64 1), (.int .i64 64)] e false), (1, 0, .cells [(.slice (some ⟨2, off, none⟩) n c), (.int .i64 ta), (.bool tv), (.int .i64 tk), (.int .u64 tb), (.int .i64 tc), (.int .u64 to), (.int .u64 tn)] et true), (2, 0, .tail off .u64 l g_)]⟩)
noncomputable abbrev Q0EA (rlLook : List Int → Int → Int → TpS → List Int → TpS × List Int) (c : Code) (lv p : List Nat) (st : Option (List Nat)) (ws : List Bool) (s : KSt) : Option Rs := evA (evCK Tryd.prog cfgL (runK Tryd.prog cfgL fsL (conTk rlrDom (rcK varL (rlrT rlLook))) 14 40) 14) (stopW 3 lv) p c st ws s (finW 3 lv)
theorem Q0to {c_ : Code} {lv_ p_ p2_ : List Nat} {ws_ : List Bool} {st_ s' : KSt} {Q : Ex → St → Prop} {e : TypeId} {off n c : Nat} {ta : Int} {tv : Bool} {tk tb tc to tn : Int} {et : TypeId} {l : List Int} {g_ : TypeId} (hE_ : Q0EA rlLook c_ lv_ p_ (some p2_) ws_ st_ = some (.stop s')) (hq_ : AtW Tryd.prog (Q0H e off n c ta tv tk tb tc to tn et l g_) c_ p2_ s' Q) (hok_ : okCode Tryd.prog.globals.size c_ = true := by kernel_rfl) : AtW Tryd.prog (Q0H e off n c ta tv tk tb tc to tn et l g_) c_ p_ st_ Q := AtW.to fitL rlr_sound (rc_agree _ _ _) 14 40 hok_ hE_ hq_
theorem Q0fi {c_ : Code} {lv_ p_ : List Nat} {ws_ : List Bool} {st_ s' : KSt} {x : Ex} {Q : Ex → St → Prop} {e : TypeId} {off n c : Nat} {ta : Int} {tv : Bool} {tk tb tc to tn : Int} {et : TypeId} {l : List Int} {g_ : TypeId} (hE_ : Q0EA rlLook c_ lv_ p_ none ws_ st_ = some (.fin x s')) (hq_ : Q x s'.low) (hok_ : okCode Tryd.prog.globals.size c_ = true := by kernel_rfl) : AtW Tryd.prog (Q0H e off n c ta tv tk tb tc to tn et l g_) c_ p_ st_ Q := AtW.fin fitL rlr_sound (rc_agree _ _ _) 14 40 hok_ hE_ hq_
section
variable (rlLook : List Int → Int → Int → TpS → List Int → TpS × List Int) (dk th ts kp sd w : Int) (e : TypeId) (off n c : Nat) (ta : Int) (tv : Bool) (tk tb tc to tn : Int) (et : TypeId) (l : List Int) (g_ : TypeId)
noncomputable abbrev Q0O0 (e : TypeId) : KObj := .cells [(.int .i64 1), (.int .i64 64), (.int .i64 1), (.int .i64 64)] e false
noncomputable abbrev Q0O1 (off n c : Nat) (ta : Int) (tv : Bool) (tk tb tc to tn : Int) (et : TypeId) : KObj := .cells [(.slice (some ⟨2, off, none⟩) n c), (.int .i64 ta), (.bool tv), (.int .i64 tk), (.int .u64 tb), (.int .i64 tc), (.int .u64 to), (.int .u64 tn)] et true
noncomputable def Q0S0 : KSt := (firstK [(.pointer (some ⟨1, 0, none⟩)), (.agg #[(.int .u64 dk), (.int .i64 th), (.int .i64 ts), (.int .i64 kp), (.int .u64 sd)]), (.slice (some ⟨0, 0, some 0⟩) 0 0), (.int .u64 w)] 29 ⟨3, 1, [(0, 0, (Q0O0 e)), (1, 0, (Q0O1 off n c ta tv tk tb tc to tn et)), (2, 0, .tail off .u64 l g_)]⟩)
noncomputable def Q0S1 : KSt := ⟨(frameL 29 [(8, (.slice (some ⟨3, 0, none⟩) 0 0))]), ⟨4, 1, [(3, 0, .cells [] 22 true), (0, 0, (Q0O0 e)), (1, 0, (Q0O1 off n c ta tv tk tb tc to tn et)), (2, 0, .tail off .u64 l g_)]⟩⟩
theorem Q0W1 : Q0EA rlLook BQ0 [8] [] none [false, true] (Q0S0 dk th ts kp sd w e off n c ta tv tk tb tc to tn et l g_) =
  bif (w != 0) then
    none
  else
    bif (decide (0 < kp)) then
      some (.fin .ret (Q0S1 e off n c ta tv tk tb tc to tn et l g_))
    else
      none := by kernel_rfl
noncomputable def Q0S2 : KSt := ⟨(frameL 29 [(8, (.slice (some ⟨3, 0, none⟩) 1 1))]), ⟨4, 1, [(3, 0, .cells [(.int .u64 w)] 22 true), (0, 0, (Q0O0 e)), (1, 0, (Q0O1 off n c ta tv tk tb tc to tn et)), (2, 0, .tail off .u64 l g_)]⟩⟩
theorem Q0W2 : Q0EA rlLook BQ0 [8] [] none [true, true] (Q0S0 dk th ts kp sd w e off n c ta tv tk tb tc to tn et l g_) =
  bif (w != 0) then
    bif (decide (1 < kp)) then
      some (.fin .ret (Q0S2 w e off n c ta tv tk tb tc to tn et l g_))
    else
      none
  else
    none := by kernel_rfl
theorem Q0W3 : Q0EA rlLook BQ0 [8] [] (some [1, 1, 1, 1, 1]) [true, false] (Q0S0 dk th ts kp sd w e off n c ta tv tk tb tc to tn et l g_) =
  bif (w != 0) then
    bif (decide (1 < kp)) then
      none
    else
      bif (Nat.ble off off) then
        bif (Nat.ble ((off - off) + n) (List.length l)) then
          bif ((siteP dk th ts kp) && ((decide (0 ≤ ta)) && ((Nat.ble (List.length (List.take n (List.drop (off - off) l))) 1000) && (Nat.ble (List.length ([w] : List Int)) 1000)))) then
            some (.stop ⟨(frameL 29 [(8, (.slice (some ⟨3, 0, none⟩) (List.length (Prod.snd (rlLook (List.take n (List.drop (off - off) l)) dk ts (TpS.mk ta tv tk tb tc to tn) ([w] : List Int)))) (List.length (Prod.snd (rlLook (List.take n (List.drop (off - off) l)) dk ts (TpS.mk ta tv tk tb tc to tn) ([w] : List Int))))))]), ⟨4, 1, [(3, 0, .ints .u64 (Prod.snd (rlLook (List.take n (List.drop (off - off) l)) dk ts (TpS.mk ta tv tk tb tc to tn) ([w] : List Int))) 22 true), (0, 0, .cells [(.int .i64 1), (.int .i64 64), (.int .i64 1), (.int .i64 64)] e false), (1, 0, .cells [(.slice (some ⟨2, off, none⟩) n c), (.int .i64 (TpS.at_ (Prod.fst (rlLook (List.take n (List.drop (off - off) l)) dk ts (TpS.mk ta tv tk tb tc to tn) ([w] : List Int))))), (.bool (TpS.ov (Prod.fst (rlLook (List.take n (List.drop (off - off) l)) dk ts (TpS.mk ta tv tk tb tc to tn) ([w] : List Int))))), (.int .i64 (TpS.k (Prod.fst (rlLook (List.take n (List.drop (off - off) l)) dk ts (TpS.mk ta tv tk tb tc to tn) ([w] : List Int))))), (.int .u64 (TpS.b (Prod.fst (rlLook (List.take n (List.drop (off - off) l)) dk ts (TpS.mk ta tv tk tb tc to tn) ([w] : List Int))))), (.int .i64 (TpS.c (Prod.fst (rlLook (List.take n (List.drop (off - off) l)) dk ts (TpS.mk ta tv tk tb tc to tn) ([w] : List Int))))), (.int .u64 (TpS.o (Prod.fst (rlLook (List.take n (List.drop (off - off) l)) dk ts (TpS.mk ta tv tk tb tc to tn) ([w] : List Int))))), (.int .u64 (TpS.n (Prod.fst (rlLook (List.take n (List.drop (off - off) l)) dk ts (TpS.mk ta tv tk tb tc to tn) ([w] : List Int)))))] et true), (2, 0, .tail off .u64 l g_)]⟩⟩)
          else
            none
        else
          none
      else
        none
  else
    none := by kernel_rfl
noncomputable def Q0S3 : KSt := ⟨(frameL 29 [(8, (.slice (some ⟨3, 0, none⟩) (List.length (Prod.snd (rlLook l dk ts (TpS.mk ta tv tk tb tc to tn) ([w] : List Int)))) (List.length (Prod.snd (rlLook l dk ts (TpS.mk ta tv tk tb tc to tn) ([w] : List Int))))))]), ⟨4, 1, [(3, 0, .ints .u64 (Prod.snd (rlLook l dk ts (TpS.mk ta tv tk tb tc to tn) ([w] : List Int))) 22 true), (0, 0, (Q0O0 e)), (1, 0, .cells [(.slice (some ⟨2, off, none⟩) n c), (.int .i64 (TpS.at_ (Prod.fst (rlLook l dk ts (TpS.mk ta tv tk tb tc to tn) ([w] : List Int))))), (.bool (TpS.ov (Prod.fst (rlLook l dk ts (TpS.mk ta tv tk tb tc to tn) ([w] : List Int))))), (.int .i64 (TpS.k (Prod.fst (rlLook l dk ts (TpS.mk ta tv tk tb tc to tn) ([w] : List Int))))), (.int .u64 (TpS.b (Prod.fst (rlLook l dk ts (TpS.mk ta tv tk tb tc to tn) ([w] : List Int))))), (.int .i64 (TpS.c (Prod.fst (rlLook l dk ts (TpS.mk ta tv tk tb tc to tn) ([w] : List Int))))), (.int .u64 (TpS.o (Prod.fst (rlLook l dk ts (TpS.mk ta tv tk tb tc to tn) ([w] : List Int))))), (.int .u64 (TpS.n (Prod.fst (rlLook l dk ts (TpS.mk ta tv tk tb tc to tn) ([w] : List Int)))))] et true), (2, 0, .tail off .u64 l g_)]⟩⟩
theorem Q0W4 : Q0EA rlLook BQ0 [8] [1, 1, 1, 1, 1] none [] (Q0S3 rlLook dk ts w e off n c ta tv tk tb tc to tn et l g_) =
  some (.fin .ret (Q0S3 rlLook dk ts w e off n c ta tv tk tb tc to tn et l g_)) := by kernel_rfl
end
theorem Q0zs {dk ts kp th ta : Int} {l : List Int} {n : Nat} {w : Int} {e : TypeId} {off c : Nat} {tv : Bool} {tk tb tc to tn : Int} {et g_ : TypeId} {sd : Int} (hd : ¬ dk = 0) (h1 : 1 ≤ ts) (h2 : ts ≤ 64) (h3 : 1 ≤ kp) (h4 : kp ≤ 64) (h5 : 0 ≤ th) (h6 : th < ts) (ht0 : 0 ≤ ta) (hg : l.length = n) (hgn : n ≤ 1000) (hw : w = 0)   {Q : Ex → St → Prop} (hq : Q .ret (KSt.low (Q0S1 e off n c ta tv tk tb tc to tn et l g_))) : Gets Tryd.prog (Q0H e off n c ta tv tk tb tc to tn et l g_) BQ0 (KSt.low (Q0S0 dk th ts kp sd w e off n c ta tv tk tb tc to tn et l g_)) Q := by
  refine AtW.gets ?_
  exact Q0fi ((Q0W1 ..).trans (by rw [nF, dT])) hq
theorem Q0ps {dk ts kp th ta : Int} {l : List Int} {n : Nat} {w : Int} {e : TypeId} {off c : Nat} {tv : Bool} {tk tb tc to tn : Int} {et g_ : TypeId} {sd : Int} (hd : ¬ dk = 0) (h1 : 1 ≤ ts) (h2 : ts ≤ 64) (h3 : 1 ≤ kp) (h4 : kp ≤ 64) (h5 : 0 ≤ th) (h6 : th < ts) (ht0 : 0 ≤ ta) (hg : l.length = n) (hgn : n ≤ 1000) (hw : ¬ w = 0) (hk : 1 < kp)   {Q : Ex → St → Prop} (hq : Q .ret (KSt.low (Q0S2 w e off n c ta tv tk tb tc to tn et l g_))) : Gets Tryd.prog (Q0H e off n c ta tv tk tb tc to tn et l g_) BQ0 (KSt.low (Q0S0 dk th ts kp sd w e off n c ta tv tk tb tc to tn et l g_)) Q := by
  refine AtW.gets ?_
  exact Q0fi ((Q0W2 ..).trans (by rw [nT, dT])) hq
theorem Q0pl {dk ts kp th ta : Int} {l : List Int} {n : Nat} {w : Int} {e : TypeId} {off c : Nat} {tv : Bool} {tk tb tc to tn : Int} {et g_ : TypeId} {sd : Int} (hd : ¬ dk = 0) (h1 : 1 ≤ ts) (h2 : ts ≤ 64) (h3 : 1 ≤ kp) (h4 : kp ≤ 64) (h5 : 0 ≤ th) (h6 : th < ts) (ht0 : 0 ≤ ta) (hg : l.length = n) (hgn : n ≤ 1000) (hw : ¬ w = 0) (hk : ¬ 1 < kp)   {Q : Ex → St → Prop} (hq : Q .ret (KSt.low (Q0S3 rlLook dk ts w e off n c ta tv tk tb tc to tn et l g_))) : Gets Tryd.prog (Q0H e off n c ta tv tk tb tc to tn et l g_) BQ0 (KSt.low (Q0S0 dk th ts kp sd w e off n c ta tv tk tb tc to tn et l g_)) Q := by
  refine AtW.gets ?_
  refine Q0to (s' := (Q0S3 rlLook dk ts w e off n c ta tv tk tb tc to tn et l g_)) ((Q0W3 ..).trans (by rw [nT, dF, lT, lT2, condT (and_t (siteP_t hd h1 h2 h3 h4 h5 h6) (and_t (decide_eq_true (by omega)) (and_t (by rw [Nat.sub_self, List.drop_zero, ← hg, List.take_length]; exact ble_t (by omega)) (ble_t (by simp))))), (show (List.take n (List.drop (off - off) l)) = l from by rw [Nat.sub_self, List.drop_zero, ← hg, List.take_length])] <;> rfl)) ?_
  exact Q0fi (Q0W4 ..) hq
def rlRet (l : List Int) (dk ts kp : Int) (T : TpS) (m : List Int) (b : Int) : TpS × List Int := bif decide ((((newW m b).length : Nat) : Int) < kp) then (T, newW m b) else rlLook l dk ts T (newW m b)
theorem rlRet_s {l : List Int} {dk ts kp : Int} {T : TpS} {m W : List Int} {b : Int} (h : newW m b = W) (hk : ((W.length : Nat) : Int) < kp) : rlRet l dk ts kp T m b = (T, W) := by
  unfold rlRet; rw [h, decide_eq_true hk]; rfl
theorem rlRet_l {l : List Int} {dk ts kp : Int} {T : TpS} {m W : List Int} {b : Int} (h : newW m b = W) (hk : ¬ ((W.length : Nat) : Int) < kp) : rlRet l dk ts kp T m b = rlLook l dk ts T W := by
  unfold rlRet; rw [h, decide_eq_false hk]; rfl
theorem rtq2 (e : TypeId) (dk th ts kp sd : Int) (hd : ¬ dk = 0) (h1 : 1 ≤ ts) (h2 : ts ≤ 64) (h3 : 1 ≤ kp) (h4 : kp ≤ 64) (h5 : 0 ≤ th) (h6 : th < ts) (off n c : Nat) (l : List Int) (g_ et : TypeId) (T : TpS) (ht0 : 0 ≤ T.at_) (hg : l.length = n) (hgn : n ≤ 1000) (w : Int) (off2 c2 : Nat) (v : Int) (vs : List Int) (g2 : TypeId) (hmn : vs.length < 900) : DoesC Tryd.prog 25 [.pointer (some ⟨1, 0, none⟩), (.agg #[(.int .u64 dk), (.int .i64 th), (.int .i64 ts), (.int .i64 kp), (.int .u64 sd)]), .slice (some ⟨3, off2, none⟩) (vs.length + 1) c2, .int .u64 w] (mkH [.cells [(.int .i64 1), (.int .i64 64), (.int .i64 1), (.int .i64 64)] e false, .cells [(.slice (some ⟨2, off, none⟩) n c), (.int .i64 T.at_), (.bool T.ov), (.int .i64 T.k), (.int .u64 T.b), (.int .i64 T.c), (.int .u64 T.o), (.int .u64 T.n)] et true, .tail off .u64 l g_, .tail off2 .u64 (v :: vs) g2]).low (.slice (some ⟨4, 0, none⟩) (List.length (Prod.snd (rlRet l dk ts kp T (v :: vs) w))) (List.length (Prod.snd (rlRet l dk ts kp T (v :: vs) w)))) (effK (mkH [.cells [(.int .i64 1), (.int .i64 64), (.int .i64 1), (.int .i64 64)] e false, .cells [(.slice (some ⟨2, off, none⟩) n c), (.int .i64 T.at_), (.bool T.ov), (.int .i64 T.k), (.int .u64 T.b), (.int .i64 T.c), (.int .u64 T.o), (.int .u64 T.n)] et true, .tail off .u64 l g_, .tail off2 .u64 (v :: vs) g2]) [(1, .cells [(.slice (some ⟨2, off, none⟩) n c), .int .i64 (TpS.at_ (Prod.fst (rlRet l dk ts kp T (v :: vs) w))), .bool (TpS.ov (Prod.fst (rlRet l dk ts kp T (v :: vs) w))), .int .i64 (TpS.k (Prod.fst (rlRet l dk ts kp T (v :: vs) w))), .int .u64 (TpS.b (Prod.fst (rlRet l dk ts kp T (v :: vs) w))), .int .i64 (TpS.c (Prod.fst (rlRet l dk ts kp T (v :: vs) w))), .int .u64 (TpS.o (Prod.fst (rlRet l dk ts kp T (v :: vs) w))), .int .u64 (TpS.n (Prod.fst (rlRet l dk ts kp T (v :: vs) w)))] et true)] [.ints .u64 (Prod.snd (rlRet l dk ts kp T (v :: vs) w)) 22 true]).low := by
  by_cases hw : w = 0
  · by_cases hk : ((vs.length : Nat) : Int) + 1 < kp
    · rw [rlRet_s (l := l) (T := T) (m := v :: vs) (newW_z hw) hk]
      refine EndsR.does Tryd.func25 BQ2_is (by rw [oneVar]; exact Nat.le_add_left _ _) ?_
      show Gets Tryd.prog (KH.low ⟨4, 1, [(0, 0, .cells [(.int .i64 1), (.int .i64 64), (.int .i64 1), (.int .i64 64)] e false), (1, 0, .cells [(.slice (some ⟨2, off, none⟩) n c), (.int .i64 T.at_), (.bool T.ov), (.int .i64 T.k), (.int .u64 T.b), (.int .i64 T.c), (.int .u64 T.o), (.int .u64 T.n)] et true), (2, 0, .tail off .u64 l g_), (3, 0, .tail off2 .u64 (v :: vs) g2)]⟩) BQ2 (KSt.low (Q2S0 dk th ts kp sd off2 vs.length c2 w e off n c T.at_ T.ov T.k T.b T.c T.o T.n et l g_ (v :: vs) g2)) _
      exact Q2zs hd h1 h2 h3 h4 h5 h6 ht0 hg hgn rfl hmn hw hk (EndsR.ret (l := [.slice (some ⟨4, 0, none⟩) (vs.length + 1) (vs.length + 1)]) (by kernel_rfl) (rfl) (fitsPN (by kernel_rfl) (by kernel_rfl) (by kernel_rfl) (Nat.le_refl _)))
    · rw [rlRet_l (l := l) (T := T) (m := v :: vs) (newW_z hw) hk]
      refine EndsR.does Tryd.func25 BQ2_is (by rw [oneVar]; exact Nat.le_add_left _ _) ?_
      show Gets Tryd.prog (KH.low ⟨4, 1, [(0, 0, .cells [(.int .i64 1), (.int .i64 64), (.int .i64 1), (.int .i64 64)] e false), (1, 0, .cells [(.slice (some ⟨2, off, none⟩) n c), (.int .i64 T.at_), (.bool T.ov), (.int .i64 T.k), (.int .u64 T.b), (.int .i64 T.c), (.int .u64 T.o), (.int .u64 T.n)] et true), (2, 0, .tail off .u64 l g_), (3, 0, .tail off2 .u64 (v :: vs) g2)]⟩) BQ2 (KSt.low (Q2S0 dk th ts kp sd off2 vs.length c2 w e off n c T.at_ T.ov T.k T.b T.c T.o T.n et l g_ (v :: vs) g2)) _
      exact Q2zl hd h1 h2 h3 h4 h5 h6 ht0 hg hgn rfl hmn hw hk (EndsR.ret (l := [.slice (some ⟨4, 0, none⟩) (List.length (Prod.snd (rlLook l dk ts T (v :: vs)))) (List.length (Prod.snd (rlLook l dk ts T (v :: vs))))]) (by kernel_rfl) (rfl) (fitsPN (by kernel_rfl) (by kernel_rfl) (by kernel_rfl) (Nat.le_refl _)))
  · have hl1 : ((((v :: vs) ++ [w]).length : Nat) : Int) = ((vs.length : Nat) : Int) + 1 + 1 := by simp
    by_cases hk : ((vs.length : Nat) : Int) + 1 + 1 < kp
    · rw [rlRet_s (l := l) (T := T) (m := v :: vs) (newW_p hw) (by rw [hl1]; exact hk)]
      refine EndsR.does Tryd.func25 BQ2_is (by rw [oneVar]; exact Nat.le_add_left _ _) ?_
      show Gets Tryd.prog (KH.low ⟨4, 1, [(0, 0, .cells [(.int .i64 1), (.int .i64 64), (.int .i64 1), (.int .i64 64)] e false), (1, 0, .cells [(.slice (some ⟨2, off, none⟩) n c), (.int .i64 T.at_), (.bool T.ov), (.int .i64 T.k), (.int .u64 T.b), (.int .i64 T.c), (.int .u64 T.o), (.int .u64 T.n)] et true), (2, 0, .tail off .u64 l g_), (3, 0, .tail off2 .u64 (v :: vs) g2)]⟩) BQ2 (KSt.low (Q2S0 dk th ts kp sd off2 vs.length c2 w e off n c T.at_ T.ov T.k T.b T.c T.o T.n et l g_ (v :: vs) g2)) _
      exact Q2ps hd h1 h2 h3 h4 h5 h6 ht0 hg hgn rfl hmn hw hk (EndsR.ret (l := [.slice (some ⟨4, 0, none⟩) (vs.length + 1 + 1) (vs.length + 1 + 1)]) (by kernel_rfl) (by show Value.slice _ _ _ = Value.slice _ ((v :: vs) ++ [w]).length ((v :: vs) ++ [w]).length; rw [List.length_append]; rfl) (fitsPN (by kernel_rfl) (by kernel_rfl) (by kernel_rfl) (Nat.le_refl _)))
    · rw [rlRet_l (l := l) (T := T) (m := v :: vs) (newW_p hw) (by rw [hl1]; exact hk)]
      refine EndsR.does Tryd.func25 BQ2_is (by rw [oneVar]; exact Nat.le_add_left _ _) ?_
      show Gets Tryd.prog (KH.low ⟨4, 1, [(0, 0, .cells [(.int .i64 1), (.int .i64 64), (.int .i64 1), (.int .i64 64)] e false), (1, 0, .cells [(.slice (some ⟨2, off, none⟩) n c), (.int .i64 T.at_), (.bool T.ov), (.int .i64 T.k), (.int .u64 T.b), (.int .i64 T.c), (.int .u64 T.o), (.int .u64 T.n)] et true), (2, 0, .tail off .u64 l g_), (3, 0, .tail off2 .u64 (v :: vs) g2)]⟩) BQ2 (KSt.low (Q2S0 dk th ts kp sd off2 vs.length c2 w e off n c T.at_ T.ov T.k T.b T.c T.o T.n et l g_ (v :: vs) g2)) _
      exact Q2pl hd h1 h2 h3 h4 h5 h6 ht0 hg hgn rfl hmn hw hk (EndsR.ret (l := [.slice (some ⟨4, 0, none⟩) (List.length (Prod.snd (rlLook l dk ts T ((v :: vs) ++ [w])))) (List.length (Prod.snd (rlLook l dk ts T ((v :: vs) ++ [w]))))]) (by kernel_rfl) (rfl) (fitsPN (by kernel_rfl) (by kernel_rfl) (by kernel_rfl) (Nat.le_refl _)))
theorem rtq1 (e : TypeId) (dk th ts kp sd : Int) (hd : ¬ dk = 0) (h1 : 1 ≤ ts) (h2 : ts ≤ 64) (h3 : 1 ≤ kp) (h4 : kp ≤ 64) (h5 : 0 ≤ th) (h6 : th < ts) (off n c : Nat) (l : List Int) (g_ et : TypeId) (T : TpS) (ht0 : 0 ≤ T.at_) (hg : l.length = n) (hgn : n ≤ 1000) (w : Int) (off2 c2 : Nat) (m : List Int) (g2 : TypeId) : DoesC Tryd.prog 25 [.pointer (some ⟨1, 0, none⟩), (.agg #[(.int .u64 dk), (.int .i64 th), (.int .i64 ts), (.int .i64 kp), (.int .u64 sd)]), .slice (some ⟨3, off2, none⟩) 0 c2, .int .u64 w] (mkH [.cells [(.int .i64 1), (.int .i64 64), (.int .i64 1), (.int .i64 64)] e false, .cells [(.slice (some ⟨2, off, none⟩) n c), (.int .i64 T.at_), (.bool T.ov), (.int .i64 T.k), (.int .u64 T.b), (.int .i64 T.c), (.int .u64 T.o), (.int .u64 T.n)] et true, .tail off .u64 l g_, .tail off2 .u64 m g2]).low (.slice (some ⟨4, 0, none⟩) (List.length (Prod.snd (rlRet l dk ts kp T ([] : List Int) w))) (List.length (Prod.snd (rlRet l dk ts kp T ([] : List Int) w)))) (effK (mkH [.cells [(.int .i64 1), (.int .i64 64), (.int .i64 1), (.int .i64 64)] e false, .cells [(.slice (some ⟨2, off, none⟩) n c), (.int .i64 T.at_), (.bool T.ov), (.int .i64 T.k), (.int .u64 T.b), (.int .i64 T.c), (.int .u64 T.o), (.int .u64 T.n)] et true, .tail off .u64 l g_, .tail off2 .u64 m g2]) [(1, .cells [(.slice (some ⟨2, off, none⟩) n c), .int .i64 (TpS.at_ (Prod.fst (rlRet l dk ts kp T ([] : List Int) w))), .bool (TpS.ov (Prod.fst (rlRet l dk ts kp T ([] : List Int) w))), .int .i64 (TpS.k (Prod.fst (rlRet l dk ts kp T ([] : List Int) w))), .int .u64 (TpS.b (Prod.fst (rlRet l dk ts kp T ([] : List Int) w))), .int .i64 (TpS.c (Prod.fst (rlRet l dk ts kp T ([] : List Int) w))), .int .u64 (TpS.o (Prod.fst (rlRet l dk ts kp T ([] : List Int) w))), .int .u64 (TpS.n (Prod.fst (rlRet l dk ts kp T ([] : List Int) w)))] et true)] [.ints .u64 (Prod.snd (rlRet l dk ts kp T ([] : List Int) w)) 22 true]).low := by
  by_cases hw : w = 0
  · rw [rlRet_s (l := l) (T := T) (m := []) (newW_z hw) (by show (0 : Int) < kp; omega)]
    refine EndsR.does Tryd.func25 BQ1_is (by rw [oneVar]; exact Nat.le_add_left _ _) ?_
    show Gets Tryd.prog (KH.low ⟨4, 1, [(0, 0, .cells [(.int .i64 1), (.int .i64 64), (.int .i64 1), (.int .i64 64)] e false), (1, 0, .cells [(.slice (some ⟨2, off, none⟩) n c), (.int .i64 T.at_), (.bool T.ov), (.int .i64 T.k), (.int .u64 T.b), (.int .i64 T.c), (.int .u64 T.o), (.int .u64 T.n)] et true), (2, 0, .tail off .u64 l g_), (3, 0, .tail off2 .u64 m g2)]⟩) BQ1 (KSt.low (Q1S0 dk th ts kp sd off2 c2 w e off n c T.at_ T.ov T.k T.b T.c T.o T.n et l g_ m g2)) _
    exact Q1zs hd h1 h2 h3 h4 h5 h6 ht0 hg hgn hw (EndsR.ret (l := [.slice (some ⟨4, 0, none⟩) 0 0]) (by kernel_rfl) (rfl) (fitsPN (by kernel_rfl) (by kernel_rfl) (by kernel_rfl) (Nat.le_refl _)))
  · have hl1 : (((([] : List Int) ++ [w]).length : Nat) : Int) = 1 := rfl
    by_cases hk : 1 < kp
    · rw [rlRet_s (l := l) (T := T) (m := []) (newW_p hw) (by rw [hl1]; exact hk)]
      refine EndsR.does Tryd.func25 BQ1_is (by rw [oneVar]; exact Nat.le_add_left _ _) ?_
      show Gets Tryd.prog (KH.low ⟨4, 1, [(0, 0, .cells [(.int .i64 1), (.int .i64 64), (.int .i64 1), (.int .i64 64)] e false), (1, 0, .cells [(.slice (some ⟨2, off, none⟩) n c), (.int .i64 T.at_), (.bool T.ov), (.int .i64 T.k), (.int .u64 T.b), (.int .i64 T.c), (.int .u64 T.o), (.int .u64 T.n)] et true), (2, 0, .tail off .u64 l g_), (3, 0, .tail off2 .u64 m g2)]⟩) BQ1 (KSt.low (Q1S0 dk th ts kp sd off2 c2 w e off n c T.at_ T.ov T.k T.b T.c T.o T.n et l g_ m g2)) _
      exact Q1ps hd h1 h2 h3 h4 h5 h6 ht0 hg hgn hw hk (EndsR.ret (l := [.slice (some ⟨4, 0, none⟩) 1 1]) (by kernel_rfl) (rfl) (fitsPN (by kernel_rfl) (by kernel_rfl) (by kernel_rfl) (Nat.le_refl _)))
    · rw [rlRet_l (l := l) (T := T) (m := []) (newW_p hw) (by rw [hl1]; exact hk)]
      refine EndsR.does Tryd.func25 BQ1_is (by rw [oneVar]; exact Nat.le_add_left _ _) ?_
      show Gets Tryd.prog (KH.low ⟨4, 1, [(0, 0, .cells [(.int .i64 1), (.int .i64 64), (.int .i64 1), (.int .i64 64)] e false), (1, 0, .cells [(.slice (some ⟨2, off, none⟩) n c), (.int .i64 T.at_), (.bool T.ov), (.int .i64 T.k), (.int .u64 T.b), (.int .i64 T.c), (.int .u64 T.o), (.int .u64 T.n)] et true), (2, 0, .tail off .u64 l g_), (3, 0, .tail off2 .u64 m g2)]⟩) BQ1 (KSt.low (Q1S0 dk th ts kp sd off2 c2 w e off n c T.at_ T.ov T.k T.b T.c T.o T.n et l g_ m g2)) _
      exact Q1pl hd h1 h2 h3 h4 h5 h6 ht0 hg hgn hw hk (EndsR.ret (l := [.slice (some ⟨4, 0, none⟩) (List.length (Prod.snd (rlLook l dk ts T [w]))) (List.length (Prod.snd (rlLook l dk ts T [w])))]) (by kernel_rfl) (rfl) (fitsPN (by kernel_rfl) (by kernel_rfl) (by kernel_rfl) (Nat.le_refl _)))
theorem rtq0 (e : TypeId) (dk th ts kp sd : Int) (hd : ¬ dk = 0) (h1 : 1 ≤ ts) (h2 : ts ≤ 64) (h3 : 1 ≤ kp) (h4 : kp ≤ 64) (h5 : 0 ≤ th) (h6 : th < ts) (off n c : Nat) (l : List Int) (g_ et : TypeId) (T : TpS) (ht0 : 0 ≤ T.at_) (hg : l.length = n) (hgn : n ≤ 1000) (w : Int) : DoesC Tryd.prog 25 [.pointer (some ⟨1, 0, none⟩), (.agg #[(.int .u64 dk), (.int .i64 th), (.int .i64 ts), (.int .i64 kp), (.int .u64 sd)]), slice0V, .int .u64 w] (mkH [.cells [(.int .i64 1), (.int .i64 64), (.int .i64 1), (.int .i64 64)] e false, .cells [(.slice (some ⟨2, off, none⟩) n c), (.int .i64 T.at_), (.bool T.ov), (.int .i64 T.k), (.int .u64 T.b), (.int .i64 T.c), (.int .u64 T.o), (.int .u64 T.n)] et true, .tail off .u64 l g_]).low (.slice (some ⟨3, 0, none⟩) (List.length (Prod.snd (rlRet l dk ts kp T ([] : List Int) w))) (List.length (Prod.snd (rlRet l dk ts kp T ([] : List Int) w)))) (effK (mkH [.cells [(.int .i64 1), (.int .i64 64), (.int .i64 1), (.int .i64 64)] e false, .cells [(.slice (some ⟨2, off, none⟩) n c), (.int .i64 T.at_), (.bool T.ov), (.int .i64 T.k), (.int .u64 T.b), (.int .i64 T.c), (.int .u64 T.o), (.int .u64 T.n)] et true, .tail off .u64 l g_]) [(1, .cells [(.slice (some ⟨2, off, none⟩) n c), .int .i64 (TpS.at_ (Prod.fst (rlRet l dk ts kp T ([] : List Int) w))), .bool (TpS.ov (Prod.fst (rlRet l dk ts kp T ([] : List Int) w))), .int .i64 (TpS.k (Prod.fst (rlRet l dk ts kp T ([] : List Int) w))), .int .u64 (TpS.b (Prod.fst (rlRet l dk ts kp T ([] : List Int) w))), .int .i64 (TpS.c (Prod.fst (rlRet l dk ts kp T ([] : List Int) w))), .int .u64 (TpS.o (Prod.fst (rlRet l dk ts kp T ([] : List Int) w))), .int .u64 (TpS.n (Prod.fst (rlRet l dk ts kp T ([] : List Int) w)))] et true)] [.ints .u64 (Prod.snd (rlRet l dk ts kp T ([] : List Int) w)) 22 true]).low := by
  by_cases hw : w = 0
  · rw [rlRet_s (l := l) (T := T) (m := []) (newW_z hw) (by show (0 : Int) < kp; omega)]
    refine EndsR.does Tryd.func25 BQ0_is (by rw [oneVar]; exact Nat.le_add_left _ _) ?_
    show Gets Tryd.prog (KH.low ⟨3, 1, [(0, 0, .cells [(.int .i64 1), (.int .i64 64), (.int .i64 1), (.int .i64 64)] e false), (1, 0, .cells [(.slice (some ⟨2, off, none⟩) n c), (.int .i64 T.at_), (.bool T.ov), (.int .i64 T.k), (.int .u64 T.b), (.int .i64 T.c), (.int .u64 T.o), (.int .u64 T.n)] et true), (2, 0, .tail off .u64 l g_)]⟩) BQ0 (KSt.low (Q0S0 dk th ts kp sd w e off n c T.at_ T.ov T.k T.b T.c T.o T.n et l g_)) _
    exact Q0zs hd h1 h2 h3 h4 h5 h6 ht0 hg hgn hw (EndsR.ret (l := [.slice (some ⟨3, 0, none⟩) 0 0]) (by kernel_rfl) (rfl) (fitsPN (by kernel_rfl) (by kernel_rfl) (by kernel_rfl) (Nat.le_refl _)))
  · have hl1 : (((([] : List Int) ++ [w]).length : Nat) : Int) = 1 := rfl
    by_cases hk : 1 < kp
    · rw [rlRet_s (l := l) (T := T) (m := []) (newW_p hw) (by rw [hl1]; exact hk)]
      refine EndsR.does Tryd.func25 BQ0_is (by rw [oneVar]; exact Nat.le_add_left _ _) ?_
      show Gets Tryd.prog (KH.low ⟨3, 1, [(0, 0, .cells [(.int .i64 1), (.int .i64 64), (.int .i64 1), (.int .i64 64)] e false), (1, 0, .cells [(.slice (some ⟨2, off, none⟩) n c), (.int .i64 T.at_), (.bool T.ov), (.int .i64 T.k), (.int .u64 T.b), (.int .i64 T.c), (.int .u64 T.o), (.int .u64 T.n)] et true), (2, 0, .tail off .u64 l g_)]⟩) BQ0 (KSt.low (Q0S0 dk th ts kp sd w e off n c T.at_ T.ov T.k T.b T.c T.o T.n et l g_)) _
      exact Q0ps hd h1 h2 h3 h4 h5 h6 ht0 hg hgn hw hk (EndsR.ret (l := [.slice (some ⟨3, 0, none⟩) 1 1]) (by kernel_rfl) (rfl) (fitsPN (by kernel_rfl) (by kernel_rfl) (by kernel_rfl) (Nat.le_refl _)))
    · rw [rlRet_l (l := l) (T := T) (m := []) (newW_p hw) (by rw [hl1]; exact hk)]
      refine EndsR.does Tryd.func25 BQ0_is (by rw [oneVar]; exact Nat.le_add_left _ _) ?_
      show Gets Tryd.prog (KH.low ⟨3, 1, [(0, 0, .cells [(.int .i64 1), (.int .i64 64), (.int .i64 1), (.int .i64 64)] e false), (1, 0, .cells [(.slice (some ⟨2, off, none⟩) n c), (.int .i64 T.at_), (.bool T.ov), (.int .i64 T.k), (.int .u64 T.b), (.int .i64 T.c), (.int .u64 T.o), (.int .u64 T.n)] et true), (2, 0, .tail off .u64 l g_)]⟩) BQ0 (KSt.low (Q0S0 dk th ts kp sd w e off n c T.at_ T.ov T.k T.b T.c T.o T.n et l g_)) _
      exact Q0pl hd h1 h2 h3 h4 h5 h6 ht0 hg hgn hw hk (EndsR.ret (l := [.slice (some ⟨3, 0, none⟩) (List.length (Prod.snd (rlLook l dk ts T [w]))) (List.length (Prod.snd (rlLook l dk ts T [w])))]) (by kernel_rfl) (rfl) (fitsPN (by kernel_rfl) (by kernel_rfl) (by kernel_rfl) (Nat.le_refl _)))
noncomputable def rc_rRet (rlRet : List Int → Int → Int → Int → TpS → List Int → Int → TpS × List Int) : RC := ⟨[.tape, .val, .row .u64, .int .u64], fun avs => match avs with | [.tape l [.int .i64 ta, .bool tv, .int .i64 tk, .int .u64 tb, .int .i64 tc, .int .u64 to, .int .u64 tn] sl e, .val x, .row m, .int w] => slRow sl && (siteOk x && ((decide (0 ≤ ta)) && ((Nat.ble (List.length l) 1000) && (Nat.ble (List.length m) 900)))) | _ => false,
  fun N avs => match avs with | [.tape l [.int .i64 ta, .bool tv, .int .i64 tk, .int .u64 tb, .int .i64 tc, .int .u64 to, .int .u64 tn] sl e, .val x, .row m, .int w] => (.slice (some ⟨N, 0, none⟩) (List.length (Prod.snd (rlRet l (SiteSt.desk (siteOf x)) (SiteSt.threads (siteOf x)) (SiteSt.keep (siteOf x)) (TpS.mk ta tv tk tb tc to tn) m w))) (List.length (Prod.snd (rlRet l (SiteSt.desk (siteOf x)) (SiteSt.threads (siteOf x)) (SiteSt.keep (siteOf x)) (TpS.mk ta tv tk tb tc to tn) m w))), [(1, .cells [sl, (.int .i64 (TpS.at_ (Prod.fst (rlRet l (SiteSt.desk (siteOf x)) (SiteSt.threads (siteOf x)) (SiteSt.keep (siteOf x)) (TpS.mk ta tv tk tb tc to tn) m w)))), (.bool (TpS.ov (Prod.fst (rlRet l (SiteSt.desk (siteOf x)) (SiteSt.threads (siteOf x)) (SiteSt.keep (siteOf x)) (TpS.mk ta tv tk tb tc to tn) m w)))), (.int .i64 (TpS.k (Prod.fst (rlRet l (SiteSt.desk (siteOf x)) (SiteSt.threads (siteOf x)) (SiteSt.keep (siteOf x)) (TpS.mk ta tv tk tb tc to tn) m w)))), (.int .u64 (TpS.b (Prod.fst (rlRet l (SiteSt.desk (siteOf x)) (SiteSt.threads (siteOf x)) (SiteSt.keep (siteOf x)) (TpS.mk ta tv tk tb tc to tn) m w)))), (.int .i64 (TpS.c (Prod.fst (rlRet l (SiteSt.desk (siteOf x)) (SiteSt.threads (siteOf x)) (SiteSt.keep (siteOf x)) (TpS.mk ta tv tk tb tc to tn) m w)))), (.int .u64 (TpS.o (Prod.fst (rlRet l (SiteSt.desk (siteOf x)) (SiteSt.threads (siteOf x)) (SiteSt.keep (siteOf x)) (TpS.mk ta tv tk tb tc to tn) m w)))), (.int .u64 (TpS.n (Prod.fst (rlRet l (SiteSt.desk (siteOf x)) (SiteSt.threads (siteOf x)) (SiteSt.keep (siteOf x)) (TpS.mk ta tv tk tb tc to tn) m w))))] e true)], [.ints .u64 (Prod.snd (rlRet l (SiteSt.desk (siteOf x)) (SiteSt.threads (siteOf x)) (SiteSt.keep (siteOf x)) (TpS.mk ta tv tk tb tc to tn) m w)) 22 true]) | _ => (.bool false, [], [])⟩
theorem rc_rRet_does : RcDoes Tryd.prog varL 25 (rc_rRet rlRet) := by
  intro vb avs args blks hv hs hp
  obtain ⟨e0, rfl⟩ := var1 hv
  cases hs with
  | tape0 more e hpm hs =>
    cases hs with
    | val x hp_x hs =>
      cases hs with
      | row0 hs =>
        cases hs with
        | int w hs =>
          cases hs
          unfold rc_rRet at hp
          dsimp only at hp
          split at hp
          case h_2 => cases hp
          rename_i heq
          cases heq
          rw [Bool.and_eq_true] at hp
          exact absurd hp.1 (by decide)
      | row off_m n_m c_m m e_m hl_m hs =>
        cases hs with
        | int w hs =>
          cases hs
          unfold rc_rRet at hp
          dsimp only at hp
          split at hp
          case h_2 => cases hp
          rename_i heq
          cases heq
          rw [Bool.and_eq_true] at hp
          exact absurd hp.1 (by decide)
  | tape off_l n_l c_l l more e e_l hl_l hpm hs =>
    cases hs with
    | val x hp_x hs =>
      cases hs with
      | row0 hs =>
        cases hs with
        | int w hs =>
          cases hs
          unfold rc_rRet at hp
          dsimp only at hp
          split at hp
          case h_2 => cases hp
          rename_i heq
          cases heq
          rename_i ta tv tk tb tc to tn
          simp only [Bool.and_eq_true, decide_eq_true_eq] at hp
          obtain ⟨_, hk, h0a, hb1, hb2⟩ := hp
          have hb1 := Nat.le_of_ble_eq_true hb1
          unfold siteOk at hk
          split at hk
          · rename_i dk th ts kp sd
            unfold siteP at hk
            simp only [Bool.and_eq_true, decide_eq_true_eq] at hk
            obtain ⟨h0, h1, h2, h3, h4, h5, h6⟩ := hk
            exact rtq0 e0 dk th ts kp sd h0 h1 h2 h3 h4 h5 h6 off_l n_l c_l l e_l e ⟨ta, tv, tk, tb, tc, to, tn⟩ h0a hl_l (by omega) w
          · cases hk
      | row off_m n_m c_m m e_m hl_m hs =>
        cases hs with
        | int w hs =>
          cases hs
          unfold rc_rRet at hp
          dsimp only at hp
          split at hp
          case h_2 => cases hp
          rename_i heq
          cases heq
          rename_i ta tv tk tb tc to tn
          simp only [Bool.and_eq_true, decide_eq_true_eq] at hp
          obtain ⟨_, hk, h0a, hb1, hb2⟩ := hp
          have hb1 := Nat.le_of_ble_eq_true hb1
          unfold siteOk at hk
          split at hk
          · rename_i dk th ts kp sd
            unfold siteP at hk
            simp only [Bool.and_eq_true, decide_eq_true_eq] at hk
            obtain ⟨h0, h1, h2, h3, h4, h5, h6⟩ := hk
            have hb2 := Nat.le_of_ble_eq_true hb2
            cases m with
            | nil =>
              have hn : n_m = 0 := hl_m.symm
              subst hn
              exact rtq1 e0 dk th ts kp sd h0 h1 h2 h3 h4 h5 h6 off_l n_l c_l l e_l e ⟨ta, tv, tk, tb, tc, to, tn⟩ h0a hl_l (by omega) w off_m c_m [] e_m
            | cons v vs =>
              subst hl_m
              exact rtq2 e0 dk th ts kp sd h0 h1 h2 h3 h4 h5 h6 off_l n_l c_l l e_l e ⟨ta, tv, tk, tb, tc, to, tn⟩ h0a hl_l (by omega) w off_m c_m v vs e_m (by have h9 : vs.length + 1 ≤ 900 := hb2; omega)
          · cases hk
end Go.Proofs.YtfhfbbhoppnbiaaDoor
