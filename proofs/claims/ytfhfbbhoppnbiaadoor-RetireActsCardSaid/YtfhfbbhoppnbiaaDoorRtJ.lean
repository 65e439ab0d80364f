import Derived.Test.YtfhfbbhoppnbiaaDoorRtI
import Derived.WalkKit
import Derived.ProofKit
import Derived.OpenShut
import Derived.ChangeOld
import Derived.Below
import Derived.SizedLaws
namespace Go.Proofs.YtfhfbbhoppnbiaaDoor
open Go.Eng
open Go.ChangeShapes Go.WideShapes Go.ChangeAt Go.RowKit
set_option linter.unusedVariables false
set_option linter.unusedSimpArgs false
set_option maxRecDepth 100000
noncomputable def cfgJ : Cfg := ⟨[]⟩
noncomputable def fsJ : List FuncId := [24, 41, 42, 43, 44, 51]
theorem fitJ : Fit Tryd.prog cfgJ fsJ := ⟨by kernel_rfl, Cfg.ok_of (by kernel_rfl), by kernel_rfl⟩
structure TpS where
  at_ : Int
  ov : Bool
  k : Int
  b : Int
  c : Int
  o : Int
  n : Int
def tpS (l : List Int) (T : TpS) (k b c o n : Int) : TpS := ⟨tAt l T.at_ T.ov, tOv l T.at_ T.ov, tF l T.at_ T.ov k T.k, tF l T.at_ T.ov b T.b, tF l T.at_ T.ov c T.c, tF l T.at_ T.ov o T.o, tF l T.at_ T.ov n T.n⟩
def rlLoad (l : List Int) (dk : Int) : Nat → Int → TpS → List Int → TpS × List Int
  | 0, _, T, q => (T, q)
  | f + 1, i, T, q => rlLoad l dk f (i + 1) (tpS l T 1 dk (3 + i + i) 0 0) (q ++ [tAns l T.at_ T.ov])
def rlFree (l q : List Int) : List Int → TpS → List Int → TpS × List Int
  | [], T, r => (T, r)
  | x :: m, T, r => bif hasW q x then rlFree l q m T (r ++ [x]) else rlFree l q m (tpS l T 6 x 0 0 0) r
def rlLook (l : List Int) (dk ts : Int) (T : TpS) (m : List Int) : TpS × List Int := bif m.isEmpty then (T, []) else rlFree l (rlLoad l dk ts.toNat 0 T []).2 m (rlLoad l dk ts.toNat 0 T []).1 []
theorem tAt_nonneg {l : List Int} {ta : Int} {tv : Bool} (h : 0 ≤ ta) : 0 ≤ tAt l ta tv := by
  unfold tAt; cases tv <;> cases tLv l ta <;> simp only [cond_true, cond_false] <;> omega
theorem fitsPN {blks : List KObj} {h : KH} {i : Nat} {x y : KObj} (hok : okOut blks [(i, x)] [y] = true) (h1 : h.low.get i = some x.low) (h2 : h.low.get blks.length = some y.low) (hx : h.next ≤ blks.length + 1) : Fits (mkH blks).low h.low (effK (mkH blks) [(i, x)] [y]).low :=
  Fits.rc hok (fun p hp => by
    rcases List.mem_singleton.1 hp with rfl
    exact h1) (fun j o hj => by
    match j, hj with
    | 0, hj => cases hj; exact h2) (fun a o hg hn => by
    obtain ⟨q, hq, rfl⟩ := mkH_inv hg
    unfold okOut at hok
    simp only [Bool.and_eq_true] at hok
    rw [KObj.rw_low]
    cases hr : q.rw with
    | false => exact .inl rfl
    | true =>
      have := allRw_mem hok.2.2.2 hq hr
      rw [Nat.zero_add] at this
      exact absurd this hn) hx
noncomputable def tjhT (hasW : List Int → Int → Bool) (tAns : List Int → Int → Bool → Int) (tAt : List Int → Int → Bool → Int) (tF : List Int → Int → Bool → Int → Int → Int) (tOv : List Int → Int → Bool → Bool) : RTab := fun f => match f with
  | 51 => some (rc_tDo tAns tAt tF tOv)
  | 43 => some (rc_rHas hasW)
  | _ => none
def tjhDom : List FuncId := [51, 43]
theorem tjh_does : ∀ f rc, f ∈ tjhDom → (tjhT hasW tAns tAt tF tOv) f = some rc → RcDoes Tryd.prog varL f rc := by
  intro f rc hf hT
  simp only [tjhDom, List.mem_cons, List.not_mem_nil, or_false] at hf
  rcases hf with rfl | rfl
  · cases hT; exact rc_tDo_does
  · cases hT; exact rc_rHas_does
theorem tjh_fn : ∀ f ∈ tjhDom, FnOk Tryd.prog f := fun f hf => fitJ.fnOk f (by
    have h0 : (tjhDom.all fun f => fsJ.contains f) = true := by kernel_rfl
    simpa using List.all_eq_true.1 h0 f hf)
theorem tjh_sound : SoundC Tryd.prog (conC tjhDom (rcE varL (tjhT hasW tAns tAt tF tOv))) := rc_sound oneVar tjh_fn tjh_does
noncomputable def BJr : Code := bodyOf Tryd.prog 24
theorem BJr_is : Tryd.f24.body = some BJr := by kernel_rfl
noncomputable abbrev JrH (e : TypeId) (off n c : Nat) (ta : Int) (tv : Bool) (tk tb tc to tn : Int) (et : TypeId) (l : List Int) (g_ : TypeId) (off2 : Nat) (m : List Int) (g2 : TypeId) : AH := (KH.low ⟨4, 1, [(0, 0, .cells [(.int .i64 1), (.int .i64 64), (.int .i64 1), (.int .i64 64)] e false), (1, 0, .cells [(.slice (some ⟨2, off, none⟩) n c), (.int .i64 ta), (.bool tv), (.int .i64 tk), (.int .u64 tb), (.int .i64 tc), (.int .u64 to), (.int .u64 tn)] et true), (2, 0, .tail off .u64 l g_), (3, 0, .tail off2 .u64 m g2)]⟩)
noncomputable abbrev JrEA (hasW : List Int → Int → Bool) (tAns : List Int → Int → Bool → Int) (tAt : List Int → Int → Bool → Int) (tF : List Int → Int → Bool → Int → Int → Int) (tOv : List Int → Int → Bool → Bool) (c : Code) (lv p : List Nat) (st : Option (List Nat)) (ws : List Bool) (s : KSt) : Option Rs := evA (evCK Tryd.prog cfgJ (runK Tryd.prog cfgJ fsJ (conTk tjhDom (rcK varL (tjhT hasW tAns tAt tF tOv))) 14 40) 14) (stopW 4 lv) p c st ws s (finW 4 lv)
theorem Jrto {c_ : Code} {lv_ p_ p2_ : List Nat} {ws_ : List Bool} {st_ s' : KSt} {Q : Ex → St → Prop} {e : TypeId} {off n c : Nat} {ta : Int} {tv : Bool} {tk tb tc to tn : Int} {et : TypeId} {l : List Int} {g_ : TypeId} {off2 : Nat} {m : List Int} {g2 : TypeId} (hE_ : JrEA hasW tAns tAt tF tOv c_ lv_ p_ (some p2_) ws_ st_ = some (.stop s')) (hq_ : AtW Tryd.prog (JrH e off n c ta tv tk tb tc to tn et l g_ off2 m g2) c_ p2_ s' Q) (hok_ : okCode Tryd.prog.globals.size c_ = true := by kernel_rfl) : AtW Tryd.prog (JrH e off n c ta tv tk tb tc to tn et l g_ off2 m g2) c_ p_ st_ Q := AtW.to fitJ tjh_sound (rc_agree _ _ _) 14 40 hok_ hE_ hq_
theorem Jrfi {c_ : Code} {lv_ p_ : List Nat} {ws_ : List Bool} {st_ s' : KSt} {x : Ex} {Q : Ex → St → Prop} {e : TypeId} {off n c : Nat} {ta : Int} {tv : Bool} {tk tb tc to tn : Int} {et : TypeId} {l : List Int} {g_ : TypeId} {off2 : Nat} {m : List Int} {g2 : TypeId} (hE_ : JrEA hasW tAns tAt tF tOv c_ lv_ p_ none ws_ st_ = some (.fin x s')) (hq_ : Q x s'.low) (hok_ : okCode Tryd.prog.globals.size c_ = true := by kernel_rfl) : AtW Tryd.prog (JrH e off n c ta tv tk tb tc to tn et l g_ off2 m g2) c_ p_ st_ Q := AtW.fin fitJ tjh_sound (rc_agree _ _ _) 14 40 hok_ hE_ hq_
theorem JrC1_1_1_0_1 : (codeAt [1, 1, 1, 0, 1] BJr) = .block 0 (codeAt [1, 1, 1, 0, 1, 0] BJr) := by kernel_rfl
theorem JrC1_1_1_0_1_0 : (codeAt [1, 1, 1, 0, 1, 0] BJr) = .loop (codeAt [1, 1, 1, 0, 1, 0, 0] BJr) := by kernel_rfl
theorem JrC1_1_1_1_0_1 : (codeAt [1, 1, 1, 1, 0, 1] BJr) = .block 2 (codeAt [1, 1, 1, 1, 0, 1, 0] BJr) := by kernel_rfl
theorem JrC1_1_1_1_0_1_0 : (codeAt [1, 1, 1, 1, 0, 1, 0] BJr) = .loop (codeAt [1, 1, 1, 1, 0, 1, 0, 0] BJr) := by kernel_rfl
section
variable (hasW : List Int → Int → Bool) (tAns : List Int → Int → Bool → Int) (tAt : List Int → Int → Bool → Int) (tF : List Int → Int → Bool → Int → Int → Int) (tOv : List Int → Int → Bool → Bool) (dk th ts kp sd : Int) (off2 n2 c2 : Nat) (e : TypeId) (off n c : Nat) (ta : Int) (tv : Bool) (tk tb tc to tn : Int) (et : TypeId) (l : List Int) (g_ : TypeId) (m : List Int) (g2 : TypeId) (mq : Nat) (i : Int) (q : List Int) (ua : Int) (uv : Bool) (uk ub uc uo un : Int) (mr j : Nat) (r : List Int) (zn1 : Int)
noncomputable abbrev JrO0 (e : TypeId) : KObj := .cells [(.int .i64 1), (.int .i64 64), (.int .i64 1), (.int .i64 64)] e false
noncomputable abbrev JrO1 (dk th ts kp sd : Int) : KObj := .cells [(.int .u64 dk), (.int .i64 th), (.int .i64 ts), (.int .i64 kp), (.int .u64 sd)] 24 true
noncomputable abbrev JrO2 (off n c : Nat) (ua : Int) (uv : Bool) (uk ub uc uo un : Int) (et : TypeId) : KObj := .cells [(.slice (some ⟨2, off, none⟩) n c), (.int .i64 ua), (.bool uv), (.int .i64 uk), (.int .u64 ub), (.int .i64 uc), (.int .u64 uo), (.int .u64 un)] et true
noncomputable def JrS0 : KSt := (firstK [(.pointer (some ⟨1, 0, none⟩)), (.agg #[(.int .u64 dk), (.int .i64 th), (.int .i64 ts), (.int .i64 kp), (.int .u64 sd)]), (.slice (some ⟨3, off2, none⟩) n2 c2)] 59 ⟨4, 1, [(0, 0, (JrO0 e)), (1, 0, .cells [(.slice (some ⟨2, off, none⟩) n c), (.int .i64 ta), (.bool tv), (.int .i64 tk), (.int .u64 tb), (.int .i64 tc), (.int .u64 to), (.int .u64 tn)] et true), (2, 0, .tail off .u64 l g_), (3, 0, .tail off2 .u64 m g2)]⟩)
noncomputable def JrS1 : KSt := ⟨(frameL 59 [(0, (.pointer (some ⟨1, 0, none⟩))), (2, (.slice (some ⟨3, off2, none⟩) n2 c2)), (4, (.pointer (some ⟨4, 0, none⟩))), (7, (.slice (some ⟨5, 0, none⟩) 0 0)), (8, (.slice (some ⟨6, 0, none⟩) 0 0)), (9, (.int .i64 0))]), ⟨7, 1, [(6, 0, .cells [] 22 true), (5, 0, .cells [] 22 true), (4, 0, (JrO1 dk th ts kp sd)), (0, 0, (JrO0 e)), (1, 0, .cells [(.slice (some ⟨2, off, none⟩) n c), (.int .i64 ta), (.bool tv), (.int .i64 tk), (.int .u64 tb), (.int .i64 tc), (.int .u64 to), (.int .u64 tn)] et true), (2, 0, .tail off .u64 l g_), (3, 0, .tail off2 .u64 m g2)]⟩⟩
theorem JrW1 : JrEA hasW tAns tAt tF tOv BJr [0, 2, 4, 7, 8, 9] [] (some [1, 1, 1, 0, 1]) [] (JrS0 dk th ts kp sd off2 n2 c2 e off n c ta tv tk tb tc to tn et l g_ m g2) =
  some (.stop (JrS1 dk th ts kp sd off2 n2 c2 e off n c ta tv tk tb tc to tn et l g_ m g2)) := by kernel_rfl
noncomputable def JrS2 : KSt := ⟨(frameL 59 [(0, (.pointer (some ⟨1, 0, none⟩))), (2, (.slice (some ⟨3, off2, none⟩) n2 c2)), (4, (.pointer (some ⟨4, 0, none⟩))), (7, (.slice (some ⟨5, 0, none⟩) mq mq)), (8, (.slice (some ⟨6, 0, none⟩) 0 0)), (9, (.int .i64 i))]), ⟨7, 1, [(6, 0, .cells [] 22 true), (5, 0, .ints .u64 q 22 true), (4, 0, (JrO1 dk th ts kp sd)), (0, 0, (JrO0 e)), (1, 0, (JrO2 off n c ua uv uk ub uc uo un et)), (2, 0, .tail off .u64 l g_), (3, 0, .tail off2 .u64 m g2)]⟩⟩
noncomputable def JrS3 : KSt := ⟨(frameL 59 [(0, (.pointer (some ⟨1, 0, none⟩))), (2, (.slice (some ⟨3, off2, none⟩) n2 c2)), (4, (.pointer (some ⟨4, 0, none⟩))), (7, (.slice (some ⟨5, 0, none⟩) mq mq)), (8, (.slice (some ⟨6, 0, none⟩) 0 0)), (9, (.int .i64 i)), (21, (.bool (decide (((n2 : Nat) : Int) > 0))))]), ⟨7, 1, [(6, 0, .cells [] 22 true), (5, 0, .ints .u64 q 22 true), (4, 0, (JrO1 dk th ts kp sd)), (0, 0, (JrO0 e)), (1, 0, (JrO2 off n c ua uv uk ub uc uo un et)), (2, 0, .tail off .u64 l g_), (3, 0, .tail off2 .u64 m g2)]⟩⟩
noncomputable def JrS4 : KSt := ⟨(frameL 59 [(0, (.pointer (some ⟨1, 0, none⟩))), (2, (.slice (some ⟨3, off2, none⟩) n2 c2)), (4, (.pointer (some ⟨4, 0, none⟩))), (7, (.slice (some ⟨5, 0, none⟩) mq mq)), (8, (.slice (some ⟨6, 0, none⟩) 0 0)), (9, (.int .i64 i)), (21, (.bool false))]), ⟨7, 1, [(6, 0, .cells [] 22 true), (5, 0, .ints .u64 q 22 true), (4, 0, (JrO1 dk th ts kp sd)), (0, 0, (JrO0 e)), (1, 0, (JrO2 off n c ua uv uk ub uc uo un et)), (2, 0, .tail off .u64 l g_), (3, 0, .tail off2 .u64 m g2)]⟩⟩
theorem JrW2 : JrEA hasW tAns tAt tF tOv (codeAt [1, 1, 1, 0, 1, 0, 0] BJr) [0, 2, 4, 7, 8, 9, 21] [] (some [0, 1]) [] (JrS2 dk th ts kp sd off2 n2 c2 e off n c et l g_ m g2 mq i q ua uv uk ub uc uo un) =
  bif (decide (i < ts)) then
    some (.stop (JrS3 dk th ts kp sd off2 n2 c2 e off n c et l g_ m g2 mq i q ua uv uk ub uc uo un))
  else
    some (.stop (JrS4 dk th ts kp sd off2 n2 c2 e off n c et l g_ m g2 mq i q ua uv uk ub uc uo un)) := by kernel_rfl
noncomputable def JrS5 : KSt := ⟨(frameL 59 [(0, (.pointer (some ⟨1, 0, none⟩))), (2, (.slice (some ⟨3, off2, none⟩) n2 c2)), (4, (.pointer (some ⟨4, 0, none⟩))), (7, (.slice (some ⟨5, 0, none⟩) (mq + 1) mq)), (8, (.slice (some ⟨6, 0, none⟩) 0 0)), (9, (.int .i64 i))]), ⟨7, 1, [(6, 0, .cells [] 22 true), (5, 0, .ints .u64 (List.take (0 + mq) q ++ [(tAns (List.take n (List.drop (off - off) l)) ua uv)] ++ List.drop ((0 + mq) + (List.length [(tAns (List.take n (List.drop (off - off) l)) ua uv)])) q) 22 true), (4, 0, (JrO1 dk th ts kp sd)), (0, 0, (JrO0 e)), (1, 0, .cells [(.slice (some ⟨2, off, none⟩) n c), (.int .i64 (tAt (List.take n (List.drop (off - off) l)) ua uv)), (.bool (tOv (List.take n (List.drop (off - off) l)) ua uv)), (.int .i64 (tF (List.take n (List.drop (off - off) l)) ua uv 1 uk)), (.int .u64 (tF (List.take n (List.drop (off - off) l)) ua uv dk ub)), (.int .i64 (tF (List.take n (List.drop (off - off) l)) ua uv (-1) uc)), (.int .u64 (tF (List.take n (List.drop (off - off) l)) ua uv 0 uo)), (.int .u64 (tF (List.take n (List.drop (off - off) l)) ua uv 0 un))] et true), (2, 0, .tail off .u64 l g_), (3, 0, .tail off2 .u64 m g2)]⟩⟩
noncomputable def JrS6 : KSt := ⟨(frameL 59 [(0, (.pointer (some ⟨1, 0, none⟩))), (2, (.slice (some ⟨3, off2, none⟩) n2 c2)), (4, (.pointer (some ⟨4, 0, none⟩))), (7, (.slice (some ⟨5, 0, none⟩) 1 1)), (8, (.slice (some ⟨6, 0, none⟩) 0 0)), (9, (.int .i64 i))]), ⟨7, 1, [(6, 0, .cells [] 22 true), (5, 0, .cells [(.int .u64 (tAns (List.take n (List.drop (off - off) l)) ua uv))] 22 true), (4, 0, (JrO1 dk th ts kp sd)), (0, 0, (JrO0 e)), (1, 0, .cells [(.slice (some ⟨2, off, none⟩) n c), (.int .i64 (tAt (List.take n (List.drop (off - off) l)) ua uv)), (.bool (tOv (List.take n (List.drop (off - off) l)) ua uv)), (.int .i64 (tF (List.take n (List.drop (off - off) l)) ua uv 1 uk)), (.int .u64 (tF (List.take n (List.drop (off - off) l)) ua uv dk ub)), (.int .i64 (tF (List.take n (List.drop (off - off) l)) ua uv (-1) uc)), (.int .u64 (tF (List.take n (List.drop (off - off) l)) ua uv 0 uo)), (.int .u64 (tF (List.take n (List.drop (off - off) l)) ua uv 0 un))] et true), (2, 0, .tail off .u64 l g_), (3, 0, .tail off2 .u64 m g2)]⟩⟩
noncomputable def JrS7 : KSt := ⟨(frameL 59 [(0, (.pointer (some ⟨1, 0, none⟩))), (2, (.slice (some ⟨3, off2, none⟩) n2 c2)), (4, (.pointer (some ⟨4, 0, none⟩))), (7, (.slice (some ⟨5, 0, none⟩) (mq + 1) (mq + 1))), (8, (.slice (some ⟨6, 0, none⟩) 0 0)), (9, (.int .i64 i))]), ⟨7, 1, [(6, 0, .cells [] 22 true), (5, 0, .ints .u64 (List.take mq q ++ [(tAns (List.take n (List.drop (off - off) l)) ua uv)]) 22 true), (4, 0, (JrO1 dk th ts kp sd)), (0, 0, (JrO0 e)), (1, 0, .cells [(.slice (some ⟨2, off, none⟩) n c), (.int .i64 (tAt (List.take n (List.drop (off - off) l)) ua uv)), (.bool (tOv (List.take n (List.drop (off - off) l)) ua uv)), (.int .i64 (tF (List.take n (List.drop (off - off) l)) ua uv 1 uk)), (.int .u64 (tF (List.take n (List.drop (off - off) l)) ua uv dk ub)), (.int .i64 (tF (List.take n (List.drop (off - off) l)) ua uv (-1) uc)), (.int .u64 (tF (List.take n (List.drop (off - off) l)) ua uv 0 uo)), (.int .u64 (tF (List.take n (List.drop (off - off) l)) ua uv 0 un))] et true), (2, 0, .tail off .u64 l g_), (3, 0, .tail off2 .u64 m g2)]⟩⟩
theorem JrW3 : JrEA hasW tAns tAt tF tOv (codeAt [1, 1, 1, 0, 1, 0, 0] BJr) [0, 2, 4, 7, 8, 9] [0, 1] (some [1, 1]) [true, false] (JrS3 dk th ts kp sd off2 n2 c2 e off n c et l g_ m g2 mq i q ua uv uk ub uc uo un) =
  bif (decide (((n2 : Nat) : Int) > 0)) then
    bif (decide (i < 0)) then
      bif (Nat.ble off off) then
        bif (Nat.ble ((off - off) + n) (List.length l)) then
          bif ((decide (0 ≤ ua)) && (Nat.ble (List.length (List.take n (List.drop (off - off) l))) 1000)) then
            bif (Nat.ble ((mq + 1) * 9) 1099511627776) then
              bif (Nat.ble (mq + 1) mq) then
                bif (Nat.ble (0 + (mq + 1)) (List.length q)) then
                  some (.stop (JrS5 tAns tAt tF tOv dk th ts kp sd off2 n2 c2 e off n c et l g_ m g2 mq i q ua uv uk ub uc uo un))
                else
                  none
              else
                bif ((Nat.beq mq 0) && (Nat.beq mq 0)) then
                  some (.stop (JrS6 tAns tAt tF tOv dk th ts kp sd off2 n2 c2 e off n c et l g_ m g2 i ua uv uk ub uc uo un))
                else
                  bif ((Nat.ble mq (List.length q)) && (Nat.ble 1 mq)) then
                    some (.stop (JrS7 tAns tAt tF tOv dk th ts kp sd off2 n2 c2 e off n c et l g_ m g2 mq i q ua uv uk ub uc uo un))
                  else
                    none
            else
              none
          else
            none
        else
          none
      else
        none
    else
      bif (decide (i > 63)) then
        bif (Nat.ble off off) then
          bif (Nat.ble ((off - off) + n) (List.length l)) then
            bif ((decide (0 ≤ ua)) && (Nat.ble (List.length (List.take n (List.drop (off - off) l))) 1000)) then
              bif (Nat.ble ((mq + 1) * 9) 1099511627776) then
                bif (Nat.ble (mq + 1) mq) then
                  bif (Nat.ble (0 + (mq + 1)) (List.length q)) then
                    some (.stop (JrS5 tAns tAt tF tOv dk th ts kp sd off2 n2 c2 e off n c et l g_ m g2 mq i q ua uv uk ub uc uo un))
                  else
                    none
                else
                  bif ((Nat.beq mq 0) && (Nat.beq mq 0)) then
                    some (.stop (JrS6 tAns tAt tF tOv dk th ts kp sd off2 n2 c2 e off n c et l g_ m g2 i ua uv uk ub uc uo un))
                  else
                    bif ((Nat.ble mq (List.length q)) && (Nat.ble 1 mq)) then
                      some (.stop (JrS7 tAns tAt tF tOv dk th ts kp sd off2 n2 c2 e off n c et l g_ m g2 mq i q ua uv uk ub uc uo un))
                    else
                      none
              else
                none
            else
              none
          else
            none
        else
          none
      else
        bif (Nat.ble off off) then
          bif (Nat.ble ((off - off) + n) (List.length l)) then
            bif ((decide (0 ≤ ua)) && (Nat.ble (List.length (List.take n (List.drop (off - off) l))) 1000)) then
              bif (Nat.ble ((mq + 1) * 9) 1099511627776) then
                bif (Nat.ble (mq + 1) mq) then
                  bif (Nat.ble (0 + (mq + 1)) (List.length q)) then
                    some (.stop ⟨(frameL 59 [(0, (.pointer (some ⟨1, 0, none⟩))), (2, (.slice (some ⟨3, off2, none⟩) n2 c2)), (4, (.pointer (some ⟨4, 0, none⟩))), (7, (.slice (some ⟨5, 0, none⟩) (mq + 1) mq)), (8, (.slice (some ⟨6, 0, none⟩) 0 0)), (9, (.int .i64 i))]), ⟨7, 1, [(6, 0, .cells [] 22 true), (5, 0, .ints .u64 (List.take (0 + mq) q ++ [(tAns (List.take n (List.drop (off - off) l)) ua uv)] ++ List.drop ((0 + mq) + (List.length [(tAns (List.take n (List.drop (off - off) l)) ua uv)])) q) 22 true), (4, 0, .cells [(.int .u64 dk), (.int .i64 th), (.int .i64 ts), (.int .i64 kp), (.int .u64 sd)] 24 true), (0, 0, .cells [(.int .i64 1), (.int .i64 64), (.int .i64 1), (.int .i64 64)] e false), (1, 0, .cells [(.slice (some ⟨2, off, none⟩) n c), (.int .i64 (tAt (List.take n (List.drop (off - off) l)) ua uv)), (.bool (tOv (List.take n (List.drop (off - off) l)) ua uv)), (.int .i64 (tF (List.take n (List.drop (off - off) l)) ua uv 1 uk)), (.int .u64 (tF (List.take n (List.drop (off - off) l)) ua uv dk ub)), (.int .i64 (tF (List.take n (List.drop (off - off) l)) ua uv (IntKind.wrap .i64 ((IntKind.wrap .i64 (3 + i)) + i)) uc)), (.int .u64 (tF (List.take n (List.drop (off - off) l)) ua uv 0 uo)), (.int .u64 (tF (List.take n (List.drop (off - off) l)) ua uv 0 un))] et true), (2, 0, .tail off .u64 l g_), (3, 0, .tail off2 .u64 m g2)]⟩⟩)
                  else
                    none
                else
                  bif ((Nat.beq mq 0) && (Nat.beq mq 0)) then
                    some (.stop ⟨(frameL 59 [(0, (.pointer (some ⟨1, 0, none⟩))), (2, (.slice (some ⟨3, off2, none⟩) n2 c2)), (4, (.pointer (some ⟨4, 0, none⟩))), (7, (.slice (some ⟨5, 0, none⟩) 1 1)), (8, (.slice (some ⟨6, 0, none⟩) 0 0)), (9, (.int .i64 i))]), ⟨7, 1, [(6, 0, .cells [] 22 true), (5, 0, .cells [(.int .u64 (tAns (List.take n (List.drop (off - off) l)) ua uv))] 22 true), (4, 0, .cells [(.int .u64 dk), (.int .i64 th), (.int .i64 ts), (.int .i64 kp), (.int .u64 sd)] 24 true), (0, 0, .cells [(.int .i64 1), (.int .i64 64), (.int .i64 1), (.int .i64 64)] e false), (1, 0, .cells [(.slice (some ⟨2, off, none⟩) n c), (.int .i64 (tAt (List.take n (List.drop (off - off) l)) ua uv)), (.bool (tOv (List.take n (List.drop (off - off) l)) ua uv)), (.int .i64 (tF (List.take n (List.drop (off - off) l)) ua uv 1 uk)), (.int .u64 (tF (List.take n (List.drop (off - off) l)) ua uv dk ub)), (.int .i64 (tF (List.take n (List.drop (off - off) l)) ua uv (IntKind.wrap .i64 ((IntKind.wrap .i64 (3 + i)) + i)) uc)), (.int .u64 (tF (List.take n (List.drop (off - off) l)) ua uv 0 uo)), (.int .u64 (tF (List.take n (List.drop (off - off) l)) ua uv 0 un))] et true), (2, 0, .tail off .u64 l g_), (3, 0, .tail off2 .u64 m g2)]⟩⟩)
                  else
                    bif ((Nat.ble mq (List.length q)) && (Nat.ble 1 mq)) then
                      some (.stop ⟨(frameL 59 [(0, (.pointer (some ⟨1, 0, none⟩))), (2, (.slice (some ⟨3, off2, none⟩) n2 c2)), (4, (.pointer (some ⟨4, 0, none⟩))), (7, (.slice (some ⟨5, 0, none⟩) (mq + 1) (mq + 1))), (8, (.slice (some ⟨6, 0, none⟩) 0 0)), (9, (.int .i64 i))]), ⟨7, 1, [(6, 0, .cells [] 22 true), (5, 0, .ints .u64 (List.take mq q ++ [(tAns (List.take n (List.drop (off - off) l)) ua uv)]) 22 true), (4, 0, .cells [(.int .u64 dk), (.int .i64 th), (.int .i64 ts), (.int .i64 kp), (.int .u64 sd)] 24 true), (0, 0, .cells [(.int .i64 1), (.int .i64 64), (.int .i64 1), (.int .i64 64)] e false), (1, 0, .cells [(.slice (some ⟨2, off, none⟩) n c), (.int .i64 (tAt (List.take n (List.drop (off - off) l)) ua uv)), (.bool (tOv (List.take n (List.drop (off - off) l)) ua uv)), (.int .i64 (tF (List.take n (List.drop (off - off) l)) ua uv 1 uk)), (.int .u64 (tF (List.take n (List.drop (off - off) l)) ua uv dk ub)), (.int .i64 (tF (List.take n (List.drop (off - off) l)) ua uv (IntKind.wrap .i64 ((IntKind.wrap .i64 (3 + i)) + i)) uc)), (.int .u64 (tF (List.take n (List.drop (off - off) l)) ua uv 0 uo)), (.int .u64 (tF (List.take n (List.drop (off - off) l)) ua uv 0 un))] et true), (2, 0, .tail off .u64 l g_), (3, 0, .tail off2 .u64 m g2)]⟩⟩)
                    else
                      none
              else
                none
            else
              none
          else
            none
        else
          none
  else
    none := by kernel_rfl
noncomputable def JrS10 : KSt := ⟨(frameL 59 [(0, (.pointer (some ⟨1, 0, none⟩))), (2, (.slice (some ⟨3, off2, none⟩) n2 c2)), (4, (.pointer (some ⟨4, 0, none⟩))), (7, (.slice (some ⟨5, 0, none⟩) (mq + 1) (mq + 1))), (8, (.slice (some ⟨6, 0, none⟩) 0 0)), (9, (.int .i64 i))]), ⟨7, 1, [(6, 0, .cells [] 22 true), (5, 0, .ints .u64 (List.take mq q ++ [(tAns l ua uv)]) 22 true), (4, 0, (JrO1 dk th ts kp sd)), (0, 0, (JrO0 e)), (1, 0, .cells [(.slice (some ⟨2, off, none⟩) n c), (.int .i64 (tAt l ua uv)), (.bool (tOv l ua uv)), (.int .i64 (tF l ua uv 1 uk)), (.int .u64 (tF l ua uv dk ub)), (.int .i64 (tF l ua uv (3 + i + i) uc)), (.int .u64 (tF l ua uv 0 uo)), (.int .u64 (tF l ua uv 0 un))] et true), (2, 0, .tail off .u64 l g_), (3, 0, .tail off2 .u64 m g2)]⟩⟩
theorem JrW4 : JrEA hasW tAns tAt tF tOv (codeAt [1, 1, 1, 0, 1, 0, 0] BJr) [0, 2, 4, 7, 8, 9] [1, 1] none [] (JrS10 tAns tAt tF tOv dk th ts kp sd off2 n2 c2 e off n c et l g_ m g2 mq i q ua uv uk ub uc uo un) =
  some (.fin .normal ⟨(frameL 59 [(0, (.pointer (some ⟨1, 0, none⟩))), (2, (.slice (some ⟨3, off2, none⟩) n2 c2)), (4, (.pointer (some ⟨4, 0, none⟩))), (7, (.slice (some ⟨5, 0, none⟩) (mq + 1) (mq + 1))), (8, (.slice (some ⟨6, 0, none⟩) 0 0)), (9, (.int .i64 (IntKind.wrap .i64 (i + 1))))]), ⟨7, 1, [(6, 0, .cells [] 22 true), (5, 0, .ints .u64 (List.take mq q ++ [(tAns l ua uv)]) 22 true), (4, 0, .cells [(.int .u64 dk), (.int .i64 th), (.int .i64 ts), (.int .i64 kp), (.int .u64 sd)] 24 true), (0, 0, .cells [(.int .i64 1), (.int .i64 64), (.int .i64 1), (.int .i64 64)] e false), (1, 0, .cells [(.slice (some ⟨2, off, none⟩) n c), (.int .i64 (tAt l ua uv)), (.bool (tOv l ua uv)), (.int .i64 (tF l ua uv 1 uk)), (.int .u64 (tF l ua uv dk ub)), (.int .i64 (tF l ua uv (3 + i + i) uc)), (.int .u64 (tF l ua uv 0 uo)), (.int .u64 (tF l ua uv 0 un))] et true), (2, 0, .tail off .u64 l g_), (3, 0, .tail off2 .u64 m g2)]⟩⟩) := by kernel_rfl
noncomputable def JrS11 : KSt := ⟨(frameL 59 [(0, (.pointer (some ⟨1, 0, none⟩))), (2, (.slice (some ⟨3, off2, none⟩) n2 c2)), (4, (.pointer (some ⟨4, 0, none⟩))), (7, (.slice (some ⟨5, 0, none⟩) (mq + 1) (mq + 1))), (8, (.slice (some ⟨6, 0, none⟩) 0 0)), (9, (.int .i64 (i + 1)))]), ⟨7, 1, [(6, 0, .cells [] 22 true), (5, 0, .ints .u64 (List.take mq q ++ [(tAns l ua uv)]) 22 true), (4, 0, (JrO1 dk th ts kp sd)), (0, 0, (JrO0 e)), (1, 0, .cells [(.slice (some ⟨2, off, none⟩) n c), (.int .i64 (tAt l ua uv)), (.bool (tOv l ua uv)), (.int .i64 (tF l ua uv 1 uk)), (.int .u64 (tF l ua uv dk ub)), (.int .i64 (tF l ua uv (3 + i + i) uc)), (.int .u64 (tF l ua uv 0 uo)), (.int .u64 (tF l ua uv 0 un))] et true), (2, 0, .tail off .u64 l g_), (3, 0, .tail off2 .u64 m g2)]⟩⟩
noncomputable def JrS12 : KSt := ⟨(frameL 59 [(0, (.pointer (some ⟨1, 0, none⟩))), (2, (.slice (some ⟨3, off2, none⟩) n2 c2)), (4, (.pointer (some ⟨4, 0, none⟩))), (7, (.slice (some ⟨5, 0, none⟩) 0 0)), (8, (.slice (some ⟨6, 0, none⟩) 0 0)), (9, (.int .i64 0))]), ⟨7, 1, [(6, 0, .cells [] 22 true), (5, 0, .cells [] 22 true), (4, 0, (JrO1 dk th ts kp sd)), (0, 0, (JrO0 e)), (1, 0, (JrO2 off n c ua uv uk ub uc uo un et)), (2, 0, .tail off .u64 l g_), (3, 0, .tail off2 .u64 m g2)]⟩⟩
noncomputable def JrS13 : KSt := ⟨(frameL 59 [(0, (.pointer (some ⟨1, 0, none⟩))), (2, (.slice (some ⟨3, off2, none⟩) n2 c2)), (4, (.pointer (some ⟨4, 0, none⟩))), (7, (.slice (some ⟨5, 0, none⟩) 0 0)), (8, (.slice (some ⟨6, 0, none⟩) 0 0)), (9, (.int .i64 0)), (21, (.bool (decide (((n2 : Nat) : Int) > 0))))]), ⟨7, 1, [(6, 0, .cells [] 22 true), (5, 0, .cells [] 22 true), (4, 0, (JrO1 dk th ts kp sd)), (0, 0, (JrO0 e)), (1, 0, (JrO2 off n c ua uv uk ub uc uo un et)), (2, 0, .tail off .u64 l g_), (3, 0, .tail off2 .u64 m g2)]⟩⟩
theorem JrW5 : JrEA hasW tAns tAt tF tOv (codeAt [1, 1, 1, 0, 1, 0, 0] BJr) [0, 2, 4, 7, 8, 9, 21] [] (some [0, 1]) [] (JrS12 dk th ts kp sd off2 n2 c2 e off n c et l g_ m g2 ua uv uk ub uc uo un) =
  bif (decide (0 < ts)) then
    some (.stop (JrS13 dk th ts kp sd off2 n2 c2 e off n c et l g_ m g2 ua uv uk ub uc uo un))
  else
    some (.stop ⟨(frameL 59 [(0, (.pointer (some ⟨1, 0, none⟩))), (2, (.slice (some ⟨3, off2, none⟩) n2 c2)), (4, (.pointer (some ⟨4, 0, none⟩))), (7, (.slice (some ⟨5, 0, none⟩) 0 0)), (8, (.slice (some ⟨6, 0, none⟩) 0 0)), (9, (.int .i64 0)), (21, (.bool false))]), ⟨7, 1, [(6, 0, .cells [] 22 true), (5, 0, .cells [] 22 true), (4, 0, .cells [(.int .u64 dk), (.int .i64 th), (.int .i64 ts), (.int .i64 kp), (.int .u64 sd)] 24 true), (0, 0, .cells [(.int .i64 1), (.int .i64 64), (.int .i64 1), (.int .i64 64)] e false), (1, 0, .cells [(.slice (some ⟨2, off, none⟩) n c), (.int .i64 ua), (.bool uv), (.int .i64 uk), (.int .u64 ub), (.int .i64 uc), (.int .u64 uo), (.int .u64 un)] et true), (2, 0, .tail off .u64 l g_), (3, 0, .tail off2 .u64 m g2)]⟩⟩) := by kernel_rfl
theorem JrW6 : JrEA hasW tAns tAt tF tOv (codeAt [1, 1, 1, 0, 1, 0, 0] BJr) [0, 2, 4, 7, 8, 9] [0, 1] (some [1, 1]) [true, false] (JrS13 dk th ts kp sd off2 n2 c2 e off n c et l g_ m g2 ua uv uk ub uc uo un) =
  bif (decide (((n2 : Nat) : Int) > 0)) then
    bif (Nat.ble off off) then
      bif (Nat.ble ((off - off) + n) (List.length l)) then
        bif ((decide (0 ≤ ua)) && (Nat.ble (List.length (List.take n (List.drop (off - off) l))) 1000)) then
          some (.stop ⟨(frameL 59 [(0, (.pointer (some ⟨1, 0, none⟩))), (2, (.slice (some ⟨3, off2, none⟩) n2 c2)), (4, (.pointer (some ⟨4, 0, none⟩))), (7, (.slice (some ⟨5, 0, none⟩) 1 1)), (8, (.slice (some ⟨6, 0, none⟩) 0 0)), (9, (.int .i64 0))]), ⟨7, 1, [(6, 0, .cells [] 22 true), (5, 0, .cells [(.int .u64 (tAns (List.take n (List.drop (off - off) l)) ua uv))] 22 true), (4, 0, .cells [(.int .u64 dk), (.int .i64 th), (.int .i64 ts), (.int .i64 kp), (.int .u64 sd)] 24 true), (0, 0, .cells [(.int .i64 1), (.int .i64 64), (.int .i64 1), (.int .i64 64)] e false), (1, 0, .cells [(.slice (some ⟨2, off, none⟩) n c), (.int .i64 (tAt (List.take n (List.drop (off - off) l)) ua uv)), (.bool (tOv (List.take n (List.drop (off - off) l)) ua uv)), (.int .i64 (tF (List.take n (List.drop (off - off) l)) ua uv 1 uk)), (.int .u64 (tF (List.take n (List.drop (off - off) l)) ua uv dk ub)), (.int .i64 (tF (List.take n (List.drop (off - off) l)) ua uv 3 uc)), (.int .u64 (tF (List.take n (List.drop (off - off) l)) ua uv 0 uo)), (.int .u64 (tF (List.take n (List.drop (off - off) l)) ua uv 0 un))] et true), (2, 0, .tail off .u64 l g_), (3, 0, .tail off2 .u64 m g2)]⟩⟩)
        else
          none
      else
        none
    else
      none
  else
    none := by kernel_rfl
noncomputable def JrS15 : KSt := ⟨(frameL 59 [(0, (.pointer (some ⟨1, 0, none⟩))), (2, (.slice (some ⟨3, off2, none⟩) n2 c2)), (4, (.pointer (some ⟨4, 0, none⟩))), (7, (.slice (some ⟨5, 0, none⟩) 1 1)), (8, (.slice (some ⟨6, 0, none⟩) 0 0)), (9, (.int .i64 0))]), ⟨7, 1, [(6, 0, .cells [] 22 true), (5, 0, .cells [(.int .u64 (tAns l ua uv))] 22 true), (4, 0, (JrO1 dk th ts kp sd)), (0, 0, (JrO0 e)), (1, 0, .cells [(.slice (some ⟨2, off, none⟩) n c), (.int .i64 (tAt l ua uv)), (.bool (tOv l ua uv)), (.int .i64 (tF l ua uv 1 uk)), (.int .u64 (tF l ua uv dk ub)), (.int .i64 (tF l ua uv 3 uc)), (.int .u64 (tF l ua uv 0 uo)), (.int .u64 (tF l ua uv 0 un))] et true), (2, 0, .tail off .u64 l g_), (3, 0, .tail off2 .u64 m g2)]⟩⟩
noncomputable def JrS16 : KSt := ⟨(frameL 59 [(0, (.pointer (some ⟨1, 0, none⟩))), (2, (.slice (some ⟨3, off2, none⟩) n2 c2)), (4, (.pointer (some ⟨4, 0, none⟩))), (7, (.slice (some ⟨5, 0, none⟩) 1 1)), (8, (.slice (some ⟨6, 0, none⟩) 0 0)), (9, (.int .i64 1))]), ⟨7, 1, [(6, 0, .cells [] 22 true), (5, 0, .cells [(.int .u64 (tAns l ua uv))] 22 true), (4, 0, (JrO1 dk th ts kp sd)), (0, 0, (JrO0 e)), (1, 0, .cells [(.slice (some ⟨2, off, none⟩) n c), (.int .i64 (tAt l ua uv)), (.bool (tOv l ua uv)), (.int .i64 (tF l ua uv 1 uk)), (.int .u64 (tF l ua uv dk ub)), (.int .i64 (tF l ua uv 3 uc)), (.int .u64 (tF l ua uv 0 uo)), (.int .u64 (tF l ua uv 0 un))] et true), (2, 0, .tail off .u64 l g_), (3, 0, .tail off2 .u64 m g2)]⟩⟩
theorem JrW7 : JrEA hasW tAns tAt tF tOv (codeAt [1, 1, 1, 0, 1, 0, 0] BJr) [0, 2, 4, 7, 8, 9] [1, 1] none [] (JrS15 tAns tAt tF tOv dk th ts kp sd off2 n2 c2 e off n c et l g_ m g2 ua uv uk ub uc uo un) =
  some (.fin .normal (JrS16 tAns tAt tF tOv dk th ts kp sd off2 n2 c2 e off n c et l g_ m g2 ua uv uk ub uc uo un)) := by kernel_rfl
noncomputable def JrS17 : KSt := ⟨(frameL 59 [(0, (.pointer (some ⟨1, 0, none⟩))), (2, (.slice (some ⟨3, off2, none⟩) n2 c2)), (7, (.slice (some ⟨4, 0, none⟩) mq mq)), (8, (.slice (some ⟨5, 0, none⟩) 0 0))]), ⟨6, 1, [(5, 0, .cells [] 22 true), (4, 0, .ints .u64 q 22 true), (0, 0, (JrO0 e)), (1, 0, (JrO2 off n c ua uv uk ub uc uo un et)), (2, 0, .tail off .u64 l g_), (3, 0, .tail off2 .u64 m g2)]⟩⟩
theorem JrW8 : JrEA hasW tAns tAt tF tOv (codeAt [1, 1, 1, 0, 1, 0, 0] BJr) [0, 2, 7, 8] [0, 1] none [false] (JrS4 dk th ts kp sd off2 n2 c2 e off n c et l g_ m g2 mq i q ua uv uk ub uc uo un) =
  some (.fin (.exit 0) (JrS17 off2 n2 c2 e off n c et l g_ m g2 mq q ua uv uk ub uc uo un)) := by kernel_rfl
noncomputable def JrS18 : KSt := ⟨(frameL 59 [(0, (.pointer (some ⟨1, 0, none⟩))), (2, (.slice (some ⟨3, off2, none⟩) n2 c2)), (7, (.slice (some ⟨4, 0, none⟩) mq mq)), (8, (.slice (some ⟨5, 0, none⟩) 0 0)), (10, (.int .i64 0))]), ⟨6, 1, [(5, 0, .cells [] 22 true), (4, 0, .ints .u64 q 22 true), (0, 0, (JrO0 e)), (1, 0, (JrO2 off n c ua uv uk ub uc uo un et)), (2, 0, .tail off .u64 l g_), (3, 0, .tail off2 .u64 m g2)]⟩⟩
theorem JrW9 : JrEA hasW tAns tAt tF tOv (codeAt [1, 1, 1, 1] BJr) [0, 2, 7, 8, 10] [] (some [0, 1]) [] (JrS17 off2 n2 c2 e off n c et l g_ m g2 mq q ua uv uk ub uc uo un) =
  some (.stop (JrS18 off2 n2 c2 e off n c et l g_ m g2 mq q ua uv uk ub uc uo un)) := by kernel_rfl
noncomputable def JrS19 : KSt := ⟨(frameL 59 [(0, (.pointer (some ⟨1, 0, none⟩))), (2, (.slice (some ⟨3, off2, none⟩) n2 c2)), (7, (.slice (some ⟨4, 0, none⟩) mq mq)), (8, (.slice (some ⟨5, 0, none⟩) mr mr)), (10, (.int .i64 ((j : Nat) : Int)))]), ⟨6, 1, [(5, 0, .ints .u64 r 22 true), (4, 0, .ints .u64 q 22 true), (0, 0, (JrO0 e)), (1, 0, (JrO2 off n c ua uv uk ub uc uo un et)), (2, 0, .tail off .u64 l g_), (3, 0, .tail off2 .u64 m g2)]⟩⟩
theorem JrW10 : JrEA hasW tAns tAt tF tOv (codeAt [1, 1, 1, 1, 0, 1, 0, 0] BJr) [0, 2, 7, 8, 10, 44] [] (some [1, 0, 0, 1]) [true, false] (JrS19 off2 n2 c2 e off n c et l g_ m g2 mq q ua uv uk ub uc uo un mr j r) =
  bif (decide (((j : Nat) : Int) < ((n2 : Nat) : Int))) then
    if 0 ≤ ((j : Nat) : Int) ∧ ((j : Nat) : Int) < ((n2 : Nat) : Int) then
      bif (Nat.ble off2 (off2 + ((Int.toNat ((j : Nat) : Int)) * 1))) then
        obind (m[((off2 + ((Int.toNat ((j : Nat) : Int)) * 1)) - off2)]?) fun zn1 =>
          bif (Nat.ble (0 + mq) (List.length q)) then
            bif (Nat.ble (List.length (List.take mq (List.drop 0 q))) 1000) then
              some (.stop ⟨(frameL 59 [(0, (.pointer (some ⟨1, 0, none⟩))), (2, (.slice (some ⟨3, off2, none⟩) n2 c2)), (7, (.slice (some ⟨4, 0, none⟩) mq mq)), (8, (.slice (some ⟨5, 0, none⟩) mr mr)), (10, (.int .i64 ((j : Nat) : Int))), (44, (.bool (hasW (List.take mq (List.drop 0 q)) zn1)))]), ⟨6, 1, [(5, 0, .ints .u64 r 22 true), (4, 0, .ints .u64 q 22 true), (0, 0, .cells [(.int .i64 1), (.int .i64 64), (.int .i64 1), (.int .i64 64)] e false), (1, 0, .cells [(.slice (some ⟨2, off, none⟩) n c), (.int .i64 ua), (.bool uv), (.int .i64 uk), (.int .u64 ub), (.int .i64 uc), (.int .u64 uo), (.int .u64 un)] et true), (2, 0, .tail off .u64 l g_), (3, 0, .tail off2 .u64 m g2)]⟩⟩)
            else
              none
          else
            none
      else
        none
    else
      none
  else
    none := by kernel_rfl
noncomputable def JrS20 : KSt := ⟨(frameL 59 [(0, (.pointer (some ⟨1, 0, none⟩))), (2, (.slice (some ⟨3, off2, none⟩) n2 c2)), (7, (.slice (some ⟨4, 0, none⟩) mq mq)), (8, (.slice (some ⟨5, 0, none⟩) mr mr)), (10, (.int .i64 ((j : Nat) : Int))), (44, (.bool (hasW q (m.getD j 0))))]), ⟨6, 1, [(5, 0, .ints .u64 r 22 true), (4, 0, .ints .u64 q 22 true), (0, 0, (JrO0 e)), (1, 0, (JrO2 off n c ua uv uk ub uc uo un et)), (2, 0, .tail off .u64 l g_), (3, 0, .tail off2 .u64 m g2)]⟩⟩
theorem JrW11 : JrEA hasW tAns tAt tF tOv (codeAt [1, 1, 1, 1, 0, 1, 0, 0] BJr) [0, 2, 7, 8, 10] [1, 0, 0, 1] (some [1, 1]) [true] (JrS20 hasW off2 n2 c2 e off n c et l g_ m g2 mq q ua uv uk ub uc uo un mr j r) =
  bif (hasW q (m.getD j 0)) then
    if 0 ≤ ((j : Nat) : Int) ∧ ((j : Nat) : Int) < ((n2 : Nat) : Int) then
      bif (Nat.ble off2 (off2 + ((Int.toNat ((j : Nat) : Int)) * 1))) then
        obind (m[((off2 + ((Int.toNat ((j : Nat) : Int)) * 1)) - off2)]?) fun zn1 =>
          bif (Nat.ble ((mr + 1) * 9) 1099511627776) then
            bif (Nat.ble (mr + 1) mr) then
              bif (Nat.ble (0 + (mr + 1)) (List.length r)) then
                some (.stop ⟨(frameL 59 [(0, (.pointer (some ⟨1, 0, none⟩))), (2, (.slice (some ⟨3, off2, none⟩) n2 c2)), (7, (.slice (some ⟨4, 0, none⟩) mq mq)), (8, (.slice (some ⟨5, 0, none⟩) (mr + 1) mr)), (10, (.int .i64 ((j : Nat) : Int)))]), ⟨6, 1, [(5, 0, .ints .u64 (List.take (0 + mr) r ++ [zn1] ++ List.drop ((0 + mr) + (List.length [zn1])) r) 22 true), (4, 0, .ints .u64 q 22 true), (0, 0, .cells [(.int .i64 1), (.int .i64 64), (.int .i64 1), (.int .i64 64)] e false), (1, 0, .cells [(.slice (some ⟨2, off, none⟩) n c), (.int .i64 ua), (.bool uv), (.int .i64 uk), (.int .u64 ub), (.int .i64 uc), (.int .u64 uo), (.int .u64 un)] et true), (2, 0, .tail off .u64 l g_), (3, 0, .tail off2 .u64 m g2)]⟩⟩)
              else
                none
            else
              bif ((Nat.beq mr 0) && (Nat.beq mr 0)) then
                some (.stop ⟨(frameL 59 [(0, (.pointer (some ⟨1, 0, none⟩))), (2, (.slice (some ⟨3, off2, none⟩) n2 c2)), (7, (.slice (some ⟨4, 0, none⟩) mq mq)), (8, (.slice (some ⟨5, 0, none⟩) 1 1)), (10, (.int .i64 ((j : Nat) : Int)))]), ⟨6, 1, [(5, 0, .cells [(.int .u64 zn1)] 22 true), (4, 0, .ints .u64 q 22 true), (0, 0, .cells [(.int .i64 1), (.int .i64 64), (.int .i64 1), (.int .i64 64)] e false), (1, 0, .cells [(.slice (some ⟨2, off, none⟩) n c), (.int .i64 ua), (.bool uv), (.int .i64 uk), (.int .u64 ub), (.int .i64 uc), (.int .u64 uo), (.int .u64 un)] et true), (2, 0, .tail off .u64 l g_), (3, 0, .tail off2 .u64 m g2)]⟩⟩)
              else
                bif ((Nat.ble mr (List.length r)) && (Nat.ble 1 mr)) then
                  some (.stop ⟨(frameL 59 [(0, (.pointer (some ⟨1, 0, none⟩))), (2, (.slice (some ⟨3, off2, none⟩) n2 c2)), (7, (.slice (some ⟨4, 0, none⟩) mq mq)), (8, (.slice (some ⟨5, 0, none⟩) (mr + 1) (mr + 1))), (10, (.int .i64 ((j : Nat) : Int)))]), ⟨6, 1, [(5, 0, .ints .u64 (List.take mr r ++ [zn1]) 22 true), (4, 0, .ints .u64 q 22 true), (0, 0, .cells [(.int .i64 1), (.int .i64 64), (.int .i64 1), (.int .i64 64)] e false), (1, 0, .cells [(.slice (some ⟨2, off, none⟩) n c), (.int .i64 ua), (.bool uv), (.int .i64 uk), (.int .u64 ub), (.int .i64 uc), (.int .u64 uo), (.int .u64 un)] et true), (2, 0, .tail off .u64 l g_), (3, 0, .tail off2 .u64 m g2)]⟩⟩)
                else
                  none
          else
            none
      else
        none
    else
      none
  else
    none := by kernel_rfl
noncomputable def JrS23 : KSt := ⟨(frameL 59 [(0, (.pointer (some ⟨1, 0, none⟩))), (2, (.slice (some ⟨3, off2, none⟩) n2 c2)), (7, (.slice (some ⟨4, 0, none⟩) mq mq)), (8, (.slice (some ⟨5, 0, none⟩) (mr + 1) (mr + 1))), (10, (.int .i64 ((j : Nat) : Int)))]), ⟨6, 1, [(5, 0, .ints .u64 (List.take mr r ++ [(m.getD j 0)]) 22 true), (4, 0, .ints .u64 q 22 true), (0, 0, (JrO0 e)), (1, 0, (JrO2 off n c ua uv uk ub uc uo un et)), (2, 0, .tail off .u64 l g_), (3, 0, .tail off2 .u64 m g2)]⟩⟩
theorem JrW12 : JrEA hasW tAns tAt tF tOv (codeAt [1, 1, 1, 1, 0, 1, 0, 0] BJr) [0, 2, 7, 8, 10] [1, 1] none [] (JrS23 off2 n2 c2 e off n c et l g_ m g2 mq q ua uv uk ub uc uo un mr j r) =
  some (.fin .normal ⟨(frameL 59 [(0, (.pointer (some ⟨1, 0, none⟩))), (2, (.slice (some ⟨3, off2, none⟩) n2 c2)), (7, (.slice (some ⟨4, 0, none⟩) mq mq)), (8, (.slice (some ⟨5, 0, none⟩) (mr + 1) (mr + 1))), (10, (.int .i64 (IntKind.wrap .i64 (((j : Nat) : Int) + 1))))]), ⟨6, 1, [(5, 0, .ints .u64 (List.take mr r ++ [(m.getD j 0)]) 22 true), (4, 0, .ints .u64 q 22 true), (0, 0, .cells [(.int .i64 1), (.int .i64 64), (.int .i64 1), (.int .i64 64)] e false), (1, 0, .cells [(.slice (some ⟨2, off, none⟩) n c), (.int .i64 ua), (.bool uv), (.int .i64 uk), (.int .u64 ub), (.int .i64 uc), (.int .u64 uo), (.int .u64 un)] et true), (2, 0, .tail off .u64 l g_), (3, 0, .tail off2 .u64 m g2)]⟩⟩) := by kernel_rfl
noncomputable def JrS24 : KSt := ⟨(frameL 59 [(0, (.pointer (some ⟨1, 0, none⟩))), (2, (.slice (some ⟨3, off2, none⟩) n2 c2)), (7, (.slice (some ⟨4, 0, none⟩) mq mq)), (8, (.slice (some ⟨5, 0, none⟩) (mr + 1) (mr + 1))), (10, (.int .i64 (((j : Nat) : Int) + 1)))]), ⟨6, 1, [(5, 0, .ints .u64 (List.take mr r ++ [(m.getD j 0)]) 22 true), (4, 0, .ints .u64 q 22 true), (0, 0, (JrO0 e)), (1, 0, (JrO2 off n c ua uv uk ub uc uo un et)), (2, 0, .tail off .u64 l g_), (3, 0, .tail off2 .u64 m g2)]⟩⟩
noncomputable def JrS25 : KSt := ⟨(frameL 59 [(0, (.pointer (some ⟨1, 0, none⟩))), (2, (.slice (some ⟨3, off2, none⟩) n2 c2)), (7, (.slice (some ⟨4, 0, none⟩) mq mq)), (8, (.slice (some ⟨5, 0, none⟩) 0 0)), (10, (.int .i64 ((j : Nat) : Int)))]), ⟨6, 1, [(5, 0, .cells [] 22 true), (4, 0, .ints .u64 q 22 true), (0, 0, (JrO0 e)), (1, 0, (JrO2 off n c ua uv uk ub uc uo un et)), (2, 0, .tail off .u64 l g_), (3, 0, .tail off2 .u64 m g2)]⟩⟩
theorem JrW13 : JrEA hasW tAns tAt tF tOv (codeAt [1, 1, 1, 1, 0, 1, 0, 0] BJr) [0, 2, 7, 8, 10, 44] [] (some [1, 0, 0, 1]) [true, false] (JrS25 off2 n2 c2 e off n c et l g_ m g2 mq q ua uv uk ub uc uo un j) =
  bif (decide (((j : Nat) : Int) < ((n2 : Nat) : Int))) then
    if 0 ≤ ((j : Nat) : Int) ∧ ((j : Nat) : Int) < ((n2 : Nat) : Int) then
      bif (Nat.ble off2 (off2 + ((Int.toNat ((j : Nat) : Int)) * 1))) then
        obind (m[((off2 + ((Int.toNat ((j : Nat) : Int)) * 1)) - off2)]?) fun zn1 =>
          bif (Nat.ble (0 + mq) (List.length q)) then
            bif (Nat.ble (List.length (List.take mq (List.drop 0 q))) 1000) then
              some (.stop ⟨(frameL 59 [(0, (.pointer (some ⟨1, 0, none⟩))), (2, (.slice (some ⟨3, off2, none⟩) n2 c2)), (7, (.slice (some ⟨4, 0, none⟩) mq mq)), (8, (.slice (some ⟨5, 0, none⟩) 0 0)), (10, (.int .i64 ((j : Nat) : Int))), (44, (.bool (hasW (List.take mq (List.drop 0 q)) zn1)))]), ⟨6, 1, [(5, 0, .cells [] 22 true), (4, 0, .ints .u64 q 22 true), (0, 0, .cells [(.int .i64 1), (.int .i64 64), (.int .i64 1), (.int .i64 64)] e false), (1, 0, .cells [(.slice (some ⟨2, off, none⟩) n c), (.int .i64 ua), (.bool uv), (.int .i64 uk), (.int .u64 ub), (.int .i64 uc), (.int .u64 uo), (.int .u64 un)] et true), (2, 0, .tail off .u64 l g_), (3, 0, .tail off2 .u64 m g2)]⟩⟩)
            else
              none
          else
            none
      else
        none
    else
      none
  else
    none := by kernel_rfl
noncomputable def JrS26 : KSt := ⟨(frameL 59 [(0, (.pointer (some ⟨1, 0, none⟩))), (2, (.slice (some ⟨3, off2, none⟩) n2 c2)), (7, (.slice (some ⟨4, 0, none⟩) mq mq)), (8, (.slice (some ⟨5, 0, none⟩) 0 0)), (10, (.int .i64 ((j : Nat) : Int))), (44, (.bool (hasW q (m.getD j 0))))]), ⟨6, 1, [(5, 0, .cells [] 22 true), (4, 0, .ints .u64 q 22 true), (0, 0, (JrO0 e)), (1, 0, (JrO2 off n c ua uv uk ub uc uo un et)), (2, 0, .tail off .u64 l g_), (3, 0, .tail off2 .u64 m g2)]⟩⟩
theorem JrW14 : JrEA hasW tAns tAt tF tOv (codeAt [1, 1, 1, 1, 0, 1, 0, 0] BJr) [0, 2, 7, 8, 10] [1, 0, 0, 1] (some [1, 1]) [true] (JrS26 hasW off2 n2 c2 e off n c et l g_ m g2 mq q ua uv uk ub uc uo un j) =
  bif (hasW q (m.getD j 0)) then
    if 0 ≤ ((j : Nat) : Int) ∧ ((j : Nat) : Int) < ((n2 : Nat) : Int) then
      bif (Nat.ble off2 (off2 + ((Int.toNat ((j : Nat) : Int)) * 1))) then
        obind (m[((off2 + ((Int.toNat ((j : Nat) : Int)) * 1)) - off2)]?) fun zn1 =>
          some (.stop ⟨(frameL 59 [(0, (.pointer (some ⟨1, 0, none⟩))), (2, (.slice (some ⟨3, off2, none⟩) n2 c2)), (7, (.slice (some ⟨4, 0, none⟩) mq mq)), (8, (.slice (some ⟨5, 0, none⟩) 1 1)), (10, (.int .i64 ((j : Nat) : Int)))]), ⟨6, 1, [(5, 0, .cells [(.int .u64 zn1)] 22 true), (4, 0, .ints .u64 q 22 true), (0, 0, .cells [(.int .i64 1), (.int .i64 64), (.int .i64 1), (.int .i64 64)] e false), (1, 0, .cells [(.slice (some ⟨2, off, none⟩) n c), (.int .i64 ua), (.bool uv), (.int .i64 uk), (.int .u64 ub), (.int .i64 uc), (.int .u64 uo), (.int .u64 un)] et true), (2, 0, .tail off .u64 l g_), (3, 0, .tail off2 .u64 m g2)]⟩⟩)
      else
        none
    else
      none
  else
    none := by kernel_rfl
noncomputable def JrS27 : KSt := ⟨(frameL 59 [(0, (.pointer (some ⟨1, 0, none⟩))), (2, (.slice (some ⟨3, off2, none⟩) n2 c2)), (7, (.slice (some ⟨4, 0, none⟩) mq mq)), (8, (.slice (some ⟨5, 0, none⟩) 1 1)), (10, (.int .i64 ((j : Nat) : Int)))]), ⟨6, 1, [(5, 0, .cells [(.int .u64 (m.getD j 0))] 22 true), (4, 0, .ints .u64 q 22 true), (0, 0, (JrO0 e)), (1, 0, (JrO2 off n c ua uv uk ub uc uo un et)), (2, 0, .tail off .u64 l g_), (3, 0, .tail off2 .u64 m g2)]⟩⟩
theorem JrW15 : JrEA hasW tAns tAt tF tOv (codeAt [1, 1, 1, 1, 0, 1, 0, 0] BJr) [0, 2, 7, 8, 10] [1, 1] none [] (JrS27 off2 n2 c2 e off n c et l g_ m g2 mq q ua uv uk ub uc uo un j) =
  some (.fin .normal ⟨(frameL 59 [(0, (.pointer (some ⟨1, 0, none⟩))), (2, (.slice (some ⟨3, off2, none⟩) n2 c2)), (7, (.slice (some ⟨4, 0, none⟩) mq mq)), (8, (.slice (some ⟨5, 0, none⟩) 1 1)), (10, (.int .i64 (IntKind.wrap .i64 (((j : Nat) : Int) + 1))))]), ⟨6, 1, [(5, 0, .cells [(.int .u64 (m.getD j 0))] 22 true), (4, 0, .ints .u64 q 22 true), (0, 0, .cells [(.int .i64 1), (.int .i64 64), (.int .i64 1), (.int .i64 64)] e false), (1, 0, .cells [(.slice (some ⟨2, off, none⟩) n c), (.int .i64 ua), (.bool uv), (.int .i64 uk), (.int .u64 ub), (.int .i64 uc), (.int .u64 uo), (.int .u64 un)] et true), (2, 0, .tail off .u64 l g_), (3, 0, .tail off2 .u64 m g2)]⟩⟩) := by kernel_rfl
noncomputable def JrS28 : KSt := ⟨(frameL 59 [(0, (.pointer (some ⟨1, 0, none⟩))), (2, (.slice (some ⟨3, off2, none⟩) n2 c2)), (7, (.slice (some ⟨4, 0, none⟩) mq mq)), (8, (.slice (some ⟨5, 0, none⟩) 1 1)), (10, (.int .i64 (((j : Nat) : Int) + 1)))]), ⟨6, 1, [(5, 0, .cells [(.int .u64 (m.getD j 0))] 22 true), (4, 0, .ints .u64 q 22 true), (0, 0, (JrO0 e)), (1, 0, (JrO2 off n c ua uv uk ub uc uo un et)), (2, 0, .tail off .u64 l g_), (3, 0, .tail off2 .u64 m g2)]⟩⟩
theorem JrW16 : JrEA hasW tAns tAt tF tOv (codeAt [1, 1, 1, 1, 0, 1, 0, 0] BJr) [0, 2, 7, 8, 10] [1, 0, 0, 1] (some [1, 1]) [false] (JrS20 hasW off2 n2 c2 e off n c et l g_ m g2 mq q ua uv uk ub uc uo un mr j r) =
  bif (hasW q (m.getD j 0)) then
    none
  else
    if 0 ≤ ((j : Nat) : Int) ∧ ((j : Nat) : Int) < ((n2 : Nat) : Int) then
      bif (Nat.ble off2 (off2 + ((Int.toNat ((j : Nat) : Int)) * 1))) then
        obind (m[((off2 + ((Int.toNat ((j : Nat) : Int)) * 1)) - off2)]?) fun zn1 =>
          bif (Nat.ble off off) then
            bif (Nat.ble ((off - off) + n) (List.length l)) then
              bif ((decide (0 ≤ ua)) && (Nat.ble (List.length (List.take n (List.drop (off - off) l))) 1000)) then
                some (.stop ⟨(frameL 59 [(0, (.pointer (some ⟨1, 0, none⟩))), (2, (.slice (some ⟨3, off2, none⟩) n2 c2)), (7, (.slice (some ⟨4, 0, none⟩) mq mq)), (8, (.slice (some ⟨5, 0, none⟩) mr mr)), (10, (.int .i64 ((j : Nat) : Int)))]), ⟨6, 1, [(5, 0, .ints .u64 r 22 true), (4, 0, .ints .u64 q 22 true), (0, 0, .cells [(.int .i64 1), (.int .i64 64), (.int .i64 1), (.int .i64 64)] e false), (1, 0, .cells [(.slice (some ⟨2, off, none⟩) n c), (.int .i64 (tAt (List.take n (List.drop (off - off) l)) ua uv)), (.bool (tOv (List.take n (List.drop (off - off) l)) ua uv)), (.int .i64 (tF (List.take n (List.drop (off - off) l)) ua uv 6 uk)), (.int .u64 (tF (List.take n (List.drop (off - off) l)) ua uv zn1 ub)), (.int .i64 (tF (List.take n (List.drop (off - off) l)) ua uv 0 uc)), (.int .u64 (tF (List.take n (List.drop (off - off) l)) ua uv 0 uo)), (.int .u64 (tF (List.take n (List.drop (off - off) l)) ua uv 0 un))] et true), (2, 0, .tail off .u64 l g_), (3, 0, .tail off2 .u64 m g2)]⟩⟩)
              else
                none
            else
              none
          else
            none
      else
        none
    else
      none := by kernel_rfl
noncomputable def JrS29 : KSt := ⟨(frameL 59 [(0, (.pointer (some ⟨1, 0, none⟩))), (2, (.slice (some ⟨3, off2, none⟩) n2 c2)), (7, (.slice (some ⟨4, 0, none⟩) mq mq)), (8, (.slice (some ⟨5, 0, none⟩) mr mr)), (10, (.int .i64 ((j : Nat) : Int)))]), ⟨6, 1, [(5, 0, .ints .u64 r 22 true), (4, 0, .ints .u64 q 22 true), (0, 0, (JrO0 e)), (1, 0, .cells [(.slice (some ⟨2, off, none⟩) n c), (.int .i64 (tAt l ua uv)), (.bool (tOv l ua uv)), (.int .i64 (tF l ua uv 6 uk)), (.int .u64 (tF l ua uv (m.getD j 0) ub)), (.int .i64 (tF l ua uv 0 uc)), (.int .u64 (tF l ua uv 0 uo)), (.int .u64 (tF l ua uv 0 un))] et true), (2, 0, .tail off .u64 l g_), (3, 0, .tail off2 .u64 m g2)]⟩⟩
theorem JrW17 : JrEA hasW tAns tAt tF tOv (codeAt [1, 1, 1, 1, 0, 1, 0, 0] BJr) [0, 2, 7, 8, 10] [1, 1] none [] (JrS29 tAt tF tOv off2 n2 c2 e off n c et l g_ m g2 mq q ua uv uk ub uc uo un mr j r) =
  some (.fin .normal ⟨(frameL 59 [(0, (.pointer (some ⟨1, 0, none⟩))), (2, (.slice (some ⟨3, off2, none⟩) n2 c2)), (7, (.slice (some ⟨4, 0, none⟩) mq mq)), (8, (.slice (some ⟨5, 0, none⟩) mr mr)), (10, (.int .i64 (IntKind.wrap .i64 (((j : Nat) : Int) + 1))))]), ⟨6, 1, [(5, 0, .ints .u64 r 22 true), (4, 0, .ints .u64 q 22 true), (0, 0, .cells [(.int .i64 1), (.int .i64 64), (.int .i64 1), (.int .i64 64)] e false), (1, 0, .cells [(.slice (some ⟨2, off, none⟩) n c), (.int .i64 (tAt l ua uv)), (.bool (tOv l ua uv)), (.int .i64 (tF l ua uv 6 uk)), (.int .u64 (tF l ua uv (m.getD j 0) ub)), (.int .i64 (tF l ua uv 0 uc)), (.int .u64 (tF l ua uv 0 uo)), (.int .u64 (tF l ua uv 0 un))] et true), (2, 0, .tail off .u64 l g_), (3, 0, .tail off2 .u64 m g2)]⟩⟩) := by kernel_rfl
noncomputable def JrS30 : KSt := ⟨(frameL 59 [(0, (.pointer (some ⟨1, 0, none⟩))), (2, (.slice (some ⟨3, off2, none⟩) n2 c2)), (7, (.slice (some ⟨4, 0, none⟩) mq mq)), (8, (.slice (some ⟨5, 0, none⟩) mr mr)), (10, (.int .i64 (((j : Nat) : Int) + 1)))]), ⟨6, 1, [(5, 0, .ints .u64 r 22 true), (4, 0, .ints .u64 q 22 true), (0, 0, (JrO0 e)), (1, 0, .cells [(.slice (some ⟨2, off, none⟩) n c), (.int .i64 (tAt l ua uv)), (.bool (tOv l ua uv)), (.int .i64 (tF l ua uv 6 uk)), (.int .u64 (tF l ua uv (m.getD j 0) ub)), (.int .i64 (tF l ua uv 0 uc)), (.int .u64 (tF l ua uv 0 uo)), (.int .u64 (tF l ua uv 0 un))] et true), (2, 0, .tail off .u64 l g_), (3, 0, .tail off2 .u64 m g2)]⟩⟩
noncomputable def JrS31 : KSt := ⟨(frameL 59 [(8, (.slice (some ⟨4, 0, none⟩) mr mr))]), ⟨5, 1, [(4, 0, .ints .u64 r 22 true), (0, 0, (JrO0 e)), (1, 0, (JrO2 off n c ua uv uk ub uc uo un et)), (2, 0, .tail off .u64 l g_), (3, 0, .tail off2 .u64 m g2)]⟩⟩
theorem JrW18 : JrEA hasW tAns tAt tF tOv (codeAt [1, 1, 1, 1, 0, 1, 0, 0] BJr) [8] [] none [false] (JrS19 off2 n2 c2 e off n c et l g_ m g2 mq q ua uv uk ub uc uo un mr j r) =
  bif (decide (((j : Nat) : Int) < ((n2 : Nat) : Int))) then
    none
  else
    some (.fin (.exit 2) (JrS31 off2 e off n c et l g_ m g2 ua uv uk ub uc uo un mr r)) := by kernel_rfl
noncomputable def JrS32 : KSt := ⟨(frameL 59 [(6, (.slice (some ⟨4, 0, none⟩) mr mr))]), ⟨5, 1, [(4, 0, .ints .u64 r 22 true), (0, 0, (JrO0 e)), (1, 0, (JrO2 off n c ua uv uk ub uc uo un et)), (2, 0, .tail off .u64 l g_), (3, 0, .tail off2 .u64 m g2)]⟩⟩
theorem JrW19 : JrEA hasW tAns tAt tF tOv (codeAt [1, 1, 1, 1, 1] BJr) [6] [] none [] (JrS31 off2 e off n c et l g_ m g2 ua uv uk ub uc uo un mr r) =
  some (.fin .ret (JrS32 off2 e off n c et l g_ m g2 ua uv uk ub uc uo un mr r)) := by kernel_rfl
end
theorem Jrin {e : TypeId} {off n c : Nat} {ta : Int} {tv : Bool} {tk tb tc to tn : Int} {et : TypeId} {l : List Int} {g_ : TypeId} {off2 : Nat} {m : List Int} {g2 : TypeId} {dk th ts kp sd : Int} {n2 c2 : Nat}   {Q : Ex → St → Prop} (hq : Gets Tryd.prog (JrH e off n c ta tv tk tb tc to tn et l g_ off2 m g2) (codeAt [1, 1, 1, 0, 1] BJr) (KSt.low (JrS1 dk th ts kp sd off2 n2 c2 e off n c ta tv tk tb tc to tn et l g_ m g2)) (onN (fun s => Gets Tryd.prog (JrH e off n c ta tv tk tb tc to tn et l g_ off2 m g2) (codeAt [1, 1, 1, 1] BJr) s (Q)) (Q))) : Gets Tryd.prog (JrH e off n c ta tv tk tb tc to tn et l g_ off2 m g2) BJr (KSt.low (JrS0 dk th ts kp sd off2 n2 c2 e off n c ta tv tk tb tc to tn et l g_ m g2)) Q := by
  refine AtW.gets ?_
  refine Jrto (JrW1 ..) ?_
  exact AtW.place hq
theorem Jra {ua : Int} {l : List Int} {n : Nat} {i ts : Int} {n2 : Nat} {q : List Int} {mq : Nat} {dk th kp sd : Int} {off2 c2 : Nat} {e : TypeId} {off c : Nat} {et g_ : TypeId} {m : List Int} {g2 : TypeId} {uv : Bool} {uk ub uc uo un ta : Int} {tv : Bool} {tk tb tc to tn : Int} (ht0 : 0 ≤ ua) (hg : l.length = n) (hgn : n ≤ 1000) (hi : 0 ≤ i) (h2 : ts ≤ 64) (hn2 : 1 ≤ n2) (hq : q.length = mq) (hmq : mq ≤ 64) (hm1 : 1 ≤ mq) (h1 : i < ts)   {Q : Ex → St → Prop} (hq : Q .normal (KSt.low (JrS11 tAns tAt tF tOv dk th ts kp sd off2 n2 c2 e off n c et l g_ m g2 mq i q ua uv uk ub uc uo un))) : Gets Tryd.prog (JrH e off n c ta tv tk tb tc to tn et l g_ off2 m g2) (codeAt [1, 1, 1, 0, 1, 0, 0] BJr) (KSt.low (JrS2 dk th ts kp sd off2 n2 c2 e off n c et l g_ m g2 mq i q ua uv uk ub uc uo un)) Q := by
  refine AtW.gets ?_
  refine Jrto ((JrW2 ..).trans (by rw [dT])) ?_
  refine Jrto (s' := (JrS10 tAns tAt tF tOv dk th ts kp sd off2 n2 c2 e off n c et l g_ m g2 mq i q ua uv uk ub uc uo un)) ((JrW3 ..).trans (by rw [dT, dF, dF, lT, lT2, condT (and_t (decide_eq_true (by omega)) (by rw [Nat.sub_self, List.drop_zero, ← hg, List.take_length]; exact ble_t (by omega))), lT, lF, condF (and_f1 (nbeq_f (by omega))), condT (and_t (ble_t (by (first | omega | ((try simp (disch := omega) only [wrap_i64_id]) <;> omega)))) (ble_t (by omega))), (show (IntKind.wrap .i64 ((IntKind.wrap .i64 (3 + i)) + i)) = (3 + i + i) from by rw [wrap_i64_id (n := 3 + i) (by omega) (by omega), wi]), (show (List.take n (List.drop (off - off) l)) = l from by rw [Nat.sub_self, List.drop_zero, ← hg, List.take_length])] <;> rfl)) ?_
  exact Jrfi (x := .normal) (s' := (JrS11 tAns tAt tF tOv dk th ts kp sd off2 n2 c2 e off n c et l g_ m g2 mq i q ua uv uk ub uc uo un)) ((JrW4 ..).trans (by rw [(show (IntKind.wrap .i64 (i + 1)) = (i + 1) from wi)] <;> rfl)) hq
theorem Jra1 {ua : Int} {l : List Int} {n : Nat} {ts : Int} {n2 : Nat} {dk th kp sd : Int} {off2 c2 : Nat} {e : TypeId} {off c : Nat} {et g_ : TypeId} {m : List Int} {g2 : TypeId} {uv : Bool} {uk ub uc uo un ta : Int} {tv : Bool} {tk tb tc to tn : Int} (ht0 : 0 ≤ ua) (hg : l.length = n) (hgn : n ≤ 1000) (h1 : 0 < ts) (hn2 : 1 ≤ n2)   {Q : Ex → St → Prop} (hq : Q .normal (KSt.low (JrS16 tAns tAt tF tOv dk th ts kp sd off2 n2 c2 e off n c et l g_ m g2 ua uv uk ub uc uo un))) : Gets Tryd.prog (JrH e off n c ta tv tk tb tc to tn et l g_ off2 m g2) (codeAt [1, 1, 1, 0, 1, 0, 0] BJr) (KSt.low (JrS12 dk th ts kp sd off2 n2 c2 e off n c et l g_ m g2 ua uv uk ub uc uo un)) Q := by
  refine AtW.gets ?_
  refine Jrto ((JrW5 ..).trans (by rw [dT])) ?_
  refine Jrto (s' := (JrS15 tAns tAt tF tOv dk th ts kp sd off2 n2 c2 e off n c et l g_ m g2 ua uv uk ub uc uo un)) ((JrW6 ..).trans (by rw [dT, lT, lT2, condT (and_t (decide_eq_true (by omega)) (by rw [Nat.sub_self, List.drop_zero, ← hg, List.take_length]; exact ble_t (by omega))), (show (List.take n (List.drop (off - off) l)) = l from by rw [Nat.sub_self, List.drop_zero, ← hg, List.take_length])] <;> rfl)) ?_
  exact Jrfi (JrW7 ..) hq
theorem Jrx {ts i : Int} {off2 n2 c2 : Nat} {e : TypeId} {off n c : Nat} {et : TypeId} {l : List Int} {g_ : TypeId} {m : List Int} {g2 : TypeId} {mq : Nat} {q : List Int} {ua : Int} {uv : Bool} {uk ub uc uo un ta : Int} {tv : Bool} {tk tb tc to tn dk th kp sd : Int} (h1 : ts ≤ i)   {Q : Ex → St → Prop} (hq : Q (.exit 0) (KSt.low (JrS17 off2 n2 c2 e off n c et l g_ m g2 mq q ua uv uk ub uc uo un))) : Gets Tryd.prog (JrH e off n c ta tv tk tb tc to tn et l g_ off2 m g2) (codeAt [1, 1, 1, 0, 1, 0, 0] BJr) (KSt.low (JrS2 dk th ts kp sd off2 n2 c2 e off n c et l g_ m g2 mq i q ua uv uk ub uc uo un)) Q := by
  refine AtW.gets ?_
  refine Jrto ((JrW2 ..).trans (by rw [dF])) ?_
  exact Jrfi (JrW8 ..) hq
theorem Jry {e : TypeId} {off n c : Nat} {ta : Int} {tv : Bool} {tk tb tc to tn : Int} {et : TypeId} {l : List Int} {g_ : TypeId} {off2 : Nat} {m : List Int} {g2 : TypeId} {n2 c2 mq : Nat} {q : List Int} {ua : Int} {uv : Bool} {uk ub uc uo un : Int}   {Q : Ex → St → Prop} (hq : Gets Tryd.prog (JrH e off n c ta tv tk tb tc to tn et l g_ off2 m g2) (codeAt [1, 1, 1, 1, 0, 1] BJr) (KSt.low (JrS18 off2 n2 c2 e off n c et l g_ m g2 mq q ua uv uk ub uc uo un)) (onN (fun s => Gets Tryd.prog (JrH e off n c ta tv tk tb tc to tn et l g_ off2 m g2) (codeAt [1, 1, 1, 1, 1] BJr) s (Q)) (Q))) : Gets Tryd.prog (JrH e off n c ta tv tk tb tc to tn et l g_ off2 m g2) (codeAt [1, 1, 1, 1] BJr) (KSt.low (JrS17 off2 n2 c2 e off n c et l g_ m g2 mq q ua uv uk ub uc uo un)) Q := by
  refine AtW.gets ?_
  refine Jrto (JrW9 ..) ?_
  exact AtW.place hq
theorem Jrb {ua : Int} {l : List Int} {n j n2 : Nat} {m q : List Int} {mq : Nat} {r : List Int} {mr off2 c2 : Nat} {e : TypeId} {off c : Nat} {et g_ g2 : TypeId} {uv : Bool} {uk ub uc uo un ta : Int} {tv : Bool} {tk tb tc to tn : Int} (ht0 : 0 ≤ ua) (hg : l.length = n) (hgn : n ≤ 1000) (hj : j < n2) (hm : m.length = n2) (hmn : n2 ≤ 1000) (hq : q.length = mq) (hmq : mq ≤ 64) (hr : r.length = mr) (hmr : mr ≤ j) (hm1 : 1 ≤ mr) (hw : hasW q (m.getD j 0) = true)   {Q : Ex → St → Prop} (hq : Q .normal (KSt.low (JrS24 off2 n2 c2 e off n c et l g_ m g2 mq q ua uv uk ub uc uo un mr j r))) : Gets Tryd.prog (JrH e off n c ta tv tk tb tc to tn et l g_ off2 m g2) (codeAt [1, 1, 1, 1, 0, 1, 0, 0] BJr) (KSt.low (JrS19 off2 n2 c2 e off n c et l g_ m g2 mq q ua uv uk ub uc uo un mr j r)) Q := by
  refine AtW.gets ?_
  refine Jrto (s' := (JrS20 hasW off2 n2 c2 e off n c et l g_ m g2 mq q ua uv uk ub uc uo un mr j r)) ((JrW10 ..).trans (by rw [dT, iP, lT, obind_at (k := ((Int.toNat ((j : Nat) : Int)) * 1)) (by omega) (by omega), lT2, condT (by rw [List.drop_zero, List.take_of_length_le (by omega)]; exact ble_t (by omega)), (show (List.take mq (List.drop 0 q)) = q from by rw [List.drop_zero, List.take_of_length_le (by omega)]), (show (m.getD ((Int.toNat ((j : Nat) : Int)) * 1) 0) = (m.getD j 0) from by rw [Nat.mul_one]; rfl)] <;> rfl)) ?_
  refine Jrto (s' := (JrS23 off2 n2 c2 e off n c et l g_ m g2 mq q ua uv uk ub uc uo un mr j r)) ((JrW11 ..).trans (by rw [condT (hw), iP, lT, obind_at (k := ((Int.toNat ((j : Nat) : Int)) * 1)) (by omega) (by omega), lT, lF, condF (and_f1 (nbeq_f (by omega))), condT (and_t (ble_t (by (first | omega | ((try simp (disch := omega) only [wrap_i64_id]) <;> omega)))) (ble_t (by omega))), (show (m.getD ((Int.toNat ((j : Nat) : Int)) * 1) 0) = (m.getD j 0) from by rw [Nat.mul_one]; rfl)] <;> rfl)) ?_
  exact Jrfi (x := .normal) (s' := (JrS24 off2 n2 c2 e off n c et l g_ m g2 mq q ua uv uk ub uc uo un mr j r)) ((JrW12 ..).trans (by rw [(show (IntKind.wrap .i64 (((j : Nat) : Int) + 1)) = (((j : Nat) : Int) + 1) from wi)] <;> rfl)) hq
theorem Jrb1 {ua : Int} {l : List Int} {n j n2 : Nat} {m q : List Int} {mq off2 c2 : Nat} {e : TypeId} {off c : Nat} {et g_ g2 : TypeId} {uv : Bool} {uk ub uc uo un ta : Int} {tv : Bool} {tk tb tc to tn : Int} (ht0 : 0 ≤ ua) (hg : l.length = n) (hgn : n ≤ 1000) (hj : j < n2) (hm : m.length = n2) (hmn : n2 ≤ 1000) (hq : q.length = mq) (hmq : mq ≤ 64) (hw : hasW q (m.getD j 0) = true)   {Q : Ex → St → Prop} (hq : Q .normal (KSt.low (JrS28 off2 n2 c2 e off n c et l g_ m g2 mq q ua uv uk ub uc uo un j))) : Gets Tryd.prog (JrH e off n c ta tv tk tb tc to tn et l g_ off2 m g2) (codeAt [1, 1, 1, 1, 0, 1, 0, 0] BJr) (KSt.low (JrS25 off2 n2 c2 e off n c et l g_ m g2 mq q ua uv uk ub uc uo un j)) Q := by
  refine AtW.gets ?_
  refine Jrto (s' := (JrS26 hasW off2 n2 c2 e off n c et l g_ m g2 mq q ua uv uk ub uc uo un j)) ((JrW13 ..).trans (by rw [dT, iP, lT, obind_at (k := ((Int.toNat ((j : Nat) : Int)) * 1)) (by omega) (by omega), lT2, condT (by rw [List.drop_zero, List.take_of_length_le (by omega)]; exact ble_t (by omega)), (show (List.take mq (List.drop 0 q)) = q from by rw [List.drop_zero, List.take_of_length_le (by omega)]), (show (m.getD ((Int.toNat ((j : Nat) : Int)) * 1) 0) = (m.getD j 0) from by rw [Nat.mul_one]; rfl)] <;> rfl)) ?_
  refine Jrto (s' := (JrS27 off2 n2 c2 e off n c et l g_ m g2 mq q ua uv uk ub uc uo un j)) ((JrW14 ..).trans (by rw [condT (hw), iP, lT, obind_at (k := ((Int.toNat ((j : Nat) : Int)) * 1)) (by omega) (by omega), (show (m.getD ((Int.toNat ((j : Nat) : Int)) * 1) 0) = (m.getD j 0) from by rw [Nat.mul_one]; rfl)] <;> rfl)) ?_
  exact Jrfi (x := .normal) (s' := (JrS28 off2 n2 c2 e off n c et l g_ m g2 mq q ua uv uk ub uc uo un j)) ((JrW15 ..).trans (by rw [(show (IntKind.wrap .i64 (((j : Nat) : Int) + 1)) = (((j : Nat) : Int) + 1) from wi)] <;> rfl)) hq
theorem Jrc {ua : Int} {l : List Int} {n j n2 : Nat} {m q : List Int} {mq : Nat} {r : List Int} {mr off2 c2 : Nat} {e : TypeId} {off c : Nat} {et g_ g2 : TypeId} {uv : Bool} {uk ub uc uo un ta : Int} {tv : Bool} {tk tb tc to tn : Int} (ht0 : 0 ≤ ua) (hg : l.length = n) (hgn : n ≤ 1000) (hj : j < n2) (hm : m.length = n2) (hmn : n2 ≤ 1000) (hq : q.length = mq) (hmq : mq ≤ 64) (hr : r.length = mr) (hmr : mr ≤ j) (hw : hasW q (m.getD j 0) = false)   {Q : Ex → St → Prop} (hq : Q .normal (KSt.low (JrS30 tAt tF tOv off2 n2 c2 e off n c et l g_ m g2 mq q ua uv uk ub uc uo un mr j r))) : Gets Tryd.prog (JrH e off n c ta tv tk tb tc to tn et l g_ off2 m g2) (codeAt [1, 1, 1, 1, 0, 1, 0, 0] BJr) (KSt.low (JrS19 off2 n2 c2 e off n c et l g_ m g2 mq q ua uv uk ub uc uo un mr j r)) Q := by
  refine AtW.gets ?_
  refine Jrto (s' := (JrS20 hasW off2 n2 c2 e off n c et l g_ m g2 mq q ua uv uk ub uc uo un mr j r)) ((JrW10 ..).trans (by rw [dT, iP, lT, obind_at (k := ((Int.toNat ((j : Nat) : Int)) * 1)) (by omega) (by omega), lT2, condT (by rw [List.drop_zero, List.take_of_length_le (by omega)]; exact ble_t (by omega)), (show (List.take mq (List.drop 0 q)) = q from by rw [List.drop_zero, List.take_of_length_le (by omega)]), (show (m.getD ((Int.toNat ((j : Nat) : Int)) * 1) 0) = (m.getD j 0) from by rw [Nat.mul_one]; rfl)] <;> rfl)) ?_
  refine Jrto (s' := (JrS29 tAt tF tOv off2 n2 c2 e off n c et l g_ m g2 mq q ua uv uk ub uc uo un mr j r)) ((JrW16 ..).trans (by rw [condF (hw), iP, lT, obind_at (k := ((Int.toNat ((j : Nat) : Int)) * 1)) (by omega) (by omega), lT, lT2, condT (and_t (decide_eq_true (by omega)) (by rw [Nat.sub_self, List.drop_zero, ← hg, List.take_length]; exact ble_t (by omega))), (show (List.take n (List.drop (off - off) l)) = l from by rw [Nat.sub_self, List.drop_zero, ← hg, List.take_length]), (show (m.getD ((Int.toNat ((j : Nat) : Int)) * 1) 0) = (m.getD j 0) from by rw [Nat.mul_one]; rfl)] <;> rfl)) ?_
  exact Jrfi (x := .normal) (s' := (JrS30 tAt tF tOv off2 n2 c2 e off n c et l g_ m g2 mq q ua uv uk ub uc uo un mr j r)) ((JrW17 ..).trans (by rw [(show (IntKind.wrap .i64 (((j : Nat) : Int) + 1)) = (((j : Nat) : Int) + 1) from wi)] <;> rfl)) hq
theorem Jrz {n2 j off2 : Nat} {e : TypeId} {off n c : Nat} {et : TypeId} {l : List Int} {g_ : TypeId} {m : List Int} {g2 : TypeId} {ua : Int} {uv : Bool} {uk ub uc uo un : Int} {mr : Nat} {r : List Int} {ta : Int} {tv : Bool} {tk tb tc to tn : Int} {c2 mq : Nat} {q : List Int} (hj : n2 ≤ j)   {Q : Ex → St → Prop} (hq : Q (.exit 2) (KSt.low (JrS31 off2 e off n c et l g_ m g2 ua uv uk ub uc uo un mr r))) : Gets Tryd.prog (JrH e off n c ta tv tk tb tc to tn et l g_ off2 m g2) (codeAt [1, 1, 1, 1, 0, 1, 0, 0] BJr) (KSt.low (JrS19 off2 n2 c2 e off n c et l g_ m g2 mq q ua uv uk ub uc uo un mr j r)) Q := by
  refine AtW.gets ?_
  exact Jrfi ((JrW18 ..).trans (by rw [dF])) hq
theorem Jre {off2 : Nat} {e : TypeId} {off n c : Nat} {et : TypeId} {l : List Int} {g_ : TypeId} {m : List Int} {g2 : TypeId} {ua : Int} {uv : Bool} {uk ub uc uo un : Int} {mr : Nat} {r : List Int} {ta : Int} {tv : Bool} {tk tb tc to tn : Int}   {Q : Ex → St → Prop} (hq : Q .ret (KSt.low (JrS32 off2 e off n c et l g_ m g2 ua uv uk ub uc uo un mr r))) : Gets Tryd.prog (JrH e off n c ta tv tk tb tc to tn et l g_ off2 m g2) (codeAt [1, 1, 1, 1, 1] BJr) (KSt.low (JrS31 off2 e off n c et l g_ m g2 ua uv uk ub uc uo un mr r)) Q := by
  refine AtW.gets ?_
  exact Jrfi (JrW19 ..) hq
inductive RlA (e : TypeId) (off n c : Nat) (l : List Int) (g_ et : TypeId) (off2 n2 c2 : Nat) (m : List Int) (g2 : TypeId) (dk th ts kp sd : Int) (R : TpS × List Int) : Nat → KSt → Prop
  | s (i : Int) (T : TpS) (q : List Int) (mq : Nat) (hi : 0 ≤ i) (hq : q.length = mq) (hmq : (mq : Int) = i) (hts : i ≤ ts) (hT : 0 ≤ T.at_) (h : rlLoad l dk (ts - i).toNat i T q = R) : RlA e off n c l g_ et off2 n2 c2 m g2 dk th ts kp sd R (ts - i).toNat (JrS2 dk th ts kp sd off2 n2 c2 e off n c et l g_ m g2 mq i q (T.at_) (T.ov) (T.k) (T.b) (T.c) (T.o) (T.n))
inductive RlB (e : TypeId) (off n c : Nat) (l : List Int) (g_ et : TypeId) (off2 n2 c2 : Nat) (m : List Int) (g2 : TypeId) (dk th ts kp sd : Int) (q : List Int) (mq : Nat) (R : TpS × List Int) : Nat → KSt → Prop
  | s (j : Nat) (T : TpS) (r : List Int) (mr : Nat) (hj : j ≤ n2) (hr : r.length = mr) (hmr : mr ≤ j) (hT : 0 ≤ T.at_) (h : rlFree l q (m.drop j) T r = R) : RlB e off n c l g_ et off2 n2 c2 m g2 dk th ts kp sd q mq R (n2 - j) (JrS19 off2 n2 c2 e off n c et l g_ m g2 mq q (T.at_) (T.ov) (T.k) (T.b) (T.c) (T.o) (T.n) mr j r)
theorem rlB (e : TypeId) (off n c : Nat) (l : List Int) (g_ et : TypeId) (off2 n2 c2 : Nat) (m : List Int) (g2 : TypeId) (dk th ts kp sd : Int) (hg : l.length = n) (hgn : n ≤ 1000) (hm : m.length = n2) (hmn : n2 ≤ 1000) (hts : ts ≤ 64) (T0 : TpS) (q : List Int) (mq : Nat) (hq : q.length = mq) (hmq : mq ≤ 64) (TE : TpS) (R : List Int) (z : Nat) (t_ : KSt) (hI : RlB e off n c l g_ et off2 n2 c2 m g2 dk th ts kp sd q mq (TE, R) z t_) : Gets Tryd.prog (KH.low ⟨4, 1, [(0, 0, .cells [(.int .i64 1), (.int .i64 64), (.int .i64 1), (.int .i64 64)] e false), (1, 0, .cells [(.slice (some ⟨2, off, none⟩) n c), (.int .i64 T0.at_), (.bool T0.ov), (.int .i64 T0.k), (.int .u64 T0.b), (.int .i64 T0.c), (.int .u64 T0.o), (.int .u64 T0.n)] et true), (2, 0, .tail off .u64 l g_), (3, 0, .tail off2 .u64 m g2)]⟩) (codeAt [1, 1, 1, 1, 0, 1] BJr) t_.low (onN (fun s => Gets Tryd.prog (JrH e off n c T0.at_ T0.ov T0.k T0.b T0.c T0.o T0.n et l g_ off2 m g2) (codeAt [1, 1, 1, 1, 1] BJr) s ((EndsR Tryd.prog Tryd.f24 (.slice (some ⟨4, 0, none⟩) (List.length R) (List.length R)) [.cells [(.int .i64 1), (.int .i64 64), (.int .i64 1), (.int .i64 64)] e false, .cells [(.slice (some ⟨2, off, none⟩) n c), (.int .i64 T0.at_), (.bool T0.ov), (.int .i64 T0.k), (.int .u64 T0.b), (.int .i64 T0.c), (.int .u64 T0.o), (.int .u64 T0.n)] et true, .tail off .u64 l g_, .tail off2 .u64 m g2] [(1, .cells [(.slice (some ⟨2, off, none⟩) n c), .int .i64 (TpS.at_ TE), .bool (TpS.ov TE), .int .i64 (TpS.k TE), .int .u64 (TpS.b TE), .int .i64 (TpS.c TE), .int .u64 (TpS.o TE), .int .u64 (TpS.n TE)] et true)] [.ints .u64 R 22 true]))) ((EndsR Tryd.prog Tryd.f24 (.slice (some ⟨4, 0, none⟩) (List.length R) (List.length R)) [.cells [(.int .i64 1), (.int .i64 64), (.int .i64 1), (.int .i64 64)] e false, .cells [(.slice (some ⟨2, off, none⟩) n c), (.int .i64 T0.at_), (.bool T0.ov), (.int .i64 T0.k), (.int .u64 T0.b), (.int .i64 T0.c), (.int .u64 T0.o), (.int .u64 T0.n)] et true, .tail off .u64 l g_, .tail off2 .u64 m g2] [(1, .cells [(.slice (some ⟨2, off, none⟩) n c), .int .i64 (TpS.at_ TE), .bool (TpS.ov TE), .int .i64 (TpS.k TE), .int .u64 (TpS.b TE), .int .i64 (TpS.c TE), .int .u64 (TpS.o TE), .int .u64 (TpS.n TE)] et true)] [.ints .u64 R 22 true]))) := by
  rw [JrC1_1_1_1_0_1, JrC1_1_1_1_0_1_0]
  refine Gets.loopG (fun z t_ => RlB e off n c l g_ et off2 n2 c2 m g2 dk th ts kp sd q mq (TE, R) z t_) ?_ _ _ hI
  clear hI z t_
  intro z t_ hI
  cases hI with
  | s j T r mr hj hr hmr hT h =>
    by_cases hlt : j < n2
    · have hd : m.drop j = m.getD j 0 :: m.drop (j + 1) := by
        rw [List.drop_eq_getElem_cons (by omega), List.getD_eq_getElem?_getD, List.getElem?_eq_getElem (by omega)]; rfl
      rw [hd, rlFree] at h
      cases hw : hasW q (m.getD j 0) with
      | true =>
        rw [hw] at h
        rcases Nat.eq_zero_or_pos mr with h0 | h0
        · subst h0
          obtain rfl : r = [] := List.eq_nil_of_length_eq_zero hr
          refine Jrb1 hT hg hgn hlt hm hmn hq hmq hw ?_
          exact ⟨n2 - (j + 1), (JrS19 off2 n2 c2 e off n c et l g_ m g2 mq q (T.at_) (T.ov) (T.k) (T.b) (T.c) (T.o) (T.n) (1) ((j + 1)) ([m.getD j 0])), by omega, rfl, .s (j + 1) T [m.getD j 0] 1 (show j + 1 ≤ n2 by omega) rfl (show 1 ≤ j + 1 by omega) hT h⟩
        · refine Jrb hT hg hgn hlt hm hmn hq hmq hr hmr h0 hw ?_
          exact ⟨n2 - (j + 1), _, by omega, rfl, .s (j + 1) T (List.take mr r ++ [m.getD j 0]) (mr + 1) (by omega) (by rw [List.take_of_length_le (show r.length ≤ mr by omega), List.length_append, hr]; rfl) (by omega) hT (by rw [List.take_of_length_le (show r.length ≤ mr by omega)]; exact h)⟩
      | false =>
        rw [hw] at h
        refine Jrc hT hg hgn hlt hm hmn hq hmq hr hmr hw ?_
        exact ⟨n2 - (j + 1), _, by omega, rfl, .s (j + 1) (tpS l T 6 (m.getD j 0) 0 0 0) r mr (by omega) hr (by omega) (tAt_nonneg hT) h⟩
    · have e : j = n2 := by omega
      rw [e, List.drop_of_length_le (by omega)] at h
      obtain ⟨rfl, rfl⟩ := Prod.mk.inj (show (T, r) = (TE, R) from h)
      refine Jrz (by omega) ?_
      refine ⟨fun _ => Jre ?_, fun h => by cases h⟩
      rw [← hr]
      exact EndsR.ret (l := [(.slice (some ⟨4, 0, none⟩) (List.length r) (List.length r))]) (by kernel_rfl) rfl (fitsPN (by kernel_rfl) (by kernel_rfl) (by kernel_rfl) (Nat.le_refl _))
theorem rlA (e : TypeId) (off n c : Nat) (l : List Int) (g_ et : TypeId) (off2 n2 c2 : Nat) (m : List Int) (g2 : TypeId) (dk th ts kp sd : Int) (hg : l.length = n) (hgn : n ≤ 1000) (hm : m.length = n2) (hmn : n2 ≤ 1000) (hts : ts ≤ 64) (hts1 : 1 ≤ ts) (hn1 : 1 ≤ n2) (T0 : TpS) (hT0 : 0 ≤ T0.at_) (TE : TpS) (R : List Int) (TQ : TpS) (q1 : List Int) (hR : rlFree l q1 m TQ [] = (TE, R)) (z : Nat) (t_ : KSt) (hI : RlA e off n c l g_ et off2 n2 c2 m g2 dk th ts kp sd (TQ, q1) z t_) : Gets Tryd.prog (KH.low ⟨4, 1, [(0, 0, .cells [(.int .i64 1), (.int .i64 64), (.int .i64 1), (.int .i64 64)] e false), (1, 0, .cells [(.slice (some ⟨2, off, none⟩) n c), (.int .i64 T0.at_), (.bool T0.ov), (.int .i64 T0.k), (.int .u64 T0.b), (.int .i64 T0.c), (.int .u64 T0.o), (.int .u64 T0.n)] et true), (2, 0, .tail off .u64 l g_), (3, 0, .tail off2 .u64 m g2)]⟩) (codeAt [1, 1, 1, 0, 1] BJr) t_.low (onN (fun s => Gets Tryd.prog (JrH e off n c T0.at_ T0.ov T0.k T0.b T0.c T0.o T0.n et l g_ off2 m g2) (codeAt [1, 1, 1, 1] BJr) s ((EndsR Tryd.prog Tryd.f24 (.slice (some ⟨4, 0, none⟩) (List.length R) (List.length R)) [.cells [(.int .i64 1), (.int .i64 64), (.int .i64 1), (.int .i64 64)] e false, .cells [(.slice (some ⟨2, off, none⟩) n c), (.int .i64 T0.at_), (.bool T0.ov), (.int .i64 T0.k), (.int .u64 T0.b), (.int .i64 T0.c), (.int .u64 T0.o), (.int .u64 T0.n)] et true, .tail off .u64 l g_, .tail off2 .u64 m g2] [(1, .cells [(.slice (some ⟨2, off, none⟩) n c), .int .i64 (TpS.at_ TE), .bool (TpS.ov TE), .int .i64 (TpS.k TE), .int .u64 (TpS.b TE), .int .i64 (TpS.c TE), .int .u64 (TpS.o TE), .int .u64 (TpS.n TE)] et true)] [.ints .u64 R 22 true]))) ((EndsR Tryd.prog Tryd.f24 (.slice (some ⟨4, 0, none⟩) (List.length R) (List.length R)) [.cells [(.int .i64 1), (.int .i64 64), (.int .i64 1), (.int .i64 64)] e false, .cells [(.slice (some ⟨2, off, none⟩) n c), (.int .i64 T0.at_), (.bool T0.ov), (.int .i64 T0.k), (.int .u64 T0.b), (.int .i64 T0.c), (.int .u64 T0.o), (.int .u64 T0.n)] et true, .tail off .u64 l g_, .tail off2 .u64 m g2] [(1, .cells [(.slice (some ⟨2, off, none⟩) n c), .int .i64 (TpS.at_ TE), .bool (TpS.ov TE), .int .i64 (TpS.k TE), .int .u64 (TpS.b TE), .int .i64 (TpS.c TE), .int .u64 (TpS.o TE), .int .u64 (TpS.n TE)] et true)] [.ints .u64 R 22 true]))) := by
  rw [JrC1_1_1_0_1, JrC1_1_1_0_1_0]
  refine Gets.loopG (fun z t_ => RlA e off n c l g_ et off2 n2 c2 m g2 dk th ts kp sd (TQ, q1) z t_) ?_ _ _ hI
  clear hI z t_
  intro z t_ hI
  cases hI with
  | s i T q mq hi hq hmq hit hT h =>
    by_cases hlt : i < ts
    · obtain ⟨f, hf⟩ : ∃ f, (ts - i).toNat = f + 1 := ⟨(ts - i).toNat - 1, by omega⟩
      have hf2 : (ts - (i + 1)).toNat = f := by omega
      rw [hf, rlLoad] at h
      rcases Nat.eq_zero_or_pos mq with h0 | h0
      · subst h0
        obtain rfl : q = [] := List.eq_nil_of_length_eq_zero hq
        obtain rfl : i = 0 := by omega
        refine Jra1 hT hg hgn (by omega) hn1 ?_
        have e1 : (ts - 1).toNat = f := by omega
        have h : rlLoad l dk f 1 (tpS l T 1 dk 3 0 0) [tAns l T.at_ T.ov] = (TQ, q1) := h
        rw [← e1] at h
        exact ⟨(ts - 1).toNat, (JrS2 dk th ts kp sd off2 n2 c2 e off n c et l g_ m g2 (1) (1) ([tAns l T.at_ T.ov]) ((tpS l T 1 dk 3 0 0).at_) ((tpS l T 1 dk 3 0 0).ov) ((tpS l T 1 dk 3 0 0).k) ((tpS l T 1 dk 3 0 0).b) ((tpS l T 1 dk 3 0 0).c) ((tpS l T 1 dk 3 0 0).o) ((tpS l T 1 dk 3 0 0).n)), by omega, rfl, .s 1 (tpS l T 1 dk 3 0 0) [tAns l T.at_ T.ov] 1 (by omega) rfl rfl (by omega) (tAt_nonneg hT) h⟩
      · refine Jra hT hg hgn hi hts hn1 hq (by omega) h0 hlt ?_
        exact ⟨(ts - (i + 1)).toNat, _, by omega, rfl, .s (i + 1) (tpS l T 1 dk (3 + i + i) 0 0) (List.take mq q ++ [tAns l T.at_ T.ov]) (mq + 1) (by omega) (by rw [List.take_of_length_le (show q.length ≤ mq by omega), List.length_append, hq]; rfl) (by omega) (by omega) (tAt_nonneg hT) (by rw [hf2, List.take_of_length_le (show q.length ≤ mq by omega)]; exact h)⟩
    · rw [show (ts - i).toNat = 0 by omega, rlLoad] at h
      obtain ⟨rfl, rfl⟩ := Prod.mk.inj h
      refine Jrx (by omega) ?_
      refine ⟨fun _ => Jry ?_, fun h => by cases h⟩
      exact rlB e off n c l g_ et off2 n2 c2 m g2 dk th ts kp sd hg hgn hm hmn hts T0 q mq hq (by omega) TE R (n2 - 0) (JrS19 off2 n2 c2 e off n c et l g_ m g2 mq q (T.at_) (T.ov) (T.k) (T.b) (T.c) (T.o) (T.n) (0) (0) (([] : List Int))) (.s 0 T [] 0 (Nat.zero_le _) rfl (Nat.le_refl _) hT hR)
theorem rl_does (e : TypeId) (off n c : Nat) (l : List Int) (g_ et : TypeId) (off2 n2 c2 : Nat) (m : List Int) (g2 : TypeId) (dk th ts kp sd : Int) (hg : l.length = n) (hgn : n ≤ 1000) (hm : m.length = n2) (hmn : n2 ≤ 1000) (hts : ts ≤ 64) (hts1 : 1 ≤ ts) (hn1 : 1 ≤ n2) (T : TpS) (hT : 0 ≤ T.at_) (TE : TpS) (R : List Int) (hR : rlLook l dk ts T m = (TE, R)) : DoesC Tryd.prog 24 [(.pointer (some ⟨1, 0, none⟩)), (.agg #[(.int .u64 dk), (.int .i64 th), (.int .i64 ts), (.int .i64 kp), (.int .u64 sd)]), (.slice (some ⟨3, off2, none⟩) n2 c2)] (mkH [.cells [(.int .i64 1), (.int .i64 64), (.int .i64 1), (.int .i64 64)] e false, .cells [(.slice (some ⟨2, off, none⟩) n c), (.int .i64 T.at_), (.bool T.ov), (.int .i64 T.k), (.int .u64 T.b), (.int .i64 T.c), (.int .u64 T.o), (.int .u64 T.n)] et true, .tail off .u64 l g_, .tail off2 .u64 m g2]).low (.slice (some ⟨4, 0, none⟩) (List.length R) (List.length R)) (effK (mkH [.cells [(.int .i64 1), (.int .i64 64), (.int .i64 1), (.int .i64 64)] e false, .cells [(.slice (some ⟨2, off, none⟩) n c), (.int .i64 T.at_), (.bool T.ov), (.int .i64 T.k), (.int .u64 T.b), (.int .i64 T.c), (.int .u64 T.o), (.int .u64 T.n)] et true, .tail off .u64 l g_, .tail off2 .u64 m g2]) [(1, .cells [(.slice (some ⟨2, off, none⟩) n c), .int .i64 (TpS.at_ TE), .bool (TpS.ov TE), .int .i64 (TpS.k TE), .int .u64 (TpS.b TE), .int .i64 (TpS.c TE), .int .u64 (TpS.o TE), .int .u64 (TpS.n TE)] et true)] [.ints .u64 R 22 true]).low := by
  refine EndsR.does Tryd.func24 BJr_is (by rw [oneVar]; exact Nat.le_add_left _ _) ?_
  show Gets Tryd.prog (KH.low ⟨4, 1, [(0, 0, .cells [(.int .i64 1), (.int .i64 64), (.int .i64 1), (.int .i64 64)] e false), (1, 0, .cells [(.slice (some ⟨2, off, none⟩) n c), (.int .i64 T.at_), (.bool T.ov), (.int .i64 T.k), (.int .u64 T.b), (.int .i64 T.c), (.int .u64 T.o), (.int .u64 T.n)] et true), (2, 0, .tail off .u64 l g_), (3, 0, .tail off2 .u64 m g2)]⟩) BJr (KSt.low (JrS0 dk th ts kp sd off2 n2 c2 e off n c T.at_ T.ov T.k T.b T.c T.o T.n et l g_ m g2)) _
  refine Jrin ?_
  have hm0 : m.isEmpty = false := by
    cases m with
    | nil => simp at hm; omega
    | cons => rfl
  unfold rlLook at hR
  rw [hm0] at hR
  exact rlA e off n c l g_ et off2 n2 c2 m g2 dk th ts kp sd hg hgn hm hmn hts hts1 hn1 T hT TE R _ _ hR (ts - 0).toNat (JrS2 dk th ts kp sd off2 n2 c2 e off n c et l g_ m g2 (0) (0) (([] : List Int)) (T.at_) (T.ov) (T.k) (T.b) (T.c) (T.o) (T.n)) (.s 0 T [] 0 (by omega) rfl rfl (by omega) hT (by rw [Int.sub_zero]))
end Go.Proofs.YtfhfbbhoppnbiaaDoor
