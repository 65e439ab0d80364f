import Derived.Test.YtfhfbbhoppnbiaaDoorCards
import Derived.Test.YtfhfbbhoppnbiaaDoorTie
import Derived.Test.YtfhfbbhoppnbiaaDoorRtN
import Derived.WalkKit
import Derived.ProofKit
import Derived.OpenShut
import Derived.ChangeOld
import Derived.Below
import Derived.SizedLaws
namespace Go.Proofs.YtfhfbbhoppnbiaaDoor.retireActs
open Go.Eng
open Go.ChangeShapes Go.WideShapes Go.ChangeAt Go.RowKit
set_option linter.unusedVariables false
set_option linter.unusedSimpArgs false
set_option maxRecDepth 100000
noncomputable def cfgP : Cfg := ⟨[32]⟩
noncomputable def fsP : List FuncId := [3, 6, 7, 8, 9, 10, 11, 12, 22]
theorem fitP : Fit Tryd.prog cfgP fsP := ⟨by kernel_rfl, Cfg.ok_of (by kernel_rfl), by kernel_rfl⟩
noncomputable def BLg : Code := bodyOf Tryd.prog 3
theorem BLg_is : Tryd.f3.body = some BLg := by kernel_rfl
noncomputable abbrev LgH (e0 : TypeId) (off : Nat) (l : List Int) (e1 : TypeId) (off2 : Nat) (q : List Int) (e2 : TypeId) : AH := (KH.low ⟨3, 1, [(0, 0, .cells [(.int .i64 1), (.int .i64 64), (.int .i64 1), (.int .i64 64)] e0 false), (1, 0, .tail off .u64 l e1), (2, 0, .tail off2 .u64 q e2)]⟩)
noncomputable abbrev LgEA (c : Code) (lv p : List Nat) (st : Option (List Nat)) (ws : List Bool) (s : KSt) : Option Rs := evA (evCK Tryd.prog cfgP (runK Tryd.prog cfgP fsP (conTk laDom (rcK varL laT)) 40 40) 40) (stopW 3 lv) p c st ws s (finW 3 lv)
theorem Lgto_ {c_ : Code} {lv_ p_ p2_ : List Nat} {ws_ : List Bool} {st_ s' : KSt} {Q : Ex → St → Prop} {e0 : TypeId} {off : Nat} {l : List Int} {e1 : TypeId} {off2 : Nat} {q : List Int} {e2 : TypeId} (hE_ : LgEA c_ lv_ p_ (some p2_) ws_ st_ = some (.stop s')) (hq_ : AtW Tryd.prog (LgH e0 off l e1 off2 q e2) c_ p2_ s' Q) (hok_ : okCode Tryd.prog.globals.size c_ = true := by kernel_rfl) : AtW Tryd.prog (LgH e0 off l e1 off2 q e2) c_ p_ st_ Q := AtW.to fitP la_sound (rc_agree _ _ _) 40 40 hok_ hE_ hq_
theorem Lgfi_ {c_ : Code} {lv_ p_ : List Nat} {ws_ : List Bool} {st_ s' : KSt} {x : Ex} {Q : Ex → St → Prop} {e0 : TypeId} {off : Nat} {l : List Int} {e1 : TypeId} {off2 : Nat} {q : List Int} {e2 : TypeId} (hE_ : LgEA c_ lv_ p_ none ws_ st_ = some (.fin x s')) (hq_ : Q x s'.low) (hok_ : okCode Tryd.prog.globals.size c_ = true := by kernel_rfl) : AtW Tryd.prog (LgH e0 off l e1 off2 q e2) c_ p_ st_ Q := AtW.fin fitP la_sound (rc_agree _ _ _) 40 40 hok_ hE_ hq_
section
variable (dk th ts kp sd : Int) (off n c off2 n2 c2 : Nat) (e0 : TypeId) (l : List Int) (e1 : TypeId) (q : List Int) (e2 : TypeId) (bb : Int)
noncomputable abbrev LgO0 (e0 : TypeId) : KObj := .cells [(.int .i64 1), (.int .i64 64), (.int .i64 1), (.int .i64 64)] e0 false
noncomputable abbrev LgO1 (dk th ts kp sd : Int) : KObj := .cells [(.int .u64 dk), (.int .i64 th), (.int .i64 ts), (.int .i64 kp), (.int .u64 sd)] 24 true
noncomputable def LgS0 : KSt := (firstK [(.agg #[(.int .u64 dk), (.int .i64 th), (.int .i64 ts), (.int .i64 kp), (.int .u64 sd)]), (.slice (some ⟨1, off, none⟩) n c), (.slice (some ⟨2, off2, none⟩) n2 c2)] 98 ⟨3, 1, [(0, 0, (LgO0 e0)), (1, 0, .tail off .u64 l e1), (2, 0, .tail off2 .u64 q e2)]⟩)
noncomputable def LgS1 : KSt := ⟨(frameL 98 [(1, (.slice (some ⟨1, off, none⟩) n c)), (2, (.slice (some ⟨2, off2, none⟩) n2 c2)), (3, (.pointer (some ⟨3, 0, none⟩))), (25, (.bool true))]), ⟨4, 1, [(3, 0, (LgO1 dk th ts kp sd)), (0, 0, (LgO0 e0)), (1, 0, .tail off .u64 l e1), (2, 0, .tail off2 .u64 q e2)]⟩⟩
noncomputable def LgS2 : KSt := ⟨(frameL 98 [(1, (.slice (some ⟨1, off, none⟩) n c)), (2, (.slice (some ⟨2, off2, none⟩) n2 c2)), (3, (.pointer (some ⟨3, 0, none⟩))), (25, (.bool (decide (((n2 : Nat) : Int) > 150))))]), ⟨4, 1, [(3, 0, (LgO1 dk th ts kp sd)), (0, 0, (LgO0 e0)), (1, 0, .tail off .u64 l e1), (2, 0, .tail off2 .u64 q e2)]⟩⟩
theorem LgW1 : LgEA BLg [1, 2, 3, 25] [] (some [1, 0, 1]) [] (LgS0 dk th ts kp sd off n c off2 n2 c2 e0 l e1 q e2) =
  bif (decide (((n : Nat) : Int) > 70)) then
    some (.stop (LgS1 dk th ts kp sd off n c off2 n2 c2 e0 l e1 q e2))
  else
    some (.stop (LgS2 dk th ts kp sd off n c off2 n2 c2 e0 l e1 q e2)) := by kernel_rfl
noncomputable def LgS3 : KSt := ⟨(frameL 98 [(6, (.bool true))]), ⟨3, 1, [(0, 0, (LgO0 e0)), (1, 0, .tail off .u64 l e1), (2, 0, .tail off2 .u64 q e2)]⟩⟩
theorem LgW2 : LgEA BLg [6] [1, 0, 1] none [true] (LgS1 dk th ts kp sd off n c off2 n2 c2 e0 l e1 q e2) =
  some (.fin .ret (LgS3 off off2 e0 l e1 q e2)) := by kernel_rfl
theorem LgW3 : LgEA BLg [6] [1, 0, 1] none [true] (LgS2 dk th ts kp sd off n c off2 n2 c2 e0 l e1 q e2) =
  bif (decide (((n2 : Nat) : Int) > 150)) then
    some (.fin .ret (LgS3 off off2 e0 l e1 q e2))
  else
    none := by kernel_rfl
noncomputable def LgS4 : KSt := ⟨(frameL 98 [(1, (.slice (some ⟨1, off, none⟩) n c)), (2, (.slice (some ⟨2, off2, none⟩) n2 c2)), (3, (.pointer (some ⟨3, 0, none⟩))), (7, (.int .u64 0))]), ⟨4, 1, [(3, 0, (LgO1 dk th ts kp sd)), (0, 0, (LgO0 e0)), (1, 0, .tail off .u64 l e1), (2, 0, .tail off2 .u64 q e2)]⟩⟩
theorem LgW4 : LgEA BLg [1, 2, 3, 7] [1, 0, 1] (some [1, 1, 1, 1]) [false, false] (LgS2 dk th ts kp sd off n c off2 n2 c2 e0 l e1 q e2) =
  bif (decide (((n2 : Nat) : Int) > 150)) then
    none
  else
    bif (decide (((n2 : Nat) : Int) > 0)) then
      none
    else
      some (.stop (LgS4 dk th ts kp sd off n c off2 n2 c2 e0 l e1 q e2)) := by kernel_rfl
theorem LgW5 : LgEA BLg [1, 2, 3, 7] [1, 0, 1] (some [1, 1, 1, 1]) [false, true] (LgS2 dk th ts kp sd off n c off2 n2 c2 e0 l e1 q e2) =
  bif (decide (((n2 : Nat) : Int) > 150)) then
    none
  else
    bif (decide (((n2 : Nat) : Int) > 0)) then
      if (0 : Int) ≤ 0 ∧ 0 < ((n2 : Nat) : Int) then
        bif (Nat.ble off2 (off2 + 0)) then
          obind (q[((off2 + 0) - off2)]?) fun zn1 =>
            some (.stop ⟨(frameL 98 [(1, (.slice (some ⟨1, off, none⟩) n c)), (2, (.slice (some ⟨2, off2, none⟩) n2 c2)), (3, (.pointer (some ⟨3, 0, none⟩))), (7, (.int .u64 (Int.tmod zn1 8)))]), ⟨4, 1, [(3, 0, .cells [(.int .u64 dk), (.int .i64 th), (.int .i64 ts), (.int .i64 kp), (.int .u64 sd)] 24 true), (0, 0, .cells [(.int .i64 1), (.int .i64 64), (.int .i64 1), (.int .i64 64)] e0 false), (1, 0, .tail off .u64 l e1), (2, 0, .tail off2 .u64 q e2)]⟩⟩)
        else
          none
      else
        none
    else
      none := by kernel_rfl
noncomputable def LgS5 : KSt := ⟨(frameL 98 [(1, (.slice (some ⟨1, off, none⟩) n c)), (2, (.slice (some ⟨2, off2, none⟩) n2 c2)), (3, (.pointer (some ⟨3, 0, none⟩))), (7, (.int .u64 (Int.tmod (q.getD 0 0) 8)))]), ⟨4, 1, [(3, 0, (LgO1 dk th ts kp sd)), (0, 0, (LgO0 e0)), (1, 0, .tail off .u64 l e1), (2, 0, .tail off2 .u64 q e2)]⟩⟩
noncomputable def LgS6 : KSt := ⟨(frameL 98 [(1, (.slice (some ⟨1, off, none⟩) n c)), (2, (.slice (some ⟨2, off2, none⟩) n2 c2)), (3, (.pointer (some ⟨3, 0, none⟩))), (7, (.int .u64 bb))]), ⟨4, 1, [(3, 0, (LgO1 dk th ts kp sd)), (0, 0, (LgO0 e0)), (1, 0, .tail off .u64 l e1), (2, 0, .tail off2 .u64 q e2)]⟩⟩
theorem LgW6 : LgEA (codeAt [1, 1, 1, 1] BLg) [1, 2, 3, 7, 8, 9] [] (some [1]) [] (LgS6 dk th ts kp sd off n c off2 n2 c2 e0 l e1 q e2 bb) =
  bif (Nat.ble off off) then
    bif (Nat.ble ((off - off) + n) (List.length l)) then
      bif ((siteP dk th ts kp) && ((Nat.ble (List.length (List.take n (List.drop (off - off) l))) 900) && (Nat.beq (List.length ([bb] : List Int)) 1))) then
        bif (Nat.ble off off) then
          bif (Nat.ble ((off - off) + n) (List.length l)) then
            bif ((siteP dk th ts kp) && (Nat.ble (List.length (List.take n (List.drop (off - off) l))) 900)) then
              some (.stop ⟨(frameL 98 [(1, (.slice (some ⟨1, off, none⟩) n c)), (2, (.slice (some ⟨2, off2, none⟩) n2 c2)), (3, (.pointer (some ⟨3, 0, none⟩))), (7, (.int .u64 bb)), (8, (.pointer (some ⟨4, 0, none⟩))), (9, (.pointer (some ⟨5, 0, none⟩)))]), ⟨6, 1, [(5, 0, .mach (.retire (rtLook (SiteSt.mk dk th ts kp sd) (List.take n (List.drop (off - off) l))))), (4, 0, .mach (.retire (rtNew (SiteSt.mk dk th ts kp sd) (List.take n (List.drop (off - off) l)) (List.getD ([bb] : List Int) 0 0)))), (3, 0, .cells [(.int .u64 dk), (.int .i64 th), (.int .i64 ts), (.int .i64 kp), (.int .u64 sd)] 24 true), (0, 0, .cells [(.int .i64 1), (.int .i64 64), (.int .i64 1), (.int .i64 64)] e0 false), (1, 0, .tail off .u64 l e1), (2, 0, .tail off2 .u64 q e2)]⟩⟩)
            else
              none
          else
            none
        else
          none
      else
        none
    else
      none
  else
    none := by kernel_rfl
noncomputable def LgS7 : KSt := ⟨(frameL 98 [(1, (.slice (some ⟨1, off, none⟩) n c)), (2, (.slice (some ⟨2, off2, none⟩) n2 c2)), (3, (.pointer (some ⟨3, 0, none⟩))), (7, (.int .u64 bb)), (8, (.pointer (some ⟨4, 0, none⟩))), (9, (.pointer (some ⟨5, 0, none⟩)))]), ⟨6, 1, [(5, 0, .mach (.retire (rtLook (SiteSt.mk dk th ts kp sd) (List.take n l)))), (4, 0, .mach (.retire (rtNew (SiteSt.mk dk th ts kp sd) (List.take n l) bb))), (3, 0, (LgO1 dk th ts kp sd)), (0, 0, (LgO0 e0)), (1, 0, .tail off .u64 l e1), (2, 0, .tail off2 .u64 q e2)]⟩⟩
theorem LgW7 : LgEA (codeAt [1, 1, 1, 1] BLg) [6] [1] none [false] (LgS7 dk th ts kp sd off n c off2 n2 c2 e0 l e1 q e2 bb) =
  bif (!(rightRV dk th ts kp)) then
    none
  else
    bif (Nat.ble n c) then
      bif (Nat.ble off off) then
        bif (Nat.ble ((off - off) + n) (List.length l)) then
          bif (Nat.ble n2 c2) then
            bif (Nat.ble off2 off2) then
              bif (Nat.ble ((off2 - off2) + n2) (List.length q)) then
                bif (actsP false (List.take n2 (List.drop (off2 - off2) q)) dk th ts kp (List.take n (List.drop (off - off) l)) bb (rtNew (SiteSt.mk dk th ts kp sd) (List.take n l) bb)) then
                  bif (Nat.ble n c) then
                    bif (Nat.ble off off) then
                      bif (Nat.ble ((off - off) + n) (List.length l)) then
                        bif (Nat.ble n2 c2) then
                          bif (Nat.ble off2 off2) then
                            bif (Nat.ble ((off2 - off2) + n2) (List.length q)) then
                              bif (actsP true (List.take n2 (List.drop (off2 - off2) q)) dk th ts kp (List.take n (List.drop (off - off) l)) 0 (rtLook (SiteSt.mk dk th ts kp sd) (List.take n l))) then
                                some (.fin .ret (LgS3 off off2 e0 l e1 q e2))
                              else
                                none
                            else
                              none
                          else
                            none
                        else
                          none
                      else
                        none
                    else
                      none
                  else
                    none
                else
                  none
              else
                none
            else
              none
          else
            none
        else
          none
      else
        none
    else
      none := by kernel_rfl
end
theorem Lgl1 {n off off2 : Nat} {e0 : TypeId} {l : List Int} {e1 : TypeId} {q : List Int} {e2 : TypeId} {dk th ts kp sd : Int} {c n2 c2 : Nat} (hn : ¬ n ≤ 70)   {Q : Ex → St → Prop} (hq : Q .ret (KSt.low (LgS3 off off2 e0 l e1 q e2))) : Gets Tryd.prog (LgH e0 off l e1 off2 q e2) BLg (KSt.low (LgS0 dk th ts kp sd off n c off2 n2 c2 e0 l e1 q e2)) Q := by
  refine AtW.gets ?_
  refine Lgto_ ((LgW1 ..).trans (by rw [dT])) ?_
  exact Lgfi_ (LgW2 ..) hq
theorem Lgl2 {n n2 off off2 : Nat} {e0 : TypeId} {l : List Int} {e1 : TypeId} {q : List Int} {e2 : TypeId} {dk th ts kp sd : Int} {c c2 : Nat} (hn : n ≤ 70) (hn2 : ¬ n2 ≤ 150)   {Q : Ex → St → Prop} (hq : Q .ret (KSt.low (LgS3 off off2 e0 l e1 q e2))) : Gets Tryd.prog (LgH e0 off l e1 off2 q e2) BLg (KSt.low (LgS0 dk th ts kp sd off n c off2 n2 c2 e0 l e1 q e2)) Q := by
  refine AtW.gets ?_
  refine Lgto_ ((LgW1 ..).trans (by rw [dF])) ?_
  exact Lgfi_ ((LgW3 ..).trans (by rw [dT])) hq
theorem Lgz {n n2 : Nat} {e0 : TypeId} {off : Nat} {l : List Int} {e1 : TypeId} {off2 : Nat} {q : List Int} {e2 : TypeId} {dk th ts kp sd : Int} {c c2 : Nat} (hn : n ≤ 70) (hn2 : n2 ≤ 150) (hz : n2 = 0)   {Q : Ex → St → Prop} (hq : Gets Tryd.prog (LgH e0 off l e1 off2 q e2) (codeAt [1, 1, 1, 1] BLg) (KSt.low (LgS4 dk th ts kp sd off n c off2 n2 c2 e0 l e1 q e2)) (Q)) : Gets Tryd.prog (LgH e0 off l e1 off2 q e2) BLg (KSt.low (LgS0 dk th ts kp sd off n c off2 n2 c2 e0 l e1 q e2)) Q := by
  refine AtW.gets ?_
  refine Lgto_ ((LgW1 ..).trans (by rw [dF])) ?_
  refine Lgto_ ((LgW4 ..).trans (by rw [dF, dF])) ?_
  exact AtW.place hq
theorem Lgp {q : List Int} {c2 n2 n : Nat} {e0 : TypeId} {off : Nat} {l : List Int} {e1 : TypeId} {off2 : Nat} {e2 : TypeId} {dk th ts kp sd : Int} {c : Nat} (hlq : q.length = c2) (hc2 : n2 ≤ c2) (hn : n ≤ 70) (hn2 : n2 ≤ 150) (hz : 1 ≤ n2)   {Q : Ex → St → Prop} (hq : Gets Tryd.prog (LgH e0 off l e1 off2 q e2) (codeAt [1, 1, 1, 1] BLg) (KSt.low (LgS5 dk th ts kp sd off n c off2 n2 c2 e0 l e1 q e2)) (Q)) : Gets Tryd.prog (LgH e0 off l e1 off2 q e2) BLg (KSt.low (LgS0 dk th ts kp sd off n c off2 n2 c2 e0 l e1 q e2)) Q := by
  refine AtW.gets ?_
  refine Lgto_ ((LgW1 ..).trans (by rw [dF])) ?_
  refine Lgto_ (s' := (LgS5 dk th ts kp sd off n c off2 n2 c2 e0 l e1 q e2)) ((LgW5 ..).trans (by rw [dF, dT, iP, lT, oA 0] <;> rfl)) ?_
  exact AtW.place hq
theorem Lgg {l : List Int} {c n : Nat} {q : List Int} {c2 n2 : Nat} {dk th ts kp bb sd : Int} {off off2 : Nat} {e0 e1 e2 : TypeId} (hl : l.length = c) (hc : n ≤ c) (hlq : q.length = c2) (hc2 : n2 ≤ c2) (hn : n ≤ 70) (hn2 : n2 ≤ 150) (hr : rightRV dk th ts kp = true) (hs : siteP dk th ts kp = true) (hA1 : actsP false (List.take n2 q) dk th ts kp (List.take n l) bb (rtNew (SiteSt.mk dk th ts kp sd) (List.take n l) bb) = true) (hA2 : actsP true (List.take n2 q) dk th ts kp (List.take n l) 0 (rtLook (SiteSt.mk dk th ts kp sd) (List.take n l)) = true)   {Q : Ex → St → Prop} (hq : Q .ret (KSt.low (LgS3 off off2 e0 l e1 q e2))) : Gets Tryd.prog (LgH e0 off l e1 off2 q e2) (codeAt [1, 1, 1, 1] BLg) (KSt.low (LgS6 dk th ts kp sd off n c off2 n2 c2 e0 l e1 q e2 bb)) Q := by
  refine AtW.gets ?_
  refine Lgto_ (s' := (LgS7 dk th ts kp sd off n c off2 n2 c2 e0 l e1 q e2 bb)) ((LgW6 ..).trans (by rw [lT, lT2, condT (and_t (hs) (and_t (by rw [List.length_take]; exact ble_t (by omega)) (show (Nat.beq (List.length ([bb] : List Int)) 1) = true from rfl))), lT, lT2, condT (and_t (hs) (by rw [List.length_take]; exact ble_t (by omega))), (show (List.take n (List.drop (off - off) l)) = (List.take n l) from by rw [Nat.sub_self, List.drop_zero]), (show (List.getD ([bb] : List Int) 0 0) = bb from rfl)] <;> rfl)) ?_
  exact Lgfi_ ((LgW7 ..).trans (by rw [condF (not_f (hr)), lT, lT, lT2, lT, lT, lT2, condT (by simp only [Nat.sub_self, List.drop_zero]; exact hA1), lT, lT, lT2, lT, lT, lT2, condT (by simp only [Nat.sub_self, List.drop_zero]; exact hA2)])) hq
noncomputable def BLb : Code := bodyOf Tryd.prog 3
noncomputable abbrev LbH (e0 : TypeId) (off : Nat) (l : List Int) (e1 : TypeId) (off2 : Nat) (q : List Int) (e2 : TypeId) : AH := (KH.low ⟨3, 1, [(0, 0, .cells [(.int .i64 1), (.int .i64 64), (.int .i64 1), (.int .i64 64)] e0 false), (1, 0, .tail off .u64 l e1), (2, 0, .tail off2 .u64 q e2)]⟩)
noncomputable abbrev LbEA (c : Code) (lv p : List Nat) (st : Option (List Nat)) (ws : List Bool) (s : KSt) : Option Rs := evA (evCK Tryd.prog cfgP (runK Tryd.prog cfgP fsP (conTk lbDom (rcK varL lbT)) 40 40) 40) (stopW 3 lv) p c st ws s (finW 3 lv)
theorem Lbto_ {c_ : Code} {lv_ p_ p2_ : List Nat} {ws_ : List Bool} {st_ s' : KSt} {Q : Ex → St → Prop} {e0 : TypeId} {off : Nat} {l : List Int} {e1 : TypeId} {off2 : Nat} {q : List Int} {e2 : TypeId} (hE_ : LbEA c_ lv_ p_ (some p2_) ws_ st_ = some (.stop s')) (hq_ : AtW Tryd.prog (LbH e0 off l e1 off2 q e2) c_ p2_ s' Q) (hok_ : okCode Tryd.prog.globals.size c_ = true := by kernel_rfl) : AtW Tryd.prog (LbH e0 off l e1 off2 q e2) c_ p_ st_ Q := AtW.to fitP lb_sound (rc_agree _ _ _) 40 40 hok_ hE_ hq_
theorem Lbfi_ {c_ : Code} {lv_ p_ : List Nat} {ws_ : List Bool} {st_ s' : KSt} {x : Ex} {Q : Ex → St → Prop} {e0 : TypeId} {off : Nat} {l : List Int} {e1 : TypeId} {off2 : Nat} {q : List Int} {e2 : TypeId} (hE_ : LbEA c_ lv_ p_ none ws_ st_ = some (.fin x s')) (hq_ : Q x s'.low) (hok_ : okCode Tryd.prog.globals.size c_ = true := by kernel_rfl) : AtW Tryd.prog (LbH e0 off l e1 off2 q e2) c_ p_ st_ Q := AtW.fin fitP lb_sound (rc_agree _ _ _) 40 40 hok_ hE_ hq_
section
variable (off n c off2 n2 c2 : Nat) (bb dk th ts kp sd : Int) (e0 : TypeId) (l : List Int) (e1 : TypeId) (q : List Int) (e2 : TypeId)
noncomputable def LbS0 : KSt := ⟨(frameL 98 [(1, (.slice (some ⟨1, off, none⟩) n c)), (2, (.slice (some ⟨2, off2, none⟩) n2 c2)), (3, (.pointer (some ⟨3, 0, none⟩))), (7, (.int .u64 bb))]), ⟨4, 1, [(3, 0, .cells [(.int .u64 dk), (.int .i64 th), (.int .i64 ts), (.int .i64 kp), (.int .u64 sd)] 24 true), (0, 0, .cells [(.int .i64 1), (.int .i64 64), (.int .i64 1), (.int .i64 64)] e0 false), (1, 0, .tail off .u64 l e1), (2, 0, .tail off2 .u64 q e2)]⟩⟩
noncomputable def LbS1 : KSt := ⟨(frameL 98 [(1, (.slice (some ⟨1, off, none⟩) n c)), (2, (.slice (some ⟨2, off2, none⟩) n2 c2)), (3, (.pointer (some ⟨3, 0, none⟩))), (7, (.int .u64 bb)), (8, (.pointer (some ⟨4, 0, none⟩))), (9, (.pointer (some ⟨5, 0, none⟩)))]), ⟨6, 1, [(5, 0, .cells [(.int .u64 0), (.int .i64 0), (.int .i64 0), (.int .i64 0), (.int .u64 0), (.bool false), (.bool false), (.int .i64 0), (.slice none 0 0), (.int .i64 0), (.map none), (.slice none 0 0)] 55 true), (4, 0, .cells [(.int .u64 0), (.int .i64 0), (.int .i64 0), (.int .i64 0), (.int .u64 0), (.bool false), (.bool false), (.int .i64 0), (.slice none 0 0), (.int .i64 0), (.map none), (.slice none 0 0)] 55 true), (3, 0, .cells [(.int .u64 dk), (.int .i64 th), (.int .i64 ts), (.int .i64 kp), (.int .u64 sd)] 24 true), (0, 0, .cells [(.int .i64 1), (.int .i64 64), (.int .i64 1), (.int .i64 64)] e0 false), (1, 0, .tail off .u64 l e1), (2, 0, .tail off2 .u64 q e2)]⟩⟩
theorem LbW1 : LbEA (codeAt [1, 1, 1, 1] BLb) [1, 2, 3, 7, 8, 9] [] (some [1]) [] (LbS0 off n c off2 n2 c2 bb dk th ts kp sd e0 l e1 q e2) =
  bif (!(rightV dk th ts kp)) then
    bif (bb != 0) then
      bif (!(rightV dk th ts kp)) then
        some (.stop (LbS1 off n c off2 n2 c2 bb dk th ts kp sd e0 l e1 q e2))
      else
        none
    else
      bif (!(rightV dk th ts kp)) then
        some (.stop (LbS1 off n c off2 n2 c2 bb dk th ts kp sd e0 l e1 q e2))
      else
        none
  else
    none := by kernel_rfl
noncomputable def LbS2 : KSt := ⟨(frameL 98 [(6, (.bool true))]), ⟨3, 1, [(0, 0, .cells [(.int .i64 1), (.int .i64 64), (.int .i64 1), (.int .i64 64)] e0 false), (1, 0, .tail off .u64 l e1), (2, 0, .tail off2 .u64 q e2)]⟩⟩
theorem LbW2 : LbEA (codeAt [1, 1, 1, 1] BLb) [6] [1] none [true] (LbS1 off n c off2 n2 c2 bb dk th ts kp sd e0 l e1 q e2) =
  bif (!(rightRV dk th ts kp)) then
    some (.fin .ret (LbS2 off off2 e0 l e1 q e2))
  else
    none := by kernel_rfl
end
theorem Lbz {dk th ts kp bb : Int} {off off2 : Nat} {e0 : TypeId} {l : List Int} {e1 : TypeId} {q : List Int} {e2 : TypeId} {n c n2 c2 : Nat} {sd : Int} (hr : rightRV dk th ts kp = false) (hv : rightV dk th ts kp = false) (hz : bb = 0)   {Q : Ex → St → Prop} (hq : Q .ret (KSt.low (LbS2 off off2 e0 l e1 q e2))) : Gets Tryd.prog (LbH e0 off l e1 off2 q e2) (codeAt [1, 1, 1, 1] BLb) (KSt.low (LbS0 off n c off2 n2 c2 bb dk th ts kp sd e0 l e1 q e2)) Q := by
  refine AtW.gets ?_
  refine Lbto_ ((LbW1 ..).trans (by rw [condT (not_t (hv)), nF, condT (not_t (hv))])) ?_
  exact Lbfi_ ((LbW2 ..).trans (by rw [condT (not_t (hr))])) hq
theorem Lbp {dk th ts kp bb : Int} {off off2 : Nat} {e0 : TypeId} {l : List Int} {e1 : TypeId} {q : List Int} {e2 : TypeId} {n c n2 c2 : Nat} {sd : Int} (hr : rightRV dk th ts kp = false) (hv : rightV dk th ts kp = false) (hz : ¬ bb = 0)   {Q : Ex → St → Prop} (hq : Q .ret (KSt.low (LbS2 off off2 e0 l e1 q e2))) : Gets Tryd.prog (LbH e0 off l e1 off2 q e2) (codeAt [1, 1, 1, 1] BLb) (KSt.low (LbS0 off n c off2 n2 c2 bb dk th ts kp sd e0 l e1 q e2)) Q := by
  refine AtW.gets ?_
  refine Lbto_ ((LbW1 ..).trans (by rw [condT (not_t (hv)), nT, condT (not_t (hv))])) ?_
  exact Lbfi_ ((LbW2 ..).trans (by rw [condT (not_t (hr))])) hq
noncomputable def QL : Ex → St → Prop := Eng.Ends Tryd.prog Tryd.f3.results.toList fun r _ => r = .bool true
theorem qL {s : KSt} (h : resL Tryd.prog s.low Tryd.f3.results.toList = some [.bool true]) : QL .ret s.low := Ends.of h rfl
theorem rest (dk th ts kp sd : Int) (off n c : Nat) (l : List Int) (e1 : TypeId) (off2 n2 c2 : Nat) (q : List Int) (e2 : TypeId) (e0 : TypeId) (bb : Int) (h0 : 0 ≤ dk) (hl : l.length = c) (hc : n ≤ c) (hlq : q.length = c2) (hc2 : n2 ≤ c2) (hn : n ≤ 70) (hn2 : n2 ≤ 150) : Gets Tryd.prog (KH.low ⟨3, 1, [(0, 0, .cells [(.int .i64 1), (.int .i64 64), (.int .i64 1), (.int .i64 64)] e0 false), (1, 0, .tail off .u64 l e1), (2, 0, .tail off2 .u64 q e2)]⟩) (codeAt [1, 1, 1, 1] BLg) (KSt.low (LgS6 dk th ts kp sd off n c off2 n2 c2 e0 l e1 q e2 bb)) QL := by
  cases hr : rightV dk th ts kp with
  | true =>
    have hr2 : rightRV dk th ts kp = true := by rw [rightRV_eq h0]; exact hr
    have hs : siteP dk th ts kp = true := by
      have h := hr
      unfold rightV at h
      have h := of_decide_eq_true h
      exact siteP_t h.1 h.2.1 h.2.2.1 h.2.2.2.1 h.2.2.2.2.1 h.2.2.2.2.2.1 h.2.2.2.2.2.2
    have m1 : (List.take n l).length ≤ 900 := by rw [List.length_take]; omega
    have m2 : (List.take n2 q).length ≤ 900 := by rw [List.length_take]; omega
    exact Lgg hl hc hlq hc2 hn hn2 hr2 hs (actsP_new (S := ⟨dk, th, ts, kp, sd⟩) hs m1 m2) (actsP_lk (S := ⟨dk, th, ts, kp, sd⟩) hs m1 m2) (qL (by kernel_rfl))
  | false =>
    have hr2 : rightRV dk th ts kp = false := by rw [rightRV_eq h0]; exact hr
    have hB : (codeAt [1, 1, 1, 1] BLg) = (codeAt [1, 1, 1, 1] BLb) := rfl
    have hS : (LgS6 dk th ts kp sd off n c off2 n2 c2 e0 l e1 q e2 bb) = (LbS0 off n c off2 n2 c2 bb dk th ts kp sd e0 l e1 q e2) := rfl
    rw [hB, hS]
    by_cases hz : bb = 0
    · exact Lbz hr2 hr hz (qL (by kernel_rfl))
    · exact Lbp hr2 hr hz (qL (by kernel_rfl))
theorem told (dk th ts kp sd : Int) (off n c : Nat) (l : List Int) (e1 : TypeId) (off2 n2 c2 : Nat) (q : List Int) (e2 : TypeId) (e0 : TypeId) (h0 : 0 ≤ dk) (hl : l.length = c) (hc : n ≤ c) (hlq : q.length = c2) (hc2 : n2 ≤ c2) : Tells Tryd.prog 3 [(.agg #[(.int .u64 dk), (.int .i64 th), (.int .i64 ts), (.int .i64 kp), (.int .u64 sd)]), (.slice (some ⟨1, off, none⟩) n c), (.slice (some ⟨2, off2, none⟩) n2 c2)] (mkH [.cells [(.int .i64 1), (.int .i64 64), (.int .i64 1), (.int .i64 64)] e0 false, .tail off .u64 l e1, .tail off2 .u64 q e2]).low (.bool true) := by
  refine Gets.tells Tryd.func3 BLg_is (by rw [oneVar]; exact (show (1 : Nat) ≤ 3 by decide)) rfl ?_ (Ro.rows rfl)
  show Gets Tryd.prog (KH.low ⟨3, 1, [(0, 0, .cells [(.int .i64 1), (.int .i64 64), (.int .i64 1), (.int .i64 64)] e0 false), (1, 0, .tail off .u64 l e1), (2, 0, .tail off2 .u64 q e2)]⟩) BLg (KSt.low (LgS0 dk th ts kp sd off n c off2 n2 c2 e0 l e1 q e2)) QL
  by_cases hn : n ≤ 70
  rotate_left
  · exact Lgl1 hn (qL (by kernel_rfl))
  by_cases hn2 : n2 ≤ 150
  rotate_left
  · exact Lgl2 hn hn2 (qL (by kernel_rfl))
  by_cases hz : 1 ≤ n2
  · refine Lgp hlq hc2 hn hn2 hz ?_
    exact rest dk th ts kp sd off n c l e1 off2 n2 c2 q e2 e0 (Int.tmod (q.getD 0 0) 8) h0 hl hc hlq hc2 hn hn2
  · refine Lgz hn hn2 (by omega) ?_
    exact rest dk th ts kp sd off n c l e1 off2 n2 c2 q e2 e0 0 h0 hl hc hlq hc2 hn hn2
theorem own : ownKnob Tryd.prog.godebug = none := by kernel_rfl
theorem door_met (os : Os) (args : Array Value) : laidMetH Tryd.prog laidV ((World.doorLaid Tryd.prog 400 os).forCall (fun _ _ => 0) ⟨#[], args, []⟩).memory :=
  laidMetH_of_parts3 (fuel := 8) (laidMet_of_run' 8 (by kernel_rfl) (by kernel_rfl)) (by kernel_rfl) (by kernel_rfl)
theorem lifted (os : Os) (started : os.Started) (H : Type) (enc : TypeId × Value → H) :
    ReturnsInHanded {} Tryd.checked os 3 .any (fun w args => (Rows.retireActsSpec.pre enc Tryd.prog Tryd.f3 [] false w args ∧ laidMetH Tryd.prog laidV w) ∧ sizedMet enc Tryd.prog Tryd.f3 (OpenSpec.ofChange Rows.retireActsSpec) false w args)
      (Rows.retireActsSpec.post enc Tryd.prog Tryd.f3 false true false false) := by
  refine returnsInHanded_of_change_and (C := Tryd.checked) (X := fun w _ => laidMetH Tryd.prog laidV w) (fun _ _ _ hh h => h.of_heap hh) own started (by kernel_rfl) Tryd.func3
    (ChangeSpec.witness_shaped (enc := enc) (C := Tryd.checked) (os := os) (X := fun w _ => laidMetH Tryd.prog laidV w) false (World.doorLaid Tryd.prog 400 os) #[.agg #[.int .u64 0, .int .i64 0, .int .i64 0, .int .i64 0, .int .u64 0], .slice none 0 0, .slice none 0 0] 8 rfl (World.shaped_of_RefB (by kernel_rfl) (by kernel_rfl)) (by kernel_rfl) (by kernel_rfl) (by kernel_rfl) (door_met os _)) ?_
  intro W base args ds gs before hval0 hW hcnd hsz0 hL _
  have hvar := bounds_cells hL
  have hval : ∀ (j : Nat) t v, Tryd.f3.params[j]? = some t → args[j]? = some v → Value.okWide Tryd.prog W .any base t v := hval0
  have hW' := hW
  obtain ⟨p, q, hA0, hV, rfl, hfz, hnd⟩ := hW
  have hA : DataW.TrodAll enc Tryd.prog W 0 (fun _ => true) true Tryd.f3.params.toList args.toList ds p := hA0
  rw [Tryd.params3] at hA hval
  have hS := hA
  obtain ⟨v0, vs0, d0, ds0, p0, q0, hargs, rfl, rfl, h0, r0⟩ := trodAll_cons hA
  obtain ⟨v1, vs1, d1, ds1, p1, q1, rfl, rfl, rfl, h1, r1⟩ := trodAll_cons r0
  obtain ⟨v2, vs2, d2, ds2, p2, q2, rfl, rfl, rfl, h2, r2⟩ := trodAll_cons r1
  obtain ⟨rfl, rfl, rfl⟩ := trodAll_nil r2
  obtain rfl : args = #[v0, v1, v2] := by cases args; simp_all
  obtain ⟨rfl, rfl⟩ := trodVars_none hV
  suffices hc : Calls Tryd.prog 3 #[v0, v1, v2] W fun e W' => e = .returned (.bool true) ∧ Below W.heap.size W W' by
    refine hc.mono fun e W' ⟨he, bel⟩ => ?_
    subst he
    exact ⟨_, rfl, _, _, _, [], _, [], hW', trodAll_mk1 (shut_bool Tryd.underlying4 _), trodAll_stays fineA bel (by decide +kernel) hS, rfl, bel.frame _, fun h => by cases h⟩
  clear hS hW' hfz hnd
  obtain ⟨cs0, rfl, hl0, hc0⟩ := open_agg (ts := [22, 3, 3, 3, 22]) (by kernel_rfl) (by kernel_rfl) (by kernel_rfl) (hval 0 24 v0 rfl rfl)
  obtain ⟨x0_0, cs0_0, rfl, hl0_0⟩ := list_succ hl0
  obtain ⟨x0_1, cs0_1, rfl, hl0_1⟩ := list_succ hl0_0
  obtain ⟨x0_2, cs0_2, rfl, hl0_2⟩ := list_succ hl0_1
  obtain ⟨x0_3, cs0_3, rfl, hl0_3⟩ := list_succ hl0_2
  obtain ⟨x0_4, cs0_4, rfl, hl0_4⟩ := list_succ hl0_3
  obtain rfl := list_zero hl0_4
  obtain ⟨a0_0, rfl, w0_0⟩ := cell_int (k := .u64) Tryd.underlying22 (hc0 0 _ _ rfl rfl)
  obtain ⟨a0_1, rfl, w0_1⟩ := cell_int (k := .i64) Tryd.underlying3 (hc0 1 _ _ rfl rfl)
  obtain ⟨a0_2, rfl, w0_2⟩ := cell_int (k := .i64) Tryd.underlying3 (hc0 2 _ _ rfl rfl)
  obtain ⟨a0_3, rfl, w0_3⟩ := cell_int (k := .i64) Tryd.underlying3 (hc0 3 _ _ rfl rfl)
  obtain ⟨a0_4, rfl, w0_4⟩ := cell_int (k := .u64) Tryd.underlying22 (hc0 4 _ _ rfl rfl)
  have o1 := Go.Eng.open_row Tryd.underlying25 Tryd.underlying22 (by kernel_rfl) (hval 1 25 v1 rfl rfl) h1
  have o2 := Go.Eng.open_row Tryd.underlying25 Tryd.underlying22 (by kernel_rfl) (hval 2 25 v2 rfl rfl) h2
  obtain ⟨_, cs0, eb, fr0, hw0, hcs0⟩ := Go.Eng.cells_row (by decide) hvar
  have hfb : ∃ cs e fr, W.heap[0]? = some (.cells cs e fr) := ⟨cs0, eb, fr0, hw0⟩
  obtain ⟨b1, off, n, c, l, e1, hr1, hl, hle, hmx, hwf, hR1⟩ := Go.Eng.row_open (P := Tryd.prog) hfb o1
  obtain ⟨b2, off2, n2, c2, q, e2, hr2, hq, hle2, hmx2, hwf2, hR2⟩ := Go.Eng.row_open (P := Tryd.prog) hfb o2
  have hS := Go.Eng.Sim.rows (P := Tryd.prog) W [(0, .cells (intCells .i64 [1, 64, 1, 64]) eb false), (b1, .tail off .u64 l e1), (b2, .tail off2 .u64 q e2)] (fun g hg => by
    rw [oneVar] at hg
    have : g = 0 := Nat.lt_one_iff.1 hg
    subst this; rfl) (fun r hr => by
    simp only [List.mem_cons, List.not_mem_nil, or_false] at hr
    rcases hr with rfl | rfl | rfl
    · exact ⟨rfl, _, hw0, fun ρ => cells_robj hcs0⟩
    · exact ⟨rfl, hr1.robj (P := Tryd.prog) (fun v hv => by obtain ⟨n, _, rfl⟩ := List.mem_map.1 hv; rfl) rfl⟩
    · exact ⟨rfl, hr2.robj (P := Tryd.prog) (fun v hv => by obtain ⟨n, _, rfl⟩ := List.mem_map.1 hv; rfl) rfl⟩)
  exact told a0_0 a0_1 a0_2 a0_3 a0_4 off n c l e1 off2 n2 c2 q e2 eb (has_u64 w0_0).1 hl hle hq hle2 _ W _ (.cons (.of_plain rfl) (.cons (hR1 _ 1 rfl) (.cons (hR2 _ 2 rfl) (.nil _)))) hS
theorem over : Rows.retireActsRow.holds Tryd.pinned (OpenSpec.ofChange Rows.retireActsSpec) :=
  OpenClaim.holds_of_wide 3 Tryd.f3 rfl rfl rfl rfl rfl rfl rfl ⟨rfl, rfl, rfl, rfl, rfl⟩ rfl rfl rfl rfl rfl (by kernel_rfl) Tryd.func3 (by kernel_rfl)
    (of_decide_eq_true (by kernel_rfl)) (by unfold Func.isWrapper; first | (rw [if_pos (by decide +kernel)]; kernel_rfl) | (rw [if_neg (by decide +kernel)]; exact ⟨rfl, rfl⟩))
    (fun os started H enc _ => lifted os started H enc)
end Go.Proofs.YtfhfbbhoppnbiaaDoor.retireActs
namespace Go.Proofs.YtfhfbbhoppnbiaaDoor
theorem retireActs_holds : Rows.RetireActsCardSaid :=
  Claim7.holds_tied_plain_at .later [] [.data] true (true, "80ad640ccfb8691687907d513bc9c639172fcb885c07e86386dfb090205ba3e4") false
    retireActs.over (fun _ h => by cases h) (by kernel_rfl) (fun _ h => by cases h) retireActs_row_tie rfl ⟨rfl, rfl⟩ (by kernel_rfl) rfl
    (fun f fn hf hfn => by
      obtain rfl : f = 3 := Option.some.inj ((show Tryd.prog.funcNamed "sprocket/sprocketlaw24.RetireActs" = some 3 by kernel_rfl).symm.trans hf) |>.symm
      obtain rfl : fn = Tryd.f3 := (Option.some.inj (Tryd.func3.symm.trans hfn)).symm
      exact ⟨by kernel_rfl, fun j t ht => by
        rw [Tryd.params3] at ht
        have hm : t ∈ [24, 25, 25] := by simpa using Array.mem_of_getElem? ht
        have hall : ([24, 25, 25].all fun u => !Tryd.prog.wantsStandIn u) = true := by kernel_rfl
        exact (show Tryd.prog.wantsStandIn t = false by simpa using List.all_eq_true.1 hall t hm)⟩)
    (by kernel_rfl)
#print axioms retireActs_holds
end Go.Proofs.YtfhfbbhoppnbiaaDoor
