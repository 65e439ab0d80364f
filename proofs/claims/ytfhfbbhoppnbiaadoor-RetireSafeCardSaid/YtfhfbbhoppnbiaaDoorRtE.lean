import Derived.Test.YtfhfbbhoppnbiaaDoorRtD
import Derived.WalkKit
import Derived.ProofKit
import Derived.OpenShut
import Derived.ChangeOld
import Derived.Below
import Derived.SizedLaws
namespace Go.Proofs.YtfhfbbhoppnbiaaDoor
open Go.Eng
open Go.ChangeShapes Go.WideShapes Go.ChangeAt Go.RowKit
set_option linter.unusedVariables false
set_option linter.unusedSimpArgs false
set_option maxRecDepth 100000
noncomputable def cfgE : Cfg := ⟨[]⟩
noncomputable def fsE : List FuncId := [8, 22, 23, 40]
theorem fitE : Fit Tryd.prog cfgE fsE := ⟨by kernel_rfl, Cfg.ok_of (by kernel_rfl), by kernel_rfl⟩
noncomputable def BLa : Code := bodyOf Tryd.prog 8
theorem BLa_is : Tryd.f8.body = some BLa := by kernel_rfl
noncomputable abbrev LaH (e : TypeId) (off : Nat) (l : List Int) (g_ : TypeId) : AH := (KH.low ⟨2, 1, [(0, 0, .cells [(.int .i64 1), (.int .i64 64), (.int .i64 1), (.int .i64 64)] e false), (1, 0, .tail off .u64 l g_)]⟩)
noncomputable abbrev LaEA (c : Code) (lv p : List Nat) (st : Option (List Nat)) (ws : List Bool) (s : KSt) : Option Rs := evA (evCK Tryd.prog cfgE (runK Tryd.prog cfgE fsE (conTk clADom (rcK varL clAT)) 14 40) 14) (stopW 2 lv) p c st ws s (finW 2 lv)
theorem Lato {c_ : Code} {lv_ p_ p2_ : List Nat} {ws_ : List Bool} {st_ s' : KSt} {Q : Ex → St → Prop} {e : TypeId} {off : Nat} {l : List Int} {g_ : TypeId} (hE_ : LaEA c_ lv_ p_ (some p2_) ws_ st_ = some (.stop s')) (hq_ : AtW Tryd.prog (LaH e off l g_) c_ p2_ s' Q) (hok_ : okCode Tryd.prog.globals.size c_ = true := by kernel_rfl) : AtW Tryd.prog (LaH e off l g_) c_ p_ st_ Q := AtW.to fitE clA_sound (rc_agree _ _ _) 14 40 hok_ hE_ hq_
theorem Lafi {c_ : Code} {lv_ p_ : List Nat} {ws_ : List Bool} {st_ s' : KSt} {x : Ex} {Q : Ex → St → Prop} {e : TypeId} {off : Nat} {l : List Int} {g_ : TypeId} (hE_ : LaEA c_ lv_ p_ none ws_ st_ = some (.fin x s')) (hq_ : Q x s'.low) (hok_ : okCode Tryd.prog.globals.size c_ = true := by kernel_rfl) : AtW Tryd.prog (LaH e off l g_) c_ p_ st_ Q := AtW.fin fitE clA_sound (rc_agree _ _ _) 14 40 hok_ hE_ hq_
theorem LaC1_1_1_0_1 : (codeAt [1, 1, 1, 0, 1] BLa) = .block 0 (codeAt [1, 1, 1, 0, 1, 0] BLa) := by kernel_rfl
theorem LaC1_1_1_0_1_0 : (codeAt [1, 1, 1, 0, 1, 0] BLa) = .loop (codeAt [1, 1, 1, 0, 1, 0, 0] BLa) := by kernel_rfl
section
variable (dk th ts kp sd : Int) (off n c : Nat) (e : TypeId) (l : List Int) (g_ : TypeId) (i : Nat) (D : DictSt)
noncomputable abbrev LaO0 (e : TypeId) : KObj := .cells [(.int .i64 1), (.int .i64 64), (.int .i64 1), (.int .i64 64)] e false
noncomputable abbrev LaO1 (dk th ts kp sd : Int) (n : Nat) : KObj := .cells [(.int .u64 dk), (.int .i64 th), (.int .i64 ts), (.int .i64 kp), (.int .u64 sd), (.bool true), (.bool true), (.int .i64 0), (.slice (some ⟨3, 0, none⟩) n n), (.int .i64 0), (.map (some 4)), (.slice none 0 0)] 55 true
noncomputable def LaS0 : KSt := (firstK [(.agg #[(.int .u64 dk), (.int .i64 th), (.int .i64 ts), (.int .i64 kp), (.int .u64 sd)]), (.slice (some ⟨1, off, none⟩) n c)] 35 ⟨2, 1, [(0, 0, (LaO0 e)), (1, 0, .tail off .u64 l g_)]⟩)
noncomputable def LaS1 : KSt := ⟨(frameL 35 [(1, (.slice (some ⟨1, off, none⟩) n c)), (2, (.pointer (some ⟨2, 0, none⟩))), (10, (.bool (!(decide (th < ts)))))]), ⟨3, 1, [(2, 0, .cells [(.int .u64 dk), (.int .i64 th), (.int .i64 ts), (.int .i64 kp), (.int .u64 sd)] 24 true), (0, 0, (LaO0 e)), (1, 0, .tail off .u64 l g_)]⟩⟩
noncomputable def LaS2 : KSt := ⟨(frameL 35 [(1, (.slice (some ⟨1, off, none⟩) n c)), (2, (.pointer (some ⟨2, 0, none⟩))), (10, (.bool true))]), ⟨3, 1, [(2, 0, .cells [(.int .u64 dk), (.int .i64 th), (.int .i64 ts), (.int .i64 kp), (.int .u64 sd)] 24 true), (0, 0, (LaO0 e)), (1, 0, .tail off .u64 l g_)]⟩⟩
theorem LaW1 : LaEA BLa [1, 2, 10] [] (some [1, 0, 1]) [] (LaS0 dk th ts kp sd off n c e l g_) =
  bif (dk != 0) then
    bif (decide (ts ≥ 1)) then
      bif (decide (ts ≤ 64)) then
        bif (decide (kp ≥ 1)) then
          bif (decide (kp ≤ 64)) then
            bif (decide (th ≥ 0)) then
              some (.stop (LaS1 dk th ts kp sd off n c e l g_))
            else
              some (.stop (LaS2 dk th ts kp sd off n c e l g_))
          else
            some (.stop (LaS2 dk th ts kp sd off n c e l g_))
        else
          some (.stop (LaS2 dk th ts kp sd off n c e l g_))
      else
        some (.stop (LaS2 dk th ts kp sd off n c e l g_))
    else
      some (.stop (LaS2 dk th ts kp sd off n c e l g_))
  else
    some (.stop (LaS2 dk th ts kp sd off n c e l g_)) := by kernel_rfl
theorem LaW2 : LaEA BLa [1, 5] [1, 0, 1] (some [1, 1, 1]) [false] (LaS1 dk th ts kp sd off n c e l g_) =
  bif (!(decide (th < ts))) then
    none
  else
    bif (Nat.ble off off) then
      bif (Nat.ble ((off - off) + n) (List.length l)) then
        bif ((Nat.ble 1 (List.length (List.take n (List.drop (off - off) l)))) && (Nat.ble (List.length (List.take n (List.drop (off - off) l))) 1000)) then
          some (.stop ⟨(frameL 35 [(1, (.slice (some ⟨1, off, none⟩) n c)), (5, (.pointer (some ⟨2, 0, none⟩)))]), ⟨5, 1, [(4, 0, .map [] 0), (3, 0, .ints .u64 (List.take n (List.drop (off - off) l)) 22 true), (2, 0, .cells [(.int .u64 dk), (.int .i64 th), (.int .i64 ts), (.int .i64 kp), (.int .u64 sd), (.bool true), (.bool (decide (((n : Nat) : Int) > 0))), (.int .i64 0), (.slice (some ⟨3, 0, none⟩) (List.length (List.take n (List.drop (off - off) l))) (List.length (List.take n (List.drop (off - off) l)))), (.int .i64 0), (.map (some 4)), (.slice none 0 0)] 55 true), (0, 0, .cells [(.int .i64 1), (.int .i64 64), (.int .i64 1), (.int .i64 64)] e false), (1, 0, .tail off .u64 l g_)]⟩⟩)
        else
          none
      else
        none
    else
      none := by kernel_rfl
noncomputable def LaS3 : KSt := ⟨(frameL 35 [(1, (.slice (some ⟨1, off, none⟩) n c)), (5, (.pointer (some ⟨2, 0, none⟩)))]), ⟨5, 1, [(4, 0, .map [] 0), (3, 0, .ints .u64 l 22 true), (2, 0, (LaO1 dk th ts kp sd n)), (0, 0, (LaO0 e)), (1, 0, .tail off .u64 l g_)]⟩⟩
noncomputable def LaS4 : KSt := ⟨(frameL 35 [(5, (.pointer (some ⟨2, 0, none⟩))), (22, (.slice (some ⟨1, off, none⟩) n c)), (23, (.int .i64 ((n : Nat) : Int))), (24, (.int .i64 0))]), ⟨5, 1, [(4, 0, .map [] 0), (3, 0, .ints .u64 l 22 true), (2, 0, (LaO1 dk th ts kp sd n)), (0, 0, (LaO0 e)), (1, 0, .tail off .u64 l g_)]⟩⟩
theorem LaW3 : LaEA BLa [5, 22, 23, 24] [1, 1, 1] (some [1, 1, 1, 0, 1]) [] (LaS3 dk th ts kp sd off n c e l g_) =
  some (.stop (LaS4 dk th ts kp sd off n c e l g_)) := by kernel_rfl
noncomputable def LaS5 : KSt := ⟨(frameL 35 [(5, (.pointer (some ⟨2, 0, none⟩))), (22, (.slice (some ⟨1, off, none⟩) n c)), (23, (.int .i64 ((n : Nat) : Int))), (24, (.int .i64 ((i : Nat) : Int)))]), ⟨5, 1, [(4, 0, .dict .u64 .i64 D), (3, 0, .ints .u64 l 22 true), (2, 0, (LaO1 dk th ts kp sd n)), (0, 0, (LaO0 e)), (1, 0, .tail off .u64 l g_)]⟩⟩
theorem LaW4 : LaEA (codeAt [1, 1, 1, 0, 1, 0, 0] BLa) [5, 7, 22, 23, 24] [] (some [1, 1, 0, 0, 1]) [true, false] (LaS5 dk th ts kp sd off n c e l g_ i D) =
  bif (decide (((i : Nat) : Int) < ((n : Nat) : Int))) then
    if 0 ≤ ((i : Nat) : Int) ∧ ((i : Nat) : Int) < ((n : Nat) : Int) then
      bif (Nat.ble off (off + ((Int.toNat ((i : Nat) : Int)) * 1))) then
        obind (l[((off + ((Int.toNat ((i : Nat) : Int)) * 1)) - off)]?) fun zn1 =>
          some (.stop ⟨(frameL 35 [(5, (.pointer (some ⟨2, 0, none⟩))), (7, (.int .u64 zn1)), (22, (.slice (some ⟨1, off, none⟩) n c)), (23, (.int .i64 ((n : Nat) : Int))), (24, (.int .i64 ((i : Nat) : Int)))]), ⟨5, 1, [(4, 0, .dict .u64 .i64 D), (3, 0, .ints .u64 l 22 true), (2, 0, .cells [(.int .u64 dk), (.int .i64 th), (.int .i64 ts), (.int .i64 kp), (.int .u64 sd), (.bool true), (.bool true), (.int .i64 0), (.slice (some ⟨3, 0, none⟩) n n), (.int .i64 0), (.map (some 4)), (.slice none 0 0)] 55 true), (0, 0, .cells [(.int .i64 1), (.int .i64 64), (.int .i64 1), (.int .i64 64)] e false), (1, 0, .tail off .u64 l g_)]⟩⟩)
      else
        none
    else
      none
  else
    none := by kernel_rfl
noncomputable def LaS6 : KSt := ⟨(frameL 35 [(5, (.pointer (some ⟨2, 0, none⟩))), (7, (.int .u64 (l.getD i 0))), (22, (.slice (some ⟨1, off, none⟩) n c)), (23, (.int .i64 ((n : Nat) : Int))), (24, (.int .i64 ((i : Nat) : Int)))]), ⟨5, 1, [(4, 0, .dict .u64 .i64 D), (3, 0, .ints .u64 l 22 true), (2, 0, (LaO1 dk th ts kp sd n)), (0, 0, (LaO0 e)), (1, 0, .tail off .u64 l g_)]⟩⟩
theorem LaW5 : LaEA (codeAt [1, 1, 1, 0, 1, 0, 0] BLa) [5, 22, 23, 24] [1, 1, 0, 0, 1] none [] (LaS6 dk th ts kp sd off n c e l g_ i D) =
  some (.fin .normal ⟨(frameL 35 [(5, (.pointer (some ⟨2, 0, none⟩))), (22, (.slice (some ⟨1, off, none⟩) n c)), (23, (.int .i64 ((n : Nat) : Int))), (24, (.int .i64 (IntKind.wrap .i64 (((i : Nat) : Int) + 1))))]), ⟨5, 1, [(4, 0, .dict .u64 .i64 (DictSt.set D (l.getD i 0) 1)), (3, 0, .ints .u64 l 22 true), (2, 0, .cells [(.int .u64 dk), (.int .i64 th), (.int .i64 ts), (.int .i64 kp), (.int .u64 sd), (.bool true), (.bool true), (.int .i64 0), (.slice (some ⟨3, 0, none⟩) n n), (.int .i64 0), (.map (some 4)), (.slice none 0 0)] 55 true), (0, 0, .cells [(.int .i64 1), (.int .i64 64), (.int .i64 1), (.int .i64 64)] e false), (1, 0, .tail off .u64 l g_)]⟩⟩) := by kernel_rfl
noncomputable def LaS7 : KSt := ⟨(frameL 35 [(5, (.pointer (some ⟨2, 0, none⟩))), (22, (.slice (some ⟨1, off, none⟩) n c)), (23, (.int .i64 ((n : Nat) : Int))), (24, (.int .i64 (((i : Nat) : Int) + 1)))]), ⟨5, 1, [(4, 0, .dict .u64 .i64 (DictSt.set D (l.getD i 0) 1)), (3, 0, .ints .u64 l 22 true), (2, 0, (LaO1 dk th ts kp sd n)), (0, 0, (LaO0 e)), (1, 0, .tail off .u64 l g_)]⟩⟩
noncomputable def LaS8 : KSt := ⟨(frameL 35 [(5, (.pointer (some ⟨2, 0, none⟩)))]), ⟨5, 1, [(4, 0, .dict .u64 .i64 D), (3, 0, .ints .u64 l 22 true), (2, 0, (LaO1 dk th ts kp sd n)), (0, 0, (LaO0 e)), (1, 0, .tail off .u64 l g_)]⟩⟩
theorem LaW6 : LaEA (codeAt [1, 1, 1, 0, 1, 0, 0] BLa) [5] [] none [false] (LaS5 dk th ts kp sd off n c e l g_ i D) =
  bif (decide (((i : Nat) : Int) < ((n : Nat) : Int))) then
    none
  else
    some (.fin (.exit 0) (LaS8 dk th ts kp sd off n e l g_ D)) := by kernel_rfl
noncomputable def LaS9 : KSt := ⟨(frameL 35 [(4, (.pointer (some ⟨2, 0, none⟩)))]), ⟨5, 1, [(4, 0, .dict .u64 .i64 D), (3, 0, .ints .u64 l 22 true), (2, 0, (LaO1 dk th ts kp sd n)), (0, 0, (LaO0 e)), (1, 0, .tail off .u64 l g_)]⟩⟩
theorem LaW7 : LaEA (codeAt [1, 1, 1, 1] BLa) [4] [] none [] (LaS8 dk th ts kp sd off n e l g_ D) =
  some (.fin .ret (LaS9 dk th ts kp sd off n e l g_ D)) := by kernel_rfl
end
theorem Lain {dk ts kp th : Int} {l : List Int} {n off : Nat} {e g_ : TypeId} {sd : Int} {c : Nat} (hd : ¬ dk = 0) (h1 : 1 ≤ ts) (h2 : ts ≤ 64) (h3 : 1 ≤ kp) (h4 : kp ≤ 64) (h5 : 0 ≤ th) (h6 : th < ts) (hl : l.length = n) (hn : 1 ≤ n) (hb : n ≤ 900) (hT : (List.take n (List.drop (off - off) l)) = l)   {Q : Ex → St → Prop} (hq : Gets Tryd.prog (LaH e off l g_) (codeAt [1, 1, 1, 0, 1] BLa) (KSt.low (LaS4 dk th ts kp sd off n c e l g_)) (onN (fun s => Gets Tryd.prog (LaH e off l g_) (codeAt [1, 1, 1, 1] BLa) s (Q)) (Q))) : Gets Tryd.prog (LaH e off l g_) BLa (KSt.low (LaS0 dk th ts kp sd off n c e l g_)) Q := by
  refine AtW.gets ?_
  refine Lato ((LaW1 ..).trans (by rw [nT, dT, dT, dT, dT, dT])) ?_
  refine Lato (s' := (LaS3 dk th ts kp sd off n c e l g_)) ((LaW2 ..).trans (by rw [condF (not_f (decide_eq_true (by omega))), lT, lT2, condT (and_t (by rw [hT, hl]; exact ble_t (by omega)) (by rw [hT, hl]; exact ble_t (by omega))), (show (List.take n (List.drop (off - off) l)) = l from hT), (show (decide (((n : Nat) : Int) > 0)) = true from decide_eq_true (by omega)), (show (List.length l) = n from hl)] <;> rfl)) ?_
  refine Lato (LaW3 ..) ?_
  exact AtW.place hq
theorem Lab {l : List Int} {n i : Nat} {dk th ts kp sd : Int} {off c : Nat} {e g_ : TypeId} {D : DictSt} (hl : l.length = n) (hb : n ≤ 900) (hi : i < n)   {Q : Ex → St → Prop} (hq : Q .normal (KSt.low (LaS7 dk th ts kp sd off n c e l g_ i D))) : Gets Tryd.prog (LaH e off l g_) (codeAt [1, 1, 1, 0, 1, 0, 0] BLa) (KSt.low (LaS5 dk th ts kp sd off n c e l g_ i D)) Q := by
  refine AtW.gets ?_
  refine Lato (s' := (LaS6 dk th ts kp sd off n c e l g_ i D)) ((LaW4 ..).trans (by rw [dT, iP, lT, obind_at (k := ((Int.toNat ((i : Nat) : Int)) * 1)) (by omega) (by omega), (show (l.getD ((Int.toNat ((i : Nat) : Int)) * 1) 0) = (l.getD i 0) from by rw [Nat.mul_one]; rfl)] <;> rfl)) ?_
  exact Lafi (x := .normal) (s' := (LaS7 dk th ts kp sd off n c e l g_ i D)) ((LaW5 ..).trans (by rw [(show (IntKind.wrap .i64 (((i : Nat) : Int) + 1)) = (((i : Nat) : Int) + 1) from wi)] <;> rfl)) hq
theorem Lax {n i : Nat} {dk th ts kp sd : Int} {off : Nat} {e : TypeId} {l : List Int} {g_ : TypeId} {D : DictSt} {c : Nat} (hi : n ≤ i)   {Q : Ex → St → Prop} (hq : Q (.exit 0) (KSt.low (LaS8 dk th ts kp sd off n e l g_ D))) : Gets Tryd.prog (LaH e off l g_) (codeAt [1, 1, 1, 0, 1, 0, 0] BLa) (KSt.low (LaS5 dk th ts kp sd off n c e l g_ i D)) Q := by
  refine AtW.gets ?_
  exact Lafi ((LaW6 ..).trans (by rw [dF])) hq
theorem Lae {dk th ts kp sd : Int} {off n : Nat} {e : TypeId} {l : List Int} {g_ : TypeId} {D : DictSt}   {Q : Ex → St → Prop} (hq : Q .ret (KSt.low (LaS9 dk th ts kp sd off n e l g_ D))) : Gets Tryd.prog (LaH e off l g_) (codeAt [1, 1, 1, 1] BLa) (KSt.low (LaS8 dk th ts kp sd off n e l g_ D)) Q := by
  refine AtW.gets ?_
  exact Lafi (LaW7 ..) hq
noncomputable def BLz : Code := bodyOf Tryd.prog 8
theorem BLz_is : Tryd.f8.body = some BLz := by kernel_rfl
noncomputable abbrev LzH (e : TypeId) : AH := (KH.low ⟨1, 1, [(0, 0, .cells [(.int .i64 1), (.int .i64 64), (.int .i64 1), (.int .i64 64)] e false)]⟩)
noncomputable abbrev LzEA (c : Code) (lv p : List Nat) (st : Option (List Nat)) (ws : List Bool) (s : KSt) : Option Rs := evA (evCK Tryd.prog cfgE (runK Tryd.prog cfgE fsE (conTk clBDom (rcK varL clBT)) 14 40) 14) (stopW 1 lv) p c st ws s (finW 1 lv)
theorem Lzto {c_ : Code} {lv_ p_ p2_ : List Nat} {ws_ : List Bool} {st_ s' : KSt} {Q : Ex → St → Prop} {e : TypeId} (hE_ : LzEA c_ lv_ p_ (some p2_) ws_ st_ = some (.stop s')) (hq_ : AtW Tryd.prog (LzH e) c_ p2_ s' Q) (hok_ : okCode Tryd.prog.globals.size c_ = true := by kernel_rfl) : AtW Tryd.prog (LzH e) c_ p_ st_ Q := AtW.to fitE clB_sound (rc_agree _ _ _) 14 40 hok_ hE_ hq_
theorem Lzfi {c_ : Code} {lv_ p_ : List Nat} {ws_ : List Bool} {st_ s' : KSt} {x : Ex} {Q : Ex → St → Prop} {e : TypeId} (hE_ : LzEA c_ lv_ p_ none ws_ st_ = some (.fin x s')) (hq_ : Q x s'.low) (hok_ : okCode Tryd.prog.globals.size c_ = true := by kernel_rfl) : AtW Tryd.prog (LzH e) c_ p_ st_ Q := AtW.fin fitE clB_sound (rc_agree _ _ _) 14 40 hok_ hE_ hq_
section
variable (dk th ts kp sd : Int) (e : TypeId)
noncomputable abbrev LzO0 (e : TypeId) : KObj := .cells [(.int .i64 1), (.int .i64 64), (.int .i64 1), (.int .i64 64)] e false
noncomputable def LzS0 : KSt := (firstK [(.agg #[(.int .u64 dk), (.int .i64 th), (.int .i64 ts), (.int .i64 kp), (.int .u64 sd)]), (.slice (some ⟨0, 0, some 0⟩) 0 0)] 35 ⟨1, 1, [(0, 0, (LzO0 e))]⟩)
noncomputable def LzS1 : KSt := ⟨(frameL 35 [(1, (.slice (some ⟨0, 0, some 0⟩) 0 0)), (2, (.pointer (some ⟨1, 0, none⟩))), (10, (.bool (!(decide (th < ts)))))]), ⟨2, 1, [(1, 0, .cells [(.int .u64 dk), (.int .i64 th), (.int .i64 ts), (.int .i64 kp), (.int .u64 sd)] 24 true), (0, 0, (LzO0 e))]⟩⟩
noncomputable def LzS2 : KSt := ⟨(frameL 35 [(1, (.slice (some ⟨0, 0, some 0⟩) 0 0)), (2, (.pointer (some ⟨1, 0, none⟩))), (10, (.bool true))]), ⟨2, 1, [(1, 0, .cells [(.int .u64 dk), (.int .i64 th), (.int .i64 ts), (.int .i64 kp), (.int .u64 sd)] 24 true), (0, 0, (LzO0 e))]⟩⟩
theorem LzW1 : LzEA BLz [1, 2, 10] [] (some [1, 0, 1]) [] (LzS0 dk th ts kp sd e) =
  bif (dk != 0) then
    bif (decide (ts ≥ 1)) then
      bif (decide (ts ≤ 64)) then
        bif (decide (kp ≥ 1)) then
          bif (decide (kp ≤ 64)) then
            bif (decide (th ≥ 0)) then
              some (.stop (LzS1 dk th ts kp sd e))
            else
              some (.stop (LzS2 dk th ts kp sd e))
          else
            some (.stop (LzS2 dk th ts kp sd e))
        else
          some (.stop (LzS2 dk th ts kp sd e))
      else
        some (.stop (LzS2 dk th ts kp sd e))
    else
      some (.stop (LzS2 dk th ts kp sd e))
  else
    some (.stop (LzS2 dk th ts kp sd e)) := by kernel_rfl
noncomputable def LzS3 : KSt := ⟨(frameL 35 [(4, (.pointer (some ⟨1, 0, none⟩)))]), ⟨3, 1, [(2, 0, .map [] 0), (1, 0, .cells [(.int .u64 dk), (.int .i64 th), (.int .i64 ts), (.int .i64 kp), (.int .u64 sd), (.bool true), (.bool false), (.int .i64 0), (.slice (some ⟨0, 0, none⟩) 0 0), (.int .i64 0), (.map (some 2)), (.slice none 0 0)] 55 true), (0, 0, (LzO0 e))]⟩⟩
theorem LzW2 : LzEA BLz [4] [1, 0, 1] none [false, true] (LzS1 dk th ts kp sd e) =
  bif (!(decide (th < ts))) then
    none
  else
    bif (Nat.beq (List.length ([] : List Int)) 0) then
      some (.fin .ret (LzS3 dk th ts kp sd e))
    else
      none := by kernel_rfl
end
theorem Lzin {dk ts kp th sd : Int} {e : TypeId} (hd : ¬ dk = 0) (h1 : 1 ≤ ts) (h2 : ts ≤ 64) (h3 : 1 ≤ kp) (h4 : kp ≤ 64) (h5 : 0 ≤ th) (h6 : th < ts)   {Q : Ex → St → Prop} (hq : Q .ret (KSt.low (LzS3 dk th ts kp sd e))) : Gets Tryd.prog (LzH e) BLz (KSt.low (LzS0 dk th ts kp sd e)) Q := by
  refine AtW.gets ?_
  refine Lzto ((LzW1 ..).trans (by rw [nT, dT, dT, dT, dT, dT])) ?_
  exact Lzfi ((LzW2 ..).trans (by rw [condF (not_f (decide_eq_true (by omega))), condT (show (Nat.beq (List.length ([] : List Int)) 0) = true from rfl)])) hq
noncomputable def BLy : Code := bodyOf Tryd.prog 8
theorem BLy_is : Tryd.f8.body = some BLy := by kernel_rfl
noncomputable abbrev LyH (e : TypeId) (off : Nat) (l : List Int) (g_ : TypeId) : AH := (KH.low ⟨2, 1, [(0, 0, .cells [(.int .i64 1), (.int .i64 64), (.int .i64 1), (.int .i64 64)] e false), (1, 0, .tail off .u64 l g_)]⟩)
noncomputable abbrev LyEA (c : Code) (lv p : List Nat) (st : Option (List Nat)) (ws : List Bool) (s : KSt) : Option Rs := evA (evCK Tryd.prog cfgE (runK Tryd.prog cfgE fsE (conTk clBDom (rcK varL clBT)) 14 40) 14) (stopW 2 lv) p c st ws s (finW 2 lv)
theorem Lyto {c_ : Code} {lv_ p_ p2_ : List Nat} {ws_ : List Bool} {st_ s' : KSt} {Q : Ex → St → Prop} {e : TypeId} {off : Nat} {l : List Int} {g_ : TypeId} (hE_ : LyEA c_ lv_ p_ (some p2_) ws_ st_ = some (.stop s')) (hq_ : AtW Tryd.prog (LyH e off l g_) c_ p2_ s' Q) (hok_ : okCode Tryd.prog.globals.size c_ = true := by kernel_rfl) : AtW Tryd.prog (LyH e off l g_) c_ p_ st_ Q := AtW.to fitE clB_sound (rc_agree _ _ _) 14 40 hok_ hE_ hq_
theorem Lyfi {c_ : Code} {lv_ p_ : List Nat} {ws_ : List Bool} {st_ s' : KSt} {x : Ex} {Q : Ex → St → Prop} {e : TypeId} {off : Nat} {l : List Int} {g_ : TypeId} (hE_ : LyEA c_ lv_ p_ none ws_ st_ = some (.fin x s')) (hq_ : Q x s'.low) (hok_ : okCode Tryd.prog.globals.size c_ = true := by kernel_rfl) : AtW Tryd.prog (LyH e off l g_) c_ p_ st_ Q := AtW.fin fitE clB_sound (rc_agree _ _ _) 14 40 hok_ hE_ hq_
section
variable (dk th ts kp sd : Int) (off c : Nat) (e : TypeId) (l : List Int) (g_ : TypeId)
noncomputable abbrev LyO0 (e : TypeId) : KObj := .cells [(.int .i64 1), (.int .i64 64), (.int .i64 1), (.int .i64 64)] e false
noncomputable def LyS0 : KSt := (firstK [(.agg #[(.int .u64 dk), (.int .i64 th), (.int .i64 ts), (.int .i64 kp), (.int .u64 sd)]), (.slice (some ⟨1, off, none⟩) 0 c)] 35 ⟨2, 1, [(0, 0, (LyO0 e)), (1, 0, .tail off .u64 l g_)]⟩)
noncomputable def LyS1 : KSt := ⟨(frameL 35 [(1, (.slice (some ⟨1, off, none⟩) 0 c)), (2, (.pointer (some ⟨2, 0, none⟩))), (10, (.bool (!(decide (th < ts)))))]), ⟨3, 1, [(2, 0, .cells [(.int .u64 dk), (.int .i64 th), (.int .i64 ts), (.int .i64 kp), (.int .u64 sd)] 24 true), (0, 0, (LyO0 e)), (1, 0, .tail off .u64 l g_)]⟩⟩
noncomputable def LyS2 : KSt := ⟨(frameL 35 [(1, (.slice (some ⟨1, off, none⟩) 0 c)), (2, (.pointer (some ⟨2, 0, none⟩))), (10, (.bool true))]), ⟨3, 1, [(2, 0, .cells [(.int .u64 dk), (.int .i64 th), (.int .i64 ts), (.int .i64 kp), (.int .u64 sd)] 24 true), (0, 0, (LyO0 e)), (1, 0, .tail off .u64 l g_)]⟩⟩
theorem LyW1 : LyEA BLy [1, 2, 10] [] (some [1, 0, 1]) [] (LyS0 dk th ts kp sd off c e l g_) =
  bif (dk != 0) then
    bif (decide (ts ≥ 1)) then
      bif (decide (ts ≤ 64)) then
        bif (decide (kp ≥ 1)) then
          bif (decide (kp ≤ 64)) then
            bif (decide (th ≥ 0)) then
              some (.stop (LyS1 dk th ts kp sd off c e l g_))
            else
              some (.stop (LyS2 dk th ts kp sd off c e l g_))
          else
            some (.stop (LyS2 dk th ts kp sd off c e l g_))
        else
          some (.stop (LyS2 dk th ts kp sd off c e l g_))
      else
        some (.stop (LyS2 dk th ts kp sd off c e l g_))
    else
      some (.stop (LyS2 dk th ts kp sd off c e l g_))
  else
    some (.stop (LyS2 dk th ts kp sd off c e l g_)) := by kernel_rfl
noncomputable def LyS3 : KSt := ⟨(frameL 35 [(4, (.pointer (some ⟨2, 0, none⟩)))]), ⟨4, 1, [(3, 0, .map [] 0), (2, 0, .cells [(.int .u64 dk), (.int .i64 th), (.int .i64 ts), (.int .i64 kp), (.int .u64 sd), (.bool true), (.bool false), (.int .i64 0), (.slice (some ⟨0, 0, none⟩) 0 0), (.int .i64 0), (.map (some 3)), (.slice none 0 0)] 55 true), (0, 0, (LyO0 e)), (1, 0, .tail off .u64 l g_)]⟩⟩
theorem LyW2 : LyEA BLy [4] [1, 0, 1] none [false, true] (LyS1 dk th ts kp sd off c e l g_) =
  bif (!(decide (th < ts))) then
    none
  else
    bif (Nat.ble off off) then
      bif (Nat.ble ((off - off) + 0) (List.length l)) then
        bif (Nat.beq (List.length (List.take 0 (List.drop (off - off) l))) 0) then
          some (.fin .ret (LyS3 dk th ts kp sd off e l g_))
        else
          none
      else
        none
    else
      none := by kernel_rfl
end
theorem Lyin {dk ts kp th : Int} {l : List Int} {sd : Int} {off : Nat} {e g_ : TypeId} {c : Nat} (hd : ¬ dk = 0) (h1 : 1 ≤ ts) (h2 : ts ≤ 64) (h3 : 1 ≤ kp) (h4 : kp ≤ 64) (h5 : 0 ≤ th) (h6 : th < ts) (hl : l.length = 0)   {Q : Ex → St → Prop} (hq : Q .ret (KSt.low (LyS3 dk th ts kp sd off e l g_))) : Gets Tryd.prog (LyH e off l g_) BLy (KSt.low (LyS0 dk th ts kp sd off c e l g_)) Q := by
  refine AtW.gets ?_
  refine Lyto ((LyW1 ..).trans (by rw [nT, dT, dT, dT, dT, dT])) ?_
  exact Lyfi ((LyW2 ..).trans (by rw [condF (not_f (decide_eq_true (by omega))), lT, lT2, condT (show (Nat.beq (List.length (List.take 0 (List.drop (off - off) l))) 0) = true from rfl)])) hq
def dictOf (l : List Int) : DictSt := l.foldl (fun d b => d.set b 1) ⟨[], 0⟩
theorem dictOf_take {l : List Int} {i : Nat} (h : i < l.length) : dictOf (l.take (i + 1)) = (dictOf (l.take i)).set (l.getD i 0) 1 := by
  unfold dictOf
  rw [List.take_add_one, List.foldl_append, List.getElem?_eq_getElem h, List.getD_eq_getElem?_getD, List.getElem?_eq_getElem h]; rfl
def rtLook (S : SiteSt) (l : List Int) : RetireSt := ⟨S, true, !l.isEmpty, 0, l, 0, dictOf l, [], false⟩
inductive LkInv (dk : Int) (th : Int) (ts : Int) (kp : Int) (sd : Int) (off : Nat) (n : Nat) (c : Nat) (e : TypeId) (l : List Int) (g_ : TypeId) : Nat → KSt → Prop
  | s (i : Nat) (hi : i ≤ n) : LkInv dk th ts kp sd off n c e l g_ (n - i) (LaS5 dk th ts kp sd off n c e l g_ (i) (dictOf (l.take i)))
theorem lookA_does (e : TypeId) (dk th ts kp sd : Int) (hd : ¬ dk = 0) (h1 : 1 ≤ ts) (h2 : ts ≤ 64) (h3 : 1 ≤ kp) (h4 : kp ≤ 64) (h5 : 0 ≤ th) (h6 : th < ts) (off n c : Nat) (l : List Int) (g_ : TypeId) (hl : l.length = n) (hn : 1 ≤ n) (hb : n ≤ 900) : DoesC Tryd.prog 8 [(.agg #[(.int .u64 dk), (.int .i64 th), (.int .i64 ts), (.int .i64 kp), (.int .u64 sd)]), .slice (some ⟨1, off, none⟩) n c] (mkH [.cells [(.int .i64 1), (.int .i64 64), (.int .i64 1), (.int .i64 64)] e false, .tail off .u64 l g_]).low (.pointer (some ⟨2, 0, none⟩)) (effK (mkH [.cells [(.int .i64 1), (.int .i64 64), (.int .i64 1), (.int .i64 64)] e false, .tail off .u64 l g_]) [] [.cells [(.int .u64 dk), (.int .i64 th), (.int .i64 ts), (.int .i64 kp), (.int .u64 sd), (.bool true), (.bool true), (.int .i64 0), (.slice (some ⟨3, 0, none⟩) n n), (.int .i64 0), (.map (some 4)), (.slice none 0 0)] 55 true, .ints .u64 l 22 true, .dict .u64 .i64 (dictOf l)]).low := by
  refine EndsK.does Tryd.func8 BLa_is (by rw [oneVar]; exact Nat.le_add_left _ _) ?_
  refine Lain hd h1 h2 h3 h4 h5 h6 hl hn hb (by rw [Nat.sub_self, List.drop_zero, List.take_of_length_le (by omega)]) ?_
  suffices hs : ∀ m t_, LkInv dk th ts kp sd off n c e l g_ m t_ → Gets Tryd.prog (KH.low ⟨2, 1, [(0, 0, .cells [(.int .i64 1), (.int .i64 64), (.int .i64 1), (.int .i64 64)] e false), (1, 0, .tail off .u64 l g_)]⟩) (codeAt [1, 1, 1, 0, 1] BLa) t_.low (onN (fun s => Gets Tryd.prog (LaH e off l g_) (codeAt [1, 1, 1, 1] BLa) s ((EndsK Tryd.prog Tryd.f8 (.pointer (some ⟨2, 0, none⟩)) (mkH [.cells [(.int .i64 1), (.int .i64 64), (.int .i64 1), (.int .i64 64)] e false, .tail off .u64 l g_]) (effK (mkH [.cells [(.int .i64 1), (.int .i64 64), (.int .i64 1), (.int .i64 64)] e false, .tail off .u64 l g_]) [] [.cells [(.int .u64 dk), (.int .i64 th), (.int .i64 ts), (.int .i64 kp), (.int .u64 sd), (.bool true), (.bool true), (.int .i64 0), (.slice (some ⟨3, 0, none⟩) n n), (.int .i64 0), (.map (some 4)), (.slice none 0 0)] 55 true, .ints .u64 l 22 true, .dict .u64 .i64 (dictOf l)])))) ((EndsK Tryd.prog Tryd.f8 (.pointer (some ⟨2, 0, none⟩)) (mkH [.cells [(.int .i64 1), (.int .i64 64), (.int .i64 1), (.int .i64 64)] e false, .tail off .u64 l g_]) (effK (mkH [.cells [(.int .i64 1), (.int .i64 64), (.int .i64 1), (.int .i64 64)] e false, .tail off .u64 l g_]) [] [.cells [(.int .u64 dk), (.int .i64 th), (.int .i64 ts), (.int .i64 kp), (.int .u64 sd), (.bool true), (.bool true), (.int .i64 0), (.slice (some ⟨3, 0, none⟩) n n), (.int .i64 0), (.map (some 4)), (.slice none 0 0)] 55 true, .ints .u64 l 22 true, .dict .u64 .i64 (dictOf l)])))) from hs (n - 0) (LaS5 dk th ts kp sd off n c e l g_ (0) (dictOf (l.take 0))) (.s 0 (Nat.zero_le _))
  intro m t_ hI
  rw [LaC1_1_1_0_1, LaC1_1_1_0_1_0]
  refine Gets.loopG (fun m t_ => LkInv dk th ts kp sd off n c e l g_ m t_) ?_ _ _ hI
  clear hI m t_
  intro m t_ hI
  cases hI with
  | s i hi =>
    by_cases hlt : i < n
    · refine Lab hl hb hlt ?_
      have hn' : LkInv dk th ts kp sd off n c e l g_ (n - (i + 1)) (LaS5 dk th ts kp sd off n c e l g_ (i + 1) (dictOf (l.take (i + 1)))) := .s (i + 1) (by omega)
      rw [dictOf_take (by omega)] at hn'
      exact ⟨n - (i + 1), _, by omega, rfl, hn'⟩
    · have e : i = n := by omega
      subst e
      rw [← hl, List.take_length]
      refine Lax (by omega) ?_
      refine ⟨fun _ => Lae ?_, fun h => by cases h⟩
      exact EndsK.ret (l := [(.pointer (some ⟨2, 0, none⟩))]) (by kernel_rfl) rfl (Fits.kh (growNew (growNew (growNew (Grow.refl _)))) rfl ⟨rfl, rfl, rfl, rfl, rfl, trivial⟩)
theorem lookZ_does (e : TypeId) (dk th ts kp sd : Int) (hd : ¬ dk = 0) (h1 : 1 ≤ ts) (h2 : ts ≤ 64) (h3 : 1 ≤ kp) (h4 : kp ≤ 64) (h5 : 0 ≤ th) (h6 : th < ts) : DoesC Tryd.prog 8 [(.agg #[(.int .u64 dk), (.int .i64 th), (.int .i64 ts), (.int .i64 kp), (.int .u64 sd)]), slice0V] (mkH [.cells [(.int .i64 1), (.int .i64 64), (.int .i64 1), (.int .i64 64)] e false]).low (.pointer (some ⟨1, 0, none⟩)) (effK (mkH [.cells [(.int .i64 1), (.int .i64 64), (.int .i64 1), (.int .i64 64)] e false]) [] [.cells [(.int .u64 dk), (.int .i64 th), (.int .i64 ts), (.int .i64 kp), (.int .u64 sd), (.bool true), (.bool false), (.int .i64 0), (.slice (some ⟨0, 0, none⟩) 0 0), (.int .i64 0), (.map (some 2)), (.slice none 0 0)] 55 true, .map [] 0]).low := by
  refine EndsK.does Tryd.func8 BLz_is (by rw [oneVar]; exact Nat.le_add_left _ _) ?_
  exact Lzin hd h1 h2 h3 h4 h5 h6 (EndsK.ret (l := [(.pointer (some ⟨1, 0, none⟩))]) (by kernel_rfl) rfl (Fits.kh (growNew (growNew (Grow.refl _))) rfl ⟨rfl, rfl, rfl, trivial⟩))
theorem lookY_does (e : TypeId) (dk th ts kp sd : Int) (hd : ¬ dk = 0) (h1 : 1 ≤ ts) (h2 : ts ≤ 64) (h3 : 1 ≤ kp) (h4 : kp ≤ 64) (h5 : 0 ≤ th) (h6 : th < ts) (off c : Nat) (l : List Int) (g_ : TypeId) (hl : l.length = 0) : DoesC Tryd.prog 8 [(.agg #[(.int .u64 dk), (.int .i64 th), (.int .i64 ts), (.int .i64 kp), (.int .u64 sd)]), .slice (some ⟨1, off, none⟩) 0 c] (mkH [.cells [(.int .i64 1), (.int .i64 64), (.int .i64 1), (.int .i64 64)] e false, .tail off .u64 l g_]).low (.pointer (some ⟨2, 0, none⟩)) (effK (mkH [.cells [(.int .i64 1), (.int .i64 64), (.int .i64 1), (.int .i64 64)] e false, .tail off .u64 l g_]) [] [.cells [(.int .u64 dk), (.int .i64 th), (.int .i64 ts), (.int .i64 kp), (.int .u64 sd), (.bool true), (.bool false), (.int .i64 0), (.slice (some ⟨0, 0, none⟩) 0 0), (.int .i64 0), (.map (some 3)), (.slice none 0 0)] 55 true, .map [] 0]).low := by
  refine EndsK.does Tryd.func8 BLy_is (by rw [oneVar]; exact Nat.le_add_left _ _) ?_
  exact Lyin hd h1 h2 h3 h4 h5 h6 hl (EndsK.ret (l := [(.pointer (some ⟨2, 0, none⟩))]) (by kernel_rfl) rfl (Fits.kh (growNew (growNew (Grow.refl _))) rfl ⟨rfl, rfl, rfl, rfl, trivial⟩))
theorem lookZd_does (e : TypeId) (dk th ts kp sd : Int) (hd : ¬ dk = 0) (h1 : 1 ≤ ts) (h2 : ts ≤ 64) (h3 : 1 ≤ kp) (h4 : kp ≤ 64) (h5 : 0 ≤ th) (h6 : th < ts) : DoesC Tryd.prog 8 [(.agg #[(.int .u64 dk), (.int .i64 th), (.int .i64 ts), (.int .i64 kp), (.int .u64 sd)]), slice0V] (mkH [.cells [(.int .i64 1), (.int .i64 64), (.int .i64 1), (.int .i64 64)] e false]).low (.pointer (some ⟨1, 0, none⟩)) (effK (mkH [.cells [(.int .i64 1), (.int .i64 64), (.int .i64 1), (.int .i64 64)] e false]) [] [.cells [(.int .u64 dk), (.int .i64 th), (.int .i64 ts), (.int .i64 kp), (.int .u64 sd), (.bool true), (.bool false), (.int .i64 0), (.slice (some ⟨0, 0, none⟩) 0 0), (.int .i64 0), (.map (some 2)), (.slice none 0 0)] 55 true, .dict .u64 .i64 ⟨[], 0⟩]).low := by
  have h := lookZ_does e dk th ts kp sd hd h1 h2 h3 h4 h5 h6
  rw [show (effK (mkH [.cells [(.int .i64 1), (.int .i64 64), (.int .i64 1), (.int .i64 64)] e false]) [] [.cells [(.int .u64 dk), (.int .i64 th), (.int .i64 ts), (.int .i64 kp), (.int .u64 sd), (.bool true), (.bool false), (.int .i64 0), (.slice (some ⟨0, 0, none⟩) 0 0), (.int .i64 0), (.map (some 2)), (.slice none 0 0)] 55 true, .map [] 0]).low = (effK (mkH [.cells [(.int .i64 1), (.int .i64 64), (.int .i64 1), (.int .i64 64)] e false]) [] [.cells [(.int .u64 dk), (.int .i64 th), (.int .i64 ts), (.int .i64 kp), (.int .u64 sd), (.bool true), (.bool false), (.int .i64 0), (.slice (some ⟨0, 0, none⟩) 0 0), (.int .i64 0), (.map (some 2)), (.slice none 0 0)] 55 true, .dict .u64 .i64 ⟨[], 0⟩]).low by kernel_rfl] at h
  exact h
theorem lookYd_does (e : TypeId) (dk th ts kp sd : Int) (hd : ¬ dk = 0) (h1 : 1 ≤ ts) (h2 : ts ≤ 64) (h3 : 1 ≤ kp) (h4 : kp ≤ 64) (h5 : 0 ≤ th) (h6 : th < ts) (off c : Nat) (l : List Int) (g_ : TypeId) (hl : l.length = 0) : DoesC Tryd.prog 8 [(.agg #[(.int .u64 dk), (.int .i64 th), (.int .i64 ts), (.int .i64 kp), (.int .u64 sd)]), .slice (some ⟨1, off, none⟩) 0 c] (mkH [.cells [(.int .i64 1), (.int .i64 64), (.int .i64 1), (.int .i64 64)] e false, .tail off .u64 l g_]).low (.pointer (some ⟨2, 0, none⟩)) (effK (mkH [.cells [(.int .i64 1), (.int .i64 64), (.int .i64 1), (.int .i64 64)] e false, .tail off .u64 l g_]) [] [.cells [(.int .u64 dk), (.int .i64 th), (.int .i64 ts), (.int .i64 kp), (.int .u64 sd), (.bool true), (.bool false), (.int .i64 0), (.slice (some ⟨0, 0, none⟩) 0 0), (.int .i64 0), (.map (some 3)), (.slice none 0 0)] 55 true, .dict .u64 .i64 ⟨[], 0⟩]).low := by
  have h := lookY_does e dk th ts kp sd hd h1 h2 h3 h4 h5 h6 off c l g_ hl
  rw [show (effK (mkH [.cells [(.int .i64 1), (.int .i64 64), (.int .i64 1), (.int .i64 64)] e false, .tail off .u64 l g_]) [] [.cells [(.int .u64 dk), (.int .i64 th), (.int .i64 ts), (.int .i64 kp), (.int .u64 sd), (.bool true), (.bool false), (.int .i64 0), (.slice (some ⟨0, 0, none⟩) 0 0), (.int .i64 0), (.map (some 3)), (.slice none 0 0)] 55 true, .map [] 0]).low = (effK (mkH [.cells [(.int .i64 1), (.int .i64 64), (.int .i64 1), (.int .i64 64)] e false, .tail off .u64 l g_]) [] [.cells [(.int .u64 dk), (.int .i64 th), (.int .i64 ts), (.int .i64 kp), (.int .u64 sd), (.bool true), (.bool false), (.int .i64 0), (.slice (some ⟨0, 0, none⟩) 0 0), (.int .i64 0), (.map (some 3)), (.slice none 0 0)] 55 true, .dict .u64 .i64 ⟨[], 0⟩]).low by kernel_rfl] at h
  exact h
end Go.Proofs.YtfhfbbhoppnbiaaDoor
