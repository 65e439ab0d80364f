import Derived.Test.YtfhfbbhoppnbiaaDoorRtF
import Derived.WalkKit
import Derived.ProofKit
import Derived.OpenShut
import Derived.ChangeOld
import Derived.Below
import Derived.SizedLaws
namespace Go.Proofs.YtfhfbbhoppnbiaaDoor
open Go.Eng
open Go.ChangeShapes Go.WideShapes Go.ChangeAt Go.RowKit
set_option linter.unusedVariables false
set_option linter.unusedSimpArgs false
set_option maxRecDepth 100000
noncomputable def BN2 : Code := bodyOf Tryd.prog 7
theorem BN2_is : Tryd.f7.body = some BN2 := by kernel_rfl
noncomputable abbrev N2H (e : TypeId) (off : Nat) (l : List Int) (g_ : TypeId) (off2 : Nat) (m : List Int) (g2 : TypeId) : AH := (KH.low ⟨3, 1, [(0, 0, .cells [(.int .i64 1), (.int .i64 64), (.int .i64 1), (.int .i64 64)] e false), (1, 0, .tail off .u64 l g_), (2, 0, .tail off2 .u64 m g2)]⟩)
noncomputable abbrev N2EA (c : Code) (lv p : List Nat) (st : Option (List Nat)) (ws : List Bool) (s : KSt) : Option Rs := evA (evCK Tryd.prog cfgE (runK Tryd.prog cfgE fsE (conTk lkaDom (rcK varL lkaT)) 14 40) 14) (stopW 3 lv) p c st ws s (finW 3 lv)
theorem N2to {c_ : Code} {lv_ p_ p2_ : List Nat} {ws_ : List Bool} {st_ s' : KSt} {Q : Ex → St → Prop} {e : TypeId} {off : Nat} {l : List Int} {g_ : TypeId} {off2 : Nat} {m : List Int} {g2 : TypeId} (hE_ : N2EA c_ lv_ p_ (some p2_) ws_ st_ = some (.stop s')) (hq_ : AtW Tryd.prog (N2H e off l g_ off2 m g2) c_ p2_ s' Q) (hok_ : okCode Tryd.prog.globals.size c_ = true := by kernel_rfl) : AtW Tryd.prog (N2H e off l g_ off2 m g2) c_ p_ st_ Q := AtW.to fitE lka_sound (rc_agree _ _ _) 14 40 hok_ hE_ hq_
theorem N2fi {c_ : Code} {lv_ p_ : List Nat} {ws_ : List Bool} {st_ s' : KSt} {x : Ex} {Q : Ex → St → Prop} {e : TypeId} {off : Nat} {l : List Int} {g_ : TypeId} {off2 : Nat} {m : List Int} {g2 : TypeId} (hE_ : N2EA c_ lv_ p_ none ws_ st_ = some (.fin x s')) (hq_ : Q x s'.low) (hok_ : okCode Tryd.prog.globals.size c_ = true := by kernel_rfl) : AtW Tryd.prog (N2H e off l g_ off2 m g2) c_ p_ st_ Q := AtW.fin fitE lka_sound (rc_agree _ _ _) 14 40 hok_ hE_ hq_
section
variable (dk th ts kp sd : Int) (off n c off2 c2 : Nat) (e : TypeId) (l : List Int) (g_ : TypeId) (m : List Int) (g2 : TypeId) (zn1 : Int)
noncomputable abbrev N2O0 (e : TypeId) : KObj := .cells [(.int .i64 1), (.int .i64 64), (.int .i64 1), (.int .i64 64)] e false
noncomputable abbrev N2O1 (dk th ts kp sd : Int) : KObj := .cells [(.int .u64 dk), (.int .i64 th), (.int .i64 ts), (.int .i64 kp), (.int .u64 sd)] 24 true
noncomputable def N2S0 : KSt := (firstK [(.agg #[(.int .u64 dk), (.int .i64 th), (.int .i64 ts), (.int .i64 kp), (.int .u64 sd)]), (.slice (some ⟨1, off, none⟩) n c), (.slice (some ⟨2, off2, none⟩) 1 c2)] 79 ⟨3, 1, [(0, 0, (N2O0 e)), (1, 0, .tail off .u64 l g_), (2, 0, .tail off2 .u64 m g2)]⟩)
theorem N2W1 : N2EA BN2 [2, 3, 7] [] (some [1, 1]) [] (N2S0 dk th ts kp sd off n c off2 c2 e l g_ m g2) =
  bif (Nat.ble off off) then
    bif (Nat.ble ((off - off) + n) (List.length l)) then
      bif ((siteP dk th ts kp) && ((Nat.ble 1 (List.length (List.take n (List.drop (off - off) l)))) && (Nat.ble (List.length (List.take n (List.drop (off - off) l))) 900))) then
        some (.stop ⟨(frameL 79 [(2, (.slice (some ⟨2, off2, none⟩) 1 c2)), (3, (.pointer (some ⟨3, 0, none⟩))), (7, (.pointer (some ⟨4, 0, none⟩)))]), ⟨7, 1, [(6, 0, .dict .u64 .i64 (dictOf (List.take n (List.drop (off - off) l)))), (5, 0, .ints .u64 (List.take n (List.drop (off - off) l)) 22 true), (4, 0, .cells [(.int .u64 dk), (.int .i64 th), (.int .i64 ts), (.int .i64 kp), (.int .u64 sd), (.bool true), (.bool true), (.int .i64 0), (.slice (some ⟨5, 0, none⟩) (List.length (List.take n (List.drop (off - off) l))) (List.length (List.take n (List.drop (off - off) l)))), (.int .i64 0), (.map (some 6)), (.slice none 0 0)] 55 true), (3, 0, .cells [(.int .u64 dk), (.int .i64 th), (.int .i64 ts), (.int .i64 kp), (.int .u64 sd)] 24 true), (0, 0, .cells [(.int .i64 1), (.int .i64 64), (.int .i64 1), (.int .i64 64)] e false), (1, 0, .tail off .u64 l g_), (2, 0, .tail off2 .u64 m g2)]⟩⟩)
      else
        none
    else
      none
  else
    none := by kernel_rfl
noncomputable def N2S1 : KSt := ⟨(frameL 79 [(2, (.slice (some ⟨2, off2, none⟩) 1 c2)), (3, (.pointer (some ⟨3, 0, none⟩))), (7, (.pointer (some ⟨4, 0, none⟩)))]), ⟨7, 1, [(6, 0, .dict .u64 .i64 (dictOf l)), (5, 0, .ints .u64 l 22 true), (4, 0, .cells [(.int .u64 dk), (.int .i64 th), (.int .i64 ts), (.int .i64 kp), (.int .u64 sd), (.bool true), (.bool true), (.int .i64 0), (.slice (some ⟨5, 0, none⟩) n n), (.int .i64 0), (.map (some 6)), (.slice none 0 0)] 55 true), (3, 0, (N2O1 dk th ts kp sd)), (0, 0, (N2O0 e)), (1, 0, .tail off .u64 l g_), (2, 0, .tail off2 .u64 m g2)]⟩⟩
noncomputable def N2S2 : KSt := ⟨(frameL 79 [(3, (.pointer (some ⟨3, 0, none⟩))), (7, (.pointer (some ⟨4, 0, none⟩)))]), ⟨7, 1, [(6, 0, .dict .u64 .i64 (DictSt.set (dictOf l) zn1 1)), (5, 0, .ints .u64 (List.take (0 + n) l ++ [zn1] ++ List.drop ((0 + n) + (List.length [zn1])) l) 22 true), (4, 0, .cells [(.int .u64 dk), (.int .i64 th), (.int .i64 ts), (.int .i64 kp), (.int .u64 sd), (.bool true), (.bool true), (.int .i64 0), (.slice (some ⟨5, 0, none⟩) (n + 1) n), (.int .i64 0), (.map (some 6)), (.slice none 0 0)] 55 true), (3, 0, (N2O1 dk th ts kp sd)), (0, 0, (N2O0 e)), (1, 0, .tail off .u64 l g_), (2, 0, .tail off2 .u64 m g2)]⟩⟩
noncomputable def N2S3 : KSt := ⟨(frameL 79 [(3, (.pointer (some ⟨3, 0, none⟩))), (7, (.pointer (some ⟨4, 0, none⟩)))]), ⟨7, 1, [(6, 0, .dict .u64 .i64 (DictSt.set (dictOf l) zn1 1)), (5, 0, .cells [(.int .u64 zn1)] 22 true), (4, 0, .cells [(.int .u64 dk), (.int .i64 th), (.int .i64 ts), (.int .i64 kp), (.int .u64 sd), (.bool true), (.bool true), (.int .i64 0), (.slice (some ⟨5, 0, none⟩) 1 1), (.int .i64 0), (.map (some 6)), (.slice none 0 0)] 55 true), (3, 0, (N2O1 dk th ts kp sd)), (0, 0, (N2O0 e)), (1, 0, .tail off .u64 l g_), (2, 0, .tail off2 .u64 m g2)]⟩⟩
theorem N2W2 : N2EA BN2 [3, 7] [1, 1] (some [1, 1, 1]) [true] (N2S1 dk th ts kp sd off n off2 c2 e l g_ m g2) =
  bif (Nat.ble off2 (off2 + 0)) then
    obind (m[((off2 + 0) - off2)]?) fun zn1 =>
      bif (zn1 != 0) then
        bif (Nat.ble ((n + 1) * 9) 1099511627776) then
          bif (Nat.ble (n + 1) n) then
            bif (Nat.ble (0 + (n + 1)) (List.length l)) then
              some (.stop (N2S2 dk th ts kp sd off n off2 e l g_ m g2 zn1))
            else
              none
          else
            bif ((Nat.beq n 0) && (Nat.beq n 0)) then
              some (.stop (N2S3 dk th ts kp sd off off2 e l g_ m g2 zn1))
            else
              bif ((Nat.ble n (List.length l)) && (Nat.ble 1 n)) then
                some (.stop ⟨(frameL 79 [(3, (.pointer (some ⟨3, 0, none⟩))), (7, (.pointer (some ⟨4, 0, none⟩)))]), ⟨7, 1, [(6, 0, .dict .u64 .i64 (DictSt.set (dictOf l) zn1 1)), (5, 0, .ints .u64 (List.take n l ++ [zn1]) 22 true), (4, 0, .cells [(.int .u64 dk), (.int .i64 th), (.int .i64 ts), (.int .i64 kp), (.int .u64 sd), (.bool true), (.bool true), (.int .i64 0), (.slice (some ⟨5, 0, none⟩) (n + 1) (n + 1)), (.int .i64 0), (.map (some 6)), (.slice none 0 0)] 55 true), (3, 0, .cells [(.int .u64 dk), (.int .i64 th), (.int .i64 ts), (.int .i64 kp), (.int .u64 sd)] 24 true), (0, 0, .cells [(.int .i64 1), (.int .i64 64), (.int .i64 1), (.int .i64 64)] e false), (1, 0, .tail off .u64 l g_), (2, 0, .tail off2 .u64 m g2)]⟩⟩)
              else
                none
        else
          none
      else
        some (.stop ⟨(frameL 79 [(3, (.pointer (some ⟨3, 0, none⟩))), (7, (.pointer (some ⟨4, 0, none⟩)))]), ⟨7, 1, [(6, 0, .dict .u64 .i64 (dictOf l)), (5, 0, .ints .u64 l 22 true), (4, 0, .cells [(.int .u64 dk), (.int .i64 th), (.int .i64 ts), (.int .i64 kp), (.int .u64 sd), (.bool true), (.bool true), (.int .i64 0), (.slice (some ⟨5, 0, none⟩) n n), (.int .i64 0), (.map (some 6)), (.slice none 0 0)] 55 true), (3, 0, .cells [(.int .u64 dk), (.int .i64 th), (.int .i64 ts), (.int .i64 kp), (.int .u64 sd)] 24 true), (0, 0, .cells [(.int .i64 1), (.int .i64 64), (.int .i64 1), (.int .i64 64)] e false), (1, 0, .tail off .u64 l g_), (2, 0, .tail off2 .u64 m g2)]⟩⟩)
  else
    none := by kernel_rfl
noncomputable def N2S5 : KSt := ⟨(frameL 79 [(3, (.pointer (some ⟨3, 0, none⟩))), (7, (.pointer (some ⟨4, 0, none⟩)))]), ⟨7, 1, [(6, 0, .dict .u64 .i64 (dictOf l)), (5, 0, .ints .u64 l 22 true), (4, 0, .cells [(.int .u64 dk), (.int .i64 th), (.int .i64 ts), (.int .i64 kp), (.int .u64 sd), (.bool true), (.bool true), (.int .i64 0), (.slice (some ⟨5, 0, none⟩) n n), (.int .i64 0), (.map (some 6)), (.slice none 0 0)] 55 true), (3, 0, (N2O1 dk th ts kp sd)), (0, 0, (N2O0 e)), (1, 0, .tail off .u64 l g_), (2, 0, .tail off2 .u64 m g2)]⟩⟩
theorem N2W3 : N2EA BN2 [6] [1, 1, 1] none [false] (N2S5 dk th ts kp sd off n off2 e l g_ m g2) =
  bif (!(decide (((n : Nat) : Int) ≥ kp))) then
    none
  else
    some (.fin .ret ⟨(frameL 79 [(6, (.pointer (some ⟨3, 0, none⟩)))]), ⟨6, 1, [(5, 0, .dict .u64 .i64 (dictOf l)), (4, 0, .ints .u64 l 22 true), (3, 0, .cells [(.int .u64 dk), (.int .i64 th), (.int .i64 ts), (.int .i64 kp), (.int .u64 sd), (.bool true), (.bool (decide (((n : Nat) : Int) ≥ kp))), (.int .i64 0), (.slice (some ⟨4, 0, none⟩) n n), (.int .i64 0), (.map (some 5)), (.slice none 0 0)] 55 true), (0, 0, .cells [(.int .i64 1), (.int .i64 64), (.int .i64 1), (.int .i64 64)] e false), (1, 0, .tail off .u64 l g_), (2, 0, .tail off2 .u64 m g2)]⟩⟩) := by kernel_rfl
noncomputable def N2S6 : KSt := ⟨(frameL 79 [(6, (.pointer (some ⟨3, 0, none⟩)))]), ⟨6, 1, [(5, 0, .dict .u64 .i64 (dictOf l)), (4, 0, .ints .u64 l 22 true), (3, 0, .cells [(.int .u64 dk), (.int .i64 th), (.int .i64 ts), (.int .i64 kp), (.int .u64 sd), (.bool true), (.bool true), (.int .i64 0), (.slice (some ⟨4, 0, none⟩) n n), (.int .i64 0), (.map (some 5)), (.slice none 0 0)] 55 true), (0, 0, (N2O0 e)), (1, 0, .tail off .u64 l g_), (2, 0, .tail off2 .u64 m g2)]⟩⟩
theorem N2W4 : N2EA BN2 [6] [1, 1, 1] none [true] (N2S5 dk th ts kp sd off n off2 e l g_ m g2) =
  bif (!(decide (((n : Nat) : Int) ≥ kp))) then
    some (.fin .ret ⟨(frameL 79 [(6, (.pointer (some ⟨3, 0, none⟩)))]), ⟨6, 1, [(5, 0, .dict .u64 .i64 (dictOf l)), (4, 0, .ints .u64 l 22 true), (3, 0, .cells [(.int .u64 dk), (.int .i64 th), (.int .i64 ts), (.int .i64 kp), (.int .u64 sd), (.bool true), (.bool (decide (((n : Nat) : Int) ≥ kp))), (.int .i64 0), (.slice (some ⟨4, 0, none⟩) n n), (.int .i64 0), (.map (some 5)), (.slice (some ⟨4, 0, none⟩) n n)] 55 true), (0, 0, .cells [(.int .i64 1), (.int .i64 64), (.int .i64 1), (.int .i64 64)] e false), (1, 0, .tail off .u64 l g_), (2, 0, .tail off2 .u64 m g2)]⟩⟩)
  else
    none := by kernel_rfl
noncomputable def N2S7 : KSt := ⟨(frameL 79 [(6, (.pointer (some ⟨3, 0, none⟩)))]), ⟨6, 1, [(5, 0, .dict .u64 .i64 (dictOf l)), (4, 0, .ints .u64 l 22 true), (3, 0, .cells [(.int .u64 dk), (.int .i64 th), (.int .i64 ts), (.int .i64 kp), (.int .u64 sd), (.bool true), (.bool false), (.int .i64 0), (.slice (some ⟨4, 0, none⟩) n n), (.int .i64 0), (.map (some 5)), (.slice (some ⟨4, 0, none⟩) n n)] 55 true), (0, 0, (N2O0 e)), (1, 0, .tail off .u64 l g_), (2, 0, .tail off2 .u64 m g2)]⟩⟩
theorem N2W5 : N2EA BN2 [3, 7] [1, 1] (some [1, 1, 1]) [true] (N2S1 dk th ts kp sd off n off2 c2 e l g_ m g2) =
  bif (Nat.ble off2 (off2 + 0)) then
    obind (m[((off2 + 0) - off2)]?) fun zn1 =>
      bif (zn1 != 0) then
        bif (Nat.ble ((n + 1) * 9) 1099511627776) then
          bif (Nat.ble (n + 1) n) then
            bif (Nat.ble (0 + (n + 1)) (List.length l)) then
              some (.stop (N2S2 dk th ts kp sd off n off2 e l g_ m g2 zn1))
            else
              none
          else
            bif ((Nat.beq n 0) && (Nat.beq n 0)) then
              some (.stop (N2S3 dk th ts kp sd off off2 e l g_ m g2 zn1))
            else
              bif ((Nat.ble n (List.length l)) && (Nat.ble 1 n)) then
                some (.stop ⟨(frameL 79 [(3, (.pointer (some ⟨3, 0, none⟩))), (7, (.pointer (some ⟨4, 0, none⟩)))]), ⟨7, 1, [(6, 0, .dict .u64 .i64 (DictSt.set (dictOf l) zn1 1)), (5, 0, .ints .u64 (List.take n l ++ [zn1]) 22 true), (4, 0, .cells [(.int .u64 dk), (.int .i64 th), (.int .i64 ts), (.int .i64 kp), (.int .u64 sd), (.bool true), (.bool true), (.int .i64 0), (.slice (some ⟨5, 0, none⟩) (n + 1) (n + 1)), (.int .i64 0), (.map (some 6)), (.slice none 0 0)] 55 true), (3, 0, .cells [(.int .u64 dk), (.int .i64 th), (.int .i64 ts), (.int .i64 kp), (.int .u64 sd)] 24 true), (0, 0, .cells [(.int .i64 1), (.int .i64 64), (.int .i64 1), (.int .i64 64)] e false), (1, 0, .tail off .u64 l g_), (2, 0, .tail off2 .u64 m g2)]⟩⟩)
              else
                none
        else
          none
      else
        some (.stop (N2S5 dk th ts kp sd off n off2 e l g_ m g2))
  else
    none := by kernel_rfl
noncomputable def N2S8 : KSt := ⟨(frameL 79 [(3, (.pointer (some ⟨3, 0, none⟩))), (7, (.pointer (some ⟨4, 0, none⟩)))]), ⟨7, 1, [(6, 0, .dict .u64 .i64 (DictSt.set (dictOf l) (m.getD 0 0) 1)), (5, 0, .ints .u64 (List.take n l ++ [(m.getD 0 0)]) 22 true), (4, 0, .cells [(.int .u64 dk), (.int .i64 th), (.int .i64 ts), (.int .i64 kp), (.int .u64 sd), (.bool true), (.bool true), (.int .i64 0), (.slice (some ⟨5, 0, none⟩) (n + 1) (n + 1)), (.int .i64 0), (.map (some 6)), (.slice none 0 0)] 55 true), (3, 0, (N2O1 dk th ts kp sd)), (0, 0, (N2O0 e)), (1, 0, .tail off .u64 l g_), (2, 0, .tail off2 .u64 m g2)]⟩⟩
theorem N2W6 : N2EA BN2 [6] [1, 1, 1] none [false] (N2S8 dk th ts kp sd off n off2 e l g_ m g2) =
  bif (!(decide ((((n + 1) : Nat) : Int) ≥ kp))) then
    none
  else
    some (.fin .ret ⟨(frameL 79 [(6, (.pointer (some ⟨3, 0, none⟩)))]), ⟨6, 1, [(5, 0, .dict .u64 .i64 (DictSt.set (dictOf l) (m.getD 0 0) 1)), (4, 0, .ints .u64 (List.take n l ++ [(m.getD 0 0)]) 22 true), (3, 0, .cells [(.int .u64 dk), (.int .i64 th), (.int .i64 ts), (.int .i64 kp), (.int .u64 sd), (.bool true), (.bool (decide ((((n + 1) : Nat) : Int) ≥ kp))), (.int .i64 0), (.slice (some ⟨4, 0, none⟩) (n + 1) (n + 1)), (.int .i64 0), (.map (some 5)), (.slice none 0 0)] 55 true), (0, 0, .cells [(.int .i64 1), (.int .i64 64), (.int .i64 1), (.int .i64 64)] e false), (1, 0, .tail off .u64 l g_), (2, 0, .tail off2 .u64 m g2)]⟩⟩) := by kernel_rfl
noncomputable def N2S9 : KSt := ⟨(frameL 79 [(6, (.pointer (some ⟨3, 0, none⟩)))]), ⟨6, 1, [(5, 0, .dict .u64 .i64 (DictSt.set (dictOf l) (m.getD 0 0) 1)), (4, 0, .ints .u64 (List.take n l ++ [(m.getD 0 0)]) 22 true), (3, 0, .cells [(.int .u64 dk), (.int .i64 th), (.int .i64 ts), (.int .i64 kp), (.int .u64 sd), (.bool true), (.bool true), (.int .i64 0), (.slice (some ⟨4, 0, none⟩) (n + 1) (n + 1)), (.int .i64 0), (.map (some 5)), (.slice none 0 0)] 55 true), (0, 0, (N2O0 e)), (1, 0, .tail off .u64 l g_), (2, 0, .tail off2 .u64 m g2)]⟩⟩
theorem N2W7 : N2EA BN2 [6] [1, 1, 1] none [true] (N2S8 dk th ts kp sd off n off2 e l g_ m g2) =
  bif (!(decide ((((n + 1) : Nat) : Int) ≥ kp))) then
    some (.fin .ret ⟨(frameL 79 [(6, (.pointer (some ⟨3, 0, none⟩)))]), ⟨6, 1, [(5, 0, .dict .u64 .i64 (DictSt.set (dictOf l) (m.getD 0 0) 1)), (4, 0, .ints .u64 (List.take n l ++ [(m.getD 0 0)]) 22 true), (3, 0, .cells [(.int .u64 dk), (.int .i64 th), (.int .i64 ts), (.int .i64 kp), (.int .u64 sd), (.bool true), (.bool (decide ((((n + 1) : Nat) : Int) ≥ kp))), (.int .i64 0), (.slice (some ⟨4, 0, none⟩) (n + 1) (n + 1)), (.int .i64 0), (.map (some 5)), (.slice (some ⟨4, 0, none⟩) (n + 1) (n + 1))] 55 true), (0, 0, .cells [(.int .i64 1), (.int .i64 64), (.int .i64 1), (.int .i64 64)] e false), (1, 0, .tail off .u64 l g_), (2, 0, .tail off2 .u64 m g2)]⟩⟩)
  else
    none := by kernel_rfl
noncomputable def N2S10 : KSt := ⟨(frameL 79 [(6, (.pointer (some ⟨3, 0, none⟩)))]), ⟨6, 1, [(5, 0, .dict .u64 .i64 (DictSt.set (dictOf l) (m.getD 0 0) 1)), (4, 0, .ints .u64 (List.take n l ++ [(m.getD 0 0)]) 22 true), (3, 0, .cells [(.int .u64 dk), (.int .i64 th), (.int .i64 ts), (.int .i64 kp), (.int .u64 sd), (.bool true), (.bool false), (.int .i64 0), (.slice (some ⟨4, 0, none⟩) (n + 1) (n + 1)), (.int .i64 0), (.map (some 5)), (.slice (some ⟨4, 0, none⟩) (n + 1) (n + 1))] 55 true), (0, 0, (N2O0 e)), (1, 0, .tail off .u64 l g_), (2, 0, .tail off2 .u64 m g2)]⟩⟩
end
theorem N2zl {dk ts kp th : Int} {l : List Int} {n off : Nat} {m : List Int} {sd : Int} {off2 : Nat} {e g_ g2 : TypeId} {c c2 : Nat} (hd : ¬ dk = 0) (h1 : 1 ≤ ts) (h2 : ts ≤ 64) (h3 : 1 ≤ kp) (h4 : kp ≤ 64) (h5 : 0 ≤ th) (h6 : th < ts) (hl : l.length = n) (hn : 1 ≤ n) (hb : n ≤ 900) (hT : (List.take n (List.drop (off - off) l)) = l) (hm : m.length = 1) (hz : m.getD 0 0 = 0) (hk : kp ≤ (n : Int))   {Q : Ex → St → Prop} (hq : Q .ret (KSt.low (N2S6 dk th ts kp sd off n off2 e l g_ m g2))) : Gets Tryd.prog (N2H e off l g_ off2 m g2) BN2 (KSt.low (N2S0 dk th ts kp sd off n c off2 c2 e l g_ m g2)) Q := by
  refine AtW.gets ?_
  refine N2to (s' := (N2S1 dk th ts kp sd off n off2 c2 e l g_ m g2)) ((N2W1 ..).trans (by rw [lT, lT2, condT (and_t (siteP_t hd h1 h2 h3 h4 h5 h6) (and_t (by rw [hT, hl]; exact ble_t (by omega)) (by rw [hT, hl]; exact ble_t (by omega)))), (show (List.take n (List.drop (off - off) l)) = l from hT), (show (List.length l) = n from hl)] <;> rfl)) ?_
  refine N2to (s' := (N2S5 dk th ts kp sd off n off2 e l g_ m g2)) ((N2W2 ..).trans (by rw [lT, oA 0, nF] <;> rfl)) ?_
  exact N2fi (x := .ret) (s' := (N2S6 dk th ts kp sd off n off2 e l g_ m g2)) ((N2W3 ..).trans (by rw [condF (not_f (decide_eq_true (by omega))), (show (decide (((n : Nat) : Int) ≥ kp)) = true from decide_eq_true (by omega))] <;> rfl)) hq
theorem N2zn {dk ts kp th : Int} {l : List Int} {n off : Nat} {m : List Int} {sd : Int} {off2 : Nat} {e g_ g2 : TypeId} {c c2 : Nat} (hd : ¬ dk = 0) (h1 : 1 ≤ ts) (h2 : ts ≤ 64) (h3 : 1 ≤ kp) (h4 : kp ≤ 64) (h5 : 0 ≤ th) (h6 : th < ts) (hl : l.length = n) (hn : 1 ≤ n) (hb : n ≤ 900) (hT : (List.take n (List.drop (off - off) l)) = l) (hm : m.length = 1) (hz : m.getD 0 0 = 0) (hk : ¬ kp ≤ (n : Int))   {Q : Ex → St → Prop} (hq : Q .ret (KSt.low (N2S7 dk th ts kp sd off n off2 e l g_ m g2))) : Gets Tryd.prog (N2H e off l g_ off2 m g2) BN2 (KSt.low (N2S0 dk th ts kp sd off n c off2 c2 e l g_ m g2)) Q := by
  refine AtW.gets ?_
  refine N2to (s' := (N2S1 dk th ts kp sd off n off2 c2 e l g_ m g2)) ((N2W1 ..).trans (by rw [lT, lT2, condT (and_t (siteP_t hd h1 h2 h3 h4 h5 h6) (and_t (by rw [hT, hl]; exact ble_t (by omega)) (by rw [hT, hl]; exact ble_t (by omega)))), (show (List.take n (List.drop (off - off) l)) = l from hT), (show (List.length l) = n from hl)] <;> rfl)) ?_
  refine N2to (s' := (N2S5 dk th ts kp sd off n off2 e l g_ m g2)) ((N2W2 ..).trans (by rw [lT, oA 0, nF] <;> rfl)) ?_
  exact N2fi (x := .ret) (s' := (N2S7 dk th ts kp sd off n off2 e l g_ m g2)) ((N2W4 ..).trans (by rw [condT (not_t (decide_eq_false (by omega))), (show (decide (((n : Nat) : Int) ≥ kp)) = false from decide_eq_false (by omega))] <;> rfl)) hq
theorem N2pl {dk ts kp th : Int} {l : List Int} {n off : Nat} {m : List Int} {sd : Int} {off2 : Nat} {e g_ g2 : TypeId} {c c2 : Nat} (hd : ¬ dk = 0) (h1 : 1 ≤ ts) (h2 : ts ≤ 64) (h3 : 1 ≤ kp) (h4 : kp ≤ 64) (h5 : 0 ≤ th) (h6 : th < ts) (hl : l.length = n) (hn : 1 ≤ n) (hb : n ≤ 900) (hT : (List.take n (List.drop (off - off) l)) = l) (hm : m.length = 1) (hz : ¬ m.getD 0 0 = 0) (hk : kp ≤ (n : Int) + 1)   {Q : Ex → St → Prop} (hq : Q .ret (KSt.low (N2S9 dk th ts kp sd off n off2 e l g_ m g2))) : Gets Tryd.prog (N2H e off l g_ off2 m g2) BN2 (KSt.low (N2S0 dk th ts kp sd off n c off2 c2 e l g_ m g2)) Q := by
  refine AtW.gets ?_
  refine N2to (s' := (N2S1 dk th ts kp sd off n off2 c2 e l g_ m g2)) ((N2W1 ..).trans (by rw [lT, lT2, condT (and_t (siteP_t hd h1 h2 h3 h4 h5 h6) (and_t (by rw [hT, hl]; exact ble_t (by omega)) (by rw [hT, hl]; exact ble_t (by omega)))), (show (List.take n (List.drop (off - off) l)) = l from hT), (show (List.length l) = n from hl)] <;> rfl)) ?_
  refine N2to (s' := (N2S8 dk th ts kp sd off n off2 e l g_ m g2)) ((N2W5 ..).trans (by rw [lT, oA 0, nT, lT, lF, condF (and_f1 (nbeq_f (by omega))), condT (and_t (ble_t (by (first | omega | ((try simp (disch := omega) only [wrap_i64_id]) <;> omega)))) (ble_t (by omega)))] <;> rfl)) ?_
  exact N2fi (x := .ret) (s' := (N2S9 dk th ts kp sd off n off2 e l g_ m g2)) ((N2W6 ..).trans (by rw [condF (not_f (decide_eq_true (by omega))), (show (decide ((((n + 1) : Nat) : Int) ≥ kp)) = true from decide_eq_true (by omega))] <;> rfl)) hq
theorem N2pn {dk ts kp th : Int} {l : List Int} {n off : Nat} {m : List Int} {sd : Int} {off2 : Nat} {e g_ g2 : TypeId} {c c2 : Nat} (hd : ¬ dk = 0) (h1 : 1 ≤ ts) (h2 : ts ≤ 64) (h3 : 1 ≤ kp) (h4 : kp ≤ 64) (h5 : 0 ≤ th) (h6 : th < ts) (hl : l.length = n) (hn : 1 ≤ n) (hb : n ≤ 900) (hT : (List.take n (List.drop (off - off) l)) = l) (hm : m.length = 1) (hz : ¬ m.getD 0 0 = 0) (hk : ¬ kp ≤ (n : Int) + 1)   {Q : Ex → St → Prop} (hq : Q .ret (KSt.low (N2S10 dk th ts kp sd off n off2 e l g_ m g2))) : Gets Tryd.prog (N2H e off l g_ off2 m g2) BN2 (KSt.low (N2S0 dk th ts kp sd off n c off2 c2 e l g_ m g2)) Q := by
  refine AtW.gets ?_
  refine N2to (s' := (N2S1 dk th ts kp sd off n off2 c2 e l g_ m g2)) ((N2W1 ..).trans (by rw [lT, lT2, condT (and_t (siteP_t hd h1 h2 h3 h4 h5 h6) (and_t (by rw [hT, hl]; exact ble_t (by omega)) (by rw [hT, hl]; exact ble_t (by omega)))), (show (List.take n (List.drop (off - off) l)) = l from hT), (show (List.length l) = n from hl)] <;> rfl)) ?_
  refine N2to (s' := (N2S8 dk th ts kp sd off n off2 e l g_ m g2)) ((N2W5 ..).trans (by rw [lT, oA 0, nT, lT, lF, condF (and_f1 (nbeq_f (by omega))), condT (and_t (ble_t (by (first | omega | ((try simp (disch := omega) only [wrap_i64_id]) <;> omega)))) (ble_t (by omega)))] <;> rfl)) ?_
  exact N2fi (x := .ret) (s' := (N2S10 dk th ts kp sd off n off2 e l g_ m g2)) ((N2W7 ..).trans (by rw [condT (not_t (decide_eq_false (by omega))), (show (decide ((((n + 1) : Nat) : Int) ≥ kp)) = false from decide_eq_false (by omega))] <;> rfl)) hq
noncomputable def BN1 : Code := bodyOf Tryd.prog 7
theorem BN1_is : Tryd.f7.body = some BN1 := by kernel_rfl
noncomputable abbrev N1H (e : TypeId) (off : Nat) (l : List Int) (g_ : TypeId) (off2 : Nat) (m : List Int) (g2 : TypeId) : AH := (KH.low ⟨3, 1, [(0, 0, .cells [(.int .i64 1), (.int .i64 64), (.int .i64 1), (.int .i64 64)] e false), (1, 0, .tail off .u64 l g_), (2, 0, .tail off2 .u64 m g2)]⟩)
noncomputable abbrev N1EA (c : Code) (lv p : List Nat) (st : Option (List Nat)) (ws : List Bool) (s : KSt) : Option Rs := evA (evCK Tryd.prog cfgE (runK Tryd.prog cfgE fsE (conTk lkbDom (rcK varL lkbT)) 14 40) 14) (stopW 3 lv) p c st ws s (finW 3 lv)
theorem N1to {c_ : Code} {lv_ p_ p2_ : List Nat} {ws_ : List Bool} {st_ s' : KSt} {Q : Ex → St → Prop} {e : TypeId} {off : Nat} {l : List Int} {g_ : TypeId} {off2 : Nat} {m : List Int} {g2 : TypeId} (hE_ : N1EA c_ lv_ p_ (some p2_) ws_ st_ = some (.stop s')) (hq_ : AtW Tryd.prog (N1H e off l g_ off2 m g2) c_ p2_ s' Q) (hok_ : okCode Tryd.prog.globals.size c_ = true := by kernel_rfl) : AtW Tryd.prog (N1H e off l g_ off2 m g2) c_ p_ st_ Q := AtW.to fitE lkb_sound (rc_agree _ _ _) 14 40 hok_ hE_ hq_
theorem N1fi {c_ : Code} {lv_ p_ : List Nat} {ws_ : List Bool} {st_ s' : KSt} {x : Ex} {Q : Ex → St → Prop} {e : TypeId} {off : Nat} {l : List Int} {g_ : TypeId} {off2 : Nat} {m : List Int} {g2 : TypeId} (hE_ : N1EA c_ lv_ p_ none ws_ st_ = some (.fin x s')) (hq_ : Q x s'.low) (hok_ : okCode Tryd.prog.globals.size c_ = true := by kernel_rfl) : AtW Tryd.prog (N1H e off l g_ off2 m g2) c_ p_ st_ Q := AtW.fin fitE lkb_sound (rc_agree _ _ _) 14 40 hok_ hE_ hq_
section
variable (dk th ts kp sd : Int) (off c off2 c2 : Nat) (e : TypeId) (l : List Int) (g_ : TypeId) (m : List Int) (g2 : TypeId) (zn1 : Int)
noncomputable abbrev N1O0 (e : TypeId) : KObj := .cells [(.int .i64 1), (.int .i64 64), (.int .i64 1), (.int .i64 64)] e false
noncomputable def N1S0 : KSt := (firstK [(.agg #[(.int .u64 dk), (.int .i64 th), (.int .i64 ts), (.int .i64 kp), (.int .u64 sd)]), (.slice (some ⟨1, off, none⟩) 0 c), (.slice (some ⟨2, off2, none⟩) 1 c2)] 79 ⟨3, 1, [(0, 0, (N1O0 e)), (1, 0, .tail off .u64 l g_), (2, 0, .tail off2 .u64 m g2)]⟩)
theorem N1W1 : N1EA BN1 [3, 7] [] (some [1, 1, 1]) [true] (N1S0 dk th ts kp sd off c off2 c2 e l g_ m g2) =
  bif (Nat.ble off off) then
    bif (Nat.ble ((off - off) + 0) (List.length l)) then
      bif ((siteP dk th ts kp) && (Nat.beq (List.length (List.take 0 (List.drop (off - off) l))) 0)) then
        bif (Nat.ble off2 (off2 + 0)) then
          obind (m[((off2 + 0) - off2)]?) fun zn1 =>
            bif (zn1 != 0) then
              some (.stop ⟨(frameL 79 [(3, (.pointer (some ⟨3, 0, none⟩))), (7, (.pointer (some ⟨4, 0, none⟩)))]), ⟨7, 1, [(6, 0, .dict .u64 .i64 (DictSt.set (DictSt.mk [] 0) zn1 1)), (5, 0, .cells [(.int .u64 zn1)] 22 true), (4, 0, .cells [(.int .u64 dk), (.int .i64 th), (.int .i64 ts), (.int .i64 kp), (.int .u64 sd), (.bool true), (.bool false), (.int .i64 0), (.slice (some ⟨5, 0, none⟩) 1 1), (.int .i64 0), (.map (some 6)), (.slice none 0 0)] 55 true), (3, 0, .cells [(.int .u64 dk), (.int .i64 th), (.int .i64 ts), (.int .i64 kp), (.int .u64 sd)] 24 true), (0, 0, .cells [(.int .i64 1), (.int .i64 64), (.int .i64 1), (.int .i64 64)] e false), (1, 0, .tail off .u64 l g_), (2, 0, .tail off2 .u64 m g2)]⟩⟩)
            else
              some (.stop ⟨(frameL 79 [(3, (.pointer (some ⟨3, 0, none⟩))), (7, (.pointer (some ⟨4, 0, none⟩)))]), ⟨6, 1, [(5, 0, .dict .u64 .i64 (DictSt.mk [] 0)), (4, 0, .cells [(.int .u64 dk), (.int .i64 th), (.int .i64 ts), (.int .i64 kp), (.int .u64 sd), (.bool true), (.bool false), (.int .i64 0), (.slice (some ⟨0, 0, none⟩) 0 0), (.int .i64 0), (.map (some 5)), (.slice none 0 0)] 55 true), (3, 0, .cells [(.int .u64 dk), (.int .i64 th), (.int .i64 ts), (.int .i64 kp), (.int .u64 sd)] 24 true), (0, 0, .cells [(.int .i64 1), (.int .i64 64), (.int .i64 1), (.int .i64 64)] e false), (1, 0, .tail off .u64 l g_), (2, 0, .tail off2 .u64 m g2)]⟩⟩)
        else
          none
      else
        none
    else
      none
  else
    none := by kernel_rfl
noncomputable def N1S2 : KSt := ⟨(frameL 79 [(3, (.pointer (some ⟨3, 0, none⟩))), (7, (.pointer (some ⟨4, 0, none⟩)))]), ⟨6, 1, [(5, 0, .dict .u64 .i64 (DictSt.mk [] 0)), (4, 0, .cells [(.int .u64 dk), (.int .i64 th), (.int .i64 ts), (.int .i64 kp), (.int .u64 sd), (.bool true), (.bool false), (.int .i64 0), (.slice (some ⟨0, 0, none⟩) 0 0), (.int .i64 0), (.map (some 5)), (.slice none 0 0)] 55 true), (3, 0, .cells [(.int .u64 dk), (.int .i64 th), (.int .i64 ts), (.int .i64 kp), (.int .u64 sd)] 24 true), (0, 0, (N1O0 e)), (1, 0, .tail off .u64 l g_), (2, 0, .tail off2 .u64 m g2)]⟩⟩
theorem N1W2 : N1EA BN1 [6] [1, 1, 1] none [true] (N1S2 dk th ts kp sd off off2 e l g_ m g2) =
  bif (!(decide (0 ≥ kp))) then
    some (.fin .ret ⟨(frameL 79 [(6, (.pointer (some ⟨3, 0, none⟩)))]), ⟨5, 1, [(4, 0, .dict .u64 .i64 (DictSt.mk [] 0)), (3, 0, .cells [(.int .u64 dk), (.int .i64 th), (.int .i64 ts), (.int .i64 kp), (.int .u64 sd), (.bool true), (.bool (decide (0 ≥ kp))), (.int .i64 0), (.slice (some ⟨0, 0, none⟩) 0 0), (.int .i64 0), (.map (some 4)), (.slice (some ⟨0, 0, none⟩) 0 0)] 55 true), (0, 0, .cells [(.int .i64 1), (.int .i64 64), (.int .i64 1), (.int .i64 64)] e false), (1, 0, .tail off .u64 l g_), (2, 0, .tail off2 .u64 m g2)]⟩⟩)
  else
    none := by kernel_rfl
noncomputable def N1S3 : KSt := ⟨(frameL 79 [(6, (.pointer (some ⟨3, 0, none⟩)))]), ⟨5, 1, [(4, 0, .dict .u64 .i64 (DictSt.mk [] 0)), (3, 0, .cells [(.int .u64 dk), (.int .i64 th), (.int .i64 ts), (.int .i64 kp), (.int .u64 sd), (.bool true), (.bool false), (.int .i64 0), (.slice (some ⟨0, 0, none⟩) 0 0), (.int .i64 0), (.map (some 4)), (.slice (some ⟨0, 0, none⟩) 0 0)] 55 true), (0, 0, (N1O0 e)), (1, 0, .tail off .u64 l g_), (2, 0, .tail off2 .u64 m g2)]⟩⟩
theorem N1W3 : N1EA BN1 [3, 7] [] (some [1, 1, 1]) [true] (N1S0 dk th ts kp sd off c off2 c2 e l g_ m g2) =
  bif (Nat.ble off off) then
    bif (Nat.ble ((off - off) + 0) (List.length l)) then
      bif ((siteP dk th ts kp) && (Nat.beq (List.length (List.take 0 (List.drop (off - off) l))) 0)) then
        bif (Nat.ble off2 (off2 + 0)) then
          obind (m[((off2 + 0) - off2)]?) fun zn1 =>
            bif (zn1 != 0) then
              some (.stop ⟨(frameL 79 [(3, (.pointer (some ⟨3, 0, none⟩))), (7, (.pointer (some ⟨4, 0, none⟩)))]), ⟨7, 1, [(6, 0, .dict .u64 .i64 (DictSt.set (DictSt.mk [] 0) zn1 1)), (5, 0, .cells [(.int .u64 zn1)] 22 true), (4, 0, .cells [(.int .u64 dk), (.int .i64 th), (.int .i64 ts), (.int .i64 kp), (.int .u64 sd), (.bool true), (.bool false), (.int .i64 0), (.slice (some ⟨5, 0, none⟩) 1 1), (.int .i64 0), (.map (some 6)), (.slice none 0 0)] 55 true), (3, 0, .cells [(.int .u64 dk), (.int .i64 th), (.int .i64 ts), (.int .i64 kp), (.int .u64 sd)] 24 true), (0, 0, .cells [(.int .i64 1), (.int .i64 64), (.int .i64 1), (.int .i64 64)] e false), (1, 0, .tail off .u64 l g_), (2, 0, .tail off2 .u64 m g2)]⟩⟩)
            else
              some (.stop (N1S2 dk th ts kp sd off off2 e l g_ m g2))
        else
          none
      else
        none
    else
      none
  else
    none := by kernel_rfl
noncomputable def N1S4 : KSt := ⟨(frameL 79 [(3, (.pointer (some ⟨3, 0, none⟩))), (7, (.pointer (some ⟨4, 0, none⟩)))]), ⟨7, 1, [(6, 0, .dict .u64 .i64 (DictSt.set (DictSt.mk [] 0) (m.getD 0 0) 1)), (5, 0, .cells [(.int .u64 (m.getD 0 0))] 22 true), (4, 0, .cells [(.int .u64 dk), (.int .i64 th), (.int .i64 ts), (.int .i64 kp), (.int .u64 sd), (.bool true), (.bool false), (.int .i64 0), (.slice (some ⟨5, 0, none⟩) 1 1), (.int .i64 0), (.map (some 6)), (.slice none 0 0)] 55 true), (3, 0, .cells [(.int .u64 dk), (.int .i64 th), (.int .i64 ts), (.int .i64 kp), (.int .u64 sd)] 24 true), (0, 0, (N1O0 e)), (1, 0, .tail off .u64 l g_), (2, 0, .tail off2 .u64 m g2)]⟩⟩
theorem N1W4 : N1EA BN1 [6] [1, 1, 1] none [false] (N1S4 dk th ts kp sd off off2 e l g_ m g2) =
  bif (!(decide (1 ≥ kp))) then
    none
  else
    some (.fin .ret ⟨(frameL 79 [(6, (.pointer (some ⟨3, 0, none⟩)))]), ⟨6, 1, [(5, 0, .dict .u64 .i64 (DictSt.set (DictSt.mk [] 0) (m.getD 0 0) 1)), (4, 0, .cells [(.int .u64 (m.getD 0 0))] 22 true), (3, 0, .cells [(.int .u64 dk), (.int .i64 th), (.int .i64 ts), (.int .i64 kp), (.int .u64 sd), (.bool true), (.bool (decide (1 ≥ kp))), (.int .i64 0), (.slice (some ⟨4, 0, none⟩) 1 1), (.int .i64 0), (.map (some 5)), (.slice none 0 0)] 55 true), (0, 0, .cells [(.int .i64 1), (.int .i64 64), (.int .i64 1), (.int .i64 64)] e false), (1, 0, .tail off .u64 l g_), (2, 0, .tail off2 .u64 m g2)]⟩⟩) := by kernel_rfl
noncomputable def N1S5 : KSt := ⟨(frameL 79 [(6, (.pointer (some ⟨3, 0, none⟩)))]), ⟨6, 1, [(5, 0, .dict .u64 .i64 (DictSt.set (DictSt.mk [] 0) (m.getD 0 0) 1)), (4, 0, .cells [(.int .u64 (m.getD 0 0))] 22 true), (3, 0, .cells [(.int .u64 dk), (.int .i64 th), (.int .i64 ts), (.int .i64 kp), (.int .u64 sd), (.bool true), (.bool true), (.int .i64 0), (.slice (some ⟨4, 0, none⟩) 1 1), (.int .i64 0), (.map (some 5)), (.slice none 0 0)] 55 true), (0, 0, (N1O0 e)), (1, 0, .tail off .u64 l g_), (2, 0, .tail off2 .u64 m g2)]⟩⟩
theorem N1W5 : N1EA BN1 [6] [1, 1, 1] none [true] (N1S4 dk th ts kp sd off off2 e l g_ m g2) =
  bif (!(decide (1 ≥ kp))) then
    some (.fin .ret ⟨(frameL 79 [(6, (.pointer (some ⟨3, 0, none⟩)))]), ⟨6, 1, [(5, 0, .dict .u64 .i64 (DictSt.set (DictSt.mk [] 0) (m.getD 0 0) 1)), (4, 0, .cells [(.int .u64 (m.getD 0 0))] 22 true), (3, 0, .cells [(.int .u64 dk), (.int .i64 th), (.int .i64 ts), (.int .i64 kp), (.int .u64 sd), (.bool true), (.bool (decide (1 ≥ kp))), (.int .i64 0), (.slice (some ⟨4, 0, none⟩) 1 1), (.int .i64 0), (.map (some 5)), (.slice (some ⟨4, 0, none⟩) 1 1)] 55 true), (0, 0, .cells [(.int .i64 1), (.int .i64 64), (.int .i64 1), (.int .i64 64)] e false), (1, 0, .tail off .u64 l g_), (2, 0, .tail off2 .u64 m g2)]⟩⟩)
  else
    none := by kernel_rfl
noncomputable def N1S6 : KSt := ⟨(frameL 79 [(6, (.pointer (some ⟨3, 0, none⟩)))]), ⟨6, 1, [(5, 0, .dict .u64 .i64 (DictSt.set (DictSt.mk [] 0) (m.getD 0 0) 1)), (4, 0, .cells [(.int .u64 (m.getD 0 0))] 22 true), (3, 0, .cells [(.int .u64 dk), (.int .i64 th), (.int .i64 ts), (.int .i64 kp), (.int .u64 sd), (.bool true), (.bool false), (.int .i64 0), (.slice (some ⟨4, 0, none⟩) 1 1), (.int .i64 0), (.map (some 5)), (.slice (some ⟨4, 0, none⟩) 1 1)] 55 true), (0, 0, (N1O0 e)), (1, 0, .tail off .u64 l g_), (2, 0, .tail off2 .u64 m g2)]⟩⟩
end
theorem N1zn {dk ts kp th : Int} {l m : List Int} {sd : Int} {off off2 : Nat} {e g_ g2 : TypeId} {c c2 : Nat} (hd : ¬ dk = 0) (h1 : 1 ≤ ts) (h2 : ts ≤ 64) (h3 : 1 ≤ kp) (h4 : kp ≤ 64) (h5 : 0 ≤ th) (h6 : th < ts) (hl : l.length = 0) (hm : m.length = 1) (hz : m.getD 0 0 = 0)   {Q : Ex → St → Prop} (hq : Q .ret (KSt.low (N1S3 dk th ts kp sd off off2 e l g_ m g2))) : Gets Tryd.prog (N1H e off l g_ off2 m g2) BN1 (KSt.low (N1S0 dk th ts kp sd off c off2 c2 e l g_ m g2)) Q := by
  refine AtW.gets ?_
  refine N1to (s' := (N1S2 dk th ts kp sd off off2 e l g_ m g2)) ((N1W1 ..).trans (by rw [lT, lT2, condT (and_t (siteP_t hd h1 h2 h3 h4 h5 h6) (show (Nat.beq (List.length (List.take 0 (List.drop (off - off) l))) 0) = true from rfl)), lT, oA 0, nF] <;> rfl)) ?_
  exact N1fi (x := .ret) (s' := (N1S3 dk th ts kp sd off off2 e l g_ m g2)) ((N1W2 ..).trans (by rw [condT (not_t (decide_eq_false (by omega))), (show (decide (0 ≥ kp)) = false from decide_eq_false (by omega))] <;> rfl)) hq
theorem N1pl {dk ts kp th : Int} {l m : List Int} {sd : Int} {off off2 : Nat} {e g_ g2 : TypeId} {c c2 : Nat} (hd : ¬ dk = 0) (h1 : 1 ≤ ts) (h2 : ts ≤ 64) (h3 : 1 ≤ kp) (h4 : kp ≤ 64) (h5 : 0 ≤ th) (h6 : th < ts) (hl : l.length = 0) (hm : m.length = 1) (hz : ¬ m.getD 0 0 = 0) (hk : kp ≤ 1)   {Q : Ex → St → Prop} (hq : Q .ret (KSt.low (N1S5 dk th ts kp sd off off2 e l g_ m g2))) : Gets Tryd.prog (N1H e off l g_ off2 m g2) BN1 (KSt.low (N1S0 dk th ts kp sd off c off2 c2 e l g_ m g2)) Q := by
  refine AtW.gets ?_
  refine N1to (s' := (N1S4 dk th ts kp sd off off2 e l g_ m g2)) ((N1W3 ..).trans (by rw [lT, lT2, condT (and_t (siteP_t hd h1 h2 h3 h4 h5 h6) (show (Nat.beq (List.length (List.take 0 (List.drop (off - off) l))) 0) = true from rfl)), lT, oA 0, nT] <;> rfl)) ?_
  exact N1fi (x := .ret) (s' := (N1S5 dk th ts kp sd off off2 e l g_ m g2)) ((N1W4 ..).trans (by rw [condF (not_f (decide_eq_true (by omega))), (show (decide (1 ≥ kp)) = true from decide_eq_true (by omega))] <;> rfl)) hq
theorem N1pn {dk ts kp th : Int} {l m : List Int} {sd : Int} {off off2 : Nat} {e g_ g2 : TypeId} {c c2 : Nat} (hd : ¬ dk = 0) (h1 : 1 ≤ ts) (h2 : ts ≤ 64) (h3 : 1 ≤ kp) (h4 : kp ≤ 64) (h5 : 0 ≤ th) (h6 : th < ts) (hl : l.length = 0) (hm : m.length = 1) (hz : ¬ m.getD 0 0 = 0) (hk : ¬ kp ≤ 1)   {Q : Ex → St → Prop} (hq : Q .ret (KSt.low (N1S6 dk th ts kp sd off off2 e l g_ m g2))) : Gets Tryd.prog (N1H e off l g_ off2 m g2) BN1 (KSt.low (N1S0 dk th ts kp sd off c off2 c2 e l g_ m g2)) Q := by
  refine AtW.gets ?_
  refine N1to (s' := (N1S4 dk th ts kp sd off off2 e l g_ m g2)) ((N1W3 ..).trans (by rw [lT, lT2, condT (and_t (siteP_t hd h1 h2 h3 h4 h5 h6) (show (Nat.beq (List.length (List.take 0 (List.drop (off - off) l))) 0) = true from rfl)), lT, oA 0, nT] <;> rfl)) ?_
  exact N1fi (x := .ret) (s' := (N1S6 dk th ts kp sd off off2 e l g_ m g2)) ((N1W5 ..).trans (by rw [condT (not_t (decide_eq_false (by omega))), (show (decide (1 ≥ kp)) = false from decide_eq_false (by omega))] <;> rfl)) hq
noncomputable def BN0 : Code := bodyOf Tryd.prog 7
theorem BN0_is : Tryd.f7.body = some BN0 := by kernel_rfl
noncomputable abbrev N0H (e : TypeId) (off2 : Nat) (m : List Int) (g2 : TypeId) : AH := (KH.low ⟨2, 1, [(0, 0, .cells [(.int .i64 1), (.int .i64 64), (.int .i64 1), (.int .i64 64)] e false), (1, 0, .tail off2 .u64 m g2)]⟩)
noncomputable abbrev N0EA (c : Code) (lv p : List Nat) (st : Option (List Nat)) (ws : List Bool) (s : KSt) : Option Rs := evA (evCK Tryd.prog cfgE (runK Tryd.prog cfgE fsE (conTk lkbDom (rcK varL lkbT)) 14 40) 14) (stopW 2 lv) p c st ws s (finW 2 lv)
theorem N0to {c_ : Code} {lv_ p_ p2_ : List Nat} {ws_ : List Bool} {st_ s' : KSt} {Q : Ex → St → Prop} {e : TypeId} {off2 : Nat} {m : List Int} {g2 : TypeId} (hE_ : N0EA c_ lv_ p_ (some p2_) ws_ st_ = some (.stop s')) (hq_ : AtW Tryd.prog (N0H e off2 m g2) c_ p2_ s' Q) (hok_ : okCode Tryd.prog.globals.size c_ = true := by kernel_rfl) : AtW Tryd.prog (N0H e off2 m g2) c_ p_ st_ Q := AtW.to fitE lkb_sound (rc_agree _ _ _) 14 40 hok_ hE_ hq_
theorem N0fi {c_ : Code} {lv_ p_ : List Nat} {ws_ : List Bool} {st_ s' : KSt} {x : Ex} {Q : Ex → St → Prop} {e : TypeId} {off2 : Nat} {m : List Int} {g2 : TypeId} (hE_ : N0EA c_ lv_ p_ none ws_ st_ = some (.fin x s')) (hq_ : Q x s'.low) (hok_ : okCode Tryd.prog.globals.size c_ = true := by kernel_rfl) : AtW Tryd.prog (N0H e off2 m g2) c_ p_ st_ Q := AtW.fin fitE lkb_sound (rc_agree _ _ _) 14 40 hok_ hE_ hq_
section
variable (dk th ts kp sd : Int) (off2 c2 : Nat) (e : TypeId) (m : List Int) (g2 : TypeId) (zn1 : Int)
noncomputable abbrev N0O0 (e : TypeId) : KObj := .cells [(.int .i64 1), (.int .i64 64), (.int .i64 1), (.int .i64 64)] e false
noncomputable def N0S0 : KSt := (firstK [(.agg #[(.int .u64 dk), (.int .i64 th), (.int .i64 ts), (.int .i64 kp), (.int .u64 sd)]), (.slice (some ⟨0, 0, some 0⟩) 0 0), (.slice (some ⟨1, off2, none⟩) 1 c2)] 79 ⟨2, 1, [(0, 0, (N0O0 e)), (1, 0, .tail off2 .u64 m g2)]⟩)
theorem N0W1 : N0EA BN0 [3, 7] [] (some [1, 1, 1]) [true] (N0S0 dk th ts kp sd off2 c2 e m g2) =
  bif ((siteP dk th ts kp) && (Nat.beq (List.length ([] : List Int)) 0)) then
    bif (Nat.ble off2 (off2 + 0)) then
      obind (m[((off2 + 0) - off2)]?) fun zn1 =>
        bif (zn1 != 0) then
          some (.stop ⟨(frameL 79 [(3, (.pointer (some ⟨2, 0, none⟩))), (7, (.pointer (some ⟨3, 0, none⟩)))]), ⟨6, 1, [(5, 0, .dict .u64 .i64 (DictSt.set (DictSt.mk [] 0) zn1 1)), (4, 0, .cells [(.int .u64 zn1)] 22 true), (3, 0, .cells [(.int .u64 dk), (.int .i64 th), (.int .i64 ts), (.int .i64 kp), (.int .u64 sd), (.bool true), (.bool false), (.int .i64 0), (.slice (some ⟨4, 0, none⟩) 1 1), (.int .i64 0), (.map (some 5)), (.slice none 0 0)] 55 true), (2, 0, .cells [(.int .u64 dk), (.int .i64 th), (.int .i64 ts), (.int .i64 kp), (.int .u64 sd)] 24 true), (0, 0, .cells [(.int .i64 1), (.int .i64 64), (.int .i64 1), (.int .i64 64)] e false), (1, 0, .tail off2 .u64 m g2)]⟩⟩)
        else
          some (.stop ⟨(frameL 79 [(3, (.pointer (some ⟨2, 0, none⟩))), (7, (.pointer (some ⟨3, 0, none⟩)))]), ⟨5, 1, [(4, 0, .dict .u64 .i64 (DictSt.mk [] 0)), (3, 0, .cells [(.int .u64 dk), (.int .i64 th), (.int .i64 ts), (.int .i64 kp), (.int .u64 sd), (.bool true), (.bool false), (.int .i64 0), (.slice (some ⟨0, 0, none⟩) 0 0), (.int .i64 0), (.map (some 4)), (.slice none 0 0)] 55 true), (2, 0, .cells [(.int .u64 dk), (.int .i64 th), (.int .i64 ts), (.int .i64 kp), (.int .u64 sd)] 24 true), (0, 0, .cells [(.int .i64 1), (.int .i64 64), (.int .i64 1), (.int .i64 64)] e false), (1, 0, .tail off2 .u64 m g2)]⟩⟩)
    else
      none
  else
    none := by kernel_rfl
noncomputable def N0S2 : KSt := ⟨(frameL 79 [(3, (.pointer (some ⟨2, 0, none⟩))), (7, (.pointer (some ⟨3, 0, none⟩)))]), ⟨5, 1, [(4, 0, .dict .u64 .i64 (DictSt.mk [] 0)), (3, 0, .cells [(.int .u64 dk), (.int .i64 th), (.int .i64 ts), (.int .i64 kp), (.int .u64 sd), (.bool true), (.bool false), (.int .i64 0), (.slice (some ⟨0, 0, none⟩) 0 0), (.int .i64 0), (.map (some 4)), (.slice none 0 0)] 55 true), (2, 0, .cells [(.int .u64 dk), (.int .i64 th), (.int .i64 ts), (.int .i64 kp), (.int .u64 sd)] 24 true), (0, 0, (N0O0 e)), (1, 0, .tail off2 .u64 m g2)]⟩⟩
theorem N0W2 : N0EA BN0 [6] [1, 1, 1] none [true] (N0S2 dk th ts kp sd off2 e m g2) =
  bif (!(decide (0 ≥ kp))) then
    some (.fin .ret ⟨(frameL 79 [(6, (.pointer (some ⟨2, 0, none⟩)))]), ⟨4, 1, [(3, 0, .dict .u64 .i64 (DictSt.mk [] 0)), (2, 0, .cells [(.int .u64 dk), (.int .i64 th), (.int .i64 ts), (.int .i64 kp), (.int .u64 sd), (.bool true), (.bool (decide (0 ≥ kp))), (.int .i64 0), (.slice (some ⟨0, 0, none⟩) 0 0), (.int .i64 0), (.map (some 3)), (.slice (some ⟨0, 0, none⟩) 0 0)] 55 true), (0, 0, .cells [(.int .i64 1), (.int .i64 64), (.int .i64 1), (.int .i64 64)] e false), (1, 0, .tail off2 .u64 m g2)]⟩⟩)
  else
    none := by kernel_rfl
noncomputable def N0S3 : KSt := ⟨(frameL 79 [(6, (.pointer (some ⟨2, 0, none⟩)))]), ⟨4, 1, [(3, 0, .dict .u64 .i64 (DictSt.mk [] 0)), (2, 0, .cells [(.int .u64 dk), (.int .i64 th), (.int .i64 ts), (.int .i64 kp), (.int .u64 sd), (.bool true), (.bool false), (.int .i64 0), (.slice (some ⟨0, 0, none⟩) 0 0), (.int .i64 0), (.map (some 3)), (.slice (some ⟨0, 0, none⟩) 0 0)] 55 true), (0, 0, (N0O0 e)), (1, 0, .tail off2 .u64 m g2)]⟩⟩
theorem N0W3 : N0EA BN0 [3, 7] [] (some [1, 1, 1]) [true] (N0S0 dk th ts kp sd off2 c2 e m g2) =
  bif ((siteP dk th ts kp) && (Nat.beq (List.length ([] : List Int)) 0)) then
    bif (Nat.ble off2 (off2 + 0)) then
      obind (m[((off2 + 0) - off2)]?) fun zn1 =>
        bif (zn1 != 0) then
          some (.stop ⟨(frameL 79 [(3, (.pointer (some ⟨2, 0, none⟩))), (7, (.pointer (some ⟨3, 0, none⟩)))]), ⟨6, 1, [(5, 0, .dict .u64 .i64 (DictSt.set (DictSt.mk [] 0) zn1 1)), (4, 0, .cells [(.int .u64 zn1)] 22 true), (3, 0, .cells [(.int .u64 dk), (.int .i64 th), (.int .i64 ts), (.int .i64 kp), (.int .u64 sd), (.bool true), (.bool false), (.int .i64 0), (.slice (some ⟨4, 0, none⟩) 1 1), (.int .i64 0), (.map (some 5)), (.slice none 0 0)] 55 true), (2, 0, .cells [(.int .u64 dk), (.int .i64 th), (.int .i64 ts), (.int .i64 kp), (.int .u64 sd)] 24 true), (0, 0, .cells [(.int .i64 1), (.int .i64 64), (.int .i64 1), (.int .i64 64)] e false), (1, 0, .tail off2 .u64 m g2)]⟩⟩)
        else
          some (.stop (N0S2 dk th ts kp sd off2 e m g2))
    else
      none
  else
    none := by kernel_rfl
noncomputable def N0S4 : KSt := ⟨(frameL 79 [(3, (.pointer (some ⟨2, 0, none⟩))), (7, (.pointer (some ⟨3, 0, none⟩)))]), ⟨6, 1, [(5, 0, .dict .u64 .i64 (DictSt.set (DictSt.mk [] 0) (m.getD 0 0) 1)), (4, 0, .cells [(.int .u64 (m.getD 0 0))] 22 true), (3, 0, .cells [(.int .u64 dk), (.int .i64 th), (.int .i64 ts), (.int .i64 kp), (.int .u64 sd), (.bool true), (.bool false), (.int .i64 0), (.slice (some ⟨4, 0, none⟩) 1 1), (.int .i64 0), (.map (some 5)), (.slice none 0 0)] 55 true), (2, 0, .cells [(.int .u64 dk), (.int .i64 th), (.int .i64 ts), (.int .i64 kp), (.int .u64 sd)] 24 true), (0, 0, (N0O0 e)), (1, 0, .tail off2 .u64 m g2)]⟩⟩
theorem N0W4 : N0EA BN0 [6] [1, 1, 1] none [false] (N0S4 dk th ts kp sd off2 e m g2) =
  bif (!(decide (1 ≥ kp))) then
    none
  else
    some (.fin .ret ⟨(frameL 79 [(6, (.pointer (some ⟨2, 0, none⟩)))]), ⟨5, 1, [(4, 0, .dict .u64 .i64 (DictSt.set (DictSt.mk [] 0) (m.getD 0 0) 1)), (3, 0, .cells [(.int .u64 (m.getD 0 0))] 22 true), (2, 0, .cells [(.int .u64 dk), (.int .i64 th), (.int .i64 ts), (.int .i64 kp), (.int .u64 sd), (.bool true), (.bool (decide (1 ≥ kp))), (.int .i64 0), (.slice (some ⟨3, 0, none⟩) 1 1), (.int .i64 0), (.map (some 4)), (.slice none 0 0)] 55 true), (0, 0, .cells [(.int .i64 1), (.int .i64 64), (.int .i64 1), (.int .i64 64)] e false), (1, 0, .tail off2 .u64 m g2)]⟩⟩) := by kernel_rfl
noncomputable def N0S5 : KSt := ⟨(frameL 79 [(6, (.pointer (some ⟨2, 0, none⟩)))]), ⟨5, 1, [(4, 0, .dict .u64 .i64 (DictSt.set (DictSt.mk [] 0) (m.getD 0 0) 1)), (3, 0, .cells [(.int .u64 (m.getD 0 0))] 22 true), (2, 0, .cells [(.int .u64 dk), (.int .i64 th), (.int .i64 ts), (.int .i64 kp), (.int .u64 sd), (.bool true), (.bool true), (.int .i64 0), (.slice (some ⟨3, 0, none⟩) 1 1), (.int .i64 0), (.map (some 4)), (.slice none 0 0)] 55 true), (0, 0, (N0O0 e)), (1, 0, .tail off2 .u64 m g2)]⟩⟩
theorem N0W5 : N0EA BN0 [6] [1, 1, 1] none [true] (N0S4 dk th ts kp sd off2 e m g2) =
  bif (!(decide (1 ≥ kp))) then
    some (.fin .ret ⟨(frameL 79 [(6, (.pointer (some ⟨2, 0, none⟩)))]), ⟨5, 1, [(4, 0, .dict .u64 .i64 (DictSt.set (DictSt.mk [] 0) (m.getD 0 0) 1)), (3, 0, .cells [(.int .u64 (m.getD 0 0))] 22 true), (2, 0, .cells [(.int .u64 dk), (.int .i64 th), (.int .i64 ts), (.int .i64 kp), (.int .u64 sd), (.bool true), (.bool (decide (1 ≥ kp))), (.int .i64 0), (.slice (some ⟨3, 0, none⟩) 1 1), (.int .i64 0), (.map (some 4)), (.slice (some ⟨3, 0, none⟩) 1 1)] 55 true), (0, 0, .cells [(.int .i64 1), (.int .i64 64), (.int .i64 1), (.int .i64 64)] e false), (1, 0, .tail off2 .u64 m g2)]⟩⟩)
  else
    none := by kernel_rfl
noncomputable def N0S6 : KSt := ⟨(frameL 79 [(6, (.pointer (some ⟨2, 0, none⟩)))]), ⟨5, 1, [(4, 0, .dict .u64 .i64 (DictSt.set (DictSt.mk [] 0) (m.getD 0 0) 1)), (3, 0, .cells [(.int .u64 (m.getD 0 0))] 22 true), (2, 0, .cells [(.int .u64 dk), (.int .i64 th), (.int .i64 ts), (.int .i64 kp), (.int .u64 sd), (.bool true), (.bool false), (.int .i64 0), (.slice (some ⟨3, 0, none⟩) 1 1), (.int .i64 0), (.map (some 4)), (.slice (some ⟨3, 0, none⟩) 1 1)] 55 true), (0, 0, (N0O0 e)), (1, 0, .tail off2 .u64 m g2)]⟩⟩
end
theorem N0zn {dk ts kp th : Int} {m : List Int} {sd : Int} {off2 : Nat} {e g2 : TypeId} {c2 : Nat} (hd : ¬ dk = 0) (h1 : 1 ≤ ts) (h2 : ts ≤ 64) (h3 : 1 ≤ kp) (h4 : kp ≤ 64) (h5 : 0 ≤ th) (h6 : th < ts) (hm : m.length = 1) (hz : m.getD 0 0 = 0)   {Q : Ex → St → Prop} (hq : Q .ret (KSt.low (N0S3 dk th ts kp sd off2 e m g2))) : Gets Tryd.prog (N0H e off2 m g2) BN0 (KSt.low (N0S0 dk th ts kp sd off2 c2 e m g2)) Q := by
  refine AtW.gets ?_
  refine N0to (s' := (N0S2 dk th ts kp sd off2 e m g2)) ((N0W1 ..).trans (by rw [condT (and_t (siteP_t hd h1 h2 h3 h4 h5 h6) (show (Nat.beq (List.length ([] : List Int)) 0) = true from rfl)), lT, oA 0, nF] <;> rfl)) ?_
  exact N0fi (x := .ret) (s' := (N0S3 dk th ts kp sd off2 e m g2)) ((N0W2 ..).trans (by rw [condT (not_t (decide_eq_false (by omega))), (show (decide (0 ≥ kp)) = false from decide_eq_false (by omega))] <;> rfl)) hq
theorem N0pl {dk ts kp th : Int} {m : List Int} {sd : Int} {off2 : Nat} {e g2 : TypeId} {c2 : Nat} (hd : ¬ dk = 0) (h1 : 1 ≤ ts) (h2 : ts ≤ 64) (h3 : 1 ≤ kp) (h4 : kp ≤ 64) (h5 : 0 ≤ th) (h6 : th < ts) (hm : m.length = 1) (hz : ¬ m.getD 0 0 = 0) (hk : kp ≤ 1)   {Q : Ex → St → Prop} (hq : Q .ret (KSt.low (N0S5 dk th ts kp sd off2 e m g2))) : Gets Tryd.prog (N0H e off2 m g2) BN0 (KSt.low (N0S0 dk th ts kp sd off2 c2 e m g2)) Q := by
  refine AtW.gets ?_
  refine N0to (s' := (N0S4 dk th ts kp sd off2 e m g2)) ((N0W3 ..).trans (by rw [condT (and_t (siteP_t hd h1 h2 h3 h4 h5 h6) (show (Nat.beq (List.length ([] : List Int)) 0) = true from rfl)), lT, oA 0, nT] <;> rfl)) ?_
  exact N0fi (x := .ret) (s' := (N0S5 dk th ts kp sd off2 e m g2)) ((N0W4 ..).trans (by rw [condF (not_f (decide_eq_true (by omega))), (show (decide (1 ≥ kp)) = true from decide_eq_true (by omega))] <;> rfl)) hq
theorem N0pn {dk ts kp th : Int} {m : List Int} {sd : Int} {off2 : Nat} {e g2 : TypeId} {c2 : Nat} (hd : ¬ dk = 0) (h1 : 1 ≤ ts) (h2 : ts ≤ 64) (h3 : 1 ≤ kp) (h4 : kp ≤ 64) (h5 : 0 ≤ th) (h6 : th < ts) (hm : m.length = 1) (hz : ¬ m.getD 0 0 = 0) (hk : ¬ kp ≤ 1)   {Q : Ex → St → Prop} (hq : Q .ret (KSt.low (N0S6 dk th ts kp sd off2 e m g2))) : Gets Tryd.prog (N0H e off2 m g2) BN0 (KSt.low (N0S0 dk th ts kp sd off2 c2 e m g2)) Q := by
  refine AtW.gets ?_
  refine N0to (s' := (N0S4 dk th ts kp sd off2 e m g2)) ((N0W3 ..).trans (by rw [condT (and_t (siteP_t hd h1 h2 h3 h4 h5 h6) (show (Nat.beq (List.length ([] : List Int)) 0) = true from rfl)), lT, oA 0, nT] <;> rfl)) ?_
  exact N0fi (x := .ret) (s' := (N0S6 dk th ts kp sd off2 e m g2)) ((N0W5 ..).trans (by rw [condT (not_t (decide_eq_false (by omega))), (show (decide (1 ≥ kp)) = false from decide_eq_false (by omega))] <;> rfl)) hq
def newW (l : List Int) (b : Int) : List Int := bif b == 0 then l else l ++ [b]
def rtNew (S : SiteSt) (l : List Int) (b : Int) : RetireSt := ⟨S, true, decide (S.keep ≤ (((newW l b).length : Nat) : Int)), 0, newW l b, 0, dictOf (newW l b), [], !decide (S.keep ≤ (((newW l b).length : Nat) : Int))⟩
theorem newW_z {l : List Int} {b : Int} (h : b = 0) : newW l b = l := by unfold newW; rw [show (b == 0) = true by simp [h]]; rfl
theorem newW_p {l : List Int} {b : Int} (h : ¬ b = 0) : newW l b = l ++ [b] := by unfold newW; rw [show (b == 0) = false by simp [h]]; rfl
theorem rtNew_t {S : SiteSt} {l W : List Int} {b : Int} (h : newW l b = W) (hk : S.keep ≤ ((W.length : Nat) : Int)) : rtNew S l b = ⟨S, true, true, 0, W, 0, dictOf W, [], false⟩ := by
  unfold rtNew; rw [h]; simp only [decide_eq_true hk]; rfl
theorem rtNew_f {S : SiteSt} {l W : List Int} {b : Int} (h : newW l b = W) (hk : ¬ S.keep ≤ ((W.length : Nat) : Int)) : rtNew S l b = ⟨S, true, false, 0, W, 0, dictOf W, [], true⟩ := by
  unfold rtNew; rw [h]; simp only [decide_eq_false hk]; rfl
theorem dictOf_snoc (l : List Int) (b : Int) : dictOf (l ++ [b]) = (dictOf l).set b 1 := by unfold dictOf; rw [List.foldl_append]; rfl
theorem nw2zl (e : TypeId) (dk th ts kp sd : Int) (hd : ¬ dk = 0) (h1 : 1 ≤ ts) (h2 : ts ≤ 64) (h3 : 1 ≤ kp) (h4 : kp ≤ 64) (h5 : 0 ≤ th) (h6 : th < ts) (off n c : Nat) (l : List Int) (g_ : TypeId) (off2 c2 : Nat) (m : List Int) (g2 : TypeId) (hl : l.length = n) (hn : 1 ≤ n) (hb : n ≤ 900) (hm : m.length = 1) (hz : m.getD 0 0 = 0) (hk : kp ≤ (n : Int)) : DoesC Tryd.prog 7 [(.agg #[(.int .u64 dk), (.int .i64 th), (.int .i64 ts), (.int .i64 kp), (.int .u64 sd)]), (.slice (some ⟨1, off, none⟩) n c), (.slice (some ⟨2, off2, none⟩) 1 c2)] (mkH [.cells [(.int .i64 1), (.int .i64 64), (.int .i64 1), (.int .i64 64)] e false, .tail off .u64 l g_, .tail off2 .u64 m g2]).low (.pointer (some ⟨3, 0, none⟩)) (effK (mkH [.cells [(.int .i64 1), (.int .i64 64), (.int .i64 1), (.int .i64 64)] e false, .tail off .u64 l g_, .tail off2 .u64 m g2]) [] [.cells [(.int .u64 dk), (.int .i64 th), (.int .i64 ts), (.int .i64 kp), (.int .u64 sd), (.bool true), (.bool true), (.int .i64 0), (.slice (some ⟨4, 0, none⟩) n n), (.int .i64 0), (.map (some 5)), (.slice none 0 0)] 55 true, .ints .u64 l 22 true, .dict .u64 .i64 (dictOf l)]).low := by
  refine EndsK.does Tryd.func7 BN2_is (by rw [oneVar]; exact Nat.le_add_left _ _) ?_
  exact N2zl hd h1 h2 h3 h4 h5 h6 hl hn hb (by rw [Nat.sub_self, List.drop_zero, List.take_of_length_le (by omega)]) hm hz hk (EndsK.ret (l := [(.pointer (some ⟨3, 0, none⟩))]) (by kernel_rfl) rfl (Fits.kh ((growNew (growNew (growNew (Grow.refl _))))) rfl ⟨rfl, rfl, rfl, rfl, rfl, rfl, trivial⟩))
theorem nw2zn (e : TypeId) (dk th ts kp sd : Int) (hd : ¬ dk = 0) (h1 : 1 ≤ ts) (h2 : ts ≤ 64) (h3 : 1 ≤ kp) (h4 : kp ≤ 64) (h5 : 0 ≤ th) (h6 : th < ts) (off n c : Nat) (l : List Int) (g_ : TypeId) (off2 c2 : Nat) (m : List Int) (g2 : TypeId) (hl : l.length = n) (hn : 1 ≤ n) (hb : n ≤ 900) (hm : m.length = 1) (hz : m.getD 0 0 = 0) (hk : ¬ kp ≤ (n : Int)) : DoesC Tryd.prog 7 [(.agg #[(.int .u64 dk), (.int .i64 th), (.int .i64 ts), (.int .i64 kp), (.int .u64 sd)]), (.slice (some ⟨1, off, none⟩) n c), (.slice (some ⟨2, off2, none⟩) 1 c2)] (mkH [.cells [(.int .i64 1), (.int .i64 64), (.int .i64 1), (.int .i64 64)] e false, .tail off .u64 l g_, .tail off2 .u64 m g2]).low (.pointer (some ⟨3, 0, none⟩)) (effK (mkH [.cells [(.int .i64 1), (.int .i64 64), (.int .i64 1), (.int .i64 64)] e false, .tail off .u64 l g_, .tail off2 .u64 m g2]) [] [.cells [(.int .u64 dk), (.int .i64 th), (.int .i64 ts), (.int .i64 kp), (.int .u64 sd), (.bool true), (.bool false), (.int .i64 0), (.slice (some ⟨4, 0, none⟩) n n), (.int .i64 0), (.map (some 5)), (.slice (some ⟨4, 0, none⟩) n n)] 55 true, .ints .u64 l 22 true, .dict .u64 .i64 (dictOf l)]).low := by
  refine EndsK.does Tryd.func7 BN2_is (by rw [oneVar]; exact Nat.le_add_left _ _) ?_
  exact N2zn hd h1 h2 h3 h4 h5 h6 hl hn hb (by rw [Nat.sub_self, List.drop_zero, List.take_of_length_le (by omega)]) hm hz hk (EndsK.ret (l := [(.pointer (some ⟨3, 0, none⟩))]) (by kernel_rfl) rfl (Fits.kh ((growNew (growNew (growNew (Grow.refl _))))) rfl ⟨rfl, rfl, rfl, rfl, rfl, rfl, trivial⟩))
theorem nw2pl (e : TypeId) (dk th ts kp sd : Int) (hd : ¬ dk = 0) (h1 : 1 ≤ ts) (h2 : ts ≤ 64) (h3 : 1 ≤ kp) (h4 : kp ≤ 64) (h5 : 0 ≤ th) (h6 : th < ts) (off n c : Nat) (l : List Int) (g_ : TypeId) (off2 c2 : Nat) (m : List Int) (g2 : TypeId) (hl : l.length = n) (hn : 1 ≤ n) (hb : n ≤ 900) (hm : m.length = 1) (hz : ¬ m.getD 0 0 = 0) (hk : kp ≤ (n : Int) + 1) : DoesC Tryd.prog 7 [(.agg #[(.int .u64 dk), (.int .i64 th), (.int .i64 ts), (.int .i64 kp), (.int .u64 sd)]), (.slice (some ⟨1, off, none⟩) n c), (.slice (some ⟨2, off2, none⟩) 1 c2)] (mkH [.cells [(.int .i64 1), (.int .i64 64), (.int .i64 1), (.int .i64 64)] e false, .tail off .u64 l g_, .tail off2 .u64 m g2]).low (.pointer (some ⟨3, 0, none⟩)) (effK (mkH [.cells [(.int .i64 1), (.int .i64 64), (.int .i64 1), (.int .i64 64)] e false, .tail off .u64 l g_, .tail off2 .u64 m g2]) [] [.cells [(.int .u64 dk), (.int .i64 th), (.int .i64 ts), (.int .i64 kp), (.int .u64 sd), (.bool true), (.bool true), (.int .i64 0), (.slice (some ⟨4, 0, none⟩) (n + 1) (n + 1)), (.int .i64 0), (.map (some 5)), (.slice none 0 0)] 55 true, .ints .u64 (List.take n l ++ [(m.getD 0 0)]) 22 true, .dict .u64 .i64 (DictSt.set (dictOf l) (m.getD 0 0) 1)]).low := by
  refine EndsK.does Tryd.func7 BN2_is (by rw [oneVar]; exact Nat.le_add_left _ _) ?_
  exact N2pl hd h1 h2 h3 h4 h5 h6 hl hn hb (by rw [Nat.sub_self, List.drop_zero, List.take_of_length_le (by omega)]) hm hz hk (EndsK.ret (l := [(.pointer (some ⟨3, 0, none⟩))]) (by kernel_rfl) rfl (Fits.kh ((growNew (growNew (growNew (Grow.refl _))))) rfl ⟨rfl, rfl, rfl, rfl, rfl, rfl, trivial⟩))
theorem nw2pn (e : TypeId) (dk th ts kp sd : Int) (hd : ¬ dk = 0) (h1 : 1 ≤ ts) (h2 : ts ≤ 64) (h3 : 1 ≤ kp) (h4 : kp ≤ 64) (h5 : 0 ≤ th) (h6 : th < ts) (off n c : Nat) (l : List Int) (g_ : TypeId) (off2 c2 : Nat) (m : List Int) (g2 : TypeId) (hl : l.length = n) (hn : 1 ≤ n) (hb : n ≤ 900) (hm : m.length = 1) (hz : ¬ m.getD 0 0 = 0) (hk : ¬ kp ≤ (n : Int) + 1) : DoesC Tryd.prog 7 [(.agg #[(.int .u64 dk), (.int .i64 th), (.int .i64 ts), (.int .i64 kp), (.int .u64 sd)]), (.slice (some ⟨1, off, none⟩) n c), (.slice (some ⟨2, off2, none⟩) 1 c2)] (mkH [.cells [(.int .i64 1), (.int .i64 64), (.int .i64 1), (.int .i64 64)] e false, .tail off .u64 l g_, .tail off2 .u64 m g2]).low (.pointer (some ⟨3, 0, none⟩)) (effK (mkH [.cells [(.int .i64 1), (.int .i64 64), (.int .i64 1), (.int .i64 64)] e false, .tail off .u64 l g_, .tail off2 .u64 m g2]) [] [.cells [(.int .u64 dk), (.int .i64 th), (.int .i64 ts), (.int .i64 kp), (.int .u64 sd), (.bool true), (.bool false), (.int .i64 0), (.slice (some ⟨4, 0, none⟩) (n + 1) (n + 1)), (.int .i64 0), (.map (some 5)), (.slice (some ⟨4, 0, none⟩) (n + 1) (n + 1))] 55 true, .ints .u64 (List.take n l ++ [(m.getD 0 0)]) 22 true, .dict .u64 .i64 (DictSt.set (dictOf l) (m.getD 0 0) 1)]).low := by
  refine EndsK.does Tryd.func7 BN2_is (by rw [oneVar]; exact Nat.le_add_left _ _) ?_
  exact N2pn hd h1 h2 h3 h4 h5 h6 hl hn hb (by rw [Nat.sub_self, List.drop_zero, List.take_of_length_le (by omega)]) hm hz hk (EndsK.ret (l := [(.pointer (some ⟨3, 0, none⟩))]) (by kernel_rfl) rfl (Fits.kh ((growNew (growNew (growNew (Grow.refl _))))) rfl ⟨rfl, rfl, rfl, rfl, rfl, rfl, trivial⟩))
theorem nw1zn (e : TypeId) (dk th ts kp sd : Int) (hd : ¬ dk = 0) (h1 : 1 ≤ ts) (h2 : ts ≤ 64) (h3 : 1 ≤ kp) (h4 : kp ≤ 64) (h5 : 0 ≤ th) (h6 : th < ts) (off c : Nat) (l : List Int) (g_ : TypeId) (off2 c2 : Nat) (m : List Int) (g2 : TypeId) (hl : l.length = 0) (hm : m.length = 1) (hz : m.getD 0 0 = 0)  : DoesC Tryd.prog 7 [(.agg #[(.int .u64 dk), (.int .i64 th), (.int .i64 ts), (.int .i64 kp), (.int .u64 sd)]), (.slice (some ⟨1, off, none⟩) 0 c), (.slice (some ⟨2, off2, none⟩) 1 c2)] (mkH [.cells [(.int .i64 1), (.int .i64 64), (.int .i64 1), (.int .i64 64)] e false, .tail off .u64 l g_, .tail off2 .u64 m g2]).low (.pointer (some ⟨3, 0, none⟩)) (effK (mkH [.cells [(.int .i64 1), (.int .i64 64), (.int .i64 1), (.int .i64 64)] e false, .tail off .u64 l g_, .tail off2 .u64 m g2]) [] [.cells [(.int .u64 dk), (.int .i64 th), (.int .i64 ts), (.int .i64 kp), (.int .u64 sd), (.bool true), (.bool false), (.int .i64 0), (.slice (some ⟨0, 0, none⟩) 0 0), (.int .i64 0), (.map (some 4)), (.slice (some ⟨0, 0, none⟩) 0 0)] 55 true, .dict .u64 .i64 (DictSt.mk [] 0)]).low := by
  refine EndsK.does Tryd.func7 BN1_is (by rw [oneVar]; exact Nat.le_add_left _ _) ?_
  exact N1zn hd h1 h2 h3 h4 h5 h6 hl hm hz (EndsK.ret (l := [(.pointer (some ⟨3, 0, none⟩))]) (by kernel_rfl) rfl (Fits.kh ((growNew (growNew (Grow.refl _)))) rfl ⟨rfl, rfl, rfl, rfl, rfl, trivial⟩))
theorem nw1pl (e : TypeId) (dk th ts kp sd : Int) (hd : ¬ dk = 0) (h1 : 1 ≤ ts) (h2 : ts ≤ 64) (h3 : 1 ≤ kp) (h4 : kp ≤ 64) (h5 : 0 ≤ th) (h6 : th < ts) (off c : Nat) (l : List Int) (g_ : TypeId) (off2 c2 : Nat) (m : List Int) (g2 : TypeId) (hl : l.length = 0) (hm : m.length = 1) (hz : ¬ m.getD 0 0 = 0) (hk : kp ≤ 1) : DoesC Tryd.prog 7 [(.agg #[(.int .u64 dk), (.int .i64 th), (.int .i64 ts), (.int .i64 kp), (.int .u64 sd)]), (.slice (some ⟨1, off, none⟩) 0 c), (.slice (some ⟨2, off2, none⟩) 1 c2)] (mkH [.cells [(.int .i64 1), (.int .i64 64), (.int .i64 1), (.int .i64 64)] e false, .tail off .u64 l g_, .tail off2 .u64 m g2]).low (.pointer (some ⟨3, 0, none⟩)) (effK (mkH [.cells [(.int .i64 1), (.int .i64 64), (.int .i64 1), (.int .i64 64)] e false, .tail off .u64 l g_, .tail off2 .u64 m g2]) [] [.cells [(.int .u64 dk), (.int .i64 th), (.int .i64 ts), (.int .i64 kp), (.int .u64 sd), (.bool true), (.bool true), (.int .i64 0), (.slice (some ⟨4, 0, none⟩) 1 1), (.int .i64 0), (.map (some 5)), (.slice none 0 0)] 55 true, .cells [(.int .u64 (m.getD 0 0))] 22 true, .dict .u64 .i64 (DictSt.set (DictSt.mk [] 0) (m.getD 0 0) 1)]).low := by
  refine EndsK.does Tryd.func7 BN1_is (by rw [oneVar]; exact Nat.le_add_left _ _) ?_
  exact N1pl hd h1 h2 h3 h4 h5 h6 hl hm hz hk (EndsK.ret (l := [(.pointer (some ⟨3, 0, none⟩))]) (by kernel_rfl) rfl (Fits.kh ((growNew (growNew (growNew (Grow.refl _))))) rfl ⟨rfl, rfl, rfl, rfl, rfl, rfl, trivial⟩))
theorem nw1pn (e : TypeId) (dk th ts kp sd : Int) (hd : ¬ dk = 0) (h1 : 1 ≤ ts) (h2 : ts ≤ 64) (h3 : 1 ≤ kp) (h4 : kp ≤ 64) (h5 : 0 ≤ th) (h6 : th < ts) (off c : Nat) (l : List Int) (g_ : TypeId) (off2 c2 : Nat) (m : List Int) (g2 : TypeId) (hl : l.length = 0) (hm : m.length = 1) (hz : ¬ m.getD 0 0 = 0) (hk : ¬ kp ≤ 1) : DoesC Tryd.prog 7 [(.agg #[(.int .u64 dk), (.int .i64 th), (.int .i64 ts), (.int .i64 kp), (.int .u64 sd)]), (.slice (some ⟨1, off, none⟩) 0 c), (.slice (some ⟨2, off2, none⟩) 1 c2)] (mkH [.cells [(.int .i64 1), (.int .i64 64), (.int .i64 1), (.int .i64 64)] e false, .tail off .u64 l g_, .tail off2 .u64 m g2]).low (.pointer (some ⟨3, 0, none⟩)) (effK (mkH [.cells [(.int .i64 1), (.int .i64 64), (.int .i64 1), (.int .i64 64)] e false, .tail off .u64 l g_, .tail off2 .u64 m g2]) [] [.cells [(.int .u64 dk), (.int .i64 th), (.int .i64 ts), (.int .i64 kp), (.int .u64 sd), (.bool true), (.bool false), (.int .i64 0), (.slice (some ⟨4, 0, none⟩) 1 1), (.int .i64 0), (.map (some 5)), (.slice (some ⟨4, 0, none⟩) 1 1)] 55 true, .cells [(.int .u64 (m.getD 0 0))] 22 true, .dict .u64 .i64 (DictSt.set (DictSt.mk [] 0) (m.getD 0 0) 1)]).low := by
  refine EndsK.does Tryd.func7 BN1_is (by rw [oneVar]; exact Nat.le_add_left _ _) ?_
  exact N1pn hd h1 h2 h3 h4 h5 h6 hl hm hz hk (EndsK.ret (l := [(.pointer (some ⟨3, 0, none⟩))]) (by kernel_rfl) rfl (Fits.kh ((growNew (growNew (growNew (Grow.refl _))))) rfl ⟨rfl, rfl, rfl, rfl, rfl, rfl, trivial⟩))
theorem nw0zn (e : TypeId) (dk th ts kp sd : Int) (hd : ¬ dk = 0) (h1 : 1 ≤ ts) (h2 : ts ≤ 64) (h3 : 1 ≤ kp) (h4 : kp ≤ 64) (h5 : 0 ≤ th) (h6 : th < ts) (off2 c2 : Nat) (m : List Int) (g2 : TypeId)  (hm : m.length = 1) (hz : m.getD 0 0 = 0)  : DoesC Tryd.prog 7 [(.agg #[(.int .u64 dk), (.int .i64 th), (.int .i64 ts), (.int .i64 kp), (.int .u64 sd)]), (.slice (some ⟨0, 0, some 0⟩) 0 0), (.slice (some ⟨1, off2, none⟩) 1 c2)] (mkH [.cells [(.int .i64 1), (.int .i64 64), (.int .i64 1), (.int .i64 64)] e false, .tail off2 .u64 m g2]).low (.pointer (some ⟨2, 0, none⟩)) (effK (mkH [.cells [(.int .i64 1), (.int .i64 64), (.int .i64 1), (.int .i64 64)] e false, .tail off2 .u64 m g2]) [] [.cells [(.int .u64 dk), (.int .i64 th), (.int .i64 ts), (.int .i64 kp), (.int .u64 sd), (.bool true), (.bool false), (.int .i64 0), (.slice (some ⟨0, 0, none⟩) 0 0), (.int .i64 0), (.map (some 3)), (.slice (some ⟨0, 0, none⟩) 0 0)] 55 true, .dict .u64 .i64 (DictSt.mk [] 0)]).low := by
  refine EndsK.does Tryd.func7 BN0_is (by rw [oneVar]; exact Nat.le_add_left _ _) ?_
  exact N0zn hd h1 h2 h3 h4 h5 h6  hm hz (EndsK.ret (l := [(.pointer (some ⟨2, 0, none⟩))]) (by kernel_rfl) rfl (Fits.kh ((growNew (growNew (Grow.refl _)))) rfl ⟨rfl, rfl, rfl, rfl, trivial⟩))
theorem nw0pl (e : TypeId) (dk th ts kp sd : Int) (hd : ¬ dk = 0) (h1 : 1 ≤ ts) (h2 : ts ≤ 64) (h3 : 1 ≤ kp) (h4 : kp ≤ 64) (h5 : 0 ≤ th) (h6 : th < ts) (off2 c2 : Nat) (m : List Int) (g2 : TypeId)  (hm : m.length = 1) (hz : ¬ m.getD 0 0 = 0) (hk : kp ≤ 1) : DoesC Tryd.prog 7 [(.agg #[(.int .u64 dk), (.int .i64 th), (.int .i64 ts), (.int .i64 kp), (.int .u64 sd)]), (.slice (some ⟨0, 0, some 0⟩) 0 0), (.slice (some ⟨1, off2, none⟩) 1 c2)] (mkH [.cells [(.int .i64 1), (.int .i64 64), (.int .i64 1), (.int .i64 64)] e false, .tail off2 .u64 m g2]).low (.pointer (some ⟨2, 0, none⟩)) (effK (mkH [.cells [(.int .i64 1), (.int .i64 64), (.int .i64 1), (.int .i64 64)] e false, .tail off2 .u64 m g2]) [] [.cells [(.int .u64 dk), (.int .i64 th), (.int .i64 ts), (.int .i64 kp), (.int .u64 sd), (.bool true), (.bool true), (.int .i64 0), (.slice (some ⟨3, 0, none⟩) 1 1), (.int .i64 0), (.map (some 4)), (.slice none 0 0)] 55 true, .cells [(.int .u64 (m.getD 0 0))] 22 true, .dict .u64 .i64 (DictSt.set (DictSt.mk [] 0) (m.getD 0 0) 1)]).low := by
  refine EndsK.does Tryd.func7 BN0_is (by rw [oneVar]; exact Nat.le_add_left _ _) ?_
  exact N0pl hd h1 h2 h3 h4 h5 h6  hm hz hk (EndsK.ret (l := [(.pointer (some ⟨2, 0, none⟩))]) (by kernel_rfl) rfl (Fits.kh ((growNew (growNew (growNew (Grow.refl _))))) rfl ⟨rfl, rfl, rfl, rfl, rfl, trivial⟩))
theorem nw0pn (e : TypeId) (dk th ts kp sd : Int) (hd : ¬ dk = 0) (h1 : 1 ≤ ts) (h2 : ts ≤ 64) (h3 : 1 ≤ kp) (h4 : kp ≤ 64) (h5 : 0 ≤ th) (h6 : th < ts) (off2 c2 : Nat) (m : List Int) (g2 : TypeId)  (hm : m.length = 1) (hz : ¬ m.getD 0 0 = 0) (hk : ¬ kp ≤ 1) : DoesC Tryd.prog 7 [(.agg #[(.int .u64 dk), (.int .i64 th), (.int .i64 ts), (.int .i64 kp), (.int .u64 sd)]), (.slice (some ⟨0, 0, some 0⟩) 0 0), (.slice (some ⟨1, off2, none⟩) 1 c2)] (mkH [.cells [(.int .i64 1), (.int .i64 64), (.int .i64 1), (.int .i64 64)] e false, .tail off2 .u64 m g2]).low (.pointer (some ⟨2, 0, none⟩)) (effK (mkH [.cells [(.int .i64 1), (.int .i64 64), (.int .i64 1), (.int .i64 64)] e false, .tail off2 .u64 m g2]) [] [.cells [(.int .u64 dk), (.int .i64 th), (.int .i64 ts), (.int .i64 kp), (.int .u64 sd), (.bool true), (.bool false), (.int .i64 0), (.slice (some ⟨3, 0, none⟩) 1 1), (.int .i64 0), (.map (some 4)), (.slice (some ⟨3, 0, none⟩) 1 1)] 55 true, .cells [(.int .u64 (m.getD 0 0))] 22 true, .dict .u64 .i64 (DictSt.set (DictSt.mk [] 0) (m.getD 0 0) 1)]).low := by
  refine EndsK.does Tryd.func7 BN0_is (by rw [oneVar]; exact Nat.le_add_left _ _) ?_
  exact N0pn hd h1 h2 h3 h4 h5 h6  hm hz hk (EndsK.ret (l := [(.pointer (some ⟨2, 0, none⟩))]) (by kernel_rfl) rfl (Fits.kh ((growNew (growNew (growNew (Grow.refl _))))) rfl ⟨rfl, rfl, rfl, rfl, rfl, trivial⟩))
theorem nwm2 (e : TypeId) (dk th ts kp sd : Int) (hd : ¬ dk = 0) (h1 : 1 ≤ ts) (h2 : ts ≤ 64) (h3 : 1 ≤ kp) (h4 : kp ≤ 64) (h5 : 0 ≤ th) (h6 : th < ts) (off c : Nat) (w : Int) (ws : List Int) (g_ : TypeId) (off2 c2 : Nat) (m : List Int) (g2 : TypeId) (hb : (w :: ws).length ≤ 900) (hm : m.length = 1) : DoesC Tryd.prog 7 [(.agg #[(.int .u64 dk), (.int .i64 th), (.int .i64 ts), (.int .i64 kp), (.int .u64 sd)]), (.slice (some ⟨1, off, none⟩) (w :: ws).length c), (.slice (some ⟨2, off2, none⟩) 1 c2)] (mkH [.cells [(.int .i64 1), (.int .i64 64), (.int .i64 1), (.int .i64 64)] e false, .tail off .u64 (w :: ws) g_, .tail off2 .u64 m g2]).low (.pointer (some ⟨3, 0, none⟩)) (effK (mkH [.cells [(.int .i64 1), (.int .i64 64), (.int .i64 1), (.int .i64 64)] e false, .tail off .u64 (w :: ws) g_, .tail off2 .u64 m g2]) [] [.mach (.retire (rtNew ⟨dk, th, ts, kp, sd⟩ (w :: ws) (List.getD m 0 0)))]).low := by
  by_cases hz : m.getD 0 0 = 0
  · by_cases hk : kp ≤ (((w :: ws).length : Nat) : Int)
    · rw [rtNew_t (S := ⟨dk, th, ts, kp, sd⟩) (newW_z hz) hk]
      exact mach_madeX (g := 1) (by rw [oneVar]; exact Nat.le_add_left _ _) (fun a q h => match a, h with
          | 0, h => by cases h; exact ⟨.var .i64 [1, 64, 1, 64] _ _, rfl⟩
          | 1, h => by cases h; exact ⟨.tail .., rfl⟩
          | 2, h => by cases h; exact ⟨.tail .., rfl⟩
          | a + 3, h => by simp at h) (isRd dk th ts kp sd 0 0 (dictOf (w :: ws)) w ws) (nw2zl e dk th ts kp sd hd h1 h2 h3 h4 h5 h6 off (w :: ws).length c (w :: ws) g_ off2 c2 m g2 rfl (by simp) hb hm hz hk) [5, 4] (by kernel_rfl) (fun a o h => match a, h with
          | 0, h => by cases h; rfl
          | 1, h => by cases h; rfl
          | 2, h => by cases h; rfl
          | a + 3, h => by simp at h)
    · rw [rtNew_f (S := ⟨dk, th, ts, kp, sd⟩) (newW_z hz) hk]
      exact mach_madeX (g := 1) (by rw [oneVar]; exact Nat.le_add_left _ _) (fun a q h => match a, h with
          | 0, h => by cases h; exact ⟨.var .i64 [1, 64, 1, 64] _ _, rfl⟩
          | 1, h => by cases h; exact ⟨.tail .., rfl⟩
          | 2, h => by cases h; exact ⟨.tail .., rfl⟩
          | a + 3, h => by simp at h) (isRc dk th ts kp sd 0 0 (dictOf (w :: ws)) w ws []) (nw2zn e dk th ts kp sd hd h1 h2 h3 h4 h5 h6 off (w :: ws).length c (w :: ws) g_ off2 c2 m g2 rfl (by simp) hb hm hz hk) [5, 4] (by kernel_rfl) (fun a o h => match a, h with
          | 0, h => by cases h; rfl
          | 1, h => by cases h; rfl
          | 2, h => by cases h; rfl
          | a + 3, h => by simp at h)
  · have hl1 : (((w :: ws) ++ [m.getD 0 0]).length : Nat) = (w :: ws).length + 1 := by simp
    by_cases hk : kp ≤ (((w :: ws).length : Nat) : Int) + 1
    · rw [rtNew_t (S := ⟨dk, th, ts, kp, sd⟩) (newW_p hz) (by rw [hl1]; exact hk)]
      have h := nw2pl e dk th ts kp sd hd h1 h2 h3 h4 h5 h6 off (w :: ws).length c (w :: ws) g_ off2 c2 m g2 rfl (by simp) hb hm hz hk
      rw [List.take_length, ← hl1, ← dictOf_snoc] at h
      exact mach_madeX (g := 1) (by rw [oneVar]; exact Nat.le_add_left _ _) (fun a q h => match a, h with
          | 0, h => by cases h; exact ⟨.var .i64 [1, 64, 1, 64] _ _, rfl⟩
          | 1, h => by cases h; exact ⟨.tail .., rfl⟩
          | 2, h => by cases h; exact ⟨.tail .., rfl⟩
          | a + 3, h => by simp at h) (isRd dk th ts kp sd 0 0 (dictOf ((w :: ws) ++ [m.getD 0 0])) w (ws ++ [m.getD 0 0])) (h) [5, 4] (by kernel_rfl) (fun a o h => match a, h with
          | 0, h => by cases h; rfl
          | 1, h => by cases h; rfl
          | 2, h => by cases h; rfl
          | a + 3, h => by simp at h)
    · rw [rtNew_f (S := ⟨dk, th, ts, kp, sd⟩) (newW_p hz) (by rw [hl1]; exact hk)]
      have h := nw2pn e dk th ts kp sd hd h1 h2 h3 h4 h5 h6 off (w :: ws).length c (w :: ws) g_ off2 c2 m g2 rfl (by simp) hb hm hz hk
      rw [List.take_length, ← hl1, ← dictOf_snoc] at h
      exact mach_madeX (g := 1) (by rw [oneVar]; exact Nat.le_add_left _ _) (fun a q h => match a, h with
          | 0, h => by cases h; exact ⟨.var .i64 [1, 64, 1, 64] _ _, rfl⟩
          | 1, h => by cases h; exact ⟨.tail .., rfl⟩
          | 2, h => by cases h; exact ⟨.tail .., rfl⟩
          | a + 3, h => by simp at h) (isRc dk th ts kp sd 0 0 (dictOf ((w :: ws) ++ [m.getD 0 0])) w (ws ++ [m.getD 0 0]) []) (h) [5, 4] (by kernel_rfl) (fun a o h => match a, h with
          | 0, h => by cases h; rfl
          | 1, h => by cases h; rfl
          | 2, h => by cases h; rfl
          | a + 3, h => by simp at h)
theorem nwm1 (e : TypeId) (dk th ts kp sd : Int) (hd : ¬ dk = 0) (h1 : 1 ≤ ts) (h2 : ts ≤ 64) (h3 : 1 ≤ kp) (h4 : kp ≤ 64) (h5 : 0 ≤ th) (h6 : th < ts) (off c : Nat) (g_ : TypeId) (off2 c2 : Nat) (m : List Int) (g2 : TypeId) (hm : m.length = 1) : DoesC Tryd.prog 7 [(.agg #[(.int .u64 dk), (.int .i64 th), (.int .i64 ts), (.int .i64 kp), (.int .u64 sd)]), (.slice (some ⟨1, off, none⟩) 0 c), (.slice (some ⟨2, off2, none⟩) 1 c2)] (mkH [.cells [(.int .i64 1), (.int .i64 64), (.int .i64 1), (.int .i64 64)] e false, .tail off .u64 ([] : List Int) g_, .tail off2 .u64 m g2]).low (.pointer (some ⟨3, 0, none⟩)) (effK (mkH [.cells [(.int .i64 1), (.int .i64 64), (.int .i64 1), (.int .i64 64)] e false, .tail off .u64 ([] : List Int) g_, .tail off2 .u64 m g2]) [] [.mach (.retire (rtNew ⟨dk, th, ts, kp, sd⟩ ([] : List Int) (List.getD m 0 0)))]).low := by
  by_cases hz : m.getD 0 0 = 0
  · rw [rtNew_f (S := ⟨dk, th, ts, kp, sd⟩) (newW_z hz) (by show ¬ kp ≤ 0; omega)]
    exact mach_madeX (g := 1) (by rw [oneVar]; exact Nat.le_add_left _ _) (fun a q h => match a, h with
        | 0, h => by cases h; exact ⟨.var .i64 [1, 64, 1, 64] _ _, rfl⟩
        | 1, h => by cases h; exact ⟨.tail .., rfl⟩
        | 2, h => by cases h; exact ⟨.tail .., rfl⟩
        | a + 3, h => by simp at h) (isRa dk th ts kp sd 0 0 ⟨[], 0⟩ []) (nw1zn e dk th ts kp sd hd h1 h2 h3 h4 h5 h6 off c [] g_ off2 c2 m g2 rfl hm hz) [4] (by kernel_rfl) (fun a o h => match a, h with
        | 0, h => by cases h; rfl
        | 1, h => by cases h; rfl
        | 2, h => by cases h; rfl
        | a + 3, h => by simp at h)
  · by_cases hk : kp ≤ 1
    · rw [rtNew_t (S := ⟨dk, th, ts, kp, sd⟩) (l := []) (newW_p hz) hk]
      have h := nw1pl e dk th ts kp sd hd h1 h2 h3 h4 h5 h6 off c [] g_ off2 c2 m g2 rfl hm hz hk
      rw [show (effK (mkH [.cells [(.int .i64 1), (.int .i64 64), (.int .i64 1), (.int .i64 64)] e false, .tail off .u64 ([] : List Int) g_, .tail off2 .u64 m g2]) [] [.cells [(.int .u64 dk), (.int .i64 th), (.int .i64 ts), (.int .i64 kp), (.int .u64 sd), (.bool true), (.bool true), (.int .i64 0), (.slice (some ⟨4, 0, none⟩) 1 1), (.int .i64 0), (.map (some 5)), (.slice none 0 0)] 55 true, .cells [(.int .u64 (m.getD 0 0))] 22 true, .dict .u64 .i64 (DictSt.set (DictSt.mk [] 0) (m.getD 0 0) 1)]).low = (effK (mkH [.cells [(.int .i64 1), (.int .i64 64), (.int .i64 1), (.int .i64 64)] e false, .tail off .u64 ([] : List Int) g_, .tail off2 .u64 m g2]) [] [.cells [(.int .u64 dk), (.int .i64 th), (.int .i64 ts), (.int .i64 kp), (.int .u64 sd), (.bool true), (.bool true), (.int .i64 0), (.slice (some ⟨4, 0, none⟩) 1 1), (.int .i64 0), (.map (some 5)), (.slice none 0 0)] 55 true, .ints .u64 [(m.getD 0 0)] 22 true, .dict .u64 .i64 (DictSt.set (DictSt.mk [] 0) (m.getD 0 0) 1)]).low by kernel_rfl] at h
      exact mach_madeX (g := 1) (by rw [oneVar]; exact Nat.le_add_left _ _) (fun a q h => match a, h with
          | 0, h => by cases h; exact ⟨.var .i64 [1, 64, 1, 64] _ _, rfl⟩
          | 1, h => by cases h; exact ⟨.tail .., rfl⟩
          | 2, h => by cases h; exact ⟨.tail .., rfl⟩
          | a + 3, h => by simp at h) (isRd dk th ts kp sd 0 0 (dictOf [m.getD 0 0]) (m.getD 0 0) []) (h) [5, 4] (by kernel_rfl) (fun a o h => match a, h with
          | 0, h => by cases h; rfl
          | 1, h => by cases h; rfl
          | 2, h => by cases h; rfl
          | a + 3, h => by simp at h)
    · rw [rtNew_f (S := ⟨dk, th, ts, kp, sd⟩) (l := []) (newW_p hz) hk]
      have h := nw1pn e dk th ts kp sd hd h1 h2 h3 h4 h5 h6 off c [] g_ off2 c2 m g2 rfl hm hz hk
      rw [show (effK (mkH [.cells [(.int .i64 1), (.int .i64 64), (.int .i64 1), (.int .i64 64)] e false, .tail off .u64 ([] : List Int) g_, .tail off2 .u64 m g2]) [] [.cells [(.int .u64 dk), (.int .i64 th), (.int .i64 ts), (.int .i64 kp), (.int .u64 sd), (.bool true), (.bool false), (.int .i64 0), (.slice (some ⟨4, 0, none⟩) 1 1), (.int .i64 0), (.map (some 5)), (.slice (some ⟨4, 0, none⟩) 1 1)] 55 true, .cells [(.int .u64 (m.getD 0 0))] 22 true, .dict .u64 .i64 (DictSt.set (DictSt.mk [] 0) (m.getD 0 0) 1)]).low = (effK (mkH [.cells [(.int .i64 1), (.int .i64 64), (.int .i64 1), (.int .i64 64)] e false, .tail off .u64 ([] : List Int) g_, .tail off2 .u64 m g2]) [] [.cells [(.int .u64 dk), (.int .i64 th), (.int .i64 ts), (.int .i64 kp), (.int .u64 sd), (.bool true), (.bool false), (.int .i64 0), (.slice (some ⟨4, 0, none⟩) 1 1), (.int .i64 0), (.map (some 5)), (.slice (some ⟨4, 0, none⟩) 1 1)] 55 true, .ints .u64 [(m.getD 0 0)] 22 true, .dict .u64 .i64 (DictSt.set (DictSt.mk [] 0) (m.getD 0 0) 1)]).low by kernel_rfl] at h
      exact mach_madeX (g := 1) (by rw [oneVar]; exact Nat.le_add_left _ _) (fun a q h => match a, h with
          | 0, h => by cases h; exact ⟨.var .i64 [1, 64, 1, 64] _ _, rfl⟩
          | 1, h => by cases h; exact ⟨.tail .., rfl⟩
          | 2, h => by cases h; exact ⟨.tail .., rfl⟩
          | a + 3, h => by simp at h) (isRc dk th ts kp sd 0 0 (dictOf [m.getD 0 0]) (m.getD 0 0) [] []) (h) [5, 4] (by kernel_rfl) (fun a o h => match a, h with
          | 0, h => by cases h; rfl
          | 1, h => by cases h; rfl
          | 2, h => by cases h; rfl
          | a + 3, h => by simp at h)
theorem nwm0 (e : TypeId) (dk th ts kp sd : Int) (hd : ¬ dk = 0) (h1 : 1 ≤ ts) (h2 : ts ≤ 64) (h3 : 1 ≤ kp) (h4 : kp ≤ 64) (h5 : 0 ≤ th) (h6 : th < ts) (off2 c2 : Nat) (m : List Int) (g2 : TypeId) (hm : m.length = 1) : DoesC Tryd.prog 7 [(.agg #[(.int .u64 dk), (.int .i64 th), (.int .i64 ts), (.int .i64 kp), (.int .u64 sd)]), (.slice (some ⟨0, 0, some 0⟩) 0 0), (.slice (some ⟨1, off2, none⟩) 1 c2)] (mkH [.cells [(.int .i64 1), (.int .i64 64), (.int .i64 1), (.int .i64 64)] e false, .tail off2 .u64 m g2]).low (.pointer (some ⟨2, 0, none⟩)) (effK (mkH [.cells [(.int .i64 1), (.int .i64 64), (.int .i64 1), (.int .i64 64)] e false, .tail off2 .u64 m g2]) [] [.mach (.retire (rtNew ⟨dk, th, ts, kp, sd⟩ ([] : List Int) (List.getD m 0 0)))]).low := by
  by_cases hz : m.getD 0 0 = 0
  · rw [rtNew_f (S := ⟨dk, th, ts, kp, sd⟩) (newW_z hz) (by show ¬ kp ≤ 0; omega)]
    exact mach_madeX (g := 1) (by rw [oneVar]; exact Nat.le_add_left _ _) (fun a q h => match a, h with
        | 0, h => by cases h; exact ⟨.var .i64 [1, 64, 1, 64] _ _, rfl⟩
        | 1, h => by cases h; exact ⟨.tail .., rfl⟩
        | a + 2, h => by simp at h) (isRa dk th ts kp sd 0 0 ⟨[], 0⟩ []) (nw0zn e dk th ts kp sd hd h1 h2 h3 h4 h5 h6 off2 c2 m g2 hm hz) [3] (by kernel_rfl) (fun a o h => match a, h with
        | 0, h => by cases h; rfl
        | 1, h => by cases h; rfl
        | a + 2, h => by simp at h)
  · by_cases hk : kp ≤ 1
    · rw [rtNew_t (S := ⟨dk, th, ts, kp, sd⟩) (l := []) (newW_p hz) hk]
      have h := nw0pl e dk th ts kp sd hd h1 h2 h3 h4 h5 h6 off2 c2 m g2 hm hz hk
      rw [show (effK (mkH [.cells [(.int .i64 1), (.int .i64 64), (.int .i64 1), (.int .i64 64)] e false, .tail off2 .u64 m g2]) [] [.cells [(.int .u64 dk), (.int .i64 th), (.int .i64 ts), (.int .i64 kp), (.int .u64 sd), (.bool true), (.bool true), (.int .i64 0), (.slice (some ⟨3, 0, none⟩) 1 1), (.int .i64 0), (.map (some 4)), (.slice none 0 0)] 55 true, .cells [(.int .u64 (m.getD 0 0))] 22 true, .dict .u64 .i64 (DictSt.set (DictSt.mk [] 0) (m.getD 0 0) 1)]).low = (effK (mkH [.cells [(.int .i64 1), (.int .i64 64), (.int .i64 1), (.int .i64 64)] e false, .tail off2 .u64 m g2]) [] [.cells [(.int .u64 dk), (.int .i64 th), (.int .i64 ts), (.int .i64 kp), (.int .u64 sd), (.bool true), (.bool true), (.int .i64 0), (.slice (some ⟨3, 0, none⟩) 1 1), (.int .i64 0), (.map (some 4)), (.slice none 0 0)] 55 true, .ints .u64 [(m.getD 0 0)] 22 true, .dict .u64 .i64 (DictSt.set (DictSt.mk [] 0) (m.getD 0 0) 1)]).low by kernel_rfl] at h
      exact mach_madeX (g := 1) (by rw [oneVar]; exact Nat.le_add_left _ _) (fun a q h => match a, h with
          | 0, h => by cases h; exact ⟨.var .i64 [1, 64, 1, 64] _ _, rfl⟩
          | 1, h => by cases h; exact ⟨.tail .., rfl⟩
          | a + 2, h => by simp at h) (isRd dk th ts kp sd 0 0 (dictOf [m.getD 0 0]) (m.getD 0 0) []) (h) [4, 3] (by kernel_rfl) (fun a o h => match a, h with
          | 0, h => by cases h; rfl
          | 1, h => by cases h; rfl
          | a + 2, h => by simp at h)
    · rw [rtNew_f (S := ⟨dk, th, ts, kp, sd⟩) (l := []) (newW_p hz) hk]
      have h := nw0pn e dk th ts kp sd hd h1 h2 h3 h4 h5 h6 off2 c2 m g2 hm hz hk
      rw [show (effK (mkH [.cells [(.int .i64 1), (.int .i64 64), (.int .i64 1), (.int .i64 64)] e false, .tail off2 .u64 m g2]) [] [.cells [(.int .u64 dk), (.int .i64 th), (.int .i64 ts), (.int .i64 kp), (.int .u64 sd), (.bool true), (.bool false), (.int .i64 0), (.slice (some ⟨3, 0, none⟩) 1 1), (.int .i64 0), (.map (some 4)), (.slice (some ⟨3, 0, none⟩) 1 1)] 55 true, .cells [(.int .u64 (m.getD 0 0))] 22 true, .dict .u64 .i64 (DictSt.set (DictSt.mk [] 0) (m.getD 0 0) 1)]).low = (effK (mkH [.cells [(.int .i64 1), (.int .i64 64), (.int .i64 1), (.int .i64 64)] e false, .tail off2 .u64 m g2]) [] [.cells [(.int .u64 dk), (.int .i64 th), (.int .i64 ts), (.int .i64 kp), (.int .u64 sd), (.bool true), (.bool false), (.int .i64 0), (.slice (some ⟨3, 0, none⟩) 1 1), (.int .i64 0), (.map (some 4)), (.slice (some ⟨3, 0, none⟩) 1 1)] 55 true, .ints .u64 [(m.getD 0 0)] 22 true, .dict .u64 .i64 (DictSt.set (DictSt.mk [] 0) (m.getD 0 0) 1)]).low by kernel_rfl] at h
      exact mach_madeX (g := 1) (by rw [oneVar]; exact Nat.le_add_left _ _) (fun a q h => match a, h with
          | 0, h => by cases h; exact ⟨.var .i64 [1, 64, 1, 64] _ _, rfl⟩
          | 1, h => by cases h; exact ⟨.tail .., rfl⟩
          | a + 2, h => by simp at h) (isRc dk th ts kp sd 0 0 (dictOf [m.getD 0 0]) (m.getD 0 0) [] []) (h) [4, 3] (by kernel_rfl) (fun a o h => match a, h with
          | 0, h => by cases h; rfl
          | 1, h => by cases h; rfl
          | a + 2, h => by simp at h)
noncomputable def rc_NWm : RC := ⟨[.val, .row .u64, .row .u64], fun avs => match avs with | [.val x, .row l, .row m] => ((siteOk x) && ((Nat.ble (List.length l) 900) && (Nat.beq (List.length m) 1))) | _ => false,
  fun N avs => match avs with | [.val x, .row l, .row m] => ((.pointer (some ⟨N, 0, none⟩)), [], [.mach (.retire (rtNew (siteOf x) l (List.getD m 0 0)))]) | _ => (.bool false, [], [])⟩
theorem rc_NWm_does : RcDoes Tryd.prog varL 7 rc_NWm := by
  intro vb avs args blks hv hs hp
  obtain ⟨e0, rfl⟩ := var1 hv
  cases hs with
  | val x hp_x hs =>
    cases hs with
    | row0 hs =>
      cases hs with
      | row0 hs =>
        cases hs
        have hp : (siteOk x && (Nat.ble ([] : List Int).length 900 && Nat.beq ([] : List Int).length 1)) = true := hp
        simp only [Bool.and_eq_true] at hp
        exact absurd hp.2.2 (by decide)
      | row off_m n_m c_m m e_m hl_m hs =>
        cases hs
        have hp : (siteOk x && (Nat.ble ([] : List Int).length 900 && Nat.beq m.length 1)) = true := hp
        simp only [Bool.and_eq_true] at hp
        obtain ⟨hk, g1, g2⟩ := hp
        unfold siteOk at hk
        split at hk
        · rename_i dk th ts kp sd
          unfold siteP at hk
          simp only [Bool.and_eq_true, decide_eq_true_eq] at hk
          obtain ⟨h0, h1, h2, h3, h4, h5, h6⟩ := hk
          have g3 := Nat.eq_of_beq_eq_true g2
          have hn2 : n_m = 1 := by omega
          subst hn2
          exact nwm0 e0 dk th ts kp sd h0 h1 h2 h3 h4 h5 h6 off_m c_m m e_m g3
        · cases hk
    | row off_l n_l c_l l e_l hl_l hs =>
      cases hs with
      | row0 hs =>
        cases hs
        have hp : (siteOk x && (Nat.ble l.length 900 && Nat.beq ([] : List Int).length 1)) = true := hp
        simp only [Bool.and_eq_true] at hp
        exact absurd hp.2.2 (by decide)
      | row off_m n_m c_m m e_m hl_m hs =>
        cases hs
        have hp : (siteOk x && (Nat.ble l.length 900 && Nat.beq m.length 1)) = true := hp
        simp only [Bool.and_eq_true] at hp
        obtain ⟨hk, g1, g2⟩ := hp
        unfold siteOk at hk
        split at hk
        · rename_i dk th ts kp sd
          unfold siteP at hk
          simp only [Bool.and_eq_true, decide_eq_true_eq] at hk
          obtain ⟨h0, h1, h2, h3, h4, h5, h6⟩ := hk
          have g3 := Nat.eq_of_beq_eq_true g2
          have hn2 : n_m = 1 := by omega
          subst hn2
          cases l with
          | nil =>
            have hn : n_l = 0 := hl_l.symm
            subst hn
            exact nwm1 e0 dk th ts kp sd h0 h1 h2 h3 h4 h5 h6 off_l c_l e_l off_m c_m m e_m g3
          | cons w ws =>
            subst hl_l
            exact nwm2 e0 dk th ts kp sd h0 h1 h2 h3 h4 h5 h6 off_l c_l w ws e_l off_m c_m m e_m (Nat.le_of_ble_eq_true g1) g3
        · cases hk
end Go.Proofs.YtfhfbbhoppnbiaaDoor
