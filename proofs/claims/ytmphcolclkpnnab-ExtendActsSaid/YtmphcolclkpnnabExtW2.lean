/- ExtendActs: roads. -/
import Derived.Test.YtmphcolclkpnnabExtW1
import Derived.WalkKit
import Derived.ProofKit
import Derived.OpenShut
import Derived.ChangeOld
import Derived.Below
import Derived.SizedLaws
namespace Go.Proofs.Ytmphcolclkpnnab.extendActs
open Go.Eng
open Go.ChangeShapes Go.WideShapes Go.ChangeAt Go.RowKit
set_option linter.unusedVariables false
set_option linter.unusedSimpArgs false
set_option maxRecDepth 100000
noncomputable def S227 (pre : Nat) (n : Nat) (c : Nat) (i : Int) (n1 : Int) (m1 : Int) (m0 : Int) (bb : Int) (lg : Int) (l : List Int) (e : TypeId) : KSt := ⟨(frameL 135 [(2, (.slice (some ⟨0, pre, none⟩) n c)), (3, (.pointer (some ⟨1, 0, none⟩))), (4, (.pointer (some ⟨2, 0, none⟩))), (7, (.pointer (some ⟨3, 0, none⟩))), (12, (.int .i64 i)), (13, (.pointer (some ⟨4, 0, none⟩))), (14, (.pointer (some ⟨5, 0, none⟩)))]), ⟨6, 1, [(5, 0, .cells [(.int .i64 2), (.int .u64 n1), (.int .u64 (makeRV n1 m1))] 63 true), (4, 0, .cells [(.slice (some ⟨0, (pre + 0), none⟩) ((Int.toNat i) - 0) (c - 0)), (.int .i64 1), (.bool true), (.int .i64 2), (.int .u64 n1), (.int .i64 0), (.int .u64 0), (.int .u64 (IntKind.wrap .u64 m0))] 31 true), (3, 0, .cells [(.int .u64 bb), (.int .i64 lg), (.int .i64 m0), (.int .i64 m1), (.int .u64 (l.getD 0 0)), (.int .i64 0), (.int .i64 2), (.int .u64 (l.getD 0 0)), (.int .u64 (makeV (l.getD 0 0) m1))] 82 true), (2, 0, .cells [(.int .i64 m0), (.int .i64 m1)] 55 true), (1, 0, .cells [(.int .u64 bb), (.int .i64 lg)] 54 true), (0, 0, .tail pre .u64 l e)]⟩⟩
noncomputable def S228 (pre : Nat) (n : Nat) (c : Nat) (i : Int) (bb : Int) (lg : Int) (m0 : Int) (m1 : Int) (l : List Int) (e : TypeId) : KSt := ⟨(frameL 135 [(2, (.slice (some ⟨0, pre, none⟩) n c)), (3, (.pointer (some ⟨1, 0, none⟩))), (4, (.pointer (some ⟨2, 0, none⟩))), (7, (.pointer (some ⟨3, 0, none⟩))), (12, (.int .i64 i)), (13, (.pointer (some ⟨4, 0, none⟩))), (14, (.pointer (some ⟨5, 0, none⟩)))]), ⟨6, 1, [(5, 0, .cells [(.int .i64 1), (.int .u64 0), (.int .u64 0)] 63 true), (4, 0, .cells [(.slice (some ⟨0, (pre + 0), none⟩) ((Int.toNat i) - 0) (c - 0)), (.int .i64 0), (.bool true), (.int .i64 5), (.int .u64 0), (.int .i64 0), (.int .u64 0), (.int .u64 0)] 31 true), (3, 0, .cells [(.int .u64 bb), (.int .i64 lg), (.int .i64 m0), (.int .i64 m1), (.int .u64 (l.getD 0 0)), (.int .i64 0), (.int .i64 2), (.int .u64 (l.getD 0 0)), (.int .u64 (makeV (l.getD 0 0) m1))] 82 true), (2, 0, .cells [(.int .i64 m0), (.int .i64 m1)] 55 true), (1, 0, .cells [(.int .u64 bb), (.int .i64 lg)] 54 true), (0, 0, .tail pre .u64 l e)]⟩⟩
noncomputable def S229 (pre : Nat) (n : Nat) (c : Nat) (i : Int) (n5 : Int) (m1 : Int) (bb : Int) (lg : Int) (m0 : Int) (l : List Int) (e : TypeId) : KSt := ⟨(frameL 135 [(2, (.slice (some ⟨0, pre, none⟩) n c)), (3, (.pointer (some ⟨1, 0, none⟩))), (4, (.pointer (some ⟨2, 0, none⟩))), (7, (.pointer (some ⟨3, 0, none⟩))), (12, (.int .i64 i)), (13, (.pointer (some ⟨4, 0, none⟩))), (14, (.pointer (some ⟨5, 0, none⟩)))]), ⟨6, 1, [(5, 0, .cells [(.int .i64 2), (.int .u64 n5), (.int .u64 (makeRV n5 m1))] 63 true), (4, 0, .cells [(.slice (some ⟨0, (pre + 0), none⟩) ((Int.toNat i) - 0) (c - 0)), (.int .i64 3), (.bool false), (.int .i64 0), (.int .u64 0), (.int .i64 0), (.int .u64 0), (.int .u64 0)] 31 true), (3, 0, .cells [(.int .u64 bb), (.int .i64 lg), (.int .i64 m0), (.int .i64 m1), (.int .u64 (l.getD 0 0)), (.int .i64 0), (.int .i64 2), (.int .u64 (l.getD 0 0)), (.int .u64 (makeV (l.getD 0 0) m1))] 82 true), (2, 0, .cells [(.int .i64 m0), (.int .i64 m1)] 55 true), (1, 0, .cells [(.int .u64 bb), (.int .i64 lg)] 54 true), (0, 0, .tail pre .u64 l e)]⟩⟩
noncomputable def S230 (pre : Nat) (n : Nat) (c : Nat) (i : Int) (n7 : Int) (bb : Int) (lg : Int) (m0 : Int) (m1 : Int) (l : List Int) (e : TypeId) : KSt := ⟨(frameL 135 [(2, (.slice (some ⟨0, pre, none⟩) n c)), (3, (.pointer (some ⟨1, 0, none⟩))), (4, (.pointer (some ⟨2, 0, none⟩))), (7, (.pointer (some ⟨3, 0, none⟩))), (12, (.int .i64 i)), (13, (.pointer (some ⟨4, 0, none⟩))), (14, (.pointer (some ⟨5, 0, none⟩)))]), ⟨6, 1, [(5, 0, .cells [(.int .i64 3), (.int .u64 0), (.int .u64 n7)] 63 true), (4, 0, .cells [(.slice (some ⟨0, (pre + 0), none⟩) ((Int.toNat i) - 0) (c - 0)), (.int .i64 4), (.bool false), (.int .i64 0), (.int .u64 0), (.int .i64 0), (.int .u64 0), (.int .u64 0)] 31 true), (3, 0, .cells [(.int .u64 bb), (.int .i64 lg), (.int .i64 m0), (.int .i64 m1), (.int .u64 (l.getD 0 0)), (.int .i64 0), (.int .i64 2), (.int .u64 (l.getD 0 0)), (.int .u64 (makeV (l.getD 0 0) m1))] 82 true), (2, 0, .cells [(.int .i64 m0), (.int .i64 m1)] 55 true), (1, 0, .cells [(.int .u64 bb), (.int .i64 lg)] 54 true), (0, 0, .tail pre .u64 l e)]⟩⟩
noncomputable def S231 (pre : Nat) (n : Nat) (c : Nat) (i : Int) (n7 : Int) (n5 : Int) (bb : Int) (lg : Int) (m0 : Int) (m1 : Int) (l : List Int) (e : TypeId) : KSt := ⟨(frameL 135 [(2, (.slice (some ⟨0, pre, none⟩) n c)), (3, (.pointer (some ⟨1, 0, none⟩))), (4, (.pointer (some ⟨2, 0, none⟩))), (7, (.pointer (some ⟨3, 0, none⟩))), (12, (.int .i64 i)), (13, (.pointer (some ⟨4, 0, none⟩))), (14, (.pointer (some ⟨5, 0, none⟩)))]), ⟨6, 1, [(5, 0, .cells [(.int .i64 3), (.int .u64 0), (.int .u64 n7)] 63 true), (4, 0, .cells [(.slice (some ⟨0, (pre + 0), none⟩) ((Int.toNat i) - 0) (c - 0)), (.int .i64 3), (.bool true), (.int .i64 6), (.int .u64 n5), (.int .i64 0), (.int .u64 0), (.int .u64 0)] 31 true), (3, 0, .cells [(.int .u64 bb), (.int .i64 lg), (.int .i64 m0), (.int .i64 m1), (.int .u64 (l.getD 0 0)), (.int .i64 0), (.int .i64 2), (.int .u64 (l.getD 0 0)), (.int .u64 (makeV (l.getD 0 0) m1))] 82 true), (2, 0, .cells [(.int .i64 m0), (.int .i64 m1)] 55 true), (1, 0, .cells [(.int .u64 bb), (.int .i64 lg)] 54 true), (0, 0, .tail pre .u64 l e)]⟩⟩
noncomputable def S232 (pre : Nat) (n : Nat) (c : Nat) (i : Int) (n5 : Int) (m1 : Int) (bb : Int) (lg : Int) (m0 : Int) (l : List Int) (e : TypeId) : KSt := ⟨(frameL 135 [(2, (.slice (some ⟨0, pre, none⟩) n c)), (3, (.pointer (some ⟨1, 0, none⟩))), (4, (.pointer (some ⟨2, 0, none⟩))), (7, (.pointer (some ⟨3, 0, none⟩))), (12, (.int .i64 i)), (13, (.pointer (some ⟨4, 0, none⟩))), (14, (.pointer (some ⟨5, 0, none⟩)))]), ⟨6, 1, [(5, 0, .cells [(.int .i64 2), (.int .u64 n5), (.int .u64 (makeRV n5 m1))] 63 true), (4, 0, .cells [(.slice (some ⟨0, (pre + 0), none⟩) ((Int.toNat i) - 0) (c - 0)), (.int .i64 2), (.bool true), (.int .i64 3), (.int .u64 bb), (.int .i64 1), (.int .u64 0), (.int .u64 (makeRV n5 m1))] 31 true), (3, 0, .cells [(.int .u64 bb), (.int .i64 lg), (.int .i64 m0), (.int .i64 m1), (.int .u64 (l.getD 0 0)), (.int .i64 0), (.int .i64 2), (.int .u64 (l.getD 0 0)), (.int .u64 (makeV (l.getD 0 0) m1))] 82 true), (2, 0, .cells [(.int .i64 m0), (.int .i64 m1)] 55 true), (1, 0, .cells [(.int .u64 bb), (.int .i64 lg)] 54 true), (0, 0, .tail pre .u64 l e)]⟩⟩
noncomputable def S233 (pre : Nat) (n : Nat) (c : Nat) (i : Int) (n5 : Int) (m1 : Int) (m0 : Int) (bb : Int) (lg : Int) (l : List Int) (e : TypeId) : KSt := ⟨(frameL 135 [(2, (.slice (some ⟨0, pre, none⟩) n c)), (3, (.pointer (some ⟨1, 0, none⟩))), (4, (.pointer (some ⟨2, 0, none⟩))), (7, (.pointer (some ⟨3, 0, none⟩))), (12, (.int .i64 i)), (13, (.pointer (some ⟨4, 0, none⟩))), (14, (.pointer (some ⟨5, 0, none⟩)))]), ⟨6, 1, [(5, 0, .cells [(.int .i64 2), (.int .u64 n5), (.int .u64 (makeRV n5 m1))] 63 true), (4, 0, .cells [(.slice (some ⟨0, (pre + 0), none⟩) ((Int.toNat i) - 0) (c - 0)), (.int .i64 1), (.bool true), (.int .i64 2), (.int .u64 n5), (.int .i64 0), (.int .u64 0), (.int .u64 (IntKind.wrap .u64 m0))] 31 true), (3, 0, .cells [(.int .u64 bb), (.int .i64 lg), (.int .i64 m0), (.int .i64 m1), (.int .u64 (l.getD 0 0)), (.int .i64 0), (.int .i64 2), (.int .u64 (l.getD 0 0)), (.int .u64 (makeV (l.getD 0 0) m1))] 82 true), (2, 0, .cells [(.int .i64 m0), (.int .i64 m1)] 55 true), (1, 0, .cells [(.int .u64 bb), (.int .i64 lg)] 54 true), (0, 0, .tail pre .u64 l e)]⟩⟩
noncomputable def S234 (pre : Nat) (n : Nat) (c : Nat) (i : Int) (m0 : Int) (bb : Int) (lg : Int) (m1 : Int) (l : List Int) (e : TypeId) : KSt := ⟨(frameL 135 [(2, (.slice (some ⟨0, pre, none⟩) n c)), (3, (.pointer (some ⟨1, 0, none⟩))), (4, (.pointer (some ⟨2, 0, none⟩))), (7, (.pointer (some ⟨3, 0, none⟩))), (12, (.int .i64 i)), (13, (.pointer (some ⟨4, 0, none⟩))), (14, (.pointer (some ⟨5, 0, none⟩)))]), ⟨6, 1, [(5, 0, .cells [(.int .i64 1), (.int .u64 0), (.int .u64 0)] 63 true), (4, 0, .cells [(.slice (some ⟨0, (pre + 0), none⟩) ((Int.toNat i) - 0) (c - 0)), (.int .i64 0), (.bool true), (.int .i64 5), (.int .u64 0), (.int .i64 (IntKind.wrap .i64 (7 + (IntKind.wrap .i64 (9 * (groupsV m0)))))), (.int .u64 0), (.int .u64 0)] 31 true), (3, 0, .cells [(.int .u64 bb), (.int .i64 lg), (.int .i64 m0), (.int .i64 m1), (.int .u64 (l.getD 0 0)), (.int .i64 0), (.int .i64 2), (.int .u64 (l.getD 0 0)), (.int .u64 (makeV (l.getD 0 0) m1))] 82 true), (2, 0, .cells [(.int .i64 m0), (.int .i64 m1)] 55 true), (1, 0, .cells [(.int .u64 bb), (.int .i64 lg)] 54 true), (0, 0, .tail pre .u64 l e)]⟩⟩
theorem R179 (pre : Nat) (n : Nat) (c : Nat) (i : Int) (bb : Int) (lg : Int) (m0 : Int) (m1 : Int) (l : List Int) (e : TypeId) : evCK Try.prog cfgE (runK Try.prog cfgE fsE (conT grpDom grpE) 12 40) 12 (codeAt [1, 1, 1, 1, 0, 1, 0, 0, 1, 0, 0, 1, 0] B) (S221 pre n c i bb lg m0 m1 l e) (normC 1 [2, 3, 4, 7, 12, 13, 14]) =
  bif ((groupsV m0) == 0) then
    bif (decide (0 < ((((Int.toNat i) - 0) : Nat) : Int))) then
      if (0 : Int) ≤ 0 ∧ 0 < ((((Int.toNat i) - 0) : Nat) : Int) then
        bif (Nat.ble pre ((pre + 0) + 0)) then
          obind (l[(((pre + 0) + 0) - pre)]?) fun n1 =>
            bif (n1 == 0) then
              some (.normal, (S222 pre n c i bb lg m0 m1 l e))
            else
              bif (decide (1 < ((((Int.toNat i) - 0) : Nat) : Int))) then
                if (0 : Int) ≤ 1 ∧ 1 < ((((Int.toNat i) - 0) : Nat) : Int) then
                  bif (Nat.ble pre ((pre + 0) + 1)) then
                    obind (l[(((pre + 0) + 1) - pre)]?) fun n2 =>
                      bif (decide (2 < ((((Int.toNat i) - 0) : Nat) : Int))) then
                        if (0 : Int) ≤ 2 ∧ 2 < ((((Int.toNat i) - 0) : Nat) : Int) then
                          bif (Nat.ble pre ((pre + 0) + 2)) then
                            obind (l[(((pre + 0) + 2) - pre)]?) fun n3 =>
                              bif (n3 == 0) then
                                some (.normal, (S223 pre n c i n1 m1 bb lg m0 l e))
                              else
                                bif (decide (3 < ((((Int.toNat i) - 0) : Nat) : Int))) then
                                  if (0 : Int) ≤ 3 ∧ 3 < ((((Int.toNat i) - 0) : Nat) : Int) then
                                    bif (Nat.ble pre ((pre + 0) + 3)) then
                                      obind (l[(((pre + 0) + 3) - pre)]?) fun n4 =>
                                        some (.normal, (S224 pre n c i n3 bb lg m0 m1 l e))
                                    else
                                      none
                                  else
                                    none
                                else
                                  some (.normal, (S225 pre n c i n3 n1 bb lg m0 m1 l e))
                          else
                            none
                        else
                          none
                      else
                        some (.normal, (S226 pre n c i n1 m1 bb lg m0 l e))
                  else
                    none
                else
                  none
              else
                some (.normal, (S227 pre n c i n1 m1 m0 bb lg l e))
        else
          none
      else
        none
    else
      some (.normal, (S228 pre n c i bb lg m0 m1 l e))
  else
    bif (decide (0 < ((((Int.toNat i) - 0) : Nat) : Int))) then
      if (0 : Int) ≤ 0 ∧ 0 < ((((Int.toNat i) - 0) : Nat) : Int) then
        bif (Nat.ble pre ((pre + 0) + 0)) then
          obind (l[(((pre + 0) + 0) - pre)]?) fun n5 =>
            bif (n5 == 0) then
              some (.normal, (S222 pre n c i bb lg m0 m1 l e))
            else
              bif (decide (1 < ((((Int.toNat i) - 0) : Nat) : Int))) then
                if (0 : Int) ≤ 1 ∧ 1 < ((((Int.toNat i) - 0) : Nat) : Int) then
                  bif (Nat.ble pre ((pre + 0) + 1)) then
                    obind (l[(((pre + 0) + 1) - pre)]?) fun n6 =>
                      bif (decide (2 < ((((Int.toNat i) - 0) : Nat) : Int))) then
                        if (0 : Int) ≤ 2 ∧ 2 < ((((Int.toNat i) - 0) : Nat) : Int) then
                          bif (Nat.ble pre ((pre + 0) + 2)) then
                            obind (l[(((pre + 0) + 2) - pre)]?) fun n7 =>
                              bif (n7 == 0) then
                                some (.normal, (S229 pre n c i n5 m1 bb lg m0 l e))
                              else
                                bif (decide (3 < ((((Int.toNat i) - 0) : Nat) : Int))) then
                                  if (0 : Int) ≤ 3 ∧ 3 < ((((Int.toNat i) - 0) : Nat) : Int) then
                                    bif (Nat.ble pre ((pre + 0) + 3)) then
                                      obind (l[(((pre + 0) + 3) - pre)]?) fun n8 =>
                                        some (.normal, (S230 pre n c i n7 bb lg m0 m1 l e))
                                    else
                                      none
                                  else
                                    none
                                else
                                  some (.normal, (S231 pre n c i n7 n5 bb lg m0 m1 l e))
                          else
                            none
                        else
                          none
                      else
                        some (.normal, (S232 pre n c i n5 m1 bb lg m0 l e))
                  else
                    none
                else
                  none
              else
                some (.normal, (S233 pre n c i n5 m1 m0 bb lg l e))
        else
          none
      else
        none
    else
      some (.normal, (S234 pre n c i m0 bb lg m1 l e)) := by kernel_rfl
noncomputable def S235 (pre : Nat) (n : Nat) (c : Nat) (i : Int) (l : List Int) (m1 : Int) (bb : Int) (lg : Int) (m0 : Int) (e : TypeId) : KSt := ⟨(frameL 135 [(2, (.slice (some ⟨0, pre, none⟩) n c)), (3, (.pointer (some ⟨1, 0, none⟩))), (4, (.pointer (some ⟨2, 0, none⟩))), (7, (.pointer (some ⟨3, 0, none⟩))), (12, (.int .i64 i)), (13, (.pointer (some ⟨4, 0, none⟩))), (14, (.pointer (some ⟨5, 0, none⟩)))]), ⟨6, 1, [(5, 0, .cells [(.int .i64 2), (.int .u64 (l.getD 0 0)), (.int .u64 (makeV (l.getD 0 0) m1))] 63 true), (4, 0, .cells [(.slice (some ⟨0, (pre + 0), none⟩) ((Int.toNat i) - 0) (c - 0)), (.int .i64 3), (.bool false), (.int .i64 0), (.int .u64 0), (.int .i64 0), (.int .u64 0), (.int .u64 0)] 31 true), (3, 0, .cells [(.int .u64 bb), (.int .i64 lg), (.int .i64 m0), (.int .i64 m1), (.int .u64 (l.getD 0 0)), (.int .i64 0), (.int .i64 2), (.int .u64 (l.getD 0 0)), (.int .u64 (makeV (l.getD 0 0) m1))] 82 true), (2, 0, .cells [(.int .i64 m0), (.int .i64 m1)] 55 true), (1, 0, .cells [(.int .u64 bb), (.int .i64 lg)] 54 true), (0, 0, .tail pre .u64 l e)]⟩⟩
noncomputable def S236 (pre : Nat) (n : Nat) (c : Nat) (i : Int) (l : List Int) (m1 : Int) (bb : Int) (lg : Int) (m0 : Int) (e : TypeId) : KSt := ⟨(frameL 135 [(2, (.slice (some ⟨0, pre, none⟩) n c)), (3, (.pointer (some ⟨1, 0, none⟩))), (4, (.pointer (some ⟨2, 0, none⟩))), (7, (.pointer (some ⟨3, 0, none⟩))), (12, (.int .i64 i)), (13, (.pointer (some ⟨4, 0, none⟩))), (14, (.pointer (some ⟨5, 0, none⟩)))]), ⟨6, 1, [(5, 0, .cells [(.int .i64 2), (.int .u64 (l.getD 0 0)), (.int .u64 (makeRV (l.getD 0 0) m1))] 63 true), (4, 0, .cells [(.slice (some ⟨0, (pre + 0), none⟩) ((Int.toNat i) - 0) (c - 0)), (.int .i64 3), (.bool false), (.int .i64 0), (.int .u64 0), (.int .i64 0), (.int .u64 0), (.int .u64 0)] 31 true), (3, 0, .cells [(.int .u64 bb), (.int .i64 lg), (.int .i64 m0), (.int .i64 m1), (.int .u64 (l.getD 0 0)), (.int .i64 0), (.int .i64 2), (.int .u64 (l.getD 0 0)), (.int .u64 (makeV (l.getD 0 0) m1))] 82 true), (2, 0, .cells [(.int .i64 m0), (.int .i64 m1)] 55 true), (1, 0, .cells [(.int .u64 bb), (.int .i64 lg)] 54 true), (0, 0, .tail pre .u64 l e)]⟩⟩
noncomputable def S237 (pre : Nat) (n : Nat) (c : Nat) (i : Int) (l : List Int) (m1 : Int) (bb : Int) (lg : Int) (m0 : Int) (e : TypeId) : KSt := ⟨(frameL 135 [(2, (.slice (some ⟨0, pre, none⟩) n c)), (3, (.pointer (some ⟨1, 0, none⟩))), (4, (.pointer (some ⟨2, 0, none⟩))), (7, (.pointer (some ⟨3, 0, none⟩))), (12, (.int .i64 i)), (13, (.pointer (some ⟨4, 0, none⟩))), (14, (.pointer (some ⟨5, 0, none⟩))), (15, (.pointer (some ⟨6, 0, none⟩))), (16, (.bool false))]), ⟨7, 1, [(6, 0, .cells [(.int .i64 0), (.int .u64 0), (.int .u64 0)] 60 true), (5, 0, .cells [(.int .i64 2), (.int .u64 (l.getD 0 0)), (.int .u64 (makeV (l.getD 0 0) m1))] 63 true), (4, 0, .cells [(.slice (some ⟨0, (pre + 0), none⟩) ((Int.toNat i) - 0) (c - 0)), (.int .i64 3), (.bool false), (.int .i64 0), (.int .u64 0), (.int .i64 0), (.int .u64 0), (.int .u64 0)] 31 true), (3, 0, .cells [(.int .u64 bb), (.int .i64 lg), (.int .i64 m0), (.int .i64 m1), (.int .u64 (l.getD 0 0)), (.int .i64 0), (.int .i64 2), (.int .u64 (l.getD 0 0)), (.int .u64 (makeV (l.getD 0 0) m1))] 82 true), (2, 0, .cells [(.int .i64 m0), (.int .i64 m1)] 55 true), (1, 0, .cells [(.int .u64 bb), (.int .i64 lg)] 54 true), (0, 0, .tail pre .u64 l e)]⟩⟩
noncomputable def S238 (pre : Nat) (n : Nat) (c : Nat) (i : Int) (l : List Int) (m1 : Int) (bb : Int) (lg : Int) (m0 : Int) (e : TypeId) : KSt := ⟨(frameL 135 [(2, (.slice (some ⟨0, pre, none⟩) n c)), (3, (.pointer (some ⟨1, 0, none⟩))), (4, (.pointer (some ⟨2, 0, none⟩))), (7, (.pointer (some ⟨3, 0, none⟩))), (12, (.int .i64 i)), (13, (.pointer (some ⟨4, 0, none⟩))), (14, (.pointer (some ⟨5, 0, none⟩))), (15, (.pointer (some ⟨6, 0, none⟩))), (16, (.bool true))]), ⟨7, 1, [(6, 0, .cells [(.int .i64 2), (.int .u64 (l.getD 0 0)), (.int .u64 (makeV (l.getD 0 0) m1))] 60 true), (5, 0, .cells [(.int .i64 2), (.int .u64 (l.getD 0 0)), (.int .u64 (makeV (l.getD 0 0) m1))] 63 true), (4, 0, .cells [(.slice (some ⟨0, (pre + 0), none⟩) ((Int.toNat i) - 0) (c - 0)), (.int .i64 3), (.bool false), (.int .i64 0), (.int .u64 0), (.int .i64 0), (.int .u64 0), (.int .u64 0)] 31 true), (3, 0, .cells [(.int .u64 bb), (.int .i64 lg), (.int .i64 m0), (.int .i64 m1), (.int .u64 (l.getD 0 0)), (.int .i64 0), (.int .i64 2), (.int .u64 (l.getD 0 0)), (.int .u64 (makeV (l.getD 0 0) m1))] 82 true), (2, 0, .cells [(.int .i64 m0), (.int .i64 m1)] 55 true), (1, 0, .cells [(.int .u64 bb), (.int .i64 lg)] 54 true), (0, 0, .tail pre .u64 l e)]⟩⟩
theorem R180 (pre : Nat) (n : Nat) (c : Nat) (i : Int) (l : List Int) (m1 : Int) (bb : Int) (lg : Int) (m0 : Int) (e : TypeId) : evCK Try.prog cfgE (runK Try.prog cfgE fsE (conT grpDom grpE) 12 40) 12 (codeAt [1, 1, 1, 1, 0, 1, 0, 0, 1, 0, 0, 1, 1, 0] B) (S235 pre n c i l m1 bb lg m0 e) (normC 1 [2, 3, 4, 7, 12, 13, 14, 15, 16]) =
  bif (false && (((l.getD 0 0) == 0) && (((makeV (l.getD 0 0) m1) == 0) && true))) then
    some (.normal, (S237 pre n c i l m1 bb lg m0 e))
  else
    some (.normal, (S238 pre n c i l m1 bb lg m0 e)) := by kernel_rfl
noncomputable def S239 (pre : Nat) (n : Nat) (c : Nat) (i : Int) (l : List Int) (m1 : Int) (bb : Int) (lg : Int) (m0 : Int) (e : TypeId) : KSt := ⟨(frameL 135 [(2, (.slice (some ⟨0, pre, none⟩) n c)), (3, (.pointer (some ⟨1, 0, none⟩))), (4, (.pointer (some ⟨2, 0, none⟩))), (7, (.pointer (some ⟨3, 0, none⟩))), (12, (.int .i64 i)), (13, (.pointer (some ⟨4, 0, none⟩))), (14, (.pointer (some ⟨5, 0, none⟩))), (15, (.pointer (some ⟨6, 0, none⟩))), (16, (.bool true)), (17, (.pointer (some ⟨7, 0, none⟩))), (18, (.bool false))]), ⟨8, 1, [(7, 0, .cells [(.int .i64 0), (.int .u64 0), (.int .i64 0), (.int .u64 0), (.int .u64 0)] 29 true), (6, 0, .cells [(.int .i64 2), (.int .u64 (l.getD 0 0)), (.int .u64 (makeV (l.getD 0 0) m1))] 60 true), (5, 0, .cells [(.int .i64 2), (.int .u64 (l.getD 0 0)), (.int .u64 (makeV (l.getD 0 0) m1))] 63 true), (4, 0, .cells [(.slice (some ⟨0, (pre + 0), none⟩) ((Int.toNat i) - 0) (c - 0)), (.int .i64 3), (.bool false), (.int .i64 0), (.int .u64 0), (.int .i64 0), (.int .u64 0), (.int .u64 0)] 31 true), (3, 0, .cells [(.int .u64 bb), (.int .i64 lg), (.int .i64 m0), (.int .i64 m1), (.int .u64 (l.getD 0 0)), (.int .i64 0), (.int .i64 2), (.int .u64 (l.getD 0 0)), (.int .u64 (makeV (l.getD 0 0) m1))] 82 true), (2, 0, .cells [(.int .i64 m0), (.int .i64 m1)] 55 true), (1, 0, .cells [(.int .u64 bb), (.int .i64 lg)] 54 true), (0, 0, .tail pre .u64 l e)]⟩⟩
theorem R181 (pre : Nat) (n : Nat) (c : Nat) (i : Int) (l : List Int) (m1 : Int) (bb : Int) (lg : Int) (m0 : Int) (e : TypeId) : evCK Try.prog cfgE (runK Try.prog cfgE fsE (conT grpDom grpE) 12 40) 12 (codeAt [1, 1, 1, 1, 0, 1, 0, 0, 1, 0, 0, 1, 1, 1, 0] B) (S238 pre n c i l m1 bb lg m0 e) (normC 1 [2, 3, 4, 7, 12, 13, 14, 15, 16, 17, 18]) =
  some (.normal, (S239 pre n c i l m1 bb lg m0 e)) := by kernel_rfl
noncomputable def S240 (pre : Nat) (n : Nat) (c : Nat) (i : Int) (bb : Int) (lg : Int) (m0 : Int) (m1 : Int) (l : List Int) (e : TypeId) : KSt := ⟨(frameL 135 [(2, (.slice (some ⟨0, pre, none⟩) n c)), (3, (.pointer (some ⟨1, 0, none⟩))), (4, (.pointer (some ⟨2, 0, none⟩))), (7, (.pointer (some ⟨3, 0, none⟩))), (12, (.int .i64 i)), (123, (.bool true))]), ⟨4, 1, [(3, 0, .cells [(.int .u64 bb), (.int .i64 lg), (.int .i64 m0), (.int .i64 m1), (.int .u64 (l.getD 0 0)), (.int .i64 0), (.int .i64 2), (.int .u64 (l.getD 0 0)), (.int .u64 (makeV (l.getD 0 0) m1))] 82 true), (2, 0, .cells [(.int .i64 m0), (.int .i64 m1)] 55 true), (1, 0, .cells [(.int .u64 bb), (.int .i64 lg)] 54 true), (0, 0, .tail pre .u64 l e)]⟩⟩
noncomputable def S241 (pre : Nat) (n : Nat) (c : Nat) (i : Int) (bb : Int) (lg : Int) (m0 : Int) (m1 : Int) (l : List Int) (e : TypeId) : KSt := ⟨(frameL 135 [(2, (.slice (some ⟨0, pre, none⟩) n c)), (3, (.pointer (some ⟨1, 0, none⟩))), (4, (.pointer (some ⟨2, 0, none⟩))), (7, (.pointer (some ⟨3, 0, none⟩))), (12, (.int .i64 i)), (123, (.bool false))]), ⟨4, 1, [(3, 0, .cells [(.int .u64 bb), (.int .i64 lg), (.int .i64 m0), (.int .i64 m1), (.int .u64 (l.getD 0 0)), (.int .i64 0), (.int .i64 2), (.int .u64 (l.getD 0 0)), (.int .u64 (makeV (l.getD 0 0) m1))] 82 true), (2, 0, .cells [(.int .i64 m0), (.int .i64 m1)] 55 true), (1, 0, .cells [(.int .u64 bb), (.int .i64 lg)] 54 true), (0, 0, .tail pre .u64 l e)]⟩⟩
theorem R182 (pre : Nat) (n : Nat) (c : Nat) (i : Int) (l : List Int) (m1 : Int) (bb : Int) (lg : Int) (m0 : Int) (e : TypeId) : evCK Try.prog cfgE (runK Try.prog cfgE fsE (conT grpDom grpE) 12 40) 12 (codeAt [1, 1, 1, 1, 0, 1, 0, 0, 1, 0, 0, 1, 1, 1, 1, 0, 0] B) (S239 pre n c i l m1 bb lg m0 e) (normC 1 [2, 3, 4, 7, 12, 123]) =
  bif (!(true && (((l.getD 0 0) == (l.getD 0 0)) && (((makeV (l.getD 0 0) m1) == (makeV (l.getD 0 0) m1)) && true)))) then
    some (.normal, (S240 pre n c i bb lg m0 m1 l e))
  else
    some (.normal, (S241 pre n c i bb lg m0 m1 l e)) := by kernel_rfl
theorem R183 (pre : Nat) (n : Nat) (c : Nat) (i : Int) (bb : Int) (lg : Int) (m0 : Int) (m1 : Int) (l : List Int) (e : TypeId) : evCK Try.prog cfgE (runK Try.prog cfgE fsE (conT grpDom grpE) 12 40) 12 (codeAt [1, 1, 1, 1, 0, 1, 0, 0, 1, 0, 0, 1, 1, 1, 1, 0, 1, 1] B) (S241 pre n c i bb lg m0 m1 l e) (normC 1 [2, 3, 4, 7, 12]) =
  some (.normal, (S130 pre n c i bb lg m0 m1 l e)) := by kernel_rfl
noncomputable def S242 (pre : Nat) (n : Nat) (c : Nat) (i : Int) (bb : Int) (lg : Int) (m0 : Int) (m1 : Int) (l : List Int) (e : TypeId) : KSt := ⟨(frameL 135 [(2, (.slice (some ⟨0, pre, none⟩) n c)), (3, (.pointer (some ⟨1, 0, none⟩))), (4, (.pointer (some ⟨2, 0, none⟩))), (7, (.pointer (some ⟨3, 0, none⟩))), (12, (.int .i64 i)), (127, (.bool (decide (i < ((n : Nat) : Int)))))]), ⟨4, 1, [(3, 0, .cells [(.int .u64 bb), (.int .i64 lg), (.int .i64 m0), (.int .i64 m1), (.int .u64 (l.getD 0 0)), (.int .i64 0), (.int .i64 2), (.int .u64 (l.getD 0 0)), (.int .u64 (makeV (l.getD 0 0) m1))] 82 true), (2, 0, .cells [(.int .i64 m0), (.int .i64 m1)] 55 true), (1, 0, .cells [(.int .u64 bb), (.int .i64 lg)] 54 true), (0, 0, .tail pre .u64 l e)]⟩⟩
theorem R184 (pre : Nat) (n : Nat) (c : Nat) (i : Int) (bb : Int) (lg : Int) (m0 : Int) (m1 : Int) (l : List Int) (e : TypeId) : evCK Try.prog cfgE (runK Try.prog cfgE fsE (conT grpDom grpE) 12 40) 12 (codeAt [1, 1, 1, 1, 0, 1, 0, 0, 1, 0, 0, 1, 1, 1, 1, 1, 0] B) (S130 pre n c i bb lg m0 m1 l e) (normC 1 [2, 3, 4, 7, 12, 127]) =
  some (.normal, (S242 pre n c i bb lg m0 m1 l e)) := by kernel_rfl
theorem R185 (pre : Nat) (n : Nat) (c : Nat) (i : Int) (bb : Int) (lg : Int) (m0 : Int) (m1 : Int) (l : List Int) (e : TypeId) : evCK Try.prog cfgE (runK Try.prog cfgE fsE (conT grpDom grpE) 12 40) 12 (codeAt [1, 1, 1, 1, 0, 1, 0, 0, 1, 0, 0, 1, 1, 1, 1, 1, 1, 0] B) (S242 pre n c i bb lg m0 m1 l e) (normC 1 [2, 3, 4, 7, 12]) =
  if 0 ≤ i ∧ i < ((n : Nat) : Int) then
    bif (Nat.ble pre (pre + ((Int.toNat i) * 1))) then
      obind (l[((pre + ((Int.toNat i) * 1)) - pre)]?) fun n1 =>
        some (.normal, (S130 pre n c i bb lg m0 m1 l e))
    else
      none
  else
    none := by kernel_rfl
noncomputable def S243 (pre : Nat) (n : Nat) (c : Nat) (i : Int) (bb : Int) (lg : Int) (m0 : Int) (m1 : Int) (l : List Int) (e : TypeId) : KSt := ⟨(frameL 135 [(2, (.slice (some ⟨0, pre, none⟩) n c)), (3, (.pointer (some ⟨1, 0, none⟩))), (4, (.pointer (some ⟨2, 0, none⟩))), (7, (.pointer (some ⟨3, 0, none⟩))), (12, (.int .i64 (IntKind.wrap .i64 (i + 1))))]), ⟨4, 1, [(3, 0, .cells [(.int .u64 bb), (.int .i64 lg), (.int .i64 m0), (.int .i64 m1), (.int .u64 (l.getD 0 0)), (.int .i64 0), (.int .i64 2), (.int .u64 (l.getD 0 0)), (.int .u64 (makeV (l.getD 0 0) m1))] 82 true), (2, 0, .cells [(.int .i64 m0), (.int .i64 m1)] 55 true), (1, 0, .cells [(.int .u64 bb), (.int .i64 lg)] 54 true), (0, 0, .tail pre .u64 l e)]⟩⟩
theorem R186 (pre : Nat) (n : Nat) (c : Nat) (i : Int) (bb : Int) (lg : Int) (m0 : Int) (m1 : Int) (l : List Int) (e : TypeId) : evCK Try.prog cfgE (runK Try.prog cfgE fsE (conT grpDom grpE) 12 40) 12 (codeAt [1, 1, 1, 1, 0, 1, 0, 0, 1, 1] B) (S130 pre n c i bb lg m0 m1 l e) (normC 1 [2, 3, 4, 7, 12]) =
  some (.normal, (S243 pre n c i bb lg m0 m1 l e)) := by kernel_rfl
noncomputable def S244 (pre : Nat) (n : Nat) (c : Nat) (i : Int) (bb : Int) (lg : Int) (m0 : Int) (m1 : Int) (l : List Int) (e : TypeId) : KSt := ⟨(frameL 135 [(2, (.slice (some ⟨0, pre, none⟩) n c)), (3, (.pointer (some ⟨1, 0, none⟩))), (4, (.pointer (some ⟨2, 0, none⟩))), (7, (.pointer (some ⟨3, 0, none⟩))), (12, (.int .i64 (i + 1)))]), ⟨4, 1, [(3, 0, .cells [(.int .u64 bb), (.int .i64 lg), (.int .i64 m0), (.int .i64 m1), (.int .u64 (l.getD 0 0)), (.int .i64 0), (.int .i64 2), (.int .u64 (l.getD 0 0)), (.int .u64 (makeV (l.getD 0 0) m1))] 82 true), (2, 0, .cells [(.int .i64 m0), (.int .i64 m1)] 55 true), (1, 0, .cells [(.int .u64 bb), (.int .i64 lg)] 54 true), (0, 0, .tail pre .u64 l e)]⟩⟩
theorem lp18m_45 (bb lg m0 m1 g gl : Int) (i : Int) (pre n c : Nat) (l : List Int) (e : TypeId) (hb : 0 ≤ bb) (hm : -9223372036854775808 ≤ m1 ∧ m1 < 9223372036854775808) (hg : groupsV m0 = g) (hg1 : 0 ≤ g) (hg2 : g ≤ 512) (hgl : groupsV lg = gl) (hgl1 : 0 ≤ gl) (hn20 : n ≤ 20) (hc : n ≤ c) (hc2 : c ≤ 9223372036854775807) (hl : l.length = c) (hc0 : 0 < c) (h1 : bb ≠ 0) (h2 : 0 < gl) (h3 : 0 < g) (hi : 5 ≤ i) (hn : i < (n : Int))  (q1 : ((l.getD 0 0) == 0) = false) (q2 : ((l.getD 2 0) == 0) = true) {Q : Ex → St → Prop} (hq : Q .normal (KSt.low (S244 pre n c i bb lg m0 m1 l e))) : Gets Try.prog (KH.low ⟨1, 1, [(0, 0, .tail pre .u64 l e)]⟩) (codeAt [1, 1, 1, 1, 0, 1, 0, 0] B) (KSt.low (S130 pre n c i bb lg m0 m1 l e)) Q := by
  rw [C1_1_1_1_0_1_0_0]; refine Gets.seq ?_
  rw [C1_1_1_1_0_1_0_0_0]; refine Gets.seq ?_
  refine Gets.ofN fitE grp_sound (conT_agree _ _) 12 40 (by kernel_rfl) (x := .normal) (s' := (S180 pre n c i bb lg m0 m1 l e)) (R150 pre n c i bb lg m0 m1 l e) ?_
  show Gets _ _ (codeAt [1, 1, 1, 1, 0, 1, 0, 0, 0, 1] B) _ _
  rw [C1_1_1_1_0_1_0_0_0_1]; refine Gets.cond true (by kernel_rfl) ((show evalX (KSt.ts (S180 pre n c i bb lg m0 m1 l e)) (.tmp 60) = .bool (decide (i ≤ ((n : Nat) : Int))) by kernel_rfl).trans (by rw [(show (decide (i ≤ ((n : Nat) : Int))) = true from decide_eq_true (by omega))])) ?_; show Gets _ _ (codeAt [1, 1, 1, 1, 0, 1, 0, 0, 0, 1, 0] B) _ _
  refine Gets.ofN fitE grp_sound (conT_agree _ _) 12 40 (by kernel_rfl) (x := .normal) (s' := (S130 pre n c i bb lg m0 m1 l e)) (R177 pre n c i bb lg m0 m1 l e) ?_
  show Gets _ _ (codeAt [1, 1, 1, 1, 0, 1, 0, 0, 1] B) _ _
  rw [C1_1_1_1_0_1_0_0_1]; refine Gets.seq ?_
  rw [C1_1_1_1_0_1_0_0_1_0]; refine Gets.block ?_
  rw [C1_1_1_1_0_1_0_0_1_0_0]; refine Gets.seq ?_
  refine Gets.ofN fitE grp_sound (conT_agree _ _) 12 40 (by kernel_rfl) (x := .normal) (s' := (S221 pre n c i bb lg m0 m1 l e)) ((R178 pre n c i bb lg m0 m1 l e).trans (by rw [if_pos (⟨by omega, by omega⟩), condT (and_t (ble_t (by omega)) (ble_t (by omega))), condF (nbeq_f (by omega))])) ?_
  show Gets _ _ (codeAt [1, 1, 1, 1, 0, 1, 0, 0, 1, 0, 0, 1] B) _ _
  rw [C1_1_1_1_0_1_0_0_1_0_0_1]; refine Gets.seq ?_
  refine Gets.ofN fitE grp_sound (conT_agree _ _) 12 40 (by kernel_rfl) (x := .normal) (s' := (S235 pre n c i l m1 bb lg m0 e)) ((R179 pre n c i bb lg m0 m1 l e).trans (by rw [condF (ibeq_f (by ((try simp (disch := omega) only [hg, hgl, wrap_i64_id]) <;> omega))), condT (decide_eq_true (by omega)), if_pos (⟨by omega, by omega⟩), condT (ble_t (by omega)), obind_at (k := 0) (by omega) (by omega), condF (q1), condT (decide_eq_true (by omega)), if_pos (⟨by omega, by omega⟩), condT (ble_t (by omega)), obind_at (k := 1) (by omega) (by omega), condT (decide_eq_true (by omega)), if_pos (⟨by omega, by omega⟩), condT (ble_t (by omega)), obind_at (k := 2) (by omega) (by omega), condT (q2)] <;> (show some (Ex.normal, (S236 pre n c i l m1 bb lg m0 e)) = some (Ex.normal, (S235 pre n c i l m1 bb lg m0 e)); unfold S236 S235; rw [(show (makeRV (l.getD 0 0) m1) = (makeV (l.getD 0 0) m1) from makeRV_eq hm)]))) ?_
  show Gets _ _ (codeAt [1, 1, 1, 1, 0, 1, 0, 0, 1, 0, 0, 1, 1] B) _ _
  rw [C1_1_1_1_0_1_0_0_1_0_0_1_1]; refine Gets.seq ?_
  refine Gets.ofN fitE grp_sound (conT_agree _ _) 12 40 (by kernel_rfl) (x := .normal) (s' := (S238 pre n c i l m1 bb lg m0 e)) ((R180 pre n c i l m1 bb lg m0 e).trans (by rw [condF (and_f1 (rfl))])) ?_
  show Gets _ _ (codeAt [1, 1, 1, 1, 0, 1, 0, 0, 1, 0, 0, 1, 1, 1] B) _ _
  rw [C1_1_1_1_0_1_0_0_1_0_0_1_1_1]; refine Gets.seq ?_
  refine Gets.ofN fitE grp_sound (conT_agree _ _) 12 40 (by kernel_rfl) (x := .normal) (s' := (S239 pre n c i l m1 bb lg m0 e)) (R181 pre n c i l m1 bb lg m0 e) ?_
  show Gets _ _ (codeAt [1, 1, 1, 1, 0, 1, 0, 0, 1, 0, 0, 1, 1, 1, 1] B) _ _
  rw [C1_1_1_1_0_1_0_0_1_0_0_1_1_1_1]; refine Gets.seq ?_
  rw [C1_1_1_1_0_1_0_0_1_0_0_1_1_1_1_0]; refine Gets.seq ?_
  refine Gets.ofN fitE grp_sound (conT_agree _ _) 12 40 (by kernel_rfl) (x := .normal) (s' := (S241 pre n c i bb lg m0 m1 l e)) ((R182 pre n c i l m1 bb lg m0 e).trans (by rw [condF (not_f (and_t (rfl) (and_t (beq_self_eq_true _) (and_t (beq_self_eq_true _) (rfl)))))])) ?_
  show Gets _ _ (codeAt [1, 1, 1, 1, 0, 1, 0, 0, 1, 0, 0, 1, 1, 1, 1, 0, 1] B) _ _
  rw [C1_1_1_1_0_1_0_0_1_0_0_1_1_1_1_0_1]; refine Gets.cond false (by kernel_rfl) (show evalX (KSt.ts (S241 pre n c i bb lg m0 m1 l e)) (.tmp 123) = .bool false by kernel_rfl) ?_; show Gets _ _ (codeAt [1, 1, 1, 1, 0, 1, 0, 0, 1, 0, 0, 1, 1, 1, 1, 0, 1, 1] B) _ _
  refine Gets.ofN fitE grp_sound (conT_agree _ _) 12 40 (by kernel_rfl) (x := .normal) (s' := (S130 pre n c i bb lg m0 m1 l e)) (R183 pre n c i bb lg m0 m1 l e) ?_
  show Gets _ _ (codeAt [1, 1, 1, 1, 0, 1, 0, 0, 1, 0, 0, 1, 1, 1, 1, 1] B) _ _
  rw [C1_1_1_1_0_1_0_0_1_0_0_1_1_1_1_1]; refine Gets.seq ?_
  refine Gets.ofN fitE grp_sound (conT_agree _ _) 12 40 (by kernel_rfl) (x := .normal) (s' := (S242 pre n c i bb lg m0 m1 l e)) (R184 pre n c i bb lg m0 m1 l e) ?_
  show Gets _ _ (codeAt [1, 1, 1, 1, 0, 1, 0, 0, 1, 0, 0, 1, 1, 1, 1, 1, 1] B) _ _
  rw [C1_1_1_1_0_1_0_0_1_0_0_1_1_1_1_1_1]; refine Gets.cond true (by kernel_rfl) ((show evalX (KSt.ts (S242 pre n c i bb lg m0 m1 l e)) (.tmp 127) = .bool (decide (i < ((n : Nat) : Int))) by kernel_rfl).trans (by rw [(show (decide (i < ((n : Nat) : Int))) = true from decide_eq_true (by omega))])) ?_; show Gets _ _ (codeAt [1, 1, 1, 1, 0, 1, 0, 0, 1, 0, 0, 1, 1, 1, 1, 1, 1, 0] B) _ _
  refine Gets.ofN fitE grp_sound (conT_agree _ _) 12 40 (by kernel_rfl) (x := .normal) (s' := (S130 pre n c i bb lg m0 m1 l e)) ((R185 pre n c i bb lg m0 m1 l e).trans (by rw [if_pos (⟨by omega, by omega⟩), condT (ble_t (by omega)), obind_at (k := ((Int.toNat i) * 1)) (by omega) (by omega)] <;> rfl)) ?_
  show Gets _ _ (codeAt [1, 1, 1, 1, 0, 1, 0, 0, 1, 1] B) _ _
  refine Gets.ofN fitE grp_sound (conT_agree _ _) 12 40 (by kernel_rfl) (x := .normal) (s' := (S244 pre n c i bb lg m0 m1 l e)) ((R186 pre n c i bb lg m0 m1 l e).trans (by (show some (Ex.normal, (S243 pre n c i bb lg m0 m1 l e)) = some (Ex.normal, (S244 pre n c i bb lg m0 m1 l e)); unfold S243 S244; rw [(show (IntKind.wrap .i64 (i + 1)) = (i + 1) from wrap_i64_id (by omega) (by omega))]))) ?_
  exact hq
theorem R187 (pre : Nat) (n : Nat) (c : Nat) (i : Int) (bb : Int) (lg : Int) (m0 : Int) (m1 : Int) (l : List Int) (e : TypeId) : evCK Try.prog cfgE (runK Try.prog cfgE fsE (conT grpDom grpE) 12 40) 12 (codeAt [1, 1, 1, 1, 0, 1, 0, 0, 1, 0, 0, 1, 1, 1, 1, 1, 1, 1] B) (S242 pre n c i bb lg m0 m1 l e) (normC 1 [2, 3, 4, 7, 12]) =
  some (.normal, (S130 pre n c i bb lg m0 m1 l e)) := by kernel_rfl
theorem lp18e_46 (bb lg m0 m1 g gl : Int) (i : Int) (pre n c : Nat) (l : List Int) (e : TypeId) (hb : 0 ≤ bb) (hm : -9223372036854775808 ≤ m1 ∧ m1 < 9223372036854775808) (hg : groupsV m0 = g) (hg1 : 0 ≤ g) (hg2 : g ≤ 512) (hgl : groupsV lg = gl) (hgl1 : 0 ≤ gl) (hn20 : n ≤ 20) (hc : n ≤ c) (hc2 : c ≤ 9223372036854775807) (hl : l.length = c) (hc0 : 0 < c) (h1 : bb ≠ 0) (h2 : 0 < gl) (h3 : 0 < g) (hi : 5 ≤ i) (hn : i = (n : Int))  (q1 : ((l.getD 0 0) == 0) = false) (q2 : ((l.getD 2 0) == 0) = true) {Q : Ex → St → Prop} (hq : Q .normal (KSt.low (S244 pre n c i bb lg m0 m1 l e))) : Gets Try.prog (KH.low ⟨1, 1, [(0, 0, .tail pre .u64 l e)]⟩) (codeAt [1, 1, 1, 1, 0, 1, 0, 0] B) (KSt.low (S130 pre n c i bb lg m0 m1 l e)) Q := by
  rw [C1_1_1_1_0_1_0_0]; refine Gets.seq ?_
  rw [C1_1_1_1_0_1_0_0_0]; refine Gets.seq ?_
  refine Gets.ofN fitE grp_sound (conT_agree _ _) 12 40 (by kernel_rfl) (x := .normal) (s' := (S180 pre n c i bb lg m0 m1 l e)) (R150 pre n c i bb lg m0 m1 l e) ?_
  show Gets _ _ (codeAt [1, 1, 1, 1, 0, 1, 0, 0, 0, 1] B) _ _
  rw [C1_1_1_1_0_1_0_0_0_1]; refine Gets.cond true (by kernel_rfl) ((show evalX (KSt.ts (S180 pre n c i bb lg m0 m1 l e)) (.tmp 60) = .bool (decide (i ≤ ((n : Nat) : Int))) by kernel_rfl).trans (by rw [(show (decide (i ≤ ((n : Nat) : Int))) = true from decide_eq_true (by omega))])) ?_; show Gets _ _ (codeAt [1, 1, 1, 1, 0, 1, 0, 0, 0, 1, 0] B) _ _
  refine Gets.ofN fitE grp_sound (conT_agree _ _) 12 40 (by kernel_rfl) (x := .normal) (s' := (S130 pre n c i bb lg m0 m1 l e)) (R177 pre n c i bb lg m0 m1 l e) ?_
  show Gets _ _ (codeAt [1, 1, 1, 1, 0, 1, 0, 0, 1] B) _ _
  rw [C1_1_1_1_0_1_0_0_1]; refine Gets.seq ?_
  rw [C1_1_1_1_0_1_0_0_1_0]; refine Gets.block ?_
  rw [C1_1_1_1_0_1_0_0_1_0_0]; refine Gets.seq ?_
  refine Gets.ofN fitE grp_sound (conT_agree _ _) 12 40 (by kernel_rfl) (x := .normal) (s' := (S221 pre n c i bb lg m0 m1 l e)) ((R178 pre n c i bb lg m0 m1 l e).trans (by rw [if_pos (⟨by omega, by omega⟩), condT (and_t (ble_t (by omega)) (ble_t (by omega))), condF (nbeq_f (by omega))])) ?_
  show Gets _ _ (codeAt [1, 1, 1, 1, 0, 1, 0, 0, 1, 0, 0, 1] B) _ _
  rw [C1_1_1_1_0_1_0_0_1_0_0_1]; refine Gets.seq ?_
  refine Gets.ofN fitE grp_sound (conT_agree _ _) 12 40 (by kernel_rfl) (x := .normal) (s' := (S235 pre n c i l m1 bb lg m0 e)) ((R179 pre n c i bb lg m0 m1 l e).trans (by rw [condF (ibeq_f (by ((try simp (disch := omega) only [hg, hgl, wrap_i64_id]) <;> omega))), condT (decide_eq_true (by omega)), if_pos (⟨by omega, by omega⟩), condT (ble_t (by omega)), obind_at (k := 0) (by omega) (by omega), condF (q1), condT (decide_eq_true (by omega)), if_pos (⟨by omega, by omega⟩), condT (ble_t (by omega)), obind_at (k := 1) (by omega) (by omega), condT (decide_eq_true (by omega)), if_pos (⟨by omega, by omega⟩), condT (ble_t (by omega)), obind_at (k := 2) (by omega) (by omega), condT (q2)] <;> (show some (Ex.normal, (S236 pre n c i l m1 bb lg m0 e)) = some (Ex.normal, (S235 pre n c i l m1 bb lg m0 e)); unfold S236 S235; rw [(show (makeRV (l.getD 0 0) m1) = (makeV (l.getD 0 0) m1) from makeRV_eq hm)]))) ?_
  show Gets _ _ (codeAt [1, 1, 1, 1, 0, 1, 0, 0, 1, 0, 0, 1, 1] B) _ _
  rw [C1_1_1_1_0_1_0_0_1_0_0_1_1]; refine Gets.seq ?_
  refine Gets.ofN fitE grp_sound (conT_agree _ _) 12 40 (by kernel_rfl) (x := .normal) (s' := (S238 pre n c i l m1 bb lg m0 e)) ((R180 pre n c i l m1 bb lg m0 e).trans (by rw [condF (and_f1 (rfl))])) ?_
  show Gets _ _ (codeAt [1, 1, 1, 1, 0, 1, 0, 0, 1, 0, 0, 1, 1, 1] B) _ _
  rw [C1_1_1_1_0_1_0_0_1_0_0_1_1_1]; refine Gets.seq ?_
  refine Gets.ofN fitE grp_sound (conT_agree _ _) 12 40 (by kernel_rfl) (x := .normal) (s' := (S239 pre n c i l m1 bb lg m0 e)) (R181 pre n c i l m1 bb lg m0 e) ?_
  show Gets _ _ (codeAt [1, 1, 1, 1, 0, 1, 0, 0, 1, 0, 0, 1, 1, 1, 1] B) _ _
  rw [C1_1_1_1_0_1_0_0_1_0_0_1_1_1_1]; refine Gets.seq ?_
  rw [C1_1_1_1_0_1_0_0_1_0_0_1_1_1_1_0]; refine Gets.seq ?_
  refine Gets.ofN fitE grp_sound (conT_agree _ _) 12 40 (by kernel_rfl) (x := .normal) (s' := (S241 pre n c i bb lg m0 m1 l e)) ((R182 pre n c i l m1 bb lg m0 e).trans (by rw [condF (not_f (and_t (rfl) (and_t (beq_self_eq_true _) (and_t (beq_self_eq_true _) (rfl)))))])) ?_
  show Gets _ _ (codeAt [1, 1, 1, 1, 0, 1, 0, 0, 1, 0, 0, 1, 1, 1, 1, 0, 1] B) _ _
  rw [C1_1_1_1_0_1_0_0_1_0_0_1_1_1_1_0_1]; refine Gets.cond false (by kernel_rfl) (show evalX (KSt.ts (S241 pre n c i bb lg m0 m1 l e)) (.tmp 123) = .bool false by kernel_rfl) ?_; show Gets _ _ (codeAt [1, 1, 1, 1, 0, 1, 0, 0, 1, 0, 0, 1, 1, 1, 1, 0, 1, 1] B) _ _
  refine Gets.ofN fitE grp_sound (conT_agree _ _) 12 40 (by kernel_rfl) (x := .normal) (s' := (S130 pre n c i bb lg m0 m1 l e)) (R183 pre n c i bb lg m0 m1 l e) ?_
  show Gets _ _ (codeAt [1, 1, 1, 1, 0, 1, 0, 0, 1, 0, 0, 1, 1, 1, 1, 1] B) _ _
  rw [C1_1_1_1_0_1_0_0_1_0_0_1_1_1_1_1]; refine Gets.seq ?_
  refine Gets.ofN fitE grp_sound (conT_agree _ _) 12 40 (by kernel_rfl) (x := .normal) (s' := (S242 pre n c i bb lg m0 m1 l e)) (R184 pre n c i bb lg m0 m1 l e) ?_
  show Gets _ _ (codeAt [1, 1, 1, 1, 0, 1, 0, 0, 1, 0, 0, 1, 1, 1, 1, 1, 1] B) _ _
  rw [C1_1_1_1_0_1_0_0_1_0_0_1_1_1_1_1_1]; refine Gets.cond false (by kernel_rfl) ((show evalX (KSt.ts (S242 pre n c i bb lg m0 m1 l e)) (.tmp 127) = .bool (decide (i < ((n : Nat) : Int))) by kernel_rfl).trans (by rw [(show (decide (i < ((n : Nat) : Int))) = false from decide_eq_false (by omega))])) ?_; show Gets _ _ (codeAt [1, 1, 1, 1, 0, 1, 0, 0, 1, 0, 0, 1, 1, 1, 1, 1, 1, 1] B) _ _
  refine Gets.ofN fitE grp_sound (conT_agree _ _) 12 40 (by kernel_rfl) (x := .normal) (s' := (S130 pre n c i bb lg m0 m1 l e)) (R187 pre n c i bb lg m0 m1 l e) ?_
  show Gets _ _ (codeAt [1, 1, 1, 1, 0, 1, 0, 0, 1, 1] B) _ _
  refine Gets.ofN fitE grp_sound (conT_agree _ _) 12 40 (by kernel_rfl) (x := .normal) (s' := (S244 pre n c i bb lg m0 m1 l e)) ((R186 pre n c i bb lg m0 m1 l e).trans (by (show some (Ex.normal, (S243 pre n c i bb lg m0 m1 l e)) = some (Ex.normal, (S244 pre n c i bb lg m0 m1 l e)); unfold S243 S244; rw [(show (IntKind.wrap .i64 (i + 1)) = (i + 1) from wrap_i64_id (by omega) (by omega))]))) ?_
  exact hq
noncomputable def S245 (pre : Nat) (n : Nat) (c : Nat) (i : Int) (bb : Int) (lg : Int) (m0 : Int) (m1 : Int) (l : List Int) (e : TypeId) : KSt := ⟨(frameL 135 [(2, (.slice (some ⟨0, pre, none⟩) n c)), (3, (.pointer (some ⟨1, 0, none⟩))), (4, (.pointer (some ⟨2, 0, none⟩))), (7, (.pointer (some ⟨3, 0, none⟩))), (12, (.int .i64 i)), (60, (.bool (decide (i ≤ ((n : Nat) : Int)))))]), ⟨4, 1, [(3, 0, .cells [(.int .u64 bb), (.int .i64 lg), (.int .i64 m0), (.int .i64 m1), (.int .u64 (l.getD 0 0)), (.int .i64 0), (.int .i64 3), (.int .u64 0), (.int .u64 (l.getD 2 0))] 82 true), (2, 0, .cells [(.int .i64 m0), (.int .i64 m1)] 55 true), (1, 0, .cells [(.int .u64 bb), (.int .i64 lg)] 54 true), (0, 0, .tail pre .u64 l e)]⟩⟩
theorem R188 (pre : Nat) (n : Nat) (c : Nat) (i : Int) (bb : Int) (lg : Int) (m0 : Int) (m1 : Int) (l : List Int) (e : TypeId) : evCK Try.prog cfgE (runK Try.prog cfgE fsE (conT grpDom grpE) 12 40) 12 (codeAt [1, 1, 1, 1, 0, 1, 0, 0, 0, 0] B) (S197 pre n c i bb lg m0 m1 l e) (normC 1 [2, 3, 4, 7, 12, 60]) =
  some (.normal, (S245 pre n c i bb lg m0 m1 l e)) := by kernel_rfl
theorem R189 (pre : Nat) (n : Nat) (c : Nat) (i : Int) (bb : Int) (lg : Int) (m0 : Int) (m1 : Int) (l : List Int) (e : TypeId) : evCK Try.prog cfgE (runK Try.prog cfgE fsE (conT grpDom grpE) 12 40) 12 (codeAt [1, 1, 1, 1, 0, 1, 0, 0, 0, 1, 0] B) (S245 pre n c i bb lg m0 m1 l e) (normC 1 [2, 3, 4, 7, 12]) =
  some (.normal, (S197 pre n c i bb lg m0 m1 l e)) := by kernel_rfl
noncomputable def S246 (pre : Nat) (n : Nat) (c : Nat) (i : Int) (bb : Int) (lg : Int) (m0 : Int) (m1 : Int) (l : List Int) (e : TypeId) : KSt := ⟨(frameL 135 [(2, (.slice (some ⟨0, pre, none⟩) n c)), (3, (.pointer (some ⟨1, 0, none⟩))), (4, (.pointer (some ⟨2, 0, none⟩))), (7, (.pointer (some ⟨3, 0, none⟩))), (12, (.int .i64 i)), (13, (.pointer (some ⟨4, 0, none⟩)))]), ⟨5, 1, [(4, 0, .cells [(.slice (some ⟨0, pre, none⟩) ((Int.toNat i) - 0) (c - 0)), (.int .i64 0), (.bool false), (.int .i64 0), (.int .u64 0), (.int .i64 0), (.int .u64 0), (.int .u64 0)] 31 true), (3, 0, .cells [(.int .u64 bb), (.int .i64 lg), (.int .i64 m0), (.int .i64 m1), (.int .u64 (l.getD 0 0)), (.int .i64 0), (.int .i64 3), (.int .u64 0), (.int .u64 (l.getD 2 0))] 82 true), (2, 0, .cells [(.int .i64 m0), (.int .i64 m1)] 55 true), (1, 0, .cells [(.int .u64 bb), (.int .i64 lg)] 54 true), (0, 0, .tail pre .u64 l e)]⟩⟩
noncomputable def S247 (pre : Nat) (n : Nat) (c : Nat) (i : Int) (bb : Int) (lg : Int) (m0 : Int) (m1 : Int) (l : List Int) (e : TypeId) : KSt := ⟨(frameL 135 [(2, (.slice (some ⟨0, pre, none⟩) n c)), (3, (.pointer (some ⟨1, 0, none⟩))), (4, (.pointer (some ⟨2, 0, none⟩))), (7, (.pointer (some ⟨3, 0, none⟩))), (12, (.int .i64 i)), (13, (.pointer (some ⟨4, 0, none⟩)))]), ⟨5, 1, [(4, 0, .cells [(.slice (some ⟨0, (pre + 0), none⟩) ((Int.toNat i) - 0) (c - 0)), (.int .i64 0), (.bool false), (.int .i64 0), (.int .u64 0), (.int .i64 0), (.int .u64 0), (.int .u64 0)] 31 true), (3, 0, .cells [(.int .u64 bb), (.int .i64 lg), (.int .i64 m0), (.int .i64 m1), (.int .u64 (l.getD 0 0)), (.int .i64 0), (.int .i64 3), (.int .u64 0), (.int .u64 (l.getD 2 0))] 82 true), (2, 0, .cells [(.int .i64 m0), (.int .i64 m1)] 55 true), (1, 0, .cells [(.int .u64 bb), (.int .i64 lg)] 54 true), (0, 0, .tail pre .u64 l e)]⟩⟩
theorem R190 (pre : Nat) (n : Nat) (c : Nat) (i : Int) (bb : Int) (lg : Int) (m0 : Int) (m1 : Int) (l : List Int) (e : TypeId) : evCK Try.prog cfgE (runK Try.prog cfgE fsE (conT grpDom grpE) 12 40) 12 (codeAt [1, 1, 1, 1, 0, 1, 0, 0, 1, 0, 0, 0] B) (S197 pre n c i bb lg m0 m1 l e) (normC 1 [2, 3, 4, 7, 12, 13]) =
  if 0 ≤ i ∧ i ≤ ((c : Nat) : Int) then
    bif ((Nat.ble 0 (Int.toNat i)) && (Nat.ble (Int.toNat i) c)) then
      bif (Nat.beq c 0) then
        some (.normal, (S246 pre n c i bb lg m0 m1 l e))
      else
        some (.normal, (S247 pre n c i bb lg m0 m1 l e))
    else
      none
  else
    none := by kernel_rfl
noncomputable def S248 (pre : Nat) (n : Nat) (c : Nat) (i : Int) (bb : Int) (lg : Int) (m0 : Int) (m1 : Int) (l : List Int) (e : TypeId) : KSt := ⟨(frameL 135 [(2, (.slice (some ⟨0, pre, none⟩) n c)), (3, (.pointer (some ⟨1, 0, none⟩))), (4, (.pointer (some ⟨2, 0, none⟩))), (7, (.pointer (some ⟨3, 0, none⟩))), (12, (.int .i64 i)), (13, (.pointer (some ⟨4, 0, none⟩))), (14, (.pointer (some ⟨5, 0, none⟩)))]), ⟨6, 1, [(5, 0, .cells [(.int .i64 1), (.int .u64 0), (.int .u64 0)] 63 true), (4, 0, .cells [(.slice (some ⟨0, (pre + 0), none⟩) ((Int.toNat i) - 0) (c - 0)), (.int .i64 1), (.bool false), (.int .i64 0), (.int .u64 0), (.int .i64 0), (.int .u64 0), (.int .u64 0)] 31 true), (3, 0, .cells [(.int .u64 bb), (.int .i64 lg), (.int .i64 m0), (.int .i64 m1), (.int .u64 (l.getD 0 0)), (.int .i64 0), (.int .i64 3), (.int .u64 0), (.int .u64 (l.getD 2 0))] 82 true), (2, 0, .cells [(.int .i64 m0), (.int .i64 m1)] 55 true), (1, 0, .cells [(.int .u64 bb), (.int .i64 lg)] 54 true), (0, 0, .tail pre .u64 l e)]⟩⟩
noncomputable def S249 (pre : Nat) (n : Nat) (c : Nat) (i : Int) (n1 : Int) (m1 : Int) (bb : Int) (lg : Int) (m0 : Int) (l : List Int) (e : TypeId) : KSt := ⟨(frameL 135 [(2, (.slice (some ⟨0, pre, none⟩) n c)), (3, (.pointer (some ⟨1, 0, none⟩))), (4, (.pointer (some ⟨2, 0, none⟩))), (7, (.pointer (some ⟨3, 0, none⟩))), (12, (.int .i64 i)), (13, (.pointer (some ⟨4, 0, none⟩))), (14, (.pointer (some ⟨5, 0, none⟩)))]), ⟨6, 1, [(5, 0, .cells [(.int .i64 2), (.int .u64 n1), (.int .u64 (makeRV n1 m1))] 63 true), (4, 0, .cells [(.slice (some ⟨0, (pre + 0), none⟩) ((Int.toNat i) - 0) (c - 0)), (.int .i64 3), (.bool false), (.int .i64 0), (.int .u64 0), (.int .i64 0), (.int .u64 0), (.int .u64 0)] 31 true), (3, 0, .cells [(.int .u64 bb), (.int .i64 lg), (.int .i64 m0), (.int .i64 m1), (.int .u64 (l.getD 0 0)), (.int .i64 0), (.int .i64 3), (.int .u64 0), (.int .u64 (l.getD 2 0))] 82 true), (2, 0, .cells [(.int .i64 m0), (.int .i64 m1)] 55 true), (1, 0, .cells [(.int .u64 bb), (.int .i64 lg)] 54 true), (0, 0, .tail pre .u64 l e)]⟩⟩
noncomputable def S250 (pre : Nat) (n : Nat) (c : Nat) (i : Int) (n3 : Int) (bb : Int) (lg : Int) (m0 : Int) (m1 : Int) (l : List Int) (e : TypeId) : KSt := ⟨(frameL 135 [(2, (.slice (some ⟨0, pre, none⟩) n c)), (3, (.pointer (some ⟨1, 0, none⟩))), (4, (.pointer (some ⟨2, 0, none⟩))), (7, (.pointer (some ⟨3, 0, none⟩))), (12, (.int .i64 i)), (13, (.pointer (some ⟨4, 0, none⟩))), (14, (.pointer (some ⟨5, 0, none⟩)))]), ⟨6, 1, [(5, 0, .cells [(.int .i64 3), (.int .u64 0), (.int .u64 n3)] 63 true), (4, 0, .cells [(.slice (some ⟨0, (pre + 0), none⟩) ((Int.toNat i) - 0) (c - 0)), (.int .i64 4), (.bool false), (.int .i64 0), (.int .u64 0), (.int .i64 0), (.int .u64 0), (.int .u64 0)] 31 true), (3, 0, .cells [(.int .u64 bb), (.int .i64 lg), (.int .i64 m0), (.int .i64 m1), (.int .u64 (l.getD 0 0)), (.int .i64 0), (.int .i64 3), (.int .u64 0), (.int .u64 (l.getD 2 0))] 82 true), (2, 0, .cells [(.int .i64 m0), (.int .i64 m1)] 55 true), (1, 0, .cells [(.int .u64 bb), (.int .i64 lg)] 54 true), (0, 0, .tail pre .u64 l e)]⟩⟩
noncomputable def S251 (pre : Nat) (n : Nat) (c : Nat) (i : Int) (n3 : Int) (n1 : Int) (bb : Int) (lg : Int) (m0 : Int) (m1 : Int) (l : List Int) (e : TypeId) : KSt := ⟨(frameL 135 [(2, (.slice (some ⟨0, pre, none⟩) n c)), (3, (.pointer (some ⟨1, 0, none⟩))), (4, (.pointer (some ⟨2, 0, none⟩))), (7, (.pointer (some ⟨3, 0, none⟩))), (12, (.int .i64 i)), (13, (.pointer (some ⟨4, 0, none⟩))), (14, (.pointer (some ⟨5, 0, none⟩)))]), ⟨6, 1, [(5, 0, .cells [(.int .i64 3), (.int .u64 0), (.int .u64 n3)] 63 true), (4, 0, .cells [(.slice (some ⟨0, (pre + 0), none⟩) ((Int.toNat i) - 0) (c - 0)), (.int .i64 3), (.bool true), (.int .i64 6), (.int .u64 n1), (.int .i64 0), (.int .u64 0), (.int .u64 0)] 31 true), (3, 0, .cells [(.int .u64 bb), (.int .i64 lg), (.int .i64 m0), (.int .i64 m1), (.int .u64 (l.getD 0 0)), (.int .i64 0), (.int .i64 3), (.int .u64 0), (.int .u64 (l.getD 2 0))] 82 true), (2, 0, .cells [(.int .i64 m0), (.int .i64 m1)] 55 true), (1, 0, .cells [(.int .u64 bb), (.int .i64 lg)] 54 true), (0, 0, .tail pre .u64 l e)]⟩⟩
noncomputable def S252 (pre : Nat) (n : Nat) (c : Nat) (i : Int) (n1 : Int) (m1 : Int) (bb : Int) (lg : Int) (m0 : Int) (l : List Int) (e : TypeId) : KSt := ⟨(frameL 135 [(2, (.slice (some ⟨0, pre, none⟩) n c)), (3, (.pointer (some ⟨1, 0, none⟩))), (4, (.pointer (some ⟨2, 0, none⟩))), (7, (.pointer (some ⟨3, 0, none⟩))), (12, (.int .i64 i)), (13, (.pointer (some ⟨4, 0, none⟩))), (14, (.pointer (some ⟨5, 0, none⟩)))]), ⟨6, 1, [(5, 0, .cells [(.int .i64 2), (.int .u64 n1), (.int .u64 (makeRV n1 m1))] 63 true), (4, 0, .cells [(.slice (some ⟨0, (pre + 0), none⟩) ((Int.toNat i) - 0) (c - 0)), (.int .i64 2), (.bool true), (.int .i64 3), (.int .u64 bb), (.int .i64 1), (.int .u64 0), (.int .u64 (makeRV n1 m1))] 31 true), (3, 0, .cells [(.int .u64 bb), (.int .i64 lg), (.int .i64 m0), (.int .i64 m1), (.int .u64 (l.getD 0 0)), (.int .i64 0), (.int .i64 3), (.int .u64 0), (.int .u64 (l.getD 2 0))] 82 true), (2, 0, .cells [(.int .i64 m0), (.int .i64 m1)] 55 true), (1, 0, .cells [(.int .u64 bb), (.int .i64 lg)] 54 true), (0, 0, .tail pre .u64 l e)]⟩⟩
noncomputable def S253 (pre : Nat) (n : Nat) (c : Nat) (i : Int) (n1 : Int) (m1 : Int) (m0 : Int) (bb : Int) (lg : Int) (l : List Int) (e : TypeId) : KSt := ⟨(frameL 135 [(2, (.slice (some ⟨0, pre, none⟩) n c)), (3, (.pointer (some ⟨1, 0, none⟩))), (4, (.pointer (some ⟨2, 0, none⟩))), (7, (.pointer (some ⟨3, 0, none⟩))), (12, (.int .i64 i)), (13, (.pointer (some ⟨4, 0, none⟩))), (14, (.pointer (some ⟨5, 0, none⟩)))]), ⟨6, 1, [(5, 0, .cells [(.int .i64 2), (.int .u64 n1), (.int .u64 (makeRV n1 m1))] 63 true), (4, 0, .cells [(.slice (some ⟨0, (pre + 0), none⟩) ((Int.toNat i) - 0) (c - 0)), (.int .i64 1), (.bool true), (.int .i64 2), (.int .u64 n1), (.int .i64 0), (.int .u64 0), (.int .u64 (IntKind.wrap .u64 m0))] 31 true), (3, 0, .cells [(.int .u64 bb), (.int .i64 lg), (.int .i64 m0), (.int .i64 m1), (.int .u64 (l.getD 0 0)), (.int .i64 0), (.int .i64 3), (.int .u64 0), (.int .u64 (l.getD 2 0))] 82 true), (2, 0, .cells [(.int .i64 m0), (.int .i64 m1)] 55 true), (1, 0, .cells [(.int .u64 bb), (.int .i64 lg)] 54 true), (0, 0, .tail pre .u64 l e)]⟩⟩
noncomputable def S254 (pre : Nat) (n : Nat) (c : Nat) (i : Int) (bb : Int) (lg : Int) (m0 : Int) (m1 : Int) (l : List Int) (e : TypeId) : KSt := ⟨(frameL 135 [(2, (.slice (some ⟨0, pre, none⟩) n c)), (3, (.pointer (some ⟨1, 0, none⟩))), (4, (.pointer (some ⟨2, 0, none⟩))), (7, (.pointer (some ⟨3, 0, none⟩))), (12, (.int .i64 i)), (13, (.pointer (some ⟨4, 0, none⟩))), (14, (.pointer (some ⟨5, 0, none⟩)))]), ⟨6, 1, [(5, 0, .cells [(.int .i64 1), (.int .u64 0), (.int .u64 0)] 63 true), (4, 0, .cells [(.slice (some ⟨0, (pre + 0), none⟩) ((Int.toNat i) - 0) (c - 0)), (.int .i64 0), (.bool true), (.int .i64 5), (.int .u64 0), (.int .i64 0), (.int .u64 0), (.int .u64 0)] 31 true), (3, 0, .cells [(.int .u64 bb), (.int .i64 lg), (.int .i64 m0), (.int .i64 m1), (.int .u64 (l.getD 0 0)), (.int .i64 0), (.int .i64 3), (.int .u64 0), (.int .u64 (l.getD 2 0))] 82 true), (2, 0, .cells [(.int .i64 m0), (.int .i64 m1)] 55 true), (1, 0, .cells [(.int .u64 bb), (.int .i64 lg)] 54 true), (0, 0, .tail pre .u64 l e)]⟩⟩
noncomputable def S255 (pre : Nat) (n : Nat) (c : Nat) (i : Int) (n5 : Int) (m1 : Int) (bb : Int) (lg : Int) (m0 : Int) (l : List Int) (e : TypeId) : KSt := ⟨(frameL 135 [(2, (.slice (some ⟨0, pre, none⟩) n c)), (3, (.pointer (some ⟨1, 0, none⟩))), (4, (.pointer (some ⟨2, 0, none⟩))), (7, (.pointer (some ⟨3, 0, none⟩))), (12, (.int .i64 i)), (13, (.pointer (some ⟨4, 0, none⟩))), (14, (.pointer (some ⟨5, 0, none⟩)))]), ⟨6, 1, [(5, 0, .cells [(.int .i64 2), (.int .u64 n5), (.int .u64 (makeRV n5 m1))] 63 true), (4, 0, .cells [(.slice (some ⟨0, (pre + 0), none⟩) ((Int.toNat i) - 0) (c - 0)), (.int .i64 3), (.bool false), (.int .i64 0), (.int .u64 0), (.int .i64 0), (.int .u64 0), (.int .u64 0)] 31 true), (3, 0, .cells [(.int .u64 bb), (.int .i64 lg), (.int .i64 m0), (.int .i64 m1), (.int .u64 (l.getD 0 0)), (.int .i64 0), (.int .i64 3), (.int .u64 0), (.int .u64 (l.getD 2 0))] 82 true), (2, 0, .cells [(.int .i64 m0), (.int .i64 m1)] 55 true), (1, 0, .cells [(.int .u64 bb), (.int .i64 lg)] 54 true), (0, 0, .tail pre .u64 l e)]⟩⟩
noncomputable def S256 (pre : Nat) (n : Nat) (c : Nat) (i : Int) (n7 : Int) (bb : Int) (lg : Int) (m0 : Int) (m1 : Int) (l : List Int) (e : TypeId) : KSt := ⟨(frameL 135 [(2, (.slice (some ⟨0, pre, none⟩) n c)), (3, (.pointer (some ⟨1, 0, none⟩))), (4, (.pointer (some ⟨2, 0, none⟩))), (7, (.pointer (some ⟨3, 0, none⟩))), (12, (.int .i64 i)), (13, (.pointer (some ⟨4, 0, none⟩))), (14, (.pointer (some ⟨5, 0, none⟩)))]), ⟨6, 1, [(5, 0, .cells [(.int .i64 3), (.int .u64 0), (.int .u64 n7)] 63 true), (4, 0, .cells [(.slice (some ⟨0, (pre + 0), none⟩) ((Int.toNat i) - 0) (c - 0)), (.int .i64 4), (.bool false), (.int .i64 0), (.int .u64 0), (.int .i64 0), (.int .u64 0), (.int .u64 0)] 31 true), (3, 0, .cells [(.int .u64 bb), (.int .i64 lg), (.int .i64 m0), (.int .i64 m1), (.int .u64 (l.getD 0 0)), (.int .i64 0), (.int .i64 3), (.int .u64 0), (.int .u64 (l.getD 2 0))] 82 true), (2, 0, .cells [(.int .i64 m0), (.int .i64 m1)] 55 true), (1, 0, .cells [(.int .u64 bb), (.int .i64 lg)] 54 true), (0, 0, .tail pre .u64 l e)]⟩⟩
noncomputable def S257 (pre : Nat) (n : Nat) (c : Nat) (i : Int) (n7 : Int) (n5 : Int) (bb : Int) (lg : Int) (m0 : Int) (m1 : Int) (l : List Int) (e : TypeId) : KSt := ⟨(frameL 135 [(2, (.slice (some ⟨0, pre, none⟩) n c)), (3, (.pointer (some ⟨1, 0, none⟩))), (4, (.pointer (some ⟨2, 0, none⟩))), (7, (.pointer (some ⟨3, 0, none⟩))), (12, (.int .i64 i)), (13, (.pointer (some ⟨4, 0, none⟩))), (14, (.pointer (some ⟨5, 0, none⟩)))]), ⟨6, 1, [(5, 0, .cells [(.int .i64 3), (.int .u64 0), (.int .u64 n7)] 63 true), (4, 0, .cells [(.slice (some ⟨0, (pre + 0), none⟩) ((Int.toNat i) - 0) (c - 0)), (.int .i64 3), (.bool true), (.int .i64 6), (.int .u64 n5), (.int .i64 0), (.int .u64 0), (.int .u64 0)] 31 true), (3, 0, .cells [(.int .u64 bb), (.int .i64 lg), (.int .i64 m0), (.int .i64 m1), (.int .u64 (l.getD 0 0)), (.int .i64 0), (.int .i64 3), (.int .u64 0), (.int .u64 (l.getD 2 0))] 82 true), (2, 0, .cells [(.int .i64 m0), (.int .i64 m1)] 55 true), (1, 0, .cells [(.int .u64 bb), (.int .i64 lg)] 54 true), (0, 0, .tail pre .u64 l e)]⟩⟩
noncomputable def S258 (pre : Nat) (n : Nat) (c : Nat) (i : Int) (n5 : Int) (m1 : Int) (bb : Int) (lg : Int) (m0 : Int) (l : List Int) (e : TypeId) : KSt := ⟨(frameL 135 [(2, (.slice (some ⟨0, pre, none⟩) n c)), (3, (.pointer (some ⟨1, 0, none⟩))), (4, (.pointer (some ⟨2, 0, none⟩))), (7, (.pointer (some ⟨3, 0, none⟩))), (12, (.int .i64 i)), (13, (.pointer (some ⟨4, 0, none⟩))), (14, (.pointer (some ⟨5, 0, none⟩)))]), ⟨6, 1, [(5, 0, .cells [(.int .i64 2), (.int .u64 n5), (.int .u64 (makeRV n5 m1))] 63 true), (4, 0, .cells [(.slice (some ⟨0, (pre + 0), none⟩) ((Int.toNat i) - 0) (c - 0)), (.int .i64 2), (.bool true), (.int .i64 3), (.int .u64 bb), (.int .i64 1), (.int .u64 0), (.int .u64 (makeRV n5 m1))] 31 true), (3, 0, .cells [(.int .u64 bb), (.int .i64 lg), (.int .i64 m0), (.int .i64 m1), (.int .u64 (l.getD 0 0)), (.int .i64 0), (.int .i64 3), (.int .u64 0), (.int .u64 (l.getD 2 0))] 82 true), (2, 0, .cells [(.int .i64 m0), (.int .i64 m1)] 55 true), (1, 0, .cells [(.int .u64 bb), (.int .i64 lg)] 54 true), (0, 0, .tail pre .u64 l e)]⟩⟩
noncomputable def S259 (pre : Nat) (n : Nat) (c : Nat) (i : Int) (n5 : Int) (m1 : Int) (m0 : Int) (bb : Int) (lg : Int) (l : List Int) (e : TypeId) : KSt := ⟨(frameL 135 [(2, (.slice (some ⟨0, pre, none⟩) n c)), (3, (.pointer (some ⟨1, 0, none⟩))), (4, (.pointer (some ⟨2, 0, none⟩))), (7, (.pointer (some ⟨3, 0, none⟩))), (12, (.int .i64 i)), (13, (.pointer (some ⟨4, 0, none⟩))), (14, (.pointer (some ⟨5, 0, none⟩)))]), ⟨6, 1, [(5, 0, .cells [(.int .i64 2), (.int .u64 n5), (.int .u64 (makeRV n5 m1))] 63 true), (4, 0, .cells [(.slice (some ⟨0, (pre + 0), none⟩) ((Int.toNat i) - 0) (c - 0)), (.int .i64 1), (.bool true), (.int .i64 2), (.int .u64 n5), (.int .i64 0), (.int .u64 0), (.int .u64 (IntKind.wrap .u64 m0))] 31 true), (3, 0, .cells [(.int .u64 bb), (.int .i64 lg), (.int .i64 m0), (.int .i64 m1), (.int .u64 (l.getD 0 0)), (.int .i64 0), (.int .i64 3), (.int .u64 0), (.int .u64 (l.getD 2 0))] 82 true), (2, 0, .cells [(.int .i64 m0), (.int .i64 m1)] 55 true), (1, 0, .cells [(.int .u64 bb), (.int .i64 lg)] 54 true), (0, 0, .tail pre .u64 l e)]⟩⟩
noncomputable def S260 (pre : Nat) (n : Nat) (c : Nat) (i : Int) (m0 : Int) (bb : Int) (lg : Int) (m1 : Int) (l : List Int) (e : TypeId) : KSt := ⟨(frameL 135 [(2, (.slice (some ⟨0, pre, none⟩) n c)), (3, (.pointer (some ⟨1, 0, none⟩))), (4, (.pointer (some ⟨2, 0, none⟩))), (7, (.pointer (some ⟨3, 0, none⟩))), (12, (.int .i64 i)), (13, (.pointer (some ⟨4, 0, none⟩))), (14, (.pointer (some ⟨5, 0, none⟩)))]), ⟨6, 1, [(5, 0, .cells [(.int .i64 1), (.int .u64 0), (.int .u64 0)] 63 true), (4, 0, .cells [(.slice (some ⟨0, (pre + 0), none⟩) ((Int.toNat i) - 0) (c - 0)), (.int .i64 0), (.bool true), (.int .i64 5), (.int .u64 0), (.int .i64 (IntKind.wrap .i64 (7 + (IntKind.wrap .i64 (9 * (groupsV m0)))))), (.int .u64 0), (.int .u64 0)] 31 true), (3, 0, .cells [(.int .u64 bb), (.int .i64 lg), (.int .i64 m0), (.int .i64 m1), (.int .u64 (l.getD 0 0)), (.int .i64 0), (.int .i64 3), (.int .u64 0), (.int .u64 (l.getD 2 0))] 82 true), (2, 0, .cells [(.int .i64 m0), (.int .i64 m1)] 55 true), (1, 0, .cells [(.int .u64 bb), (.int .i64 lg)] 54 true), (0, 0, .tail pre .u64 l e)]⟩⟩
theorem R191 (pre : Nat) (n : Nat) (c : Nat) (i : Int) (bb : Int) (lg : Int) (m0 : Int) (m1 : Int) (l : List Int) (e : TypeId) : evCK Try.prog cfgE (runK Try.prog cfgE fsE (conT grpDom grpE) 12 40) 12 (codeAt [1, 1, 1, 1, 0, 1, 0, 0, 1, 0, 0, 1, 0] B) (S247 pre n c i bb lg m0 m1 l e) (normC 1 [2, 3, 4, 7, 12, 13, 14]) =
  bif ((groupsV m0) == 0) then
    bif (decide (0 < ((((Int.toNat i) - 0) : Nat) : Int))) then
      if (0 : Int) ≤ 0 ∧ 0 < ((((Int.toNat i) - 0) : Nat) : Int) then
        bif (Nat.ble pre ((pre + 0) + 0)) then
          obind (l[(((pre + 0) + 0) - pre)]?) fun n1 =>
            bif (n1 == 0) then
              some (.normal, (S248 pre n c i bb lg m0 m1 l e))
            else
              bif (decide (1 < ((((Int.toNat i) - 0) : Nat) : Int))) then
                if (0 : Int) ≤ 1 ∧ 1 < ((((Int.toNat i) - 0) : Nat) : Int) then
                  bif (Nat.ble pre ((pre + 0) + 1)) then
                    obind (l[(((pre + 0) + 1) - pre)]?) fun n2 =>
                      bif (decide (2 < ((((Int.toNat i) - 0) : Nat) : Int))) then
                        if (0 : Int) ≤ 2 ∧ 2 < ((((Int.toNat i) - 0) : Nat) : Int) then
                          bif (Nat.ble pre ((pre + 0) + 2)) then
                            obind (l[(((pre + 0) + 2) - pre)]?) fun n3 =>
                              bif (n3 == 0) then
                                some (.normal, (S249 pre n c i n1 m1 bb lg m0 l e))
                              else
                                bif (decide (3 < ((((Int.toNat i) - 0) : Nat) : Int))) then
                                  if (0 : Int) ≤ 3 ∧ 3 < ((((Int.toNat i) - 0) : Nat) : Int) then
                                    bif (Nat.ble pre ((pre + 0) + 3)) then
                                      obind (l[(((pre + 0) + 3) - pre)]?) fun n4 =>
                                        some (.normal, (S250 pre n c i n3 bb lg m0 m1 l e))
                                    else
                                      none
                                  else
                                    none
                                else
                                  some (.normal, (S251 pre n c i n3 n1 bb lg m0 m1 l e))
                          else
                            none
                        else
                          none
                      else
                        some (.normal, (S252 pre n c i n1 m1 bb lg m0 l e))
                  else
                    none
                else
                  none
              else
                some (.normal, (S253 pre n c i n1 m1 m0 bb lg l e))
        else
          none
      else
        none
    else
      some (.normal, (S254 pre n c i bb lg m0 m1 l e))
  else
    bif (decide (0 < ((((Int.toNat i) - 0) : Nat) : Int))) then
      if (0 : Int) ≤ 0 ∧ 0 < ((((Int.toNat i) - 0) : Nat) : Int) then
        bif (Nat.ble pre ((pre + 0) + 0)) then
          obind (l[(((pre + 0) + 0) - pre)]?) fun n5 =>
            bif (n5 == 0) then
              some (.normal, (S248 pre n c i bb lg m0 m1 l e))
            else
              bif (decide (1 < ((((Int.toNat i) - 0) : Nat) : Int))) then
                if (0 : Int) ≤ 1 ∧ 1 < ((((Int.toNat i) - 0) : Nat) : Int) then
                  bif (Nat.ble pre ((pre + 0) + 1)) then
                    obind (l[(((pre + 0) + 1) - pre)]?) fun n6 =>
                      bif (decide (2 < ((((Int.toNat i) - 0) : Nat) : Int))) then
                        if (0 : Int) ≤ 2 ∧ 2 < ((((Int.toNat i) - 0) : Nat) : Int) then
                          bif (Nat.ble pre ((pre + 0) + 2)) then
                            obind (l[(((pre + 0) + 2) - pre)]?) fun n7 =>
                              bif (n7 == 0) then
                                some (.normal, (S255 pre n c i n5 m1 bb lg m0 l e))
                              else
                                bif (decide (3 < ((((Int.toNat i) - 0) : Nat) : Int))) then
                                  if (0 : Int) ≤ 3 ∧ 3 < ((((Int.toNat i) - 0) : Nat) : Int) then
                                    bif (Nat.ble pre ((pre + 0) + 3)) then
                                      obind (l[(((pre + 0) + 3) - pre)]?) fun n8 =>
                                        some (.normal, (S256 pre n c i n7 bb lg m0 m1 l e))
                                    else
                                      none
                                  else
                                    none
                                else
                                  some (.normal, (S257 pre n c i n7 n5 bb lg m0 m1 l e))
                          else
                            none
                        else
                          none
                      else
                        some (.normal, (S258 pre n c i n5 m1 bb lg m0 l e))
                  else
                    none
                else
                  none
              else
                some (.normal, (S259 pre n c i n5 m1 m0 bb lg l e))
        else
          none
      else
        none
    else
      some (.normal, (S260 pre n c i m0 bb lg m1 l e)) := by kernel_rfl
noncomputable def S261 (pre : Nat) (n : Nat) (c : Nat) (i : Int) (l : List Int) (bb : Int) (lg : Int) (m0 : Int) (m1 : Int) (e : TypeId) : KSt := ⟨(frameL 135 [(2, (.slice (some ⟨0, pre, none⟩) n c)), (3, (.pointer (some ⟨1, 0, none⟩))), (4, (.pointer (some ⟨2, 0, none⟩))), (7, (.pointer (some ⟨3, 0, none⟩))), (12, (.int .i64 i)), (13, (.pointer (some ⟨4, 0, none⟩))), (14, (.pointer (some ⟨5, 0, none⟩)))]), ⟨6, 1, [(5, 0, .cells [(.int .i64 3), (.int .u64 0), (.int .u64 (l.getD 2 0))] 63 true), (4, 0, .cells [(.slice (some ⟨0, (pre + 0), none⟩) ((Int.toNat i) - 0) (c - 0)), (.int .i64 4), (.bool false), (.int .i64 0), (.int .u64 0), (.int .i64 0), (.int .u64 0), (.int .u64 0)] 31 true), (3, 0, .cells [(.int .u64 bb), (.int .i64 lg), (.int .i64 m0), (.int .i64 m1), (.int .u64 (l.getD 0 0)), (.int .i64 0), (.int .i64 3), (.int .u64 0), (.int .u64 (l.getD 2 0))] 82 true), (2, 0, .cells [(.int .i64 m0), (.int .i64 m1)] 55 true), (1, 0, .cells [(.int .u64 bb), (.int .i64 lg)] 54 true), (0, 0, .tail pre .u64 l e)]⟩⟩
noncomputable def S262 (pre : Nat) (n : Nat) (c : Nat) (i : Int) (l : List Int) (bb : Int) (lg : Int) (m0 : Int) (m1 : Int) (e : TypeId) : KSt := ⟨(frameL 135 [(2, (.slice (some ⟨0, pre, none⟩) n c)), (3, (.pointer (some ⟨1, 0, none⟩))), (4, (.pointer (some ⟨2, 0, none⟩))), (7, (.pointer (some ⟨3, 0, none⟩))), (12, (.int .i64 i)), (13, (.pointer (some ⟨4, 0, none⟩))), (14, (.pointer (some ⟨5, 0, none⟩))), (15, (.pointer (some ⟨6, 0, none⟩))), (16, (.bool false))]), ⟨7, 1, [(6, 0, .cells [(.int .i64 0), (.int .u64 0), (.int .u64 0)] 60 true), (5, 0, .cells [(.int .i64 3), (.int .u64 0), (.int .u64 (l.getD 2 0))] 63 true), (4, 0, .cells [(.slice (some ⟨0, (pre + 0), none⟩) ((Int.toNat i) - 0) (c - 0)), (.int .i64 4), (.bool false), (.int .i64 0), (.int .u64 0), (.int .i64 0), (.int .u64 0), (.int .u64 0)] 31 true), (3, 0, .cells [(.int .u64 bb), (.int .i64 lg), (.int .i64 m0), (.int .i64 m1), (.int .u64 (l.getD 0 0)), (.int .i64 0), (.int .i64 3), (.int .u64 0), (.int .u64 (l.getD 2 0))] 82 true), (2, 0, .cells [(.int .i64 m0), (.int .i64 m1)] 55 true), (1, 0, .cells [(.int .u64 bb), (.int .i64 lg)] 54 true), (0, 0, .tail pre .u64 l e)]⟩⟩
noncomputable def S263 (pre : Nat) (n : Nat) (c : Nat) (i : Int) (l : List Int) (bb : Int) (lg : Int) (m0 : Int) (m1 : Int) (e : TypeId) : KSt := ⟨(frameL 135 [(2, (.slice (some ⟨0, pre, none⟩) n c)), (3, (.pointer (some ⟨1, 0, none⟩))), (4, (.pointer (some ⟨2, 0, none⟩))), (7, (.pointer (some ⟨3, 0, none⟩))), (12, (.int .i64 i)), (13, (.pointer (some ⟨4, 0, none⟩))), (14, (.pointer (some ⟨5, 0, none⟩))), (15, (.pointer (some ⟨6, 0, none⟩))), (16, (.bool true))]), ⟨7, 1, [(6, 0, .cells [(.int .i64 3), (.int .u64 0), (.int .u64 (l.getD 2 0))] 60 true), (5, 0, .cells [(.int .i64 3), (.int .u64 0), (.int .u64 (l.getD 2 0))] 63 true), (4, 0, .cells [(.slice (some ⟨0, (pre + 0), none⟩) ((Int.toNat i) - 0) (c - 0)), (.int .i64 4), (.bool false), (.int .i64 0), (.int .u64 0), (.int .i64 0), (.int .u64 0), (.int .u64 0)] 31 true), (3, 0, .cells [(.int .u64 bb), (.int .i64 lg), (.int .i64 m0), (.int .i64 m1), (.int .u64 (l.getD 0 0)), (.int .i64 0), (.int .i64 3), (.int .u64 0), (.int .u64 (l.getD 2 0))] 82 true), (2, 0, .cells [(.int .i64 m0), (.int .i64 m1)] 55 true), (1, 0, .cells [(.int .u64 bb), (.int .i64 lg)] 54 true), (0, 0, .tail pre .u64 l e)]⟩⟩
theorem R192 (pre : Nat) (n : Nat) (c : Nat) (i : Int) (l : List Int) (bb : Int) (lg : Int) (m0 : Int) (m1 : Int) (e : TypeId) : evCK Try.prog cfgE (runK Try.prog cfgE fsE (conT grpDom grpE) 12 40) 12 (codeAt [1, 1, 1, 1, 0, 1, 0, 0, 1, 0, 0, 1, 1, 0] B) (S261 pre n c i l bb lg m0 m1 e) (normC 1 [2, 3, 4, 7, 12, 13, 14, 15, 16]) =
  bif (false && (true && (((l.getD 2 0) == 0) && true))) then
    some (.normal, (S262 pre n c i l bb lg m0 m1 e))
  else
    some (.normal, (S263 pre n c i l bb lg m0 m1 e)) := by kernel_rfl
noncomputable def S264 (pre : Nat) (n : Nat) (c : Nat) (i : Int) (l : List Int) (bb : Int) (lg : Int) (m0 : Int) (m1 : Int) (e : TypeId) : KSt := ⟨(frameL 135 [(2, (.slice (some ⟨0, pre, none⟩) n c)), (3, (.pointer (some ⟨1, 0, none⟩))), (4, (.pointer (some ⟨2, 0, none⟩))), (7, (.pointer (some ⟨3, 0, none⟩))), (12, (.int .i64 i)), (13, (.pointer (some ⟨4, 0, none⟩))), (14, (.pointer (some ⟨5, 0, none⟩))), (15, (.pointer (some ⟨6, 0, none⟩))), (16, (.bool true)), (17, (.pointer (some ⟨7, 0, none⟩))), (18, (.bool false))]), ⟨8, 1, [(7, 0, .cells [(.int .i64 0), (.int .u64 0), (.int .i64 0), (.int .u64 0), (.int .u64 0)] 29 true), (6, 0, .cells [(.int .i64 3), (.int .u64 0), (.int .u64 (l.getD 2 0))] 60 true), (5, 0, .cells [(.int .i64 3), (.int .u64 0), (.int .u64 (l.getD 2 0))] 63 true), (4, 0, .cells [(.slice (some ⟨0, (pre + 0), none⟩) ((Int.toNat i) - 0) (c - 0)), (.int .i64 4), (.bool false), (.int .i64 0), (.int .u64 0), (.int .i64 0), (.int .u64 0), (.int .u64 0)] 31 true), (3, 0, .cells [(.int .u64 bb), (.int .i64 lg), (.int .i64 m0), (.int .i64 m1), (.int .u64 (l.getD 0 0)), (.int .i64 0), (.int .i64 3), (.int .u64 0), (.int .u64 (l.getD 2 0))] 82 true), (2, 0, .cells [(.int .i64 m0), (.int .i64 m1)] 55 true), (1, 0, .cells [(.int .u64 bb), (.int .i64 lg)] 54 true), (0, 0, .tail pre .u64 l e)]⟩⟩
theorem R193 (pre : Nat) (n : Nat) (c : Nat) (i : Int) (l : List Int) (bb : Int) (lg : Int) (m0 : Int) (m1 : Int) (e : TypeId) : evCK Try.prog cfgE (runK Try.prog cfgE fsE (conT grpDom grpE) 12 40) 12 (codeAt [1, 1, 1, 1, 0, 1, 0, 0, 1, 0, 0, 1, 1, 1, 0] B) (S263 pre n c i l bb lg m0 m1 e) (normC 1 [2, 3, 4, 7, 12, 13, 14, 15, 16, 17, 18]) =
  some (.normal, (S264 pre n c i l bb lg m0 m1 e)) := by kernel_rfl
noncomputable def S265 (pre : Nat) (n : Nat) (c : Nat) (i : Int) (bb : Int) (lg : Int) (m0 : Int) (m1 : Int) (l : List Int) (e : TypeId) : KSt := ⟨(frameL 135 [(2, (.slice (some ⟨0, pre, none⟩) n c)), (3, (.pointer (some ⟨1, 0, none⟩))), (4, (.pointer (some ⟨2, 0, none⟩))), (7, (.pointer (some ⟨3, 0, none⟩))), (12, (.int .i64 i)), (123, (.bool true))]), ⟨4, 1, [(3, 0, .cells [(.int .u64 bb), (.int .i64 lg), (.int .i64 m0), (.int .i64 m1), (.int .u64 (l.getD 0 0)), (.int .i64 0), (.int .i64 3), (.int .u64 0), (.int .u64 (l.getD 2 0))] 82 true), (2, 0, .cells [(.int .i64 m0), (.int .i64 m1)] 55 true), (1, 0, .cells [(.int .u64 bb), (.int .i64 lg)] 54 true), (0, 0, .tail pre .u64 l e)]⟩⟩
noncomputable def S266 (pre : Nat) (n : Nat) (c : Nat) (i : Int) (bb : Int) (lg : Int) (m0 : Int) (m1 : Int) (l : List Int) (e : TypeId) : KSt := ⟨(frameL 135 [(2, (.slice (some ⟨0, pre, none⟩) n c)), (3, (.pointer (some ⟨1, 0, none⟩))), (4, (.pointer (some ⟨2, 0, none⟩))), (7, (.pointer (some ⟨3, 0, none⟩))), (12, (.int .i64 i)), (123, (.bool false))]), ⟨4, 1, [(3, 0, .cells [(.int .u64 bb), (.int .i64 lg), (.int .i64 m0), (.int .i64 m1), (.int .u64 (l.getD 0 0)), (.int .i64 0), (.int .i64 3), (.int .u64 0), (.int .u64 (l.getD 2 0))] 82 true), (2, 0, .cells [(.int .i64 m0), (.int .i64 m1)] 55 true), (1, 0, .cells [(.int .u64 bb), (.int .i64 lg)] 54 true), (0, 0, .tail pre .u64 l e)]⟩⟩
theorem R194 (pre : Nat) (n : Nat) (c : Nat) (i : Int) (l : List Int) (bb : Int) (lg : Int) (m0 : Int) (m1 : Int) (e : TypeId) : evCK Try.prog cfgE (runK Try.prog cfgE fsE (conT grpDom grpE) 12 40) 12 (codeAt [1, 1, 1, 1, 0, 1, 0, 0, 1, 0, 0, 1, 1, 1, 1, 0, 0] B) (S264 pre n c i l bb lg m0 m1 e) (normC 1 [2, 3, 4, 7, 12, 123]) =
  bif (!(true && (true && (((l.getD 2 0) == (l.getD 2 0)) && true)))) then
    some (.normal, (S265 pre n c i bb lg m0 m1 l e))
  else
    some (.normal, (S266 pre n c i bb lg m0 m1 l e)) := by kernel_rfl
theorem R195 (pre : Nat) (n : Nat) (c : Nat) (i : Int) (bb : Int) (lg : Int) (m0 : Int) (m1 : Int) (l : List Int) (e : TypeId) : evCK Try.prog cfgE (runK Try.prog cfgE fsE (conT grpDom grpE) 12 40) 12 (codeAt [1, 1, 1, 1, 0, 1, 0, 0, 1, 0, 0, 1, 1, 1, 1, 0, 1, 1] B) (S266 pre n c i bb lg m0 m1 l e) (normC 1 [2, 3, 4, 7, 12]) =
  some (.normal, (S197 pre n c i bb lg m0 m1 l e)) := by kernel_rfl
noncomputable def S267 (pre : Nat) (n : Nat) (c : Nat) (i : Int) (bb : Int) (lg : Int) (m0 : Int) (m1 : Int) (l : List Int) (e : TypeId) : KSt := ⟨(frameL 135 [(2, (.slice (some ⟨0, pre, none⟩) n c)), (3, (.pointer (some ⟨1, 0, none⟩))), (4, (.pointer (some ⟨2, 0, none⟩))), (7, (.pointer (some ⟨3, 0, none⟩))), (12, (.int .i64 i)), (127, (.bool (decide (i < ((n : Nat) : Int)))))]), ⟨4, 1, [(3, 0, .cells [(.int .u64 bb), (.int .i64 lg), (.int .i64 m0), (.int .i64 m1), (.int .u64 (l.getD 0 0)), (.int .i64 0), (.int .i64 3), (.int .u64 0), (.int .u64 (l.getD 2 0))] 82 true), (2, 0, .cells [(.int .i64 m0), (.int .i64 m1)] 55 true), (1, 0, .cells [(.int .u64 bb), (.int .i64 lg)] 54 true), (0, 0, .tail pre .u64 l e)]⟩⟩
theorem R196 (pre : Nat) (n : Nat) (c : Nat) (i : Int) (bb : Int) (lg : Int) (m0 : Int) (m1 : Int) (l : List Int) (e : TypeId) : evCK Try.prog cfgE (runK Try.prog cfgE fsE (conT grpDom grpE) 12 40) 12 (codeAt [1, 1, 1, 1, 0, 1, 0, 0, 1, 0, 0, 1, 1, 1, 1, 1, 0] B) (S197 pre n c i bb lg m0 m1 l e) (normC 1 [2, 3, 4, 7, 12, 127]) =
  some (.normal, (S267 pre n c i bb lg m0 m1 l e)) := by kernel_rfl
theorem R197 (pre : Nat) (n : Nat) (c : Nat) (i : Int) (bb : Int) (lg : Int) (m0 : Int) (m1 : Int) (l : List Int) (e : TypeId) : evCK Try.prog cfgE (runK Try.prog cfgE fsE (conT grpDom grpE) 12 40) 12 (codeAt [1, 1, 1, 1, 0, 1, 0, 0, 1, 0, 0, 1, 1, 1, 1, 1, 1, 0] B) (S267 pre n c i bb lg m0 m1 l e) (normC 1 [2, 3, 4, 7, 12]) =
  if 0 ≤ i ∧ i < ((n : Nat) : Int) then
    bif (Nat.ble pre (pre + ((Int.toNat i) * 1))) then
      obind (l[((pre + ((Int.toNat i) * 1)) - pre)]?) fun n1 =>
        some (.normal, (S197 pre n c i bb lg m0 m1 l e))
    else
      none
  else
    none := by kernel_rfl
noncomputable def S268 (pre : Nat) (n : Nat) (c : Nat) (i : Int) (bb : Int) (lg : Int) (m0 : Int) (m1 : Int) (l : List Int) (e : TypeId) : KSt := ⟨(frameL 135 [(2, (.slice (some ⟨0, pre, none⟩) n c)), (3, (.pointer (some ⟨1, 0, none⟩))), (4, (.pointer (some ⟨2, 0, none⟩))), (7, (.pointer (some ⟨3, 0, none⟩))), (12, (.int .i64 (IntKind.wrap .i64 (i + 1))))]), ⟨4, 1, [(3, 0, .cells [(.int .u64 bb), (.int .i64 lg), (.int .i64 m0), (.int .i64 m1), (.int .u64 (l.getD 0 0)), (.int .i64 0), (.int .i64 3), (.int .u64 0), (.int .u64 (l.getD 2 0))] 82 true), (2, 0, .cells [(.int .i64 m0), (.int .i64 m1)] 55 true), (1, 0, .cells [(.int .u64 bb), (.int .i64 lg)] 54 true), (0, 0, .tail pre .u64 l e)]⟩⟩
theorem R198 (pre : Nat) (n : Nat) (c : Nat) (i : Int) (bb : Int) (lg : Int) (m0 : Int) (m1 : Int) (l : List Int) (e : TypeId) : evCK Try.prog cfgE (runK Try.prog cfgE fsE (conT grpDom grpE) 12 40) 12 (codeAt [1, 1, 1, 1, 0, 1, 0, 0, 1, 1] B) (S197 pre n c i bb lg m0 m1 l e) (normC 1 [2, 3, 4, 7, 12]) =
  some (.normal, (S268 pre n c i bb lg m0 m1 l e)) := by kernel_rfl
noncomputable def S269 (pre : Nat) (n : Nat) (c : Nat) (i : Int) (bb : Int) (lg : Int) (m0 : Int) (m1 : Int) (l : List Int) (e : TypeId) : KSt := ⟨(frameL 135 [(2, (.slice (some ⟨0, pre, none⟩) n c)), (3, (.pointer (some ⟨1, 0, none⟩))), (4, (.pointer (some ⟨2, 0, none⟩))), (7, (.pointer (some ⟨3, 0, none⟩))), (12, (.int .i64 (i + 1)))]), ⟨4, 1, [(3, 0, .cells [(.int .u64 bb), (.int .i64 lg), (.int .i64 m0), (.int .i64 m1), (.int .u64 (l.getD 0 0)), (.int .i64 0), (.int .i64 3), (.int .u64 0), (.int .u64 (l.getD 2 0))] 82 true), (2, 0, .cells [(.int .i64 m0), (.int .i64 m1)] 55 true), (1, 0, .cells [(.int .u64 bb), (.int .i64 lg)] 54 true), (0, 0, .tail pre .u64 l e)]⟩⟩
theorem lp19m_47 (bb lg m0 m1 g gl : Int) (i : Int) (pre n c : Nat) (l : List Int) (e : TypeId) (hb : 0 ≤ bb) (hm : -9223372036854775808 ≤ m1 ∧ m1 < 9223372036854775808) (hg : groupsV m0 = g) (hg1 : 0 ≤ g) (hg2 : g ≤ 512) (hgl : groupsV lg = gl) (hgl1 : 0 ≤ gl) (hn20 : n ≤ 20) (hc : n ≤ c) (hc2 : c ≤ 9223372036854775807) (hl : l.length = c) (hc0 : 0 < c) (h1 : bb ≠ 0) (h2 : 0 < gl) (h3 : 0 < g) (hi : 5 ≤ i) (hn : i < (n : Int))  (q1 : ((l.getD 0 0) == 0) = false) (q2 : ((l.getD 2 0) == 0) = false) {Q : Ex → St → Prop} (hq : Q .normal (KSt.low (S269 pre n c i bb lg m0 m1 l e))) : Gets Try.prog (KH.low ⟨1, 1, [(0, 0, .tail pre .u64 l e)]⟩) (codeAt [1, 1, 1, 1, 0, 1, 0, 0] B) (KSt.low (S197 pre n c i bb lg m0 m1 l e)) Q := by
  rw [C1_1_1_1_0_1_0_0]; refine Gets.seq ?_
  rw [C1_1_1_1_0_1_0_0_0]; refine Gets.seq ?_
  refine Gets.ofN fitE grp_sound (conT_agree _ _) 12 40 (by kernel_rfl) (x := .normal) (s' := (S245 pre n c i bb lg m0 m1 l e)) (R188 pre n c i bb lg m0 m1 l e) ?_
  show Gets _ _ (codeAt [1, 1, 1, 1, 0, 1, 0, 0, 0, 1] B) _ _
  rw [C1_1_1_1_0_1_0_0_0_1]; refine Gets.cond true (by kernel_rfl) ((show evalX (KSt.ts (S245 pre n c i bb lg m0 m1 l e)) (.tmp 60) = .bool (decide (i ≤ ((n : Nat) : Int))) by kernel_rfl).trans (by rw [(show (decide (i ≤ ((n : Nat) : Int))) = true from decide_eq_true (by omega))])) ?_; show Gets _ _ (codeAt [1, 1, 1, 1, 0, 1, 0, 0, 0, 1, 0] B) _ _
  refine Gets.ofN fitE grp_sound (conT_agree _ _) 12 40 (by kernel_rfl) (x := .normal) (s' := (S197 pre n c i bb lg m0 m1 l e)) (R189 pre n c i bb lg m0 m1 l e) ?_
  show Gets _ _ (codeAt [1, 1, 1, 1, 0, 1, 0, 0, 1] B) _ _
  rw [C1_1_1_1_0_1_0_0_1]; refine Gets.seq ?_
  rw [C1_1_1_1_0_1_0_0_1_0]; refine Gets.block ?_
  rw [C1_1_1_1_0_1_0_0_1_0_0]; refine Gets.seq ?_
  refine Gets.ofN fitE grp_sound (conT_agree _ _) 12 40 (by kernel_rfl) (x := .normal) (s' := (S247 pre n c i bb lg m0 m1 l e)) ((R190 pre n c i bb lg m0 m1 l e).trans (by rw [if_pos (⟨by omega, by omega⟩), condT (and_t (ble_t (by omega)) (ble_t (by omega))), condF (nbeq_f (by omega))])) ?_
  show Gets _ _ (codeAt [1, 1, 1, 1, 0, 1, 0, 0, 1, 0, 0, 1] B) _ _
  rw [C1_1_1_1_0_1_0_0_1_0_0_1]; refine Gets.seq ?_
  refine Gets.ofN fitE grp_sound (conT_agree _ _) 12 40 (by kernel_rfl) (x := .normal) (s' := (S261 pre n c i l bb lg m0 m1 e)) ((R191 pre n c i bb lg m0 m1 l e).trans (by rw [condF (ibeq_f (by ((try simp (disch := omega) only [hg, hgl, wrap_i64_id]) <;> omega))), condT (decide_eq_true (by omega)), if_pos (⟨by omega, by omega⟩), condT (ble_t (by omega)), obind_at (k := 0) (by omega) (by omega), condF (q1), condT (decide_eq_true (by omega)), if_pos (⟨by omega, by omega⟩), condT (ble_t (by omega)), obind_at (k := 1) (by omega) (by omega), condT (decide_eq_true (by omega)), if_pos (⟨by omega, by omega⟩), condT (ble_t (by omega)), obind_at (k := 2) (by omega) (by omega), condF (q2), condT (decide_eq_true (by omega)), if_pos (⟨by omega, by omega⟩), condT (ble_t (by omega)), obind_at (k := 3) (by omega) (by omega)] <;> rfl)) ?_
  show Gets _ _ (codeAt [1, 1, 1, 1, 0, 1, 0, 0, 1, 0, 0, 1, 1] B) _ _
  rw [C1_1_1_1_0_1_0_0_1_0_0_1_1]; refine Gets.seq ?_
  refine Gets.ofN fitE grp_sound (conT_agree _ _) 12 40 (by kernel_rfl) (x := .normal) (s' := (S263 pre n c i l bb lg m0 m1 e)) ((R192 pre n c i l bb lg m0 m1 e).trans (by rw [condF (and_f1 (rfl))])) ?_
  show Gets _ _ (codeAt [1, 1, 1, 1, 0, 1, 0, 0, 1, 0, 0, 1, 1, 1] B) _ _
  rw [C1_1_1_1_0_1_0_0_1_0_0_1_1_1]; refine Gets.seq ?_
  refine Gets.ofN fitE grp_sound (conT_agree _ _) 12 40 (by kernel_rfl) (x := .normal) (s' := (S264 pre n c i l bb lg m0 m1 e)) (R193 pre n c i l bb lg m0 m1 e) ?_
  show Gets _ _ (codeAt [1, 1, 1, 1, 0, 1, 0, 0, 1, 0, 0, 1, 1, 1, 1] B) _ _
  rw [C1_1_1_1_0_1_0_0_1_0_0_1_1_1_1]; refine Gets.seq ?_
  rw [C1_1_1_1_0_1_0_0_1_0_0_1_1_1_1_0]; refine Gets.seq ?_
  refine Gets.ofN fitE grp_sound (conT_agree _ _) 12 40 (by kernel_rfl) (x := .normal) (s' := (S266 pre n c i bb lg m0 m1 l e)) ((R194 pre n c i l bb lg m0 m1 e).trans (by rw [condF (not_f (and_t (rfl) (and_t (rfl) (and_t (beq_self_eq_true _) (rfl)))))])) ?_
  show Gets _ _ (codeAt [1, 1, 1, 1, 0, 1, 0, 0, 1, 0, 0, 1, 1, 1, 1, 0, 1] B) _ _
  rw [C1_1_1_1_0_1_0_0_1_0_0_1_1_1_1_0_1]; refine Gets.cond false (by kernel_rfl) (show evalX (KSt.ts (S266 pre n c i bb lg m0 m1 l e)) (.tmp 123) = .bool false by kernel_rfl) ?_; show Gets _ _ (codeAt [1, 1, 1, 1, 0, 1, 0, 0, 1, 0, 0, 1, 1, 1, 1, 0, 1, 1] B) _ _
  refine Gets.ofN fitE grp_sound (conT_agree _ _) 12 40 (by kernel_rfl) (x := .normal) (s' := (S197 pre n c i bb lg m0 m1 l e)) (R195 pre n c i bb lg m0 m1 l e) ?_
  show Gets _ _ (codeAt [1, 1, 1, 1, 0, 1, 0, 0, 1, 0, 0, 1, 1, 1, 1, 1] B) _ _
  rw [C1_1_1_1_0_1_0_0_1_0_0_1_1_1_1_1]; refine Gets.seq ?_
  refine Gets.ofN fitE grp_sound (conT_agree _ _) 12 40 (by kernel_rfl) (x := .normal) (s' := (S267 pre n c i bb lg m0 m1 l e)) (R196 pre n c i bb lg m0 m1 l e) ?_
  show Gets _ _ (codeAt [1, 1, 1, 1, 0, 1, 0, 0, 1, 0, 0, 1, 1, 1, 1, 1, 1] B) _ _
  rw [C1_1_1_1_0_1_0_0_1_0_0_1_1_1_1_1_1]; refine Gets.cond true (by kernel_rfl) ((show evalX (KSt.ts (S267 pre n c i bb lg m0 m1 l e)) (.tmp 127) = .bool (decide (i < ((n : Nat) : Int))) by kernel_rfl).trans (by rw [(show (decide (i < ((n : Nat) : Int))) = true from decide_eq_true (by omega))])) ?_; show Gets _ _ (codeAt [1, 1, 1, 1, 0, 1, 0, 0, 1, 0, 0, 1, 1, 1, 1, 1, 1, 0] B) _ _
  refine Gets.ofN fitE grp_sound (conT_agree _ _) 12 40 (by kernel_rfl) (x := .normal) (s' := (S197 pre n c i bb lg m0 m1 l e)) ((R197 pre n c i bb lg m0 m1 l e).trans (by rw [if_pos (⟨by omega, by omega⟩), condT (ble_t (by omega)), obind_at (k := ((Int.toNat i) * 1)) (by omega) (by omega)] <;> rfl)) ?_
  show Gets _ _ (codeAt [1, 1, 1, 1, 0, 1, 0, 0, 1, 1] B) _ _
  refine Gets.ofN fitE grp_sound (conT_agree _ _) 12 40 (by kernel_rfl) (x := .normal) (s' := (S269 pre n c i bb lg m0 m1 l e)) ((R198 pre n c i bb lg m0 m1 l e).trans (by (show some (Ex.normal, (S268 pre n c i bb lg m0 m1 l e)) = some (Ex.normal, (S269 pre n c i bb lg m0 m1 l e)); unfold S268 S269; rw [(show (IntKind.wrap .i64 (i + 1)) = (i + 1) from wrap_i64_id (by omega) (by omega))]))) ?_
  exact hq
theorem R199 (pre : Nat) (n : Nat) (c : Nat) (i : Int) (bb : Int) (lg : Int) (m0 : Int) (m1 : Int) (l : List Int) (e : TypeId) : evCK Try.prog cfgE (runK Try.prog cfgE fsE (conT grpDom grpE) 12 40) 12 (codeAt [1, 1, 1, 1, 0, 1, 0, 0, 1, 0, 0, 1, 1, 1, 1, 1, 1, 1] B) (S267 pre n c i bb lg m0 m1 l e) (normC 1 [2, 3, 4, 7, 12]) =
  some (.normal, (S197 pre n c i bb lg m0 m1 l e)) := by kernel_rfl
theorem lp19e_48 (bb lg m0 m1 g gl : Int) (i : Int) (pre n c : Nat) (l : List Int) (e : TypeId) (hb : 0 ≤ bb) (hm : -9223372036854775808 ≤ m1 ∧ m1 < 9223372036854775808) (hg : groupsV m0 = g) (hg1 : 0 ≤ g) (hg2 : g ≤ 512) (hgl : groupsV lg = gl) (hgl1 : 0 ≤ gl) (hn20 : n ≤ 20) (hc : n ≤ c) (hc2 : c ≤ 9223372036854775807) (hl : l.length = c) (hc0 : 0 < c) (h1 : bb ≠ 0) (h2 : 0 < gl) (h3 : 0 < g) (hi : 5 ≤ i) (hn : i = (n : Int))  (q1 : ((l.getD 0 0) == 0) = false) (q2 : ((l.getD 2 0) == 0) = false) {Q : Ex → St → Prop} (hq : Q .normal (KSt.low (S269 pre n c i bb lg m0 m1 l e))) : Gets Try.prog (KH.low ⟨1, 1, [(0, 0, .tail pre .u64 l e)]⟩) (codeAt [1, 1, 1, 1, 0, 1, 0, 0] B) (KSt.low (S197 pre n c i bb lg m0 m1 l e)) Q := by
  rw [C1_1_1_1_0_1_0_0]; refine Gets.seq ?_
  rw [C1_1_1_1_0_1_0_0_0]; refine Gets.seq ?_
  refine Gets.ofN fitE grp_sound (conT_agree _ _) 12 40 (by kernel_rfl) (x := .normal) (s' := (S245 pre n c i bb lg m0 m1 l e)) (R188 pre n c i bb lg m0 m1 l e) ?_
  show Gets _ _ (codeAt [1, 1, 1, 1, 0, 1, 0, 0, 0, 1] B) _ _
  rw [C1_1_1_1_0_1_0_0_0_1]; refine Gets.cond true (by kernel_rfl) ((show evalX (KSt.ts (S245 pre n c i bb lg m0 m1 l e)) (.tmp 60) = .bool (decide (i ≤ ((n : Nat) : Int))) by kernel_rfl).trans (by rw [(show (decide (i ≤ ((n : Nat) : Int))) = true from decide_eq_true (by omega))])) ?_; show Gets _ _ (codeAt [1, 1, 1, 1, 0, 1, 0, 0, 0, 1, 0] B) _ _
  refine Gets.ofN fitE grp_sound (conT_agree _ _) 12 40 (by kernel_rfl) (x := .normal) (s' := (S197 pre n c i bb lg m0 m1 l e)) (R189 pre n c i bb lg m0 m1 l e) ?_
  show Gets _ _ (codeAt [1, 1, 1, 1, 0, 1, 0, 0, 1] B) _ _
  rw [C1_1_1_1_0_1_0_0_1]; refine Gets.seq ?_
  rw [C1_1_1_1_0_1_0_0_1_0]; refine Gets.block ?_
  rw [C1_1_1_1_0_1_0_0_1_0_0]; refine Gets.seq ?_
  refine Gets.ofN fitE grp_sound (conT_agree _ _) 12 40 (by kernel_rfl) (x := .normal) (s' := (S247 pre n c i bb lg m0 m1 l e)) ((R190 pre n c i bb lg m0 m1 l e).trans (by rw [if_pos (⟨by omega, by omega⟩), condT (and_t (ble_t (by omega)) (ble_t (by omega))), condF (nbeq_f (by omega))])) ?_
  show Gets _ _ (codeAt [1, 1, 1, 1, 0, 1, 0, 0, 1, 0, 0, 1] B) _ _
  rw [C1_1_1_1_0_1_0_0_1_0_0_1]; refine Gets.seq ?_
  refine Gets.ofN fitE grp_sound (conT_agree _ _) 12 40 (by kernel_rfl) (x := .normal) (s' := (S261 pre n c i l bb lg m0 m1 e)) ((R191 pre n c i bb lg m0 m1 l e).trans (by rw [condF (ibeq_f (by ((try simp (disch := omega) only [hg, hgl, wrap_i64_id]) <;> omega))), condT (decide_eq_true (by omega)), if_pos (⟨by omega, by omega⟩), condT (ble_t (by omega)), obind_at (k := 0) (by omega) (by omega), condF (q1), condT (decide_eq_true (by omega)), if_pos (⟨by omega, by omega⟩), condT (ble_t (by omega)), obind_at (k := 1) (by omega) (by omega), condT (decide_eq_true (by omega)), if_pos (⟨by omega, by omega⟩), condT (ble_t (by omega)), obind_at (k := 2) (by omega) (by omega), condF (q2), condT (decide_eq_true (by omega)), if_pos (⟨by omega, by omega⟩), condT (ble_t (by omega)), obind_at (k := 3) (by omega) (by omega)] <;> rfl)) ?_
  show Gets _ _ (codeAt [1, 1, 1, 1, 0, 1, 0, 0, 1, 0, 0, 1, 1] B) _ _
  rw [C1_1_1_1_0_1_0_0_1_0_0_1_1]; refine Gets.seq ?_
  refine Gets.ofN fitE grp_sound (conT_agree _ _) 12 40 (by kernel_rfl) (x := .normal) (s' := (S263 pre n c i l bb lg m0 m1 e)) ((R192 pre n c i l bb lg m0 m1 e).trans (by rw [condF (and_f1 (rfl))])) ?_
  show Gets _ _ (codeAt [1, 1, 1, 1, 0, 1, 0, 0, 1, 0, 0, 1, 1, 1] B) _ _
  rw [C1_1_1_1_0_1_0_0_1_0_0_1_1_1]; refine Gets.seq ?_
  refine Gets.ofN fitE grp_sound (conT_agree _ _) 12 40 (by kernel_rfl) (x := .normal) (s' := (S264 pre n c i l bb lg m0 m1 e)) (R193 pre n c i l bb lg m0 m1 e) ?_
  show Gets _ _ (codeAt [1, 1, 1, 1, 0, 1, 0, 0, 1, 0, 0, 1, 1, 1, 1] B) _ _
  rw [C1_1_1_1_0_1_0_0_1_0_0_1_1_1_1]; refine Gets.seq ?_
  rw [C1_1_1_1_0_1_0_0_1_0_0_1_1_1_1_0]; refine Gets.seq ?_
  refine Gets.ofN fitE grp_sound (conT_agree _ _) 12 40 (by kernel_rfl) (x := .normal) (s' := (S266 pre n c i bb lg m0 m1 l e)) ((R194 pre n c i l bb lg m0 m1 e).trans (by rw [condF (not_f (and_t (rfl) (and_t (rfl) (and_t (beq_self_eq_true _) (rfl)))))])) ?_
  show Gets _ _ (codeAt [1, 1, 1, 1, 0, 1, 0, 0, 1, 0, 0, 1, 1, 1, 1, 0, 1] B) _ _
  rw [C1_1_1_1_0_1_0_0_1_0_0_1_1_1_1_0_1]; refine Gets.cond false (by kernel_rfl) (show evalX (KSt.ts (S266 pre n c i bb lg m0 m1 l e)) (.tmp 123) = .bool false by kernel_rfl) ?_; show Gets _ _ (codeAt [1, 1, 1, 1, 0, 1, 0, 0, 1, 0, 0, 1, 1, 1, 1, 0, 1, 1] B) _ _
  refine Gets.ofN fitE grp_sound (conT_agree _ _) 12 40 (by kernel_rfl) (x := .normal) (s' := (S197 pre n c i bb lg m0 m1 l e)) (R195 pre n c i bb lg m0 m1 l e) ?_
  show Gets _ _ (codeAt [1, 1, 1, 1, 0, 1, 0, 0, 1, 0, 0, 1, 1, 1, 1, 1] B) _ _
  rw [C1_1_1_1_0_1_0_0_1_0_0_1_1_1_1_1]; refine Gets.seq ?_
  refine Gets.ofN fitE grp_sound (conT_agree _ _) 12 40 (by kernel_rfl) (x := .normal) (s' := (S267 pre n c i bb lg m0 m1 l e)) (R196 pre n c i bb lg m0 m1 l e) ?_
  show Gets _ _ (codeAt [1, 1, 1, 1, 0, 1, 0, 0, 1, 0, 0, 1, 1, 1, 1, 1, 1] B) _ _
  rw [C1_1_1_1_0_1_0_0_1_0_0_1_1_1_1_1_1]; refine Gets.cond false (by kernel_rfl) ((show evalX (KSt.ts (S267 pre n c i bb lg m0 m1 l e)) (.tmp 127) = .bool (decide (i < ((n : Nat) : Int))) by kernel_rfl).trans (by rw [(show (decide (i < ((n : Nat) : Int))) = false from decide_eq_false (by omega))])) ?_; show Gets _ _ (codeAt [1, 1, 1, 1, 0, 1, 0, 0, 1, 0, 0, 1, 1, 1, 1, 1, 1, 1] B) _ _
  refine Gets.ofN fitE grp_sound (conT_agree _ _) 12 40 (by kernel_rfl) (x := .normal) (s' := (S197 pre n c i bb lg m0 m1 l e)) (R199 pre n c i bb lg m0 m1 l e) ?_
  show Gets _ _ (codeAt [1, 1, 1, 1, 0, 1, 0, 0, 1, 1] B) _ _
  refine Gets.ofN fitE grp_sound (conT_agree _ _) 12 40 (by kernel_rfl) (x := .normal) (s' := (S269 pre n c i bb lg m0 m1 l e)) ((R198 pre n c i bb lg m0 m1 l e).trans (by (show some (Ex.normal, (S268 pre n c i bb lg m0 m1 l e)) = some (Ex.normal, (S269 pre n c i bb lg m0 m1 l e)); unfold S268 S269; rw [(show (IntKind.wrap .i64 (i + 1)) = (i + 1) from wrap_i64_id (by omega) (by omega))]))) ?_
  exact hq
theorem lp20x_49 (bb lg m0 m1 g gl : Int) (i : Int) (pre n c : Nat) (l : List Int) (e : TypeId) (hx : (n : Int) < i)   {Q : Ex → St → Prop} (hq : Q (.exit 0) (KSt.low (S245 pre n c i bb lg m0 m1 l e))) : Gets Try.prog (KH.low ⟨1, 1, [(0, 0, .tail pre .u64 l e)]⟩) (codeAt [1, 1, 1, 1, 0, 1, 0, 0] B) (KSt.low (S197 pre n c i bb lg m0 m1 l e)) Q := by
  rw [C1_1_1_1_0_1_0_0]; refine Gets.seq ?_
  rw [C1_1_1_1_0_1_0_0_0]; refine Gets.seq ?_
  refine Gets.ofN fitE grp_sound (conT_agree _ _) 12 40 (by kernel_rfl) (x := .normal) (s' := (S245 pre n c i bb lg m0 m1 l e)) (R188 pre n c i bb lg m0 m1 l e) ?_
  show Gets _ _ (codeAt [1, 1, 1, 1, 0, 1, 0, 0, 0, 1] B) _ _
  rw [C1_1_1_1_0_1_0_0_0_1]; refine Gets.cond false (by kernel_rfl) ((show evalX (KSt.ts (S245 pre n c i bb lg m0 m1 l e)) (.tmp 60) = .bool (decide (i ≤ ((n : Nat) : Int))) by kernel_rfl).trans (by rw [(show (decide (i ≤ ((n : Nat) : Int))) = false from decide_eq_false (by omega))])) ?_; show Gets _ _ (codeAt [1, 1, 1, 1, 0, 1, 0, 0, 0, 1, 1] B) _ _
  rw [C1_1_1_1_0_1_0_0_0_1_1]; refine Gets.ev fitE.mix fitE.cfg (fitE.sound grp_sound 12 0) 12 rfl (s' := KSt.low (S245 pre n c i bb lg m0 m1 l e)) (x := (.exit 0)) rfl ?_
  exact hq
theorem R200 (pre : Nat) (n : Nat) (c : Nat) (i : Int) (bb : Int) (lg : Int) (m0 : Int) (m1 : Int) (l : List Int) (e : TypeId) : evCK Try.prog cfgE (runK Try.prog cfgE fsE (conT grpDom grpE) 12 40) 12 (codeAt [1, 1, 1, 1, 1, 0] B) (S245 pre n c i bb lg m0 m1 l e) (normC 1 [6]) =
  some (.normal, (S3 pre l e)) := by kernel_rfl
theorem lp20f_50 (bb lg m0 m1 g gl : Int) (i : Int) (pre n c : Nat) (l : List Int) (e : TypeId)   {Q : Ex → St → Prop} (hq : Q .ret (KSt.low (S3 pre l e))) : Gets Try.prog (KH.low ⟨1, 1, [(0, 0, .tail pre .u64 l e)]⟩) (codeAt [1, 1, 1, 1, 1] B) (KSt.low (S245 pre n c i bb lg m0 m1 l e)) Q := by
  rw [C1_1_1_1_1]; refine Gets.seq ?_
  refine Gets.ofN fitE grp_sound (conT_agree _ _) 12 40 (by kernel_rfl) (x := .normal) (s' := (S3 pre l e)) (R200 pre n c i bb lg m0 m1 l e) ?_
  show Gets _ _ (codeAt [1, 1, 1, 1, 1, 1] B) _ _
  rw [C1_1_1_1_1_1]; refine Gets.ev fitE.mix fitE.cfg (fitE.sound grp_sound 12 0) 12 rfl (s' := KSt.low (S3 pre l e)) (x := .ret) rfl ?_
  exact hq
theorem C1_1_1_1_0_1 : (codeAt [1, 1, 1, 1, 0, 1] B) = .block 0 (codeAt [1, 1, 1, 1, 0, 1, 0] B) := by kernel_rfl
theorem C1_1_1_1_0_1_0 : (codeAt [1, 1, 1, 1, 0, 1, 0] B) = .loop (codeAt [1, 1, 1, 1, 0, 1, 0, 0] B) := by kernel_rfl
noncomputable def vS0 (bb : Int) (lg : Int) (m0 : Int) (m1 : Int) (pre : Nat) : KSt := (firstK [(.agg #[(.int .u64 bb), (.int .i64 lg)]), (.agg #[(.int .i64 m0), (.int .i64 m1)]), (.slice (some ⟨0, pre, none⟩) 0 0)] 135 ⟨1, 1, []⟩)
noncomputable def vS1 (pre : Nat) (m0 : Int) (m1 : Int) (bb : Int) (lg : Int) : KSt := ⟨(frameL 135 [(2, (.slice (some ⟨0, pre, none⟩) 0 0)), (3, (.pointer (some ⟨1, 0, none⟩))), (4, (.pointer (some ⟨2, 0, none⟩)))]), ⟨3, 1, [(2, 0, .cells [(.int .i64 m0), (.int .i64 m1)] 55 true), (1, 0, .cells [(.int .u64 bb), (.int .i64 lg)] 54 true)]⟩⟩
theorem vR1 (bb : Int) (lg : Int) (m0 : Int) (m1 : Int) (pre : Nat) : evCK Try.prog cfgE (runK Try.prog cfgE fsE (conT grpDom grpE) 12 40) 12 (codeAt [0] B) (vS0 bb lg m0 m1 pre) (normC 1 [2, 3, 4]) =
  some (.normal, (vS1 pre m0 m1 bb lg)) := by kernel_rfl
noncomputable def vS2 (pre : Nat) (m0 : Int) (m1 : Int) (bb : Int) (lg : Int) : KSt := ⟨(frameL 135 [(2, (.slice (some ⟨0, pre, none⟩) 0 0)), (3, (.pointer (some ⟨1, 0, none⟩))), (4, (.pointer (some ⟨2, 0, none⟩))), (21, (.bool false))]), ⟨3, 1, [(2, 0, .cells [(.int .i64 m0), (.int .i64 m1)] 55 true), (1, 0, .cells [(.int .u64 bb), (.int .i64 lg)] 54 true)]⟩⟩
theorem vR2 (pre : Nat) (m0 : Int) (m1 : Int) (bb : Int) (lg : Int) : evCK Try.prog cfgE (runK Try.prog cfgE fsE (conT grpDom grpE) 12 40) 12 (codeAt [1, 0, 0] B) (vS1 pre m0 m1 bb lg) (normC 1 [2, 3, 4, 21]) =
  some (.normal, (vS2 pre m0 m1 bb lg)) := by kernel_rfl
theorem vR3 (pre : Nat) (m0 : Int) (m1 : Int) (bb : Int) (lg : Int) : evCK Try.prog cfgE (runK Try.prog cfgE fsE (conT grpDom grpE) 12 40) 12 (codeAt [1, 0, 1, 1] B) (vS2 pre m0 m1 bb lg) (normC 1 [2, 3, 4]) =
  some (.normal, (vS1 pre m0 m1 bb lg)) := by kernel_rfl
noncomputable def vS3 (pre : Nat) (m0 : Int) (m1 : Int) (bb : Int) (lg : Int) : KSt := ⟨(frameL 135 [(2, (.slice (some ⟨0, pre, none⟩) 0 0)), (3, (.pointer (some ⟨1, 0, none⟩))), (4, (.pointer (some ⟨2, 0, none⟩))), (7, (.pointer (some ⟨3, 0, none⟩)))]), ⟨4, 1, [(3, 0, .cells [(.int .u64 0), (.int .i64 0), (.int .i64 0), (.int .i64 0), (.int .u64 0), (.int .i64 0), (.int .i64 0), (.int .u64 0), (.int .u64 0)] 82 true), (2, 0, .cells [(.int .i64 m0), (.int .i64 m1)] 55 true), (1, 0, .cells [(.int .u64 bb), (.int .i64 lg)] 54 true)]⟩⟩
noncomputable def vS4 (pre : Nat) (bb : Int) (lg : Int) (m0 : Int) (m1 : Int) : KSt := ⟨(frameL 135 [(2, (.slice (some ⟨0, pre, none⟩) 0 0)), (3, (.pointer (some ⟨1, 0, none⟩))), (4, (.pointer (some ⟨2, 0, none⟩))), (7, (.pointer (some ⟨3, 0, none⟩)))]), ⟨4, 1, [(3, 0, .cells [(.int .u64 bb), (.int .i64 lg), (.int .i64 m0), (.int .i64 m1), (.int .u64 0), (.int .i64 1), (.int .i64 0), (.int .u64 0), (.int .u64 0)] 82 true), (2, 0, .cells [(.int .i64 m0), (.int .i64 m1)] 55 true), (1, 0, .cells [(.int .u64 bb), (.int .i64 lg)] 54 true)]⟩⟩
theorem vR4 (pre : Nat) (m0 : Int) (m1 : Int) (bb : Int) (lg : Int) : evCK Try.prog cfgE (runK Try.prog cfgE fsE (conT grpDom grpE) 12 40) 12 (codeAt [1, 1, 0] B) (vS1 pre m0 m1 bb lg) (normC 1 [2, 3, 4, 7]) =
  bif (bb != 0) then
    bif (!(decide ((groupsV lg) > 0))) then
      some (.normal, (vS3 pre m0 m1 bb lg))
    else
      bif ((groupsV m0) == 0) then
        some (.normal, (vS3 pre m0 m1 bb lg))
      else
        bif ((IntKind.wrap .i64 ((IntKind.wrap .i64 (7 + (groupsV m0))) + (IntKind.wrap .i64 (8 * (groupsV m0))))) == 0) then
          some (.normal, (vS3 pre m0 m1 bb lg))
        else
          bif (m1 != 1) then
            bif (m1 != 2) then
              some (.normal, (vS3 pre m0 m1 bb lg))
            else
              some (.normal, (vS4 pre bb lg m0 m1))
          else
            some (.normal, (vS4 pre bb lg m0 m1))
  else
    some (.normal, (vS3 pre m0 m1 bb lg)) := by kernel_rfl
noncomputable def vS5 (pre : Nat) (m0 : Int) (m1 : Int) (bb : Int) (lg : Int) : KSt := ⟨(frameL 135 [(2, (.slice (some ⟨0, pre, none⟩) 0 0)), (3, (.pointer (some ⟨1, 0, none⟩))), (4, (.pointer (some ⟨2, 0, none⟩))), (7, (.pointer (some ⟨3, 0, none⟩))), (35, (.bool false))]), ⟨4, 1, [(3, 0, .cells [(.int .u64 0), (.int .i64 0), (.int .i64 0), (.int .i64 0), (.int .u64 0), (.int .i64 0), (.int .i64 0), (.int .u64 0), (.int .u64 0)] 82 true), (2, 0, .cells [(.int .i64 m0), (.int .i64 m1)] 55 true), (1, 0, .cells [(.int .u64 bb), (.int .i64 lg)] 54 true)]⟩⟩
noncomputable def vS6 (pre : Nat) (m1 : Int) (m0 : Int) (bb : Int) (lg : Int) : KSt := ⟨(frameL 135 [(2, (.slice (some ⟨0, pre, none⟩) 0 0)), (3, (.pointer (some ⟨1, 0, none⟩))), (4, (.pointer (some ⟨2, 0, none⟩))), (7, (.pointer (some ⟨3, 0, none⟩))), (35, (.bool (!(m1 == 2))))]), ⟨4, 1, [(3, 0, .cells [(.int .u64 0), (.int .i64 0), (.int .i64 0), (.int .i64 0), (.int .u64 0), (.int .i64 0), (.int .i64 0), (.int .u64 0), (.int .u64 0)] 82 true), (2, 0, .cells [(.int .i64 m0), (.int .i64 m1)] 55 true), (1, 0, .cells [(.int .u64 bb), (.int .i64 lg)] 54 true)]⟩⟩
noncomputable def vS7 (pre : Nat) (m0 : Int) (m1 : Int) (bb : Int) (lg : Int) : KSt := ⟨(frameL 135 [(2, (.slice (some ⟨0, pre, none⟩) 0 0)), (3, (.pointer (some ⟨1, 0, none⟩))), (4, (.pointer (some ⟨2, 0, none⟩))), (7, (.pointer (some ⟨3, 0, none⟩))), (35, (.bool true))]), ⟨4, 1, [(3, 0, .cells [(.int .u64 0), (.int .i64 0), (.int .i64 0), (.int .i64 0), (.int .u64 0), (.int .i64 0), (.int .i64 0), (.int .u64 0), (.int .u64 0)] 82 true), (2, 0, .cells [(.int .i64 m0), (.int .i64 m1)] 55 true), (1, 0, .cells [(.int .u64 bb), (.int .i64 lg)] 54 true)]⟩⟩
theorem vR5 (pre : Nat) (m0 : Int) (m1 : Int) (bb : Int) (lg : Int) : evCK Try.prog cfgE (runK Try.prog cfgE fsE (conT grpDom grpE) 12 40) 12 (codeAt [1, 1, 1, 0, 0] B) (vS3 pre m0 m1 bb lg) (normC 1 [2, 3, 4, 7, 35]) =
  bif (decide (bb > 0)) then
    bif (decide ((groupsV lg) > 0)) then
      bif (decide ((groupsV m0) > 0)) then
        bif (m1 == 1) then
          some (.normal, (vS5 pre m0 m1 bb lg))
        else
          some (.normal, (vS6 pre m1 m0 bb lg))
      else
        some (.normal, (vS7 pre m0 m1 bb lg))
    else
      some (.normal, (vS7 pre m0 m1 bb lg))
  else
    some (.normal, (vS7 pre m0 m1 bb lg)) := by kernel_rfl
noncomputable def vS8  : KSt := ⟨(frameL 135 [(7, (.pointer (some ⟨1, 0, none⟩))), (9, (.bool false))]), ⟨2, 1, [(1, 0, .cells [(.int .u64 0), (.int .i64 0), (.int .i64 0), (.int .i64 0), (.int .u64 0), (.int .i64 0), (.int .i64 0), (.int .u64 0), (.int .u64 0)] 82 true)]⟩⟩
theorem vR6 (pre : Nat) (m0 : Int) (m1 : Int) (bb : Int) (lg : Int) : evCK Try.prog cfgE (runK Try.prog cfgE fsE (conT grpDom grpE) 12 40) 12 (codeAt [1, 1, 1, 0, 1, 0, 0] B) (vS7 pre m0 m1 bb lg) (normC 1 [7, 9]) =
  some (.normal, vS8) := by kernel_rfl
theorem vR7  : evCK Try.prog cfgE (runK Try.prog cfgE fsE (conT grpDom grpE) 12 40) 12 (codeAt [1, 1, 1, 0, 1, 0, 1, 0] B) vS8 (normC 1 [7, 9]) =
  some (.normal, vS8) := by kernel_rfl
noncomputable def vS9  : KSt := ⟨(frameL 135 [(9, (.bool false)), (11, (.bool false))]), ⟨1, 1, []⟩⟩
theorem vR8  : evCK Try.prog cfgE (runK Try.prog cfgE fsE (conT grpDom grpE) 12 40) 12 (codeAt [1, 1, 1, 0, 1, 0, 1, 1, 0] B) vS8 (normC 1 [9, 11]) =
  some (.normal, vS9) := by kernel_rfl
noncomputable def vS10  : KSt := ⟨(frameL 135 [(6, (.bool true))]), ⟨1, 1, []⟩⟩
theorem vR9  : evCK Try.prog cfgE (runK Try.prog cfgE fsE (conT grpDom grpE) 12 40) 12 (codeAt [1, 1, 1, 0, 1, 0, 1, 1, 1, 0] B) vS9 (normC 1 [6]) =
  some (.normal, vS10) := by kernel_rfl
theorem vb0_0 (bb lg m0 m1 g gl : Int) (pre : Nat) (hb : 0 ≤ bb) (hm : -9223372036854775808 ≤ m1 ∧ m1 < 9223372036854775808) (hg : groupsV m0 = g) (hg1 : 0 ≤ g) (hg2 : g ≤ 512) (hgl : groupsV lg = gl) (hgl1 : 0 ≤ gl) (h1 : bb = 0)   {Q : Ex → St → Prop} (hq : Q .ret (KSt.low vS10)) : Gets Try.prog (KH.low ⟨1, 1, []⟩) B (KSt.low (vS0 bb lg m0 m1 pre)) Q := by
  rw [C]; refine Gets.seq ?_
  refine Gets.ofN fitE grp_sound (conT_agree _ _) 12 40 (by kernel_rfl) (x := .normal) (s' := (vS1 pre m0 m1 bb lg)) (vR1 bb lg m0 m1 pre) ?_
  show Gets _ _ (codeAt [1] B) _ _
  rw [C1]; refine Gets.seq ?_
  rw [C1_0]; refine Gets.seq ?_
  refine Gets.ofN fitE grp_sound (conT_agree _ _) 12 40 (by kernel_rfl) (x := .normal) (s' := (vS2 pre m0 m1 bb lg)) (vR2 pre m0 m1 bb lg) ?_
  show Gets _ _ (codeAt [1, 0, 1] B) _ _
  rw [C1_0_1]; refine Gets.cond false (by kernel_rfl) (show evalX (KSt.ts (vS2 pre m0 m1 bb lg)) (.tmp 21) = .bool false by kernel_rfl) ?_; show Gets _ _ (codeAt [1, 0, 1, 1] B) _ _
  refine Gets.ofN fitE grp_sound (conT_agree _ _) 12 40 (by kernel_rfl) (x := .normal) (s' := (vS1 pre m0 m1 bb lg)) (vR3 pre m0 m1 bb lg) ?_
  show Gets _ _ (codeAt [1, 1] B) _ _
  rw [C1_1]; refine Gets.seq ?_
  refine Gets.ofN fitE grp_sound (conT_agree _ _) 12 40 (by kernel_rfl) (x := .normal) (s' := (vS3 pre m0 m1 bb lg)) ((vR4 pre m0 m1 bb lg).trans (by rw [condF (ibne_f (by omega))])) ?_
  show Gets _ _ (codeAt [1, 1, 1] B) _ _
  rw [C1_1_1]; refine Gets.seq ?_
  rw [C1_1_1_0]; refine Gets.seq ?_
  refine Gets.ofN fitE grp_sound (conT_agree _ _) 12 40 (by kernel_rfl) (x := .normal) (s' := (vS7 pre m0 m1 bb lg)) ((vR5 pre m0 m1 bb lg).trans (by rw [condF (decide_eq_false (by omega))])) ?_
  show Gets _ _ (codeAt [1, 1, 1, 0, 1] B) _ _
  rw [C1_1_1_0_1]; refine Gets.cond true (by kernel_rfl) (show evalX (KSt.ts (vS7 pre m0 m1 bb lg)) (.tmp 35) = .bool true by kernel_rfl) ?_; show Gets _ _ (codeAt [1, 1, 1, 0, 1, 0] B) _ _
  rw [C1_1_1_0_1_0]; refine Gets.seq ?_
  refine Gets.ofN fitE grp_sound (conT_agree _ _) 12 40 (by kernel_rfl) (x := .normal) (s' := vS8) (vR6 pre m0 m1 bb lg) ?_
  show Gets _ _ (codeAt [1, 1, 1, 0, 1, 0, 1] B) _ _
  rw [C1_1_1_0_1_0_1]; refine Gets.seq ?_
  refine Gets.ofN fitE grp_sound (conT_agree _ _) 12 40 (by kernel_rfl) (x := .normal) (s' := vS8) (vR7) ?_
  show Gets _ _ (codeAt [1, 1, 1, 0, 1, 0, 1, 1] B) _ _
  rw [C1_1_1_0_1_0_1_1]; refine Gets.seq ?_
  refine Gets.ofN fitE grp_sound (conT_agree _ _) 12 40 (by kernel_rfl) (x := .normal) (s' := vS9) (vR8) ?_
  show Gets _ _ (codeAt [1, 1, 1, 0, 1, 0, 1, 1, 1] B) _ _
  rw [C1_1_1_0_1_0_1_1_1]; refine Gets.seq ?_
  refine Gets.ofN fitE grp_sound (conT_agree _ _) 12 40 (by kernel_rfl) (x := .normal) (s' := vS10) (vR9) ?_
  show Gets _ _ (codeAt [1, 1, 1, 0, 1, 0, 1, 1, 1, 1] B) _ _
  rw [C1_1_1_0_1_0_1_1_1_1]; refine Gets.ev fitE.mix fitE.cfg (fitE.sound grp_sound 12 0) 12 rfl (s' := KSt.low vS10) (x := .ret) rfl ?_
  exact hq
theorem vb1_1 (bb lg m0 m1 g gl : Int) (pre : Nat) (hb : 0 ≤ bb) (hm : -9223372036854775808 ≤ m1 ∧ m1 < 9223372036854775808) (hg : groupsV m0 = g) (hg1 : 0 ≤ g) (hg2 : g ≤ 512) (hgl : groupsV lg = gl) (hgl1 : 0 ≤ gl) (h1 : bb ≠ 0) (h2 : gl = 0)   {Q : Ex → St → Prop} (hq : Q .ret (KSt.low vS10)) : Gets Try.prog (KH.low ⟨1, 1, []⟩) B (KSt.low (vS0 bb lg m0 m1 pre)) Q := by
  rw [C]; refine Gets.seq ?_
  refine Gets.ofN fitE grp_sound (conT_agree _ _) 12 40 (by kernel_rfl) (x := .normal) (s' := (vS1 pre m0 m1 bb lg)) (vR1 bb lg m0 m1 pre) ?_
  show Gets _ _ (codeAt [1] B) _ _
  rw [C1]; refine Gets.seq ?_
  rw [C1_0]; refine Gets.seq ?_
  refine Gets.ofN fitE grp_sound (conT_agree _ _) 12 40 (by kernel_rfl) (x := .normal) (s' := (vS2 pre m0 m1 bb lg)) (vR2 pre m0 m1 bb lg) ?_
  show Gets _ _ (codeAt [1, 0, 1] B) _ _
  rw [C1_0_1]; refine Gets.cond false (by kernel_rfl) (show evalX (KSt.ts (vS2 pre m0 m1 bb lg)) (.tmp 21) = .bool false by kernel_rfl) ?_; show Gets _ _ (codeAt [1, 0, 1, 1] B) _ _
  refine Gets.ofN fitE grp_sound (conT_agree _ _) 12 40 (by kernel_rfl) (x := .normal) (s' := (vS1 pre m0 m1 bb lg)) (vR3 pre m0 m1 bb lg) ?_
  show Gets _ _ (codeAt [1, 1] B) _ _
  rw [C1_1]; refine Gets.seq ?_
  refine Gets.ofN fitE grp_sound (conT_agree _ _) 12 40 (by kernel_rfl) (x := .normal) (s' := (vS3 pre m0 m1 bb lg)) ((vR4 pre m0 m1 bb lg).trans (by rw [condT (ibne_t (by omega)), condT (not_t (decide_eq_false (by ((try simp (disch := omega) only [hg, hgl, wrap_i64_id]) <;> omega))))])) ?_
  show Gets _ _ (codeAt [1, 1, 1] B) _ _
  rw [C1_1_1]; refine Gets.seq ?_
  rw [C1_1_1_0]; refine Gets.seq ?_
  refine Gets.ofN fitE grp_sound (conT_agree _ _) 12 40 (by kernel_rfl) (x := .normal) (s' := (vS7 pre m0 m1 bb lg)) ((vR5 pre m0 m1 bb lg).trans (by rw [condT (decide_eq_true (by omega)), condF (decide_eq_false (by ((try simp (disch := omega) only [hg, hgl, wrap_i64_id]) <;> omega)))])) ?_
  show Gets _ _ (codeAt [1, 1, 1, 0, 1] B) _ _
  rw [C1_1_1_0_1]; refine Gets.cond true (by kernel_rfl) (show evalX (KSt.ts (vS7 pre m0 m1 bb lg)) (.tmp 35) = .bool true by kernel_rfl) ?_; show Gets _ _ (codeAt [1, 1, 1, 0, 1, 0] B) _ _
  rw [C1_1_1_0_1_0]; refine Gets.seq ?_
  refine Gets.ofN fitE grp_sound (conT_agree _ _) 12 40 (by kernel_rfl) (x := .normal) (s' := vS8) (vR6 pre m0 m1 bb lg) ?_
  show Gets _ _ (codeAt [1, 1, 1, 0, 1, 0, 1] B) _ _
  rw [C1_1_1_0_1_0_1]; refine Gets.seq ?_
  refine Gets.ofN fitE grp_sound (conT_agree _ _) 12 40 (by kernel_rfl) (x := .normal) (s' := vS8) (vR7) ?_
  show Gets _ _ (codeAt [1, 1, 1, 0, 1, 0, 1, 1] B) _ _
  rw [C1_1_1_0_1_0_1_1]; refine Gets.seq ?_
  refine Gets.ofN fitE grp_sound (conT_agree _ _) 12 40 (by kernel_rfl) (x := .normal) (s' := vS9) (vR8) ?_
  show Gets _ _ (codeAt [1, 1, 1, 0, 1, 0, 1, 1, 1] B) _ _
  rw [C1_1_1_0_1_0_1_1_1]; refine Gets.seq ?_
  refine Gets.ofN fitE grp_sound (conT_agree _ _) 12 40 (by kernel_rfl) (x := .normal) (s' := vS10) (vR9) ?_
  show Gets _ _ (codeAt [1, 1, 1, 0, 1, 0, 1, 1, 1, 1] B) _ _
  rw [C1_1_1_0_1_0_1_1_1_1]; refine Gets.ev fitE.mix fitE.cfg (fitE.sound grp_sound 12 0) 12 rfl (s' := KSt.low vS10) (x := .ret) rfl ?_
  exact hq
theorem vb2_2 (bb lg m0 m1 g gl : Int) (pre : Nat) (hb : 0 ≤ bb) (hm : -9223372036854775808 ≤ m1 ∧ m1 < 9223372036854775808) (hg : groupsV m0 = g) (hg1 : 0 ≤ g) (hg2 : g ≤ 512) (hgl : groupsV lg = gl) (hgl1 : 0 ≤ gl) (h1 : bb ≠ 0) (h2 : 0 < gl) (h3 : g = 0)   {Q : Ex → St → Prop} (hq : Q .ret (KSt.low vS10)) : Gets Try.prog (KH.low ⟨1, 1, []⟩) B (KSt.low (vS0 bb lg m0 m1 pre)) Q := by
  rw [C]; refine Gets.seq ?_
  refine Gets.ofN fitE grp_sound (conT_agree _ _) 12 40 (by kernel_rfl) (x := .normal) (s' := (vS1 pre m0 m1 bb lg)) (vR1 bb lg m0 m1 pre) ?_
  show Gets _ _ (codeAt [1] B) _ _
  rw [C1]; refine Gets.seq ?_
  rw [C1_0]; refine Gets.seq ?_
  refine Gets.ofN fitE grp_sound (conT_agree _ _) 12 40 (by kernel_rfl) (x := .normal) (s' := (vS2 pre m0 m1 bb lg)) (vR2 pre m0 m1 bb lg) ?_
  show Gets _ _ (codeAt [1, 0, 1] B) _ _
  rw [C1_0_1]; refine Gets.cond false (by kernel_rfl) (show evalX (KSt.ts (vS2 pre m0 m1 bb lg)) (.tmp 21) = .bool false by kernel_rfl) ?_; show Gets _ _ (codeAt [1, 0, 1, 1] B) _ _
  refine Gets.ofN fitE grp_sound (conT_agree _ _) 12 40 (by kernel_rfl) (x := .normal) (s' := (vS1 pre m0 m1 bb lg)) (vR3 pre m0 m1 bb lg) ?_
  show Gets _ _ (codeAt [1, 1] B) _ _
  rw [C1_1]; refine Gets.seq ?_
  refine Gets.ofN fitE grp_sound (conT_agree _ _) 12 40 (by kernel_rfl) (x := .normal) (s' := (vS3 pre m0 m1 bb lg)) ((vR4 pre m0 m1 bb lg).trans (by rw [condT (ibne_t (by omega)), condF (not_f (decide_eq_true (by ((try simp (disch := omega) only [hg, hgl, wrap_i64_id]) <;> omega)))), condT (ibeq_t (by ((try simp (disch := omega) only [hg, hgl, wrap_i64_id]) <;> omega)))])) ?_
  show Gets _ _ (codeAt [1, 1, 1] B) _ _
  rw [C1_1_1]; refine Gets.seq ?_
  rw [C1_1_1_0]; refine Gets.seq ?_
  refine Gets.ofN fitE grp_sound (conT_agree _ _) 12 40 (by kernel_rfl) (x := .normal) (s' := (vS7 pre m0 m1 bb lg)) ((vR5 pre m0 m1 bb lg).trans (by rw [condT (decide_eq_true (by omega)), condT (decide_eq_true (by ((try simp (disch := omega) only [hg, hgl, wrap_i64_id]) <;> omega))), condF (decide_eq_false (by ((try simp (disch := omega) only [hg, hgl, wrap_i64_id]) <;> omega)))])) ?_
  show Gets _ _ (codeAt [1, 1, 1, 0, 1] B) _ _
  rw [C1_1_1_0_1]; refine Gets.cond true (by kernel_rfl) (show evalX (KSt.ts (vS7 pre m0 m1 bb lg)) (.tmp 35) = .bool true by kernel_rfl) ?_; show Gets _ _ (codeAt [1, 1, 1, 0, 1, 0] B) _ _
  rw [C1_1_1_0_1_0]; refine Gets.seq ?_
  refine Gets.ofN fitE grp_sound (conT_agree _ _) 12 40 (by kernel_rfl) (x := .normal) (s' := vS8) (vR6 pre m0 m1 bb lg) ?_
  show Gets _ _ (codeAt [1, 1, 1, 0, 1, 0, 1] B) _ _
  rw [C1_1_1_0_1_0_1]; refine Gets.seq ?_
  refine Gets.ofN fitE grp_sound (conT_agree _ _) 12 40 (by kernel_rfl) (x := .normal) (s' := vS8) (vR7) ?_
  show Gets _ _ (codeAt [1, 1, 1, 0, 1, 0, 1, 1] B) _ _
  rw [C1_1_1_0_1_0_1_1]; refine Gets.seq ?_
  refine Gets.ofN fitE grp_sound (conT_agree _ _) 12 40 (by kernel_rfl) (x := .normal) (s' := vS9) (vR8) ?_
  show Gets _ _ (codeAt [1, 1, 1, 0, 1, 0, 1, 1, 1] B) _ _
  rw [C1_1_1_0_1_0_1_1_1]; refine Gets.seq ?_
  refine Gets.ofN fitE grp_sound (conT_agree _ _) 12 40 (by kernel_rfl) (x := .normal) (s' := vS10) (vR9) ?_
  show Gets _ _ (codeAt [1, 1, 1, 0, 1, 0, 1, 1, 1, 1] B) _ _
  rw [C1_1_1_0_1_0_1_1_1_1]; refine Gets.ev fitE.mix fitE.cfg (fitE.sound grp_sound 12 0) 12 rfl (s' := KSt.low vS10) (x := .ret) rfl ?_
  exact hq
theorem vR10 (pre : Nat) (m1 : Int) (m0 : Int) (bb : Int) (lg : Int) : evCK Try.prog cfgE (runK Try.prog cfgE fsE (conT grpDom grpE) 12 40) 12 (codeAt [1, 1, 1, 0, 1, 0, 0] B) (vS6 pre m1 m0 bb lg) (normC 1 [7, 9]) =
  some (.normal, vS8) := by kernel_rfl
theorem vb3_3 (bb lg m0 m1 g gl : Int) (pre : Nat) (hb : 0 ≤ bb) (hm : -9223372036854775808 ≤ m1 ∧ m1 < 9223372036854775808) (hg : groupsV m0 = g) (hg1 : 0 ≤ g) (hg2 : g ≤ 512) (hgl : groupsV lg = gl) (hgl1 : 0 ≤ gl) (h1 : bb ≠ 0) (h2 : 0 < gl) (h3 : 0 < g) (h4 : m1 ≠ 1) (h5 : m1 ≠ 2)   {Q : Ex → St → Prop} (hq : Q .ret (KSt.low vS10)) : Gets Try.prog (KH.low ⟨1, 1, []⟩) B (KSt.low (vS0 bb lg m0 m1 pre)) Q := by
  rw [C]; refine Gets.seq ?_
  refine Gets.ofN fitE grp_sound (conT_agree _ _) 12 40 (by kernel_rfl) (x := .normal) (s' := (vS1 pre m0 m1 bb lg)) (vR1 bb lg m0 m1 pre) ?_
  show Gets _ _ (codeAt [1] B) _ _
  rw [C1]; refine Gets.seq ?_
  rw [C1_0]; refine Gets.seq ?_
  refine Gets.ofN fitE grp_sound (conT_agree _ _) 12 40 (by kernel_rfl) (x := .normal) (s' := (vS2 pre m0 m1 bb lg)) (vR2 pre m0 m1 bb lg) ?_
  show Gets _ _ (codeAt [1, 0, 1] B) _ _
  rw [C1_0_1]; refine Gets.cond false (by kernel_rfl) (show evalX (KSt.ts (vS2 pre m0 m1 bb lg)) (.tmp 21) = .bool false by kernel_rfl) ?_; show Gets _ _ (codeAt [1, 0, 1, 1] B) _ _
  refine Gets.ofN fitE grp_sound (conT_agree _ _) 12 40 (by kernel_rfl) (x := .normal) (s' := (vS1 pre m0 m1 bb lg)) (vR3 pre m0 m1 bb lg) ?_
  show Gets _ _ (codeAt [1, 1] B) _ _
  rw [C1_1]; refine Gets.seq ?_
  refine Gets.ofN fitE grp_sound (conT_agree _ _) 12 40 (by kernel_rfl) (x := .normal) (s' := (vS3 pre m0 m1 bb lg)) ((vR4 pre m0 m1 bb lg).trans (by rw [condT (ibne_t (by omega)), condF (not_f (decide_eq_true (by ((try simp (disch := omega) only [hg, hgl, wrap_i64_id]) <;> omega)))), condF (ibeq_f (by ((try simp (disch := omega) only [hg, hgl, wrap_i64_id]) <;> omega))), condF (ibeq_f (by ((try simp (disch := omega) only [hg, hgl, wrap_i64_id]) <;> omega))), condT (ibne_t (by omega)), condT (ibne_t (by omega))])) ?_
  show Gets _ _ (codeAt [1, 1, 1] B) _ _
  rw [C1_1_1]; refine Gets.seq ?_
  rw [C1_1_1_0]; refine Gets.seq ?_
  refine Gets.ofN fitE grp_sound (conT_agree _ _) 12 40 (by kernel_rfl) (x := .normal) (s' := (vS6 pre m1 m0 bb lg)) ((vR5 pre m0 m1 bb lg).trans (by rw [condT (decide_eq_true (by omega)), condT (decide_eq_true (by ((try simp (disch := omega) only [hg, hgl, wrap_i64_id]) <;> omega))), condT (decide_eq_true (by ((try simp (disch := omega) only [hg, hgl, wrap_i64_id]) <;> omega))), condF (ibeq_f (by omega))])) ?_
  show Gets _ _ (codeAt [1, 1, 1, 0, 1] B) _ _
  rw [C1_1_1_0_1]; refine Gets.cond true (by kernel_rfl) ((show evalX (KSt.ts (vS6 pre m1 m0 bb lg)) (.tmp 35) = .bool (!(m1 == 2)) by kernel_rfl).trans (by rw [(show (!(m1 == 2)) = true from not_t (ibeq_f (by omega)))])) ?_; show Gets _ _ (codeAt [1, 1, 1, 0, 1, 0] B) _ _
  rw [C1_1_1_0_1_0]; refine Gets.seq ?_
  refine Gets.ofN fitE grp_sound (conT_agree _ _) 12 40 (by kernel_rfl) (x := .normal) (s' := vS8) (vR10 pre m1 m0 bb lg) ?_
  show Gets _ _ (codeAt [1, 1, 1, 0, 1, 0, 1] B) _ _
  rw [C1_1_1_0_1_0_1]; refine Gets.seq ?_
  refine Gets.ofN fitE grp_sound (conT_agree _ _) 12 40 (by kernel_rfl) (x := .normal) (s' := vS8) (vR7) ?_
  show Gets _ _ (codeAt [1, 1, 1, 0, 1, 0, 1, 1] B) _ _
  rw [C1_1_1_0_1_0_1_1]; refine Gets.seq ?_
  refine Gets.ofN fitE grp_sound (conT_agree _ _) 12 40 (by kernel_rfl) (x := .normal) (s' := vS9) (vR8) ?_
  show Gets _ _ (codeAt [1, 1, 1, 0, 1, 0, 1, 1, 1] B) _ _
  rw [C1_1_1_0_1_0_1_1_1]; refine Gets.seq ?_
  refine Gets.ofN fitE grp_sound (conT_agree _ _) 12 40 (by kernel_rfl) (x := .normal) (s' := vS10) (vR9) ?_
  show Gets _ _ (codeAt [1, 1, 1, 0, 1, 0, 1, 1, 1, 1] B) _ _
  rw [C1_1_1_0_1_0_1_1_1_1]; refine Gets.ev fitE.mix fitE.cfg (fitE.sound grp_sound 12 0) 12 rfl (s' := KSt.low vS10) (x := .ret) rfl ?_
  exact hq
noncomputable def vS11 (pre : Nat) (bb : Int) (lg : Int) (m0 : Int) (m1 : Int) : KSt := ⟨(frameL 135 [(2, (.slice (some ⟨0, pre, none⟩) 0 0)), (3, (.pointer (some ⟨1, 0, none⟩))), (4, (.pointer (some ⟨2, 0, none⟩))), (7, (.pointer (some ⟨3, 0, none⟩))), (35, (.bool false))]), ⟨4, 1, [(3, 0, .cells [(.int .u64 bb), (.int .i64 lg), (.int .i64 m0), (.int .i64 m1), (.int .u64 0), (.int .i64 1), (.int .i64 0), (.int .u64 0), (.int .u64 0)] 82 true), (2, 0, .cells [(.int .i64 m0), (.int .i64 m1)] 55 true), (1, 0, .cells [(.int .u64 bb), (.int .i64 lg)] 54 true)]⟩⟩
noncomputable def vS12 (pre : Nat) (m1 : Int) (bb : Int) (lg : Int) (m0 : Int) : KSt := ⟨(frameL 135 [(2, (.slice (some ⟨0, pre, none⟩) 0 0)), (3, (.pointer (some ⟨1, 0, none⟩))), (4, (.pointer (some ⟨2, 0, none⟩))), (7, (.pointer (some ⟨3, 0, none⟩))), (35, (.bool (!(m1 == 2))))]), ⟨4, 1, [(3, 0, .cells [(.int .u64 bb), (.int .i64 lg), (.int .i64 m0), (.int .i64 m1), (.int .u64 0), (.int .i64 1), (.int .i64 0), (.int .u64 0), (.int .u64 0)] 82 true), (2, 0, .cells [(.int .i64 m0), (.int .i64 m1)] 55 true), (1, 0, .cells [(.int .u64 bb), (.int .i64 lg)] 54 true)]⟩⟩
noncomputable def vS13 (pre : Nat) (bb : Int) (lg : Int) (m0 : Int) (m1 : Int) : KSt := ⟨(frameL 135 [(2, (.slice (some ⟨0, pre, none⟩) 0 0)), (3, (.pointer (some ⟨1, 0, none⟩))), (4, (.pointer (some ⟨2, 0, none⟩))), (7, (.pointer (some ⟨3, 0, none⟩))), (35, (.bool true))]), ⟨4, 1, [(3, 0, .cells [(.int .u64 bb), (.int .i64 lg), (.int .i64 m0), (.int .i64 m1), (.int .u64 0), (.int .i64 1), (.int .i64 0), (.int .u64 0), (.int .u64 0)] 82 true), (2, 0, .cells [(.int .i64 m0), (.int .i64 m1)] 55 true), (1, 0, .cells [(.int .u64 bb), (.int .i64 lg)] 54 true)]⟩⟩
theorem vR11 (pre : Nat) (bb : Int) (lg : Int) (m0 : Int) (m1 : Int) : evCK Try.prog cfgE (runK Try.prog cfgE fsE (conT grpDom grpE) 12 40) 12 (codeAt [1, 1, 1, 0, 0] B) (vS4 pre bb lg m0 m1) (normC 1 [2, 3, 4, 7, 35]) =
  bif (decide (bb > 0)) then
    bif (decide ((groupsV lg) > 0)) then
      bif (decide ((groupsV m0) > 0)) then
        bif (m1 == 1) then
          some (.normal, (vS11 pre bb lg m0 m1))
        else
          some (.normal, (vS12 pre m1 bb lg m0))
      else
        some (.normal, (vS13 pre bb lg m0 m1))
    else
      some (.normal, (vS13 pre bb lg m0 m1))
  else
    some (.normal, (vS13 pre bb lg m0 m1)) := by kernel_rfl
theorem vR12 (pre : Nat) (bb : Int) (lg : Int) (m0 : Int) (m1 : Int) : evCK Try.prog cfgE (runK Try.prog cfgE fsE (conT grpDom grpE) 12 40) 12 (codeAt [1, 1, 1, 0, 1, 1] B) (vS11 pre bb lg m0 m1) (normC 1 [2, 3, 4, 7]) =
  some (.normal, (vS4 pre bb lg m0 m1)) := by kernel_rfl
noncomputable def vS14 (pre : Nat) (bb : Int) (lg : Int) (m0 : Int) (m1 : Int) : KSt := ⟨(frameL 135 [(2, (.slice (some ⟨0, pre, none⟩) 0 0)), (3, (.pointer (some ⟨1, 0, none⟩))), (4, (.pointer (some ⟨2, 0, none⟩))), (7, (.pointer (some ⟨3, 0, none⟩))), (12, (.int .i64 0))]), ⟨4, 1, [(3, 0, .cells [(.int .u64 bb), (.int .i64 lg), (.int .i64 m0), (.int .i64 m1), (.int .u64 0), (.int .i64 1), (.int .i64 0), (.int .u64 0), (.int .u64 0)] 82 true), (2, 0, .cells [(.int .i64 m0), (.int .i64 m1)] 55 true), (1, 0, .cells [(.int .u64 bb), (.int .i64 lg)] 54 true)]⟩⟩
theorem vR13 (pre : Nat) (bb : Int) (lg : Int) (m0 : Int) (m1 : Int) : evCK Try.prog cfgE (runK Try.prog cfgE fsE (conT grpDom grpE) 12 40) 12 (codeAt [1, 1, 1, 1, 0, 0] B) (vS4 pre bb lg m0 m1) (normC 1 [2, 3, 4, 7, 12]) =
  some (.normal, (vS14 pre bb lg m0 m1)) := by kernel_rfl
noncomputable def vS15  : KSt := ⟨(frameL 135 []), ⟨1, 1, []⟩⟩
theorem vR14 (pre : Nat) (bb : Int) (lg : Int) (m0 : Int) (m1 : Int) : evCK Try.prog cfgE (runK Try.prog cfgE fsE (conT grpDom grpE) 12 40) 12 (codeAt [1, 1, 1, 1, 0, 1] B) (vS14 pre bb lg m0 m1) (normC 1 []) =
  bif ((groupsV m0) == 0) then
    bif ((groupsV m0) == 0) then
      some (.normal, vS15)
    else
      bif (!(true && (true && (((IntKind.wrap .i64 ((IntKind.wrap .i64 (7 + (groupsV m0))) + (IntKind.wrap .i64 (8 * (groupsV m0))))) == 0) && true)))) then
        some (.ret, vS15)
      else
        some (.normal, vS15)
  else
    bif ((groupsV m0) == 0) then
      bif (!(true && (true && ((0 == (IntKind.wrap .i64 (7 + (IntKind.wrap .i64 (9 * (groupsV m0)))))) && true)))) then
        some (.ret, vS15)
      else
        some (.normal, vS15)
    else
      bif (!(true && (true && (((IntKind.wrap .i64 ((IntKind.wrap .i64 (7 + (groupsV m0))) + (IntKind.wrap .i64 (8 * (groupsV m0))))) == (IntKind.wrap .i64 (7 + (IntKind.wrap .i64 (9 * (groupsV m0)))))) && true)))) then
        some (.ret, vS15)
      else
        some (.normal, vS15) := by kernel_rfl
theorem vR15  : evCK Try.prog cfgE (runK Try.prog cfgE fsE (conT grpDom grpE) 12 40) 12 (codeAt [1, 1, 1, 1, 1, 0] B) vS15 (normC 1 [6]) =
  some (.normal, vS10) := by kernel_rfl
theorem vg1_4 (bb lg m0 m1 g gl : Int) (pre : Nat) (hb : 0 ≤ bb) (hm : -9223372036854775808 ≤ m1 ∧ m1 < 9223372036854775808) (hg : groupsV m0 = g) (hg1 : 0 ≤ g) (hg2 : g ≤ 512) (hgl : groupsV lg = gl) (hgl1 : 0 ≤ gl) (h1 : bb ≠ 0) (h2 : 0 < gl) (h3 : 0 < g) (h4 : m1 = 1)   {Q : Ex → St → Prop} (hq : Q .ret (KSt.low vS10)) : Gets Try.prog (KH.low ⟨1, 1, []⟩) B (KSt.low (vS0 bb lg m0 m1 pre)) Q := by
  rw [C]; refine Gets.seq ?_
  refine Gets.ofN fitE grp_sound (conT_agree _ _) 12 40 (by kernel_rfl) (x := .normal) (s' := (vS1 pre m0 m1 bb lg)) (vR1 bb lg m0 m1 pre) ?_
  show Gets _ _ (codeAt [1] B) _ _
  rw [C1]; refine Gets.seq ?_
  rw [C1_0]; refine Gets.seq ?_
  refine Gets.ofN fitE grp_sound (conT_agree _ _) 12 40 (by kernel_rfl) (x := .normal) (s' := (vS2 pre m0 m1 bb lg)) (vR2 pre m0 m1 bb lg) ?_
  show Gets _ _ (codeAt [1, 0, 1] B) _ _
  rw [C1_0_1]; refine Gets.cond false (by kernel_rfl) (show evalX (KSt.ts (vS2 pre m0 m1 bb lg)) (.tmp 21) = .bool false by kernel_rfl) ?_; show Gets _ _ (codeAt [1, 0, 1, 1] B) _ _
  refine Gets.ofN fitE grp_sound (conT_agree _ _) 12 40 (by kernel_rfl) (x := .normal) (s' := (vS1 pre m0 m1 bb lg)) (vR3 pre m0 m1 bb lg) ?_
  show Gets _ _ (codeAt [1, 1] B) _ _
  rw [C1_1]; refine Gets.seq ?_
  refine Gets.ofN fitE grp_sound (conT_agree _ _) 12 40 (by kernel_rfl) (x := .normal) (s' := (vS4 pre bb lg m0 m1)) ((vR4 pre m0 m1 bb lg).trans (by rw [condT (ibne_t (by omega)), condF (not_f (decide_eq_true (by ((try simp (disch := omega) only [hg, hgl, wrap_i64_id]) <;> omega)))), condF (ibeq_f (by ((try simp (disch := omega) only [hg, hgl, wrap_i64_id]) <;> omega))), condF (ibeq_f (by ((try simp (disch := omega) only [hg, hgl, wrap_i64_id]) <;> omega))), condF (ibne_f (by omega))])) ?_
  show Gets _ _ (codeAt [1, 1, 1] B) _ _
  rw [C1_1_1]; refine Gets.seq ?_
  rw [C1_1_1_0]; refine Gets.seq ?_
  refine Gets.ofN fitE grp_sound (conT_agree _ _) 12 40 (by kernel_rfl) (x := .normal) (s' := (vS11 pre bb lg m0 m1)) ((vR11 pre bb lg m0 m1).trans (by rw [condT (decide_eq_true (by omega)), condT (decide_eq_true (by ((try simp (disch := omega) only [hg, hgl, wrap_i64_id]) <;> omega))), condT (decide_eq_true (by ((try simp (disch := omega) only [hg, hgl, wrap_i64_id]) <;> omega))), condT (ibeq_t (by omega))])) ?_
  show Gets _ _ (codeAt [1, 1, 1, 0, 1] B) _ _
  rw [C1_1_1_0_1]; refine Gets.cond false (by kernel_rfl) (show evalX (KSt.ts (vS11 pre bb lg m0 m1)) (.tmp 35) = .bool false by kernel_rfl) ?_; show Gets _ _ (codeAt [1, 1, 1, 0, 1, 1] B) _ _
  refine Gets.ofN fitE grp_sound (conT_agree _ _) 12 40 (by kernel_rfl) (x := .normal) (s' := (vS4 pre bb lg m0 m1)) (vR12 pre bb lg m0 m1) ?_
  show Gets _ _ (codeAt [1, 1, 1, 1] B) _ _
  rw [C1_1_1_1]; refine Gets.seq ?_
  rw [C1_1_1_1_0]; refine Gets.seq ?_
  refine Gets.ofN fitE grp_sound (conT_agree _ _) 12 40 (by kernel_rfl) (x := .normal) (s' := (vS14 pre bb lg m0 m1)) (vR13 pre bb lg m0 m1) ?_
  show Gets _ _ (codeAt [1, 1, 1, 1, 0, 1] B) _ _
  refine Gets.ofN fitE grp_sound (conT_agree _ _) 12 40 (by kernel_rfl) (x := .normal) (s' := vS15) ((vR14 pre bb lg m0 m1).trans (by rw [condF (ibeq_f (by ((try simp (disch := omega) only [hg, hgl, wrap_i64_id]) <;> omega))), condF (ibeq_f (by ((try simp (disch := omega) only [hg, hgl, wrap_i64_id]) <;> omega))), condF (not_f (and_t (rfl) (and_t (rfl) (and_t (ibeq_t (by ((try simp (disch := omega) only [hg, hgl, wrap_i64_id]) <;> omega))) (rfl)))))])) ?_
  show Gets _ _ (codeAt [1, 1, 1, 1, 1] B) _ _
  rw [C1_1_1_1_1]; refine Gets.seq ?_
  refine Gets.ofN fitE grp_sound (conT_agree _ _) 12 40 (by kernel_rfl) (x := .normal) (s' := vS10) (vR15) ?_
  show Gets _ _ (codeAt [1, 1, 1, 1, 1, 1] B) _ _
  rw [C1_1_1_1_1_1]; refine Gets.ev fitE.mix fitE.cfg (fitE.sound grp_sound 12 0) 12 rfl (s' := KSt.low vS10) (x := .ret) rfl ?_
  exact hq
theorem vR16 (pre : Nat) (m1 : Int) (bb : Int) (lg : Int) (m0 : Int) : evCK Try.prog cfgE (runK Try.prog cfgE fsE (conT grpDom grpE) 12 40) 12 (codeAt [1, 1, 1, 0, 1, 1] B) (vS12 pre m1 bb lg m0) (normC 1 [2, 3, 4, 7]) =
  some (.normal, (vS4 pre bb lg m0 m1)) := by kernel_rfl
theorem vg2_5 (bb lg m0 m1 g gl : Int) (pre : Nat) (hb : 0 ≤ bb) (hm : -9223372036854775808 ≤ m1 ∧ m1 < 9223372036854775808) (hg : groupsV m0 = g) (hg1 : 0 ≤ g) (hg2 : g ≤ 512) (hgl : groupsV lg = gl) (hgl1 : 0 ≤ gl) (h1 : bb ≠ 0) (h2 : 0 < gl) (h3 : 0 < g) (h4 : m1 = 2)   {Q : Ex → St → Prop} (hq : Q .ret (KSt.low vS10)) : Gets Try.prog (KH.low ⟨1, 1, []⟩) B (KSt.low (vS0 bb lg m0 m1 pre)) Q := by
  rw [C]; refine Gets.seq ?_
  refine Gets.ofN fitE grp_sound (conT_agree _ _) 12 40 (by kernel_rfl) (x := .normal) (s' := (vS1 pre m0 m1 bb lg)) (vR1 bb lg m0 m1 pre) ?_
  show Gets _ _ (codeAt [1] B) _ _
  rw [C1]; refine Gets.seq ?_
  rw [C1_0]; refine Gets.seq ?_
  refine Gets.ofN fitE grp_sound (conT_agree _ _) 12 40 (by kernel_rfl) (x := .normal) (s' := (vS2 pre m0 m1 bb lg)) (vR2 pre m0 m1 bb lg) ?_
  show Gets _ _ (codeAt [1, 0, 1] B) _ _
  rw [C1_0_1]; refine Gets.cond false (by kernel_rfl) (show evalX (KSt.ts (vS2 pre m0 m1 bb lg)) (.tmp 21) = .bool false by kernel_rfl) ?_; show Gets _ _ (codeAt [1, 0, 1, 1] B) _ _
  refine Gets.ofN fitE grp_sound (conT_agree _ _) 12 40 (by kernel_rfl) (x := .normal) (s' := (vS1 pre m0 m1 bb lg)) (vR3 pre m0 m1 bb lg) ?_
  show Gets _ _ (codeAt [1, 1] B) _ _
  rw [C1_1]; refine Gets.seq ?_
  refine Gets.ofN fitE grp_sound (conT_agree _ _) 12 40 (by kernel_rfl) (x := .normal) (s' := (vS4 pre bb lg m0 m1)) ((vR4 pre m0 m1 bb lg).trans (by rw [condT (ibne_t (by omega)), condF (not_f (decide_eq_true (by ((try simp (disch := omega) only [hg, hgl, wrap_i64_id]) <;> omega)))), condF (ibeq_f (by ((try simp (disch := omega) only [hg, hgl, wrap_i64_id]) <;> omega))), condF (ibeq_f (by ((try simp (disch := omega) only [hg, hgl, wrap_i64_id]) <;> omega))), condT (ibne_t (by omega)), condF (ibne_f (by omega))])) ?_
  show Gets _ _ (codeAt [1, 1, 1] B) _ _
  rw [C1_1_1]; refine Gets.seq ?_
  rw [C1_1_1_0]; refine Gets.seq ?_
  refine Gets.ofN fitE grp_sound (conT_agree _ _) 12 40 (by kernel_rfl) (x := .normal) (s' := (vS12 pre m1 bb lg m0)) ((vR11 pre bb lg m0 m1).trans (by rw [condT (decide_eq_true (by omega)), condT (decide_eq_true (by ((try simp (disch := omega) only [hg, hgl, wrap_i64_id]) <;> omega))), condT (decide_eq_true (by ((try simp (disch := omega) only [hg, hgl, wrap_i64_id]) <;> omega))), condF (ibeq_f (by omega))])) ?_
  show Gets _ _ (codeAt [1, 1, 1, 0, 1] B) _ _
  rw [C1_1_1_0_1]; refine Gets.cond false (by kernel_rfl) ((show evalX (KSt.ts (vS12 pre m1 bb lg m0)) (.tmp 35) = .bool (!(m1 == 2)) by kernel_rfl).trans (by rw [(show (!(m1 == 2)) = false from not_f (ibeq_t (by omega)))])) ?_; show Gets _ _ (codeAt [1, 1, 1, 0, 1, 1] B) _ _
  refine Gets.ofN fitE grp_sound (conT_agree _ _) 12 40 (by kernel_rfl) (x := .normal) (s' := (vS4 pre bb lg m0 m1)) (vR16 pre m1 bb lg m0) ?_
  show Gets _ _ (codeAt [1, 1, 1, 1] B) _ _
  rw [C1_1_1_1]; refine Gets.seq ?_
  rw [C1_1_1_1_0]; refine Gets.seq ?_
  refine Gets.ofN fitE grp_sound (conT_agree _ _) 12 40 (by kernel_rfl) (x := .normal) (s' := (vS14 pre bb lg m0 m1)) (vR13 pre bb lg m0 m1) ?_
  show Gets _ _ (codeAt [1, 1, 1, 1, 0, 1] B) _ _
  refine Gets.ofN fitE grp_sound (conT_agree _ _) 12 40 (by kernel_rfl) (x := .normal) (s' := vS15) ((vR14 pre bb lg m0 m1).trans (by rw [condF (ibeq_f (by ((try simp (disch := omega) only [hg, hgl, wrap_i64_id]) <;> omega))), condF (ibeq_f (by ((try simp (disch := omega) only [hg, hgl, wrap_i64_id]) <;> omega))), condF (not_f (and_t (rfl) (and_t (rfl) (and_t (ibeq_t (by ((try simp (disch := omega) only [hg, hgl, wrap_i64_id]) <;> omega))) (rfl)))))])) ?_
  show Gets _ _ (codeAt [1, 1, 1, 1, 1] B) _ _
  rw [C1_1_1_1_1]; refine Gets.seq ?_
  refine Gets.ofN fitE grp_sound (conT_agree _ _) 12 40 (by kernel_rfl) (x := .normal) (s' := vS10) (vR15) ?_
  show Gets _ _ (codeAt [1, 1, 1, 1, 1, 1] B) _ _
  rw [C1_1_1_1_1_1]; refine Gets.ev fitE.mix fitE.cfg (fitE.sound grp_sound 12 0) 12 rfl (s' := KSt.low vS10) (x := .ret) rfl ?_
  exact hq
end Go.Proofs.Ytmphcolclkpnnab.extendActs
