/- Whatever the log and the cell: TableParts answers true. No condition. -/
import Derived.Test.YtmphcolclkpnnaaGroups
import Derived.WalkKit
import Derived.ProofKit
import Derived.OpenShut
import Derived.ChangeOld
import Derived.Below
import Derived.SizedLaws
namespace Go.Proofs.Ytmphcolclkpnnaa.tableParts
open Go.Eng
open Go.ChangeShapes Go.WideShapes Go.ChangeAt Go.RowKit
set_option linter.unusedVariables false
set_option linter.unusedSimpArgs false
set_option maxRecDepth 100000
noncomputable def cfgTp : Cfg := ⟨[64]⟩
noncomputable def fsTp : List FuncId := [11, 48, 50, 51, 53, 55, 57, 59, 61]
theorem fitTp : Fit Try.prog cfgTp fsTp := ⟨by kernel_rfl, Cfg.ok_of (by kernel_rfl), by kernel_rfl⟩
noncomputable def B : Code := bodyOf Try.prog 11
theorem B_is : Try.f11.body = some B := by kernel_rfl
theorem B_ok : okCode Try.prog.globals.size B = true := by kernel_rfl
noncomputable def S0 (lg : Int) (ce : Int) : KSt := (firstK [(.int .u8 lg), (.int .u16 ce)] 96 ⟨0, 0, []⟩)
theorem C : B = .seq (codeAt [0] B) (codeAt [1] B) := by kernel_rfl
noncomputable def S1 (lg : Int) (ce : Int) : KSt := ⟨(frameL 96 [(0, (.int .u8 lg)), (1, (.int .u16 ce))]), ⟨0, 1, []⟩⟩
theorem R1 (lg : Int) (ce : Int) : evCK Try.prog cfgTp (runK Try.prog cfgTp fsTp (conT grpDom grpE) 12 40) 12 (codeAt [0] B) (S0 lg ce) (normC 0 [0, 1]) =
  some (.normal, (S1 lg ce)) := by kernel_rfl
theorem C1 : (codeAt [1] B) = .seq (codeAt [1, 0] B) (codeAt [1, 1] B) := by kernel_rfl
noncomputable def S2 (ce : Int) (lg : Int) : KSt := ⟨(frameL 96 [(1, (.int .u16 ce)), (5, (.int .i64 (Int.tmod (IntKind.wrap .i64 lg) 10)))]), ⟨0, 1, []⟩⟩
theorem R2 (lg : Int) (ce : Int) : evCK Try.prog cfgTp (runK Try.prog cfgTp fsTp (conT grpDom grpE) 12 40) 12 (codeAt [1, 0] B) (S1 lg ce) (normC 0 [1, 5]) =
  some (.normal, (S2 ce lg)) := by kernel_rfl
noncomputable def S3 (ce : Int) (lg : Int) : KSt := ⟨(frameL 96 [(1, (.int .u16 ce)), (5, (.int .i64 (lg % 10)))]), ⟨0, 1, []⟩⟩
theorem C1_1 : (codeAt [1, 1] B) = .seq (codeAt [1, 1, 0] B) (codeAt [1, 1, 1] B) := by kernel_rfl
noncomputable def S4 (ce : Int) (lg : Int) : KSt := ⟨(frameL 96 [(1, (.int .u16 ce)), (5, (.int .i64 (lg % 10))), (6, (.int .i64 0))]), ⟨0, 1, []⟩⟩
noncomputable def S5 (ce : Int) (lg : Int) : KSt := ⟨(frameL 96 [(1, (.int .u16 ce)), (5, (.int .i64 (lg % 10))), (6, (.int .i64 (IntKind.wrap .i64 ((IntKind.wrap .i64 (7 + (groupsV ((lg % 10))))) + (IntKind.wrap .i64 (8 * (groupsV ((lg % 10)))))))))]), ⟨0, 1, []⟩⟩
theorem R3 (ce : Int) (lg : Int) : evCK Try.prog cfgTp (runK Try.prog cfgTp fsTp (conT grpDom grpE) 12 40) 12 (codeAt [1, 1, 0] B) (S3 ce lg) (normC 0 [1, 5, 6]) =
  bif ((groupsV ((lg % 10))) == 0) then
    some (.normal, (S4 ce lg))
  else
    some (.normal, (S5 ce lg)) := by kernel_rfl
noncomputable def S6 (ce : Int) (lg : Int) (g : Int) : KSt := ⟨(frameL 96 [(1, (.int .u16 ce)), (5, (.int .i64 (lg % 10))), (6, (.int .i64 ((7 + g) + (8 * g))))]), ⟨0, 1, []⟩⟩
theorem C1_1_1 : (codeAt [1, 1, 1] B) = .seq (codeAt [1, 1, 1, 0] B) (codeAt [1, 1, 1, 1] B) := by kernel_rfl
theorem C1_1_1_0 : (codeAt [1, 1, 1, 0] B) = .seq (codeAt [1, 1, 1, 0, 0] B) (codeAt [1, 1, 1, 0, 1] B) := by kernel_rfl
noncomputable def S7 (ce : Int) (lg : Int) (g : Int) : KSt := ⟨(frameL 96 [(1, (.int .u16 ce)), (5, (.int .i64 (lg % 10))), (6, (.int .i64 ((7 + g) + (8 * g)))), (16, (.bool (decide (((7 + g) + (8 * g)) < 16))))]), ⟨0, 1, []⟩⟩
theorem R4 (ce : Int) (lg : Int) (g : Int) : evCK Try.prog cfgTp (runK Try.prog cfgTp fsTp (conT grpDom grpE) 12 40) 12 (codeAt [1, 1, 1, 0, 0] B) (S6 ce lg g) (normC 0 [1, 5, 6, 16]) =
  some (.normal, (S7 ce lg g)) := by kernel_rfl
theorem C1_1_1_0_1 : (codeAt [1, 1, 1, 0, 1] B) = .cond (.tmp 16) (codeAt [1, 1, 1, 0, 1, 0] B) (codeAt [1, 1, 1, 0, 1, 1] B) := by kernel_rfl
theorem R5 (ce : Int) (lg : Int) (g : Int) : evCK Try.prog cfgTp (runK Try.prog cfgTp fsTp (conT grpDom grpE) 12 40) 12 (codeAt [1, 1, 1, 0, 1, 1] B) (S7 ce lg g) (normC 0 [1, 5, 6]) =
  some (.normal, (S6 ce lg g)) := by kernel_rfl
theorem C1_1_1_1 : (codeAt [1, 1, 1, 1] B) = .seq (codeAt [1, 1, 1, 1, 0] B) (codeAt [1, 1, 1, 1, 1] B) := by kernel_rfl
noncomputable def S8 (lg : Int) (g : Int) (ce : Int) : KSt := ⟨(frameL 96 [(5, (.int .i64 (lg % 10))), (6, (.int .i64 ((7 + g) + (8 * g)))), (7, (.int .i64 (Int.tmod (IntKind.wrap .i64 ce) ((7 + g) + (8 * g)))))]), ⟨0, 1, []⟩⟩
theorem R6 (ce : Int) (lg : Int) (g : Int) : evCK Try.prog cfgTp (runK Try.prog cfgTp fsTp (conT grpDom grpE) 12 40) 12 (codeAt [1, 1, 1, 1, 0] B) (S6 ce lg g) (normC 0 [5, 6, 7]) =
  bif (decide (((7 + g) + (8 * g)) = 0)) then
    none
  else
    some (.normal, (S8 lg g ce)) := by kernel_rfl
noncomputable def S9 (lg : Int) (g : Int) (a : Int) : KSt := ⟨(frameL 96 [(5, (.int .i64 (lg % 10))), (6, (.int .i64 ((7 + g) + (8 * g)))), (7, (.int .i64 a))]), ⟨0, 1, []⟩⟩
theorem C1_1_1_1_1 : (codeAt [1, 1, 1, 1, 1] B) = .seq (codeAt [1, 1, 1, 1, 1, 0] B) (codeAt [1, 1, 1, 1, 1, 1] B) := by kernel_rfl
noncomputable def S10 (lg : Int) (g : Int) (a : Int) : KSt := ⟨(frameL 96 [(5, (.int .i64 (lg % 10))), (6, (.int .i64 ((7 + g) + (8 * g)))), (7, (.int .i64 a)), (8, (.pointer (some ⟨0, 0, none⟩)))]), ⟨1, 1, [(0, 0, .cells [(.int .i64 0), (.int .i64 0), (.int .i64 0)] 64 true)]⟩⟩
noncomputable def S11 (lg : Int) (g : Int) (a : Int) : KSt := ⟨(frameL 96 [(5, (.int .i64 (lg % 10))), (6, (.int .i64 ((7 + g) + (8 * g)))), (7, (.int .i64 a)), (8, (.pointer (some ⟨0, 0, none⟩)))]), ⟨1, 1, [(0, 0, .cells [(.int .i64 1), (.int .i64 0), (.int .i64 0)] 64 true)]⟩⟩
noncomputable def S12 (lg : Int) (g : Int) (a : Int) : KSt := ⟨(frameL 96 [(5, (.int .i64 (lg % 10))), (6, (.int .i64 ((7 + g) + (8 * g)))), (7, (.int .i64 a)), (8, (.pointer (some ⟨0, 0, none⟩)))]), ⟨1, 1, [(0, 0, .cells [(.int .i64 2), (.int .i64 (IntKind.wrap .i64 (a - 7))), (.int .i64 0)] 64 true)]⟩⟩
noncomputable def S13 (lg : Int) (g : Int) (a : Int) : KSt := ⟨(frameL 96 [(5, (.int .i64 (lg % 10))), (6, (.int .i64 ((7 + g) + (8 * g)))), (7, (.int .i64 a)), (8, (.pointer (some ⟨0, 0, none⟩)))]), ⟨1, 1, [(0, 0, .cells [(.int .i64 3), (.int .i64 (IntKind.wrap .i64 (Int.tdiv (IntKind.wrap .i64 ((IntKind.wrap .i64 (a - 7)) - (groupsV ((lg % 10))))) 8))), (.int .i64 (Int.tmod (IntKind.wrap .i64 ((IntKind.wrap .i64 (a - 7)) - (groupsV ((lg % 10))))) 8))] 64 true)]⟩⟩
theorem R7 (lg : Int) (g : Int) (a : Int) : evCK Try.prog cfgTp (runK Try.prog cfgTp fsTp (conT grpDom grpE) 12 40) 12 (codeAt [1, 1, 1, 1, 1, 0] B) (S9 lg g a) (normC 0 [5, 6, 7, 8]) =
  bif (decide (a < 0)) then
    some (.normal, (S10 lg g a))
  else
    bif ((groupsV ((lg % 10))) == 0) then
      bif (decide (a ≥ 0)) then
        some (.normal, (S10 lg g a))
      else
        bif (decide (a < 7)) then
          some (.normal, (S11 lg g a))
        else
          bif (decide ((IntKind.wrap .i64 (a - 7)) < (groupsV ((lg % 10))))) then
            bif (false && (((IntKind.wrap .i64 (a - 7)) == 0) && true)) then
              some (.normal, (S10 lg g a))
            else
              some (.normal, (S12 lg g a))
          else
            bif (false && (((IntKind.wrap .i64 (Int.tdiv (IntKind.wrap .i64 ((IntKind.wrap .i64 (a - 7)) - (groupsV ((lg % 10))))) 8)) == 0) && (((Int.tmod (IntKind.wrap .i64 ((IntKind.wrap .i64 (a - 7)) - (groupsV ((lg % 10))))) 8) == 0) && true))) then
              some (.normal, (S10 lg g a))
            else
              some (.normal, (S13 lg g a))
    else
      bif (decide (a ≥ (IntKind.wrap .i64 ((IntKind.wrap .i64 (7 + (groupsV ((lg % 10))))) + (IntKind.wrap .i64 (8 * (groupsV ((lg % 10))))))))) then
        some (.normal, (S10 lg g a))
      else
        bif (decide (a < 7)) then
          some (.normal, (S11 lg g a))
        else
          bif (decide ((IntKind.wrap .i64 (a - 7)) < (groupsV ((lg % 10))))) then
            bif (false && (((IntKind.wrap .i64 (a - 7)) == 0) && true)) then
              some (.normal, (S10 lg g a))
            else
              some (.normal, (S12 lg g a))
          else
            bif (false && (((IntKind.wrap .i64 (Int.tdiv (IntKind.wrap .i64 ((IntKind.wrap .i64 (a - 7)) - (groupsV ((lg % 10))))) 8)) == 0) && (((Int.tmod (IntKind.wrap .i64 ((IntKind.wrap .i64 (a - 7)) - (groupsV ((lg % 10))))) 8) == 0) && true))) then
              some (.normal, (S10 lg g a))
            else
              some (.normal, (S13 lg g a)) := by kernel_rfl
theorem C1_1_1_1_1_1 : (codeAt [1, 1, 1, 1, 1, 1] B) = .seq (codeAt [1, 1, 1, 1, 1, 1, 0] B) (codeAt [1, 1, 1, 1, 1, 1, 1] B) := by kernel_rfl
theorem C1_1_1_1_1_1_0 : (codeAt [1, 1, 1, 1, 1, 1, 0] B) = .seq (codeAt [1, 1, 1, 1, 1, 1, 0, 0] B) (codeAt [1, 1, 1, 1, 1, 1, 0, 1] B) := by kernel_rfl
noncomputable def S14 (lg : Int) (g : Int) (a : Int) : KSt := ⟨(frameL 96 [(5, (.int .i64 (lg % 10))), (6, (.int .i64 ((7 + g) + (8 * g)))), (7, (.int .i64 a)), (8, (.pointer (some ⟨0, 0, none⟩))), (25, (.int .i64 1))]), ⟨1, 1, [(0, 0, .cells [(.int .i64 1), (.int .i64 0), (.int .i64 0)] 64 true)]⟩⟩
theorem R8 (lg : Int) (g : Int) (a : Int) : evCK Try.prog cfgTp (runK Try.prog cfgTp fsTp (conT grpDom grpE) 12 40) 12 (codeAt [1, 1, 1, 1, 1, 1, 0, 0] B) (S11 lg g a) (normC 0 [5, 6, 7, 8, 25]) =
  some (.normal, (S14 lg g a)) := by kernel_rfl
theorem C1_1_1_1_1_1_0_1 : (codeAt [1, 1, 1, 1, 1, 1, 0, 1] B) = .block 0 (codeAt [1, 1, 1, 1, 1, 1, 0, 1, 0] B) := by kernel_rfl
theorem C1_1_1_1_1_1_0_1_0 : (codeAt [1, 1, 1, 1, 1, 1, 0, 1, 0] B) = .seq (codeAt [1, 1, 1, 1, 1, 1, 0, 1, 0, 0] B) (codeAt [1, 1, 1, 1, 1, 1, 0, 1, 0, 1] B) := by kernel_rfl
noncomputable def S15 (lg : Int) (g : Int) (a : Int) : KSt := ⟨(frameL 96 [(5, (.int .i64 (lg % 10))), (6, (.int .i64 ((7 + g) + (8 * g)))), (7, (.int .i64 a)), (8, (.pointer (some ⟨0, 0, none⟩))), (25, (.int .i64 1)), (26, (.bool true))]), ⟨1, 1, [(0, 0, .cells [(.int .i64 1), (.int .i64 0), (.int .i64 0)] 64 true)]⟩⟩
theorem R9 (lg : Int) (g : Int) (a : Int) : evCK Try.prog cfgTp (runK Try.prog cfgTp fsTp (conT grpDom grpE) 12 40) 12 (codeAt [1, 1, 1, 1, 1, 1, 0, 1, 0, 0] B) (S14 lg g a) (normC 0 [5, 6, 7, 8, 25, 26]) =
  some (.normal, (S15 lg g a)) := by kernel_rfl
theorem C1_1_1_1_1_1_0_1_0_1 : (codeAt [1, 1, 1, 1, 1, 1, 0, 1, 0, 1] B) = .cond (.tmp 26) (codeAt [1, 1, 1, 1, 1, 1, 0, 1, 0, 1, 0] B) (codeAt [1, 1, 1, 1, 1, 1, 0, 1, 0, 1, 1] B) := by kernel_rfl
theorem C1_1_1_1_1_1_0_1_0_1_0 : (codeAt [1, 1, 1, 1, 1, 1, 0, 1, 0, 1, 0] B) = .seq (codeAt [1, 1, 1, 1, 1, 1, 0, 1, 0, 1, 0, 0] B) (codeAt [1, 1, 1, 1, 1, 1, 0, 1, 0, 1, 0, 1] B) := by kernel_rfl
noncomputable def S16 (lg : Int) (g : Int) (a : Int) : KSt := ⟨(frameL 96 [(5, (.int .i64 (lg % 10))), (6, (.int .i64 ((7 + g) + (8 * g)))), (7, (.int .i64 a)), (39, (.bool true))]), ⟨0, 1, []⟩⟩
noncomputable def S17 (lg : Int) (g : Int) (a : Int) : KSt := ⟨(frameL 96 [(5, (.int .i64 (lg % 10))), (6, (.int .i64 ((7 + g) + (8 * g)))), (7, (.int .i64 a)), (39, (.bool false))]), ⟨0, 1, []⟩⟩
theorem R10 (lg : Int) (g : Int) (a : Int) : evCK Try.prog cfgTp (runK Try.prog cfgTp fsTp (conT grpDom grpE) 12 40) 12 (codeAt [1, 1, 1, 1, 1, 1, 0, 1, 0, 1, 0, 0] B) (S15 lg g a) (normC 0 [5, 6, 7, 39]) =
  bif (decide (a ≥ 7)) then
    some (.normal, (S16 lg g a))
  else
    some (.normal, (S17 lg g a)) := by kernel_rfl
theorem C1_1_1_1_1_1_0_1_0_1_0_1 : (codeAt [1, 1, 1, 1, 1, 1, 0, 1, 0, 1, 0, 1] B) = .cond (.tmp 39) (codeAt [1, 1, 1, 1, 1, 1, 0, 1, 0, 1, 0, 1, 0] B) (codeAt [1, 1, 1, 1, 1, 1, 0, 1, 0, 1, 0, 1, 1] B) := by kernel_rfl
theorem R11 (lg : Int) (g : Int) (a : Int) : evCK Try.prog cfgTp (runK Try.prog cfgTp fsTp (conT grpDom grpE) 12 40) 12 (codeAt [1, 1, 1, 1, 1, 1, 0, 1, 0, 1, 0, 1, 1] B) (S17 lg g a) (normC 0 [5, 6, 7]) =
  some (.normal, (S9 lg g a)) := by kernel_rfl
theorem C1_1_1_1_1_1_1 : (codeAt [1, 1, 1, 1, 1, 1, 1] B) = .seq (codeAt [1, 1, 1, 1, 1, 1, 1, 0] B) (codeAt [1, 1, 1, 1, 1, 1, 1, 1] B) := by kernel_rfl
noncomputable def S18 (lg : Int) (g : Int) (a : Int) : KSt := ⟨(frameL 96 [(5, (.int .i64 (lg % 10))), (6, (.int .i64 ((7 + g) + (8 * g)))), (9, (.int .i64 (IntKind.wrap .i64 (3 + (bits .and .i64 a 3)))))]), ⟨0, 1, []⟩⟩
theorem R12 (lg : Int) (g : Int) (a : Int) : evCK Try.prog cfgTp (runK Try.prog cfgTp fsTp (conT grpDom grpE) 12 40) 12 (codeAt [1, 1, 1, 1, 1, 1, 1, 0] B) (S9 lg g a) (normC 0 [5, 6, 9]) =
  some (.normal, (S18 lg g a)) := by kernel_rfl
noncomputable def S19 (lg : Int) (g : Int) (a : Int) : KSt := ⟨(frameL 96 [(5, (.int .i64 (lg % 10))), (6, (.int .i64 ((7 + g) + (8 * g)))), (9, (.int .i64 (3 + (a % 4))))]), ⟨0, 1, []⟩⟩
theorem C1_1_1_1_1_1_1_1 : (codeAt [1, 1, 1, 1, 1, 1, 1, 1] B) = .seq (codeAt [1, 1, 1, 1, 1, 1, 1, 1, 0] B) (codeAt [1, 1, 1, 1, 1, 1, 1, 1, 1] B) := by kernel_rfl
noncomputable def S20  : KSt := ⟨(frameL 96 [(4, (.bool true))]), ⟨0, 1, []⟩⟩
noncomputable def S21  : KSt := ⟨(frameL 96 [(4, (.bool false))]), ⟨0, 1, []⟩⟩
theorem R13 (lg : Int) (g : Int) (a : Int) : evCK Try.prog cfgTp (runK Try.prog cfgTp fsTp (conT grpDom grpE) 12 40) 12 (codeAt [1, 1, 1, 1, 1, 1, 1, 1, 0] B) (S19 lg g a) (normC 0 [4]) =
  bif (decide (((7 + g) + (8 * g)) < 0)) then
    bif (decide ((3 + (a % 4)) > 2)) then
      bif (decide ((3 + (a % 4)) < 7)) then
        bif (decide ((IntKind.wrap .i64 ((IntKind.wrap .i64 ((IntKind.wrap .i64 (7 * (groupsV ((lg % 10))))) * 9)) + 56)) < (IntKind.wrap .i64 (((7 + g) + (8 * g)) * 8)))) then
          some (.normal, S20)
        else
          some (.normal, S21)
      else
        some (.normal, S21)
    else
      some (.normal, S21)
  else
    bif ((groupsV ((lg % 10))) == 0) then
      bif (decide (((7 + g) + (8 * g)) ≥ 0)) then
        bif (decide ((3 + (a % 4)) > 2)) then
          bif (decide ((3 + (a % 4)) < 7)) then
            bif (decide ((IntKind.wrap .i64 ((IntKind.wrap .i64 ((IntKind.wrap .i64 (7 * (groupsV ((lg % 10))))) * 9)) + 56)) < (IntKind.wrap .i64 (((7 + g) + (8 * g)) * 8)))) then
              some (.normal, S20)
            else
              some (.normal, S21)
          else
            some (.normal, S21)
        else
          some (.normal, S21)
      else
        bif (decide (((7 + g) + (8 * g)) < 7)) then
          some (.normal, S21)
        else
          bif (decide ((IntKind.wrap .i64 (((7 + g) + (8 * g)) - 7)) < (groupsV ((lg % 10))))) then
            bif (false && (((IntKind.wrap .i64 (((7 + g) + (8 * g)) - 7)) == 0) && true)) then
              bif (decide ((3 + (a % 4)) > 2)) then
                bif (decide ((3 + (a % 4)) < 7)) then
                  bif (decide ((IntKind.wrap .i64 ((IntKind.wrap .i64 ((IntKind.wrap .i64 (7 * (groupsV ((lg % 10))))) * 9)) + 56)) < (IntKind.wrap .i64 (((7 + g) + (8 * g)) * 8)))) then
                    some (.normal, S20)
                  else
                    some (.normal, S21)
                else
                  some (.normal, S21)
              else
                some (.normal, S21)
            else
              bif (false && (((IntKind.wrap .i64 (((7 + g) + (8 * g)) - 7)) == 0) && true)) then
                bif (decide ((3 + (a % 4)) > 2)) then
                  bif (decide ((3 + (a % 4)) < 7)) then
                    bif (decide ((IntKind.wrap .i64 ((IntKind.wrap .i64 ((IntKind.wrap .i64 (7 * (groupsV ((lg % 10))))) * 9)) + 56)) < (IntKind.wrap .i64 (((7 + g) + (8 * g)) * 8)))) then
                      some (.normal, S20)
                    else
                      some (.normal, S21)
                  else
                    some (.normal, S21)
                else
                  some (.normal, S21)
              else
                some (.normal, S21)
          else
            bif (false && (((IntKind.wrap .i64 (Int.tdiv (IntKind.wrap .i64 ((IntKind.wrap .i64 (((7 + g) + (8 * g)) - 7)) - (groupsV ((lg % 10))))) 8)) == 0) && (((Int.tmod (IntKind.wrap .i64 ((IntKind.wrap .i64 (((7 + g) + (8 * g)) - 7)) - (groupsV ((lg % 10))))) 8) == 0) && true))) then
              bif (decide ((3 + (a % 4)) > 2)) then
                bif (decide ((3 + (a % 4)) < 7)) then
                  bif (decide ((IntKind.wrap .i64 ((IntKind.wrap .i64 ((IntKind.wrap .i64 (7 * (groupsV ((lg % 10))))) * 9)) + 56)) < (IntKind.wrap .i64 (((7 + g) + (8 * g)) * 8)))) then
                    some (.normal, S20)
                  else
                    some (.normal, S21)
                else
                  some (.normal, S21)
              else
                some (.normal, S21)
            else
              bif (false && (((IntKind.wrap .i64 (Int.tdiv (IntKind.wrap .i64 ((IntKind.wrap .i64 (((7 + g) + (8 * g)) - 7)) - (groupsV ((lg % 10))))) 8)) == 0) && (((Int.tmod (IntKind.wrap .i64 ((IntKind.wrap .i64 (((7 + g) + (8 * g)) - 7)) - (groupsV ((lg % 10))))) 8) == 0) && true))) then
                bif (decide ((3 + (a % 4)) > 2)) then
                  bif (decide ((3 + (a % 4)) < 7)) then
                    bif (decide ((IntKind.wrap .i64 ((IntKind.wrap .i64 ((IntKind.wrap .i64 (7 * (groupsV ((lg % 10))))) * 9)) + 56)) < (IntKind.wrap .i64 (((7 + g) + (8 * g)) * 8)))) then
                      some (.normal, S20)
                    else
                      some (.normal, S21)
                  else
                    some (.normal, S21)
                else
                  some (.normal, S21)
              else
                some (.normal, S21)
    else
      bif (decide (((7 + g) + (8 * g)) ≥ (IntKind.wrap .i64 ((IntKind.wrap .i64 (7 + (groupsV ((lg % 10))))) + (IntKind.wrap .i64 (8 * (groupsV ((lg % 10))))))))) then
        bif (decide ((3 + (a % 4)) > 2)) then
          bif (decide ((3 + (a % 4)) < 7)) then
            bif (decide ((IntKind.wrap .i64 ((IntKind.wrap .i64 ((IntKind.wrap .i64 (7 * (groupsV ((lg % 10))))) * 9)) + 56)) < (IntKind.wrap .i64 (((7 + g) + (8 * g)) * 8)))) then
              some (.normal, S20)
            else
              some (.normal, S21)
          else
            some (.normal, S21)
        else
          some (.normal, S21)
      else
        bif (decide (((7 + g) + (8 * g)) < 7)) then
          some (.normal, S21)
        else
          bif (decide ((IntKind.wrap .i64 (((7 + g) + (8 * g)) - 7)) < (groupsV ((lg % 10))))) then
            bif (false && (((IntKind.wrap .i64 (((7 + g) + (8 * g)) - 7)) == 0) && true)) then
              bif (decide ((3 + (a % 4)) > 2)) then
                bif (decide ((3 + (a % 4)) < 7)) then
                  bif (decide ((IntKind.wrap .i64 ((IntKind.wrap .i64 ((IntKind.wrap .i64 (7 * (groupsV ((lg % 10))))) * 9)) + 56)) < (IntKind.wrap .i64 (((7 + g) + (8 * g)) * 8)))) then
                    some (.normal, S20)
                  else
                    some (.normal, S21)
                else
                  some (.normal, S21)
              else
                some (.normal, S21)
            else
              bif (false && (((IntKind.wrap .i64 (((7 + g) + (8 * g)) - 7)) == 0) && true)) then
                bif (decide ((3 + (a % 4)) > 2)) then
                  bif (decide ((3 + (a % 4)) < 7)) then
                    bif (decide ((IntKind.wrap .i64 ((IntKind.wrap .i64 ((IntKind.wrap .i64 (7 * (groupsV ((lg % 10))))) * 9)) + 56)) < (IntKind.wrap .i64 (((7 + g) + (8 * g)) * 8)))) then
                      some (.normal, S20)
                    else
                      some (.normal, S21)
                  else
                    some (.normal, S21)
                else
                  some (.normal, S21)
              else
                some (.normal, S21)
          else
            bif (false && (((IntKind.wrap .i64 (Int.tdiv (IntKind.wrap .i64 ((IntKind.wrap .i64 (((7 + g) + (8 * g)) - 7)) - (groupsV ((lg % 10))))) 8)) == 0) && (((Int.tmod (IntKind.wrap .i64 ((IntKind.wrap .i64 (((7 + g) + (8 * g)) - 7)) - (groupsV ((lg % 10))))) 8) == 0) && true))) then
              bif (decide ((3 + (a % 4)) > 2)) then
                bif (decide ((3 + (a % 4)) < 7)) then
                  bif (decide ((IntKind.wrap .i64 ((IntKind.wrap .i64 ((IntKind.wrap .i64 (7 * (groupsV ((lg % 10))))) * 9)) + 56)) < (IntKind.wrap .i64 (((7 + g) + (8 * g)) * 8)))) then
                    some (.normal, S20)
                  else
                    some (.normal, S21)
                else
                  some (.normal, S21)
              else
                some (.normal, S21)
            else
              bif (false && (((IntKind.wrap .i64 (Int.tdiv (IntKind.wrap .i64 ((IntKind.wrap .i64 (((7 + g) + (8 * g)) - 7)) - (groupsV ((lg % 10))))) 8)) == 0) && (((Int.tmod (IntKind.wrap .i64 ((IntKind.wrap .i64 (((7 + g) + (8 * g)) - 7)) - (groupsV ((lg % 10))))) 8) == 0) && true))) then
                bif (decide ((3 + (a % 4)) > 2)) then
                  bif (decide ((3 + (a % 4)) < 7)) then
                    bif (decide ((IntKind.wrap .i64 ((IntKind.wrap .i64 ((IntKind.wrap .i64 (7 * (groupsV ((lg % 10))))) * 9)) + 56)) < (IntKind.wrap .i64 (((7 + g) + (8 * g)) * 8)))) then
                      some (.normal, S20)
                    else
                      some (.normal, S21)
                  else
                    some (.normal, S21)
                else
                  some (.normal, S21)
              else
                some (.normal, S21) := by kernel_rfl
theorem C1_1_1_1_1_1_1_1_1 : (codeAt [1, 1, 1, 1, 1, 1, 1, 1, 1] B) = .ret := by kernel_rfl
theorem hd (lg ce a g : Int) (hl : 0 ≤ lg ∧ lg < 256) (hce : 0 ≤ ce ∧ ce < 65536) (hg : groupsV (lg % 10) = g) (h1 : 1 ≤ g) (h2 : g ≤ 512) (ha : Int.tmod ce ((7 + g) + (8 * g)) = a) (ha0 : 0 ≤ a) (ha1 : a < 7 + 9 * g) (hp : a < 7)  {Q : Ex → St → Prop} (hq : Q .ret (KSt.low S20)) : Gets Try.prog (KH.low ⟨0, 0, []⟩) B (KSt.low (S0 lg ce)) Q := by
  rw [C]; refine Gets.seq ?_
  refine Gets.ofN fitTp grp_sound (conT_agree _ _) 12 40 (by kernel_rfl) (x := .normal) (s' := (S1 lg ce)) (R1 lg ce) ?_
  show Gets _ _ (codeAt [1] B) _ _
  rw [C1]; refine Gets.seq ?_
  refine Gets.ofN fitTp grp_sound (conT_agree _ _) 12 40 (by kernel_rfl) (x := .normal) (s' := (S3 ce lg)) ((R2 lg ce).trans (by (show some (Ex.normal, (S2 ce lg)) = some (Ex.normal, (S3 ce lg)); unfold S2 S3; rw [(show (IntKind.wrap .i64 lg) = lg from wrap_i64_id (by omega) (by omega)), (show (Int.tmod lg 10) = (lg % 10) from Int.tmod_eq_emod_of_nonneg (by omega))]))) ?_
  show Gets _ _ (codeAt [1, 1] B) _ _
  rw [C1_1]; refine Gets.seq ?_
  refine Gets.ofN fitTp grp_sound (conT_agree _ _) 12 40 (by kernel_rfl) (x := .normal) (s' := (S6 ce lg g)) ((R3 ce lg).trans (by rw [condF (ibeq_f (by (first | exact Bool.false_and _ | ((try simp (disch := omega) only [hg, ha, wrap_i64_id, and3_i64]) <;> omega))))] <;> (show some (Ex.normal, (S5 ce lg)) = some (Ex.normal, (S6 ce lg g)); unfold S5 S6; rw [(show (groupsV ((lg % 10))) = g from hg), (show (IntKind.wrap .i64 (7 + g)) = (7 + g) from wrap_i64_id (by omega) (by omega)), (show (IntKind.wrap .i64 (8 * g)) = (8 * g) from wrap_i64_id (by omega) (by omega)), (show (IntKind.wrap .i64 ((7 + g) + (8 * g))) = ((7 + g) + (8 * g)) from wrap_i64_id (by omega) (by omega))]))) ?_
  show Gets _ _ (codeAt [1, 1, 1] B) _ _
  rw [C1_1_1]; refine Gets.seq ?_
  rw [C1_1_1_0]; refine Gets.seq ?_
  refine Gets.ofN fitTp grp_sound (conT_agree _ _) 12 40 (by kernel_rfl) (x := .normal) (s' := (S7 ce lg g)) (R4 ce lg g) ?_
  show Gets _ _ (codeAt [1, 1, 1, 0, 1] B) _ _
  rw [C1_1_1_0_1]; refine Gets.cond false (by kernel_rfl) ((show evalX (KSt.ts (S7 ce lg g)) (.tmp 16) = .bool (decide (((7 + g) + (8 * g)) < 16)) by kernel_rfl).trans (by rw [(show (decide (((7 + g) + (8 * g)) < 16)) = false from decide_eq_false (by (first | exact Bool.false_and _ | ((try simp (disch := omega) only [hg, ha, wrap_i64_id, and3_i64]) <;> omega))))])) ?_; show Gets _ _ (codeAt [1, 1, 1, 0, 1, 1] B) _ _
  refine Gets.ofN fitTp grp_sound (conT_agree _ _) 12 40 (by kernel_rfl) (x := .normal) (s' := (S6 ce lg g)) (R5 ce lg g) ?_
  show Gets _ _ (codeAt [1, 1, 1, 1] B) _ _
  rw [C1_1_1_1]; refine Gets.seq ?_
  refine Gets.ofN fitTp grp_sound (conT_agree _ _) 12 40 (by kernel_rfl) (x := .normal) (s' := (S9 lg g a)) ((R6 ce lg g).trans (by rw [condF (decide_eq_false (by (first | exact Bool.false_and _ | ((try simp (disch := omega) only [hg, ha, wrap_i64_id, and3_i64]) <;> omega))))] <;> (show some (Ex.normal, (S8 lg g ce)) = some (Ex.normal, (S9 lg g a)); unfold S8 S9; rw [(show (IntKind.wrap .i64 ce) = ce from wrap_i64_id (by omega) (by omega)), (show (Int.tmod ce ((7 + g) + (8 * g))) = a from ha)]))) ?_
  show Gets _ _ (codeAt [1, 1, 1, 1, 1] B) _ _
  rw [C1_1_1_1_1]; refine Gets.seq ?_
  refine Gets.ofN fitTp grp_sound (conT_agree _ _) 12 40 (by kernel_rfl) (x := .normal) (s' := (S11 lg g a)) ((R7 lg g a).trans (by rw [condF (decide_eq_false (by (first | exact Bool.false_and _ | ((try simp (disch := omega) only [hg, ha, wrap_i64_id, and3_i64]) <;> omega)))), condF (ibeq_f (by (first | exact Bool.false_and _ | ((try simp (disch := omega) only [hg, ha, wrap_i64_id, and3_i64]) <;> omega)))), condF (decide_eq_false (by (first | exact Bool.false_and _ | ((try simp (disch := omega) only [hg, ha, wrap_i64_id, and3_i64]) <;> omega)))), condT (decide_eq_true (by (first | exact Bool.false_and _ | ((try simp (disch := omega) only [hg, ha, wrap_i64_id, and3_i64]) <;> omega))))])) ?_
  show Gets _ _ (codeAt [1, 1, 1, 1, 1, 1] B) _ _
  rw [C1_1_1_1_1_1]; refine Gets.seq ?_
  rw [C1_1_1_1_1_1_0]; refine Gets.seq ?_
  refine Gets.ofN fitTp grp_sound (conT_agree _ _) 12 40 (by kernel_rfl) (x := .normal) (s' := (S14 lg g a)) (R8 lg g a) ?_
  show Gets _ _ (codeAt [1, 1, 1, 1, 1, 1, 0, 1] B) _ _
  rw [C1_1_1_1_1_1_0_1]; refine Gets.block ?_
  rw [C1_1_1_1_1_1_0_1_0]; refine Gets.seq ?_
  refine Gets.ofN fitTp grp_sound (conT_agree _ _) 12 40 (by kernel_rfl) (x := .normal) (s' := (S15 lg g a)) (R9 lg g a) ?_
  show Gets _ _ (codeAt [1, 1, 1, 1, 1, 1, 0, 1, 0, 1] B) _ _
  rw [C1_1_1_1_1_1_0_1_0_1]; refine Gets.cond true (by kernel_rfl) (show evalX (KSt.ts (S15 lg g a)) (.tmp 26) = .bool true by kernel_rfl) ?_; show Gets _ _ (codeAt [1, 1, 1, 1, 1, 1, 0, 1, 0, 1, 0] B) _ _
  rw [C1_1_1_1_1_1_0_1_0_1_0]; refine Gets.seq ?_
  refine Gets.ofN fitTp grp_sound (conT_agree _ _) 12 40 (by kernel_rfl) (x := .normal) (s' := (S17 lg g a)) ((R10 lg g a).trans (by rw [condF (decide_eq_false (by (first | exact Bool.false_and _ | ((try simp (disch := omega) only [hg, ha, wrap_i64_id, and3_i64]) <;> omega))))])) ?_
  show Gets _ _ (codeAt [1, 1, 1, 1, 1, 1, 0, 1, 0, 1, 0, 1] B) _ _
  rw [C1_1_1_1_1_1_0_1_0_1_0_1]; refine Gets.cond false (by kernel_rfl) (show evalX (KSt.ts (S17 lg g a)) (.tmp 39) = .bool false by kernel_rfl) ?_; show Gets _ _ (codeAt [1, 1, 1, 1, 1, 1, 0, 1, 0, 1, 0, 1, 1] B) _ _
  refine Gets.ofN fitTp grp_sound (conT_agree _ _) 12 40 (by kernel_rfl) (x := .normal) (s' := (S9 lg g a)) (R11 lg g a) ?_
  show Gets _ _ (codeAt [1, 1, 1, 1, 1, 1, 1] B) _ _
  rw [C1_1_1_1_1_1_1]; refine Gets.seq ?_
  refine Gets.ofN fitTp grp_sound (conT_agree _ _) 12 40 (by kernel_rfl) (x := .normal) (s' := (S19 lg g a)) ((R12 lg g a).trans (by (show some (Ex.normal, (S18 lg g a)) = some (Ex.normal, (S19 lg g a)); unfold S18 S19; rw [(show (bits .and .i64 a 3) = (a % 4) from and_mask_i64 a 2 (by omega)), (show (IntKind.wrap .i64 (3 + (a % 4))) = (3 + (a % 4)) from wrap_i64_id (by omega) (by omega))]))) ?_
  show Gets _ _ (codeAt [1, 1, 1, 1, 1, 1, 1, 1] B) _ _
  rw [C1_1_1_1_1_1_1_1]; refine Gets.seq ?_
  refine Gets.ofN fitTp grp_sound (conT_agree _ _) 12 40 (by kernel_rfl) (x := .normal) (s' := S20) ((R13 lg g a).trans (by rw [condF (decide_eq_false (by (first | exact Bool.false_and _ | ((try simp (disch := omega) only [hg, ha, wrap_i64_id, and3_i64]) <;> omega)))), condF (ibeq_f (by (first | exact Bool.false_and _ | ((try simp (disch := omega) only [hg, ha, wrap_i64_id, and3_i64]) <;> omega)))), condT (decide_eq_true (by (first | exact Bool.false_and _ | ((try simp (disch := omega) only [hg, ha, wrap_i64_id, and3_i64]) <;> omega)))), condT (decide_eq_true (by (first | exact Bool.false_and _ | ((try simp (disch := omega) only [hg, ha, wrap_i64_id, and3_i64]) <;> omega)))), condT (decide_eq_true (by (first | exact Bool.false_and _ | ((try simp (disch := omega) only [hg, ha, wrap_i64_id, and3_i64]) <;> omega)))), condT (decide_eq_true (by (first | exact Bool.false_and _ | ((try simp (disch := omega) only [hg, ha, wrap_i64_id, and3_i64]) <;> omega))))])) ?_
  show Gets _ _ (codeAt [1, 1, 1, 1, 1, 1, 1, 1, 1] B) _ _
  rw [C1_1_1_1_1_1_1_1_1]; refine Gets.ev fitTp.mix fitTp.cfg (fitTp.sound grp_sound 12 0) 12 rfl (s' := KSt.low S20) (x := .ret) rfl ?_
  exact hq
noncomputable def S22 (lg : Int) (g : Int) (a : Int) : KSt := ⟨(frameL 96 [(5, (.int .i64 (lg % 10))), (6, (.int .i64 ((7 + g) + (8 * g)))), (7, (.int .i64 a)), (8, (.pointer (some ⟨0, 0, none⟩)))]), ⟨1, 1, [(0, 0, .cells [(.int .i64 2), (.int .i64 (a - 7)), (.int .i64 0)] 64 true)]⟩⟩
noncomputable def S23 (lg : Int) (g : Int) (a : Int) : KSt := ⟨(frameL 96 [(5, (.int .i64 (lg % 10))), (6, (.int .i64 ((7 + g) + (8 * g)))), (7, (.int .i64 a)), (8, (.pointer (some ⟨0, 0, none⟩))), (25, (.int .i64 2))]), ⟨1, 1, [(0, 0, .cells [(.int .i64 2), (.int .i64 (a - 7)), (.int .i64 0)] 64 true)]⟩⟩
theorem R14 (lg : Int) (g : Int) (a : Int) : evCK Try.prog cfgTp (runK Try.prog cfgTp fsTp (conT grpDom grpE) 12 40) 12 (codeAt [1, 1, 1, 1, 1, 1, 0, 0] B) (S22 lg g a) (normC 0 [5, 6, 7, 8, 25]) =
  some (.normal, (S23 lg g a)) := by kernel_rfl
noncomputable def S24 (lg : Int) (g : Int) (a : Int) : KSt := ⟨(frameL 96 [(5, (.int .i64 (lg % 10))), (6, (.int .i64 ((7 + g) + (8 * g)))), (7, (.int .i64 a)), (8, (.pointer (some ⟨0, 0, none⟩))), (25, (.int .i64 2)), (26, (.bool false))]), ⟨1, 1, [(0, 0, .cells [(.int .i64 2), (.int .i64 (a - 7)), (.int .i64 0)] 64 true)]⟩⟩
theorem R15 (lg : Int) (g : Int) (a : Int) : evCK Try.prog cfgTp (runK Try.prog cfgTp fsTp (conT grpDom grpE) 12 40) 12 (codeAt [1, 1, 1, 1, 1, 1, 0, 1, 0, 0] B) (S23 lg g a) (normC 0 [5, 6, 7, 8, 25, 26]) =
  some (.normal, (S24 lg g a)) := by kernel_rfl
theorem C1_1_1_1_1_1_0_1_0_1_1 : (codeAt [1, 1, 1, 1, 1, 1, 0, 1, 0, 1, 1] B) = .seq (codeAt [1, 1, 1, 1, 1, 1, 0, 1, 0, 1, 1, 0] B) (codeAt [1, 1, 1, 1, 1, 1, 0, 1, 0, 1, 1, 1] B) := by kernel_rfl
noncomputable def S25 (lg : Int) (g : Int) (a : Int) : KSt := ⟨(frameL 96 [(5, (.int .i64 (lg % 10))), (6, (.int .i64 ((7 + g) + (8 * g)))), (7, (.int .i64 a)), (8, (.pointer (some ⟨0, 0, none⟩))), (25, (.int .i64 2)), (40, (.bool true))]), ⟨1, 1, [(0, 0, .cells [(.int .i64 2), (.int .i64 (a - 7)), (.int .i64 0)] 64 true)]⟩⟩
theorem R16 (lg : Int) (g : Int) (a : Int) : evCK Try.prog cfgTp (runK Try.prog cfgTp fsTp (conT grpDom grpE) 12 40) 12 (codeAt [1, 1, 1, 1, 1, 1, 0, 1, 0, 1, 1, 0] B) (S24 lg g a) (normC 0 [5, 6, 7, 8, 25, 40]) =
  some (.normal, (S25 lg g a)) := by kernel_rfl
theorem C1_1_1_1_1_1_0_1_0_1_1_1 : (codeAt [1, 1, 1, 1, 1, 1, 0, 1, 0, 1, 1, 1] B) = .cond (.tmp 40) (codeAt [1, 1, 1, 1, 1, 1, 0, 1, 0, 1, 1, 1, 0] B) (codeAt [1, 1, 1, 1, 1, 1, 0, 1, 0, 1, 1, 1, 1] B) := by kernel_rfl
theorem C1_1_1_1_1_1_0_1_0_1_1_1_0 : (codeAt [1, 1, 1, 1, 1, 1, 0, 1, 0, 1, 1, 1, 0] B) = .seq (codeAt [1, 1, 1, 1, 1, 1, 0, 1, 0, 1, 1, 1, 0, 0] B) (codeAt [1, 1, 1, 1, 1, 1, 0, 1, 0, 1, 1, 1, 0, 1] B) := by kernel_rfl
noncomputable def S26 (lg : Int) (g : Int) (a : Int) : KSt := ⟨(frameL 96 [(5, (.int .i64 (lg % 10))), (6, (.int .i64 ((7 + g) + (8 * g)))), (7, (.int .i64 a)), (52, (.bool true))]), ⟨0, 1, []⟩⟩
noncomputable def S27 (lg : Int) (g : Int) (a : Int) : KSt := ⟨(frameL 96 [(5, (.int .i64 (lg % 10))), (6, (.int .i64 ((7 + g) + (8 * g)))), (7, (.int .i64 a)), (52, (.bool false))]), ⟨0, 1, []⟩⟩
theorem R17 (lg : Int) (g : Int) (a : Int) : evCK Try.prog cfgTp (runK Try.prog cfgTp fsTp (conT grpDom grpE) 12 40) 12 (codeAt [1, 1, 1, 1, 1, 1, 0, 1, 0, 1, 1, 1, 0, 0] B) (S25 lg g a) (normC 0 [5, 6, 7, 52]) =
  bif (decide ((a - 7) < 0)) then
    bif ((-1) != a) then
      some (.normal, (S26 lg g a))
    else
      some (.normal, (S27 lg g a))
  else
    bif (decide ((a - 7) ≥ (groupsV ((lg % 10))))) then
      bif ((-1) != a) then
        some (.normal, (S26 lg g a))
      else
        some (.normal, (S27 lg g a))
    else
      bif ((IntKind.wrap .i64 (7 + (a - 7))) != a) then
        some (.normal, (S26 lg g a))
      else
        some (.normal, (S27 lg g a)) := by kernel_rfl
theorem C1_1_1_1_1_1_0_1_0_1_1_1_0_1 : (codeAt [1, 1, 1, 1, 1, 1, 0, 1, 0, 1, 1, 1, 0, 1] B) = .cond (.tmp 52) (codeAt [1, 1, 1, 1, 1, 1, 0, 1, 0, 1, 1, 1, 0, 1, 0] B) (codeAt [1, 1, 1, 1, 1, 1, 0, 1, 0, 1, 1, 1, 0, 1, 1] B) := by kernel_rfl
theorem R18 (lg : Int) (g : Int) (a : Int) : evCK Try.prog cfgTp (runK Try.prog cfgTp fsTp (conT grpDom grpE) 12 40) 12 (codeAt [1, 1, 1, 1, 1, 1, 0, 1, 0, 1, 1, 1, 0, 1, 1] B) (S27 lg g a) (normC 0 [5, 6, 7]) =
  some (.normal, (S9 lg g a)) := by kernel_rfl
theorem gr (lg ce a g : Int) (hl : 0 ≤ lg ∧ lg < 256) (hce : 0 ≤ ce ∧ ce < 65536) (hg : groupsV (lg % 10) = g) (h1 : 1 ≤ g) (h2 : g ≤ 512) (ha : Int.tmod ce ((7 + g) + (8 * g)) = a) (ha0 : 0 ≤ a) (ha1 : a < 7 + 9 * g) (hp : 7 ≤ a) (hp2 : a < 7 + g)  {Q : Ex → St → Prop} (hq : Q .ret (KSt.low S20)) : Gets Try.prog (KH.low ⟨0, 0, []⟩) B (KSt.low (S0 lg ce)) Q := by
  rw [C]; refine Gets.seq ?_
  refine Gets.ofN fitTp grp_sound (conT_agree _ _) 12 40 (by kernel_rfl) (x := .normal) (s' := (S1 lg ce)) (R1 lg ce) ?_
  show Gets _ _ (codeAt [1] B) _ _
  rw [C1]; refine Gets.seq ?_
  refine Gets.ofN fitTp grp_sound (conT_agree _ _) 12 40 (by kernel_rfl) (x := .normal) (s' := (S3 ce lg)) ((R2 lg ce).trans (by (show some (Ex.normal, (S2 ce lg)) = some (Ex.normal, (S3 ce lg)); unfold S2 S3; rw [(show (IntKind.wrap .i64 lg) = lg from wrap_i64_id (by omega) (by omega)), (show (Int.tmod lg 10) = (lg % 10) from Int.tmod_eq_emod_of_nonneg (by omega))]))) ?_
  show Gets _ _ (codeAt [1, 1] B) _ _
  rw [C1_1]; refine Gets.seq ?_
  refine Gets.ofN fitTp grp_sound (conT_agree _ _) 12 40 (by kernel_rfl) (x := .normal) (s' := (S6 ce lg g)) ((R3 ce lg).trans (by rw [condF (ibeq_f (by (first | exact Bool.false_and _ | ((try simp (disch := omega) only [hg, ha, wrap_i64_id, and3_i64]) <;> omega))))] <;> (show some (Ex.normal, (S5 ce lg)) = some (Ex.normal, (S6 ce lg g)); unfold S5 S6; rw [(show (groupsV ((lg % 10))) = g from hg), (show (IntKind.wrap .i64 (7 + g)) = (7 + g) from wrap_i64_id (by omega) (by omega)), (show (IntKind.wrap .i64 (8 * g)) = (8 * g) from wrap_i64_id (by omega) (by omega)), (show (IntKind.wrap .i64 ((7 + g) + (8 * g))) = ((7 + g) + (8 * g)) from wrap_i64_id (by omega) (by omega))]))) ?_
  show Gets _ _ (codeAt [1, 1, 1] B) _ _
  rw [C1_1_1]; refine Gets.seq ?_
  rw [C1_1_1_0]; refine Gets.seq ?_
  refine Gets.ofN fitTp grp_sound (conT_agree _ _) 12 40 (by kernel_rfl) (x := .normal) (s' := (S7 ce lg g)) (R4 ce lg g) ?_
  show Gets _ _ (codeAt [1, 1, 1, 0, 1] B) _ _
  rw [C1_1_1_0_1]; refine Gets.cond false (by kernel_rfl) ((show evalX (KSt.ts (S7 ce lg g)) (.tmp 16) = .bool (decide (((7 + g) + (8 * g)) < 16)) by kernel_rfl).trans (by rw [(show (decide (((7 + g) + (8 * g)) < 16)) = false from decide_eq_false (by (first | exact Bool.false_and _ | ((try simp (disch := omega) only [hg, ha, wrap_i64_id, and3_i64]) <;> omega))))])) ?_; show Gets _ _ (codeAt [1, 1, 1, 0, 1, 1] B) _ _
  refine Gets.ofN fitTp grp_sound (conT_agree _ _) 12 40 (by kernel_rfl) (x := .normal) (s' := (S6 ce lg g)) (R5 ce lg g) ?_
  show Gets _ _ (codeAt [1, 1, 1, 1] B) _ _
  rw [C1_1_1_1]; refine Gets.seq ?_
  refine Gets.ofN fitTp grp_sound (conT_agree _ _) 12 40 (by kernel_rfl) (x := .normal) (s' := (S9 lg g a)) ((R6 ce lg g).trans (by rw [condF (decide_eq_false (by (first | exact Bool.false_and _ | ((try simp (disch := omega) only [hg, ha, wrap_i64_id, and3_i64]) <;> omega))))] <;> (show some (Ex.normal, (S8 lg g ce)) = some (Ex.normal, (S9 lg g a)); unfold S8 S9; rw [(show (IntKind.wrap .i64 ce) = ce from wrap_i64_id (by omega) (by omega)), (show (Int.tmod ce ((7 + g) + (8 * g))) = a from ha)]))) ?_
  show Gets _ _ (codeAt [1, 1, 1, 1, 1] B) _ _
  rw [C1_1_1_1_1]; refine Gets.seq ?_
  refine Gets.ofN fitTp grp_sound (conT_agree _ _) 12 40 (by kernel_rfl) (x := .normal) (s' := (S22 lg g a)) ((R7 lg g a).trans (by rw [condF (decide_eq_false (by (first | exact Bool.false_and _ | ((try simp (disch := omega) only [hg, ha, wrap_i64_id, and3_i64]) <;> omega)))), condF (ibeq_f (by (first | exact Bool.false_and _ | ((try simp (disch := omega) only [hg, ha, wrap_i64_id, and3_i64]) <;> omega)))), condF (decide_eq_false (by (first | exact Bool.false_and _ | ((try simp (disch := omega) only [hg, ha, wrap_i64_id, and3_i64]) <;> omega)))), condF (decide_eq_false (by (first | exact Bool.false_and _ | ((try simp (disch := omega) only [hg, ha, wrap_i64_id, and3_i64]) <;> omega)))), condT (decide_eq_true (by (first | exact Bool.false_and _ | ((try simp (disch := omega) only [hg, ha, wrap_i64_id, and3_i64]) <;> omega)))), condF (by (first | exact Bool.false_and _ | ((try simp (disch := omega) only [hg, ha, wrap_i64_id, and3_i64]) <;> omega)))] <;> (show some (Ex.normal, (S12 lg g a)) = some (Ex.normal, (S22 lg g a)); unfold S12 S22; rw [(show (IntKind.wrap .i64 (a - 7)) = (a - 7) from wrap_i64_id (by omega) (by omega))]))) ?_
  show Gets _ _ (codeAt [1, 1, 1, 1, 1, 1] B) _ _
  rw [C1_1_1_1_1_1]; refine Gets.seq ?_
  rw [C1_1_1_1_1_1_0]; refine Gets.seq ?_
  refine Gets.ofN fitTp grp_sound (conT_agree _ _) 12 40 (by kernel_rfl) (x := .normal) (s' := (S23 lg g a)) (R14 lg g a) ?_
  show Gets _ _ (codeAt [1, 1, 1, 1, 1, 1, 0, 1] B) _ _
  rw [C1_1_1_1_1_1_0_1]; refine Gets.block ?_
  rw [C1_1_1_1_1_1_0_1_0]; refine Gets.seq ?_
  refine Gets.ofN fitTp grp_sound (conT_agree _ _) 12 40 (by kernel_rfl) (x := .normal) (s' := (S24 lg g a)) (R15 lg g a) ?_
  show Gets _ _ (codeAt [1, 1, 1, 1, 1, 1, 0, 1, 0, 1] B) _ _
  rw [C1_1_1_1_1_1_0_1_0_1]; refine Gets.cond false (by kernel_rfl) (show evalX (KSt.ts (S24 lg g a)) (.tmp 26) = .bool false by kernel_rfl) ?_; show Gets _ _ (codeAt [1, 1, 1, 1, 1, 1, 0, 1, 0, 1, 1] B) _ _
  rw [C1_1_1_1_1_1_0_1_0_1_1]; refine Gets.seq ?_
  refine Gets.ofN fitTp grp_sound (conT_agree _ _) 12 40 (by kernel_rfl) (x := .normal) (s' := (S25 lg g a)) (R16 lg g a) ?_
  show Gets _ _ (codeAt [1, 1, 1, 1, 1, 1, 0, 1, 0, 1, 1, 1] B) _ _
  rw [C1_1_1_1_1_1_0_1_0_1_1_1]; refine Gets.cond true (by kernel_rfl) (show evalX (KSt.ts (S25 lg g a)) (.tmp 40) = .bool true by kernel_rfl) ?_; show Gets _ _ (codeAt [1, 1, 1, 1, 1, 1, 0, 1, 0, 1, 1, 1, 0] B) _ _
  rw [C1_1_1_1_1_1_0_1_0_1_1_1_0]; refine Gets.seq ?_
  refine Gets.ofN fitTp grp_sound (conT_agree _ _) 12 40 (by kernel_rfl) (x := .normal) (s' := (S27 lg g a)) ((R17 lg g a).trans (by rw [condF (decide_eq_false (by (first | exact Bool.false_and _ | ((try simp (disch := omega) only [hg, ha, wrap_i64_id, and3_i64]) <;> omega)))), condF (decide_eq_false (by (first | exact Bool.false_and _ | ((try simp (disch := omega) only [hg, ha, wrap_i64_id, and3_i64]) <;> omega)))), condF (ibne_f (by (first | exact Bool.false_and _ | ((try simp (disch := omega) only [hg, ha, wrap_i64_id, and3_i64]) <;> omega))))])) ?_
  show Gets _ _ (codeAt [1, 1, 1, 1, 1, 1, 0, 1, 0, 1, 1, 1, 0, 1] B) _ _
  rw [C1_1_1_1_1_1_0_1_0_1_1_1_0_1]; refine Gets.cond false (by kernel_rfl) (show evalX (KSt.ts (S27 lg g a)) (.tmp 52) = .bool false by kernel_rfl) ?_; show Gets _ _ (codeAt [1, 1, 1, 1, 1, 1, 0, 1, 0, 1, 1, 1, 0, 1, 1] B) _ _
  refine Gets.ofN fitTp grp_sound (conT_agree _ _) 12 40 (by kernel_rfl) (x := .normal) (s' := (S9 lg g a)) (R18 lg g a) ?_
  show Gets _ _ (codeAt [1, 1, 1, 1, 1, 1, 1] B) _ _
  rw [C1_1_1_1_1_1_1]; refine Gets.seq ?_
  refine Gets.ofN fitTp grp_sound (conT_agree _ _) 12 40 (by kernel_rfl) (x := .normal) (s' := (S19 lg g a)) ((R12 lg g a).trans (by (show some (Ex.normal, (S18 lg g a)) = some (Ex.normal, (S19 lg g a)); unfold S18 S19; rw [(show (bits .and .i64 a 3) = (a % 4) from and_mask_i64 a 2 (by omega)), (show (IntKind.wrap .i64 (3 + (a % 4))) = (3 + (a % 4)) from wrap_i64_id (by omega) (by omega))]))) ?_
  show Gets _ _ (codeAt [1, 1, 1, 1, 1, 1, 1, 1] B) _ _
  rw [C1_1_1_1_1_1_1_1]; refine Gets.seq ?_
  refine Gets.ofN fitTp grp_sound (conT_agree _ _) 12 40 (by kernel_rfl) (x := .normal) (s' := S20) ((R13 lg g a).trans (by rw [condF (decide_eq_false (by (first | exact Bool.false_and _ | ((try simp (disch := omega) only [hg, ha, wrap_i64_id, and3_i64]) <;> omega)))), condF (ibeq_f (by (first | exact Bool.false_and _ | ((try simp (disch := omega) only [hg, ha, wrap_i64_id, and3_i64]) <;> omega)))), condT (decide_eq_true (by (first | exact Bool.false_and _ | ((try simp (disch := omega) only [hg, ha, wrap_i64_id, and3_i64]) <;> omega)))), condT (decide_eq_true (by (first | exact Bool.false_and _ | ((try simp (disch := omega) only [hg, ha, wrap_i64_id, and3_i64]) <;> omega)))), condT (decide_eq_true (by (first | exact Bool.false_and _ | ((try simp (disch := omega) only [hg, ha, wrap_i64_id, and3_i64]) <;> omega)))), condT (decide_eq_true (by (first | exact Bool.false_and _ | ((try simp (disch := omega) only [hg, ha, wrap_i64_id, and3_i64]) <;> omega))))])) ?_
  show Gets _ _ (codeAt [1, 1, 1, 1, 1, 1, 1, 1, 1] B) _ _
  rw [C1_1_1_1_1_1_1_1_1]; refine Gets.ev fitTp.mix fitTp.cfg (fitTp.sound grp_sound 12 0) 12 rfl (s' := KSt.low S20) (x := .ret) rfl ?_
  exact hq
noncomputable def S28 (lg : Int) (g : Int) (a : Int) : KSt := ⟨(frameL 96 [(5, (.int .i64 (lg % 10))), (6, (.int .i64 ((7 + g) + (8 * g)))), (7, (.int .i64 a)), (8, (.pointer (some ⟨0, 0, none⟩)))]), ⟨1, 1, [(0, 0, .cells [(.int .i64 3), (.int .i64 (((a - 7) - g) / 8)), (.int .i64 (((a - 7) - g) % 8))] 64 true)]⟩⟩
noncomputable def S29 (lg : Int) (g : Int) (a : Int) : KSt := ⟨(frameL 96 [(5, (.int .i64 (lg % 10))), (6, (.int .i64 ((7 + g) + (8 * g)))), (7, (.int .i64 a)), (8, (.pointer (some ⟨0, 0, none⟩))), (25, (.int .i64 3))]), ⟨1, 1, [(0, 0, .cells [(.int .i64 3), (.int .i64 (((a - 7) - g) / 8)), (.int .i64 (((a - 7) - g) % 8))] 64 true)]⟩⟩
theorem R19 (lg : Int) (g : Int) (a : Int) : evCK Try.prog cfgTp (runK Try.prog cfgTp fsTp (conT grpDom grpE) 12 40) 12 (codeAt [1, 1, 1, 1, 1, 1, 0, 0] B) (S28 lg g a) (normC 0 [5, 6, 7, 8, 25]) =
  some (.normal, (S29 lg g a)) := by kernel_rfl
noncomputable def S30 (lg : Int) (g : Int) (a : Int) : KSt := ⟨(frameL 96 [(5, (.int .i64 (lg % 10))), (6, (.int .i64 ((7 + g) + (8 * g)))), (7, (.int .i64 a)), (8, (.pointer (some ⟨0, 0, none⟩))), (25, (.int .i64 3)), (26, (.bool false))]), ⟨1, 1, [(0, 0, .cells [(.int .i64 3), (.int .i64 (((a - 7) - g) / 8)), (.int .i64 (((a - 7) - g) % 8))] 64 true)]⟩⟩
theorem R20 (lg : Int) (g : Int) (a : Int) : evCK Try.prog cfgTp (runK Try.prog cfgTp fsTp (conT grpDom grpE) 12 40) 12 (codeAt [1, 1, 1, 1, 1, 1, 0, 1, 0, 0] B) (S29 lg g a) (normC 0 [5, 6, 7, 8, 25, 26]) =
  some (.normal, (S30 lg g a)) := by kernel_rfl
noncomputable def S31 (lg : Int) (g : Int) (a : Int) : KSt := ⟨(frameL 96 [(5, (.int .i64 (lg % 10))), (6, (.int .i64 ((7 + g) + (8 * g)))), (7, (.int .i64 a)), (8, (.pointer (some ⟨0, 0, none⟩))), (25, (.int .i64 3)), (40, (.bool false))]), ⟨1, 1, [(0, 0, .cells [(.int .i64 3), (.int .i64 (((a - 7) - g) / 8)), (.int .i64 (((a - 7) - g) % 8))] 64 true)]⟩⟩
theorem R21 (lg : Int) (g : Int) (a : Int) : evCK Try.prog cfgTp (runK Try.prog cfgTp fsTp (conT grpDom grpE) 12 40) 12 (codeAt [1, 1, 1, 1, 1, 1, 0, 1, 0, 1, 1, 0] B) (S30 lg g a) (normC 0 [5, 6, 7, 8, 25, 40]) =
  some (.normal, (S31 lg g a)) := by kernel_rfl
theorem C1_1_1_1_1_1_0_1_0_1_1_1_1 : (codeAt [1, 1, 1, 1, 1, 1, 0, 1, 0, 1, 1, 1, 1] B) = .seq (codeAt [1, 1, 1, 1, 1, 1, 0, 1, 0, 1, 1, 1, 1, 0] B) (codeAt [1, 1, 1, 1, 1, 1, 0, 1, 0, 1, 1, 1, 1, 1] B) := by kernel_rfl
noncomputable def S32 (lg : Int) (g : Int) (a : Int) : KSt := ⟨(frameL 96 [(5, (.int .i64 (lg % 10))), (6, (.int .i64 ((7 + g) + (8 * g)))), (7, (.int .i64 a)), (8, (.pointer (some ⟨0, 0, none⟩))), (53, (.bool true))]), ⟨1, 1, [(0, 0, .cells [(.int .i64 3), (.int .i64 (((a - 7) - g) / 8)), (.int .i64 (((a - 7) - g) % 8))] 64 true)]⟩⟩
theorem R22 (lg : Int) (g : Int) (a : Int) : evCK Try.prog cfgTp (runK Try.prog cfgTp fsTp (conT grpDom grpE) 12 40) 12 (codeAt [1, 1, 1, 1, 1, 1, 0, 1, 0, 1, 1, 1, 1, 0] B) (S31 lg g a) (normC 0 [5, 6, 7, 8, 53]) =
  some (.normal, (S32 lg g a)) := by kernel_rfl
theorem C1_1_1_1_1_1_0_1_0_1_1_1_1_1 : (codeAt [1, 1, 1, 1, 1, 1, 0, 1, 0, 1, 1, 1, 1, 1] B) = .cond (.tmp 53) (codeAt [1, 1, 1, 1, 1, 1, 0, 1, 0, 1, 1, 1, 1, 1, 0] B) (codeAt [1, 1, 1, 1, 1, 1, 0, 1, 0, 1, 1, 1, 1, 1, 1] B) := by kernel_rfl
theorem C1_1_1_1_1_1_0_1_0_1_1_1_1_1_0 : (codeAt [1, 1, 1, 1, 1, 1, 0, 1, 0, 1, 1, 1, 1, 1, 0] B) = .seq (codeAt [1, 1, 1, 1, 1, 1, 0, 1, 0, 1, 1, 1, 1, 1, 0, 0] B) (codeAt [1, 1, 1, 1, 1, 1, 0, 1, 0, 1, 1, 1, 1, 1, 0, 1] B) := by kernel_rfl
noncomputable def S33 (lg : Int) (g : Int) (a : Int) : KSt := ⟨(frameL 96 [(5, (.int .i64 (lg % 10))), (6, (.int .i64 ((7 + g) + (8 * g)))), (7, (.int .i64 a)), (62, (.bool ((-1) != a)))]), ⟨0, 1, []⟩⟩
noncomputable def S34 (lg : Int) (g : Int) (a : Int) : KSt := ⟨(frameL 96 [(5, (.int .i64 (lg % 10))), (6, (.int .i64 ((7 + g) + (8 * g)))), (7, (.int .i64 a)), (62, (.bool ((IntKind.wrap .i64 ((IntKind.wrap .i64 ((IntKind.wrap .i64 ((IntKind.wrap .i64 (7 + (((a - 7) - g) / 8))) + (groupsV ((lg % 10))))) + (IntKind.wrap .i64 (7 * (((a - 7) - g) / 8))))) + (((a - 7) - g) % 8))) != a)))]), ⟨0, 1, []⟩⟩
theorem R23 (lg : Int) (g : Int) (a : Int) : evCK Try.prog cfgTp (runK Try.prog cfgTp fsTp (conT grpDom grpE) 12 40) 12 (codeAt [1, 1, 1, 1, 1, 1, 0, 1, 0, 1, 1, 1, 1, 1, 0, 0] B) (S32 lg g a) (normC 0 [5, 6, 7, 62]) =
  bif (decide ((((a - 7) - g) / 8) < 0)) then
    some (.normal, (S33 lg g a))
  else
    bif (decide ((((a - 7) - g) / 8) ≥ (groupsV ((lg % 10))))) then
      some (.normal, (S33 lg g a))
    else
      bif (decide ((IntKind.wrap .i64 (7 + (((a - 7) - g) / 8))) < 0)) then
        some (.normal, (S33 lg g a))
      else
        bif (decide ((((a - 7) - g) % 8) < 0)) then
          some (.normal, (S33 lg g a))
        else
          bif (decide ((((a - 7) - g) % 8) ≥ 8)) then
            some (.normal, (S33 lg g a))
          else
            some (.normal, (S34 lg g a)) := by kernel_rfl
noncomputable def S35 (lg : Int) (g : Int) (a : Int) : KSt := ⟨(frameL 96 [(5, (.int .i64 (lg % 10))), (6, (.int .i64 ((7 + g) + (8 * g)))), (7, (.int .i64 a)), (62, (.bool (((((7 + (((a - 7) - g) / 8)) + g) + (7 * (((a - 7) - g) / 8))) + (((a - 7) - g) % 8)) != a)))]), ⟨0, 1, []⟩⟩
theorem C1_1_1_1_1_1_0_1_0_1_1_1_1_1_0_1 : (codeAt [1, 1, 1, 1, 1, 1, 0, 1, 0, 1, 1, 1, 1, 1, 0, 1] B) = .cond (.tmp 62) (codeAt [1, 1, 1, 1, 1, 1, 0, 1, 0, 1, 1, 1, 1, 1, 0, 1, 0] B) (codeAt [1, 1, 1, 1, 1, 1, 0, 1, 0, 1, 1, 1, 1, 1, 0, 1, 1] B) := by kernel_rfl
theorem R24 (lg : Int) (g : Int) (a : Int) : evCK Try.prog cfgTp (runK Try.prog cfgTp fsTp (conT grpDom grpE) 12 40) 12 (codeAt [1, 1, 1, 1, 1, 1, 0, 1, 0, 1, 1, 1, 1, 1, 0, 1, 1] B) (S35 lg g a) (normC 0 [5, 6, 7]) =
  some (.normal, (S9 lg g a)) := by kernel_rfl
theorem sl (lg ce a g : Int) (hl : 0 ≤ lg ∧ lg < 256) (hce : 0 ≤ ce ∧ ce < 65536) (hg : groupsV (lg % 10) = g) (h1 : 1 ≤ g) (h2 : g ≤ 512) (ha : Int.tmod ce ((7 + g) + (8 * g)) = a) (ha0 : 0 ≤ a) (ha1 : a < 7 + 9 * g) (hp : 7 + g ≤ a)  {Q : Ex → St → Prop} (hq : Q .ret (KSt.low S20)) : Gets Try.prog (KH.low ⟨0, 0, []⟩) B (KSt.low (S0 lg ce)) Q := by
  rw [C]; refine Gets.seq ?_
  refine Gets.ofN fitTp grp_sound (conT_agree _ _) 12 40 (by kernel_rfl) (x := .normal) (s' := (S1 lg ce)) (R1 lg ce) ?_
  show Gets _ _ (codeAt [1] B) _ _
  rw [C1]; refine Gets.seq ?_
  refine Gets.ofN fitTp grp_sound (conT_agree _ _) 12 40 (by kernel_rfl) (x := .normal) (s' := (S3 ce lg)) ((R2 lg ce).trans (by (show some (Ex.normal, (S2 ce lg)) = some (Ex.normal, (S3 ce lg)); unfold S2 S3; rw [(show (IntKind.wrap .i64 lg) = lg from wrap_i64_id (by omega) (by omega)), (show (Int.tmod lg 10) = (lg % 10) from Int.tmod_eq_emod_of_nonneg (by omega))]))) ?_
  show Gets _ _ (codeAt [1, 1] B) _ _
  rw [C1_1]; refine Gets.seq ?_
  refine Gets.ofN fitTp grp_sound (conT_agree _ _) 12 40 (by kernel_rfl) (x := .normal) (s' := (S6 ce lg g)) ((R3 ce lg).trans (by rw [condF (ibeq_f (by (first | exact Bool.false_and _ | ((try simp (disch := omega) only [hg, ha, wrap_i64_id, and3_i64]) <;> omega))))] <;> (show some (Ex.normal, (S5 ce lg)) = some (Ex.normal, (S6 ce lg g)); unfold S5 S6; rw [(show (groupsV ((lg % 10))) = g from hg), (show (IntKind.wrap .i64 (7 + g)) = (7 + g) from wrap_i64_id (by omega) (by omega)), (show (IntKind.wrap .i64 (8 * g)) = (8 * g) from wrap_i64_id (by omega) (by omega)), (show (IntKind.wrap .i64 ((7 + g) + (8 * g))) = ((7 + g) + (8 * g)) from wrap_i64_id (by omega) (by omega))]))) ?_
  show Gets _ _ (codeAt [1, 1, 1] B) _ _
  rw [C1_1_1]; refine Gets.seq ?_
  rw [C1_1_1_0]; refine Gets.seq ?_
  refine Gets.ofN fitTp grp_sound (conT_agree _ _) 12 40 (by kernel_rfl) (x := .normal) (s' := (S7 ce lg g)) (R4 ce lg g) ?_
  show Gets _ _ (codeAt [1, 1, 1, 0, 1] B) _ _
  rw [C1_1_1_0_1]; refine Gets.cond false (by kernel_rfl) ((show evalX (KSt.ts (S7 ce lg g)) (.tmp 16) = .bool (decide (((7 + g) + (8 * g)) < 16)) by kernel_rfl).trans (by rw [(show (decide (((7 + g) + (8 * g)) < 16)) = false from decide_eq_false (by (first | exact Bool.false_and _ | ((try simp (disch := omega) only [hg, ha, wrap_i64_id, and3_i64]) <;> omega))))])) ?_; show Gets _ _ (codeAt [1, 1, 1, 0, 1, 1] B) _ _
  refine Gets.ofN fitTp grp_sound (conT_agree _ _) 12 40 (by kernel_rfl) (x := .normal) (s' := (S6 ce lg g)) (R5 ce lg g) ?_
  show Gets _ _ (codeAt [1, 1, 1, 1] B) _ _
  rw [C1_1_1_1]; refine Gets.seq ?_
  refine Gets.ofN fitTp grp_sound (conT_agree _ _) 12 40 (by kernel_rfl) (x := .normal) (s' := (S9 lg g a)) ((R6 ce lg g).trans (by rw [condF (decide_eq_false (by (first | exact Bool.false_and _ | ((try simp (disch := omega) only [hg, ha, wrap_i64_id, and3_i64]) <;> omega))))] <;> (show some (Ex.normal, (S8 lg g ce)) = some (Ex.normal, (S9 lg g a)); unfold S8 S9; rw [(show (IntKind.wrap .i64 ce) = ce from wrap_i64_id (by omega) (by omega)), (show (Int.tmod ce ((7 + g) + (8 * g))) = a from ha)]))) ?_
  show Gets _ _ (codeAt [1, 1, 1, 1, 1] B) _ _
  rw [C1_1_1_1_1]; refine Gets.seq ?_
  refine Gets.ofN fitTp grp_sound (conT_agree _ _) 12 40 (by kernel_rfl) (x := .normal) (s' := (S28 lg g a)) ((R7 lg g a).trans (by rw [condF (decide_eq_false (by (first | exact Bool.false_and _ | ((try simp (disch := omega) only [hg, ha, wrap_i64_id, and3_i64]) <;> omega)))), condF (ibeq_f (by (first | exact Bool.false_and _ | ((try simp (disch := omega) only [hg, ha, wrap_i64_id, and3_i64]) <;> omega)))), condF (decide_eq_false (by (first | exact Bool.false_and _ | ((try simp (disch := omega) only [hg, ha, wrap_i64_id, and3_i64]) <;> omega)))), condF (decide_eq_false (by (first | exact Bool.false_and _ | ((try simp (disch := omega) only [hg, ha, wrap_i64_id, and3_i64]) <;> omega)))), condF (decide_eq_false (by (first | exact Bool.false_and _ | ((try simp (disch := omega) only [hg, ha, wrap_i64_id, and3_i64]) <;> omega)))), condF (by (first | exact Bool.false_and _ | ((try simp (disch := omega) only [hg, ha, wrap_i64_id, and3_i64]) <;> omega)))] <;> (show some (Ex.normal, (S13 lg g a)) = some (Ex.normal, (S28 lg g a)); unfold S13 S28; rw [(show (groupsV ((lg % 10))) = g from hg), (show (IntKind.wrap .i64 (a - 7)) = (a - 7) from wrap_i64_id (by omega) (by omega)), (show (IntKind.wrap .i64 ((a - 7) - g)) = ((a - 7) - g) from wrap_i64_id (by omega) (by omega)), (show (Int.tmod ((a - 7) - g) 8) = (((a - 7) - g) % 8) from Int.tmod_eq_emod_of_nonneg (by omega)), (show (Int.tdiv ((a - 7) - g) 8) = (((a - 7) - g) / 8) from Int.tdiv_eq_ediv_of_nonneg (by omega)), (show (IntKind.wrap .i64 (((a - 7) - g) / 8)) = (((a - 7) - g) / 8) from wrap_i64_id (by omega) (by omega))]))) ?_
  show Gets _ _ (codeAt [1, 1, 1, 1, 1, 1] B) _ _
  rw [C1_1_1_1_1_1]; refine Gets.seq ?_
  rw [C1_1_1_1_1_1_0]; refine Gets.seq ?_
  refine Gets.ofN fitTp grp_sound (conT_agree _ _) 12 40 (by kernel_rfl) (x := .normal) (s' := (S29 lg g a)) (R19 lg g a) ?_
  show Gets _ _ (codeAt [1, 1, 1, 1, 1, 1, 0, 1] B) _ _
  rw [C1_1_1_1_1_1_0_1]; refine Gets.block ?_
  rw [C1_1_1_1_1_1_0_1_0]; refine Gets.seq ?_
  refine Gets.ofN fitTp grp_sound (conT_agree _ _) 12 40 (by kernel_rfl) (x := .normal) (s' := (S30 lg g a)) (R20 lg g a) ?_
  show Gets _ _ (codeAt [1, 1, 1, 1, 1, 1, 0, 1, 0, 1] B) _ _
  rw [C1_1_1_1_1_1_0_1_0_1]; refine Gets.cond false (by kernel_rfl) (show evalX (KSt.ts (S30 lg g a)) (.tmp 26) = .bool false by kernel_rfl) ?_; show Gets _ _ (codeAt [1, 1, 1, 1, 1, 1, 0, 1, 0, 1, 1] B) _ _
  rw [C1_1_1_1_1_1_0_1_0_1_1]; refine Gets.seq ?_
  refine Gets.ofN fitTp grp_sound (conT_agree _ _) 12 40 (by kernel_rfl) (x := .normal) (s' := (S31 lg g a)) (R21 lg g a) ?_
  show Gets _ _ (codeAt [1, 1, 1, 1, 1, 1, 0, 1, 0, 1, 1, 1] B) _ _
  rw [C1_1_1_1_1_1_0_1_0_1_1_1]; refine Gets.cond false (by kernel_rfl) (show evalX (KSt.ts (S31 lg g a)) (.tmp 40) = .bool false by kernel_rfl) ?_; show Gets _ _ (codeAt [1, 1, 1, 1, 1, 1, 0, 1, 0, 1, 1, 1, 1] B) _ _
  rw [C1_1_1_1_1_1_0_1_0_1_1_1_1]; refine Gets.seq ?_
  refine Gets.ofN fitTp grp_sound (conT_agree _ _) 12 40 (by kernel_rfl) (x := .normal) (s' := (S32 lg g a)) (R22 lg g a) ?_
  show Gets _ _ (codeAt [1, 1, 1, 1, 1, 1, 0, 1, 0, 1, 1, 1, 1, 1] B) _ _
  rw [C1_1_1_1_1_1_0_1_0_1_1_1_1_1]; refine Gets.cond true (by kernel_rfl) (show evalX (KSt.ts (S32 lg g a)) (.tmp 53) = .bool true by kernel_rfl) ?_; show Gets _ _ (codeAt [1, 1, 1, 1, 1, 1, 0, 1, 0, 1, 1, 1, 1, 1, 0] B) _ _
  rw [C1_1_1_1_1_1_0_1_0_1_1_1_1_1_0]; refine Gets.seq ?_
  refine Gets.ofN fitTp grp_sound (conT_agree _ _) 12 40 (by kernel_rfl) (x := .normal) (s' := (S35 lg g a)) ((R23 lg g a).trans (by rw [condF (decide_eq_false (by (first | exact Bool.false_and _ | ((try simp (disch := omega) only [hg, ha, wrap_i64_id, and3_i64]) <;> omega)))), condF (decide_eq_false (by (first | exact Bool.false_and _ | ((try simp (disch := omega) only [hg, ha, wrap_i64_id, and3_i64]) <;> omega)))), condF (decide_eq_false (by (first | exact Bool.false_and _ | ((try simp (disch := omega) only [hg, ha, wrap_i64_id, and3_i64]) <;> omega)))), condF (decide_eq_false (by (first | exact Bool.false_and _ | ((try simp (disch := omega) only [hg, ha, wrap_i64_id, and3_i64]) <;> omega)))), condF (decide_eq_false (by (first | exact Bool.false_and _ | ((try simp (disch := omega) only [hg, ha, wrap_i64_id, and3_i64]) <;> omega))))] <;> (show some (Ex.normal, (S34 lg g a)) = some (Ex.normal, (S35 lg g a)); unfold S34 S35; rw [(show (groupsV ((lg % 10))) = g from hg), (show (IntKind.wrap .i64 (7 + (((a - 7) - g) / 8))) = (7 + (((a - 7) - g) / 8)) from wrap_i64_id (by omega) (by omega)), (show (IntKind.wrap .i64 ((7 + (((a - 7) - g) / 8)) + g)) = ((7 + (((a - 7) - g) / 8)) + g) from wrap_i64_id (by omega) (by omega)), (show (IntKind.wrap .i64 (7 * (((a - 7) - g) / 8))) = (7 * (((a - 7) - g) / 8)) from wrap_i64_id (by omega) (by omega)), (show (IntKind.wrap .i64 (((7 + (((a - 7) - g) / 8)) + g) + (7 * (((a - 7) - g) / 8)))) = (((7 + (((a - 7) - g) / 8)) + g) + (7 * (((a - 7) - g) / 8))) from wrap_i64_id (by omega) (by omega)), (show (IntKind.wrap .i64 ((((7 + (((a - 7) - g) / 8)) + g) + (7 * (((a - 7) - g) / 8))) + (((a - 7) - g) % 8))) = ((((7 + (((a - 7) - g) / 8)) + g) + (7 * (((a - 7) - g) / 8))) + (((a - 7) - g) % 8)) from wrap_i64_id (by omega) (by omega))]))) ?_
  show Gets _ _ (codeAt [1, 1, 1, 1, 1, 1, 0, 1, 0, 1, 1, 1, 1, 1, 0, 1] B) _ _
  rw [C1_1_1_1_1_1_0_1_0_1_1_1_1_1_0_1]; refine Gets.cond false (by kernel_rfl) ((show evalX (KSt.ts (S35 lg g a)) (.tmp 62) = .bool (((((7 + (((a - 7) - g) / 8)) + g) + (7 * (((a - 7) - g) / 8))) + (((a - 7) - g) % 8)) != a) by kernel_rfl).trans (by rw [(show (((((7 + (((a - 7) - g) / 8)) + g) + (7 * (((a - 7) - g) / 8))) + (((a - 7) - g) % 8)) != a) = false from ibne_f (by (first | exact Bool.false_and _ | ((try simp (disch := omega) only [hg, ha, wrap_i64_id, and3_i64]) <;> omega))))])) ?_; show Gets _ _ (codeAt [1, 1, 1, 1, 1, 1, 0, 1, 0, 1, 1, 1, 1, 1, 0, 1, 1] B) _ _
  refine Gets.ofN fitTp grp_sound (conT_agree _ _) 12 40 (by kernel_rfl) (x := .normal) (s' := (S9 lg g a)) (R24 lg g a) ?_
  show Gets _ _ (codeAt [1, 1, 1, 1, 1, 1, 1] B) _ _
  rw [C1_1_1_1_1_1_1]; refine Gets.seq ?_
  refine Gets.ofN fitTp grp_sound (conT_agree _ _) 12 40 (by kernel_rfl) (x := .normal) (s' := (S19 lg g a)) ((R12 lg g a).trans (by (show some (Ex.normal, (S18 lg g a)) = some (Ex.normal, (S19 lg g a)); unfold S18 S19; rw [(show (bits .and .i64 a 3) = (a % 4) from and_mask_i64 a 2 (by omega)), (show (IntKind.wrap .i64 (3 + (a % 4))) = (3 + (a % 4)) from wrap_i64_id (by omega) (by omega))]))) ?_
  show Gets _ _ (codeAt [1, 1, 1, 1, 1, 1, 1, 1] B) _ _
  rw [C1_1_1_1_1_1_1_1]; refine Gets.seq ?_
  refine Gets.ofN fitTp grp_sound (conT_agree _ _) 12 40 (by kernel_rfl) (x := .normal) (s' := S20) ((R13 lg g a).trans (by rw [condF (decide_eq_false (by (first | exact Bool.false_and _ | ((try simp (disch := omega) only [hg, ha, wrap_i64_id, and3_i64]) <;> omega)))), condF (ibeq_f (by (first | exact Bool.false_and _ | ((try simp (disch := omega) only [hg, ha, wrap_i64_id, and3_i64]) <;> omega)))), condT (decide_eq_true (by (first | exact Bool.false_and _ | ((try simp (disch := omega) only [hg, ha, wrap_i64_id, and3_i64]) <;> omega)))), condT (decide_eq_true (by (first | exact Bool.false_and _ | ((try simp (disch := omega) only [hg, ha, wrap_i64_id, and3_i64]) <;> omega)))), condT (decide_eq_true (by (first | exact Bool.false_and _ | ((try simp (disch := omega) only [hg, ha, wrap_i64_id, and3_i64]) <;> omega)))), condT (decide_eq_true (by (first | exact Bool.false_and _ | ((try simp (disch := omega) only [hg, ha, wrap_i64_id, and3_i64]) <;> omega))))])) ?_
  show Gets _ _ (codeAt [1, 1, 1, 1, 1, 1, 1, 1, 1] B) _ _
  rw [C1_1_1_1_1_1_1_1_1]; refine Gets.ev fitTp.mix fitTp.cfg (fitTp.sound grp_sound 12 0) 12 rfl (s' := KSt.low S20) (x := .ret) rfl ?_
  exact hq
noncomputable def QE : Ex → St → Prop := Eng.Ends Try.prog Try.f11.results.toList fun r _ => r = .bool true
theorem qe_true {s : KSt} (h : resL Try.prog s.low Try.f11.results.toList = some [.bool true]) : QE .ret s.low := Ends.of h rfl
theorem told (lg ce : Int) (hl : 0 ≤ lg ∧ lg < 256) (hce : 0 ≤ ce ∧ ce < 65536) : Tells Try.prog 11 [.int .u8 lg, .int .u16 ce] (KH.low ⟨0, 0, []⟩) (.bool true) := by
  refine Gets.tells Try.func11 B_is (by rw [noVars]; exact Nat.zero_le _) rfl ?_ (Ro.empty _ _)
  show Gets Try.prog (KH.low ⟨0, 0, []⟩) B (KSt.low (S0 lg ce)) QE
  obtain ⟨g, hg⟩ : ∃ g, groupsV (lg % 10) = g := ⟨_, rfl⟩
  have h1 : 0 < g := by rw [← hg]; exact (groupsV_pos _).2 (by omega)
  have h2 : g ≤ 512 := by rw [← hg]; exact (groupsV_bounds _).2
  obtain ⟨a, ha⟩ : ∃ a, Int.tmod ce ((7 + g) + (8 * g)) = a := ⟨_, rfl⟩
  have ha0 : 0 ≤ a := by rw [← ha]; exact Int.tmod_nonneg _ hce.1
  have ha1 : a < 7 + 9 * g := by
    have := Int.tmod_lt_of_pos ce (show 0 < (7 + g) + (8 * g) by omega)
    omega
  by_cases hp : a < 7
  · exact hd lg ce a g hl hce hg h1 h2 ha ha0 ha1 hp (qe_true (by kernel_rfl))
  · by_cases hp2 : a < 7 + g
    · exact gr lg ce a g hl hce hg h1 h2 ha ha0 ha1 (by omega) hp2 (qe_true (by kernel_rfl))
    · exact sl lg ce a g hl hce hg h1 h2 ha ha0 ha1 (by omega) (qe_true (by kernel_rfl))
theorem own : ownKnob Try.prog.godebug = none := by kernel_rfl
theorem lifted (os : Os) (started : os.Started) (H : Type) (enc : TypeId × Value → H) :
    ReturnsInHanded {} Try.checked os 11 .any (Rows.tablePartsSpec.pre6 enc Try.prog Try.f11 Rows.tablePartsRow.domain false) (Rows.tablePartsSpec.post enc Try.prog Try.f11 false true false false) := by
  refine returnsInHanded_of_change_sized (C := Try.checked) own started (by kernel_rfl) Try.func11
    (ChangeSpec.witness6 (enc := enc) (C := Try.checked) false ⟨#[], #[.int .u8 0, .int .u16 0], []⟩ 8 (by kernel_rfl) (by kernel_rfl) (by kernel_rfl) (by kernel_rfl)) ?_
  intro W base args ds gs before hval0 hW hcnd hsz0 _
  have hval : ∀ (j : Nat) t v, Try.f11.params[j]? = some t → args[j]? = some v → Value.okWide Try.prog W .any base t v := hval0
  have hW' := hW
  obtain ⟨p, q, hA0, hV, rfl, hfz, hnd⟩ := hW
  have hA : DataW.TrodAll enc Try.prog W 0 (fun _ => true) true Try.f11.params.toList args.toList ds p := hA0
  rw [Try.params11] at hA hval
  have hS := hA
  obtain ⟨v0, vs0, d0, ds0, p0, q0, hargs, rfl, rfl, h0, r0⟩ := trodAll_cons hA
  obtain ⟨v1, vs1, d1, ds1, p1, q1, rfl, rfl, rfl, h1, r1⟩ := trodAll_cons r0
  obtain ⟨rfl, rfl, rfl⟩ := trodAll_nil r1
  obtain rfl : args = #[v0, v1] := by cases args; simp_all
  obtain ⟨rfl, rfl⟩ := trodVars_none hV
  suffices hc : Calls Try.prog 11 #[v0, v1] W fun e W' => e = .returned (.bool true) ∧ Below W.heap.size W W' by
    refine hc.mono fun e W' ⟨he, bel⟩ => ?_
    subst he
    exact ⟨_, rfl, _, _, _, [], _, [], hW', trodAll_mk1 (shut_bool Try.underlying4 _), trodAll_stays fineA bel (by decide +kernel) hS, rfl, bel.frame _, fun h => by cases h⟩
  clear hS hW' hfz hnd
  obtain ⟨a0, rfl, rfl, rfl, w0⟩ := open_int Try.underlying5 (hval 0 5 v0 rfl rfl) h0
  obtain ⟨a1, rfl, rfl, rfl, w1⟩ := open_int Try.underlying71 (hval 1 71 v1 rfl rfl) h1
  exact told a0 a1 (wf_u8 w0) (wf_u16 w1) _ W _ (.cons (.int _ _) (.cons (.int _ _) (.nil _))) (Sim.none noVars W _ _)
theorem over : Rows.tablePartsRow.holds Try.pinned (OpenSpec.ofChange Rows.tablePartsSpec) :=
  OpenClaim.holds_of_wide 11 Try.f11 rfl rfl rfl rfl rfl rfl rfl ⟨rfl, rfl, rfl, rfl, rfl⟩ rfl rfl rfl rfl rfl (by kernel_rfl) Try.func11 (by kernel_rfl)
    (of_decide_eq_true (by kernel_rfl)) (by unfold Func.isWrapper; first | (rw [if_pos (by decide +kernel)]; kernel_rfl) | (rw [if_neg (by decide +kernel)]; exact ⟨rfl, rfl⟩))
    (fun os started H enc _ => lifted os started H enc)
end Go.Proofs.Ytmphcolclkpnnaa.tableParts
namespace Go.Proofs.Ytmphcolclkpnnaa
/-- The row, under a short name, for the claim. -/
theorem tableParts_holds : Rows.TablePartsSaid := tableParts.over
#print axioms tableParts_holds
end Go.Proofs.Ytmphcolclkpnnaa
