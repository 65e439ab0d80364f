/- A reader reads what a maker made: roads of the reader. -/
import Derived.Test.YtnhdjmpbmecnoaaRrA
import Derived.WalkKit
import Derived.ProofKit
import Derived.OpenShut
import Derived.ChangeOld
import Derived.Below
import Derived.SizedLaws
namespace Go.Proofs.Ytnhdjmpbmecnoaa
open Go.Eng
open Go.ChangeShapes Go.WideShapes Go.ChangeAt Go.RowKit
set_option linter.unusedVariables false
set_option linter.unusedSimpArgs false
set_option maxRecDepth 100000
noncomputable def BK1 : Code := bodyOf Try.prog 10
theorem BK1_is : Try.f10.body = some BK1 := by kernel_rfl
theorem BK1_ok : okCode Try.prog.globals.size BK1 = true := by kernel_rfl
noncomputable abbrev K1EV (isWb : Int → Bool) (sizeN : Int → Int) (c : Code) (s : KSt) (lv : List Nat) : Option (Ex × KSt) := evCK Try.prog cfgK (runK Try.prog cfgK fsK (conTk rs1Dom (rcK [] (rs1T isWb sizeN))) 40 40) 40 c s (normC 0 lv)
theorem K1go {lv_ : List Nat} {co_ : Code} {st_ s' : KSt} {x : Ex} {Q : Ex → St → Prop} (hE_ : K1EV isWb sizeN co_ st_ lv_ = some (x, s')) (hq_ : Q x s'.low) (hok_ : okCode Try.prog.globals.size co_ = true := by kernel_rfl) : Gets Try.prog (KH.low ⟨0, 1, []⟩) co_ st_.low Q := Gets.ofN fitK rs1_sound (rc_agree _ _ _) 40 40 hok_ hE_ hq_
theorem K1eX {v : Value} {b c : Bool} (h : v = .bool b) (hb : b = c) : v = .bool c := by rw [h, hb]
theorem K1C1_1_1_1_1_1_1_1_1 : (codeAt [1, 1, 1, 1, 1, 1, 1, 1, 1] BK1) = .seq (codeAt [1, 1, 1, 1, 1, 1, 1, 1, 1, 0] BK1) (codeAt [1, 1, 1, 1, 1, 1, 1, 1, 1, 1] BK1) := by kernel_rfl
theorem K1C1_1_1_1_1_1_1_1_1_1_1_1_1 : (codeAt [1, 1, 1, 1, 1, 1, 1, 1, 1, 1, 1, 1, 1] BK1) = .seq (codeAt [1, 1, 1, 1, 1, 1, 1, 1, 1, 1, 1, 1, 1, 0] BK1) (codeAt [1, 1, 1, 1, 1, 1, 1, 1, 1, 1, 1, 1, 1, 1] BK1) := by kernel_rfl
section
variable (isWb : Int → Bool) (sizeN : Int → Int)
noncomputable def K1S0 (ks : ByteArray) (vs : ByteArray) (V : List Int) (L : List Int) (m : Nat) (g : Int) : KSt := ⟨(frameL 120 [(0, (.string ks)), (1, (.string vs)), (7, (.pointer (some ⟨0, 0, none⟩))), (10, (.int .u64 2)), (12, (.pointer (some ⟨1, 0, none⟩)))]), ⟨5, 1, [(4, 0, .ints .u64 V 30 true), (3, 0, .ints .u64 L 30 true), (2, 0, .map [((.int .u64 1), (.slice (some ⟨3, 0, none⟩) m m), 0), ((.int .u64 2), (.slice (some ⟨4, 0, none⟩) 1 1), 1)] 2), (1, 0, .cells [(.slice none 0 0), (.bool true), (.int .u64 2)] 79 true), (0, 0, .cells [(.int .i64 20), (.int .i64 g), (.int .i64 0), (.int .u64 2), (.map (some 2))] 94 true)]⟩⟩
noncomputable def K1S1 (ks : ByteArray) (vs : ByteArray) (V : List Int) (L : List Int) (n1 : Int) (m : Nat) (g : Int) : KSt := ⟨(frameL 120 [(0, (.string ks)), (1, (.string vs)), (7, (.pointer (some ⟨0, 0, none⟩))), (10, (.int .u64 2)), (12, (.pointer (some ⟨1, 0, none⟩))), (13, (.int .i64 1)), (14, (.bool true))]), ⟨6, 1, [(5, 0, .ints .u64 V 30 true), (4, 0, .ints .u64 L 30 true), (3, 0, .cells [(.int .u64 n1)] 30 true), (2, 0, .map [((.int .u64 1), (.slice (some ⟨4, 0, none⟩) m m), 0), ((.int .u64 2), (.slice (some ⟨5, 0, none⟩) 1 1), 1)] 2), (1, 0, .cells [(.slice (some ⟨3, 0, none⟩) 1 1), (.bool true), (.int .u64 2)] 79 true), (0, 0, .cells [(.int .i64 20), (.int .i64 g), (.int .i64 0), (.int .u64 2), (.map (some 2))] 94 true)]⟩⟩
theorem K1R1 (ks : ByteArray) (vs : ByteArray) (V : List Int) (L : List Int) (m : Nat) (g : Int) : K1EV isWb sizeN (codeAt [1, 1, 1, 1, 1, 1, 1, 1, 1, 0] BK1) (K1S0 ks vs V L m g) [0, 1, 7, 10, 12, 13, 14] =
  obind (V[0]?) fun n1 =>
    bif ((isWb n1) && ((sizeN n1) == 1)) then
      bif ((isWb n1) && ((sizeN n1) == 1)) then
        some (.normal, (K1S1 ks vs V L n1 m g))
      else
        none
    else
      none := by kernel_rfl
noncomputable def K1S2 (ks : ByteArray) (vs : ByteArray) (V : List Int) (L : List Int) (m : Nat) (g : Int) : KSt := ⟨(frameL 120 [(0, (.string ks)), (1, (.string vs)), (7, (.pointer (some ⟨0, 0, none⟩))), (10, (.int .u64 2)), (12, (.pointer (some ⟨1, 0, none⟩))), (13, (.int .i64 1)), (14, (.bool true))]), ⟨6, 1, [(5, 0, .ints .u64 V 30 true), (4, 0, .ints .u64 L 30 true), (3, 0, .cells [(.int .u64 (V.getD 0 0))] 30 true), (2, 0, .map [((.int .u64 1), (.slice (some ⟨4, 0, none⟩) m m), 0), ((.int .u64 2), (.slice (some ⟨5, 0, none⟩) 1 1), 1)] 2), (1, 0, .cells [(.slice (some ⟨3, 0, none⟩) 1 1), (.bool true), (.int .u64 2)] 79 true), (0, 0, .cells [(.int .i64 20), (.int .i64 g), (.int .i64 0), (.int .u64 2), (.map (some 2))] 94 true)]⟩⟩
noncomputable def K1S3 (V : List Int) (L : List Int) (m : Nat) (ks : ByteArray) (vs : ByteArray) (g : Int) : KSt := ⟨(frameL 120 [(7, (.pointer (some ⟨0, 0, none⟩))), (15, (.pointer (some ⟨1, 0, none⟩))), (17, (.pointer (some ⟨2, 0, none⟩)))]), ⟨6, 1, [(5, 0, .ints .u64 V 30 true), (4, 0, .ints .u64 L 30 true), (3, 0, .map [((.int .u64 1), (.slice (some ⟨4, 0, none⟩) m m), 0), ((.int .u64 2), (.slice (some ⟨5, 0, none⟩) 1 1), 1)] 2), (2, 0, .cells [(.slice none 0 0), (.bool true), (.int .u64 2)] 79 true), (1, 0, .cells [(.string ks), (.string vs)] 39 true), (0, 0, .cells [(.int .i64 20), (.int .i64 g), (.int .i64 0), (.int .u64 2), (.map (some 3))] 94 true)]⟩⟩
noncomputable def K1S4 (V : List Int) (L : List Int) (n1 : Int) (m : Nat) (ks : ByteArray) (vs : ByteArray) (g : Int) : KSt := ⟨(frameL 120 [(7, (.pointer (some ⟨0, 0, none⟩))), (15, (.pointer (some ⟨1, 0, none⟩))), (17, (.pointer (some ⟨2, 0, none⟩)))]), ⟨7, 1, [(6, 0, .ints .u64 V 30 true), (5, 0, .ints .u64 L 30 true), (4, 0, .cells [(.int .u64 n1)] 30 true), (3, 0, .map [((.int .u64 1), (.slice (some ⟨5, 0, none⟩) m m), 0), ((.int .u64 2), (.slice (some ⟨6, 0, none⟩) 1 1), 1)] 2), (2, 0, .cells [(.slice (some ⟨4, 0, none⟩) 1 1), (.bool true), (.int .u64 2)] 79 true), (1, 0, .cells [(.string ks), (.string vs)] 39 true), (0, 0, .cells [(.int .i64 20), (.int .i64 g), (.int .i64 0), (.int .u64 2), (.map (some 3))] 94 true)]⟩⟩
theorem K1R2 (V : List Int) (L : List Int) (m : Nat) (ks : ByteArray) (vs : ByteArray) (g : Int) : K1EV isWb sizeN (codeAt [1, 1, 1, 1, 1, 1, 1, 1, 1, 1, 1, 1, 1, 0] BK1) (K1S3 V L m ks vs g) [7, 15, 17] =
  obind (V[0]?) fun n1 =>
    bif ((isWb n1) && ((sizeN n1) == 1)) then
      bif ((isWb n1) && ((sizeN n1) == 1)) then
        some (.normal, (K1S4 V L n1 m ks vs g))
      else
        none
    else
      none := by kernel_rfl
noncomputable def K1S5 (V : List Int) (L : List Int) (m : Nat) (ks : ByteArray) (vs : ByteArray) (g : Int) : KSt := ⟨(frameL 120 [(7, (.pointer (some ⟨0, 0, none⟩))), (15, (.pointer (some ⟨1, 0, none⟩))), (17, (.pointer (some ⟨2, 0, none⟩)))]), ⟨7, 1, [(6, 0, .ints .u64 V 30 true), (5, 0, .ints .u64 L 30 true), (4, 0, .cells [(.int .u64 (V.getD 0 0))] 30 true), (3, 0, .map [((.int .u64 1), (.slice (some ⟨5, 0, none⟩) m m), 0), ((.int .u64 2), (.slice (some ⟨6, 0, none⟩) 1 1), 1)] 2), (2, 0, .cells [(.slice (some ⟨4, 0, none⟩) 1 1), (.bool true), (.int .u64 2)] 79 true), (1, 0, .cells [(.string ks), (.string vs)] 39 true), (0, 0, .cells [(.int .i64 20), (.int .i64 g), (.int .i64 0), (.int .u64 2), (.map (some 3))] 94 true)]⟩⟩
end
theorem K1d {V : List Int} {ks : ByteArray} {vs : ByteArray} {L : List Int} {m : Nat} {g : Int} (hV : V.length = 1) (hwb : isWb (V.getD 0 0) = true) (hsz : (sizeN (V.getD 0 0) == 1) = true)   {Q : Ex → St → Prop} (hq : Gets Try.prog (KH.low ⟨0, 1, []⟩) (codeAt [1, 1, 1, 1, 1, 1, 1, 1, 1, 1] BK1) (KSt.low (K1S2 ks vs V L m g)) (Q)) : Gets Try.prog (KH.low ⟨0, 1, []⟩) (codeAt [1, 1, 1, 1, 1, 1, 1, 1, 1] BK1) (KSt.low (K1S0 ks vs V L m g)) Q := by
  rw [K1C1_1_1_1_1_1_1_1_1]; refine Gets.seq ?_
  refine K1go (x := .normal) (s' := (K1S2 ks vs V L m g)) ((K1R1 isWb sizeN ks vs V L m g).trans (by rw [obind_at (k := 0) (by omega) (by omega), condT (and_t (hwb) (hsz)), condT (and_t (hwb) (hsz))] <;> rfl)) ?_
  exact hq
theorem K1f {V : List Int} {L : List Int} {m : Nat} {ks : ByteArray} {vs : ByteArray} {g : Int} (hV : V.length = 1) (hwb : isWb (V.getD 0 0) = true) (hsz : (sizeN (V.getD 0 0) == 1) = true)   {Q : Ex → St → Prop} (hq : Gets Try.prog (KH.low ⟨0, 1, []⟩) (codeAt [1, 1, 1, 1, 1, 1, 1, 1, 1, 1, 1, 1, 1, 1] BK1) (KSt.low (K1S5 V L m ks vs g)) (Q)) : Gets Try.prog (KH.low ⟨0, 1, []⟩) (codeAt [1, 1, 1, 1, 1, 1, 1, 1, 1, 1, 1, 1, 1] BK1) (KSt.low (K1S3 V L m ks vs g)) Q := by
  rw [K1C1_1_1_1_1_1_1_1_1_1_1_1_1]; refine Gets.seq ?_
  refine K1go (x := .normal) (s' := (K1S5 V L m ks vs g)) ((K1R2 isWb sizeN V L m ks vs g).trans (by rw [obind_at (k := 0) (by omega) (by omega), condT (and_t (hwb) (hsz)), condT (and_t (hwb) (hsz))] <;> rfl)) ?_
  exact hq
noncomputable def BK2 : Code := bodyOf Try.prog 10
theorem BK2_is : Try.f10.body = some BK2 := by kernel_rfl
theorem BK2_ok : okCode Try.prog.globals.size BK2 = true := by kernel_rfl
noncomputable abbrev K2EV (isWb : Int → Bool) (sizeN : Int → Int) (c : Code) (s : KSt) (lv : List Nat) : Option (Ex × KSt) := evCK Try.prog cfgK (runK Try.prog cfgK fsK (conTk rs2Dom (rcK [] (rs2T isWb sizeN))) 40 40) 40 c s (normC 0 lv)
theorem K2go {lv_ : List Nat} {co_ : Code} {st_ s' : KSt} {x : Ex} {Q : Ex → St → Prop} (hE_ : K2EV isWb sizeN co_ st_ lv_ = some (x, s')) (hq_ : Q x s'.low) (hok_ : okCode Try.prog.globals.size co_ = true := by kernel_rfl) : Gets Try.prog (KH.low ⟨0, 1, []⟩) co_ st_.low Q := Gets.ofN fitK rs2_sound (rc_agree _ _ _) 40 40 hok_ hE_ hq_
theorem K2eX {v : Value} {b c : Bool} (h : v = .bool b) (hb : b = c) : v = .bool c := by rw [h, hb]
theorem K2C1_1_1_1_1_1_1_1_1 : (codeAt [1, 1, 1, 1, 1, 1, 1, 1, 1] BK2) = .seq (codeAt [1, 1, 1, 1, 1, 1, 1, 1, 1, 0] BK2) (codeAt [1, 1, 1, 1, 1, 1, 1, 1, 1, 1] BK2) := by kernel_rfl
theorem K2C1_1_1_1_1_1_1_1_1_1_1_1_1 : (codeAt [1, 1, 1, 1, 1, 1, 1, 1, 1, 1, 1, 1, 1] BK2) = .seq (codeAt [1, 1, 1, 1, 1, 1, 1, 1, 1, 1, 1, 1, 1, 0] BK2) (codeAt [1, 1, 1, 1, 1, 1, 1, 1, 1, 1, 1, 1, 1, 1] BK2) := by kernel_rfl
section
variable (isWb : Int → Bool) (sizeN : Int → Int)
noncomputable def K2S0 (ks : ByteArray) (vs : ByteArray) (V : List Int) (L : List Int) (m : Nat) (g : Int) : KSt := ⟨(frameL 120 [(0, (.string ks)), (1, (.string vs)), (7, (.pointer (some ⟨0, 0, none⟩))), (10, (.int .u64 2)), (12, (.pointer (some ⟨1, 0, none⟩)))]), ⟨5, 1, [(4, 0, .ints .u64 V 30 true), (3, 0, .ints .u64 L 30 true), (2, 0, .map [((.int .u64 1), (.slice (some ⟨3, 0, none⟩) m m), 0), ((.int .u64 2), (.slice (some ⟨4, 0, none⟩) 2 2), 1)] 2), (1, 0, .cells [(.slice none 0 0), (.bool true), (.int .u64 2)] 79 true), (0, 0, .cells [(.int .i64 20), (.int .i64 g), (.int .i64 0), (.int .u64 2), (.map (some 2))] 94 true)]⟩⟩
noncomputable def K2S1 (ks : ByteArray) (vs : ByteArray) (V : List Int) (L : List Int) (n1 : Int) (n2 : Int) (m : Nat) (g : Int) : KSt := ⟨(frameL 120 [(0, (.string ks)), (1, (.string vs)), (7, (.pointer (some ⟨0, 0, none⟩))), (10, (.int .u64 2)), (12, (.pointer (some ⟨1, 0, none⟩))), (13, (.int .i64 2)), (14, (.bool true))]), ⟨6, 1, [(5, 0, .ints .u64 V 30 true), (4, 0, .ints .u64 L 30 true), (3, 0, .cells [(.int .u64 n1), (.int .u64 n2)] 30 true), (2, 0, .map [((.int .u64 1), (.slice (some ⟨4, 0, none⟩) m m), 0), ((.int .u64 2), (.slice (some ⟨5, 0, none⟩) 2 2), 1)] 2), (1, 0, .cells [(.slice (some ⟨3, 0, none⟩) 2 2), (.bool true), (.int .u64 2)] 79 true), (0, 0, .cells [(.int .i64 20), (.int .i64 g), (.int .i64 0), (.int .u64 2), (.map (some 2))] 94 true)]⟩⟩
theorem K2R1 (ks : ByteArray) (vs : ByteArray) (V : List Int) (L : List Int) (m : Nat) (g : Int) : K2EV isWb sizeN (codeAt [1, 1, 1, 1, 1, 1, 1, 1, 1, 0] BK2) (K2S0 ks vs V L m g) [0, 1, 7, 10, 12, 13, 14] =
  obind (V[0]?) fun n1 =>
    bif ((isWb n1) && ((sizeN n1) == 2)) then
      obind (V[1]?) fun n2 =>
        bif ((isWb n1) && ((sizeN n1) == 2)) then
          bif ((isWb n1) && ((sizeN n1) == 2)) then
            bif ((isWb n1) && ((sizeN n1) == 2)) then
              some (.normal, (K2S1 ks vs V L n1 n2 m g))
            else
              none
          else
            none
        else
          none
    else
      none := by kernel_rfl
noncomputable def K2S2 (ks : ByteArray) (vs : ByteArray) (V : List Int) (L : List Int) (m : Nat) (g : Int) : KSt := ⟨(frameL 120 [(0, (.string ks)), (1, (.string vs)), (7, (.pointer (some ⟨0, 0, none⟩))), (10, (.int .u64 2)), (12, (.pointer (some ⟨1, 0, none⟩))), (13, (.int .i64 2)), (14, (.bool true))]), ⟨6, 1, [(5, 0, .ints .u64 V 30 true), (4, 0, .ints .u64 L 30 true), (3, 0, .cells [(.int .u64 (V.getD 0 0)), (.int .u64 (V.getD 1 0))] 30 true), (2, 0, .map [((.int .u64 1), (.slice (some ⟨4, 0, none⟩) m m), 0), ((.int .u64 2), (.slice (some ⟨5, 0, none⟩) 2 2), 1)] 2), (1, 0, .cells [(.slice (some ⟨3, 0, none⟩) 2 2), (.bool true), (.int .u64 2)] 79 true), (0, 0, .cells [(.int .i64 20), (.int .i64 g), (.int .i64 0), (.int .u64 2), (.map (some 2))] 94 true)]⟩⟩
noncomputable def K2S3 (V : List Int) (L : List Int) (m : Nat) (ks : ByteArray) (vs : ByteArray) (g : Int) : KSt := ⟨(frameL 120 [(7, (.pointer (some ⟨0, 0, none⟩))), (15, (.pointer (some ⟨1, 0, none⟩))), (17, (.pointer (some ⟨2, 0, none⟩)))]), ⟨6, 1, [(5, 0, .ints .u64 V 30 true), (4, 0, .ints .u64 L 30 true), (3, 0, .map [((.int .u64 1), (.slice (some ⟨4, 0, none⟩) m m), 0), ((.int .u64 2), (.slice (some ⟨5, 0, none⟩) 2 2), 1)] 2), (2, 0, .cells [(.slice none 0 0), (.bool true), (.int .u64 2)] 79 true), (1, 0, .cells [(.string ks), (.string vs)] 39 true), (0, 0, .cells [(.int .i64 20), (.int .i64 g), (.int .i64 0), (.int .u64 2), (.map (some 3))] 94 true)]⟩⟩
noncomputable def K2S4 (V : List Int) (L : List Int) (n1 : Int) (n2 : Int) (m : Nat) (ks : ByteArray) (vs : ByteArray) (g : Int) : KSt := ⟨(frameL 120 [(7, (.pointer (some ⟨0, 0, none⟩))), (15, (.pointer (some ⟨1, 0, none⟩))), (17, (.pointer (some ⟨2, 0, none⟩)))]), ⟨7, 1, [(6, 0, .ints .u64 V 30 true), (5, 0, .ints .u64 L 30 true), (4, 0, .cells [(.int .u64 n1), (.int .u64 n2)] 30 true), (3, 0, .map [((.int .u64 1), (.slice (some ⟨5, 0, none⟩) m m), 0), ((.int .u64 2), (.slice (some ⟨6, 0, none⟩) 2 2), 1)] 2), (2, 0, .cells [(.slice (some ⟨4, 0, none⟩) 2 2), (.bool true), (.int .u64 2)] 79 true), (1, 0, .cells [(.string ks), (.string vs)] 39 true), (0, 0, .cells [(.int .i64 20), (.int .i64 g), (.int .i64 0), (.int .u64 2), (.map (some 3))] 94 true)]⟩⟩
theorem K2R2 (V : List Int) (L : List Int) (m : Nat) (ks : ByteArray) (vs : ByteArray) (g : Int) : K2EV isWb sizeN (codeAt [1, 1, 1, 1, 1, 1, 1, 1, 1, 1, 1, 1, 1, 0] BK2) (K2S3 V L m ks vs g) [7, 15, 17] =
  obind (V[0]?) fun n1 =>
    bif ((isWb n1) && ((sizeN n1) == 2)) then
      obind (V[1]?) fun n2 =>
        bif ((isWb n1) && ((sizeN n1) == 2)) then
          bif ((isWb n1) && ((sizeN n1) == 2)) then
            bif ((isWb n1) && ((sizeN n1) == 2)) then
              some (.normal, (K2S4 V L n1 n2 m ks vs g))
            else
              none
          else
            none
        else
          none
    else
      none := by kernel_rfl
noncomputable def K2S5 (V : List Int) (L : List Int) (m : Nat) (ks : ByteArray) (vs : ByteArray) (g : Int) : KSt := ⟨(frameL 120 [(7, (.pointer (some ⟨0, 0, none⟩))), (15, (.pointer (some ⟨1, 0, none⟩))), (17, (.pointer (some ⟨2, 0, none⟩)))]), ⟨7, 1, [(6, 0, .ints .u64 V 30 true), (5, 0, .ints .u64 L 30 true), (4, 0, .cells [(.int .u64 (V.getD 0 0)), (.int .u64 (V.getD 1 0))] 30 true), (3, 0, .map [((.int .u64 1), (.slice (some ⟨5, 0, none⟩) m m), 0), ((.int .u64 2), (.slice (some ⟨6, 0, none⟩) 2 2), 1)] 2), (2, 0, .cells [(.slice (some ⟨4, 0, none⟩) 2 2), (.bool true), (.int .u64 2)] 79 true), (1, 0, .cells [(.string ks), (.string vs)] 39 true), (0, 0, .cells [(.int .i64 20), (.int .i64 g), (.int .i64 0), (.int .u64 2), (.map (some 3))] 94 true)]⟩⟩
end
theorem K2d {V : List Int} {ks : ByteArray} {vs : ByteArray} {L : List Int} {m : Nat} {g : Int} (hV : V.length = 2) (hwb : isWb (V.getD 0 0) = true) (hsz : (sizeN (V.getD 0 0) == 2) = true)   {Q : Ex → St → Prop} (hq : Gets Try.prog (KH.low ⟨0, 1, []⟩) (codeAt [1, 1, 1, 1, 1, 1, 1, 1, 1, 1] BK2) (KSt.low (K2S2 ks vs V L m g)) (Q)) : Gets Try.prog (KH.low ⟨0, 1, []⟩) (codeAt [1, 1, 1, 1, 1, 1, 1, 1, 1] BK2) (KSt.low (K2S0 ks vs V L m g)) Q := by
  rw [K2C1_1_1_1_1_1_1_1_1]; refine Gets.seq ?_
  refine K2go (x := .normal) (s' := (K2S2 ks vs V L m g)) ((K2R1 isWb sizeN ks vs V L m g).trans (by rw [obind_at (k := 0) (by omega) (by omega), condT (and_t (hwb) (hsz)), obind_at (k := 1) (by omega) (by omega), condT (and_t (hwb) (hsz)), condT (and_t (hwb) (hsz)), condT (and_t (hwb) (hsz))] <;> rfl)) ?_
  exact hq
theorem K2f {V : List Int} {L : List Int} {m : Nat} {ks : ByteArray} {vs : ByteArray} {g : Int} (hV : V.length = 2) (hwb : isWb (V.getD 0 0) = true) (hsz : (sizeN (V.getD 0 0) == 2) = true)   {Q : Ex → St → Prop} (hq : Gets Try.prog (KH.low ⟨0, 1, []⟩) (codeAt [1, 1, 1, 1, 1, 1, 1, 1, 1, 1, 1, 1, 1, 1] BK2) (KSt.low (K2S5 V L m ks vs g)) (Q)) : Gets Try.prog (KH.low ⟨0, 1, []⟩) (codeAt [1, 1, 1, 1, 1, 1, 1, 1, 1, 1, 1, 1, 1] BK2) (KSt.low (K2S3 V L m ks vs g)) Q := by
  rw [K2C1_1_1_1_1_1_1_1_1_1_1_1_1]; refine Gets.seq ?_
  refine K2go (x := .normal) (s' := (K2S5 V L m ks vs g)) ((K2R2 isWb sizeN V L m ks vs g).trans (by rw [obind_at (k := 0) (by omega) (by omega), condT (and_t (hwb) (hsz)), obind_at (k := 1) (by omega) (by omega), condT (and_t (hwb) (hsz)), condT (and_t (hwb) (hsz)), condT (and_t (hwb) (hsz))] <;> rfl)) ?_
  exact hq
noncomputable def BK3 : Code := bodyOf Try.prog 10
theorem BK3_is : Try.f10.body = some BK3 := by kernel_rfl
theorem BK3_ok : okCode Try.prog.globals.size BK3 = true := by kernel_rfl
noncomputable abbrev K3EV (isWb : Int → Bool) (sizeN : Int → Int) (c : Code) (s : KSt) (lv : List Nat) : Option (Ex × KSt) := evCK Try.prog cfgK (runK Try.prog cfgK fsK (conTk rs3Dom (rcK [] (rs3T isWb sizeN))) 40 40) 40 c s (normC 0 lv)
theorem K3go {lv_ : List Nat} {co_ : Code} {st_ s' : KSt} {x : Ex} {Q : Ex → St → Prop} (hE_ : K3EV isWb sizeN co_ st_ lv_ = some (x, s')) (hq_ : Q x s'.low) (hok_ : okCode Try.prog.globals.size co_ = true := by kernel_rfl) : Gets Try.prog (KH.low ⟨0, 1, []⟩) co_ st_.low Q := Gets.ofN fitK rs3_sound (rc_agree _ _ _) 40 40 hok_ hE_ hq_
theorem K3eX {v : Value} {b c : Bool} (h : v = .bool b) (hb : b = c) : v = .bool c := by rw [h, hb]
theorem K3C1_1_1_1_1_1_1_1_1 : (codeAt [1, 1, 1, 1, 1, 1, 1, 1, 1] BK3) = .seq (codeAt [1, 1, 1, 1, 1, 1, 1, 1, 1, 0] BK3) (codeAt [1, 1, 1, 1, 1, 1, 1, 1, 1, 1] BK3) := by kernel_rfl
theorem K3C1_1_1_1_1_1_1_1_1_1_1_1_1 : (codeAt [1, 1, 1, 1, 1, 1, 1, 1, 1, 1, 1, 1, 1] BK3) = .seq (codeAt [1, 1, 1, 1, 1, 1, 1, 1, 1, 1, 1, 1, 1, 0] BK3) (codeAt [1, 1, 1, 1, 1, 1, 1, 1, 1, 1, 1, 1, 1, 1] BK3) := by kernel_rfl
section
variable (isWb : Int → Bool) (sizeN : Int → Int)
noncomputable def K3S0 (ks : ByteArray) (vs : ByteArray) (V : List Int) (L : List Int) (m : Nat) (g : Int) : KSt := ⟨(frameL 120 [(0, (.string ks)), (1, (.string vs)), (7, (.pointer (some ⟨0, 0, none⟩))), (10, (.int .u64 2)), (12, (.pointer (some ⟨1, 0, none⟩)))]), ⟨5, 1, [(4, 0, .ints .u64 V 30 true), (3, 0, .ints .u64 L 30 true), (2, 0, .map [((.int .u64 1), (.slice (some ⟨3, 0, none⟩) m m), 0), ((.int .u64 2), (.slice (some ⟨4, 0, none⟩) 3 3), 1)] 2), (1, 0, .cells [(.slice none 0 0), (.bool true), (.int .u64 2)] 79 true), (0, 0, .cells [(.int .i64 20), (.int .i64 g), (.int .i64 0), (.int .u64 2), (.map (some 2))] 94 true)]⟩⟩
noncomputable def K3S1 (ks : ByteArray) (vs : ByteArray) (V : List Int) (L : List Int) (n1 : Int) (n2 : Int) (n3 : Int) (m : Nat) (g : Int) : KSt := ⟨(frameL 120 [(0, (.string ks)), (1, (.string vs)), (7, (.pointer (some ⟨0, 0, none⟩))), (10, (.int .u64 2)), (12, (.pointer (some ⟨1, 0, none⟩))), (13, (.int .i64 3)), (14, (.bool true))]), ⟨6, 1, [(5, 0, .ints .u64 V 30 true), (4, 0, .ints .u64 L 30 true), (3, 0, .cells [(.int .u64 n1), (.int .u64 n2), (.int .u64 n3)] 30 true), (2, 0, .map [((.int .u64 1), (.slice (some ⟨4, 0, none⟩) m m), 0), ((.int .u64 2), (.slice (some ⟨5, 0, none⟩) 3 3), 1)] 2), (1, 0, .cells [(.slice (some ⟨3, 0, none⟩) 3 3), (.bool true), (.int .u64 2)] 79 true), (0, 0, .cells [(.int .i64 20), (.int .i64 g), (.int .i64 0), (.int .u64 2), (.map (some 2))] 94 true)]⟩⟩
theorem K3R1 (ks : ByteArray) (vs : ByteArray) (V : List Int) (L : List Int) (m : Nat) (g : Int) : K3EV isWb sizeN (codeAt [1, 1, 1, 1, 1, 1, 1, 1, 1, 0] BK3) (K3S0 ks vs V L m g) [0, 1, 7, 10, 12, 13, 14] =
  obind (V[0]?) fun n1 =>
    bif ((isWb n1) && ((sizeN n1) == 3)) then
      obind (V[1]?) fun n2 =>
        bif ((isWb n1) && ((sizeN n1) == 3)) then
          bif ((isWb n1) && ((sizeN n1) == 3)) then
            obind (V[2]?) fun n3 =>
              bif ((isWb n1) && ((sizeN n1) == 3)) then
                bif ((isWb n1) && ((sizeN n1) == 3)) then
                  bif ((isWb n1) && ((sizeN n1) == 3)) then
                    some (.normal, (K3S1 ks vs V L n1 n2 n3 m g))
                  else
                    none
                else
                  none
              else
                none
          else
            none
        else
          none
    else
      none := by kernel_rfl
noncomputable def K3S2 (ks : ByteArray) (vs : ByteArray) (V : List Int) (L : List Int) (m : Nat) (g : Int) : KSt := ⟨(frameL 120 [(0, (.string ks)), (1, (.string vs)), (7, (.pointer (some ⟨0, 0, none⟩))), (10, (.int .u64 2)), (12, (.pointer (some ⟨1, 0, none⟩))), (13, (.int .i64 3)), (14, (.bool true))]), ⟨6, 1, [(5, 0, .ints .u64 V 30 true), (4, 0, .ints .u64 L 30 true), (3, 0, .cells [(.int .u64 (V.getD 0 0)), (.int .u64 (V.getD 1 0)), (.int .u64 (V.getD 2 0))] 30 true), (2, 0, .map [((.int .u64 1), (.slice (some ⟨4, 0, none⟩) m m), 0), ((.int .u64 2), (.slice (some ⟨5, 0, none⟩) 3 3), 1)] 2), (1, 0, .cells [(.slice (some ⟨3, 0, none⟩) 3 3), (.bool true), (.int .u64 2)] 79 true), (0, 0, .cells [(.int .i64 20), (.int .i64 g), (.int .i64 0), (.int .u64 2), (.map (some 2))] 94 true)]⟩⟩
noncomputable def K3S3 (V : List Int) (L : List Int) (m : Nat) (ks : ByteArray) (vs : ByteArray) (g : Int) : KSt := ⟨(frameL 120 [(7, (.pointer (some ⟨0, 0, none⟩))), (15, (.pointer (some ⟨1, 0, none⟩))), (17, (.pointer (some ⟨2, 0, none⟩)))]), ⟨6, 1, [(5, 0, .ints .u64 V 30 true), (4, 0, .ints .u64 L 30 true), (3, 0, .map [((.int .u64 1), (.slice (some ⟨4, 0, none⟩) m m), 0), ((.int .u64 2), (.slice (some ⟨5, 0, none⟩) 3 3), 1)] 2), (2, 0, .cells [(.slice none 0 0), (.bool true), (.int .u64 2)] 79 true), (1, 0, .cells [(.string ks), (.string vs)] 39 true), (0, 0, .cells [(.int .i64 20), (.int .i64 g), (.int .i64 0), (.int .u64 2), (.map (some 3))] 94 true)]⟩⟩
noncomputable def K3S4 (V : List Int) (L : List Int) (n1 : Int) (n2 : Int) (n3 : Int) (m : Nat) (ks : ByteArray) (vs : ByteArray) (g : Int) : KSt := ⟨(frameL 120 [(7, (.pointer (some ⟨0, 0, none⟩))), (15, (.pointer (some ⟨1, 0, none⟩))), (17, (.pointer (some ⟨2, 0, none⟩)))]), ⟨7, 1, [(6, 0, .ints .u64 V 30 true), (5, 0, .ints .u64 L 30 true), (4, 0, .cells [(.int .u64 n1), (.int .u64 n2), (.int .u64 n3)] 30 true), (3, 0, .map [((.int .u64 1), (.slice (some ⟨5, 0, none⟩) m m), 0), ((.int .u64 2), (.slice (some ⟨6, 0, none⟩) 3 3), 1)] 2), (2, 0, .cells [(.slice (some ⟨4, 0, none⟩) 3 3), (.bool true), (.int .u64 2)] 79 true), (1, 0, .cells [(.string ks), (.string vs)] 39 true), (0, 0, .cells [(.int .i64 20), (.int .i64 g), (.int .i64 0), (.int .u64 2), (.map (some 3))] 94 true)]⟩⟩
theorem K3R2 (V : List Int) (L : List Int) (m : Nat) (ks : ByteArray) (vs : ByteArray) (g : Int) : K3EV isWb sizeN (codeAt [1, 1, 1, 1, 1, 1, 1, 1, 1, 1, 1, 1, 1, 0] BK3) (K3S3 V L m ks vs g) [7, 15, 17] =
  obind (V[0]?) fun n1 =>
    bif ((isWb n1) && ((sizeN n1) == 3)) then
      obind (V[1]?) fun n2 =>
        bif ((isWb n1) && ((sizeN n1) == 3)) then
          bif ((isWb n1) && ((sizeN n1) == 3)) then
            obind (V[2]?) fun n3 =>
              bif ((isWb n1) && ((sizeN n1) == 3)) then
                bif ((isWb n1) && ((sizeN n1) == 3)) then
                  bif ((isWb n1) && ((sizeN n1) == 3)) then
                    some (.normal, (K3S4 V L n1 n2 n3 m ks vs g))
                  else
                    none
                else
                  none
              else
                none
          else
            none
        else
          none
    else
      none := by kernel_rfl
noncomputable def K3S5 (V : List Int) (L : List Int) (m : Nat) (ks : ByteArray) (vs : ByteArray) (g : Int) : KSt := ⟨(frameL 120 [(7, (.pointer (some ⟨0, 0, none⟩))), (15, (.pointer (some ⟨1, 0, none⟩))), (17, (.pointer (some ⟨2, 0, none⟩)))]), ⟨7, 1, [(6, 0, .ints .u64 V 30 true), (5, 0, .ints .u64 L 30 true), (4, 0, .cells [(.int .u64 (V.getD 0 0)), (.int .u64 (V.getD 1 0)), (.int .u64 (V.getD 2 0))] 30 true), (3, 0, .map [((.int .u64 1), (.slice (some ⟨5, 0, none⟩) m m), 0), ((.int .u64 2), (.slice (some ⟨6, 0, none⟩) 3 3), 1)] 2), (2, 0, .cells [(.slice (some ⟨4, 0, none⟩) 3 3), (.bool true), (.int .u64 2)] 79 true), (1, 0, .cells [(.string ks), (.string vs)] 39 true), (0, 0, .cells [(.int .i64 20), (.int .i64 g), (.int .i64 0), (.int .u64 2), (.map (some 3))] 94 true)]⟩⟩
end
theorem K3d {V : List Int} {ks : ByteArray} {vs : ByteArray} {L : List Int} {m : Nat} {g : Int} (hV : V.length = 3) (hwb : isWb (V.getD 0 0) = true) (hsz : (sizeN (V.getD 0 0) == 3) = true)   {Q : Ex → St → Prop} (hq : Gets Try.prog (KH.low ⟨0, 1, []⟩) (codeAt [1, 1, 1, 1, 1, 1, 1, 1, 1, 1] BK3) (KSt.low (K3S2 ks vs V L m g)) (Q)) : Gets Try.prog (KH.low ⟨0, 1, []⟩) (codeAt [1, 1, 1, 1, 1, 1, 1, 1, 1] BK3) (KSt.low (K3S0 ks vs V L m g)) Q := by
  rw [K3C1_1_1_1_1_1_1_1_1]; refine Gets.seq ?_
  refine K3go (x := .normal) (s' := (K3S2 ks vs V L m g)) ((K3R1 isWb sizeN ks vs V L m g).trans (by rw [obind_at (k := 0) (by omega) (by omega), condT (and_t (hwb) (hsz)), obind_at (k := 1) (by omega) (by omega), condT (and_t (hwb) (hsz)), condT (and_t (hwb) (hsz)), obind_at (k := 2) (by omega) (by omega), condT (and_t (hwb) (hsz)), condT (and_t (hwb) (hsz)), condT (and_t (hwb) (hsz))] <;> rfl)) ?_
  exact hq
theorem K3f {V : List Int} {L : List Int} {m : Nat} {ks : ByteArray} {vs : ByteArray} {g : Int} (hV : V.length = 3) (hwb : isWb (V.getD 0 0) = true) (hsz : (sizeN (V.getD 0 0) == 3) = true)   {Q : Ex → St → Prop} (hq : Gets Try.prog (KH.low ⟨0, 1, []⟩) (codeAt [1, 1, 1, 1, 1, 1, 1, 1, 1, 1, 1, 1, 1, 1] BK3) (KSt.low (K3S5 V L m ks vs g)) (Q)) : Gets Try.prog (KH.low ⟨0, 1, []⟩) (codeAt [1, 1, 1, 1, 1, 1, 1, 1, 1, 1, 1, 1, 1] BK3) (KSt.low (K3S3 V L m ks vs g)) Q := by
  rw [K3C1_1_1_1_1_1_1_1_1_1_1_1_1]; refine Gets.seq ?_
  refine K3go (x := .normal) (s' := (K3S5 V L m ks vs g)) ((K3R2 isWb sizeN V L m ks vs g).trans (by rw [obind_at (k := 0) (by omega) (by omega), condT (and_t (hwb) (hsz)), obind_at (k := 1) (by omega) (by omega), condT (and_t (hwb) (hsz)), condT (and_t (hwb) (hsz)), obind_at (k := 2) (by omega) (by omega), condT (and_t (hwb) (hsz)), condT (and_t (hwb) (hsz)), condT (and_t (hwb) (hsz))] <;> rfl)) ?_
  exact hq
noncomputable def BK4 : Code := bodyOf Try.prog 10
theorem BK4_is : Try.f10.body = some BK4 := by kernel_rfl
theorem BK4_ok : okCode Try.prog.globals.size BK4 = true := by kernel_rfl
noncomputable abbrev K4EV (isWb : Int → Bool) (sizeN : Int → Int) (c : Code) (s : KSt) (lv : List Nat) : Option (Ex × KSt) := evCK Try.prog cfgK (runK Try.prog cfgK fsK (conTk rs4Dom (rcK [] (rs4T isWb sizeN))) 40 40) 40 c s (normC 0 lv)
theorem K4go {lv_ : List Nat} {co_ : Code} {st_ s' : KSt} {x : Ex} {Q : Ex → St → Prop} (hE_ : K4EV isWb sizeN co_ st_ lv_ = some (x, s')) (hq_ : Q x s'.low) (hok_ : okCode Try.prog.globals.size co_ = true := by kernel_rfl) : Gets Try.prog (KH.low ⟨0, 1, []⟩) co_ st_.low Q := Gets.ofN fitK rs4_sound (rc_agree _ _ _) 40 40 hok_ hE_ hq_
theorem K4eX {v : Value} {b c : Bool} (h : v = .bool b) (hb : b = c) : v = .bool c := by rw [h, hb]
theorem K4C1_1_1_1_1_1_1_1_1 : (codeAt [1, 1, 1, 1, 1, 1, 1, 1, 1] BK4) = .seq (codeAt [1, 1, 1, 1, 1, 1, 1, 1, 1, 0] BK4) (codeAt [1, 1, 1, 1, 1, 1, 1, 1, 1, 1] BK4) := by kernel_rfl
theorem K4C1_1_1_1_1_1_1_1_1_1_1_1_1 : (codeAt [1, 1, 1, 1, 1, 1, 1, 1, 1, 1, 1, 1, 1] BK4) = .seq (codeAt [1, 1, 1, 1, 1, 1, 1, 1, 1, 1, 1, 1, 1, 0] BK4) (codeAt [1, 1, 1, 1, 1, 1, 1, 1, 1, 1, 1, 1, 1, 1] BK4) := by kernel_rfl
section
variable (isWb : Int → Bool) (sizeN : Int → Int)
noncomputable def K4S0 (ks : ByteArray) (vs : ByteArray) (V : List Int) (L : List Int) (m : Nat) (g : Int) : KSt := ⟨(frameL 120 [(0, (.string ks)), (1, (.string vs)), (7, (.pointer (some ⟨0, 0, none⟩))), (10, (.int .u64 2)), (12, (.pointer (some ⟨1, 0, none⟩)))]), ⟨5, 1, [(4, 0, .ints .u64 V 30 true), (3, 0, .ints .u64 L 30 true), (2, 0, .map [((.int .u64 1), (.slice (some ⟨3, 0, none⟩) m m), 0), ((.int .u64 2), (.slice (some ⟨4, 0, none⟩) 4 4), 1)] 2), (1, 0, .cells [(.slice none 0 0), (.bool true), (.int .u64 2)] 79 true), (0, 0, .cells [(.int .i64 20), (.int .i64 g), (.int .i64 0), (.int .u64 2), (.map (some 2))] 94 true)]⟩⟩
noncomputable def K4S1 (ks : ByteArray) (vs : ByteArray) (V : List Int) (L : List Int) (n1 : Int) (n2 : Int) (n3 : Int) (n4 : Int) (m : Nat) (g : Int) : KSt := ⟨(frameL 120 [(0, (.string ks)), (1, (.string vs)), (7, (.pointer (some ⟨0, 0, none⟩))), (10, (.int .u64 2)), (12, (.pointer (some ⟨1, 0, none⟩))), (13, (.int .i64 4)), (14, (.bool true))]), ⟨6, 1, [(5, 0, .ints .u64 V 30 true), (4, 0, .ints .u64 L 30 true), (3, 0, .cells [(.int .u64 n1), (.int .u64 n2), (.int .u64 n3), (.int .u64 n4)] 30 true), (2, 0, .map [((.int .u64 1), (.slice (some ⟨4, 0, none⟩) m m), 0), ((.int .u64 2), (.slice (some ⟨5, 0, none⟩) 4 4), 1)] 2), (1, 0, .cells [(.slice (some ⟨3, 0, none⟩) 4 4), (.bool true), (.int .u64 2)] 79 true), (0, 0, .cells [(.int .i64 20), (.int .i64 g), (.int .i64 0), (.int .u64 2), (.map (some 2))] 94 true)]⟩⟩
theorem K4R1 (ks : ByteArray) (vs : ByteArray) (V : List Int) (L : List Int) (m : Nat) (g : Int) : K4EV isWb sizeN (codeAt [1, 1, 1, 1, 1, 1, 1, 1, 1, 0] BK4) (K4S0 ks vs V L m g) [0, 1, 7, 10, 12, 13, 14] =
  obind (V[0]?) fun n1 =>
    bif ((isWb n1) && ((sizeN n1) == 4)) then
      obind (V[1]?) fun n2 =>
        bif ((isWb n1) && ((sizeN n1) == 4)) then
          bif ((isWb n1) && ((sizeN n1) == 4)) then
            obind (V[2]?) fun n3 =>
              bif ((isWb n1) && ((sizeN n1) == 4)) then
                bif ((isWb n1) && ((sizeN n1) == 4)) then
                  obind (V[3]?) fun n4 =>
                    bif ((isWb n1) && ((sizeN n1) == 4)) then
                      bif ((isWb n1) && ((sizeN n1) == 4)) then
                        bif ((isWb n1) && ((sizeN n1) == 4)) then
                          some (.normal, (K4S1 ks vs V L n1 n2 n3 n4 m g))
                        else
                          none
                      else
                        none
                    else
                      none
                else
                  none
              else
                none
          else
            none
        else
          none
    else
      none := by kernel_rfl
noncomputable def K4S2 (ks : ByteArray) (vs : ByteArray) (V : List Int) (L : List Int) (m : Nat) (g : Int) : KSt := ⟨(frameL 120 [(0, (.string ks)), (1, (.string vs)), (7, (.pointer (some ⟨0, 0, none⟩))), (10, (.int .u64 2)), (12, (.pointer (some ⟨1, 0, none⟩))), (13, (.int .i64 4)), (14, (.bool true))]), ⟨6, 1, [(5, 0, .ints .u64 V 30 true), (4, 0, .ints .u64 L 30 true), (3, 0, .cells [(.int .u64 (V.getD 0 0)), (.int .u64 (V.getD 1 0)), (.int .u64 (V.getD 2 0)), (.int .u64 (V.getD 3 0))] 30 true), (2, 0, .map [((.int .u64 1), (.slice (some ⟨4, 0, none⟩) m m), 0), ((.int .u64 2), (.slice (some ⟨5, 0, none⟩) 4 4), 1)] 2), (1, 0, .cells [(.slice (some ⟨3, 0, none⟩) 4 4), (.bool true), (.int .u64 2)] 79 true), (0, 0, .cells [(.int .i64 20), (.int .i64 g), (.int .i64 0), (.int .u64 2), (.map (some 2))] 94 true)]⟩⟩
noncomputable def K4S3 (V : List Int) (L : List Int) (m : Nat) (ks : ByteArray) (vs : ByteArray) (g : Int) : KSt := ⟨(frameL 120 [(7, (.pointer (some ⟨0, 0, none⟩))), (15, (.pointer (some ⟨1, 0, none⟩))), (17, (.pointer (some ⟨2, 0, none⟩)))]), ⟨6, 1, [(5, 0, .ints .u64 V 30 true), (4, 0, .ints .u64 L 30 true), (3, 0, .map [((.int .u64 1), (.slice (some ⟨4, 0, none⟩) m m), 0), ((.int .u64 2), (.slice (some ⟨5, 0, none⟩) 4 4), 1)] 2), (2, 0, .cells [(.slice none 0 0), (.bool true), (.int .u64 2)] 79 true), (1, 0, .cells [(.string ks), (.string vs)] 39 true), (0, 0, .cells [(.int .i64 20), (.int .i64 g), (.int .i64 0), (.int .u64 2), (.map (some 3))] 94 true)]⟩⟩
noncomputable def K4S4 (V : List Int) (L : List Int) (n1 : Int) (n2 : Int) (n3 : Int) (n4 : Int) (m : Nat) (ks : ByteArray) (vs : ByteArray) (g : Int) : KSt := ⟨(frameL 120 [(7, (.pointer (some ⟨0, 0, none⟩))), (15, (.pointer (some ⟨1, 0, none⟩))), (17, (.pointer (some ⟨2, 0, none⟩)))]), ⟨7, 1, [(6, 0, .ints .u64 V 30 true), (5, 0, .ints .u64 L 30 true), (4, 0, .cells [(.int .u64 n1), (.int .u64 n2), (.int .u64 n3), (.int .u64 n4)] 30 true), (3, 0, .map [((.int .u64 1), (.slice (some ⟨5, 0, none⟩) m m), 0), ((.int .u64 2), (.slice (some ⟨6, 0, none⟩) 4 4), 1)] 2), (2, 0, .cells [(.slice (some ⟨4, 0, none⟩) 4 4), (.bool true), (.int .u64 2)] 79 true), (1, 0, .cells [(.string ks), (.string vs)] 39 true), (0, 0, .cells [(.int .i64 20), (.int .i64 g), (.int .i64 0), (.int .u64 2), (.map (some 3))] 94 true)]⟩⟩
theorem K4R2 (V : List Int) (L : List Int) (m : Nat) (ks : ByteArray) (vs : ByteArray) (g : Int) : K4EV isWb sizeN (codeAt [1, 1, 1, 1, 1, 1, 1, 1, 1, 1, 1, 1, 1, 0] BK4) (K4S3 V L m ks vs g) [7, 15, 17] =
  obind (V[0]?) fun n1 =>
    bif ((isWb n1) && ((sizeN n1) == 4)) then
      obind (V[1]?) fun n2 =>
        bif ((isWb n1) && ((sizeN n1) == 4)) then
          bif ((isWb n1) && ((sizeN n1) == 4)) then
            obind (V[2]?) fun n3 =>
              bif ((isWb n1) && ((sizeN n1) == 4)) then
                bif ((isWb n1) && ((sizeN n1) == 4)) then
                  obind (V[3]?) fun n4 =>
                    bif ((isWb n1) && ((sizeN n1) == 4)) then
                      bif ((isWb n1) && ((sizeN n1) == 4)) then
                        bif ((isWb n1) && ((sizeN n1) == 4)) then
                          some (.normal, (K4S4 V L n1 n2 n3 n4 m ks vs g))
                        else
                          none
                      else
                        none
                    else
                      none
                else
                  none
              else
                none
          else
            none
        else
          none
    else
      none := by kernel_rfl
noncomputable def K4S5 (V : List Int) (L : List Int) (m : Nat) (ks : ByteArray) (vs : ByteArray) (g : Int) : KSt := ⟨(frameL 120 [(7, (.pointer (some ⟨0, 0, none⟩))), (15, (.pointer (some ⟨1, 0, none⟩))), (17, (.pointer (some ⟨2, 0, none⟩)))]), ⟨7, 1, [(6, 0, .ints .u64 V 30 true), (5, 0, .ints .u64 L 30 true), (4, 0, .cells [(.int .u64 (V.getD 0 0)), (.int .u64 (V.getD 1 0)), (.int .u64 (V.getD 2 0)), (.int .u64 (V.getD 3 0))] 30 true), (3, 0, .map [((.int .u64 1), (.slice (some ⟨5, 0, none⟩) m m), 0), ((.int .u64 2), (.slice (some ⟨6, 0, none⟩) 4 4), 1)] 2), (2, 0, .cells [(.slice (some ⟨4, 0, none⟩) 4 4), (.bool true), (.int .u64 2)] 79 true), (1, 0, .cells [(.string ks), (.string vs)] 39 true), (0, 0, .cells [(.int .i64 20), (.int .i64 g), (.int .i64 0), (.int .u64 2), (.map (some 3))] 94 true)]⟩⟩
end
theorem K4d {V : List Int} {ks : ByteArray} {vs : ByteArray} {L : List Int} {m : Nat} {g : Int} (hV : V.length = 4) (hwb : isWb (V.getD 0 0) = true) (hsz : (sizeN (V.getD 0 0) == 4) = true)   {Q : Ex → St → Prop} (hq : Gets Try.prog (KH.low ⟨0, 1, []⟩) (codeAt [1, 1, 1, 1, 1, 1, 1, 1, 1, 1] BK4) (KSt.low (K4S2 ks vs V L m g)) (Q)) : Gets Try.prog (KH.low ⟨0, 1, []⟩) (codeAt [1, 1, 1, 1, 1, 1, 1, 1, 1] BK4) (KSt.low (K4S0 ks vs V L m g)) Q := by
  rw [K4C1_1_1_1_1_1_1_1_1]; refine Gets.seq ?_
  refine K4go (x := .normal) (s' := (K4S2 ks vs V L m g)) ((K4R1 isWb sizeN ks vs V L m g).trans (by rw [obind_at (k := 0) (by omega) (by omega), condT (and_t (hwb) (hsz)), obind_at (k := 1) (by omega) (by omega), condT (and_t (hwb) (hsz)), condT (and_t (hwb) (hsz)), obind_at (k := 2) (by omega) (by omega), condT (and_t (hwb) (hsz)), condT (and_t (hwb) (hsz)), obind_at (k := 3) (by omega) (by omega), condT (and_t (hwb) (hsz)), condT (and_t (hwb) (hsz)), condT (and_t (hwb) (hsz))] <;> rfl)) ?_
  exact hq
theorem K4f {V : List Int} {L : List Int} {m : Nat} {ks : ByteArray} {vs : ByteArray} {g : Int} (hV : V.length = 4) (hwb : isWb (V.getD 0 0) = true) (hsz : (sizeN (V.getD 0 0) == 4) = true)   {Q : Ex → St → Prop} (hq : Gets Try.prog (KH.low ⟨0, 1, []⟩) (codeAt [1, 1, 1, 1, 1, 1, 1, 1, 1, 1, 1, 1, 1, 1] BK4) (KSt.low (K4S5 V L m ks vs g)) (Q)) : Gets Try.prog (KH.low ⟨0, 1, []⟩) (codeAt [1, 1, 1, 1, 1, 1, 1, 1, 1, 1, 1, 1, 1] BK4) (KSt.low (K4S3 V L m ks vs g)) Q := by
  rw [K4C1_1_1_1_1_1_1_1_1_1_1_1_1]; refine Gets.seq ?_
  refine K4go (x := .normal) (s' := (K4S5 V L m ks vs g)) ((K4R2 isWb sizeN V L m ks vs g).trans (by rw [obind_at (k := 0) (by omega) (by omega), condT (and_t (hwb) (hsz)), obind_at (k := 1) (by omega) (by omega), condT (and_t (hwb) (hsz)), condT (and_t (hwb) (hsz)), obind_at (k := 2) (by omega) (by omega), condT (and_t (hwb) (hsz)), condT (and_t (hwb) (hsz)), obind_at (k := 3) (by omega) (by omega), condT (and_t (hwb) (hsz)), condT (and_t (hwb) (hsz)), condT (and_t (hwb) (hsz))] <;> rfl)) ?_
  exact hq
noncomputable def BK5 : Code := bodyOf Try.prog 10
theorem BK5_is : Try.f10.body = some BK5 := by kernel_rfl
theorem BK5_ok : okCode Try.prog.globals.size BK5 = true := by kernel_rfl
noncomputable abbrev K5EV (isWb : Int → Bool) (sizeN : Int → Int) (c : Code) (s : KSt) (lv : List Nat) : Option (Ex × KSt) := evCK Try.prog cfgK (runK Try.prog cfgK fsK (conTk rs5Dom (rcK [] (rs5T isWb sizeN))) 40 40) 40 c s (normC 0 lv)
theorem K5go {lv_ : List Nat} {co_ : Code} {st_ s' : KSt} {x : Ex} {Q : Ex → St → Prop} (hE_ : K5EV isWb sizeN co_ st_ lv_ = some (x, s')) (hq_ : Q x s'.low) (hok_ : okCode Try.prog.globals.size co_ = true := by kernel_rfl) : Gets Try.prog (KH.low ⟨0, 1, []⟩) co_ st_.low Q := Gets.ofN fitK rs5_sound (rc_agree _ _ _) 40 40 hok_ hE_ hq_
theorem K5eX {v : Value} {b c : Bool} (h : v = .bool b) (hb : b = c) : v = .bool c := by rw [h, hb]
theorem K5C1_1_1_1_1_1_1_1_1 : (codeAt [1, 1, 1, 1, 1, 1, 1, 1, 1] BK5) = .seq (codeAt [1, 1, 1, 1, 1, 1, 1, 1, 1, 0] BK5) (codeAt [1, 1, 1, 1, 1, 1, 1, 1, 1, 1] BK5) := by kernel_rfl
theorem K5C1_1_1_1_1_1_1_1_1_1_1_1_1 : (codeAt [1, 1, 1, 1, 1, 1, 1, 1, 1, 1, 1, 1, 1] BK5) = .seq (codeAt [1, 1, 1, 1, 1, 1, 1, 1, 1, 1, 1, 1, 1, 0] BK5) (codeAt [1, 1, 1, 1, 1, 1, 1, 1, 1, 1, 1, 1, 1, 1] BK5) := by kernel_rfl
section
variable (isWb : Int → Bool) (sizeN : Int → Int)
noncomputable def K5S0 (ks : ByteArray) (vs : ByteArray) (V : List Int) (L : List Int) (m : Nat) (g : Int) : KSt := ⟨(frameL 120 [(0, (.string ks)), (1, (.string vs)), (7, (.pointer (some ⟨0, 0, none⟩))), (10, (.int .u64 2)), (12, (.pointer (some ⟨1, 0, none⟩)))]), ⟨5, 1, [(4, 0, .ints .u64 V 30 true), (3, 0, .ints .u64 L 30 true), (2, 0, .map [((.int .u64 1), (.slice (some ⟨3, 0, none⟩) m m), 0), ((.int .u64 2), (.slice (some ⟨4, 0, none⟩) 5 5), 1)] 2), (1, 0, .cells [(.slice none 0 0), (.bool true), (.int .u64 2)] 79 true), (0, 0, .cells [(.int .i64 20), (.int .i64 g), (.int .i64 0), (.int .u64 2), (.map (some 2))] 94 true)]⟩⟩
noncomputable def K5S1 (ks : ByteArray) (vs : ByteArray) (V : List Int) (L : List Int) (n1 : Int) (n2 : Int) (n3 : Int) (n4 : Int) (n5 : Int) (m : Nat) (g : Int) : KSt := ⟨(frameL 120 [(0, (.string ks)), (1, (.string vs)), (7, (.pointer (some ⟨0, 0, none⟩))), (10, (.int .u64 2)), (12, (.pointer (some ⟨1, 0, none⟩))), (13, (.int .i64 5)), (14, (.bool true))]), ⟨6, 1, [(5, 0, .ints .u64 V 30 true), (4, 0, .ints .u64 L 30 true), (3, 0, .cells [(.int .u64 n1), (.int .u64 n2), (.int .u64 n3), (.int .u64 n4), (.int .u64 n5)] 30 true), (2, 0, .map [((.int .u64 1), (.slice (some ⟨4, 0, none⟩) m m), 0), ((.int .u64 2), (.slice (some ⟨5, 0, none⟩) 5 5), 1)] 2), (1, 0, .cells [(.slice (some ⟨3, 0, none⟩) 5 5), (.bool true), (.int .u64 2)] 79 true), (0, 0, .cells [(.int .i64 20), (.int .i64 g), (.int .i64 0), (.int .u64 2), (.map (some 2))] 94 true)]⟩⟩
theorem K5R1 (ks : ByteArray) (vs : ByteArray) (V : List Int) (L : List Int) (m : Nat) (g : Int) : K5EV isWb sizeN (codeAt [1, 1, 1, 1, 1, 1, 1, 1, 1, 0] BK5) (K5S0 ks vs V L m g) [0, 1, 7, 10, 12, 13, 14] =
  obind (V[0]?) fun n1 =>
    bif ((isWb n1) && ((sizeN n1) == 5)) then
      obind (V[1]?) fun n2 =>
        bif ((isWb n1) && ((sizeN n1) == 5)) then
          bif ((isWb n1) && ((sizeN n1) == 5)) then
            obind (V[2]?) fun n3 =>
              bif ((isWb n1) && ((sizeN n1) == 5)) then
                bif ((isWb n1) && ((sizeN n1) == 5)) then
                  obind (V[3]?) fun n4 =>
                    bif ((isWb n1) && ((sizeN n1) == 5)) then
                      bif ((isWb n1) && ((sizeN n1) == 5)) then
                        obind (V[4]?) fun n5 =>
                          bif ((isWb n1) && ((sizeN n1) == 5)) then
                            bif ((isWb n1) && ((sizeN n1) == 5)) then
                              bif ((isWb n1) && ((sizeN n1) == 5)) then
                                some (.normal, (K5S1 ks vs V L n1 n2 n3 n4 n5 m g))
                              else
                                none
                            else
                              none
                          else
                            none
                      else
                        none
                    else
                      none
                else
                  none
              else
                none
          else
            none
        else
          none
    else
      none := by kernel_rfl
noncomputable def K5S2 (ks : ByteArray) (vs : ByteArray) (V : List Int) (L : List Int) (m : Nat) (g : Int) : KSt := ⟨(frameL 120 [(0, (.string ks)), (1, (.string vs)), (7, (.pointer (some ⟨0, 0, none⟩))), (10, (.int .u64 2)), (12, (.pointer (some ⟨1, 0, none⟩))), (13, (.int .i64 5)), (14, (.bool true))]), ⟨6, 1, [(5, 0, .ints .u64 V 30 true), (4, 0, .ints .u64 L 30 true), (3, 0, .cells [(.int .u64 (V.getD 0 0)), (.int .u64 (V.getD 1 0)), (.int .u64 (V.getD 2 0)), (.int .u64 (V.getD 3 0)), (.int .u64 (V.getD 4 0))] 30 true), (2, 0, .map [((.int .u64 1), (.slice (some ⟨4, 0, none⟩) m m), 0), ((.int .u64 2), (.slice (some ⟨5, 0, none⟩) 5 5), 1)] 2), (1, 0, .cells [(.slice (some ⟨3, 0, none⟩) 5 5), (.bool true), (.int .u64 2)] 79 true), (0, 0, .cells [(.int .i64 20), (.int .i64 g), (.int .i64 0), (.int .u64 2), (.map (some 2))] 94 true)]⟩⟩
noncomputable def K5S3 (V : List Int) (L : List Int) (m : Nat) (ks : ByteArray) (vs : ByteArray) (g : Int) : KSt := ⟨(frameL 120 [(7, (.pointer (some ⟨0, 0, none⟩))), (15, (.pointer (some ⟨1, 0, none⟩))), (17, (.pointer (some ⟨2, 0, none⟩)))]), ⟨6, 1, [(5, 0, .ints .u64 V 30 true), (4, 0, .ints .u64 L 30 true), (3, 0, .map [((.int .u64 1), (.slice (some ⟨4, 0, none⟩) m m), 0), ((.int .u64 2), (.slice (some ⟨5, 0, none⟩) 5 5), 1)] 2), (2, 0, .cells [(.slice none 0 0), (.bool true), (.int .u64 2)] 79 true), (1, 0, .cells [(.string ks), (.string vs)] 39 true), (0, 0, .cells [(.int .i64 20), (.int .i64 g), (.int .i64 0), (.int .u64 2), (.map (some 3))] 94 true)]⟩⟩
noncomputable def K5S4 (V : List Int) (L : List Int) (n1 : Int) (n2 : Int) (n3 : Int) (n4 : Int) (n5 : Int) (m : Nat) (ks : ByteArray) (vs : ByteArray) (g : Int) : KSt := ⟨(frameL 120 [(7, (.pointer (some ⟨0, 0, none⟩))), (15, (.pointer (some ⟨1, 0, none⟩))), (17, (.pointer (some ⟨2, 0, none⟩)))]), ⟨7, 1, [(6, 0, .ints .u64 V 30 true), (5, 0, .ints .u64 L 30 true), (4, 0, .cells [(.int .u64 n1), (.int .u64 n2), (.int .u64 n3), (.int .u64 n4), (.int .u64 n5)] 30 true), (3, 0, .map [((.int .u64 1), (.slice (some ⟨5, 0, none⟩) m m), 0), ((.int .u64 2), (.slice (some ⟨6, 0, none⟩) 5 5), 1)] 2), (2, 0, .cells [(.slice (some ⟨4, 0, none⟩) 5 5), (.bool true), (.int .u64 2)] 79 true), (1, 0, .cells [(.string ks), (.string vs)] 39 true), (0, 0, .cells [(.int .i64 20), (.int .i64 g), (.int .i64 0), (.int .u64 2), (.map (some 3))] 94 true)]⟩⟩
theorem K5R2 (V : List Int) (L : List Int) (m : Nat) (ks : ByteArray) (vs : ByteArray) (g : Int) : K5EV isWb sizeN (codeAt [1, 1, 1, 1, 1, 1, 1, 1, 1, 1, 1, 1, 1, 0] BK5) (K5S3 V L m ks vs g) [7, 15, 17] =
  obind (V[0]?) fun n1 =>
    bif ((isWb n1) && ((sizeN n1) == 5)) then
      obind (V[1]?) fun n2 =>
        bif ((isWb n1) && ((sizeN n1) == 5)) then
          bif ((isWb n1) && ((sizeN n1) == 5)) then
            obind (V[2]?) fun n3 =>
              bif ((isWb n1) && ((sizeN n1) == 5)) then
                bif ((isWb n1) && ((sizeN n1) == 5)) then
                  obind (V[3]?) fun n4 =>
                    bif ((isWb n1) && ((sizeN n1) == 5)) then
                      bif ((isWb n1) && ((sizeN n1) == 5)) then
                        obind (V[4]?) fun n5 =>
                          bif ((isWb n1) && ((sizeN n1) == 5)) then
                            bif ((isWb n1) && ((sizeN n1) == 5)) then
                              bif ((isWb n1) && ((sizeN n1) == 5)) then
                                some (.normal, (K5S4 V L n1 n2 n3 n4 n5 m ks vs g))
                              else
                                none
                            else
                              none
                          else
                            none
                      else
                        none
                    else
                      none
                else
                  none
              else
                none
          else
            none
        else
          none
    else
      none := by kernel_rfl
noncomputable def K5S5 (V : List Int) (L : List Int) (m : Nat) (ks : ByteArray) (vs : ByteArray) (g : Int) : KSt := ⟨(frameL 120 [(7, (.pointer (some ⟨0, 0, none⟩))), (15, (.pointer (some ⟨1, 0, none⟩))), (17, (.pointer (some ⟨2, 0, none⟩)))]), ⟨7, 1, [(6, 0, .ints .u64 V 30 true), (5, 0, .ints .u64 L 30 true), (4, 0, .cells [(.int .u64 (V.getD 0 0)), (.int .u64 (V.getD 1 0)), (.int .u64 (V.getD 2 0)), (.int .u64 (V.getD 3 0)), (.int .u64 (V.getD 4 0))] 30 true), (3, 0, .map [((.int .u64 1), (.slice (some ⟨5, 0, none⟩) m m), 0), ((.int .u64 2), (.slice (some ⟨6, 0, none⟩) 5 5), 1)] 2), (2, 0, .cells [(.slice (some ⟨4, 0, none⟩) 5 5), (.bool true), (.int .u64 2)] 79 true), (1, 0, .cells [(.string ks), (.string vs)] 39 true), (0, 0, .cells [(.int .i64 20), (.int .i64 g), (.int .i64 0), (.int .u64 2), (.map (some 3))] 94 true)]⟩⟩
end
theorem K5d {V : List Int} {ks : ByteArray} {vs : ByteArray} {L : List Int} {m : Nat} {g : Int} (hV : V.length = 5) (hwb : isWb (V.getD 0 0) = true) (hsz : (sizeN (V.getD 0 0) == 5) = true)   {Q : Ex → St → Prop} (hq : Gets Try.prog (KH.low ⟨0, 1, []⟩) (codeAt [1, 1, 1, 1, 1, 1, 1, 1, 1, 1] BK5) (KSt.low (K5S2 ks vs V L m g)) (Q)) : Gets Try.prog (KH.low ⟨0, 1, []⟩) (codeAt [1, 1, 1, 1, 1, 1, 1, 1, 1] BK5) (KSt.low (K5S0 ks vs V L m g)) Q := by
  rw [K5C1_1_1_1_1_1_1_1_1]; refine Gets.seq ?_
  refine K5go (x := .normal) (s' := (K5S2 ks vs V L m g)) ((K5R1 isWb sizeN ks vs V L m g).trans (by rw [obind_at (k := 0) (by omega) (by omega), condT (and_t (hwb) (hsz)), obind_at (k := 1) (by omega) (by omega), condT (and_t (hwb) (hsz)), condT (and_t (hwb) (hsz)), obind_at (k := 2) (by omega) (by omega), condT (and_t (hwb) (hsz)), condT (and_t (hwb) (hsz)), obind_at (k := 3) (by omega) (by omega), condT (and_t (hwb) (hsz)), condT (and_t (hwb) (hsz)), obind_at (k := 4) (by omega) (by omega), condT (and_t (hwb) (hsz)), condT (and_t (hwb) (hsz)), condT (and_t (hwb) (hsz))] <;> rfl)) ?_
  exact hq
theorem K5f {V : List Int} {L : List Int} {m : Nat} {ks : ByteArray} {vs : ByteArray} {g : Int} (hV : V.length = 5) (hwb : isWb (V.getD 0 0) = true) (hsz : (sizeN (V.getD 0 0) == 5) = true)   {Q : Ex → St → Prop} (hq : Gets Try.prog (KH.low ⟨0, 1, []⟩) (codeAt [1, 1, 1, 1, 1, 1, 1, 1, 1, 1, 1, 1, 1, 1] BK5) (KSt.low (K5S5 V L m ks vs g)) (Q)) : Gets Try.prog (KH.low ⟨0, 1, []⟩) (codeAt [1, 1, 1, 1, 1, 1, 1, 1, 1, 1, 1, 1, 1] BK5) (KSt.low (K5S3 V L m ks vs g)) Q := by
  rw [K5C1_1_1_1_1_1_1_1_1_1_1_1_1]; refine Gets.seq ?_
  refine K5go (x := .normal) (s' := (K5S5 V L m ks vs g)) ((K5R2 isWb sizeN V L m ks vs g).trans (by rw [obind_at (k := 0) (by omega) (by omega), condT (and_t (hwb) (hsz)), obind_at (k := 1) (by omega) (by omega), condT (and_t (hwb) (hsz)), condT (and_t (hwb) (hsz)), obind_at (k := 2) (by omega) (by omega), condT (and_t (hwb) (hsz)), condT (and_t (hwb) (hsz)), obind_at (k := 3) (by omega) (by omega), condT (and_t (hwb) (hsz)), condT (and_t (hwb) (hsz)), obind_at (k := 4) (by omega) (by omega), condT (and_t (hwb) (hsz)), condT (and_t (hwb) (hsz)), condT (and_t (hwb) (hsz))] <;> rfl)) ?_
  exact hq
noncomputable def BK6 : Code := bodyOf Try.prog 10
theorem BK6_is : Try.f10.body = some BK6 := by kernel_rfl
theorem BK6_ok : okCode Try.prog.globals.size BK6 = true := by kernel_rfl
noncomputable abbrev K6EV (isWb : Int → Bool) (sizeN : Int → Int) (c : Code) (s : KSt) (lv : List Nat) : Option (Ex × KSt) := evCK Try.prog cfgK (runK Try.prog cfgK fsK (conTk rs6Dom (rcK [] (rs6T isWb sizeN))) 40 40) 40 c s (normC 0 lv)
theorem K6go {lv_ : List Nat} {co_ : Code} {st_ s' : KSt} {x : Ex} {Q : Ex → St → Prop} (hE_ : K6EV isWb sizeN co_ st_ lv_ = some (x, s')) (hq_ : Q x s'.low) (hok_ : okCode Try.prog.globals.size co_ = true := by kernel_rfl) : Gets Try.prog (KH.low ⟨0, 1, []⟩) co_ st_.low Q := Gets.ofN fitK rs6_sound (rc_agree _ _ _) 40 40 hok_ hE_ hq_
theorem K6eX {v : Value} {b c : Bool} (h : v = .bool b) (hb : b = c) : v = .bool c := by rw [h, hb]
theorem K6C1_1_1_1_1_1_1_1_1 : (codeAt [1, 1, 1, 1, 1, 1, 1, 1, 1] BK6) = .seq (codeAt [1, 1, 1, 1, 1, 1, 1, 1, 1, 0] BK6) (codeAt [1, 1, 1, 1, 1, 1, 1, 1, 1, 1] BK6) := by kernel_rfl
theorem K6C1_1_1_1_1_1_1_1_1_1_1_1_1 : (codeAt [1, 1, 1, 1, 1, 1, 1, 1, 1, 1, 1, 1, 1] BK6) = .seq (codeAt [1, 1, 1, 1, 1, 1, 1, 1, 1, 1, 1, 1, 1, 0] BK6) (codeAt [1, 1, 1, 1, 1, 1, 1, 1, 1, 1, 1, 1, 1, 1] BK6) := by kernel_rfl
section
variable (isWb : Int → Bool) (sizeN : Int → Int)
noncomputable def K6S0 (ks : ByteArray) (vs : ByteArray) (V : List Int) (L : List Int) (m : Nat) (g : Int) : KSt := ⟨(frameL 120 [(0, (.string ks)), (1, (.string vs)), (7, (.pointer (some ⟨0, 0, none⟩))), (10, (.int .u64 2)), (12, (.pointer (some ⟨1, 0, none⟩)))]), ⟨5, 1, [(4, 0, .ints .u64 V 30 true), (3, 0, .ints .u64 L 30 true), (2, 0, .map [((.int .u64 1), (.slice (some ⟨3, 0, none⟩) m m), 0), ((.int .u64 2), (.slice (some ⟨4, 0, none⟩) 6 6), 1)] 2), (1, 0, .cells [(.slice none 0 0), (.bool true), (.int .u64 2)] 79 true), (0, 0, .cells [(.int .i64 20), (.int .i64 g), (.int .i64 0), (.int .u64 2), (.map (some 2))] 94 true)]⟩⟩
noncomputable def K6S1 (ks : ByteArray) (vs : ByteArray) (V : List Int) (L : List Int) (n1 : Int) (n2 : Int) (n3 : Int) (n4 : Int) (n5 : Int) (n6 : Int) (m : Nat) (g : Int) : KSt := ⟨(frameL 120 [(0, (.string ks)), (1, (.string vs)), (7, (.pointer (some ⟨0, 0, none⟩))), (10, (.int .u64 2)), (12, (.pointer (some ⟨1, 0, none⟩))), (13, (.int .i64 6)), (14, (.bool true))]), ⟨6, 1, [(5, 0, .ints .u64 V 30 true), (4, 0, .ints .u64 L 30 true), (3, 0, .cells [(.int .u64 n1), (.int .u64 n2), (.int .u64 n3), (.int .u64 n4), (.int .u64 n5), (.int .u64 n6)] 30 true), (2, 0, .map [((.int .u64 1), (.slice (some ⟨4, 0, none⟩) m m), 0), ((.int .u64 2), (.slice (some ⟨5, 0, none⟩) 6 6), 1)] 2), (1, 0, .cells [(.slice (some ⟨3, 0, none⟩) 6 6), (.bool true), (.int .u64 2)] 79 true), (0, 0, .cells [(.int .i64 20), (.int .i64 g), (.int .i64 0), (.int .u64 2), (.map (some 2))] 94 true)]⟩⟩
theorem K6R1 (ks : ByteArray) (vs : ByteArray) (V : List Int) (L : List Int) (m : Nat) (g : Int) : K6EV isWb sizeN (codeAt [1, 1, 1, 1, 1, 1, 1, 1, 1, 0] BK6) (K6S0 ks vs V L m g) [0, 1, 7, 10, 12, 13, 14] =
  obind (V[0]?) fun n1 =>
    bif ((isWb n1) && ((sizeN n1) == 6)) then
      obind (V[1]?) fun n2 =>
        bif ((isWb n1) && ((sizeN n1) == 6)) then
          bif ((isWb n1) && ((sizeN n1) == 6)) then
            obind (V[2]?) fun n3 =>
              bif ((isWb n1) && ((sizeN n1) == 6)) then
                bif ((isWb n1) && ((sizeN n1) == 6)) then
                  obind (V[3]?) fun n4 =>
                    bif ((isWb n1) && ((sizeN n1) == 6)) then
                      bif ((isWb n1) && ((sizeN n1) == 6)) then
                        obind (V[4]?) fun n5 =>
                          bif ((isWb n1) && ((sizeN n1) == 6)) then
                            bif ((isWb n1) && ((sizeN n1) == 6)) then
                              obind (V[5]?) fun n6 =>
                                bif ((isWb n1) && ((sizeN n1) == 6)) then
                                  bif ((isWb n1) && ((sizeN n1) == 6)) then
                                    bif ((isWb n1) && ((sizeN n1) == 6)) then
                                      some (.normal, (K6S1 ks vs V L n1 n2 n3 n4 n5 n6 m g))
                                    else
                                      none
                                  else
                                    none
                                else
                                  none
                            else
                              none
                          else
                            none
                      else
                        none
                    else
                      none
                else
                  none
              else
                none
          else
            none
        else
          none
    else
      none := by kernel_rfl
noncomputable def K6S2 (ks : ByteArray) (vs : ByteArray) (V : List Int) (L : List Int) (m : Nat) (g : Int) : KSt := ⟨(frameL 120 [(0, (.string ks)), (1, (.string vs)), (7, (.pointer (some ⟨0, 0, none⟩))), (10, (.int .u64 2)), (12, (.pointer (some ⟨1, 0, none⟩))), (13, (.int .i64 6)), (14, (.bool true))]), ⟨6, 1, [(5, 0, .ints .u64 V 30 true), (4, 0, .ints .u64 L 30 true), (3, 0, .cells [(.int .u64 (V.getD 0 0)), (.int .u64 (V.getD 1 0)), (.int .u64 (V.getD 2 0)), (.int .u64 (V.getD 3 0)), (.int .u64 (V.getD 4 0)), (.int .u64 (V.getD 5 0))] 30 true), (2, 0, .map [((.int .u64 1), (.slice (some ⟨4, 0, none⟩) m m), 0), ((.int .u64 2), (.slice (some ⟨5, 0, none⟩) 6 6), 1)] 2), (1, 0, .cells [(.slice (some ⟨3, 0, none⟩) 6 6), (.bool true), (.int .u64 2)] 79 true), (0, 0, .cells [(.int .i64 20), (.int .i64 g), (.int .i64 0), (.int .u64 2), (.map (some 2))] 94 true)]⟩⟩
noncomputable def K6S3 (V : List Int) (L : List Int) (m : Nat) (ks : ByteArray) (vs : ByteArray) (g : Int) : KSt := ⟨(frameL 120 [(7, (.pointer (some ⟨0, 0, none⟩))), (15, (.pointer (some ⟨1, 0, none⟩))), (17, (.pointer (some ⟨2, 0, none⟩)))]), ⟨6, 1, [(5, 0, .ints .u64 V 30 true), (4, 0, .ints .u64 L 30 true), (3, 0, .map [((.int .u64 1), (.slice (some ⟨4, 0, none⟩) m m), 0), ((.int .u64 2), (.slice (some ⟨5, 0, none⟩) 6 6), 1)] 2), (2, 0, .cells [(.slice none 0 0), (.bool true), (.int .u64 2)] 79 true), (1, 0, .cells [(.string ks), (.string vs)] 39 true), (0, 0, .cells [(.int .i64 20), (.int .i64 g), (.int .i64 0), (.int .u64 2), (.map (some 3))] 94 true)]⟩⟩
noncomputable def K6S4 (V : List Int) (L : List Int) (n1 : Int) (n2 : Int) (n3 : Int) (n4 : Int) (n5 : Int) (n6 : Int) (m : Nat) (ks : ByteArray) (vs : ByteArray) (g : Int) : KSt := ⟨(frameL 120 [(7, (.pointer (some ⟨0, 0, none⟩))), (15, (.pointer (some ⟨1, 0, none⟩))), (17, (.pointer (some ⟨2, 0, none⟩)))]), ⟨7, 1, [(6, 0, .ints .u64 V 30 true), (5, 0, .ints .u64 L 30 true), (4, 0, .cells [(.int .u64 n1), (.int .u64 n2), (.int .u64 n3), (.int .u64 n4), (.int .u64 n5), (.int .u64 n6)] 30 true), (3, 0, .map [((.int .u64 1), (.slice (some ⟨5, 0, none⟩) m m), 0), ((.int .u64 2), (.slice (some ⟨6, 0, none⟩) 6 6), 1)] 2), (2, 0, .cells [(.slice (some ⟨4, 0, none⟩) 6 6), (.bool true), (.int .u64 2)] 79 true), (1, 0, .cells [(.string ks), (.string vs)] 39 true), (0, 0, .cells [(.int .i64 20), (.int .i64 g), (.int .i64 0), (.int .u64 2), (.map (some 3))] 94 true)]⟩⟩
theorem K6R2 (V : List Int) (L : List Int) (m : Nat) (ks : ByteArray) (vs : ByteArray) (g : Int) : K6EV isWb sizeN (codeAt [1, 1, 1, 1, 1, 1, 1, 1, 1, 1, 1, 1, 1, 0] BK6) (K6S3 V L m ks vs g) [7, 15, 17] =
  obind (V[0]?) fun n1 =>
    bif ((isWb n1) && ((sizeN n1) == 6)) then
      obind (V[1]?) fun n2 =>
        bif ((isWb n1) && ((sizeN n1) == 6)) then
          bif ((isWb n1) && ((sizeN n1) == 6)) then
            obind (V[2]?) fun n3 =>
              bif ((isWb n1) && ((sizeN n1) == 6)) then
                bif ((isWb n1) && ((sizeN n1) == 6)) then
                  obind (V[3]?) fun n4 =>
                    bif ((isWb n1) && ((sizeN n1) == 6)) then
                      bif ((isWb n1) && ((sizeN n1) == 6)) then
                        obind (V[4]?) fun n5 =>
                          bif ((isWb n1) && ((sizeN n1) == 6)) then
                            bif ((isWb n1) && ((sizeN n1) == 6)) then
                              obind (V[5]?) fun n6 =>
                                bif ((isWb n1) && ((sizeN n1) == 6)) then
                                  bif ((isWb n1) && ((sizeN n1) == 6)) then
                                    bif ((isWb n1) && ((sizeN n1) == 6)) then
                                      some (.normal, (K6S4 V L n1 n2 n3 n4 n5 n6 m ks vs g))
                                    else
                                      none
                                  else
                                    none
                                else
                                  none
                            else
                              none
                          else
                            none
                      else
                        none
                    else
                      none
                else
                  none
              else
                none
          else
            none
        else
          none
    else
      none := by kernel_rfl
noncomputable def K6S5 (V : List Int) (L : List Int) (m : Nat) (ks : ByteArray) (vs : ByteArray) (g : Int) : KSt := ⟨(frameL 120 [(7, (.pointer (some ⟨0, 0, none⟩))), (15, (.pointer (some ⟨1, 0, none⟩))), (17, (.pointer (some ⟨2, 0, none⟩)))]), ⟨7, 1, [(6, 0, .ints .u64 V 30 true), (5, 0, .ints .u64 L 30 true), (4, 0, .cells [(.int .u64 (V.getD 0 0)), (.int .u64 (V.getD 1 0)), (.int .u64 (V.getD 2 0)), (.int .u64 (V.getD 3 0)), (.int .u64 (V.getD 4 0)), (.int .u64 (V.getD 5 0))] 30 true), (3, 0, .map [((.int .u64 1), (.slice (some ⟨5, 0, none⟩) m m), 0), ((.int .u64 2), (.slice (some ⟨6, 0, none⟩) 6 6), 1)] 2), (2, 0, .cells [(.slice (some ⟨4, 0, none⟩) 6 6), (.bool true), (.int .u64 2)] 79 true), (1, 0, .cells [(.string ks), (.string vs)] 39 true), (0, 0, .cells [(.int .i64 20), (.int .i64 g), (.int .i64 0), (.int .u64 2), (.map (some 3))] 94 true)]⟩⟩
end
theorem K6d {V : List Int} {ks : ByteArray} {vs : ByteArray} {L : List Int} {m : Nat} {g : Int} (hV : V.length = 6) (hwb : isWb (V.getD 0 0) = true) (hsz : (sizeN (V.getD 0 0) == 6) = true)   {Q : Ex → St → Prop} (hq : Gets Try.prog (KH.low ⟨0, 1, []⟩) (codeAt [1, 1, 1, 1, 1, 1, 1, 1, 1, 1] BK6) (KSt.low (K6S2 ks vs V L m g)) (Q)) : Gets Try.prog (KH.low ⟨0, 1, []⟩) (codeAt [1, 1, 1, 1, 1, 1, 1, 1, 1] BK6) (KSt.low (K6S0 ks vs V L m g)) Q := by
  rw [K6C1_1_1_1_1_1_1_1_1]; refine Gets.seq ?_
  refine K6go (x := .normal) (s' := (K6S2 ks vs V L m g)) ((K6R1 isWb sizeN ks vs V L m g).trans (by rw [obind_at (k := 0) (by omega) (by omega), condT (and_t (hwb) (hsz)), obind_at (k := 1) (by omega) (by omega), condT (and_t (hwb) (hsz)), condT (and_t (hwb) (hsz)), obind_at (k := 2) (by omega) (by omega), condT (and_t (hwb) (hsz)), condT (and_t (hwb) (hsz)), obind_at (k := 3) (by omega) (by omega), condT (and_t (hwb) (hsz)), condT (and_t (hwb) (hsz)), obind_at (k := 4) (by omega) (by omega), condT (and_t (hwb) (hsz)), condT (and_t (hwb) (hsz)), obind_at (k := 5) (by omega) (by omega), condT (and_t (hwb) (hsz)), condT (and_t (hwb) (hsz)), condT (and_t (hwb) (hsz))] <;> rfl)) ?_
  exact hq
theorem K6f {V : List Int} {L : List Int} {m : Nat} {ks : ByteArray} {vs : ByteArray} {g : Int} (hV : V.length = 6) (hwb : isWb (V.getD 0 0) = true) (hsz : (sizeN (V.getD 0 0) == 6) = true)   {Q : Ex → St → Prop} (hq : Gets Try.prog (KH.low ⟨0, 1, []⟩) (codeAt [1, 1, 1, 1, 1, 1, 1, 1, 1, 1, 1, 1, 1, 1] BK6) (KSt.low (K6S5 V L m ks vs g)) (Q)) : Gets Try.prog (KH.low ⟨0, 1, []⟩) (codeAt [1, 1, 1, 1, 1, 1, 1, 1, 1, 1, 1, 1, 1] BK6) (KSt.low (K6S3 V L m ks vs g)) Q := by
  rw [K6C1_1_1_1_1_1_1_1_1_1_1_1_1]; refine Gets.seq ?_
  refine K6go (x := .normal) (s' := (K6S5 V L m ks vs g)) ((K6R2 isWb sizeN V L m ks vs g).trans (by rw [obind_at (k := 0) (by omega) (by omega), condT (and_t (hwb) (hsz)), obind_at (k := 1) (by omega) (by omega), condT (and_t (hwb) (hsz)), condT (and_t (hwb) (hsz)), obind_at (k := 2) (by omega) (by omega), condT (and_t (hwb) (hsz)), condT (and_t (hwb) (hsz)), obind_at (k := 3) (by omega) (by omega), condT (and_t (hwb) (hsz)), condT (and_t (hwb) (hsz)), obind_at (k := 4) (by omega) (by omega), condT (and_t (hwb) (hsz)), condT (and_t (hwb) (hsz)), obind_at (k := 5) (by omega) (by omega), condT (and_t (hwb) (hsz)), condT (and_t (hwb) (hsz)), condT (and_t (hwb) (hsz))] <;> rfl)) ?_
  exact hq

end Go.Proofs.Ytnhdjmpbmecnoaa
