/- Texts of words; rows held against one another. -/
import Derived.Test.YtnhdjmpbmecnoaaPkB
import Derived.WalkKit
import Derived.ProofKit
import Derived.OpenShut
import Derived.ChangeOld
import Derived.Below
import Derived.SizedLaws
namespace Go.Proofs.Ytnhdjmpbmecnoaa
open Go.Eng
open Go.ChangeShapes Go.WideShapes Go.ChangeAt Go.RowKit
set_option linter.unusedVariables false
set_option linter.unusedSimpArgs false
set_option maxRecDepth 100000
noncomputable def cfgC : Cfg := ⟨[]⟩
noncomputable def fsC : List FuncId := [11, 12, 13, 14, 15, 16, 17, 18, 48, 49, 50]
theorem fitC : Fit Try.prog cfgC fsC := ⟨by kernel_rfl, Cfg.ok_of (by kernel_rfl), by kernel_rfl⟩

/-- The bytes of words, the first so many. -/
def bytesF (f : Int → Int → Int) (l : List Int) (q : Nat) : List Int := (List.range q).map fun p => IntKind.wrap .u8 (f (l.getD (p / 8) 0) ((p % 8 : Nat) : Int))
theorem bytesF_len (f : Int → Int → Int) (l : List Int) (q : Nat) : (bytesF f l q).length = q := by simp [bytesF]
theorem bytesF_step (f : Int → Int → Int) (l : List Int) (q : Nat) : bytesF f l (q + 1) = bytesF f l q ++ [IntKind.wrap .u8 (f (l.getD (q / 8) 0) ((q % 8 : Nat) : Int))] := range_step _ q
def zerosF (A : List Int) (k r : Nat) : Bool := (List.range r).all fun p => A.getD (k + p) 0 == 0
theorem zerosF_t {A : List Int} {k r : Nat} (h : ∀ p, p < r → A.getD (k + p) 0 = 0) : zerosF A k r = true := by
  unfold zerosF
  rw [List.all_eq_true]
  intro p hp
  rw [beq_iff_eq]
  exact h p (List.mem_range.1 hp)
theorem zerosF_f {A : List Int} {k r p : Nat} (hp : p < r) (h : A.getD (k + p) 0 ≠ 0) : zerosF A k r = false := by
  cases hz : zerosF A k r with
  | false => rfl
  | true =>
    unfold zerosF at hz
    rw [List.all_eq_true] at hz
    exact absurd (beq_iff_eq.1 (hz p (List.mem_range.2 hp))) h
/-- The text of words, as the program has it. -/
noncomputable def textA (l : List Int) (k : Int) : ByteArray × Bool :=
  if k < 0 ∨ manyV k ≠ ((l.length : Nat) : Int) then ((⟨#[]⟩ : ByteArray), false) else
  bif zerosF (bytesF byteV l (8 * l.length)) k.toNat (8 * l.length - k.toNat) then (bytesOfNums (List.take k.toNat (bytesF byteV l (8 * l.length))), true) else ((⟨#[]⟩ : ByteArray), false)
def zerosR (l : List Int) (k r : Nat) : Bool := (List.range r).all fun p => byteRV (l.getD ((k + p) / 8) 0) (((k + p) % 8 : Nat) : Int) == 0
theorem zerosR_t {l : List Int} {k r : Nat} (h : ∀ p, p < r → byteRV (l.getD ((k + p) / 8) 0) (((k + p) % 8 : Nat) : Int) = 0) : zerosR l k r = true := by
  unfold zerosR
  rw [List.all_eq_true]
  intro p hp
  rw [beq_iff_eq]
  exact h p (List.mem_range.1 hp)
theorem zerosR_f {l : List Int} {k r p : Nat} (hp : p < r) (h : byteRV (l.getD ((k + p) / 8) 0) (((k + p) % 8 : Nat) : Int) ≠ 0) : zerosR l k r = false := by
  cases hz : zerosR l k r with
  | false => rfl
  | true =>
    unfold zerosR at hz
    rw [List.all_eq_true] at hz
    exact absurd (beq_iff_eq.1 (hz p (List.mem_range.2 hp))) h
/-- The text of words, as the document has it. -/
noncomputable def textR (l : List Int) (k : Int) : ByteArray × Bool :=
  if (k < 0 ∨ 8 * ((l.length : Nat) : Int) < k) ∨ k ≤ 8 * ((l.length : Nat) : Int) - 8 then ((⟨#[]⟩ : ByteArray), false) else
  bif zerosR l k.toNat (8 * l.length - k.toNat) then (bytesOfNums (bytesF byteRV l k.toNat), true) else ((⟨#[]⟩ : ByteArray), false)
theorem textA_no {l : List Int} {k : Int} (h : k < 0 ∨ manyV k ≠ ((l.length : Nat) : Int)) : textA l k = ((⟨#[]⟩ : ByteArray), false) := if_pos h
theorem textR_no {l : List Int} {k : Int} (h : (k < 0 ∨ 8 * ((l.length : Nat) : Int) < k) ∨ k ≤ 8 * ((l.length : Nat) : Int) - 8) : textR l k = ((⟨#[]⟩ : ByteArray), false) := if_pos h
noncomputable def BT : Code := bodyOf Try.prog 12
theorem BT_is : Try.f12.body = some BT := by kernel_rfl
theorem BT_ok : okCode Try.prog.globals.size BT = true := by kernel_rfl
noncomputable abbrev TEV (byteRV : Int → Int → Int) (byteV : Int → Int → Int) (manyV : Int → Int) (withRV : Int → Int → Int → Int) (c : Code) (s : KSt) (lv : List Nat) : Option (Ex × KSt) := evCK Try.prog cfgC (runK Try.prog cfgC fsC (conTk pkaDom (rcK [] (pkaT byteRV byteV manyV withRV))) 14 40) 14 c s (normC 1 lv)
theorem Tgo {lv_ : List Nat} {co_ : Code} {st_ s' : KSt} {x : Ex} {Q : Ex → St → Prop} {off : Nat} {l : List Int} {e : TypeId} (hE_ : TEV byteRV byteV manyV withRV co_ st_ lv_ = some (x, s')) (hq_ : Q x s'.low) (hok_ : okCode Try.prog.globals.size co_ = true := by kernel_rfl) : Gets Try.prog (KH.low ⟨1, 1, [(0, 0, .tail off .u64 l e)]⟩) co_ st_.low Q := Gets.ofN fitC pka_sound (rc_agree _ _ _) 14 40 hok_ hE_ hq_
theorem TeX {v : Value} {b c : Bool} (h : v = .bool b) (hb : b = c) : v = .bool c := by rw [h, hb]
theorem TC : BT = .seq (codeAt [0] BT) (codeAt [1] BT) := by kernel_rfl
theorem TC1 : (codeAt [1] BT) = .seq (codeAt [1, 0] BT) (codeAt [1, 1] BT) := by kernel_rfl
theorem TC1_0 : (codeAt [1, 0] BT) = .seq (codeAt [1, 0, 0] BT) (codeAt [1, 0, 1] BT) := by kernel_rfl
theorem TC1_0_1 : (codeAt [1, 0, 1] BT) = .cond (.tmp 20) (codeAt [1, 0, 1, 0] BT) (codeAt [1, 0, 1, 1] BT) := by kernel_rfl
theorem TC1_0_1_0 : (codeAt [1, 0, 1, 0] BT) = .seq (codeAt [1, 0, 1, 0, 0] BT) (codeAt [1, 0, 1, 0, 1] BT) := by kernel_rfl
theorem TC1_0_1_0_1 : (codeAt [1, 0, 1, 0, 1] BT) = .ret := by kernel_rfl
theorem TC1_1 : (codeAt [1, 1] BT) = .seq (codeAt [1, 1, 0] BT) (codeAt [1, 1, 1] BT) := by kernel_rfl
theorem TC1_1_1 : (codeAt [1, 1, 1] BT) = .seq (codeAt [1, 1, 1, 0] BT) (codeAt [1, 1, 1, 1] BT) := by kernel_rfl
theorem TC1_1_1_0 : (codeAt [1, 1, 1, 0] BT) = .seq (codeAt [1, 1, 1, 0, 0] BT) (codeAt [1, 1, 1, 0, 1] BT) := by kernel_rfl
theorem TC1_1_1_0_1_0_0 : (codeAt [1, 1, 1, 0, 1, 0, 0] BT) = .seq (codeAt [1, 1, 1, 0, 1, 0, 0, 0] BT) (codeAt [1, 1, 1, 0, 1, 0, 0, 1] BT) := by kernel_rfl
theorem TC1_1_1_0_1_0_0_1 : (codeAt [1, 1, 1, 0, 1, 0, 0, 1] BT) = .seq (codeAt [1, 1, 1, 0, 1, 0, 0, 1, 0] BT) (codeAt [1, 1, 1, 0, 1, 0, 0, 1, 1] BT) := by kernel_rfl
theorem TC1_1_1_0_1_0_0_1_0 : (codeAt [1, 1, 1, 0, 1, 0, 0, 1, 0] BT) = .cond (.tmp 28) (codeAt [1, 1, 1, 0, 1, 0, 0, 1, 0, 0] BT) (codeAt [1, 1, 1, 0, 1, 0, 0, 1, 0, 1] BT) := by kernel_rfl
theorem TC1_1_1_0_1_0_0_1_0_1 : (codeAt [1, 1, 1, 0, 1, 0, 0, 1, 0, 1] BT) = .exit 0 := by kernel_rfl
theorem TC1_1_1_0_1_0_0_1_1 : (codeAt [1, 1, 1, 0, 1, 0, 0, 1, 1] BT) = .seq (codeAt [1, 1, 1, 0, 1, 0, 0, 1, 1, 0] BT) (codeAt [1, 1, 1, 0, 1, 0, 0, 1, 1, 1] BT) := by kernel_rfl
theorem TC1_1_1_0_1_0_0_1_1_0 : (codeAt [1, 1, 1, 0, 1, 0, 0, 1, 1, 0] BT) = .block 1 (codeAt [1, 1, 1, 0, 1, 0, 0, 1, 1, 0, 0] BT) := by kernel_rfl
theorem TC1_1_1_0_1_0_0_1_1_0_0 : (codeAt [1, 1, 1, 0, 1, 0, 0, 1, 1, 0, 0] BT) = .seq (codeAt [1, 1, 1, 0, 1, 0, 0, 1, 1, 0, 0, 0] BT) (codeAt [1, 1, 1, 0, 1, 0, 0, 1, 1, 0, 0, 1] BT) := by kernel_rfl
theorem TC1_1_1_0_1_0_0_1_1_0_0_1 : (codeAt [1, 1, 1, 0, 1, 0, 0, 1, 1, 0, 0, 1] BT) = .seq (codeAt [1, 1, 1, 0, 1, 0, 0, 1, 1, 0, 0, 1, 0] BT) (codeAt [1, 1, 1, 0, 1, 0, 0, 1, 1, 0, 0, 1, 1] BT) := by kernel_rfl
theorem TC1_1_1_0_1_0_0_1_1_0_0_1_1_0_0 : (codeAt [1, 1, 1, 0, 1, 0, 0, 1, 1, 0, 0, 1, 1, 0, 0] BT) = .seq (codeAt [1, 1, 1, 0, 1, 0, 0, 1, 1, 0, 0, 1, 1, 0, 0, 0] BT) (codeAt [1, 1, 1, 0, 1, 0, 0, 1, 1, 0, 0, 1, 1, 0, 0, 1] BT) := by kernel_rfl
theorem TC1_1_1_0_1_0_0_1_1_0_0_1_1_0_0_1 : (codeAt [1, 1, 1, 0, 1, 0, 0, 1, 1, 0, 0, 1, 1, 0, 0, 1] BT) = .seq (codeAt [1, 1, 1, 0, 1, 0, 0, 1, 1, 0, 0, 1, 1, 0, 0, 1, 0] BT) (codeAt [1, 1, 1, 0, 1, 0, 0, 1, 1, 0, 0, 1, 1, 0, 0, 1, 1] BT) := by kernel_rfl
theorem TC1_1_1_0_1_0_0_1_1_0_0_1_1_0_0_1_0 : (codeAt [1, 1, 1, 0, 1, 0, 0, 1, 1, 0, 0, 1, 1, 0, 0, 1, 0] BT) = .cond (.tmp 32) (codeAt [1, 1, 1, 0, 1, 0, 0, 1, 1, 0, 0, 1, 1, 0, 0, 1, 0, 0] BT) (codeAt [1, 1, 1, 0, 1, 0, 0, 1, 1, 0, 0, 1, 1, 0, 0, 1, 0, 1] BT) := by kernel_rfl
theorem TC1_1_1_0_1_0_0_1_1_0_0_1_1_0_0_1_1 : (codeAt [1, 1, 1, 0, 1, 0, 0, 1, 1, 0, 0, 1, 1, 0, 0, 1, 1] BT) = .seq (codeAt [1, 1, 1, 0, 1, 0, 0, 1, 1, 0, 0, 1, 1, 0, 0, 1, 1, 0] BT) (codeAt [1, 1, 1, 0, 1, 0, 0, 1, 1, 0, 0, 1, 1, 0, 0, 1, 1, 1] BT) := by kernel_rfl
theorem TC1_1_1_0_1_0_0_1_1_0_0_1_1_0_0_1_1_0 : (codeAt [1, 1, 1, 0, 1, 0, 0, 1, 1, 0, 0, 1, 1, 0, 0, 1, 1, 0] BT) = .block 3 (codeAt [1, 1, 1, 0, 1, 0, 0, 1, 1, 0, 0, 1, 1, 0, 0, 1, 1, 0, 0] BT) := by kernel_rfl
theorem TC1_1_1_0_1_0_0_1_1_0_0_1_1_0_0_1_1_0_0 : (codeAt [1, 1, 1, 0, 1, 0, 0, 1, 1, 0, 0, 1, 1, 0, 0, 1, 1, 0, 0] BT) = .seq (codeAt [1, 1, 1, 0, 1, 0, 0, 1, 1, 0, 0, 1, 1, 0, 0, 1, 1, 0, 0, 0] BT) (codeAt [1, 1, 1, 0, 1, 0, 0, 1, 1, 0, 0, 1, 1, 0, 0, 1, 1, 0, 0, 1] BT) := by kernel_rfl
theorem TC1_1_1_0_1_0_0_1_1_0_0_1_1_0_0_1_0_1 : (codeAt [1, 1, 1, 0, 1, 0, 0, 1, 1, 0, 0, 1, 1, 0, 0, 1, 0, 1] BT) = .exit 2 := by kernel_rfl
theorem TC1_1_1_1 : (codeAt [1, 1, 1, 1] BT) = .seq (codeAt [1, 1, 1, 1, 0] BT) (codeAt [1, 1, 1, 1, 1] BT) := by kernel_rfl
theorem TC1_1_1_1_0 : (codeAt [1, 1, 1, 1, 0] BT) = .seq (codeAt [1, 1, 1, 1, 0, 0] BT) (codeAt [1, 1, 1, 1, 0, 1] BT) := by kernel_rfl
theorem TC1_1_1_1_0_1_0_0 : (codeAt [1, 1, 1, 1, 0, 1, 0, 0] BT) = .seq (codeAt [1, 1, 1, 1, 0, 1, 0, 0, 0] BT) (codeAt [1, 1, 1, 1, 0, 1, 0, 0, 1] BT) := by kernel_rfl
theorem TC1_1_1_1_0_1_0_0_1 : (codeAt [1, 1, 1, 1, 0, 1, 0, 0, 1] BT) = .seq (codeAt [1, 1, 1, 1, 0, 1, 0, 0, 1, 0] BT) (codeAt [1, 1, 1, 1, 0, 1, 0, 0, 1, 1] BT) := by kernel_rfl
theorem TC1_1_1_1_0_1_0_0_1_0 : (codeAt [1, 1, 1, 1, 0, 1, 0, 0, 1, 0] BT) = .cond (.tmp 48) (codeAt [1, 1, 1, 1, 0, 1, 0, 0, 1, 0, 0] BT) (codeAt [1, 1, 1, 1, 0, 1, 0, 0, 1, 0, 1] BT) := by kernel_rfl
theorem TC1_1_1_1_0_1_0_0_1_0_1 : (codeAt [1, 1, 1, 1, 0, 1, 0, 0, 1, 0, 1] BT) = .exit 4 := by kernel_rfl
theorem TC1_1_1_1_0_1_0_0_1_1 : (codeAt [1, 1, 1, 1, 0, 1, 0, 0, 1, 1] BT) = .seq (codeAt [1, 1, 1, 1, 0, 1, 0, 0, 1, 1, 0] BT) (codeAt [1, 1, 1, 1, 0, 1, 0, 0, 1, 1, 1] BT) := by kernel_rfl
theorem TC1_1_1_1_0_1_0_0_1_1_0 : (codeAt [1, 1, 1, 1, 0, 1, 0, 0, 1, 1, 0] BT) = .block 5 (codeAt [1, 1, 1, 1, 0, 1, 0, 0, 1, 1, 0, 0] BT) := by kernel_rfl
theorem TC1_1_1_1_0_1_0_0_1_1_0_0 : (codeAt [1, 1, 1, 1, 0, 1, 0, 0, 1, 1, 0, 0] BT) = .seq (codeAt [1, 1, 1, 1, 0, 1, 0, 0, 1, 1, 0, 0, 0] BT) (codeAt [1, 1, 1, 1, 0, 1, 0, 0, 1, 1, 0, 0, 1] BT) := by kernel_rfl
theorem TC1_1_1_1_0_1_0_0_1_1_0_0_1 : (codeAt [1, 1, 1, 1, 0, 1, 0, 0, 1, 1, 0, 0, 1] BT) = .seq (codeAt [1, 1, 1, 1, 0, 1, 0, 0, 1, 1, 0, 0, 1, 0] BT) (codeAt [1, 1, 1, 1, 0, 1, 0, 0, 1, 1, 0, 0, 1, 1] BT) := by kernel_rfl
theorem TC1_1_1_1_0_1_0_0_1_1_0_0_1_1 : (codeAt [1, 1, 1, 1, 0, 1, 0, 0, 1, 1, 0, 0, 1, 1] BT) = .cond (.tmp 52) (codeAt [1, 1, 1, 1, 0, 1, 0, 0, 1, 1, 0, 0, 1, 1, 0] BT) (codeAt [1, 1, 1, 1, 0, 1, 0, 0, 1, 1, 0, 0, 1, 1, 1] BT) := by kernel_rfl
theorem TC1_1_1_1_0_1_0_0_1_1_0_0_1_1_0 : (codeAt [1, 1, 1, 1, 0, 1, 0, 0, 1, 1, 0, 0, 1, 1, 0] BT) = .seq (codeAt [1, 1, 1, 1, 0, 1, 0, 0, 1, 1, 0, 0, 1, 1, 0, 0] BT) (codeAt [1, 1, 1, 1, 0, 1, 0, 0, 1, 1, 0, 0, 1, 1, 0, 1] BT) := by kernel_rfl
theorem TC1_1_1_1_0_1_0_0_1_1_0_0_1_1_0_1 : (codeAt [1, 1, 1, 1, 0, 1, 0, 0, 1, 1, 0, 0, 1, 1, 0, 1] BT) = .ret := by kernel_rfl
theorem TC1_1_1_1_1 : (codeAt [1, 1, 1, 1, 1] BT) = .seq (codeAt [1, 1, 1, 1, 1, 0] BT) (codeAt [1, 1, 1, 1, 1, 1] BT) := by kernel_rfl
theorem TC1_1_1_1_1_1 : (codeAt [1, 1, 1, 1, 1, 1] BT) = .ret := by kernel_rfl
theorem TC1_1_1_0_1 : (codeAt [1, 1, 1, 0, 1] BT) = .block 0 (codeAt [1, 1, 1, 0, 1, 0] BT) := by kernel_rfl
theorem TC1_1_1_0_1_0 : (codeAt [1, 1, 1, 0, 1, 0] BT) = .loop (codeAt [1, 1, 1, 0, 1, 0, 0] BT) := by kernel_rfl
theorem TC1_1_1_1_0_1 : (codeAt [1, 1, 1, 1, 0, 1] BT) = .block 4 (codeAt [1, 1, 1, 1, 0, 1, 0] BT) := by kernel_rfl
theorem TC1_1_1_1_0_1_0 : (codeAt [1, 1, 1, 1, 0, 1, 0] BT) = .loop (codeAt [1, 1, 1, 1, 0, 1, 0, 0] BT) := by kernel_rfl
theorem TC1_1_1_0_1_0_0_1_1_0_0_1_1 : (codeAt [1, 1, 1, 0, 1, 0, 0, 1, 1, 0, 0, 1, 1] BT) = .block 2 (codeAt [1, 1, 1, 0, 1, 0, 0, 1, 1, 0, 0, 1, 1, 0] BT) := by kernel_rfl
theorem TC1_1_1_0_1_0_0_1_1_0_0_1_1_0 : (codeAt [1, 1, 1, 0, 1, 0, 0, 1, 1, 0, 0, 1, 1, 0] BT) = .loop (codeAt [1, 1, 1, 0, 1, 0, 0, 1, 1, 0, 0, 1, 1, 0, 0] BT) := by kernel_rfl
section
variable (byteRV : Int → Int → Int) (byteV : Int → Int → Int) (manyV : Int → Int) (withRV : Int → Int → Int → Int)
noncomputable def TS0 (off : Nat) (n : Nat) (c : Nat) (k : Int) (l : List Int) (e : TypeId) : KSt := (firstK [(.slice (some ⟨0, off, none⟩) n c), (.int .i64 k)] 58 ⟨1, 1, [(0, 0, .tail off .u64 l e)]⟩)
noncomputable def TS1 (off : Nat) (n : Nat) (c : Nat) (k : Int) (l : List Int) (e : TypeId) : KSt := ⟨(frameL 58 [(0, (.slice (some ⟨0, off, none⟩) n c)), (1, (.int .i64 k))]), ⟨1, 1, [(0, 0, .tail off .u64 l e)]⟩⟩
theorem TR1 (off : Nat) (n : Nat) (c : Nat) (k : Int) (l : List Int) (e : TypeId) : TEV byteRV byteV manyV withRV (codeAt [0] BT) (TS0 off n c k l e) [0, 1] =
  some (.normal, (TS1 off n c k l e)) := by kernel_rfl
noncomputable def TS2 (off : Nat) (n : Nat) (c : Nat) (k : Int) (l : List Int) (e : TypeId) : KSt := ⟨(frameL 58 [(0, (.slice (some ⟨0, off, none⟩) n c)), (1, (.int .i64 k)), (20, (.bool true))]), ⟨1, 1, [(0, 0, .tail off .u64 l e)]⟩⟩
noncomputable def TS3 (off : Nat) (n : Nat) (c : Nat) (k : Int) (l : List Int) (e : TypeId) : KSt := ⟨(frameL 58 [(0, (.slice (some ⟨0, off, none⟩) n c)), (1, (.int .i64 k)), (20, (.bool ((manyV k) != ((n : Nat) : Int))))]), ⟨1, 1, [(0, 0, .tail off .u64 l e)]⟩⟩
theorem TR2 (off : Nat) (n : Nat) (c : Nat) (k : Int) (l : List Int) (e : TypeId) : TEV byteRV byteV manyV withRV (codeAt [1, 0, 0] BT) (TS1 off n c k l e) [0, 1, 20] =
  bif (decide (k < 0)) then
    some (.normal, (TS2 off n c k l e))
  else
    bif (decide (k ≤ 9223372036854775807)) then
      some (.normal, (TS3 manyV off n c k l e))
    else
      none := by kernel_rfl
noncomputable def TS4 (off : Nat) (l : List Int) (e : TypeId) : KSt := ⟨(frameL 58 [(4, (.string ⟨#[]⟩)), (5, (.bool false))]), ⟨1, 1, [(0, 0, .tail off .u64 l e)]⟩⟩
theorem TR3 (off : Nat) (n : Nat) (c : Nat) (k : Int) (l : List Int) (e : TypeId) : TEV byteRV byteV manyV withRV (codeAt [1, 0, 1, 0, 0] BT) (TS2 off n c k l e) [4, 5] =
  some (.normal, (TS4 off l e)) := by kernel_rfl
theorem TR4 (off : Nat) (n : Nat) (c : Nat) (k : Int) (l : List Int) (e : TypeId) : TEV byteRV byteV manyV withRV (codeAt [1, 0, 1, 0, 0] BT) (TS3 manyV off n c k l e) [4, 5] =
  some (.normal, (TS4 off l e)) := by kernel_rfl
theorem TR5 (off : Nat) (n : Nat) (c : Nat) (k : Int) (l : List Int) (e : TypeId) : TEV byteRV byteV manyV withRV (codeAt [1, 0, 1, 1] BT) (TS3 manyV off n c k l e) [0, 1] =
  some (.normal, (TS1 off n c k l e)) := by kernel_rfl
noncomputable def TS5 (off : Nat) (n : Nat) (c : Nat) (k : Int) (l : List Int) (e : TypeId) : KSt := ⟨(frameL 58 [(0, (.slice (some ⟨0, off, none⟩) n c)), (1, (.int .i64 k)), (6, (.slice (some ⟨1, 0, none⟩) 0 (Int.toNat (IntKind.wrap .i64 (8 * ((n : Nat) : Int))))))]), ⟨2, 1, [(1, 0, .ints .u8 (List.replicate (Int.toNat (IntKind.wrap .i64 (8 * ((n : Nat) : Int)))) (0 : Int)) 5 true), (0, 0, .tail off .u64 l e)]⟩⟩
theorem TR6 (off : Nat) (n : Nat) (c : Nat) (k : Int) (l : List Int) (e : TypeId) : TEV byteRV byteV manyV withRV (codeAt [1, 1, 0] BT) (TS1 off n c k l e) [0, 1, 6] =
  if (0 : Int) ≤ 0 ∧ 0 ≤ (IntKind.wrap .i64 (8 * ((n : Nat) : Int))) ∧ ((1 : Int) * (IntKind.wrap .i64 (8 * ((n : Nat) : Int)))) ≤ 1099511627776 ∧ (IntKind.wrap .i64 (8 * ((n : Nat) : Int))) ≤ 1099511627776 then
    some (.normal, (TS5 off n c k l e))
  else
    none := by kernel_rfl
noncomputable def TS6 (off : Nat) (n : Nat) (c : Nat) (k : Int) (l : List Int) (e : TypeId) : KSt := ⟨(frameL 58 [(0, (.slice (some ⟨0, off, none⟩) n c)), (1, (.int .i64 k)), (6, (.slice (some ⟨1, 0, none⟩) 0 (8 * n)))]), ⟨2, 1, [(1, 0, .ints .u8 (List.replicate (8 * n) (0 : Int)) 5 true), (0, 0, .tail off .u64 l e)]⟩⟩
noncomputable def TS7 (k : Int) (n : Nat) (off : Nat) (c : Nat) (l : List Int) (e : TypeId) : KSt := ⟨(frameL 58 [(1, (.int .i64 k)), (6, (.slice (some ⟨1, 0, none⟩) 0 (8 * n))), (25, (.slice (some ⟨0, off, none⟩) n c)), (26, (.int .i64 ((n : Nat) : Int))), (27, (.int .i64 0))]), ⟨2, 1, [(1, 0, .ints .u8 (List.replicate (8 * n) (0 : Int)) 5 true), (0, 0, .tail off .u64 l e)]⟩⟩
theorem TR7 (off : Nat) (n : Nat) (c : Nat) (k : Int) (l : List Int) (e : TypeId) : TEV byteRV byteV manyV withRV (codeAt [1, 1, 1, 0, 0] BT) (TS6 off n c k l e) [1, 6, 25, 26, 27] =
  some (.normal, (TS7 k n off c l e)) := by kernel_rfl
noncomputable def TS8 (k : Int) (q : Nat) (n : Nat) (off : Nat) (c : Nat) (j : Int) (A : List Int) (l : List Int) (e : TypeId) : KSt := ⟨(frameL 58 [(1, (.int .i64 k)), (6, (.slice (some ⟨1, 0, none⟩) q (8 * n))), (25, (.slice (some ⟨0, off, none⟩) n c)), (26, (.int .i64 ((n : Nat) : Int))), (27, (.int .i64 j))]), ⟨2, 1, [(1, 0, .ints .u8 A 5 true), (0, 0, .tail off .u64 l e)]⟩⟩
noncomputable def TS9 (k : Int) (q : Nat) (n : Nat) (off : Nat) (c : Nat) (j : Int) (A : List Int) (l : List Int) (e : TypeId) : KSt := ⟨(frameL 58 [(1, (.int .i64 k)), (6, (.slice (some ⟨1, 0, none⟩) q (8 * n))), (25, (.slice (some ⟨0, off, none⟩) n c)), (26, (.int .i64 ((n : Nat) : Int))), (27, (.int .i64 j)), (28, (.bool (decide (j < ((n : Nat) : Int)))))]), ⟨2, 1, [(1, 0, .ints .u8 A 5 true), (0, 0, .tail off .u64 l e)]⟩⟩
theorem TR8 (k : Int) (q : Nat) (n : Nat) (off : Nat) (c : Nat) (j : Int) (A : List Int) (l : List Int) (e : TypeId) : TEV byteRV byteV manyV withRV (codeAt [1, 1, 1, 0, 1, 0, 0, 0] BT) (TS8 k q n off c j A l e) [1, 6, 25, 26, 27, 28] =
  some (.normal, (TS9 k q n off c j A l e)) := by kernel_rfl
theorem TR9 (k : Int) (q : Nat) (n : Nat) (off : Nat) (c : Nat) (j : Int) (A : List Int) (l : List Int) (e : TypeId) : TEV byteRV byteV manyV withRV (codeAt [1, 1, 1, 0, 1, 0, 0, 1, 0, 0] BT) (TS9 k q n off c j A l e) [1, 6, 25, 26, 27] =
  some (.normal, (TS8 k q n off c j A l e)) := by kernel_rfl
noncomputable def TS10 (k : Int) (q : Nat) (n : Nat) (n1 : Int) (off : Nat) (c : Nat) (j : Int) (A : List Int) (l : List Int) (e : TypeId) : KSt := ⟨(frameL 58 [(1, (.int .i64 k)), (6, (.slice (some ⟨1, 0, none⟩) q (8 * n))), (8, (.int .u64 n1)), (25, (.slice (some ⟨0, off, none⟩) n c)), (26, (.int .i64 ((n : Nat) : Int))), (27, (.int .i64 j))]), ⟨2, 1, [(1, 0, .ints .u8 A 5 true), (0, 0, .tail off .u64 l e)]⟩⟩
theorem TR10 (k : Int) (q : Nat) (n : Nat) (off : Nat) (c : Nat) (j : Int) (A : List Int) (l : List Int) (e : TypeId) : TEV byteRV byteV manyV withRV (codeAt [1, 1, 1, 0, 1, 0, 0, 1, 1, 0, 0, 0] BT) (TS8 k q n off c j A l e) [1, 6, 8, 25, 26, 27] =
  if 0 ≤ j ∧ j < ((n : Nat) : Int) then
    bif (Nat.ble off (off + ((Int.toNat j) * 1))) then
      obind (l[((off + ((Int.toNat j) * 1)) - off)]?) fun n1 =>
        some (.normal, (TS10 k q n n1 off c j A l e))
    else
      none
  else
    none := by kernel_rfl
noncomputable def TS11 (k : Int) (q : Nat) (n : Nat) (l : List Int) (j : Int) (off : Nat) (c : Nat) (A : List Int) (e : TypeId) : KSt := ⟨(frameL 58 [(1, (.int .i64 k)), (6, (.slice (some ⟨1, 0, none⟩) q (8 * n))), (8, (.int .u64 (l.getD ((Int.toNat j) * 1) 0))), (25, (.slice (some ⟨0, off, none⟩) n c)), (26, (.int .i64 ((n : Nat) : Int))), (27, (.int .i64 j))]), ⟨2, 1, [(1, 0, .ints .u8 A 5 true), (0, 0, .tail off .u64 l e)]⟩⟩
noncomputable def TS12 (k : Int) (q : Nat) (n : Nat) (l : List Int) (j : Int) (off : Nat) (c : Nat) (A : List Int) (e : TypeId) : KSt := ⟨(frameL 58 [(1, (.int .i64 k)), (6, (.slice (some ⟨1, 0, none⟩) q (8 * n))), (8, (.int .u64 (l.getD ((Int.toNat j) * 1) 0))), (25, (.slice (some ⟨0, off, none⟩) n c)), (26, (.int .i64 ((n : Nat) : Int))), (27, (.int .i64 j)), (31, (.int .i64 0))]), ⟨2, 1, [(1, 0, .ints .u8 A 5 true), (0, 0, .tail off .u64 l e)]⟩⟩
theorem TR11 (k : Int) (q : Nat) (n : Nat) (l : List Int) (j : Int) (off : Nat) (c : Nat) (A : List Int) (e : TypeId) : TEV byteRV byteV manyV withRV (codeAt [1, 1, 1, 0, 1, 0, 0, 1, 1, 0, 0, 1, 0] BT) (TS11 k q n l j off c A e) [1, 6, 8, 25, 26, 27, 31] =
  some (.normal, (TS12 k q n l j off c A e)) := by kernel_rfl
noncomputable def TS13 (k : Int) (q : Nat) (n : Nat) (w : Int) (off : Nat) (c : Nat) (j : Int) (i : Int) (A : List Int) (l : List Int) (e : TypeId) : KSt := ⟨(frameL 58 [(1, (.int .i64 k)), (6, (.slice (some ⟨1, 0, none⟩) q (8 * n))), (8, (.int .u64 w)), (25, (.slice (some ⟨0, off, none⟩) n c)), (26, (.int .i64 ((n : Nat) : Int))), (27, (.int .i64 j)), (31, (.int .i64 i))]), ⟨2, 1, [(1, 0, .ints .u8 A 5 true), (0, 0, .tail off .u64 l e)]⟩⟩
noncomputable def TS14 (k : Int) (q : Nat) (n : Nat) (w : Int) (off : Nat) (c : Nat) (j : Int) (i : Int) (A : List Int) (l : List Int) (e : TypeId) : KSt := ⟨(frameL 58 [(1, (.int .i64 k)), (6, (.slice (some ⟨1, 0, none⟩) q (8 * n))), (8, (.int .u64 w)), (25, (.slice (some ⟨0, off, none⟩) n c)), (26, (.int .i64 ((n : Nat) : Int))), (27, (.int .i64 j)), (31, (.int .i64 i)), (32, (.bool (decide (i < 8))))]), ⟨2, 1, [(1, 0, .ints .u8 A 5 true), (0, 0, .tail off .u64 l e)]⟩⟩
theorem TR12 (k : Int) (q : Nat) (n : Nat) (w : Int) (off : Nat) (c : Nat) (j : Int) (i : Int) (A : List Int) (l : List Int) (e : TypeId) : TEV byteRV byteV manyV withRV (codeAt [1, 1, 1, 0, 1, 0, 0, 1, 1, 0, 0, 1, 1, 0, 0, 0] BT) (TS13 k q n w off c j i A l e) [1, 6, 8, 25, 26, 27, 31, 32] =
  some (.normal, (TS14 k q n w off c j i A l e)) := by kernel_rfl
theorem TR13 (k : Int) (q : Nat) (n : Nat) (w : Int) (off : Nat) (c : Nat) (j : Int) (i : Int) (A : List Int) (l : List Int) (e : TypeId) : TEV byteRV byteV manyV withRV (codeAt [1, 1, 1, 0, 1, 0, 0, 1, 1, 0, 0, 1, 1, 0, 0, 1, 0, 0] BT) (TS14 k q n w off c j i A l e) [1, 6, 8, 25, 26, 27, 31] =
  some (.normal, (TS13 k q n w off c j i A l e)) := by kernel_rfl
noncomputable def TS15 (k : Int) (q : Nat) (n : Nat) (w : Int) (i : Int) (off : Nat) (c : Nat) (j : Int) (A : List Int) (l : List Int) (e : TypeId) : KSt := ⟨(frameL 58 [(1, (.int .i64 k)), (6, (.slice (some ⟨1, 0, none⟩) q (8 * n))), (8, (.int .u64 w)), (9, (.int .i64 i)), (25, (.slice (some ⟨0, off, none⟩) n c)), (26, (.int .i64 ((n : Nat) : Int))), (27, (.int .i64 j)), (31, (.int .i64 i))]), ⟨2, 1, [(1, 0, .ints .u8 A 5 true), (0, 0, .tail off .u64 l e)]⟩⟩
theorem TR14 (k : Int) (q : Nat) (n : Nat) (w : Int) (off : Nat) (c : Nat) (j : Int) (i : Int) (A : List Int) (l : List Int) (e : TypeId) : TEV byteRV byteV manyV withRV (codeAt [1, 1, 1, 0, 1, 0, 0, 1, 1, 0, 0, 1, 1, 0, 0, 1, 1, 0, 0, 0] BT) (TS13 k q n w off c j i A l e) [1, 6, 8, 9, 25, 26, 27, 31] =
  some (.normal, (TS15 k q n w i off c j A l e)) := by kernel_rfl
noncomputable def TS16 (k : Int) (q : Nat) (n : Nat) (w : Int) (off : Nat) (c : Nat) (j : Int) (i : Int) (A : List Int) (l : List Int) (e : TypeId) : KSt := ⟨(frameL 58 [(1, (.int .i64 k)), (6, (.slice (some ⟨1, 0, none⟩) (q + 1) (8 * n))), (8, (.int .u64 w)), (25, (.slice (some ⟨0, off, none⟩) n c)), (26, (.int .i64 ((n : Nat) : Int))), (27, (.int .i64 j)), (31, (.int .i64 i))]), ⟨2, 1, [(1, 0, .ints .u8 (List.take (0 + q) A ++ [(IntKind.wrap .u8 (byteV w i))] ++ List.drop ((0 + q) + (List.length [(IntKind.wrap .u8 (byteV w i))])) A) 5 true), (0, 0, .tail off .u64 l e)]⟩⟩
noncomputable def TS17 (k : Int) (w : Int) (off : Nat) (n : Nat) (c : Nat) (j : Int) (i : Int) (l : List Int) (e : TypeId) : KSt := ⟨(frameL 58 [(1, (.int .i64 k)), (6, (.slice (some ⟨1, 0, none⟩) 1 1)), (8, (.int .u64 w)), (25, (.slice (some ⟨0, off, none⟩) n c)), (26, (.int .i64 ((n : Nat) : Int))), (27, (.int .i64 j)), (31, (.int .i64 i))]), ⟨2, 1, [(1, 0, .cells [(.int .u8 (IntKind.wrap .u8 (byteV w i)))] 5 true), (0, 0, .tail off .u64 l e)]⟩⟩
noncomputable def TS18 (k : Int) (q : Nat) (w : Int) (off : Nat) (n : Nat) (c : Nat) (j : Int) (i : Int) (A : List Int) (l : List Int) (e : TypeId) : KSt := ⟨(frameL 58 [(1, (.int .i64 k)), (6, (.slice (some ⟨1, 0, none⟩) (q + 1) (q + 1))), (8, (.int .u64 w)), (25, (.slice (some ⟨0, off, none⟩) n c)), (26, (.int .i64 ((n : Nat) : Int))), (27, (.int .i64 j)), (31, (.int .i64 i))]), ⟨2, 1, [(1, 0, .ints .u8 (List.take q A ++ [(IntKind.wrap .u8 (byteV w i))]) 5 true), (0, 0, .tail off .u64 l e)]⟩⟩
theorem TR15 (k : Int) (q : Nat) (n : Nat) (w : Int) (i : Int) (off : Nat) (c : Nat) (j : Int) (A : List Int) (l : List Int) (e : TypeId) : TEV byteRV byteV manyV withRV (codeAt [1, 1, 1, 0, 1, 0, 0, 1, 1, 0, 0, 1, 1, 0, 0, 1, 1, 0, 0, 1] BT) (TS15 k q n w i off c j A l e) [1, 6, 8, 25, 26, 27, 31] =
  bif (Nat.ble ((q + 1) * 2) 1099511627776) then
    bif (Nat.ble (q + 1) (8 * n)) then
      bif (Nat.ble (0 + (q + 1)) (List.length A)) then
        some (.normal, (TS16 byteV k q n w off c j i A l e))
      else
        none
    else
      bif ((Nat.beq q 0) && (Nat.beq (8 * n) 0)) then
        some (.normal, (TS17 byteV k w off n c j i l e))
      else
        bif ((Nat.ble q (List.length A)) && (Nat.ble 1 (8 * n))) then
          some (.normal, (TS18 byteV k q w off n c j i A l e))
        else
          none
  else
    none := by kernel_rfl
noncomputable def TS19 (k : Int) (q : Nat) (n : Nat) (w : Int) (off : Nat) (c : Nat) (j : Int) (i : Int) (A : List Int) (l : List Int) (e : TypeId) : KSt := ⟨(frameL 58 [(1, (.int .i64 k)), (6, (.slice (some ⟨1, 0, none⟩) (q + 1) (8 * n))), (8, (.int .u64 w)), (25, (.slice (some ⟨0, off, none⟩) n c)), (26, (.int .i64 ((n : Nat) : Int))), (27, (.int .i64 j)), (31, (.int .i64 (IntKind.wrap .i64 (i + 1))))]), ⟨2, 1, [(1, 0, .ints .u8 (List.take (0 + q) A ++ [(IntKind.wrap .u8 (byteV w i))] ++ List.drop ((0 + q) + (List.length [(IntKind.wrap .u8 (byteV w i))])) A) 5 true), (0, 0, .tail off .u64 l e)]⟩⟩
theorem TR16 (k : Int) (q : Nat) (n : Nat) (w : Int) (off : Nat) (c : Nat) (j : Int) (i : Int) (A : List Int) (l : List Int) (e : TypeId) : TEV byteRV byteV manyV withRV (codeAt [1, 1, 1, 0, 1, 0, 0, 1, 1, 0, 0, 1, 1, 0, 0, 1, 1, 1] BT) (TS16 byteV k q n w off c j i A l e) [1, 6, 8, 25, 26, 27, 31] =
  some (.normal, (TS19 byteV k q n w off c j i A l e)) := by kernel_rfl
noncomputable def TS20 (k : Int) (q : Nat) (n : Nat) (w : Int) (off : Nat) (c : Nat) (j : Int) (i : Int) (A : List Int) (l : List Int) (e : TypeId) : KSt := ⟨(frameL 58 [(1, (.int .i64 k)), (6, (.slice (some ⟨1, 0, none⟩) (q + 1) (8 * n))), (8, (.int .u64 w)), (25, (.slice (some ⟨0, off, none⟩) n c)), (26, (.int .i64 ((n : Nat) : Int))), (27, (.int .i64 j)), (31, (.int .i64 (i + 1)))]), ⟨2, 1, [(1, 0, .ints .u8 (List.take (0 + q) A ++ [(IntKind.wrap .u8 (byteV w i))] ++ List.drop ((0 + q) + (List.length [(IntKind.wrap .u8 (byteV w i))])) A) 5 true), (0, 0, .tail off .u64 l e)]⟩⟩
noncomputable def TS21 (k : Int) (q : Nat) (n : Nat) (off : Nat) (c : Nat) (j : Int) (A : List Int) (l : List Int) (e : TypeId) : KSt := ⟨(frameL 58 [(1, (.int .i64 k)), (6, (.slice (some ⟨1, 0, none⟩) q (8 * n))), (25, (.slice (some ⟨0, off, none⟩) n c)), (26, (.int .i64 ((n : Nat) : Int))), (27, (.int .i64 (IntKind.wrap .i64 (j + 1))))]), ⟨2, 1, [(1, 0, .ints .u8 A 5 true), (0, 0, .tail off .u64 l e)]⟩⟩
theorem TR17 (k : Int) (q : Nat) (n : Nat) (w : Int) (off : Nat) (c : Nat) (j : Int) (i : Int) (A : List Int) (l : List Int) (e : TypeId) : TEV byteRV byteV manyV withRV (codeAt [1, 1, 1, 0, 1, 0, 0, 1, 1, 1] BT) (TS14 k q n w off c j i A l e) [1, 6, 25, 26, 27] =
  some (.normal, (TS21 k q n off c j A l e)) := by kernel_rfl
noncomputable def TS22 (k : Int) (q : Nat) (n : Nat) (off : Nat) (c : Nat) (j : Int) (A : List Int) (l : List Int) (e : TypeId) : KSt := ⟨(frameL 58 [(1, (.int .i64 k)), (6, (.slice (some ⟨1, 0, none⟩) q (8 * n))), (25, (.slice (some ⟨0, off, none⟩) n c)), (26, (.int .i64 ((n : Nat) : Int))), (27, (.int .i64 (j + 1)))]), ⟨2, 1, [(1, 0, .ints .u8 A 5 true), (0, 0, .tail off .u64 l e)]⟩⟩
noncomputable def TS23 (k : Int) (n : Nat) (off : Nat) (c : Nat) (j : Int) (A : List Int) (l : List Int) (e : TypeId) : KSt := ⟨(frameL 58 [(1, (.int .i64 k)), (6, (.slice (some ⟨1, 0, none⟩) (8 * n) (8 * n))), (25, (.slice (some ⟨0, off, none⟩) n c)), (26, (.int .i64 ((n : Nat) : Int))), (27, (.int .i64 j)), (28, (.bool (decide (j < ((n : Nat) : Int)))))]), ⟨2, 1, [(1, 0, .ints .u8 A 5 true), (0, 0, .tail off .u64 l e)]⟩⟩
noncomputable def TS24 (k : Int) (n : Nat) (A : List Int) (off : Nat) (l : List Int) (e : TypeId) : KSt := ⟨(frameL 58 [(1, (.int .i64 k)), (6, (.slice (some ⟨1, 0, none⟩) (8 * n) (8 * n))), (45, (.slice (some ⟨0, 0, some 0⟩) 0 0)), (46, (.int .i64 0)), (47, (.int .i64 0))]), ⟨2, 1, [(1, 0, .ints .u8 A 5 true), (0, 0, .tail off .u64 l e)]⟩⟩
noncomputable def TS25 (k : Int) (n : Nat) (A : List Int) (off : Nat) (l : List Int) (e : TypeId) : KSt := ⟨(frameL 58 [(1, (.int .i64 k)), (6, (.slice (some ⟨1, 0, none⟩) (8 * n) (8 * n))), (45, (.slice (some ⟨1, (0 + ((Int.toNat k) * 1)), none⟩) ((8 * n) - (Int.toNat k)) ((8 * n) - (Int.toNat k)))), (46, (.int .i64 ((((8 * n) - (Int.toNat k)) : Nat) : Int))), (47, (.int .i64 0))]), ⟨2, 1, [(1, 0, .ints .u8 A 5 true), (0, 0, .tail off .u64 l e)]⟩⟩
theorem TR18 (k : Int) (n : Nat) (off : Nat) (c : Nat) (j : Int) (A : List Int) (l : List Int) (e : TypeId) : TEV byteRV byteV manyV withRV (codeAt [1, 1, 1, 1, 0, 0] BT) (TS23 k n off c j A l e) [1, 6, 45, 46, 47] =
  if 0 ≤ k ∧ k ≤ (((8 * n) : Nat) : Int) then
    bif ((Nat.ble (Int.toNat k) (8 * n)) && (Nat.ble (8 * n) (8 * n))) then
      bif (Nat.beq (8 * n) (Int.toNat k)) then
        some (.normal, (TS24 k n A off l e))
      else
        some (.normal, (TS25 k n A off l e))
    else
      none
  else
    none := by kernel_rfl
noncomputable def TS26 (k : Int) (n : Nat) (A : List Int) (off : Nat) (l : List Int) (e : TypeId) : KSt := ⟨(frameL 58 [(1, (.int .i64 k)), (6, (.slice (some ⟨1, 0, none⟩) (8 * n) (8 * n))), (45, (.slice (some ⟨0, 0, some 0⟩) 0 0)), (46, (.int .i64 0)), (47, (.int .i64 0)), (48, (.bool false))]), ⟨2, 1, [(1, 0, .ints .u8 A 5 true), (0, 0, .tail off .u64 l e)]⟩⟩
theorem TR19 (k : Int) (n : Nat) (A : List Int) (off : Nat) (l : List Int) (e : TypeId) : TEV byteRV byteV manyV withRV (codeAt [1, 1, 1, 1, 0, 1, 0, 0, 0] BT) (TS24 k n A off l e) [1, 6, 45, 46, 47, 48] =
  some (.normal, (TS26 k n A off l e)) := by kernel_rfl
noncomputable def TS27 (k : Int) (n : Nat) (j : Int) (A : List Int) (off : Nat) (l : List Int) (e : TypeId) : KSt := ⟨(frameL 58 [(1, (.int .i64 k)), (6, (.slice (some ⟨1, 0, none⟩) (8 * n) (8 * n))), (45, (.slice (some ⟨1, (0 + ((Int.toNat k) * 1)), none⟩) ((8 * n) - (Int.toNat k)) ((8 * n) - (Int.toNat k)))), (46, (.int .i64 ((((8 * n) - (Int.toNat k)) : Nat) : Int))), (47, (.int .i64 j))]), ⟨2, 1, [(1, 0, .ints .u8 A 5 true), (0, 0, .tail off .u64 l e)]⟩⟩
noncomputable def TS28 (k : Int) (n : Nat) (j : Int) (A : List Int) (off : Nat) (l : List Int) (e : TypeId) : KSt := ⟨(frameL 58 [(1, (.int .i64 k)), (6, (.slice (some ⟨1, 0, none⟩) (8 * n) (8 * n))), (45, (.slice (some ⟨1, (0 + ((Int.toNat k) * 1)), none⟩) ((8 * n) - (Int.toNat k)) ((8 * n) - (Int.toNat k)))), (46, (.int .i64 ((((8 * n) - (Int.toNat k)) : Nat) : Int))), (47, (.int .i64 j)), (48, (.bool (decide (j < ((((8 * n) - (Int.toNat k)) : Nat) : Int)))))]), ⟨2, 1, [(1, 0, .ints .u8 A 5 true), (0, 0, .tail off .u64 l e)]⟩⟩
theorem TR20 (k : Int) (n : Nat) (j : Int) (A : List Int) (off : Nat) (l : List Int) (e : TypeId) : TEV byteRV byteV manyV withRV (codeAt [1, 1, 1, 1, 0, 1, 0, 0, 0] BT) (TS27 k n j A off l e) [1, 6, 45, 46, 47, 48] =
  some (.normal, (TS28 k n j A off l e)) := by kernel_rfl
theorem TR21 (k : Int) (n : Nat) (j : Int) (A : List Int) (off : Nat) (l : List Int) (e : TypeId) : TEV byteRV byteV manyV withRV (codeAt [1, 1, 1, 1, 0, 1, 0, 0, 1, 0, 0] BT) (TS28 k n j A off l e) [1, 6, 45, 46, 47] =
  some (.normal, (TS27 k n j A off l e)) := by kernel_rfl
noncomputable def TS29 (k : Int) (n : Nat) (n1 : Int) (j : Int) (A : List Int) (off : Nat) (l : List Int) (e : TypeId) : KSt := ⟨(frameL 58 [(1, (.int .i64 k)), (6, (.slice (some ⟨1, 0, none⟩) (8 * n) (8 * n))), (11, (.int .u8 n1)), (45, (.slice (some ⟨1, (0 + ((Int.toNat k) * 1)), none⟩) ((8 * n) - (Int.toNat k)) ((8 * n) - (Int.toNat k)))), (46, (.int .i64 ((((8 * n) - (Int.toNat k)) : Nat) : Int))), (47, (.int .i64 j))]), ⟨2, 1, [(1, 0, .ints .u8 A 5 true), (0, 0, .tail off .u64 l e)]⟩⟩
theorem TR22 (k : Int) (n : Nat) (j : Int) (A : List Int) (off : Nat) (l : List Int) (e : TypeId) : TEV byteRV byteV manyV withRV (codeAt [1, 1, 1, 1, 0, 1, 0, 0, 1, 1, 0, 0, 0] BT) (TS27 k n j A off l e) [1, 6, 11, 45, 46, 47] =
  if 0 ≤ j ∧ j < ((((8 * n) - (Int.toNat k)) : Nat) : Int) then
    obind (A[((0 + ((Int.toNat k) * 1)) + ((Int.toNat j) * 1))]?) fun n1 =>
      some (.normal, (TS29 k n n1 j A off l e))
  else
    none := by kernel_rfl
noncomputable def TS30 (k : Int) (n : Nat) (A : List Int) (j : Int) (off : Nat) (l : List Int) (e : TypeId) : KSt := ⟨(frameL 58 [(1, (.int .i64 k)), (6, (.slice (some ⟨1, 0, none⟩) (8 * n) (8 * n))), (11, (.int .u8 (A.getD ((0 + ((Int.toNat k) * 1)) + ((Int.toNat j) * 1)) 0))), (45, (.slice (some ⟨1, (0 + ((Int.toNat k) * 1)), none⟩) ((8 * n) - (Int.toNat k)) ((8 * n) - (Int.toNat k)))), (46, (.int .i64 ((((8 * n) - (Int.toNat k)) : Nat) : Int))), (47, (.int .i64 j))]), ⟨2, 1, [(1, 0, .ints .u8 A 5 true), (0, 0, .tail off .u64 l e)]⟩⟩
noncomputable def TS31 (k : Int) (n : Nat) (j : Int) (A : List Int) (off : Nat) (l : List Int) (e : TypeId) : KSt := ⟨(frameL 58 [(1, (.int .i64 k)), (6, (.slice (some ⟨1, 0, none⟩) (8 * n) (8 * n))), (45, (.slice (some ⟨1, (0 + ((Int.toNat k) * 1)), none⟩) ((8 * n) - (Int.toNat k)) ((8 * n) - (Int.toNat k)))), (46, (.int .i64 ((((8 * n) - (Int.toNat k)) : Nat) : Int))), (47, (.int .i64 j)), (52, (.bool ((A.getD ((0 + ((Int.toNat k) * 1)) + ((Int.toNat j) * 1)) 0) != 0)))]), ⟨2, 1, [(1, 0, .ints .u8 A 5 true), (0, 0, .tail off .u64 l e)]⟩⟩
theorem TR23 (k : Int) (n : Nat) (A : List Int) (j : Int) (off : Nat) (l : List Int) (e : TypeId) : TEV byteRV byteV manyV withRV (codeAt [1, 1, 1, 1, 0, 1, 0, 0, 1, 1, 0, 0, 1, 0] BT) (TS30 k n A j off l e) [1, 6, 45, 46, 47, 52] =
  some (.normal, (TS31 k n j A off l e)) := by kernel_rfl
theorem TR24 (k : Int) (n : Nat) (j : Int) (A : List Int) (off : Nat) (l : List Int) (e : TypeId) : TEV byteRV byteV manyV withRV (codeAt [1, 1, 1, 1, 0, 1, 0, 0, 1, 1, 0, 0, 1, 1, 0, 0] BT) (TS31 k n j A off l e) [4, 5] =
  some (.normal, (TS4 off l e)) := by kernel_rfl
theorem TR25 (k : Int) (n : Nat) (j : Int) (A : List Int) (off : Nat) (l : List Int) (e : TypeId) : TEV byteRV byteV manyV withRV (codeAt [1, 1, 1, 1, 0, 1, 0, 0, 1, 1, 0, 0, 1, 1, 1] BT) (TS31 k n j A off l e) [1, 6, 45, 46, 47] =
  some (.normal, (TS27 k n j A off l e)) := by kernel_rfl
noncomputable def TS32 (k : Int) (n : Nat) (j : Int) (A : List Int) (off : Nat) (l : List Int) (e : TypeId) : KSt := ⟨(frameL 58 [(1, (.int .i64 k)), (6, (.slice (some ⟨1, 0, none⟩) (8 * n) (8 * n))), (45, (.slice (some ⟨1, (0 + ((Int.toNat k) * 1)), none⟩) ((8 * n) - (Int.toNat k)) ((8 * n) - (Int.toNat k)))), (46, (.int .i64 ((((8 * n) - (Int.toNat k)) : Nat) : Int))), (47, (.int .i64 (IntKind.wrap .i64 (j + 1))))]), ⟨2, 1, [(1, 0, .ints .u8 A 5 true), (0, 0, .tail off .u64 l e)]⟩⟩
theorem TR26 (k : Int) (n : Nat) (j : Int) (A : List Int) (off : Nat) (l : List Int) (e : TypeId) : TEV byteRV byteV manyV withRV (codeAt [1, 1, 1, 1, 0, 1, 0, 0, 1, 1, 1] BT) (TS27 k n j A off l e) [1, 6, 45, 46, 47] =
  some (.normal, (TS32 k n j A off l e)) := by kernel_rfl
noncomputable def TS33 (k : Int) (n : Nat) (j : Int) (A : List Int) (off : Nat) (l : List Int) (e : TypeId) : KSt := ⟨(frameL 58 [(1, (.int .i64 k)), (6, (.slice (some ⟨1, 0, none⟩) (8 * n) (8 * n))), (45, (.slice (some ⟨1, (0 + ((Int.toNat k) * 1)), none⟩) ((8 * n) - (Int.toNat k)) ((8 * n) - (Int.toNat k)))), (46, (.int .i64 ((((8 * n) - (Int.toNat k)) : Nat) : Int))), (47, (.int .i64 (j + 1)))]), ⟨2, 1, [(1, 0, .ints .u8 A 5 true), (0, 0, .tail off .u64 l e)]⟩⟩
noncomputable def TS34 (off : Nat) (l : List Int) (e : TypeId) : KSt := ⟨(frameL 58 [(4, (.string ⟨#[]⟩)), (5, (.bool true))]), ⟨1, 1, [(0, 0, .tail off .u64 l e)]⟩⟩
noncomputable def TS35 (k : Int) (A : List Int) (off : Nat) (l : List Int) (e : TypeId) : KSt := ⟨(frameL 58 [(4, (.string (bytesOfNums (List.take ((Int.toNat k) - 0) (List.drop 0 A))))), (5, (.bool true))]), ⟨1, 1, [(0, 0, .tail off .u64 l e)]⟩⟩
theorem TR27 (k : Int) (n : Nat) (j : Int) (A : List Int) (off : Nat) (l : List Int) (e : TypeId) : TEV byteRV byteV manyV withRV (codeAt [1, 1, 1, 1, 1, 0] BT) (TS28 k n j A off l e) [4, 5] =
  if 0 ≤ k ∧ k ≤ (((8 * n) : Nat) : Int) then
    bif ((Nat.ble 0 (Int.toNat k)) && (Nat.ble (Int.toNat k) (8 * n))) then
      bif (Nat.beq (8 * n) 0) then
        some (.normal, (TS34 off l e))
      else
        bif (Nat.ble (0 + ((Int.toNat k) - 0)) (List.length A)) then
          some (.normal, (TS35 k A off l e))
        else
          none
    else
      none
  else
    none := by kernel_rfl
theorem TR28 (k : Int) (n : Nat) (A : List Int) (off : Nat) (l : List Int) (e : TypeId) : TEV byteRV byteV manyV withRV (codeAt [1, 1, 1, 1, 1, 0] BT) (TS26 k n A off l e) [4, 5] =
  if 0 ≤ k ∧ k ≤ (((8 * n) : Nat) : Int) then
    bif ((Nat.ble 0 (Int.toNat k)) && (Nat.ble (Int.toNat k) (8 * n))) then
      bif (Nat.beq (8 * n) 0) then
        some (.normal, (TS34 off l e))
      else
        bif (Nat.ble (0 + ((Int.toNat k) - 0)) (List.length A)) then
          some (.normal, (TS35 k A off l e))
        else
          none
    else
      none
  else
    none := by kernel_rfl
end
theorem Tlo {k : Int} {off : Nat} {l : List Int} {e : TypeId} {n : Nat} {c : Nat} (h : k < 0)   {Q : Ex → St → Prop} (hq : Q .ret (KSt.low (TS4 off l e))) : Gets Try.prog (KH.low ⟨1, 1, [(0, 0, .tail off .u64 l e)]⟩) BT (KSt.low (TS0 off n c k l e)) Q := by
  rw [TC]; refine Gets.seq ?_
  refine Tgo (TR1 byteRV byteV manyV withRV off n c k l e) ?_
  rw [TC1]; refine Gets.seq ?_
  rw [TC1_0]; refine Gets.seq ?_
  refine Tgo (x := .normal) (s' := (TS2 off n c k l e)) ((TR2 byteRV byteV manyV withRV off n c k l e).trans (by rw [condT (decide_eq_true (by omega))])) ?_
  rw [TC1_0_1]; refine Gets.cond true (by kernel_rfl) (by kernel_rfl) ?_; show Gets _ _ (codeAt [1, 0, 1, 0] BT) _ _
  rw [TC1_0_1_0]; refine Gets.seq ?_
  refine Tgo (TR3 byteRV byteV manyV withRV off n c k l e) ?_
  rw [TC1_0_1_0_1]; refine Gets.ev fitC.mix fitC.cfg (fitC.sound pka_sound 14 0) 14 rfl (s' := KSt.low (TS4 off l e)) (x := .ret) rfl ?_
  exact hq
theorem Tne {k : Int} {n : Nat} {off : Nat} {l : List Int} {e : TypeId} {c : Nat} (hk : k ≤ 9223372036854775807) (h : 0 ≤ k) (hn : n ≤ 1000) (hne : manyV k ≠ (n : Int))   {Q : Ex → St → Prop} (hq : Q .ret (KSt.low (TS4 off l e))) : Gets Try.prog (KH.low ⟨1, 1, [(0, 0, .tail off .u64 l e)]⟩) BT (KSt.low (TS0 off n c k l e)) Q := by
  rw [TC]; refine Gets.seq ?_
  refine Tgo (TR1 byteRV byteV manyV withRV off n c k l e) ?_
  rw [TC1]; refine Gets.seq ?_
  rw [TC1_0]; refine Gets.seq ?_
  refine Tgo (x := .normal) (s' := (TS3 manyV off n c k l e)) ((TR2 byteRV byteV manyV withRV off n c k l e).trans (by rw [condF (decide_eq_false (by omega)), condT (decide_eq_true (by omega))])) ?_
  rw [TC1_0_1]; refine Gets.cond true (by kernel_rfl) (TeX (b := ((manyV k) != ((n : Nat) : Int))) (by kernel_rfl) ((show ((manyV k) != ((n : Nat) : Int)) = true from ibne_t (by omega)))) ?_; show Gets _ _ (codeAt [1, 0, 1, 0] BT) _ _
  rw [TC1_0_1_0]; refine Gets.seq ?_
  refine Tgo (TR4 byteRV byteV manyV withRV off n c k l e) ?_
  rw [TC1_0_1_0_1]; refine Gets.ev fitC.mix fitC.cfg (fitC.sound pka_sound 14 0) 14 rfl (s' := KSt.low (TS4 off l e)) (x := .ret) rfl ?_
  exact hq
theorem Tpre {k : Int} {n : Nat} {off : Nat} {l : List Int} {e : TypeId} {c : Nat} (hk : k ≤ 9223372036854775807) (h : 0 ≤ k) (hn : n ≤ 1000) (hne : manyV k = (n : Int)) (h8 : IntKind.wrap .i64 (8 * ((n : Nat) : Int)) = 8 * ((n : Nat) : Int))   {Q : Ex → St → Prop} (hq : Gets Try.prog (KH.low ⟨1, 1, [(0, 0, .tail off .u64 l e)]⟩) (codeAt [1, 1, 1, 0, 1] BT) (KSt.low (TS7 k n off c l e)) (onN (fun s => Gets Try.prog (KH.low ⟨1, 1, [(0, 0, .tail off .u64 l e)]⟩) (codeAt [1, 1, 1, 1] BT) s (Q)) (Q))) : Gets Try.prog (KH.low ⟨1, 1, [(0, 0, .tail off .u64 l e)]⟩) BT (KSt.low (TS0 off n c k l e)) Q := by
  rw [TC]; refine Gets.seq ?_
  refine Tgo (TR1 byteRV byteV manyV withRV off n c k l e) ?_
  rw [TC1]; refine Gets.seq ?_
  rw [TC1_0]; refine Gets.seq ?_
  refine Tgo (x := .normal) (s' := (TS3 manyV off n c k l e)) ((TR2 byteRV byteV manyV withRV off n c k l e).trans (by rw [condF (decide_eq_false (by omega)), condT (decide_eq_true (by omega))])) ?_
  rw [TC1_0_1]; refine Gets.cond false (by kernel_rfl) (TeX (b := ((manyV k) != ((n : Nat) : Int))) (by kernel_rfl) ((show ((manyV k) != ((n : Nat) : Int)) = false from ibne_f (by omega)))) ?_; show Gets _ _ (codeAt [1, 0, 1, 1] BT) _ _
  refine Tgo (TR5 byteRV byteV manyV withRV off n c k l e) ?_
  rw [TC1_1]; refine Gets.seq ?_
  refine Tgo (x := .normal) (s' := (TS6 off n c k l e)) ((TR6 byteRV byteV manyV withRV off n c k l e).trans (by rw [if_pos (by refine ⟨?_, ?_, ?_, ?_⟩ <;> (first | omega | ((try simp (disch := omega) only [wrap_i64_id]) <;> omega)))] <;> (show some (Ex.normal, (TS5 off n c k l e)) = some (Ex.normal, (TS6 off n c k l e)); unfold TS5 TS6; rw [(show (Int.toNat (IntKind.wrap .i64 (8 * ((n : Nat) : Int)))) = (8 * n) from by omega)]))) ?_
  rw [TC1_1_1]; refine Gets.seq ?_
  rw [TC1_1_1_0]; refine Gets.seq ?_
  refine Tgo (TR7 byteRV byteV manyV withRV off n c k l e) ?_
  exact hq
theorem Tx {j : Int} {n : Nat} {k : Int} {q : Nat} {off : Nat} {c : Nat} {A : List Int} {l : List Int} {e : TypeId} (hj : j = (n : Int))   {Q : Ex → St → Prop} (hq : Q (.exit 0) (KSt.low (TS9 k q n off c j A l e))) : Gets Try.prog (KH.low ⟨1, 1, [(0, 0, .tail off .u64 l e)]⟩) (codeAt [1, 1, 1, 0, 1, 0, 0] BT) (KSt.low (TS8 k q n off c j A l e)) Q := by
  rw [TC1_1_1_0_1_0_0]; refine Gets.seq ?_
  refine Tgo (TR8 byteRV byteV manyV withRV k q n off c j A l e) ?_
  rw [TC1_1_1_0_1_0_0_1]; refine Gets.seq ?_
  rw [TC1_1_1_0_1_0_0_1_0]; refine Gets.cond false (by kernel_rfl) (TeX (b := (decide (j < ((n : Nat) : Int)))) (by kernel_rfl) ((show (decide (j < ((n : Nat) : Int))) = false from decide_eq_false (by omega)))) ?_; show Gets _ _ (codeAt [1, 1, 1, 0, 1, 0, 0, 1, 0, 1] BT) _ _
  rw [TC1_1_1_0_1_0_0_1_0_1]; refine Gets.ev fitC.mix fitC.cfg (fitC.sound pka_sound 14 0) 14 rfl (s' := KSt.low (TS9 k q n off c j A l e)) (x := (.exit 0)) rfl ?_
  exact hq
theorem Trd {j : Int} {n : Nat} {l : List Int} {off : Nat} {e : TypeId} {k : Int} {q : Nat} {c : Nat} {A : List Int} (hj : 0 ≤ j) (hjn : j < (n : Int)) (hl : l.length = n)   {Q : Ex → St → Prop} (hq : Gets Try.prog (KH.low ⟨1, 1, [(0, 0, .tail off .u64 l e)]⟩) (codeAt [1, 1, 1, 0, 1, 0, 0, 1, 1, 0, 0, 1, 1] BT) (KSt.low (TS12 k q n l j off c A e)) (onB 1 (onN (fun s => Gets Try.prog (KH.low ⟨1, 1, [(0, 0, .tail off .u64 l e)]⟩) (codeAt [1, 1, 1, 0, 1, 0, 0, 1, 1, 1] BT) s (Q)) (Q)))) : Gets Try.prog (KH.low ⟨1, 1, [(0, 0, .tail off .u64 l e)]⟩) (codeAt [1, 1, 1, 0, 1, 0, 0] BT) (KSt.low (TS8 k q n off c j A l e)) Q := by
  rw [TC1_1_1_0_1_0_0]; refine Gets.seq ?_
  refine Tgo (TR8 byteRV byteV manyV withRV k q n off c j A l e) ?_
  rw [TC1_1_1_0_1_0_0_1]; refine Gets.seq ?_
  rw [TC1_1_1_0_1_0_0_1_0]; refine Gets.cond true (by kernel_rfl) (TeX (b := (decide (j < ((n : Nat) : Int)))) (by kernel_rfl) ((show (decide (j < ((n : Nat) : Int))) = true from decide_eq_true (by omega)))) ?_; show Gets _ _ (codeAt [1, 1, 1, 0, 1, 0, 0, 1, 0, 0] BT) _ _
  refine Tgo (TR9 byteRV byteV manyV withRV k q n off c j A l e) ?_
  rw [TC1_1_1_0_1_0_0_1_1]; refine Gets.seq ?_
  rw [TC1_1_1_0_1_0_0_1_1_0]; refine Gets.block ?_
  rw [TC1_1_1_0_1_0_0_1_1_0_0]; refine Gets.seq ?_
  refine Tgo (x := .normal) (s' := (TS11 k q n l j off c A e)) ((TR10 byteRV byteV manyV withRV k q n off c j A l e).trans (by rw [if_pos (⟨by omega, by omega⟩), condT (ble_t (by omega)), obind_at (k := ((Int.toNat j) * 1)) (by omega) (by omega)] <;> rfl)) ?_
  rw [TC1_1_1_0_1_0_0_1_1_0_0_1]; refine Gets.seq ?_
  refine Tgo (TR11 byteRV byteV manyV withRV k q n l j off c A e) ?_
  exact hq
theorem Tap {i : Int} {A : List Int} {n : Nat} {q : Nat} {k : Int} {w : Int} {off : Nat} {c : Nat} {j : Int} {l : List Int} {e : TypeId} (hi : 0 ≤ i) (hi8 : i < 8) (hA : A.length = 8 * n) (hq : q + 1 ≤ 8 * n) (hn : n ≤ 1000)   {Q : Ex → St → Prop} (hq : Q .normal (KSt.low (TS20 byteV k q n w off c j i A l e))) : Gets Try.prog (KH.low ⟨1, 1, [(0, 0, .tail off .u64 l e)]⟩) (codeAt [1, 1, 1, 0, 1, 0, 0, 1, 1, 0, 0, 1, 1, 0, 0] BT) (KSt.low (TS13 k q n w off c j i A l e)) Q := by
  rw [TC1_1_1_0_1_0_0_1_1_0_0_1_1_0_0]; refine Gets.seq ?_
  refine Tgo (TR12 byteRV byteV manyV withRV k q n w off c j i A l e) ?_
  rw [TC1_1_1_0_1_0_0_1_1_0_0_1_1_0_0_1]; refine Gets.seq ?_
  rw [TC1_1_1_0_1_0_0_1_1_0_0_1_1_0_0_1_0]; refine Gets.cond true (by kernel_rfl) (TeX (b := (decide (i < 8))) (by kernel_rfl) ((show (decide (i < 8)) = true from decide_eq_true (by omega)))) ?_; show Gets _ _ (codeAt [1, 1, 1, 0, 1, 0, 0, 1, 1, 0, 0, 1, 1, 0, 0, 1, 0, 0] BT) _ _
  refine Tgo (TR13 byteRV byteV manyV withRV k q n w off c j i A l e) ?_
  rw [TC1_1_1_0_1_0_0_1_1_0_0_1_1_0_0_1_1]; refine Gets.seq ?_
  rw [TC1_1_1_0_1_0_0_1_1_0_0_1_1_0_0_1_1_0]; refine Gets.block ?_
  rw [TC1_1_1_0_1_0_0_1_1_0_0_1_1_0_0_1_1_0_0]; refine Gets.seq ?_
  refine Tgo (TR14 byteRV byteV manyV withRV k q n w off c j i A l e) ?_
  refine Tgo (x := .normal) (s' := (TS16 byteV k q n w off c j i A l e)) ((TR15 byteRV byteV manyV withRV k q n w i off c j A l e).trans (by rw [condT (ble_t (by omega)), condT (ble_t (by omega)), condT (ble_t (by (first | omega | ((try simp (disch := omega) only [wrap_i64_id]) <;> omega))))])) ?_
  refine Tgo (x := .normal) (s' := (TS20 byteV k q n w off c j i A l e)) ((TR16 byteRV byteV manyV withRV k q n w off c j i A l e).trans (by (show some (Ex.normal, (TS19 byteV k q n w off c j i A l e)) = some (Ex.normal, (TS20 byteV k q n w off c j i A l e)); unfold TS19 TS20; rw [(show (IntKind.wrap .i64 (i + 1)) = (i + 1) from wrap_i64_id (by omega) (by omega))]))) ?_
  exact hq
theorem Tex {i : Int} {k : Int} {q : Nat} {n : Nat} {w : Int} {off : Nat} {c : Nat} {j : Int} {A : List Int} {l : List Int} {e : TypeId} (hi : i = 8)   {Q : Ex → St → Prop} (hq : Q (.exit 2) (KSt.low (TS14 k q n w off c j i A l e))) : Gets Try.prog (KH.low ⟨1, 1, [(0, 0, .tail off .u64 l e)]⟩) (codeAt [1, 1, 1, 0, 1, 0, 0, 1, 1, 0, 0, 1, 1, 0, 0] BT) (KSt.low (TS13 k q n w off c j i A l e)) Q := by
  rw [TC1_1_1_0_1_0_0_1_1_0_0_1_1_0_0]; refine Gets.seq ?_
  refine Tgo (TR12 byteRV byteV manyV withRV k q n w off c j i A l e) ?_
  rw [TC1_1_1_0_1_0_0_1_1_0_0_1_1_0_0_1]; refine Gets.seq ?_
  rw [TC1_1_1_0_1_0_0_1_1_0_0_1_1_0_0_1_0]; refine Gets.cond false (by kernel_rfl) (TeX (b := (decide (i < 8))) (by kernel_rfl) ((show (decide (i < 8)) = false from decide_eq_false (by omega)))) ?_; show Gets _ _ (codeAt [1, 1, 1, 0, 1, 0, 0, 1, 1, 0, 0, 1, 1, 0, 0, 1, 0, 1] BT) _ _
  rw [TC1_1_1_0_1_0_0_1_1_0_0_1_1_0_0_1_0_1]; refine Gets.ev fitC.mix fitC.cfg (fitC.sound pka_sound 14 0) 14 rfl (s' := KSt.low (TS14 k q n w off c j i A l e)) (x := (.exit 2)) rfl ?_
  exact hq
theorem Tnx {j : Int} {k : Int} {q : Nat} {n : Nat} {off : Nat} {c : Nat} {A : List Int} {l : List Int} {e : TypeId} {w : Int} {i : Int} (hj : 0 ≤ j) (hj2 : j < 1000)   {Q : Ex → St → Prop} (hq : Q .normal (KSt.low (TS22 k q n off c j A l e))) : Gets Try.prog (KH.low ⟨1, 1, [(0, 0, .tail off .u64 l e)]⟩) (codeAt [1, 1, 1, 0, 1, 0, 0, 1, 1, 1] BT) (KSt.low (TS14 k q n w off c j i A l e)) Q := by
  refine Tgo (x := .normal) (s' := (TS22 k q n off c j A l e)) ((TR17 byteRV byteV manyV withRV k q n w off c j i A l e).trans (by (show some (Ex.normal, (TS21 k q n off c j A l e)) = some (Ex.normal, (TS22 k q n off c j A l e)); unfold TS21 TS22; rw [(show (IntKind.wrap .i64 (j + 1)) = (j + 1) from wrap_i64_id (by omega) (by omega))]))) ?_
  exact hq
theorem Ts0 {k : Int} {n : Nat} {off : Nat} {l : List Int} {e : TypeId} {A : List Int} {c : Nat} {j : Int} (h : 0 ≤ k) (hn : n ≤ 1000) (hk8 : k = 8 * (n : Int))   {Q : Ex → St → Prop} (hq : Gets Try.prog (KH.low ⟨1, 1, [(0, 0, .tail off .u64 l e)]⟩) (codeAt [1, 1, 1, 1, 0, 1] BT) (KSt.low (TS24 k n A off l e)) (onN (fun s => Gets Try.prog (KH.low ⟨1, 1, [(0, 0, .tail off .u64 l e)]⟩) (codeAt [1, 1, 1, 1, 1] BT) s (Q)) (Q))) : Gets Try.prog (KH.low ⟨1, 1, [(0, 0, .tail off .u64 l e)]⟩) (codeAt [1, 1, 1, 1] BT) (KSt.low (TS23 k n off c j A l e)) Q := by
  rw [TC1_1_1_1]; refine Gets.seq ?_
  rw [TC1_1_1_1_0]; refine Gets.seq ?_
  refine Tgo (x := .normal) (s' := (TS24 k n A off l e)) ((TR18 byteRV byteV manyV withRV k n off c j A l e).trans (by rw [if_pos (⟨by omega, by omega⟩), condT (and_t (ble_t (by omega)) (ble_t (by omega))), condT (nbeq_t (by omega))])) ?_
  exact hq
theorem Ts1 {k : Int} {n : Nat} {off : Nat} {l : List Int} {e : TypeId} {A : List Int} {c : Nat} {j : Int} (h : 0 ≤ k) (hn : n ≤ 1000) (hk8 : k < 8 * (n : Int))   {Q : Ex → St → Prop} (hq : Gets Try.prog (KH.low ⟨1, 1, [(0, 0, .tail off .u64 l e)]⟩) (codeAt [1, 1, 1, 1, 0, 1] BT) (KSt.low (TS25 k n A off l e)) (onN (fun s => Gets Try.prog (KH.low ⟨1, 1, [(0, 0, .tail off .u64 l e)]⟩) (codeAt [1, 1, 1, 1, 1] BT) s (Q)) (Q))) : Gets Try.prog (KH.low ⟨1, 1, [(0, 0, .tail off .u64 l e)]⟩) (codeAt [1, 1, 1, 1] BT) (KSt.low (TS23 k n off c j A l e)) Q := by
  rw [TC1_1_1_1]; refine Gets.seq ?_
  rw [TC1_1_1_1_0]; refine Gets.seq ?_
  refine Tgo (x := .normal) (s' := (TS25 k n A off l e)) ((TR18 byteRV byteV manyV withRV k n off c j A l e).trans (by rw [if_pos (⟨by omega, by omega⟩), condT (and_t (ble_t (by omega)) (ble_t (by omega))), condF (nbeq_f (by omega))])) ?_
  exact hq
theorem Tx0 {k : Int} {n : Nat} {A : List Int} {off : Nat} {l : List Int} {e : TypeId}   {Q : Ex → St → Prop} (hq : Q (.exit 4) (KSt.low (TS26 k n A off l e))) : Gets Try.prog (KH.low ⟨1, 1, [(0, 0, .tail off .u64 l e)]⟩) (codeAt [1, 1, 1, 1, 0, 1, 0, 0] BT) (KSt.low (TS24 k n A off l e)) Q := by
  rw [TC1_1_1_1_0_1_0_0]; refine Gets.seq ?_
  refine Tgo (TR19 byteRV byteV manyV withRV k n A off l e) ?_
  rw [TC1_1_1_1_0_1_0_0_1]; refine Gets.seq ?_
  rw [TC1_1_1_1_0_1_0_0_1_0]; refine Gets.cond false (by kernel_rfl) (by kernel_rfl) ?_; show Gets _ _ (codeAt [1, 1, 1, 1, 0, 1, 0, 0, 1, 0, 1] BT) _ _
  rw [TC1_1_1_1_0_1_0_0_1_0_1]; refine Gets.ev fitC.mix fitC.cfg (fitC.sound pka_sound 14 0) 14 rfl (s' := KSt.low (TS26 k n A off l e)) (x := (.exit 4)) rfl ?_
  exact hq
theorem Tnz {k : Int} {n : Nat} {A : List Int} {j : Int} {off : Nat} {l : List Int} {e : TypeId} (h : 0 ≤ k) (hk8 : k < 8 * (n : Int)) (hn : n ≤ 1000) (hA : A.length = 8 * n) (hj : 0 ≤ j) (hjr : j < 8 * (n : Int) - k) (hz : A.getD ((0 + ((Int.toNat k) * 1)) + ((Int.toNat j) * 1)) 0 ≠ 0)   {Q : Ex → St → Prop} (hq : Q .ret (KSt.low (TS4 off l e))) : Gets Try.prog (KH.low ⟨1, 1, [(0, 0, .tail off .u64 l e)]⟩) (codeAt [1, 1, 1, 1, 0, 1, 0, 0] BT) (KSt.low (TS27 k n j A off l e)) Q := by
  rw [TC1_1_1_1_0_1_0_0]; refine Gets.seq ?_
  refine Tgo (TR20 byteRV byteV manyV withRV k n j A off l e) ?_
  rw [TC1_1_1_1_0_1_0_0_1]; refine Gets.seq ?_
  rw [TC1_1_1_1_0_1_0_0_1_0]; refine Gets.cond true (by kernel_rfl) (TeX (b := (decide (j < ((((8 * n) - (Int.toNat k)) : Nat) : Int)))) (by kernel_rfl) ((show (decide (j < ((((8 * n) - (Int.toNat k)) : Nat) : Int))) = true from decide_eq_true (by omega)))) ?_; show Gets _ _ (codeAt [1, 1, 1, 1, 0, 1, 0, 0, 1, 0, 0] BT) _ _
  refine Tgo (TR21 byteRV byteV manyV withRV k n j A off l e) ?_
  rw [TC1_1_1_1_0_1_0_0_1_1]; refine Gets.seq ?_
  rw [TC1_1_1_1_0_1_0_0_1_1_0]; refine Gets.block ?_
  rw [TC1_1_1_1_0_1_0_0_1_1_0_0]; refine Gets.seq ?_
  refine Tgo (x := .normal) (s' := (TS30 k n A j off l e)) ((TR22 byteRV byteV manyV withRV k n j A off l e).trans (by rw [if_pos (⟨by omega, by omega⟩), obind_at (k := (0 + ((Int.toNat k) * 1)) + ((Int.toNat j) * 1)) (by omega) (by omega)] <;> rfl)) ?_
  rw [TC1_1_1_1_0_1_0_0_1_1_0_0_1]; refine Gets.seq ?_
  refine Tgo (TR23 byteRV byteV manyV withRV k n A j off l e) ?_
  rw [TC1_1_1_1_0_1_0_0_1_1_0_0_1_1]; refine Gets.cond true (by kernel_rfl) (TeX (b := ((A.getD ((0 + ((Int.toNat k) * 1)) + ((Int.toNat j) * 1)) 0) != 0)) (by kernel_rfl) ((show ((A.getD ((0 + ((Int.toNat k) * 1)) + ((Int.toNat j) * 1)) 0) != 0) = true from ibne_t (by omega)))) ?_; show Gets _ _ (codeAt [1, 1, 1, 1, 0, 1, 0, 0, 1, 1, 0, 0, 1, 1, 0] BT) _ _
  rw [TC1_1_1_1_0_1_0_0_1_1_0_0_1_1_0]; refine Gets.seq ?_
  refine Tgo (TR24 byteRV byteV manyV withRV k n j A off l e) ?_
  rw [TC1_1_1_1_0_1_0_0_1_1_0_0_1_1_0_1]; refine Gets.ev fitC.mix fitC.cfg (fitC.sound pka_sound 14 0) 14 rfl (s' := KSt.low (TS4 off l e)) (x := .ret) rfl ?_
  exact hq
theorem Tze {k : Int} {n : Nat} {A : List Int} {j : Int} {off : Nat} {l : List Int} {e : TypeId} (h : 0 ≤ k) (hk8 : k < 8 * (n : Int)) (hn : n ≤ 1000) (hA : A.length = 8 * n) (hj : 0 ≤ j) (hjr : j < 8 * (n : Int) - k) (hz : A.getD ((0 + ((Int.toNat k) * 1)) + ((Int.toNat j) * 1)) 0 = 0)   {Q : Ex → St → Prop} (hq : Q .normal (KSt.low (TS33 k n j A off l e))) : Gets Try.prog (KH.low ⟨1, 1, [(0, 0, .tail off .u64 l e)]⟩) (codeAt [1, 1, 1, 1, 0, 1, 0, 0] BT) (KSt.low (TS27 k n j A off l e)) Q := by
  rw [TC1_1_1_1_0_1_0_0]; refine Gets.seq ?_
  refine Tgo (TR20 byteRV byteV manyV withRV k n j A off l e) ?_
  rw [TC1_1_1_1_0_1_0_0_1]; refine Gets.seq ?_
  rw [TC1_1_1_1_0_1_0_0_1_0]; refine Gets.cond true (by kernel_rfl) (TeX (b := (decide (j < ((((8 * n) - (Int.toNat k)) : Nat) : Int)))) (by kernel_rfl) ((show (decide (j < ((((8 * n) - (Int.toNat k)) : Nat) : Int))) = true from decide_eq_true (by omega)))) ?_; show Gets _ _ (codeAt [1, 1, 1, 1, 0, 1, 0, 0, 1, 0, 0] BT) _ _
  refine Tgo (TR21 byteRV byteV manyV withRV k n j A off l e) ?_
  rw [TC1_1_1_1_0_1_0_0_1_1]; refine Gets.seq ?_
  rw [TC1_1_1_1_0_1_0_0_1_1_0]; refine Gets.block ?_
  rw [TC1_1_1_1_0_1_0_0_1_1_0_0]; refine Gets.seq ?_
  refine Tgo (x := .normal) (s' := (TS30 k n A j off l e)) ((TR22 byteRV byteV manyV withRV k n j A off l e).trans (by rw [if_pos (⟨by omega, by omega⟩), obind_at (k := (0 + ((Int.toNat k) * 1)) + ((Int.toNat j) * 1)) (by omega) (by omega)] <;> rfl)) ?_
  rw [TC1_1_1_1_0_1_0_0_1_1_0_0_1]; refine Gets.seq ?_
  refine Tgo (TR23 byteRV byteV manyV withRV k n A j off l e) ?_
  rw [TC1_1_1_1_0_1_0_0_1_1_0_0_1_1]; refine Gets.cond false (by kernel_rfl) (TeX (b := ((A.getD ((0 + ((Int.toNat k) * 1)) + ((Int.toNat j) * 1)) 0) != 0)) (by kernel_rfl) ((show ((A.getD ((0 + ((Int.toNat k) * 1)) + ((Int.toNat j) * 1)) 0) != 0) = false from ibne_f (by omega)))) ?_; show Gets _ _ (codeAt [1, 1, 1, 1, 0, 1, 0, 0, 1, 1, 0, 0, 1, 1, 1] BT) _ _
  refine Tgo (TR25 byteRV byteV manyV withRV k n j A off l e) ?_
  refine Tgo (x := .normal) (s' := (TS33 k n j A off l e)) ((TR26 byteRV byteV manyV withRV k n j A off l e).trans (by (show some (Ex.normal, (TS32 k n j A off l e)) = some (Ex.normal, (TS33 k n j A off l e)); unfold TS32 TS33; rw [(show (IntKind.wrap .i64 (j + 1)) = (j + 1) from wrap_i64_id (by omega) (by omega))]))) ?_
  exact hq
theorem Txz {k : Int} {n : Nat} {A : List Int} {j : Int} {off : Nat} {l : List Int} {e : TypeId} (h : 0 ≤ k) (hk8 : k < 8 * (n : Int)) (hn : n ≤ 1000) (hA : A.length = 8 * n) (hj : 0 ≤ j) (hjr : j = 8 * (n : Int) - k)   {Q : Ex → St → Prop} (hq : Q (.exit 4) (KSt.low (TS28 k n j A off l e))) : Gets Try.prog (KH.low ⟨1, 1, [(0, 0, .tail off .u64 l e)]⟩) (codeAt [1, 1, 1, 1, 0, 1, 0, 0] BT) (KSt.low (TS27 k n j A off l e)) Q := by
  rw [TC1_1_1_1_0_1_0_0]; refine Gets.seq ?_
  refine Tgo (TR20 byteRV byteV manyV withRV k n j A off l e) ?_
  rw [TC1_1_1_1_0_1_0_0_1]; refine Gets.seq ?_
  rw [TC1_1_1_1_0_1_0_0_1_0]; refine Gets.cond false (by kernel_rfl) (TeX (b := (decide (j < ((((8 * n) - (Int.toNat k)) : Nat) : Int)))) (by kernel_rfl) ((show (decide (j < ((((8 * n) - (Int.toNat k)) : Nat) : Int))) = false from decide_eq_false (by omega)))) ?_; show Gets _ _ (codeAt [1, 1, 1, 1, 0, 1, 0, 0, 1, 0, 1] BT) _ _
  rw [TC1_1_1_1_0_1_0_0_1_0_1]; refine Gets.ev fitC.mix fitC.cfg (fitC.sound pka_sound 14 0) 14 rfl (s' := KSt.low (TS28 k n j A off l e)) (x := (.exit 4)) rfl ?_
  exact hq
theorem Tfi {k : Int} {n : Nat} {A : List Int} {off : Nat} {l : List Int} {e : TypeId} {j : Int} (h : 0 ≤ k) (hk8 : k ≤ 8 * (n : Int)) (hn : n ≤ 1000) (hA : A.length = 8 * n) (hn1 : 1 ≤ n)   {Q : Ex → St → Prop} (hq : Q .ret (KSt.low (TS35 k A off l e))) : Gets Try.prog (KH.low ⟨1, 1, [(0, 0, .tail off .u64 l e)]⟩) (codeAt [1, 1, 1, 1, 1] BT) (KSt.low (TS28 k n j A off l e)) Q := by
  rw [TC1_1_1_1_1]; refine Gets.seq ?_
  refine Tgo (x := .normal) (s' := (TS35 k A off l e)) ((TR27 byteRV byteV manyV withRV k n j A off l e).trans (by rw [if_pos (⟨by omega, by omega⟩), condT (and_t (ble_t (by omega)) (ble_t (by omega))), condF (nbeq_f (by omega)), condT (ble_t (by (first | omega | ((try simp (disch := omega) only [wrap_i64_id]) <;> omega))))])) ?_
  rw [TC1_1_1_1_1_1]; refine Gets.ev fitC.mix fitC.cfg (fitC.sound pka_sound 14 0) 14 rfl (s' := KSt.low (TS35 k A off l e)) (x := .ret) rfl ?_
  exact hq
theorem Tfi0 {k : Int} {n : Nat} {A : List Int} {off : Nat} {l : List Int} {e : TypeId} (h : 0 ≤ k) (hk8 : k ≤ 8 * (n : Int)) (hn : n ≤ 1000) (hA : A.length = 8 * n) (hn1 : 1 ≤ n)   {Q : Ex → St → Prop} (hq : Q .ret (KSt.low (TS35 k A off l e))) : Gets Try.prog (KH.low ⟨1, 1, [(0, 0, .tail off .u64 l e)]⟩) (codeAt [1, 1, 1, 1, 1] BT) (KSt.low (TS26 k n A off l e)) Q := by
  rw [TC1_1_1_1_1]; refine Gets.seq ?_
  refine Tgo (x := .normal) (s' := (TS35 k A off l e)) ((TR28 byteRV byteV manyV withRV k n A off l e).trans (by rw [if_pos (⟨by omega, by omega⟩), condT (and_t (ble_t (by omega)) (ble_t (by omega))), condF (nbeq_f (by omega)), condT (ble_t (by (first | omega | ((try simp (disch := omega) only [wrap_i64_id]) <;> omega))))])) ?_
  rw [TC1_1_1_1_1_1]; refine Gets.ev fitC.mix fitC.cfg (fitC.sound pka_sound 14 0) 14 rfl (s' := KSt.low (TS35 k A off l e)) (x := .ret) rfl ?_
  exact hq
theorem Tfin {k : Int} {n : Nat} {off : Nat} {l : List Int} {e : TypeId} {A : List Int} (hk : k = 0) (hn1 : n = 0)   {Q : Ex → St → Prop} (hq : Q .ret (KSt.low (TS34 off l e))) : Gets Try.prog (KH.low ⟨1, 1, [(0, 0, .tail off .u64 l e)]⟩) (codeAt [1, 1, 1, 1, 1] BT) (KSt.low (TS26 k n A off l e)) Q := by
  rw [TC1_1_1_1_1]; refine Gets.seq ?_
  refine Tgo (x := .normal) (s' := (TS34 off l e)) ((TR28 byteRV byteV manyV withRV k n A off l e).trans (by rw [if_pos (⟨by omega, by omega⟩), condT (and_t (ble_t (by omega)) (ble_t (by omega))), condT (nbeq_t (by omega))])) ?_
  rw [TC1_1_1_1_1_1]; refine Gets.ev fitC.mix fitC.cfg (fitC.sound pka_sound 14 0) 14 rfl (s' := KSt.low (TS34 off l e)) (x := .ret) rfl ?_
  exact hq
noncomputable def BU : Code := bodyOf Try.prog 13
theorem BU_is : Try.f13.body = some BU := by kernel_rfl
theorem BU_ok : okCode Try.prog.globals.size BU = true := by kernel_rfl
noncomputable abbrev UEV (byteRV : Int → Int → Int) (byteV : Int → Int → Int) (manyV : Int → Int) (withRV : Int → Int → Int → Int) (c : Code) (s : KSt) (lv : List Nat) : Option (Ex × KSt) := evCK Try.prog cfgC (runK Try.prog cfgC fsC (conTk pkaDom (rcK [] (pkaT byteRV byteV manyV withRV))) 14 40) 14 c s (normC 1 lv)
theorem Ugo {lv_ : List Nat} {co_ : Code} {st_ s' : KSt} {x : Ex} {Q : Ex → St → Prop} {off : Nat} {l : List Int} {e : TypeId} (hE_ : UEV byteRV byteV manyV withRV co_ st_ lv_ = some (x, s')) (hq_ : Q x s'.low) (hok_ : okCode Try.prog.globals.size co_ = true := by kernel_rfl) : Gets Try.prog (KH.low ⟨1, 1, [(0, 0, .tail off .u64 l e)]⟩) co_ st_.low Q := Gets.ofN fitC pka_sound (rc_agree _ _ _) 14 40 hok_ hE_ hq_
theorem UeX {v : Value} {b c : Bool} (h : v = .bool b) (hb : b = c) : v = .bool c := by rw [h, hb]
theorem UC : BU = .seq (codeAt [0] BU) (codeAt [1] BU) := by kernel_rfl
theorem UC1 : (codeAt [1] BU) = .seq (codeAt [1, 0] BU) (codeAt [1, 1] BU) := by kernel_rfl
theorem UC1_0 : (codeAt [1, 0] BU) = .seq (codeAt [1, 0, 0] BU) (codeAt [1, 0, 1] BU) := by kernel_rfl
theorem UC1_0_1 : (codeAt [1, 0, 1] BU) = .cond (.tmp 25) (codeAt [1, 0, 1, 0] BU) (codeAt [1, 0, 1, 1] BU) := by kernel_rfl
theorem UC1_0_1_0 : (codeAt [1, 0, 1, 0] BU) = .seq (codeAt [1, 0, 1, 0, 0] BU) (codeAt [1, 0, 1, 0, 1] BU) := by kernel_rfl
theorem UC1_0_1_0_1 : (codeAt [1, 0, 1, 0, 1] BU) = .ret := by kernel_rfl
theorem UC1_1 : (codeAt [1, 1] BU) = .seq (codeAt [1, 1, 0] BU) (codeAt [1, 1, 1] BU) := by kernel_rfl
theorem UC1_1_1 : (codeAt [1, 1, 1] BU) = .seq (codeAt [1, 1, 1, 0] BU) (codeAt [1, 1, 1, 1] BU) := by kernel_rfl
theorem UC1_1_1_0 : (codeAt [1, 1, 1, 0] BU) = .seq (codeAt [1, 1, 1, 0, 0] BU) (codeAt [1, 1, 1, 0, 1] BU) := by kernel_rfl
theorem UC1_1_1_0_1_0_0 : (codeAt [1, 1, 1, 0, 1, 0, 0] BU) = .seq (codeAt [1, 1, 1, 0, 1, 0, 0, 0] BU) (codeAt [1, 1, 1, 0, 1, 0, 0, 1] BU) := by kernel_rfl
theorem UC1_1_1_0_1_0_0_0 : (codeAt [1, 1, 1, 0, 1, 0, 0, 0] BU) = .seq (codeAt [1, 1, 1, 0, 1, 0, 0, 0, 0] BU) (codeAt [1, 1, 1, 0, 1, 0, 0, 0, 1] BU) := by kernel_rfl
theorem UC1_1_1_0_1_0_0_0_1 : (codeAt [1, 1, 1, 0, 1, 0, 0, 0, 1] BU) = .cond (.tmp 31) (codeAt [1, 1, 1, 0, 1, 0, 0, 0, 1, 0] BU) (codeAt [1, 1, 1, 0, 1, 0, 0, 0, 1, 1] BU) := by kernel_rfl
theorem UC1_1_1_0_1_0_0_0_1_1 : (codeAt [1, 1, 1, 0, 1, 0, 0, 0, 1, 1] BU) = .exit 0 := by kernel_rfl
theorem UC1_1_1_0_1_0_0_1 : (codeAt [1, 1, 1, 0, 1, 0, 0, 1] BU) = .seq (codeAt [1, 1, 1, 0, 1, 0, 0, 1, 0] BU) (codeAt [1, 1, 1, 0, 1, 0, 0, 1, 1] BU) := by kernel_rfl
theorem UC1_1_1_0_1_0_0_1_0 : (codeAt [1, 1, 1, 0, 1, 0, 0, 1, 0] BU) = .block 1 (codeAt [1, 1, 1, 0, 1, 0, 0, 1, 0, 0] BU) := by kernel_rfl
theorem UC1_1_1_0_1_0_0_1_0_0 : (codeAt [1, 1, 1, 0, 1, 0, 0, 1, 0, 0] BU) = .seq (codeAt [1, 1, 1, 0, 1, 0, 0, 1, 0, 0, 0] BU) (codeAt [1, 1, 1, 0, 1, 0, 0, 1, 0, 0, 1] BU) := by kernel_rfl
theorem UC1_1_1_0_1_0_0_1_0_0_1 : (codeAt [1, 1, 1, 0, 1, 0, 0, 1, 0, 0, 1] BU) = .seq (codeAt [1, 1, 1, 0, 1, 0, 0, 1, 0, 0, 1, 0] BU) (codeAt [1, 1, 1, 0, 1, 0, 0, 1, 0, 0, 1, 1] BU) := by kernel_rfl
theorem UC1_1_1_0_1_0_0_1_0_0_1_0 : (codeAt [1, 1, 1, 0, 1, 0, 0, 1, 0, 0, 1, 0] BU) = .seq (codeAt [1, 1, 1, 0, 1, 0, 0, 1, 0, 0, 1, 0, 0] BU) (codeAt [1, 1, 1, 0, 1, 0, 0, 1, 0, 0, 1, 0, 1] BU) := by kernel_rfl
theorem UC1_1_1_0_1_0_0_1_0_0_1_0_1 : (codeAt [1, 1, 1, 0, 1, 0, 0, 1, 0, 0, 1, 0, 1] BU) = .cond (.tmp 48) (codeAt [1, 1, 1, 0, 1, 0, 0, 1, 0, 0, 1, 0, 1, 0] BU) (codeAt [1, 1, 1, 0, 1, 0, 0, 1, 0, 0, 1, 0, 1, 1] BU) := by kernel_rfl
theorem UC1_1_1_0_1_0_0_1_0_0_1_0_1_0 : (codeAt [1, 1, 1, 0, 1, 0, 0, 1, 0, 0, 1, 0, 1, 0] BU) = .seq (codeAt [1, 1, 1, 0, 1, 0, 0, 1, 0, 0, 1, 0, 1, 0, 0] BU) (codeAt [1, 1, 1, 0, 1, 0, 0, 1, 0, 0, 1, 0, 1, 0, 1] BU) := by kernel_rfl
theorem UC1_1_1_0_1_0_0_1_0_0_1_0_1_0_1 : (codeAt [1, 1, 1, 0, 1, 0, 0, 1, 0, 0, 1, 0, 1, 0, 1] BU) = .ret := by kernel_rfl
theorem UC1_1_1_0_1_0_0_1_0_0_1_1 : (codeAt [1, 1, 1, 0, 1, 0, 0, 1, 0, 0, 1, 1] BU) = .seq (codeAt [1, 1, 1, 0, 1, 0, 0, 1, 0, 0, 1, 1, 0] BU) (codeAt [1, 1, 1, 0, 1, 0, 0, 1, 0, 0, 1, 1, 1] BU) := by kernel_rfl
theorem UC1_1_1_0_1_0_0_1_0_0_1_1_1 : (codeAt [1, 1, 1, 0, 1, 0, 0, 1, 0, 0, 1, 1, 1] BU) = .cond (.tmp 51) (codeAt [1, 1, 1, 0, 1, 0, 0, 1, 0, 0, 1, 1, 1, 0] BU) (codeAt [1, 1, 1, 0, 1, 0, 0, 1, 0, 0, 1, 1, 1, 1] BU) := by kernel_rfl
theorem UC1_1_1_1 : (codeAt [1, 1, 1, 1] BU) = .seq (codeAt [1, 1, 1, 1, 0] BU) (codeAt [1, 1, 1, 1, 1] BU) := by kernel_rfl
theorem UC1_1_1_1_1 : (codeAt [1, 1, 1, 1, 1] BU) = .ret := by kernel_rfl
theorem UC1_1_1_0_1 : (codeAt [1, 1, 1, 0, 1] BU) = .block 0 (codeAt [1, 1, 1, 0, 1, 0] BU) := by kernel_rfl
theorem UC1_1_1_0_1_0 : (codeAt [1, 1, 1, 0, 1, 0] BU) = .loop (codeAt [1, 1, 1, 0, 1, 0, 0] BU) := by kernel_rfl
section
variable (byteRV : Int → Int → Int) (byteV : Int → Int → Int) (manyV : Int → Int) (withRV : Int → Int → Int → Int)
noncomputable def US0 (off : Nat) (n : Nat) (c : Nat) (k : Int) (l : List Int) (e : TypeId) : KSt := (firstK [(.slice (some ⟨0, off, none⟩) n c), (.int .i64 k)] 59 ⟨1, 1, [(0, 0, .tail off .u64 l e)]⟩)
noncomputable def US1 (off : Nat) (n : Nat) (c : Nat) (k : Int) (l : List Int) (e : TypeId) : KSt := ⟨(frameL 59 [(0, (.slice (some ⟨0, off, none⟩) n c)), (1, (.int .i64 k))]), ⟨1, 1, [(0, 0, .tail off .u64 l e)]⟩⟩
theorem UR1 (off : Nat) (n : Nat) (c : Nat) (k : Int) (l : List Int) (e : TypeId) : UEV byteRV byteV manyV withRV (codeAt [0] BU) (US0 off n c k l e) [0, 1] =
  some (.normal, (US1 off n c k l e)) := by kernel_rfl
noncomputable def US2 (off : Nat) (n : Nat) (c : Nat) (k : Int) (l : List Int) (e : TypeId) : KSt := ⟨(frameL 59 [(0, (.slice (some ⟨0, off, none⟩) n c)), (1, (.int .i64 k)), (25, (.bool true))]), ⟨1, 1, [(0, 0, .tail off .u64 l e)]⟩⟩
noncomputable def US3 (off : Nat) (n : Nat) (c : Nat) (k : Int) (l : List Int) (e : TypeId) : KSt := ⟨(frameL 59 [(0, (.slice (some ⟨0, off, none⟩) n c)), (1, (.int .i64 k)), (25, (.bool (decide (k ≤ (IntKind.wrap .i64 ((IntKind.wrap .i64 (8 * ((n : Nat) : Int))) - 8))))))]), ⟨1, 1, [(0, 0, .tail off .u64 l e)]⟩⟩
theorem UR2 (off : Nat) (n : Nat) (c : Nat) (k : Int) (l : List Int) (e : TypeId) : UEV byteRV byteV manyV withRV (codeAt [1, 0, 0] BU) (US1 off n c k l e) [0, 1, 25] =
  bif (decide (k < 0)) then
    some (.normal, (US2 off n c k l e))
  else
    bif (decide (k > (IntKind.wrap .i64 (8 * ((n : Nat) : Int))))) then
      some (.normal, (US2 off n c k l e))
    else
      some (.normal, (US3 off n c k l e)) := by kernel_rfl
noncomputable def US4 (off : Nat) (l : List Int) (e : TypeId) : KSt := ⟨(frameL 59 [(4, (.string ⟨#[]⟩)), (5, (.bool false))]), ⟨1, 1, [(0, 0, .tail off .u64 l e)]⟩⟩
theorem UR3 (off : Nat) (n : Nat) (c : Nat) (k : Int) (l : List Int) (e : TypeId) : UEV byteRV byteV manyV withRV (codeAt [1, 0, 1, 0, 0] BU) (US2 off n c k l e) [4, 5] =
  some (.normal, (US4 off l e)) := by kernel_rfl
theorem UR4 (off : Nat) (n : Nat) (c : Nat) (k : Int) (l : List Int) (e : TypeId) : UEV byteRV byteV manyV withRV (codeAt [1, 0, 1, 0, 0] BU) (US3 off n c k l e) [4, 5] =
  some (.normal, (US4 off l e)) := by kernel_rfl
theorem UR5 (off : Nat) (n : Nat) (c : Nat) (k : Int) (l : List Int) (e : TypeId) : UEV byteRV byteV manyV withRV (codeAt [1, 0, 1, 1] BU) (US3 off n c k l e) [0, 1] =
  some (.normal, (US1 off n c k l e)) := by kernel_rfl
noncomputable def US5 (off : Nat) (n : Nat) (c : Nat) (k : Int) (l : List Int) (e : TypeId) : KSt := ⟨(frameL 59 [(0, (.slice (some ⟨0, off, none⟩) n c)), (1, (.int .i64 k)), (6, (.slice (some ⟨1, 0, none⟩) 0 0))]), ⟨2, 1, [(1, 0, .cells [] 5 true), (0, 0, .tail off .u64 l e)]⟩⟩
theorem UR6 (off : Nat) (n : Nat) (c : Nat) (k : Int) (l : List Int) (e : TypeId) : UEV byteRV byteV manyV withRV (codeAt [1, 1, 0] BU) (US1 off n c k l e) [0, 1, 6] =
  some (.normal, (US5 off n c k l e)) := by kernel_rfl
noncomputable def US6 (off : Nat) (n : Nat) (c : Nat) (k : Int) (l : List Int) (e : TypeId) : KSt := ⟨(frameL 59 [(0, (.slice (some ⟨0, off, none⟩) n c)), (1, (.int .i64 k)), (6, (.slice (some ⟨1, 0, none⟩) 0 0)), (7, (.int .i64 0))]), ⟨2, 1, [(1, 0, .cells [] 5 true), (0, 0, .tail off .u64 l e)]⟩⟩
theorem UR7 (off : Nat) (n : Nat) (c : Nat) (k : Int) (l : List Int) (e : TypeId) : UEV byteRV byteV manyV withRV (codeAt [1, 1, 1, 0, 0] BU) (US5 off n c k l e) [0, 1, 6, 7] =
  some (.normal, (US6 off n c k l e)) := by kernel_rfl
noncomputable def US7 (off : Nat) (n : Nat) (c : Nat) (k : Int) (q : Nat) (i : Int) (A : List Int) (l : List Int) (e : TypeId) : KSt := ⟨(frameL 59 [(0, (.slice (some ⟨0, off, none⟩) n c)), (1, (.int .i64 k)), (6, (.slice (some ⟨1, 0, none⟩) q q)), (7, (.int .i64 i))]), ⟨2, 1, [(1, 0, .ints .u8 A 5 true), (0, 0, .tail off .u64 l e)]⟩⟩
noncomputable def US8 (off : Nat) (n : Nat) (c : Nat) (k : Int) (q : Nat) (i : Int) (A : List Int) (l : List Int) (e : TypeId) : KSt := ⟨(frameL 59 [(0, (.slice (some ⟨0, off, none⟩) n c)), (1, (.int .i64 k)), (6, (.slice (some ⟨1, 0, none⟩) q q)), (7, (.int .i64 i)), (31, (.bool (decide (i < (IntKind.wrap .i64 (8 * ((n : Nat) : Int)))))))]), ⟨2, 1, [(1, 0, .ints .u8 A 5 true), (0, 0, .tail off .u64 l e)]⟩⟩
theorem UR8 (off : Nat) (n : Nat) (c : Nat) (k : Int) (q : Nat) (i : Int) (A : List Int) (l : List Int) (e : TypeId) : UEV byteRV byteV manyV withRV (codeAt [1, 1, 1, 0, 1, 0, 0, 0, 0] BU) (US7 off n c k q i A l e) [0, 1, 6, 7, 31] =
  some (.normal, (US8 off n c k q i A l e)) := by kernel_rfl
theorem UR9 (off : Nat) (n : Nat) (c : Nat) (k : Int) (q : Nat) (i : Int) (A : List Int) (l : List Int) (e : TypeId) : UEV byteRV byteV manyV withRV (codeAt [1, 1, 1, 0, 1, 0, 0, 0, 1, 0] BU) (US8 off n c k q i A l e) [0, 1, 6, 7] =
  some (.normal, (US7 off n c k q i A l e)) := by kernel_rfl
noncomputable def US9 (off : Nat) (n : Nat) (c : Nat) (k : Int) (q : Nat) (i : Int) (n1 : Int) (A : List Int) (l : List Int) (e : TypeId) : KSt := ⟨(frameL 59 [(0, (.slice (some ⟨0, off, none⟩) n c)), (1, (.int .i64 k)), (6, (.slice (some ⟨1, 0, none⟩) q q)), (7, (.int .i64 i)), (8, (.int .i64 (byteRV n1 (Int.tmod i 8))))]), ⟨2, 1, [(1, 0, .ints .u8 A 5 true), (0, 0, .tail off .u64 l e)]⟩⟩
theorem UR10 (off : Nat) (n : Nat) (c : Nat) (k : Int) (q : Nat) (i : Int) (A : List Int) (l : List Int) (e : TypeId) : UEV byteRV byteV manyV withRV (codeAt [1, 1, 1, 0, 1, 0, 0, 1, 0, 0, 0] BU) (US7 off n c k q i A l e) [0, 1, 6, 7, 8] =
  if 0 ≤ (IntKind.wrap .i64 (Int.tdiv i 8)) ∧ (IntKind.wrap .i64 (Int.tdiv i 8)) < ((n : Nat) : Int) then
    bif (Nat.ble off (off + ((Int.toNat (IntKind.wrap .i64 (Int.tdiv i 8))) * 1))) then
      obind (l[((off + ((Int.toNat (IntKind.wrap .i64 (Int.tdiv i 8))) * 1)) - off)]?) fun n1 =>
        some (.normal, (US9 byteRV off n c k q i n1 A l e))
    else
      none
  else
    none := by kernel_rfl
noncomputable def US10 (off : Nat) (n : Nat) (c : Nat) (k : Int) (q : Nat) (i : Int) (l : List Int) (A : List Int) (e : TypeId) : KSt := ⟨(frameL 59 [(0, (.slice (some ⟨0, off, none⟩) n c)), (1, (.int .i64 k)), (6, (.slice (some ⟨1, 0, none⟩) q q)), (7, (.int .i64 i)), (8, (.int .i64 (byteRV (l.getD ((Int.toNat (i / 8)) * 1) 0) (i % 8))))]), ⟨2, 1, [(1, 0, .ints .u8 A 5 true), (0, 0, .tail off .u64 l e)]⟩⟩
noncomputable def US11 (off : Nat) (n : Nat) (c : Nat) (k : Int) (q : Nat) (i : Int) (l : List Int) (A : List Int) (e : TypeId) : KSt := ⟨(frameL 59 [(0, (.slice (some ⟨0, off, none⟩) n c)), (1, (.int .i64 k)), (6, (.slice (some ⟨1, 0, none⟩) q q)), (7, (.int .i64 i)), (8, (.int .i64 (byteRV (l.getD ((Int.toNat (IntKind.wrap .i64 (Int.tdiv i 8))) * 1) 0) (Int.tmod i 8))))]), ⟨2, 1, [(1, 0, .ints .u8 A 5 true), (0, 0, .tail off .u64 l e)]⟩⟩
noncomputable def US12 (off : Nat) (n : Nat) (c : Nat) (k : Int) (q : Nat) (i : Int) (v : Int) (A : List Int) (l : List Int) (e : TypeId) : KSt := ⟨(frameL 59 [(0, (.slice (some ⟨0, off, none⟩) n c)), (1, (.int .i64 k)), (6, (.slice (some ⟨1, 0, none⟩) q q)), (7, (.int .i64 i)), (8, (.int .i64 v))]), ⟨2, 1, [(1, 0, .ints .u8 A 5 true), (0, 0, .tail off .u64 l e)]⟩⟩
noncomputable def US13 (off : Nat) (n : Nat) (c : Nat) (k : Int) (q : Nat) (i : Int) (v : Int) (A : List Int) (l : List Int) (e : TypeId) : KSt := ⟨(frameL 59 [(0, (.slice (some ⟨0, off, none⟩) n c)), (1, (.int .i64 k)), (6, (.slice (some ⟨1, 0, none⟩) q q)), (7, (.int .i64 i)), (8, (.int .i64 v)), (48, (.bool (v != 0)))]), ⟨2, 1, [(1, 0, .ints .u8 A 5 true), (0, 0, .tail off .u64 l e)]⟩⟩
noncomputable def US14 (off : Nat) (n : Nat) (c : Nat) (k : Int) (q : Nat) (i : Int) (v : Int) (A : List Int) (l : List Int) (e : TypeId) : KSt := ⟨(frameL 59 [(0, (.slice (some ⟨0, off, none⟩) n c)), (1, (.int .i64 k)), (6, (.slice (some ⟨1, 0, none⟩) q q)), (7, (.int .i64 i)), (8, (.int .i64 v)), (48, (.bool false))]), ⟨2, 1, [(1, 0, .ints .u8 A 5 true), (0, 0, .tail off .u64 l e)]⟩⟩
theorem UR11 (off : Nat) (n : Nat) (c : Nat) (k : Int) (q : Nat) (i : Int) (v : Int) (A : List Int) (l : List Int) (e : TypeId) : UEV byteRV byteV manyV withRV (codeAt [1, 1, 1, 0, 1, 0, 0, 1, 0, 0, 1, 0, 0] BU) (US12 off n c k q i v A l e) [0, 1, 6, 7, 8, 48] =
  bif (decide (i ≥ k)) then
    some (.normal, (US13 off n c k q i v A l e))
  else
    some (.normal, (US14 off n c k q i v A l e)) := by kernel_rfl
theorem UR12 (off : Nat) (n : Nat) (c : Nat) (k : Int) (q : Nat) (i : Int) (v : Int) (A : List Int) (l : List Int) (e : TypeId) : UEV byteRV byteV manyV withRV (codeAt [1, 1, 1, 0, 1, 0, 0, 1, 0, 0, 1, 0, 1, 0, 0] BU) (US13 off n c k q i v A l e) [4, 5] =
  some (.normal, (US4 off l e)) := by kernel_rfl
theorem UR13 (off : Nat) (n : Nat) (c : Nat) (k : Int) (q : Nat) (i : Int) (v : Int) (A : List Int) (l : List Int) (e : TypeId) : UEV byteRV byteV manyV withRV (codeAt [1, 1, 1, 0, 1, 0, 0, 1, 0, 0, 1, 0, 1, 1] BU) (US13 off n c k q i v A l e) [0, 1, 6, 7, 8] =
  some (.normal, (US12 off n c k q i v A l e)) := by kernel_rfl
noncomputable def US15 (off : Nat) (n : Nat) (c : Nat) (k : Int) (q : Nat) (i : Int) (v : Int) (A : List Int) (l : List Int) (e : TypeId) : KSt := ⟨(frameL 59 [(0, (.slice (some ⟨0, off, none⟩) n c)), (1, (.int .i64 k)), (6, (.slice (some ⟨1, 0, none⟩) q q)), (7, (.int .i64 i)), (8, (.int .i64 v)), (51, (.bool (decide (i < k))))]), ⟨2, 1, [(1, 0, .ints .u8 A 5 true), (0, 0, .tail off .u64 l e)]⟩⟩
theorem UR14 (off : Nat) (n : Nat) (c : Nat) (k : Int) (q : Nat) (i : Int) (v : Int) (A : List Int) (l : List Int) (e : TypeId) : UEV byteRV byteV manyV withRV (codeAt [1, 1, 1, 0, 1, 0, 0, 1, 0, 0, 1, 1, 0] BU) (US12 off n c k q i v A l e) [0, 1, 6, 7, 8, 51] =
  some (.normal, (US15 off n c k q i v A l e)) := by kernel_rfl
theorem UR15 (off : Nat) (n : Nat) (c : Nat) (k : Int) (q : Nat) (i : Int) (v : Int) (A : List Int) (l : List Int) (e : TypeId) : UEV byteRV byteV manyV withRV (codeAt [1, 1, 1, 0, 1, 0, 0, 1, 0, 0, 1, 1, 1, 1] BU) (US15 off n c k q i v A l e) [0, 1, 6, 7] =
  some (.normal, (US7 off n c k q i A l e)) := by kernel_rfl
theorem UR16 (off : Nat) (n : Nat) (c : Nat) (k : Int) (q : Nat) (i : Int) (v : Int) (A : List Int) (l : List Int) (e : TypeId) : UEV byteRV byteV manyV withRV (codeAt [1, 1, 1, 0, 1, 0, 0, 1, 0, 0, 1, 0, 1, 1] BU) (US14 off n c k q i v A l e) [0, 1, 6, 7, 8] =
  some (.normal, (US12 off n c k q i v A l e)) := by kernel_rfl
noncomputable def US16 (off : Nat) (n : Nat) (c : Nat) (k : Int) (q : Nat) (i : Int) (A : List Int) (v : Int) (l : List Int) (e : TypeId) : KSt := ⟨(frameL 59 [(0, (.slice (some ⟨0, off, none⟩) n c)), (1, (.int .i64 k)), (6, (.slice (some ⟨1, 0, none⟩) (q + 1) q)), (7, (.int .i64 i))]), ⟨2, 1, [(1, 0, .ints .u8 (List.take (0 + q) A ++ [(IntKind.wrap .u8 v)] ++ List.drop ((0 + q) + (List.length [(IntKind.wrap .u8 v)])) A) 5 true), (0, 0, .tail off .u64 l e)]⟩⟩
noncomputable def US17 (off : Nat) (n : Nat) (c : Nat) (k : Int) (i : Int) (v : Int) (l : List Int) (e : TypeId) : KSt := ⟨(frameL 59 [(0, (.slice (some ⟨0, off, none⟩) n c)), (1, (.int .i64 k)), (6, (.slice (some ⟨1, 0, none⟩) 1 1)), (7, (.int .i64 i))]), ⟨2, 1, [(1, 0, .cells [(.int .u8 (IntKind.wrap .u8 v))] 5 true), (0, 0, .tail off .u64 l e)]⟩⟩
noncomputable def US18 (off : Nat) (n : Nat) (c : Nat) (k : Int) (q : Nat) (i : Int) (A : List Int) (v : Int) (l : List Int) (e : TypeId) : KSt := ⟨(frameL 59 [(0, (.slice (some ⟨0, off, none⟩) n c)), (1, (.int .i64 k)), (6, (.slice (some ⟨1, 0, none⟩) (q + 1) (q + 1))), (7, (.int .i64 i))]), ⟨2, 1, [(1, 0, .ints .u8 (List.take q A ++ [(IntKind.wrap .u8 v)]) 5 true), (0, 0, .tail off .u64 l e)]⟩⟩
theorem UR17 (off : Nat) (n : Nat) (c : Nat) (k : Int) (q : Nat) (i : Int) (v : Int) (A : List Int) (l : List Int) (e : TypeId) : UEV byteRV byteV manyV withRV (codeAt [1, 1, 1, 0, 1, 0, 0, 1, 0, 0, 1, 1, 1, 0] BU) (US15 off n c k q i v A l e) [0, 1, 6, 7] =
  bif (Nat.ble ((q + 1) * 2) 1099511627776) then
    bif (Nat.ble (q + 1) q) then
      bif (Nat.ble (0 + (q + 1)) (List.length A)) then
        some (.normal, (US16 off n c k q i A v l e))
      else
        none
    else
      bif ((Nat.beq q 0) && (Nat.beq q 0)) then
        some (.normal, (US17 off n c k i v l e))
      else
        bif ((Nat.ble q (List.length A)) && (Nat.ble 1 q)) then
          some (.normal, (US18 off n c k q i A v l e))
        else
          none
  else
    none := by kernel_rfl
noncomputable def US19 (off : Nat) (n : Nat) (c : Nat) (k : Int) (i : Int) (v : Int) (l : List Int) (e : TypeId) : KSt := ⟨(frameL 59 [(0, (.slice (some ⟨0, off, none⟩) n c)), (1, (.int .i64 k)), (6, (.slice (some ⟨1, 0, none⟩) 0 0)), (7, (.int .i64 i)), (8, (.int .i64 v))]), ⟨2, 1, [(1, 0, .cells [] 5 true), (0, 0, .tail off .u64 l e)]⟩⟩
noncomputable def US20 (off : Nat) (n : Nat) (c : Nat) (k : Int) (i : Int) (v : Int) (l : List Int) (e : TypeId) : KSt := ⟨(frameL 59 [(0, (.slice (some ⟨0, off, none⟩) n c)), (1, (.int .i64 k)), (6, (.slice (some ⟨1, 0, none⟩) 0 0)), (7, (.int .i64 i)), (8, (.int .i64 v)), (48, (.bool (v != 0)))]), ⟨2, 1, [(1, 0, .cells [] 5 true), (0, 0, .tail off .u64 l e)]⟩⟩
noncomputable def US21 (off : Nat) (n : Nat) (c : Nat) (k : Int) (i : Int) (v : Int) (l : List Int) (e : TypeId) : KSt := ⟨(frameL 59 [(0, (.slice (some ⟨0, off, none⟩) n c)), (1, (.int .i64 k)), (6, (.slice (some ⟨1, 0, none⟩) 0 0)), (7, (.int .i64 i)), (8, (.int .i64 v)), (48, (.bool false))]), ⟨2, 1, [(1, 0, .cells [] 5 true), (0, 0, .tail off .u64 l e)]⟩⟩
theorem UR18 (off : Nat) (n : Nat) (c : Nat) (k : Int) (i : Int) (v : Int) (l : List Int) (e : TypeId) : UEV byteRV byteV manyV withRV (codeAt [1, 1, 1, 0, 1, 0, 0, 1, 0, 0, 1, 0, 0] BU) (US19 off n c k i v l e) [0, 1, 6, 7, 8, 48] =
  bif (decide (i ≥ k)) then
    some (.normal, (US20 off n c k i v l e))
  else
    some (.normal, (US21 off n c k i v l e)) := by kernel_rfl
theorem UR19 (off : Nat) (n : Nat) (c : Nat) (k : Int) (i : Int) (v : Int) (l : List Int) (e : TypeId) : UEV byteRV byteV manyV withRV (codeAt [1, 1, 1, 0, 1, 0, 0, 1, 0, 0, 1, 0, 1, 1] BU) (US21 off n c k i v l e) [0, 1, 6, 7, 8] =
  some (.normal, (US19 off n c k i v l e)) := by kernel_rfl
noncomputable def US22 (off : Nat) (n : Nat) (c : Nat) (k : Int) (i : Int) (v : Int) (l : List Int) (e : TypeId) : KSt := ⟨(frameL 59 [(0, (.slice (some ⟨0, off, none⟩) n c)), (1, (.int .i64 k)), (6, (.slice (some ⟨1, 0, none⟩) 0 0)), (7, (.int .i64 i)), (8, (.int .i64 v)), (51, (.bool (decide (i < k))))]), ⟨2, 1, [(1, 0, .cells [] 5 true), (0, 0, .tail off .u64 l e)]⟩⟩
theorem UR20 (off : Nat) (n : Nat) (c : Nat) (k : Int) (i : Int) (v : Int) (l : List Int) (e : TypeId) : UEV byteRV byteV manyV withRV (codeAt [1, 1, 1, 0, 1, 0, 0, 1, 0, 0, 1, 1, 0] BU) (US19 off n c k i v l e) [0, 1, 6, 7, 8, 51] =
  some (.normal, (US22 off n c k i v l e)) := by kernel_rfl
theorem UR21 (off : Nat) (n : Nat) (c : Nat) (k : Int) (i : Int) (v : Int) (l : List Int) (e : TypeId) : UEV byteRV byteV manyV withRV (codeAt [1, 1, 1, 0, 1, 0, 0, 1, 0, 0, 1, 1, 1, 0] BU) (US22 off n c k i v l e) [0, 1, 6, 7] =
  some (.normal, (US17 off n c k i v l e)) := by kernel_rfl
noncomputable def US23 (off : Nat) (n : Nat) (c : Nat) (k : Int) (q : Nat) (i : Int) (A : List Int) (l : List Int) (e : TypeId) : KSt := ⟨(frameL 59 [(0, (.slice (some ⟨0, off, none⟩) n c)), (1, (.int .i64 k)), (6, (.slice (some ⟨1, 0, none⟩) q q)), (7, (.int .i64 (IntKind.wrap .i64 (i + 1))))]), ⟨2, 1, [(1, 0, .ints .u8 A 5 true), (0, 0, .tail off .u64 l e)]⟩⟩
theorem UR22 (off : Nat) (n : Nat) (c : Nat) (k : Int) (q : Nat) (i : Int) (A : List Int) (l : List Int) (e : TypeId) : UEV byteRV byteV manyV withRV (codeAt [1, 1, 1, 0, 1, 0, 0, 1, 1] BU) (US7 off n c k q i A l e) [0, 1, 6, 7] =
  some (.normal, (US23 off n c k q i A l e)) := by kernel_rfl
noncomputable def US24 (off : Nat) (n : Nat) (c : Nat) (k : Int) (q : Nat) (i : Int) (A : List Int) (l : List Int) (e : TypeId) : KSt := ⟨(frameL 59 [(0, (.slice (some ⟨0, off, none⟩) n c)), (1, (.int .i64 k)), (6, (.slice (some ⟨1, 0, none⟩) q q)), (7, (.int .i64 (i + 1)))]), ⟨2, 1, [(1, 0, .ints .u8 A 5 true), (0, 0, .tail off .u64 l e)]⟩⟩
noncomputable def US25 (q : Nat) (A : List Int) (off : Nat) (l : List Int) (e : TypeId) : KSt := ⟨(frameL 59 [(4, (.string (bytesOfNums (List.take q (List.drop 0 A))))), (5, (.bool true))]), ⟨1, 1, [(0, 0, .tail off .u64 l e)]⟩⟩
theorem UR23 (off : Nat) (n : Nat) (c : Nat) (k : Int) (q : Nat) (i : Int) (A : List Int) (l : List Int) (e : TypeId) : UEV byteRV byteV manyV withRV (codeAt [1, 1, 1, 1, 0] BU) (US8 off n c k q i A l e) [4, 5] =
  bif (Nat.ble (0 + q) (List.length A)) then
    some (.normal, (US25 q A off l e))
  else
    none := by kernel_rfl
noncomputable def US26 (off : Nat) (n : Nat) (c : Nat) (k : Int) (i : Int) (l : List Int) (e : TypeId) : KSt := ⟨(frameL 59 [(0, (.slice (some ⟨0, off, none⟩) n c)), (1, (.int .i64 k)), (6, (.slice (some ⟨1, 0, none⟩) 0 0)), (7, (.int .i64 i)), (31, (.bool (decide (i < (IntKind.wrap .i64 (8 * ((n : Nat) : Int)))))))]), ⟨2, 1, [(1, 0, .cells [] 5 true), (0, 0, .tail off .u64 l e)]⟩⟩
noncomputable def US27 (off : Nat) (l : List Int) (e : TypeId) : KSt := ⟨(frameL 59 [(4, (.string ⟨#[]⟩)), (5, (.bool true))]), ⟨1, 1, [(0, 0, .tail off .u64 l e)]⟩⟩
theorem UR24 (off : Nat) (n : Nat) (c : Nat) (k : Int) (i : Int) (l : List Int) (e : TypeId) : UEV byteRV byteV manyV withRV (codeAt [1, 1, 1, 1, 0] BU) (US26 off n c k i l e) [4, 5] =
  some (.normal, (US27 off l e)) := by kernel_rfl
end
theorem Ulo {k : Int} {off : Nat} {l : List Int} {e : TypeId} {n : Nat} {c : Nat} (h : k < 0)   {Q : Ex → St → Prop} (hq : Q .ret (KSt.low (US4 off l e))) : Gets Try.prog (KH.low ⟨1, 1, [(0, 0, .tail off .u64 l e)]⟩) BU (KSt.low (US0 off n c k l e)) Q := by
  rw [UC]; refine Gets.seq ?_
  refine Ugo (UR1 byteRV byteV manyV withRV off n c k l e) ?_
  rw [UC1]; refine Gets.seq ?_
  rw [UC1_0]; refine Gets.seq ?_
  refine Ugo (x := .normal) (s' := (US2 off n c k l e)) ((UR2 byteRV byteV manyV withRV off n c k l e).trans (by rw [condT (decide_eq_true (by omega))])) ?_
  rw [UC1_0_1]; refine Gets.cond true (by kernel_rfl) (by kernel_rfl) ?_; show Gets _ _ (codeAt [1, 0, 1, 0] BU) _ _
  rw [UC1_0_1_0]; refine Gets.seq ?_
  refine Ugo (UR3 byteRV byteV manyV withRV off n c k l e) ?_
  rw [UC1_0_1_0_1]; refine Gets.ev fitC.mix fitC.cfg (fitC.sound pka_sound 14 0) 14 rfl (s' := KSt.low (US4 off l e)) (x := .ret) rfl ?_
  exact hq
theorem Uhi {k : Int} {n : Nat} {off : Nat} {l : List Int} {e : TypeId} {c : Nat} (h : 0 ≤ k) (hn : n ≤ 1000) (hk : 8 * (n : Int) < k)   {Q : Ex → St → Prop} (hq : Q .ret (KSt.low (US4 off l e))) : Gets Try.prog (KH.low ⟨1, 1, [(0, 0, .tail off .u64 l e)]⟩) BU (KSt.low (US0 off n c k l e)) Q := by
  rw [UC]; refine Gets.seq ?_
  refine Ugo (UR1 byteRV byteV manyV withRV off n c k l e) ?_
  rw [UC1]; refine Gets.seq ?_
  rw [UC1_0]; refine Gets.seq ?_
  refine Ugo (x := .normal) (s' := (US2 off n c k l e)) ((UR2 byteRV byteV manyV withRV off n c k l e).trans (by rw [condF (decide_eq_false (by omega)), condT (decide_eq_true (by (first | omega | ((try simp (disch := omega) only [wrap_i64_id]) <;> omega))))])) ?_
  rw [UC1_0_1]; refine Gets.cond true (by kernel_rfl) (by kernel_rfl) ?_; show Gets _ _ (codeAt [1, 0, 1, 0] BU) _ _
  rw [UC1_0_1_0]; refine Gets.seq ?_
  refine Ugo (UR3 byteRV byteV manyV withRV off n c k l e) ?_
  rw [UC1_0_1_0_1]; refine Gets.ev fitC.mix fitC.cfg (fitC.sound pka_sound 14 0) 14 rfl (s' := KSt.low (US4 off l e)) (x := .ret) rfl ?_
  exact hq
theorem Usm {k : Int} {n : Nat} {off : Nat} {l : List Int} {e : TypeId} {c : Nat} (h : 0 ≤ k) (hn : n ≤ 1000) (hk0 : k ≤ 8 * (n : Int)) (hk : k ≤ 8 * (n : Int) - 8)   {Q : Ex → St → Prop} (hq : Q .ret (KSt.low (US4 off l e))) : Gets Try.prog (KH.low ⟨1, 1, [(0, 0, .tail off .u64 l e)]⟩) BU (KSt.low (US0 off n c k l e)) Q := by
  rw [UC]; refine Gets.seq ?_
  refine Ugo (UR1 byteRV byteV manyV withRV off n c k l e) ?_
  rw [UC1]; refine Gets.seq ?_
  rw [UC1_0]; refine Gets.seq ?_
  refine Ugo (x := .normal) (s' := (US3 off n c k l e)) ((UR2 byteRV byteV manyV withRV off n c k l e).trans (by rw [condF (decide_eq_false (by omega)), condF (decide_eq_false (by (first | omega | ((try simp (disch := omega) only [wrap_i64_id]) <;> omega))))])) ?_
  rw [UC1_0_1]; refine Gets.cond true (by kernel_rfl) (UeX (b := (decide (k ≤ (IntKind.wrap .i64 ((IntKind.wrap .i64 (8 * ((n : Nat) : Int))) - 8))))) (by kernel_rfl) ((show (decide (k ≤ (IntKind.wrap .i64 ((IntKind.wrap .i64 (8 * ((n : Nat) : Int))) - 8)))) = true from decide_eq_true (by (first | omega | ((try simp (disch := omega) only [wrap_i64_id]) <;> omega)))))) ?_; show Gets _ _ (codeAt [1, 0, 1, 0] BU) _ _
  rw [UC1_0_1_0]; refine Gets.seq ?_
  refine Ugo (UR4 byteRV byteV manyV withRV off n c k l e) ?_
  rw [UC1_0_1_0_1]; refine Gets.ev fitC.mix fitC.cfg (fitC.sound pka_sound 14 0) 14 rfl (s' := KSt.low (US4 off l e)) (x := .ret) rfl ?_
  exact hq
theorem Upre {k : Int} {n : Nat} {off : Nat} {l : List Int} {e : TypeId} {c : Nat} (h : 0 ≤ k) (hn : n ≤ 1000) (hk1 : k ≤ 8 * (n : Int)) (hk2 : 8 * (n : Int) - 8 < k)   {Q : Ex → St → Prop} (hq : Gets Try.prog (KH.low ⟨1, 1, [(0, 0, .tail off .u64 l e)]⟩) (codeAt [1, 1, 1, 0, 1] BU) (KSt.low (US6 off n c k l e)) (onN (fun s => Gets Try.prog (KH.low ⟨1, 1, [(0, 0, .tail off .u64 l e)]⟩) (codeAt [1, 1, 1, 1] BU) s (Q)) (Q))) : Gets Try.prog (KH.low ⟨1, 1, [(0, 0, .tail off .u64 l e)]⟩) BU (KSt.low (US0 off n c k l e)) Q := by
  rw [UC]; refine Gets.seq ?_
  refine Ugo (UR1 byteRV byteV manyV withRV off n c k l e) ?_
  rw [UC1]; refine Gets.seq ?_
  rw [UC1_0]; refine Gets.seq ?_
  refine Ugo (x := .normal) (s' := (US3 off n c k l e)) ((UR2 byteRV byteV manyV withRV off n c k l e).trans (by rw [condF (decide_eq_false (by omega)), condF (decide_eq_false (by (first | omega | ((try simp (disch := omega) only [wrap_i64_id]) <;> omega))))])) ?_
  rw [UC1_0_1]; refine Gets.cond false (by kernel_rfl) (UeX (b := (decide (k ≤ (IntKind.wrap .i64 ((IntKind.wrap .i64 (8 * ((n : Nat) : Int))) - 8))))) (by kernel_rfl) ((show (decide (k ≤ (IntKind.wrap .i64 ((IntKind.wrap .i64 (8 * ((n : Nat) : Int))) - 8)))) = false from decide_eq_false (by (first | omega | ((try simp (disch := omega) only [wrap_i64_id]) <;> omega)))))) ?_; show Gets _ _ (codeAt [1, 0, 1, 1] BU) _ _
  refine Ugo (UR5 byteRV byteV manyV withRV off n c k l e) ?_
  rw [UC1_1]; refine Gets.seq ?_
  refine Ugo (UR6 byteRV byteV manyV withRV off n c k l e) ?_
  rw [UC1_1_1]; refine Gets.seq ?_
  rw [UC1_1_1_0]; refine Gets.seq ?_
  refine Ugo (UR7 byteRV byteV manyV withRV off n c k l e) ?_
  exact hq
theorem Ux {n : Nat} {i : Int} {off : Nat} {c : Nat} {k : Int} {q : Nat} {A : List Int} {l : List Int} {e : TypeId} (hn : n ≤ 1000) (hi : i = 8 * (n : Int))   {Q : Ex → St → Prop} (hq : Q (.exit 0) (KSt.low (US8 off n c k q i A l e))) : Gets Try.prog (KH.low ⟨1, 1, [(0, 0, .tail off .u64 l e)]⟩) (codeAt [1, 1, 1, 0, 1, 0, 0] BU) (KSt.low (US7 off n c k q i A l e)) Q := by
  rw [UC1_1_1_0_1_0_0]; refine Gets.seq ?_
  rw [UC1_1_1_0_1_0_0_0]; refine Gets.seq ?_
  refine Ugo (UR8 byteRV byteV manyV withRV off n c k q i A l e) ?_
  rw [UC1_1_1_0_1_0_0_0_1]; refine Gets.cond false (by kernel_rfl) (UeX (b := (decide (i < (IntKind.wrap .i64 (8 * ((n : Nat) : Int)))))) (by kernel_rfl) ((show (decide (i < (IntKind.wrap .i64 (8 * ((n : Nat) : Int))))) = false from decide_eq_false (by (first | omega | ((try simp (disch := omega) only [wrap_i64_id]) <;> omega)))))) ?_; show Gets _ _ (codeAt [1, 1, 1, 0, 1, 0, 0, 0, 1, 1] BU) _ _
  rw [UC1_1_1_0_1_0_0_0_1_1]; refine Gets.ev fitC.mix fitC.cfg (fitC.sound pka_sound 14 0) 14 rfl (s' := KSt.low (US8 off n c k q i A l e)) (x := (.exit 0)) rfl ?_
  exact hq
theorem Uup {k : Int} {n : Nat} {l : List Int} {i : Int} {off : Nat} {e : TypeId} {c : Nat} {q : Nat} {A : List Int} (h : 0 ≤ k) (hn : n ≤ 1000) (hk1 : k ≤ 8 * (n : Int)) (hk2 : 8 * (n : Int) - 8 < k) (hl : l.length = n) (hi : 0 ≤ i) (hin : i < 8 * (n : Int))   {Q : Ex → St → Prop} (hq : Gets Try.prog (KH.low ⟨1, 1, [(0, 0, .tail off .u64 l e)]⟩) (codeAt [1, 1, 1, 0, 1, 0, 0, 1, 0, 0, 1] BU) (KSt.low (US10 byteRV off n c k q i l A e)) (onB 1 (onN (fun s => Gets Try.prog (KH.low ⟨1, 1, [(0, 0, .tail off .u64 l e)]⟩) (codeAt [1, 1, 1, 0, 1, 0, 0, 1, 1] BU) s (Q)) (Q)))) : Gets Try.prog (KH.low ⟨1, 1, [(0, 0, .tail off .u64 l e)]⟩) (codeAt [1, 1, 1, 0, 1, 0, 0] BU) (KSt.low (US7 off n c k q i A l e)) Q := by
  rw [UC1_1_1_0_1_0_0]; refine Gets.seq ?_
  rw [UC1_1_1_0_1_0_0_0]; refine Gets.seq ?_
  refine Ugo (UR8 byteRV byteV manyV withRV off n c k q i A l e) ?_
  rw [UC1_1_1_0_1_0_0_0_1]; refine Gets.cond true (by kernel_rfl) (UeX (b := (decide (i < (IntKind.wrap .i64 (8 * ((n : Nat) : Int)))))) (by kernel_rfl) ((show (decide (i < (IntKind.wrap .i64 (8 * ((n : Nat) : Int))))) = true from decide_eq_true (by (first | omega | ((try simp (disch := omega) only [wrap_i64_id]) <;> omega) | (simp only [Int.tdiv_eq_ediv_of_nonneg hi, Int.tmod_eq_emod_of_nonneg hi]; (try simp (disch := omega) only [wrap_i64_id]) <;> omega)))))) ?_; show Gets _ _ (codeAt [1, 1, 1, 0, 1, 0, 0, 0, 1, 0] BU) _ _
  refine Ugo (UR9 byteRV byteV manyV withRV off n c k q i A l e) ?_
  rw [UC1_1_1_0_1_0_0_1]; refine Gets.seq ?_
  rw [UC1_1_1_0_1_0_0_1_0]; refine Gets.block ?_
  rw [UC1_1_1_0_1_0_0_1_0_0]; refine Gets.seq ?_
  refine Ugo (x := .normal) (s' := (US10 byteRV off n c k q i l A e)) ((UR10 byteRV byteV manyV withRV off n c k q i A l e).trans (by rw [if_pos (⟨by (first | omega | ((try simp (disch := omega) only [wrap_i64_id]) <;> omega) | (simp only [Int.tdiv_eq_ediv_of_nonneg hi, Int.tmod_eq_emod_of_nonneg hi]; (try simp (disch := omega) only [wrap_i64_id]) <;> omega)), by (first | omega | ((try simp (disch := omega) only [wrap_i64_id]) <;> omega) | (simp only [Int.tdiv_eq_ediv_of_nonneg hi, Int.tmod_eq_emod_of_nonneg hi]; (try simp (disch := omega) only [wrap_i64_id]) <;> omega))⟩), condT (ble_t (by (first | omega | ((try simp (disch := omega) only [wrap_i64_id]) <;> omega) | (simp only [Int.tdiv_eq_ediv_of_nonneg hi, Int.tmod_eq_emod_of_nonneg hi]; (try simp (disch := omega) only [wrap_i64_id]) <;> omega)))), obind_at (k := ((Int.toNat (IntKind.wrap .i64 (Int.tdiv i 8))) * 1)) (by (first | omega | ((try simp (disch := omega) only [wrap_i64_id]) <;> omega) | (simp only [Int.tdiv_eq_ediv_of_nonneg hi, Int.tmod_eq_emod_of_nonneg hi]; (try simp (disch := omega) only [wrap_i64_id]) <;> omega))) (by (first | omega | ((try simp (disch := omega) only [wrap_i64_id]) <;> omega) | (simp only [Int.tdiv_eq_ediv_of_nonneg hi, Int.tmod_eq_emod_of_nonneg hi]; (try simp (disch := omega) only [wrap_i64_id]) <;> omega)))] <;> (show some (Ex.normal, (US11 byteRV off n c k q i l A e)) = some (Ex.normal, (US10 byteRV off n c k q i l A e)); unfold US11 US10; rw [(show (Int.tdiv i 8) = (i / 8) from Int.tdiv_eq_ediv_of_nonneg (by omega)), (show (Int.tmod i 8) = (i % 8) from Int.tmod_eq_emod_of_nonneg (by omega)), (show (IntKind.wrap .i64 (i / 8)) = (i / 8) from wrap_i64_id (by omega) (by omega))]))) ?_
  exact hq
theorem Ubad {k : Int} {i : Int} {v : Int} {off : Nat} {l : List Int} {e : TypeId} {n : Nat} {c : Nat} {q : Nat} {A : List Int} (hki : k ≤ i) (hv : v ≠ 0)   {Q : Ex → St → Prop} (hq : Q .ret (KSt.low (US4 off l e))) : Gets Try.prog (KH.low ⟨1, 1, [(0, 0, .tail off .u64 l e)]⟩) (codeAt [1, 1, 1, 0, 1, 0, 0, 1, 0, 0, 1] BU) (KSt.low (US12 off n c k q i v A l e)) Q := by
  rw [UC1_1_1_0_1_0_0_1_0_0_1]; refine Gets.seq ?_
  rw [UC1_1_1_0_1_0_0_1_0_0_1_0]; refine Gets.seq ?_
  refine Ugo (x := .normal) (s' := (US13 off n c k q i v A l e)) ((UR11 byteRV byteV manyV withRV off n c k q i v A l e).trans (by rw [condT (decide_eq_true (by omega))])) ?_
  rw [UC1_1_1_0_1_0_0_1_0_0_1_0_1]; refine Gets.cond true (by kernel_rfl) (UeX (b := (v != 0)) (by kernel_rfl) ((show (v != 0) = true from ibne_t (by omega)))) ?_; show Gets _ _ (codeAt [1, 1, 1, 0, 1, 0, 0, 1, 0, 0, 1, 0, 1, 0] BU) _ _
  rw [UC1_1_1_0_1_0_0_1_0_0_1_0_1_0]; refine Gets.seq ?_
  refine Ugo (UR12 byteRV byteV manyV withRV off n c k q i v A l e) ?_
  rw [UC1_1_1_0_1_0_0_1_0_0_1_0_1_0_1]; refine Gets.ev fitC.mix fitC.cfg (fitC.sound pka_sound 14 0) 14 rfl (s' := KSt.low (US4 off l e)) (x := .ret) rfl ?_
  exact hq
theorem Usk {k : Int} {i : Int} {v : Int} {off : Nat} {n : Nat} {c : Nat} {q : Nat} {A : List Int} {l : List Int} {e : TypeId} (hki : k ≤ i) (hv : v = 0)   {Q : Ex → St → Prop} (hq : Q .normal (KSt.low (US7 off n c k q i A l e))) : Gets Try.prog (KH.low ⟨1, 1, [(0, 0, .tail off .u64 l e)]⟩) (codeAt [1, 1, 1, 0, 1, 0, 0, 1, 0, 0, 1] BU) (KSt.low (US12 off n c k q i v A l e)) Q := by
  rw [UC1_1_1_0_1_0_0_1_0_0_1]; refine Gets.seq ?_
  rw [UC1_1_1_0_1_0_0_1_0_0_1_0]; refine Gets.seq ?_
  refine Ugo (x := .normal) (s' := (US13 off n c k q i v A l e)) ((UR11 byteRV byteV manyV withRV off n c k q i v A l e).trans (by rw [condT (decide_eq_true (by omega))])) ?_
  rw [UC1_1_1_0_1_0_0_1_0_0_1_0_1]; refine Gets.cond false (by kernel_rfl) (UeX (b := (v != 0)) (by kernel_rfl) ((show (v != 0) = false from ibne_f (by omega)))) ?_; show Gets _ _ (codeAt [1, 1, 1, 0, 1, 0, 0, 1, 0, 0, 1, 0, 1, 1] BU) _ _
  refine Ugo (UR13 byteRV byteV manyV withRV off n c k q i v A l e) ?_
  rw [UC1_1_1_0_1_0_0_1_0_0_1_1]; refine Gets.seq ?_
  refine Ugo (UR14 byteRV byteV manyV withRV off n c k q i v A l e) ?_
  rw [UC1_1_1_0_1_0_0_1_0_0_1_1_1]; refine Gets.cond false (by kernel_rfl) (UeX (b := (decide (i < k))) (by kernel_rfl) ((show (decide (i < k)) = false from decide_eq_false (by omega)))) ?_; show Gets _ _ (codeAt [1, 1, 1, 0, 1, 0, 0, 1, 0, 0, 1, 1, 1, 1] BU) _ _
  refine Ugo (UR15 byteRV byteV manyV withRV off n c k q i v A l e) ?_
  exact hq
theorem Upu {i : Int} {k : Int} {A : List Int} {q : Nat} {off : Nat} {n : Nat} {c : Nat} {v : Int} {l : List Int} {e : TypeId} (hki : i < k) (hA : A.length = q) (hq : 1 ≤ q) (hq2 : q ≤ 8000)   {Q : Ex → St → Prop} (hq : Q .normal (KSt.low (US18 off n c k q i A v l e))) : Gets Try.prog (KH.low ⟨1, 1, [(0, 0, .tail off .u64 l e)]⟩) (codeAt [1, 1, 1, 0, 1, 0, 0, 1, 0, 0, 1] BU) (KSt.low (US12 off n c k q i v A l e)) Q := by
  rw [UC1_1_1_0_1_0_0_1_0_0_1]; refine Gets.seq ?_
  rw [UC1_1_1_0_1_0_0_1_0_0_1_0]; refine Gets.seq ?_
  refine Ugo (x := .normal) (s' := (US14 off n c k q i v A l e)) ((UR11 byteRV byteV manyV withRV off n c k q i v A l e).trans (by rw [condF (decide_eq_false (by omega))])) ?_
  rw [UC1_1_1_0_1_0_0_1_0_0_1_0_1]; refine Gets.cond false (by kernel_rfl) (by kernel_rfl) ?_; show Gets _ _ (codeAt [1, 1, 1, 0, 1, 0, 0, 1, 0, 0, 1, 0, 1, 1] BU) _ _
  refine Ugo (UR16 byteRV byteV manyV withRV off n c k q i v A l e) ?_
  rw [UC1_1_1_0_1_0_0_1_0_0_1_1]; refine Gets.seq ?_
  refine Ugo (UR14 byteRV byteV manyV withRV off n c k q i v A l e) ?_
  rw [UC1_1_1_0_1_0_0_1_0_0_1_1_1]; refine Gets.cond true (by kernel_rfl) (UeX (b := (decide (i < k))) (by kernel_rfl) ((show (decide (i < k)) = true from decide_eq_true (by omega)))) ?_; show Gets _ _ (codeAt [1, 1, 1, 0, 1, 0, 0, 1, 0, 0, 1, 1, 1, 0] BU) _ _
  refine Ugo (x := .normal) (s' := (US18 off n c k q i A v l e)) ((UR17 byteRV byteV manyV withRV off n c k q i v A l e).trans (by rw [condT (ble_t (by omega)), condF (ble_f (by omega)), condF (and_f1 (nbeq_f (by omega))), condT (and_t (ble_t (by (first | omega | ((try simp (disch := omega) only [wrap_i64_id]) <;> omega)))) (ble_t (by omega)))])) ?_
  exact hq
theorem Upu0 {i : Int} {k : Int} {off : Nat} {n : Nat} {c : Nat} {v : Int} {l : List Int} {e : TypeId} (hki : i < k)   {Q : Ex → St → Prop} (hq : Q .normal (KSt.low (US17 off n c k i v l e))) : Gets Try.prog (KH.low ⟨1, 1, [(0, 0, .tail off .u64 l e)]⟩) (codeAt [1, 1, 1, 0, 1, 0, 0, 1, 0, 0, 1] BU) (KSt.low (US19 off n c k i v l e)) Q := by
  rw [UC1_1_1_0_1_0_0_1_0_0_1]; refine Gets.seq ?_
  rw [UC1_1_1_0_1_0_0_1_0_0_1_0]; refine Gets.seq ?_
  refine Ugo (x := .normal) (s' := (US21 off n c k i v l e)) ((UR18 byteRV byteV manyV withRV off n c k i v l e).trans (by rw [condF (decide_eq_false (by omega))])) ?_
  rw [UC1_1_1_0_1_0_0_1_0_0_1_0_1]; refine Gets.cond false (by kernel_rfl) (by kernel_rfl) ?_; show Gets _ _ (codeAt [1, 1, 1, 0, 1, 0, 0, 1, 0, 0, 1, 0, 1, 1] BU) _ _
  refine Ugo (UR19 byteRV byteV manyV withRV off n c k i v l e) ?_
  rw [UC1_1_1_0_1_0_0_1_0_0_1_1]; refine Gets.seq ?_
  refine Ugo (UR20 byteRV byteV manyV withRV off n c k i v l e) ?_
  rw [UC1_1_1_0_1_0_0_1_0_0_1_1_1]; refine Gets.cond true (by kernel_rfl) (UeX (b := (decide (i < k))) (by kernel_rfl) ((show (decide (i < k)) = true from decide_eq_true (by omega)))) ?_; show Gets _ _ (codeAt [1, 1, 1, 0, 1, 0, 0, 1, 0, 0, 1, 1, 1, 0] BU) _ _
  refine Ugo (UR21 byteRV byteV manyV withRV off n c k i v l e) ?_
  exact hq
theorem Uinc {i : Int} {off : Nat} {n : Nat} {c : Nat} {k : Int} {q : Nat} {A : List Int} {l : List Int} {e : TypeId} (hi : 0 ≤ i) (hi2 : i < 8000)   {Q : Ex → St → Prop} (hq : Q .normal (KSt.low (US24 off n c k q i A l e))) : Gets Try.prog (KH.low ⟨1, 1, [(0, 0, .tail off .u64 l e)]⟩) (codeAt [1, 1, 1, 0, 1, 0, 0, 1, 1] BU) (KSt.low (US7 off n c k q i A l e)) Q := by
  refine Ugo (x := .normal) (s' := (US24 off n c k q i A l e)) ((UR22 byteRV byteV manyV withRV off n c k q i A l e).trans (by (show some (Ex.normal, (US23 off n c k q i A l e)) = some (Ex.normal, (US24 off n c k q i A l e)); unfold US23 US24; rw [(show (IntKind.wrap .i64 (i + 1)) = (i + 1) from wrap_i64_id (by omega) (by omega))]))) ?_
  exact hq
theorem Ufi {A : List Int} {q : Nat} {off : Nat} {l : List Int} {e : TypeId} {n : Nat} {c : Nat} {k : Int} {i : Int} (hA : A.length = q) (hq : 1 ≤ q)   {Q : Ex → St → Prop} (hq : Q .ret (KSt.low (US25 q A off l e))) : Gets Try.prog (KH.low ⟨1, 1, [(0, 0, .tail off .u64 l e)]⟩) (codeAt [1, 1, 1, 1] BU) (KSt.low (US8 off n c k q i A l e)) Q := by
  rw [UC1_1_1_1]; refine Gets.seq ?_
  refine Ugo (x := .normal) (s' := (US25 q A off l e)) ((UR23 byteRV byteV manyV withRV off n c k q i A l e).trans (by rw [condT (ble_t (by (first | omega | ((try simp (disch := omega) only [wrap_i64_id]) <;> omega))))])) ?_
  rw [UC1_1_1_1_1]; refine Gets.ev fitC.mix fitC.cfg (fitC.sound pka_sound 14 0) 14 rfl (s' := KSt.low (US25 q A off l e)) (x := .ret) rfl ?_
  exact hq
theorem Ufi0 {off : Nat} {l : List Int} {e : TypeId} {n : Nat} {c : Nat} {k : Int} {i : Int}   {Q : Ex → St → Prop} (hq : Q .ret (KSt.low (US27 off l e))) : Gets Try.prog (KH.low ⟨1, 1, [(0, 0, .tail off .u64 l e)]⟩) (codeAt [1, 1, 1, 1] BU) (KSt.low (US26 off n c k i l e)) Q := by
  rw [UC1_1_1_1]; refine Gets.seq ?_
  refine Ugo (UR24 byteRV byteV manyV withRV off n c k i l e) ?_
  rw [UC1_1_1_1_1]; refine Gets.ev fitC.mix fitC.cfg (fitC.sound pka_sound 14 0) 14 rfl (s' := KSt.low (US27 off l e)) (x := .ret) rfl ?_
  exact hq
noncomputable def BWq : Code := bodyOf Try.prog 14
theorem BWq_is : Try.f14.body = some BWq := by kernel_rfl
theorem BWq_ok : okCode Try.prog.globals.size BWq = true := by kernel_rfl
noncomputable abbrev WqEV (c : Code) (s : KSt) (lv : List Nat) : Option (Ex × KSt) := evCK Try.prog cfgC (runK Try.prog cfgC fsC noT 14 40) 14 c s (normC 2 lv)
theorem Wqgo {lv_ : List Nat} {co_ : Code} {st_ s' : KSt} {x : Ex} {Q : Ex → St → Prop} {off : Nat} {l : List Int} {e : TypeId} {of2 : Nat} {l2 : List Int} {e2 : TypeId} (hE_ : WqEV co_ st_ lv_ = some (x, s')) (hq_ : Q x s'.low) (hok_ : okCode Try.prog.globals.size co_ = true := by kernel_rfl) : Gets Try.prog (KH.low ⟨2, 1, [(0, 0, .tail off .u64 l e), (1, 0, .tail of2 .u64 l2 e2)]⟩) co_ st_.low Q := Gets.ofN fitC SoundC.no AgreeT.no 14 40 hok_ hE_ hq_
theorem WqeX {v : Value} {b c : Bool} (h : v = .bool b) (hb : b = c) : v = .bool c := by rw [h, hb]
theorem WqC : BWq = .seq (codeAt [0] BWq) (codeAt [1] BWq) := by kernel_rfl
theorem WqC1 : (codeAt [1] BWq) = .seq (codeAt [1, 0] BWq) (codeAt [1, 1] BWq) := by kernel_rfl
theorem WqC1_0 : (codeAt [1, 0] BWq) = .seq (codeAt [1, 0, 0] BWq) (codeAt [1, 0, 1] BWq) := by kernel_rfl
theorem WqC1_0_1 : (codeAt [1, 0, 1] BWq) = .cond (.tmp 10) (codeAt [1, 0, 1, 0] BWq) (codeAt [1, 0, 1, 1] BWq) := by kernel_rfl
theorem WqC1_0_1_0 : (codeAt [1, 0, 1, 0] BWq) = .seq (codeAt [1, 0, 1, 0, 0] BWq) (codeAt [1, 0, 1, 0, 1] BWq) := by kernel_rfl
theorem WqC1_0_1_0_1 : (codeAt [1, 0, 1, 0, 1] BWq) = .ret := by kernel_rfl
theorem WqC1_1 : (codeAt [1, 1] BWq) = .seq (codeAt [1, 1, 0] BWq) (codeAt [1, 1, 1] BWq) := by kernel_rfl
theorem WqC1_1_0 : (codeAt [1, 1, 0] BWq) = .seq (codeAt [1, 1, 0, 0] BWq) (codeAt [1, 1, 0, 1] BWq) := by kernel_rfl
theorem WqC1_1_0_1_0_0 : (codeAt [1, 1, 0, 1, 0, 0] BWq) = .seq (codeAt [1, 1, 0, 1, 0, 0, 0] BWq) (codeAt [1, 1, 0, 1, 0, 0, 1] BWq) := by kernel_rfl
theorem WqC1_1_0_1_0_0_0 : (codeAt [1, 1, 0, 1, 0, 0, 0] BWq) = .seq (codeAt [1, 1, 0, 1, 0, 0, 0, 0] BWq) (codeAt [1, 1, 0, 1, 0, 0, 0, 1] BWq) := by kernel_rfl
theorem WqC1_1_0_1_0_0_0_1 : (codeAt [1, 1, 0, 1, 0, 0, 0, 1] BWq) = .cond (.tmp 14) (codeAt [1, 1, 0, 1, 0, 0, 0, 1, 0] BWq) (codeAt [1, 1, 0, 1, 0, 0, 0, 1, 1] BWq) := by kernel_rfl
theorem WqC1_1_0_1_0_0_0_1_1 : (codeAt [1, 1, 0, 1, 0, 0, 0, 1, 1] BWq) = .exit 0 := by kernel_rfl
theorem WqC1_1_1 : (codeAt [1, 1, 1] BWq) = .seq (codeAt [1, 1, 1, 0] BWq) (codeAt [1, 1, 1, 1] BWq) := by kernel_rfl
theorem WqC1_1_1_1 : (codeAt [1, 1, 1, 1] BWq) = .ret := by kernel_rfl
theorem WqC1_1_0_1_0_0_1 : (codeAt [1, 1, 0, 1, 0, 0, 1] BWq) = .seq (codeAt [1, 1, 0, 1, 0, 0, 1, 0] BWq) (codeAt [1, 1, 0, 1, 0, 0, 1, 1] BWq) := by kernel_rfl
theorem WqC1_1_0_1_0_0_1_0 : (codeAt [1, 1, 0, 1, 0, 0, 1, 0] BWq) = .block 1 (codeAt [1, 1, 0, 1, 0, 0, 1, 0, 0] BWq) := by kernel_rfl
theorem WqC1_1_0_1_0_0_1_0_0 : (codeAt [1, 1, 0, 1, 0, 0, 1, 0, 0] BWq) = .seq (codeAt [1, 1, 0, 1, 0, 0, 1, 0, 0, 0] BWq) (codeAt [1, 1, 0, 1, 0, 0, 1, 0, 0, 1] BWq) := by kernel_rfl
theorem WqC1_1_0_1_0_0_1_0_0_1 : (codeAt [1, 1, 0, 1, 0, 0, 1, 0, 0, 1] BWq) = .cond (.tmp 25) (codeAt [1, 1, 0, 1, 0, 0, 1, 0, 0, 1, 0] BWq) (codeAt [1, 1, 0, 1, 0, 0, 1, 0, 0, 1, 1] BWq) := by kernel_rfl
theorem WqC1_1_0_1_0_0_1_0_0_1_0 : (codeAt [1, 1, 0, 1, 0, 0, 1, 0, 0, 1, 0] BWq) = .seq (codeAt [1, 1, 0, 1, 0, 0, 1, 0, 0, 1, 0, 0] BWq) (codeAt [1, 1, 0, 1, 0, 0, 1, 0, 0, 1, 0, 1] BWq) := by kernel_rfl
theorem WqC1_1_0_1_0_0_1_0_0_1_0_1 : (codeAt [1, 1, 0, 1, 0, 0, 1, 0, 0, 1, 0, 1] BWq) = .ret := by kernel_rfl
theorem WqC1_1_0_1 : (codeAt [1, 1, 0, 1] BWq) = .block 0 (codeAt [1, 1, 0, 1, 0] BWq) := by kernel_rfl
theorem WqC1_1_0_1_0 : (codeAt [1, 1, 0, 1, 0] BWq) = .loop (codeAt [1, 1, 0, 1, 0, 0] BWq) := by kernel_rfl
noncomputable def WqS0 (off : Nat) (n : Nat) (c : Nat) (of2 : Nat) (m : Nat) (c2 : Nat) (l : List Int) (e : TypeId) (l2 : List Int) (e2 : TypeId) : KSt := (firstK [(.slice (some ⟨0, off, none⟩) n c), (.slice (some ⟨1, of2, none⟩) m c2)] 26 ⟨2, 1, [(0, 0, .tail off .u64 l e), (1, 0, .tail of2 .u64 l2 e2)]⟩)
noncomputable def WqS1 (off : Nat) (n : Nat) (c : Nat) (of2 : Nat) (m : Nat) (c2 : Nat) (l : List Int) (e : TypeId) (l2 : List Int) (e2 : TypeId) : KSt := ⟨(frameL 26 [(0, (.slice (some ⟨0, off, none⟩) n c)), (1, (.slice (some ⟨1, of2, none⟩) m c2))]), ⟨2, 1, [(0, 0, .tail off .u64 l e), (1, 0, .tail of2 .u64 l2 e2)]⟩⟩
theorem WqR1 (off : Nat) (n : Nat) (c : Nat) (of2 : Nat) (m : Nat) (c2 : Nat) (l : List Int) (e : TypeId) (l2 : List Int) (e2 : TypeId) : WqEV (codeAt [0] BWq) (WqS0 off n c of2 m c2 l e l2 e2) [0, 1] =
  some (.normal, (WqS1 off n c of2 m c2 l e l2 e2)) := by kernel_rfl
noncomputable def WqS2 (off : Nat) (n : Nat) (c : Nat) (of2 : Nat) (m : Nat) (c2 : Nat) (l : List Int) (e : TypeId) (l2 : List Int) (e2 : TypeId) : KSt := ⟨(frameL 26 [(0, (.slice (some ⟨0, off, none⟩) n c)), (1, (.slice (some ⟨1, of2, none⟩) m c2)), (10, (.bool (((n : Nat) : Int) != ((m : Nat) : Int))))]), ⟨2, 1, [(0, 0, .tail off .u64 l e), (1, 0, .tail of2 .u64 l2 e2)]⟩⟩
theorem WqR2 (off : Nat) (n : Nat) (c : Nat) (of2 : Nat) (m : Nat) (c2 : Nat) (l : List Int) (e : TypeId) (l2 : List Int) (e2 : TypeId) : WqEV (codeAt [1, 0, 0] BWq) (WqS1 off n c of2 m c2 l e l2 e2) [0, 1, 10] =
  some (.normal, (WqS2 off n c of2 m c2 l e l2 e2)) := by kernel_rfl
noncomputable def WqS3 (off : Nat) (l : List Int) (e : TypeId) (of2 : Nat) (l2 : List Int) (e2 : TypeId) : KSt := ⟨(frameL 26 [(4, (.bool false))]), ⟨2, 1, [(0, 0, .tail off .u64 l e), (1, 0, .tail of2 .u64 l2 e2)]⟩⟩
theorem WqR3 (off : Nat) (n : Nat) (c : Nat) (of2 : Nat) (m : Nat) (c2 : Nat) (l : List Int) (e : TypeId) (l2 : List Int) (e2 : TypeId) : WqEV (codeAt [1, 0, 1, 0, 0] BWq) (WqS2 off n c of2 m c2 l e l2 e2) [4] =
  some (.normal, (WqS3 off l e of2 l2 e2)) := by kernel_rfl
theorem WqR4 (off : Nat) (n : Nat) (c : Nat) (of2 : Nat) (m : Nat) (c2 : Nat) (l : List Int) (e : TypeId) (l2 : List Int) (e2 : TypeId) : WqEV (codeAt [1, 0, 1, 1] BWq) (WqS2 off n c of2 m c2 l e l2 e2) [0, 1] =
  some (.normal, (WqS1 off n c of2 m c2 l e l2 e2)) := by kernel_rfl
noncomputable def WqS4 (off : Nat) (n : Nat) (c : Nat) (of2 : Nat) (m : Nat) (c2 : Nat) (l : List Int) (e : TypeId) (l2 : List Int) (e2 : TypeId) : KSt := ⟨(frameL 26 [(0, (.slice (some ⟨0, off, none⟩) n c)), (1, (.slice (some ⟨1, of2, none⟩) m c2)), (5, (.int .i64 0))]), ⟨2, 1, [(0, 0, .tail off .u64 l e), (1, 0, .tail of2 .u64 l2 e2)]⟩⟩
theorem WqR5 (off : Nat) (n : Nat) (c : Nat) (of2 : Nat) (m : Nat) (c2 : Nat) (l : List Int) (e : TypeId) (l2 : List Int) (e2 : TypeId) : WqEV (codeAt [1, 1, 0, 0] BWq) (WqS1 off n c of2 m c2 l e l2 e2) [0, 1, 5] =
  some (.normal, (WqS4 off n c of2 m c2 l e l2 e2)) := by kernel_rfl
noncomputable def WqS5 (off : Nat) (n : Nat) (c : Nat) (of2 : Nat) (m : Nat) (c2 : Nat) (i : Int) (l : List Int) (e : TypeId) (l2 : List Int) (e2 : TypeId) : KSt := ⟨(frameL 26 [(0, (.slice (some ⟨0, off, none⟩) n c)), (1, (.slice (some ⟨1, of2, none⟩) m c2)), (5, (.int .i64 i))]), ⟨2, 1, [(0, 0, .tail off .u64 l e), (1, 0, .tail of2 .u64 l2 e2)]⟩⟩
noncomputable def WqS6 (off : Nat) (n : Nat) (c : Nat) (of2 : Nat) (m : Nat) (c2 : Nat) (i : Int) (l : List Int) (e : TypeId) (l2 : List Int) (e2 : TypeId) : KSt := ⟨(frameL 26 [(0, (.slice (some ⟨0, off, none⟩) n c)), (1, (.slice (some ⟨1, of2, none⟩) m c2)), (5, (.int .i64 i)), (14, (.bool (decide (i < ((n : Nat) : Int)))))]), ⟨2, 1, [(0, 0, .tail off .u64 l e), (1, 0, .tail of2 .u64 l2 e2)]⟩⟩
theorem WqR6 (off : Nat) (n : Nat) (c : Nat) (of2 : Nat) (m : Nat) (c2 : Nat) (i : Int) (l : List Int) (e : TypeId) (l2 : List Int) (e2 : TypeId) : WqEV (codeAt [1, 1, 0, 1, 0, 0, 0, 0] BWq) (WqS5 off n c of2 m c2 i l e l2 e2) [0, 1, 5, 14] =
  some (.normal, (WqS6 off n c of2 m c2 i l e l2 e2)) := by kernel_rfl
noncomputable def WqS7 (off : Nat) (l : List Int) (e : TypeId) (of2 : Nat) (l2 : List Int) (e2 : TypeId) : KSt := ⟨(frameL 26 [(4, (.bool true))]), ⟨2, 1, [(0, 0, .tail off .u64 l e), (1, 0, .tail of2 .u64 l2 e2)]⟩⟩
theorem WqR7 (off : Nat) (n : Nat) (c : Nat) (of2 : Nat) (m : Nat) (c2 : Nat) (i : Int) (l : List Int) (e : TypeId) (l2 : List Int) (e2 : TypeId) : WqEV (codeAt [1, 1, 1, 0] BWq) (WqS6 off n c of2 m c2 i l e l2 e2) [4] =
  some (.normal, (WqS7 off l e of2 l2 e2)) := by kernel_rfl
theorem WqR8 (off : Nat) (n : Nat) (c : Nat) (of2 : Nat) (m : Nat) (c2 : Nat) (i : Int) (l : List Int) (e : TypeId) (l2 : List Int) (e2 : TypeId) : WqEV (codeAt [1, 1, 0, 1, 0, 0, 0, 1, 0] BWq) (WqS6 off n c of2 m c2 i l e l2 e2) [0, 1, 5] =
  some (.normal, (WqS5 off n c of2 m c2 i l e l2 e2)) := by kernel_rfl
noncomputable def WqS8 (off : Nat) (n : Nat) (c : Nat) (of2 : Nat) (m : Nat) (c2 : Nat) (i : Int) (n1 : Int) (n2 : Int) (l : List Int) (e : TypeId) (l2 : List Int) (e2 : TypeId) : KSt := ⟨(frameL 26 [(0, (.slice (some ⟨0, off, none⟩) n c)), (1, (.slice (some ⟨1, of2, none⟩) m c2)), (5, (.int .i64 i)), (25, (.bool (n1 != n2)))]), ⟨2, 1, [(0, 0, .tail off .u64 l e), (1, 0, .tail of2 .u64 l2 e2)]⟩⟩
theorem WqR9 (off : Nat) (n : Nat) (c : Nat) (of2 : Nat) (m : Nat) (c2 : Nat) (i : Int) (l : List Int) (e : TypeId) (l2 : List Int) (e2 : TypeId) : WqEV (codeAt [1, 1, 0, 1, 0, 0, 1, 0, 0, 0] BWq) (WqS5 off n c of2 m c2 i l e l2 e2) [0, 1, 5, 25] =
  if 0 ≤ i ∧ i < ((n : Nat) : Int) then
    bif (Nat.ble off (off + ((Int.toNat i) * 1))) then
      obind (l[((off + ((Int.toNat i) * 1)) - off)]?) fun n1 =>
        if 0 ≤ i ∧ i < ((m : Nat) : Int) then
          bif (Nat.ble of2 (of2 + ((Int.toNat i) * 1))) then
            obind (l2[((of2 + ((Int.toNat i) * 1)) - of2)]?) fun n2 =>
              some (.normal, (WqS8 off n c of2 m c2 i n1 n2 l e l2 e2))
          else
            none
        else
          none
    else
      none
  else
    none := by kernel_rfl
noncomputable def WqS9 (off : Nat) (n : Nat) (c : Nat) (of2 : Nat) (m : Nat) (c2 : Nat) (i : Int) (l : List Int) (l2 : List Int) (e : TypeId) (e2 : TypeId) : KSt := ⟨(frameL 26 [(0, (.slice (some ⟨0, off, none⟩) n c)), (1, (.slice (some ⟨1, of2, none⟩) m c2)), (5, (.int .i64 i)), (25, (.bool ((l.getD ((Int.toNat i) * 1) 0) != (l2.getD ((Int.toNat i) * 1) 0))))]), ⟨2, 1, [(0, 0, .tail off .u64 l e), (1, 0, .tail of2 .u64 l2 e2)]⟩⟩
theorem WqR10 (off : Nat) (n : Nat) (c : Nat) (of2 : Nat) (m : Nat) (c2 : Nat) (i : Int) (l : List Int) (l2 : List Int) (e : TypeId) (e2 : TypeId) : WqEV (codeAt [1, 1, 0, 1, 0, 0, 1, 0, 0, 1, 1] BWq) (WqS9 off n c of2 m c2 i l l2 e e2) [0, 1, 5] =
  some (.normal, (WqS5 off n c of2 m c2 i l e l2 e2)) := by kernel_rfl
noncomputable def WqS10 (off : Nat) (n : Nat) (c : Nat) (of2 : Nat) (m : Nat) (c2 : Nat) (i : Int) (l : List Int) (e : TypeId) (l2 : List Int) (e2 : TypeId) : KSt := ⟨(frameL 26 [(0, (.slice (some ⟨0, off, none⟩) n c)), (1, (.slice (some ⟨1, of2, none⟩) m c2)), (5, (.int .i64 (IntKind.wrap .i64 (i + 1))))]), ⟨2, 1, [(0, 0, .tail off .u64 l e), (1, 0, .tail of2 .u64 l2 e2)]⟩⟩
theorem WqR11 (off : Nat) (n : Nat) (c : Nat) (of2 : Nat) (m : Nat) (c2 : Nat) (i : Int) (l : List Int) (e : TypeId) (l2 : List Int) (e2 : TypeId) : WqEV (codeAt [1, 1, 0, 1, 0, 0, 1, 1] BWq) (WqS5 off n c of2 m c2 i l e l2 e2) [0, 1, 5] =
  some (.normal, (WqS10 off n c of2 m c2 i l e l2 e2)) := by kernel_rfl
noncomputable def WqS11 (off : Nat) (n : Nat) (c : Nat) (of2 : Nat) (m : Nat) (c2 : Nat) (i : Int) (l : List Int) (e : TypeId) (l2 : List Int) (e2 : TypeId) : KSt := ⟨(frameL 26 [(0, (.slice (some ⟨0, off, none⟩) n c)), (1, (.slice (some ⟨1, of2, none⟩) m c2)), (5, (.int .i64 (i + 1)))]), ⟨2, 1, [(0, 0, .tail off .u64 l e), (1, 0, .tail of2 .u64 l2 e2)]⟩⟩
theorem WqR12 (off : Nat) (n : Nat) (c : Nat) (of2 : Nat) (m : Nat) (c2 : Nat) (i : Int) (l : List Int) (l2 : List Int) (e : TypeId) (e2 : TypeId) : WqEV (codeAt [1, 1, 0, 1, 0, 0, 1, 0, 0, 1, 0, 0] BWq) (WqS9 off n c of2 m c2 i l l2 e e2) [4] =
  some (.normal, (WqS3 off l e of2 l2 e2)) := by kernel_rfl
theorem Wqne {n : Nat} {m : Nat} {off : Nat} {l : List Int} {e : TypeId} {of2 : Nat} {l2 : List Int} {e2 : TypeId} {c : Nat} {c2 : Nat} (hn : n ≠ m)   {Q : Ex → St → Prop} (hq : Q .ret (KSt.low (WqS3 off l e of2 l2 e2))) : Gets Try.prog (KH.low ⟨2, 1, [(0, 0, .tail off .u64 l e), (1, 0, .tail of2 .u64 l2 e2)]⟩) BWq (KSt.low (WqS0 off n c of2 m c2 l e l2 e2)) Q := by
  rw [WqC]; refine Gets.seq ?_
  refine Wqgo (WqR1 off n c of2 m c2 l e l2 e2) ?_
  rw [WqC1]; refine Gets.seq ?_
  rw [WqC1_0]; refine Gets.seq ?_
  refine Wqgo (WqR2 off n c of2 m c2 l e l2 e2) ?_
  rw [WqC1_0_1]; refine Gets.cond true (by kernel_rfl) (WqeX (b := (((n : Nat) : Int) != ((m : Nat) : Int))) (by kernel_rfl) ((show (((n : Nat) : Int) != ((m : Nat) : Int)) = true from ibne_t (by omega)))) ?_; show Gets _ _ (codeAt [1, 0, 1, 0] BWq) _ _
  rw [WqC1_0_1_0]; refine Gets.seq ?_
  refine Wqgo (WqR3 off n c of2 m c2 l e l2 e2) ?_
  rw [WqC1_0_1_0_1]; refine Gets.ev fitC.mix fitC.cfg (fitC.sound SoundC.no 14 0) 14 rfl (s' := KSt.low (WqS3 off l e of2 l2 e2)) (x := .ret) rfl ?_
  exact hq
theorem Wqpre {n : Nat} {m : Nat} {off : Nat} {l : List Int} {e : TypeId} {of2 : Nat} {l2 : List Int} {e2 : TypeId} {c : Nat} {c2 : Nat} (hn : n = m)   {Q : Ex → St → Prop} (hq : Gets Try.prog (KH.low ⟨2, 1, [(0, 0, .tail off .u64 l e), (1, 0, .tail of2 .u64 l2 e2)]⟩) (codeAt [1, 1, 0, 1] BWq) (KSt.low (WqS4 off n c of2 m c2 l e l2 e2)) (onN (fun s => Gets Try.prog (KH.low ⟨2, 1, [(0, 0, .tail off .u64 l e), (1, 0, .tail of2 .u64 l2 e2)]⟩) (codeAt [1, 1, 1] BWq) s (Q)) (Q))) : Gets Try.prog (KH.low ⟨2, 1, [(0, 0, .tail off .u64 l e), (1, 0, .tail of2 .u64 l2 e2)]⟩) BWq (KSt.low (WqS0 off n c of2 m c2 l e l2 e2)) Q := by
  rw [WqC]; refine Gets.seq ?_
  refine Wqgo (WqR1 off n c of2 m c2 l e l2 e2) ?_
  rw [WqC1]; refine Gets.seq ?_
  rw [WqC1_0]; refine Gets.seq ?_
  refine Wqgo (WqR2 off n c of2 m c2 l e l2 e2) ?_
  rw [WqC1_0_1]; refine Gets.cond false (by kernel_rfl) (WqeX (b := (((n : Nat) : Int) != ((m : Nat) : Int))) (by kernel_rfl) ((show (((n : Nat) : Int) != ((m : Nat) : Int)) = false from ibne_f (by omega)))) ?_; show Gets _ _ (codeAt [1, 0, 1, 1] BWq) _ _
  refine Wqgo (WqR4 off n c of2 m c2 l e l2 e2) ?_
  rw [WqC1_1]; refine Gets.seq ?_
  rw [WqC1_1_0]; refine Gets.seq ?_
  refine Wqgo (WqR5 off n c of2 m c2 l e l2 e2) ?_
  exact hq
theorem Wqx {l : List Int} {n : Nat} {l2 : List Int} {m : Nat} {i : Int} {off : Nat} {c : Nat} {of2 : Nat} {c2 : Nat} {e : TypeId} {e2 : TypeId} (hl : l.length = n) (hl2 : l2.length = m) (hn : n = m) (hb : n ≤ 100000) (hi : 0 ≤ i) (hin : i = (n : Int))   {Q : Ex → St → Prop} (hq : Q (.exit 0) (KSt.low (WqS6 off n c of2 m c2 i l e l2 e2))) : Gets Try.prog (KH.low ⟨2, 1, [(0, 0, .tail off .u64 l e), (1, 0, .tail of2 .u64 l2 e2)]⟩) (codeAt [1, 1, 0, 1, 0, 0] BWq) (KSt.low (WqS5 off n c of2 m c2 i l e l2 e2)) Q := by
  rw [WqC1_1_0_1_0_0]; refine Gets.seq ?_
  rw [WqC1_1_0_1_0_0_0]; refine Gets.seq ?_
  refine Wqgo (WqR6 off n c of2 m c2 i l e l2 e2) ?_
  rw [WqC1_1_0_1_0_0_0_1]; refine Gets.cond false (by kernel_rfl) (WqeX (b := (decide (i < ((n : Nat) : Int)))) (by kernel_rfl) ((show (decide (i < ((n : Nat) : Int))) = false from decide_eq_false (by omega)))) ?_; show Gets _ _ (codeAt [1, 1, 0, 1, 0, 0, 0, 1, 1] BWq) _ _
  rw [WqC1_1_0_1_0_0_0_1_1]; refine Gets.ev fitC.mix fitC.cfg (fitC.sound SoundC.no 14 0) 14 rfl (s' := KSt.low (WqS6 off n c of2 m c2 i l e l2 e2)) (x := (.exit 0)) rfl ?_
  exact hq
theorem Wqfi {off : Nat} {l : List Int} {e : TypeId} {of2 : Nat} {l2 : List Int} {e2 : TypeId} {n : Nat} {c : Nat} {m : Nat} {c2 : Nat} {i : Int}   {Q : Ex → St → Prop} (hq : Q .ret (KSt.low (WqS7 off l e of2 l2 e2))) : Gets Try.prog (KH.low ⟨2, 1, [(0, 0, .tail off .u64 l e), (1, 0, .tail of2 .u64 l2 e2)]⟩) (codeAt [1, 1, 1] BWq) (KSt.low (WqS6 off n c of2 m c2 i l e l2 e2)) Q := by
  rw [WqC1_1_1]; refine Gets.seq ?_
  refine Wqgo (WqR7 off n c of2 m c2 i l e l2 e2) ?_
  rw [WqC1_1_1_1]; refine Gets.ev fitC.mix fitC.cfg (fitC.sound SoundC.no 14 0) 14 rfl (s' := KSt.low (WqS7 off l e of2 l2 e2)) (x := .ret) rfl ?_
  exact hq
theorem Wqrd {l : List Int} {n : Nat} {l2 : List Int} {m : Nat} {i : Int} {off : Nat} {c : Nat} {of2 : Nat} {c2 : Nat} {e : TypeId} {e2 : TypeId} (hl : l.length = n) (hl2 : l2.length = m) (hn : n = m) (hb : n ≤ 100000) (hi : 0 ≤ i) (hin : i < (n : Int)) (he : l.getD ((Int.toNat i) * 1) 0 = l2.getD ((Int.toNat i) * 1) 0)   {Q : Ex → St → Prop} (hq : Q .normal (KSt.low (WqS11 off n c of2 m c2 i l e l2 e2))) : Gets Try.prog (KH.low ⟨2, 1, [(0, 0, .tail off .u64 l e), (1, 0, .tail of2 .u64 l2 e2)]⟩) (codeAt [1, 1, 0, 1, 0, 0] BWq) (KSt.low (WqS5 off n c of2 m c2 i l e l2 e2)) Q := by
  rw [WqC1_1_0_1_0_0]; refine Gets.seq ?_
  rw [WqC1_1_0_1_0_0_0]; refine Gets.seq ?_
  refine Wqgo (WqR6 off n c of2 m c2 i l e l2 e2) ?_
  rw [WqC1_1_0_1_0_0_0_1]; refine Gets.cond true (by kernel_rfl) (WqeX (b := (decide (i < ((n : Nat) : Int)))) (by kernel_rfl) ((show (decide (i < ((n : Nat) : Int))) = true from decide_eq_true (by omega)))) ?_; show Gets _ _ (codeAt [1, 1, 0, 1, 0, 0, 0, 1, 0] BWq) _ _
  refine Wqgo (WqR8 off n c of2 m c2 i l e l2 e2) ?_
  rw [WqC1_1_0_1_0_0_1]; refine Gets.seq ?_
  rw [WqC1_1_0_1_0_0_1_0]; refine Gets.block ?_
  rw [WqC1_1_0_1_0_0_1_0_0]; refine Gets.seq ?_
  refine Wqgo (x := .normal) (s' := (WqS9 off n c of2 m c2 i l l2 e e2)) ((WqR9 off n c of2 m c2 i l e l2 e2).trans (by rw [if_pos (⟨by omega, by omega⟩), condT (ble_t (by omega)), obind_at (k := ((Int.toNat i) * 1)) (by omega) (by omega), if_pos (⟨by omega, by omega⟩), condT (ble_t (by omega)), obind_at (k := ((Int.toNat i) * 1)) (by omega) (by omega)] <;> rfl)) ?_
  rw [WqC1_1_0_1_0_0_1_0_0_1]; refine Gets.cond false (by kernel_rfl) (WqeX (b := ((l.getD ((Int.toNat i) * 1) 0) != (l2.getD ((Int.toNat i) * 1) 0))) (by kernel_rfl) ((show ((l.getD ((Int.toNat i) * 1) 0) != (l2.getD ((Int.toNat i) * 1) 0)) = false from ibne_f (by omega)))) ?_; show Gets _ _ (codeAt [1, 1, 0, 1, 0, 0, 1, 0, 0, 1, 1] BWq) _ _
  refine Wqgo (WqR10 off n c of2 m c2 i l l2 e e2) ?_
  refine Wqgo (x := .normal) (s' := (WqS11 off n c of2 m c2 i l e l2 e2)) ((WqR11 off n c of2 m c2 i l e l2 e2).trans (by (show some (Ex.normal, (WqS10 off n c of2 m c2 i l e l2 e2)) = some (Ex.normal, (WqS11 off n c of2 m c2 i l e l2 e2)); unfold WqS10 WqS11; rw [(show (IntKind.wrap .i64 (i + 1)) = (i + 1) from wrap_i64_id (by omega) (by omega))]))) ?_
  exact hq
theorem Wqbad {l : List Int} {n : Nat} {l2 : List Int} {m : Nat} {i : Int} {off : Nat} {e : TypeId} {of2 : Nat} {e2 : TypeId} {c : Nat} {c2 : Nat} (hl : l.length = n) (hl2 : l2.length = m) (hn : n = m) (hb : n ≤ 100000) (hi : 0 ≤ i) (hin : i < (n : Int)) (he : l.getD ((Int.toNat i) * 1) 0 ≠ l2.getD ((Int.toNat i) * 1) 0)   {Q : Ex → St → Prop} (hq : Q .ret (KSt.low (WqS3 off l e of2 l2 e2))) : Gets Try.prog (KH.low ⟨2, 1, [(0, 0, .tail off .u64 l e), (1, 0, .tail of2 .u64 l2 e2)]⟩) (codeAt [1, 1, 0, 1, 0, 0] BWq) (KSt.low (WqS5 off n c of2 m c2 i l e l2 e2)) Q := by
  rw [WqC1_1_0_1_0_0]; refine Gets.seq ?_
  rw [WqC1_1_0_1_0_0_0]; refine Gets.seq ?_
  refine Wqgo (WqR6 off n c of2 m c2 i l e l2 e2) ?_
  rw [WqC1_1_0_1_0_0_0_1]; refine Gets.cond true (by kernel_rfl) (WqeX (b := (decide (i < ((n : Nat) : Int)))) (by kernel_rfl) ((show (decide (i < ((n : Nat) : Int))) = true from decide_eq_true (by omega)))) ?_; show Gets _ _ (codeAt [1, 1, 0, 1, 0, 0, 0, 1, 0] BWq) _ _
  refine Wqgo (WqR8 off n c of2 m c2 i l e l2 e2) ?_
  rw [WqC1_1_0_1_0_0_1]; refine Gets.seq ?_
  rw [WqC1_1_0_1_0_0_1_0]; refine Gets.block ?_
  rw [WqC1_1_0_1_0_0_1_0_0]; refine Gets.seq ?_
  refine Wqgo (x := .normal) (s' := (WqS9 off n c of2 m c2 i l l2 e e2)) ((WqR9 off n c of2 m c2 i l e l2 e2).trans (by rw [if_pos (⟨by omega, by omega⟩), condT (ble_t (by omega)), obind_at (k := ((Int.toNat i) * 1)) (by omega) (by omega), if_pos (⟨by omega, by omega⟩), condT (ble_t (by omega)), obind_at (k := ((Int.toNat i) * 1)) (by omega) (by omega)] <;> rfl)) ?_
  rw [WqC1_1_0_1_0_0_1_0_0_1]; refine Gets.cond true (by kernel_rfl) (WqeX (b := ((l.getD ((Int.toNat i) * 1) 0) != (l2.getD ((Int.toNat i) * 1) 0))) (by kernel_rfl) ((show ((l.getD ((Int.toNat i) * 1) 0) != (l2.getD ((Int.toNat i) * 1) 0)) = true from ibne_t (by omega)))) ?_; show Gets _ _ (codeAt [1, 1, 0, 1, 0, 0, 1, 0, 0, 1, 0] BWq) _ _
  rw [WqC1_1_0_1_0_0_1_0_0_1_0]; refine Gets.seq ?_
  refine Wqgo (WqR12 off n c of2 m c2 i l l2 e e2) ?_
  rw [WqC1_1_0_1_0_0_1_0_0_1_0_1]; refine Gets.ev fitC.mix fitC.cfg (fitC.sound SoundC.no 14 0) 14 rfl (s' := KSt.low (WqS3 off l e of2 l2 e2)) (x := .ret) rfl ?_
  exact hq
noncomputable def BT0 : Code := bodyOf Try.prog 12
theorem BT0_is : Try.f12.body = some BT0 := by kernel_rfl
theorem BT0_ok : okCode Try.prog.globals.size BT0 = true := by kernel_rfl
noncomputable abbrev T0EV (byteRV : Int → Int → Int) (byteV : Int → Int → Int) (manyV : Int → Int) (withRV : Int → Int → Int → Int) (c : Code) (s : KSt) (lv : List Nat) : Option (Ex × KSt) := evCK Try.prog cfgC (runK Try.prog cfgC fsC (conTk pkaDom (rcK [] (pkaT byteRV byteV manyV withRV))) 14 40) 14 c s (normC 0 lv)
theorem T0go {lv_ : List Nat} {co_ : Code} {st_ s' : KSt} {x : Ex} {Q : Ex → St → Prop} (hE_ : T0EV byteRV byteV manyV withRV co_ st_ lv_ = some (x, s')) (hq_ : Q x s'.low) (hok_ : okCode Try.prog.globals.size co_ = true := by kernel_rfl) : Gets Try.prog (KH.low ⟨0, 1, []⟩) co_ st_.low Q := Gets.ofN fitC pka_sound (rc_agree _ _ _) 14 40 hok_ hE_ hq_
theorem T0eX {v : Value} {b c : Bool} (h : v = .bool b) (hb : b = c) : v = .bool c := by rw [h, hb]
theorem T0C : BT0 = .seq (codeAt [0] BT0) (codeAt [1] BT0) := by kernel_rfl
theorem T0C1 : (codeAt [1] BT0) = .seq (codeAt [1, 0] BT0) (codeAt [1, 1] BT0) := by kernel_rfl
theorem T0C1_0 : (codeAt [1, 0] BT0) = .seq (codeAt [1, 0, 0] BT0) (codeAt [1, 0, 1] BT0) := by kernel_rfl
theorem T0C1_0_1 : (codeAt [1, 0, 1] BT0) = .cond (.tmp 20) (codeAt [1, 0, 1, 0] BT0) (codeAt [1, 0, 1, 1] BT0) := by kernel_rfl
theorem T0C1_0_1_0 : (codeAt [1, 0, 1, 0] BT0) = .seq (codeAt [1, 0, 1, 0, 0] BT0) (codeAt [1, 0, 1, 0, 1] BT0) := by kernel_rfl
theorem T0C1_0_1_0_1 : (codeAt [1, 0, 1, 0, 1] BT0) = .ret := by kernel_rfl
theorem T0C1_1 : (codeAt [1, 1] BT0) = .seq (codeAt [1, 1, 0] BT0) (codeAt [1, 1, 1] BT0) := by kernel_rfl
theorem T0C1_1_1 : (codeAt [1, 1, 1] BT0) = .seq (codeAt [1, 1, 1, 0] BT0) (codeAt [1, 1, 1, 1] BT0) := by kernel_rfl
theorem T0C1_1_1_0 : (codeAt [1, 1, 1, 0] BT0) = .seq (codeAt [1, 1, 1, 0, 0] BT0) (codeAt [1, 1, 1, 0, 1] BT0) := by kernel_rfl
theorem T0C1_1_1_1 : (codeAt [1, 1, 1, 1] BT0) = .seq (codeAt [1, 1, 1, 1, 0] BT0) (codeAt [1, 1, 1, 1, 1] BT0) := by kernel_rfl
theorem T0C1_1_1_1_0 : (codeAt [1, 1, 1, 1, 0] BT0) = .seq (codeAt [1, 1, 1, 1, 0, 0] BT0) (codeAt [1, 1, 1, 1, 0, 1] BT0) := by kernel_rfl
theorem T0C1_1_1_1_1 : (codeAt [1, 1, 1, 1, 1] BT0) = .seq (codeAt [1, 1, 1, 1, 1, 0] BT0) (codeAt [1, 1, 1, 1, 1, 1] BT0) := by kernel_rfl
theorem T0C1_1_1_1_1_1 : (codeAt [1, 1, 1, 1, 1, 1] BT0) = .ret := by kernel_rfl
section
variable (byteRV : Int → Int → Int) (byteV : Int → Int → Int) (manyV : Int → Int) (withRV : Int → Int → Int → Int)
noncomputable def T0S0 (k : Int) : KSt := (firstK [(.slice (some ⟨0, 0, some 0⟩) 0 0), (.int .i64 k)] 58 ⟨0, 1, []⟩)
noncomputable def T0S1 (k : Int) : KSt := ⟨(frameL 58 [(0, (.slice (some ⟨0, 0, some 0⟩) 0 0)), (1, (.int .i64 k))]), ⟨0, 1, []⟩⟩
theorem T0R1 (k : Int) : T0EV byteRV byteV manyV withRV (codeAt [0] BT0) (T0S0 k) [0, 1] =
  some (.normal, (T0S1 k)) := by kernel_rfl
noncomputable def T0S2 (k : Int) : KSt := ⟨(frameL 58 [(0, (.slice (some ⟨0, 0, some 0⟩) 0 0)), (1, (.int .i64 k)), (20, (.bool true))]), ⟨0, 1, []⟩⟩
noncomputable def T0S3 (k : Int) : KSt := ⟨(frameL 58 [(0, (.slice (some ⟨0, 0, some 0⟩) 0 0)), (1, (.int .i64 k)), (20, (.bool ((manyV k) != 0)))]), ⟨0, 1, []⟩⟩
theorem T0R2 (k : Int) : T0EV byteRV byteV manyV withRV (codeAt [1, 0, 0] BT0) (T0S1 k) [0, 1, 20] =
  bif (decide (k < 0)) then
    some (.normal, (T0S2 k))
  else
    bif (decide (k ≤ 9223372036854775807)) then
      some (.normal, (T0S3 manyV k))
    else
      none := by kernel_rfl
noncomputable def T0S4  : KSt := ⟨(frameL 58 [(4, (.string ⟨#[]⟩)), (5, (.bool false))]), ⟨0, 1, []⟩⟩
theorem T0R3 (k : Int) : T0EV byteRV byteV manyV withRV (codeAt [1, 0, 1, 0, 0] BT0) (T0S2 k) [4, 5] =
  some (.normal, T0S4) := by kernel_rfl
theorem T0R4 (k : Int) : T0EV byteRV byteV manyV withRV (codeAt [1, 0, 1, 0, 0] BT0) (T0S3 manyV k) [4, 5] =
  some (.normal, T0S4) := by kernel_rfl
theorem T0R5 (k : Int) : T0EV byteRV byteV manyV withRV (codeAt [1, 0, 1, 1] BT0) (T0S3 manyV k) [0, 1] =
  some (.normal, (T0S1 k)) := by kernel_rfl
noncomputable def T0S5 (k : Int) : KSt := ⟨(frameL 58 [(0, (.slice (some ⟨0, 0, some 0⟩) 0 0)), (1, (.int .i64 k)), (6, (.slice (some ⟨0, 0, none⟩) 0 0))]), ⟨1, 1, [(0, 0, .ints .u8 (List.replicate 0 (0 : Int)) 5 true)]⟩⟩
theorem T0R6 (k : Int) : T0EV byteRV byteV manyV withRV (codeAt [1, 1, 0] BT0) (T0S1 k) [0, 1, 6] =
  some (.normal, (T0S5 k)) := by kernel_rfl
noncomputable def T0S6 (k : Int) : KSt := ⟨(frameL 58 [(1, (.int .i64 k)), (6, (.slice (some ⟨0, 0, none⟩) 0 0)), (25, (.slice (some ⟨0, 0, some 0⟩) 0 0)), (26, (.int .i64 0)), (27, (.int .i64 0))]), ⟨1, 1, [(0, 0, .ints .u8 (List.replicate 0 (0 : Int)) 5 true)]⟩⟩
theorem T0R7 (k : Int) : T0EV byteRV byteV manyV withRV (codeAt [1, 1, 1, 0, 0] BT0) (T0S5 k) [1, 6, 25, 26, 27] =
  some (.normal, (T0S6 k)) := by kernel_rfl
noncomputable def T0S7 (k : Int) : KSt := ⟨(frameL 58 [(1, (.int .i64 k)), (6, (.slice (some ⟨0, 0, none⟩) 0 0))]), ⟨1, 1, [(0, 0, .ints .u8 (List.replicate 0 (0 : Int)) 5 true)]⟩⟩
theorem T0R8 (k : Int) : T0EV byteRV byteV manyV withRV (codeAt [1, 1, 1, 0, 1] BT0) (T0S6 k) [1, 6] =
  some (.normal, (T0S7 k)) := by kernel_rfl
noncomputable def T0S8 (k : Int) : KSt := ⟨(frameL 58 [(1, (.int .i64 k)), (6, (.slice (some ⟨0, 0, none⟩) 0 0)), (45, (.slice (some ⟨0, 0, some 0⟩) 0 0)), (46, (.int .i64 0)), (47, (.int .i64 0))]), ⟨1, 1, [(0, 0, .ints .u8 (List.replicate 0 (0 : Int)) 5 true)]⟩⟩
noncomputable def T0S9 (k : Int) : KSt := ⟨(frameL 58 [(1, (.int .i64 k)), (6, (.slice (some ⟨0, 0, none⟩) 0 0)), (45, (.slice (some ⟨0, (0 + ((Int.toNat k) * 1)), none⟩) (0 - (Int.toNat k)) (0 - (Int.toNat k)))), (46, (.int .i64 (((0 - (Int.toNat k)) : Nat) : Int))), (47, (.int .i64 0))]), ⟨1, 1, [(0, 0, .ints .u8 (List.replicate 0 (0 : Int)) 5 true)]⟩⟩
theorem T0R9 (k : Int) : T0EV byteRV byteV manyV withRV (codeAt [1, 1, 1, 1, 0, 0] BT0) (T0S7 k) [1, 6, 45, 46, 47] =
  if 0 ≤ k ∧ k ≤ 0 then
    bif ((Nat.ble (Int.toNat k) 0) && true) then
      bif (Nat.beq 0 (Int.toNat k)) then
        some (.normal, (T0S8 k))
      else
        some (.normal, (T0S9 k))
    else
      none
  else
    none := by kernel_rfl
theorem T0R10 (k : Int) : T0EV byteRV byteV manyV withRV (codeAt [1, 1, 1, 1, 0, 1] BT0) (T0S8 k) [1, 6] =
  some (.normal, (T0S7 k)) := by kernel_rfl
noncomputable def T0S10  : KSt := ⟨(frameL 58 [(4, (.string ⟨#[]⟩)), (5, (.bool true))]), ⟨0, 1, []⟩⟩
theorem T0R11 (k : Int) : T0EV byteRV byteV manyV withRV (codeAt [1, 1, 1, 1, 1, 0] BT0) (T0S7 k) [4, 5] =
  if 0 ≤ k ∧ k ≤ 0 then
    bif ((Nat.ble 0 (Int.toNat k)) && (Nat.ble (Int.toNat k) 0)) then
      some (.normal, T0S10)
    else
      none
  else
    none := by kernel_rfl
end
theorem T0lo {k : Int} (h : k < 0)   {Q : Ex → St → Prop} (hq : Q .ret (KSt.low T0S4)) : Gets Try.prog (KH.low ⟨0, 1, []⟩) BT0 (KSt.low (T0S0 k)) Q := by
  rw [T0C]; refine Gets.seq ?_
  refine T0go (T0R1 byteRV byteV manyV withRV k) ?_
  rw [T0C1]; refine Gets.seq ?_
  rw [T0C1_0]; refine Gets.seq ?_
  refine T0go (x := .normal) (s' := (T0S2 k)) ((T0R2 byteRV byteV manyV withRV k).trans (by rw [condT (decide_eq_true (by omega))])) ?_
  rw [T0C1_0_1]; refine Gets.cond true (by kernel_rfl) (by kernel_rfl) ?_; show Gets _ _ (codeAt [1, 0, 1, 0] BT0) _ _
  rw [T0C1_0_1_0]; refine Gets.seq ?_
  refine T0go (T0R3 byteRV byteV manyV withRV k) ?_
  rw [T0C1_0_1_0_1]; refine Gets.ev fitC.mix fitC.cfg (fitC.sound pka_sound 14 0) 14 rfl (s' := KSt.low T0S4) (x := .ret) rfl ?_
  exact hq
theorem T0ne {k : Int} (hk : k ≤ 9223372036854775807) (h : 0 ≤ k) (hne : manyV k ≠ 0)   {Q : Ex → St → Prop} (hq : Q .ret (KSt.low T0S4)) : Gets Try.prog (KH.low ⟨0, 1, []⟩) BT0 (KSt.low (T0S0 k)) Q := by
  rw [T0C]; refine Gets.seq ?_
  refine T0go (T0R1 byteRV byteV manyV withRV k) ?_
  rw [T0C1]; refine Gets.seq ?_
  rw [T0C1_0]; refine Gets.seq ?_
  refine T0go (x := .normal) (s' := (T0S3 manyV k)) ((T0R2 byteRV byteV manyV withRV k).trans (by rw [condF (decide_eq_false (by omega)), condT (decide_eq_true (by omega))])) ?_
  rw [T0C1_0_1]; refine Gets.cond true (by kernel_rfl) (T0eX (b := ((manyV k) != 0)) (by kernel_rfl) ((show ((manyV k) != 0) = true from ibne_t (by omega)))) ?_; show Gets _ _ (codeAt [1, 0, 1, 0] BT0) _ _
  rw [T0C1_0_1_0]; refine Gets.seq ?_
  refine T0go (T0R4 byteRV byteV manyV withRV k) ?_
  rw [T0C1_0_1_0_1]; refine Gets.ev fitC.mix fitC.cfg (fitC.sound pka_sound 14 0) 14 rfl (s' := KSt.low T0S4) (x := .ret) rfl ?_
  exact hq
theorem T0z {k : Int} (h : k = 0) (hne : manyV k = 0)   {Q : Ex → St → Prop} (hq : Q .ret (KSt.low T0S10)) : Gets Try.prog (KH.low ⟨0, 1, []⟩) BT0 (KSt.low (T0S0 k)) Q := by
  rw [T0C]; refine Gets.seq ?_
  refine T0go (T0R1 byteRV byteV manyV withRV k) ?_
  rw [T0C1]; refine Gets.seq ?_
  rw [T0C1_0]; refine Gets.seq ?_
  refine T0go (x := .normal) (s' := (T0S3 manyV k)) ((T0R2 byteRV byteV manyV withRV k).trans (by rw [condF (decide_eq_false (by omega)), condT (decide_eq_true (by omega))])) ?_
  rw [T0C1_0_1]; refine Gets.cond false (by kernel_rfl) (T0eX (b := ((manyV k) != 0)) (by kernel_rfl) ((show ((manyV k) != 0) = false from ibne_f (by omega)))) ?_; show Gets _ _ (codeAt [1, 0, 1, 1] BT0) _ _
  refine T0go (T0R5 byteRV byteV manyV withRV k) ?_
  rw [T0C1_1]; refine Gets.seq ?_
  refine T0go (T0R6 byteRV byteV manyV withRV k) ?_
  rw [T0C1_1_1]; refine Gets.seq ?_
  rw [T0C1_1_1_0]; refine Gets.seq ?_
  refine T0go (T0R7 byteRV byteV manyV withRV k) ?_
  refine T0go (T0R8 byteRV byteV manyV withRV k) ?_
  rw [T0C1_1_1_1]; refine Gets.seq ?_
  rw [T0C1_1_1_1_0]; refine Gets.seq ?_
  refine T0go (x := .normal) (s' := (T0S8 k)) ((T0R9 byteRV byteV manyV withRV k).trans (by rw [if_pos (⟨by omega, by omega⟩), condT (and_t (ble_t (by omega)) (rfl)), condT (nbeq_t (by omega))])) ?_
  refine T0go (T0R10 byteRV byteV manyV withRV k) ?_
  rw [T0C1_1_1_1_1]; refine Gets.seq ?_
  refine T0go (x := .normal) (s' := T0S10) ((T0R11 byteRV byteV manyV withRV k).trans (by rw [if_pos (⟨by omega, by omega⟩), condT (and_t (ble_t (by omega)) (ble_t (by omega)))])) ?_
  rw [T0C1_1_1_1_1_1]; refine Gets.ev fitC.mix fitC.cfg (fitC.sound pka_sound 14 0) 14 rfl (s' := KSt.low T0S10) (x := .ret) rfl ?_
  exact hq
noncomputable def BU0 : Code := bodyOf Try.prog 13
theorem BU0_is : Try.f13.body = some BU0 := by kernel_rfl
theorem BU0_ok : okCode Try.prog.globals.size BU0 = true := by kernel_rfl
noncomputable abbrev U0EV (byteRV : Int → Int → Int) (byteV : Int → Int → Int) (manyV : Int → Int) (withRV : Int → Int → Int → Int) (c : Code) (s : KSt) (lv : List Nat) : Option (Ex × KSt) := evCK Try.prog cfgC (runK Try.prog cfgC fsC (conTk pkaDom (rcK [] (pkaT byteRV byteV manyV withRV))) 14 40) 14 c s (normC 0 lv)
theorem U0go {lv_ : List Nat} {co_ : Code} {st_ s' : KSt} {x : Ex} {Q : Ex → St → Prop} (hE_ : U0EV byteRV byteV manyV withRV co_ st_ lv_ = some (x, s')) (hq_ : Q x s'.low) (hok_ : okCode Try.prog.globals.size co_ = true := by kernel_rfl) : Gets Try.prog (KH.low ⟨0, 1, []⟩) co_ st_.low Q := Gets.ofN fitC pka_sound (rc_agree _ _ _) 14 40 hok_ hE_ hq_
theorem U0eX {v : Value} {b c : Bool} (h : v = .bool b) (hb : b = c) : v = .bool c := by rw [h, hb]
theorem U0C : BU0 = .seq (codeAt [0] BU0) (codeAt [1] BU0) := by kernel_rfl
theorem U0C1 : (codeAt [1] BU0) = .seq (codeAt [1, 0] BU0) (codeAt [1, 1] BU0) := by kernel_rfl
theorem U0C1_0 : (codeAt [1, 0] BU0) = .seq (codeAt [1, 0, 0] BU0) (codeAt [1, 0, 1] BU0) := by kernel_rfl
theorem U0C1_0_1 : (codeAt [1, 0, 1] BU0) = .cond (.tmp 25) (codeAt [1, 0, 1, 0] BU0) (codeAt [1, 0, 1, 1] BU0) := by kernel_rfl
theorem U0C1_0_1_0 : (codeAt [1, 0, 1, 0] BU0) = .seq (codeAt [1, 0, 1, 0, 0] BU0) (codeAt [1, 0, 1, 0, 1] BU0) := by kernel_rfl
theorem U0C1_0_1_0_1 : (codeAt [1, 0, 1, 0, 1] BU0) = .ret := by kernel_rfl
theorem U0C1_1 : (codeAt [1, 1] BU0) = .seq (codeAt [1, 1, 0] BU0) (codeAt [1, 1, 1] BU0) := by kernel_rfl
theorem U0C1_1_1 : (codeAt [1, 1, 1] BU0) = .seq (codeAt [1, 1, 1, 0] BU0) (codeAt [1, 1, 1, 1] BU0) := by kernel_rfl
theorem U0C1_1_1_0 : (codeAt [1, 1, 1, 0] BU0) = .seq (codeAt [1, 1, 1, 0, 0] BU0) (codeAt [1, 1, 1, 0, 1] BU0) := by kernel_rfl
theorem U0C1_1_1_1 : (codeAt [1, 1, 1, 1] BU0) = .seq (codeAt [1, 1, 1, 1, 0] BU0) (codeAt [1, 1, 1, 1, 1] BU0) := by kernel_rfl
theorem U0C1_1_1_1_1 : (codeAt [1, 1, 1, 1, 1] BU0) = .ret := by kernel_rfl
section
variable (byteRV : Int → Int → Int) (byteV : Int → Int → Int) (manyV : Int → Int) (withRV : Int → Int → Int → Int)
noncomputable def U0S0 (k : Int) : KSt := (firstK [(.slice (some ⟨0, 0, some 0⟩) 0 0), (.int .i64 k)] 59 ⟨0, 1, []⟩)
noncomputable def U0S1 (k : Int) : KSt := ⟨(frameL 59 [(0, (.slice (some ⟨0, 0, some 0⟩) 0 0)), (1, (.int .i64 k))]), ⟨0, 1, []⟩⟩
theorem U0R1 (k : Int) : U0EV byteRV byteV manyV withRV (codeAt [0] BU0) (U0S0 k) [0, 1] =
  some (.normal, (U0S1 k)) := by kernel_rfl
noncomputable def U0S2 (k : Int) : KSt := ⟨(frameL 59 [(0, (.slice (some ⟨0, 0, some 0⟩) 0 0)), (1, (.int .i64 k)), (25, (.bool true))]), ⟨0, 1, []⟩⟩
noncomputable def U0S3 (k : Int) : KSt := ⟨(frameL 59 [(0, (.slice (some ⟨0, 0, some 0⟩) 0 0)), (1, (.int .i64 k)), (25, (.bool (decide (k ≤ (-8)))))]), ⟨0, 1, []⟩⟩
theorem U0R2 (k : Int) : U0EV byteRV byteV manyV withRV (codeAt [1, 0, 0] BU0) (U0S1 k) [0, 1, 25] =
  bif (decide (k < 0)) then
    some (.normal, (U0S2 k))
  else
    bif (decide (k > 0)) then
      some (.normal, (U0S2 k))
    else
      some (.normal, (U0S3 k)) := by kernel_rfl
noncomputable def U0S4  : KSt := ⟨(frameL 59 [(4, (.string ⟨#[]⟩)), (5, (.bool false))]), ⟨0, 1, []⟩⟩
theorem U0R3 (k : Int) : U0EV byteRV byteV manyV withRV (codeAt [1, 0, 1, 0, 0] BU0) (U0S2 k) [4, 5] =
  some (.normal, U0S4) := by kernel_rfl
theorem U0R4 (k : Int) : U0EV byteRV byteV manyV withRV (codeAt [1, 0, 1, 1] BU0) (U0S3 k) [0, 1] =
  some (.normal, (U0S1 k)) := by kernel_rfl
noncomputable def U0S5 (k : Int) : KSt := ⟨(frameL 59 [(0, (.slice (some ⟨0, 0, some 0⟩) 0 0)), (1, (.int .i64 k)), (6, (.slice (some ⟨0, 0, none⟩) 0 0))]), ⟨1, 1, [(0, 0, .cells [] 5 true)]⟩⟩
theorem U0R5 (k : Int) : U0EV byteRV byteV manyV withRV (codeAt [1, 1, 0] BU0) (U0S1 k) [0, 1, 6] =
  some (.normal, (U0S5 k)) := by kernel_rfl
noncomputable def U0S6 (k : Int) : KSt := ⟨(frameL 59 [(0, (.slice (some ⟨0, 0, some 0⟩) 0 0)), (1, (.int .i64 k)), (6, (.slice (some ⟨0, 0, none⟩) 0 0)), (7, (.int .i64 0))]), ⟨1, 1, [(0, 0, .cells [] 5 true)]⟩⟩
theorem U0R6 (k : Int) : U0EV byteRV byteV manyV withRV (codeAt [1, 1, 1, 0, 0] BU0) (U0S5 k) [0, 1, 6, 7] =
  some (.normal, (U0S6 k)) := by kernel_rfl
noncomputable def U0S7  : KSt := ⟨(frameL 59 [(6, (.slice (some ⟨0, 0, none⟩) 0 0))]), ⟨1, 1, [(0, 0, .cells [] 5 true)]⟩⟩
theorem U0R7 (k : Int) : U0EV byteRV byteV manyV withRV (codeAt [1, 1, 1, 0, 1] BU0) (U0S6 k) [6] =
  some (.normal, U0S7) := by kernel_rfl
noncomputable def U0S8  : KSt := ⟨(frameL 59 [(4, (.string ⟨#[]⟩)), (5, (.bool true))]), ⟨0, 1, []⟩⟩
theorem U0R8  : U0EV byteRV byteV manyV withRV (codeAt [1, 1, 1, 1, 0] BU0) U0S7 [4, 5] =
  some (.normal, U0S8) := by kernel_rfl
end
theorem U0lo {k : Int} (h : k < 0)   {Q : Ex → St → Prop} (hq : Q .ret (KSt.low U0S4)) : Gets Try.prog (KH.low ⟨0, 1, []⟩) BU0 (KSt.low (U0S0 k)) Q := by
  rw [U0C]; refine Gets.seq ?_
  refine U0go (U0R1 byteRV byteV manyV withRV k) ?_
  rw [U0C1]; refine Gets.seq ?_
  rw [U0C1_0]; refine Gets.seq ?_
  refine U0go (x := .normal) (s' := (U0S2 k)) ((U0R2 byteRV byteV manyV withRV k).trans (by rw [condT (decide_eq_true (by omega))])) ?_
  rw [U0C1_0_1]; refine Gets.cond true (by kernel_rfl) (by kernel_rfl) ?_; show Gets _ _ (codeAt [1, 0, 1, 0] BU0) _ _
  rw [U0C1_0_1_0]; refine Gets.seq ?_
  refine U0go (U0R3 byteRV byteV manyV withRV k) ?_
  rw [U0C1_0_1_0_1]; refine Gets.ev fitC.mix fitC.cfg (fitC.sound pka_sound 14 0) 14 rfl (s' := KSt.low U0S4) (x := .ret) rfl ?_
  exact hq
theorem U0hi {k : Int} (h : 0 < k)   {Q : Ex → St → Prop} (hq : Q .ret (KSt.low U0S4)) : Gets Try.prog (KH.low ⟨0, 1, []⟩) BU0 (KSt.low (U0S0 k)) Q := by
  rw [U0C]; refine Gets.seq ?_
  refine U0go (U0R1 byteRV byteV manyV withRV k) ?_
  rw [U0C1]; refine Gets.seq ?_
  rw [U0C1_0]; refine Gets.seq ?_
  refine U0go (x := .normal) (s' := (U0S2 k)) ((U0R2 byteRV byteV manyV withRV k).trans (by rw [condF (decide_eq_false (by omega)), condT (decide_eq_true (by omega))])) ?_
  rw [U0C1_0_1]; refine Gets.cond true (by kernel_rfl) (by kernel_rfl) ?_; show Gets _ _ (codeAt [1, 0, 1, 0] BU0) _ _
  rw [U0C1_0_1_0]; refine Gets.seq ?_
  refine U0go (U0R3 byteRV byteV manyV withRV k) ?_
  rw [U0C1_0_1_0_1]; refine Gets.ev fitC.mix fitC.cfg (fitC.sound pka_sound 14 0) 14 rfl (s' := KSt.low U0S4) (x := .ret) rfl ?_
  exact hq
theorem U0z {k : Int} (h : k = 0)   {Q : Ex → St → Prop} (hq : Q .ret (KSt.low U0S8)) : Gets Try.prog (KH.low ⟨0, 1, []⟩) BU0 (KSt.low (U0S0 k)) Q := by
  rw [U0C]; refine Gets.seq ?_
  refine U0go (U0R1 byteRV byteV manyV withRV k) ?_
  rw [U0C1]; refine Gets.seq ?_
  rw [U0C1_0]; refine Gets.seq ?_
  refine U0go (x := .normal) (s' := (U0S3 k)) ((U0R2 byteRV byteV manyV withRV k).trans (by rw [condF (decide_eq_false (by omega)), condF (decide_eq_false (by omega))])) ?_
  rw [U0C1_0_1]; refine Gets.cond false (by kernel_rfl) (U0eX (b := (decide (k ≤ (-8)))) (by kernel_rfl) ((show (decide (k ≤ (-8))) = false from decide_eq_false (by omega)))) ?_; show Gets _ _ (codeAt [1, 0, 1, 1] BU0) _ _
  refine U0go (U0R4 byteRV byteV manyV withRV k) ?_
  rw [U0C1_1]; refine Gets.seq ?_
  refine U0go (U0R5 byteRV byteV manyV withRV k) ?_
  rw [U0C1_1_1]; refine Gets.seq ?_
  rw [U0C1_1_1_0]; refine Gets.seq ?_
  refine U0go (U0R6 byteRV byteV manyV withRV k) ?_
  refine U0go (U0R7 byteRV byteV manyV withRV k) ?_
  rw [U0C1_1_1_1]; refine Gets.seq ?_
  refine U0go (U0R8 byteRV byteV manyV withRV) ?_
  rw [U0C1_1_1_1_1]; refine Gets.ev fitC.mix fitC.cfg (fitC.sound pka_sound 14 0) 14 rfl (s' := KSt.low U0S8) (x := .ret) rfl ?_
  exact hq
noncomputable def BWa : Code := bodyOf Try.prog 14
theorem BWa_is : Try.f14.body = some BWa := by kernel_rfl
theorem BWa_ok : okCode Try.prog.globals.size BWa = true := by kernel_rfl
noncomputable abbrev WaEV (c : Code) (s : KSt) (lv : List Nat) : Option (Ex × KSt) := evCK Try.prog cfgC (runK Try.prog cfgC fsC noT 14 40) 14 c s (normC 0 lv)
theorem Wago {lv_ : List Nat} {co_ : Code} {st_ s' : KSt} {x : Ex} {Q : Ex → St → Prop} (hE_ : WaEV co_ st_ lv_ = some (x, s')) (hq_ : Q x s'.low) (hok_ : okCode Try.prog.globals.size co_ = true := by kernel_rfl) : Gets Try.prog (KH.low ⟨0, 1, []⟩) co_ st_.low Q := Gets.ofN fitC SoundC.no AgreeT.no 14 40 hok_ hE_ hq_
theorem WaeX {v : Value} {b c : Bool} (h : v = .bool b) (hb : b = c) : v = .bool c := by rw [h, hb]
theorem WaC : BWa = .seq (codeAt [0] BWa) (codeAt [1] BWa) := by kernel_rfl
theorem WaC1 : (codeAt [1] BWa) = .seq (codeAt [1, 0] BWa) (codeAt [1, 1] BWa) := by kernel_rfl
theorem WaC1_0 : (codeAt [1, 0] BWa) = .seq (codeAt [1, 0, 0] BWa) (codeAt [1, 0, 1] BWa) := by kernel_rfl
theorem WaC1_0_1 : (codeAt [1, 0, 1] BWa) = .cond (.tmp 10) (codeAt [1, 0, 1, 0] BWa) (codeAt [1, 0, 1, 1] BWa) := by kernel_rfl
theorem WaC1_1 : (codeAt [1, 1] BWa) = .seq (codeAt [1, 1, 0] BWa) (codeAt [1, 1, 1] BWa) := by kernel_rfl
theorem WaC1_1_0 : (codeAt [1, 1, 0] BWa) = .seq (codeAt [1, 1, 0, 0] BWa) (codeAt [1, 1, 0, 1] BWa) := by kernel_rfl
theorem WaC1_1_1 : (codeAt [1, 1, 1] BWa) = .seq (codeAt [1, 1, 1, 0] BWa) (codeAt [1, 1, 1, 1] BWa) := by kernel_rfl
theorem WaC1_1_1_1 : (codeAt [1, 1, 1, 1] BWa) = .ret := by kernel_rfl
noncomputable def WaS0  : KSt := (firstK [(.slice (some ⟨0, 0, some 0⟩) 0 0), (.slice (some ⟨0, 0, some 0⟩) 0 0)] 26 ⟨0, 1, []⟩)
noncomputable def WaS1  : KSt := ⟨(frameL 26 [(0, (.slice (some ⟨0, 0, some 0⟩) 0 0)), (1, (.slice (some ⟨0, 0, some 0⟩) 0 0))]), ⟨0, 1, []⟩⟩
theorem WaR1  : WaEV (codeAt [0] BWa) WaS0 [0, 1] =
  some (.normal, WaS1) := by kernel_rfl
noncomputable def WaS2  : KSt := ⟨(frameL 26 [(0, (.slice (some ⟨0, 0, some 0⟩) 0 0)), (1, (.slice (some ⟨0, 0, some 0⟩) 0 0)), (10, (.bool false))]), ⟨0, 1, []⟩⟩
theorem WaR2  : WaEV (codeAt [1, 0, 0] BWa) WaS1 [0, 1, 10] =
  some (.normal, WaS2) := by kernel_rfl
theorem WaR3  : WaEV (codeAt [1, 0, 1, 1] BWa) WaS2 [0, 1] =
  some (.normal, WaS1) := by kernel_rfl
noncomputable def WaS3  : KSt := ⟨(frameL 26 [(0, (.slice (some ⟨0, 0, some 0⟩) 0 0)), (1, (.slice (some ⟨0, 0, some 0⟩) 0 0)), (5, (.int .i64 0))]), ⟨0, 1, []⟩⟩
theorem WaR4  : WaEV (codeAt [1, 1, 0, 0] BWa) WaS1 [0, 1, 5] =
  some (.normal, WaS3) := by kernel_rfl
noncomputable def WaS4  : KSt := ⟨(frameL 26 []), ⟨0, 1, []⟩⟩
theorem WaR5  : WaEV (codeAt [1, 1, 0, 1] BWa) WaS3 [] =
  some (.normal, WaS4) := by kernel_rfl
noncomputable def WaS5  : KSt := ⟨(frameL 26 [(4, (.bool true))]), ⟨0, 1, []⟩⟩
theorem WaR6  : WaEV (codeAt [1, 1, 1, 0] BWa) WaS4 [4] =
  some (.normal, WaS5) := by kernel_rfl
theorem Wat    {Q : Ex → St → Prop} (hq : Q .ret (KSt.low WaS5)) : Gets Try.prog (KH.low ⟨0, 1, []⟩) BWa (KSt.low WaS0) Q := by
  rw [WaC]; refine Gets.seq ?_
  refine Wago (WaR1) ?_
  rw [WaC1]; refine Gets.seq ?_
  rw [WaC1_0]; refine Gets.seq ?_
  refine Wago (WaR2) ?_
  rw [WaC1_0_1]; refine Gets.cond false (by kernel_rfl) (by kernel_rfl) ?_; show Gets _ _ (codeAt [1, 0, 1, 1] BWa) _ _
  refine Wago (WaR3) ?_
  rw [WaC1_1]; refine Gets.seq ?_
  rw [WaC1_1_0]; refine Gets.seq ?_
  refine Wago (WaR4) ?_
  refine Wago (WaR5) ?_
  rw [WaC1_1_1]; refine Gets.seq ?_
  refine Wago (WaR6) ?_
  rw [WaC1_1_1_1]; refine Gets.ev fitC.mix fitC.cfg (fitC.sound SoundC.no 14 0) 14 rfl (s' := KSt.low WaS5) (x := .ret) rfl ?_
  exact hq
noncomputable def BWb : Code := bodyOf Try.prog 14
theorem BWb_is : Try.f14.body = some BWb := by kernel_rfl
theorem BWb_ok : okCode Try.prog.globals.size BWb = true := by kernel_rfl
noncomputable abbrev WbEV (c : Code) (s : KSt) (lv : List Nat) : Option (Ex × KSt) := evCK Try.prog cfgC (runK Try.prog cfgC fsC noT 14 40) 14 c s (normC 1 lv)
theorem Wbgo {lv_ : List Nat} {co_ : Code} {st_ s' : KSt} {x : Ex} {Q : Ex → St → Prop} {of2 : Nat} {l2 : List Int} {e2 : TypeId} (hE_ : WbEV co_ st_ lv_ = some (x, s')) (hq_ : Q x s'.low) (hok_ : okCode Try.prog.globals.size co_ = true := by kernel_rfl) : Gets Try.prog (KH.low ⟨1, 1, [(0, 0, .tail of2 .u64 l2 e2)]⟩) co_ st_.low Q := Gets.ofN fitC SoundC.no AgreeT.no 14 40 hok_ hE_ hq_
theorem WbeX {v : Value} {b c : Bool} (h : v = .bool b) (hb : b = c) : v = .bool c := by rw [h, hb]
theorem WbC : BWb = .seq (codeAt [0] BWb) (codeAt [1] BWb) := by kernel_rfl
theorem WbC1 : (codeAt [1] BWb) = .seq (codeAt [1, 0] BWb) (codeAt [1, 1] BWb) := by kernel_rfl
theorem WbC1_0 : (codeAt [1, 0] BWb) = .seq (codeAt [1, 0, 0] BWb) (codeAt [1, 0, 1] BWb) := by kernel_rfl
theorem WbC1_0_1 : (codeAt [1, 0, 1] BWb) = .cond (.tmp 10) (codeAt [1, 0, 1, 0] BWb) (codeAt [1, 0, 1, 1] BWb) := by kernel_rfl
theorem WbC1_1 : (codeAt [1, 1] BWb) = .seq (codeAt [1, 1, 0] BWb) (codeAt [1, 1, 1] BWb) := by kernel_rfl
theorem WbC1_1_0 : (codeAt [1, 1, 0] BWb) = .seq (codeAt [1, 1, 0, 0] BWb) (codeAt [1, 1, 0, 1] BWb) := by kernel_rfl
theorem WbC1_1_1 : (codeAt [1, 1, 1] BWb) = .seq (codeAt [1, 1, 1, 0] BWb) (codeAt [1, 1, 1, 1] BWb) := by kernel_rfl
theorem WbC1_1_1_1 : (codeAt [1, 1, 1, 1] BWb) = .ret := by kernel_rfl
theorem WbC1_0_1_0 : (codeAt [1, 0, 1, 0] BWb) = .seq (codeAt [1, 0, 1, 0, 0] BWb) (codeAt [1, 0, 1, 0, 1] BWb) := by kernel_rfl
theorem WbC1_0_1_0_1 : (codeAt [1, 0, 1, 0, 1] BWb) = .ret := by kernel_rfl
noncomputable def WbS0 (of2 : Nat) (m : Nat) (c2 : Nat) (l2 : List Int) (e2 : TypeId) : KSt := (firstK [(.slice (some ⟨0, 0, some 0⟩) 0 0), (.slice (some ⟨0, of2, none⟩) m c2)] 26 ⟨1, 1, [(0, 0, .tail of2 .u64 l2 e2)]⟩)
noncomputable def WbS1 (of2 : Nat) (m : Nat) (c2 : Nat) (l2 : List Int) (e2 : TypeId) : KSt := ⟨(frameL 26 [(0, (.slice (some ⟨0, 0, some 0⟩) 0 0)), (1, (.slice (some ⟨0, of2, none⟩) m c2))]), ⟨1, 1, [(0, 0, .tail of2 .u64 l2 e2)]⟩⟩
theorem WbR1 (of2 : Nat) (m : Nat) (c2 : Nat) (l2 : List Int) (e2 : TypeId) : WbEV (codeAt [0] BWb) (WbS0 of2 m c2 l2 e2) [0, 1] =
  some (.normal, (WbS1 of2 m c2 l2 e2)) := by kernel_rfl
noncomputable def WbS2 (of2 : Nat) (m : Nat) (c2 : Nat) (l2 : List Int) (e2 : TypeId) : KSt := ⟨(frameL 26 [(0, (.slice (some ⟨0, 0, some 0⟩) 0 0)), (1, (.slice (some ⟨0, of2, none⟩) m c2)), (10, (.bool (0 != ((m : Nat) : Int))))]), ⟨1, 1, [(0, 0, .tail of2 .u64 l2 e2)]⟩⟩
theorem WbR2 (of2 : Nat) (m : Nat) (c2 : Nat) (l2 : List Int) (e2 : TypeId) : WbEV (codeAt [1, 0, 0] BWb) (WbS1 of2 m c2 l2 e2) [0, 1, 10] =
  some (.normal, (WbS2 of2 m c2 l2 e2)) := by kernel_rfl
theorem WbR3 (of2 : Nat) (m : Nat) (c2 : Nat) (l2 : List Int) (e2 : TypeId) : WbEV (codeAt [1, 0, 1, 1] BWb) (WbS2 of2 m c2 l2 e2) [0, 1] =
  some (.normal, (WbS1 of2 m c2 l2 e2)) := by kernel_rfl
noncomputable def WbS3 (of2 : Nat) (m : Nat) (c2 : Nat) (l2 : List Int) (e2 : TypeId) : KSt := ⟨(frameL 26 [(0, (.slice (some ⟨0, 0, some 0⟩) 0 0)), (1, (.slice (some ⟨0, of2, none⟩) m c2)), (5, (.int .i64 0))]), ⟨1, 1, [(0, 0, .tail of2 .u64 l2 e2)]⟩⟩
theorem WbR4 (of2 : Nat) (m : Nat) (c2 : Nat) (l2 : List Int) (e2 : TypeId) : WbEV (codeAt [1, 1, 0, 0] BWb) (WbS1 of2 m c2 l2 e2) [0, 1, 5] =
  some (.normal, (WbS3 of2 m c2 l2 e2)) := by kernel_rfl
noncomputable def WbS4 (of2 : Nat) (l2 : List Int) (e2 : TypeId) : KSt := ⟨(frameL 26 []), ⟨1, 1, [(0, 0, .tail of2 .u64 l2 e2)]⟩⟩
theorem WbR5 (of2 : Nat) (m : Nat) (c2 : Nat) (l2 : List Int) (e2 : TypeId) : WbEV (codeAt [1, 1, 0, 1] BWb) (WbS3 of2 m c2 l2 e2) [] =
  some (.normal, (WbS4 of2 l2 e2)) := by kernel_rfl
noncomputable def WbS5 (of2 : Nat) (l2 : List Int) (e2 : TypeId) : KSt := ⟨(frameL 26 [(4, (.bool true))]), ⟨1, 1, [(0, 0, .tail of2 .u64 l2 e2)]⟩⟩
theorem WbR6 (of2 : Nat) (l2 : List Int) (e2 : TypeId) : WbEV (codeAt [1, 1, 1, 0] BWb) (WbS4 of2 l2 e2) [4] =
  some (.normal, (WbS5 of2 l2 e2)) := by kernel_rfl
noncomputable def WbS6 (of2 : Nat) (l2 : List Int) (e2 : TypeId) : KSt := ⟨(frameL 26 [(4, (.bool false))]), ⟨1, 1, [(0, 0, .tail of2 .u64 l2 e2)]⟩⟩
theorem WbR7 (of2 : Nat) (m : Nat) (c2 : Nat) (l2 : List Int) (e2 : TypeId) : WbEV (codeAt [1, 0, 1, 0, 0] BWb) (WbS2 of2 m c2 l2 e2) [4] =
  some (.normal, (WbS6 of2 l2 e2)) := by kernel_rfl
theorem Wbt {m : Nat} {of2 : Nat} {l2 : List Int} {e2 : TypeId} {c2 : Nat} (h : m = 0)   {Q : Ex → St → Prop} (hq : Q .ret (KSt.low (WbS5 of2 l2 e2))) : Gets Try.prog (KH.low ⟨1, 1, [(0, 0, .tail of2 .u64 l2 e2)]⟩) BWb (KSt.low (WbS0 of2 m c2 l2 e2)) Q := by
  rw [WbC]; refine Gets.seq ?_
  refine Wbgo (WbR1 of2 m c2 l2 e2) ?_
  rw [WbC1]; refine Gets.seq ?_
  rw [WbC1_0]; refine Gets.seq ?_
  refine Wbgo (WbR2 of2 m c2 l2 e2) ?_
  rw [WbC1_0_1]; refine Gets.cond false (by kernel_rfl) (WbeX (b := (0 != ((m : Nat) : Int))) (by kernel_rfl) ((show (0 != ((m : Nat) : Int)) = false from ibne_f (by omega)))) ?_; show Gets _ _ (codeAt [1, 0, 1, 1] BWb) _ _
  refine Wbgo (WbR3 of2 m c2 l2 e2) ?_
  rw [WbC1_1]; refine Gets.seq ?_
  rw [WbC1_1_0]; refine Gets.seq ?_
  refine Wbgo (WbR4 of2 m c2 l2 e2) ?_
  refine Wbgo (WbR5 of2 m c2 l2 e2) ?_
  rw [WbC1_1_1]; refine Gets.seq ?_
  refine Wbgo (WbR6 of2 l2 e2) ?_
  rw [WbC1_1_1_1]; refine Gets.ev fitC.mix fitC.cfg (fitC.sound SoundC.no 14 0) 14 rfl (s' := KSt.low (WbS5 of2 l2 e2)) (x := .ret) rfl ?_
  exact hq
theorem Wbf {m : Nat} {of2 : Nat} {l2 : List Int} {e2 : TypeId} {c2 : Nat} (h : m ≠ 0)   {Q : Ex → St → Prop} (hq : Q .ret (KSt.low (WbS6 of2 l2 e2))) : Gets Try.prog (KH.low ⟨1, 1, [(0, 0, .tail of2 .u64 l2 e2)]⟩) BWb (KSt.low (WbS0 of2 m c2 l2 e2)) Q := by
  rw [WbC]; refine Gets.seq ?_
  refine Wbgo (WbR1 of2 m c2 l2 e2) ?_
  rw [WbC1]; refine Gets.seq ?_
  rw [WbC1_0]; refine Gets.seq ?_
  refine Wbgo (WbR2 of2 m c2 l2 e2) ?_
  rw [WbC1_0_1]; refine Gets.cond true (by kernel_rfl) (WbeX (b := (0 != ((m : Nat) : Int))) (by kernel_rfl) ((show (0 != ((m : Nat) : Int)) = true from ibne_t (by omega)))) ?_; show Gets _ _ (codeAt [1, 0, 1, 0] BWb) _ _
  rw [WbC1_0_1_0]; refine Gets.seq ?_
  refine Wbgo (WbR7 of2 m c2 l2 e2) ?_
  rw [WbC1_0_1_0_1]; refine Gets.ev fitC.mix fitC.cfg (fitC.sound SoundC.no 14 0) 14 rfl (s' := KSt.low (WbS6 of2 l2 e2)) (x := .ret) rfl ?_
  exact hq
noncomputable def BWc : Code := bodyOf Try.prog 14
theorem BWc_is : Try.f14.body = some BWc := by kernel_rfl
theorem BWc_ok : okCode Try.prog.globals.size BWc = true := by kernel_rfl
noncomputable abbrev WcEV (c : Code) (s : KSt) (lv : List Nat) : Option (Ex × KSt) := evCK Try.prog cfgC (runK Try.prog cfgC fsC noT 14 40) 14 c s (normC 1 lv)
theorem Wcgo {lv_ : List Nat} {co_ : Code} {st_ s' : KSt} {x : Ex} {Q : Ex → St → Prop} {off : Nat} {l : List Int} {e : TypeId} (hE_ : WcEV co_ st_ lv_ = some (x, s')) (hq_ : Q x s'.low) (hok_ : okCode Try.prog.globals.size co_ = true := by kernel_rfl) : Gets Try.prog (KH.low ⟨1, 1, [(0, 0, .tail off .u64 l e)]⟩) co_ st_.low Q := Gets.ofN fitC SoundC.no AgreeT.no 14 40 hok_ hE_ hq_
theorem WceX {v : Value} {b c : Bool} (h : v = .bool b) (hb : b = c) : v = .bool c := by rw [h, hb]
theorem WcC : BWc = .seq (codeAt [0] BWc) (codeAt [1] BWc) := by kernel_rfl
theorem WcC1 : (codeAt [1] BWc) = .seq (codeAt [1, 0] BWc) (codeAt [1, 1] BWc) := by kernel_rfl
theorem WcC1_0 : (codeAt [1, 0] BWc) = .seq (codeAt [1, 0, 0] BWc) (codeAt [1, 0, 1] BWc) := by kernel_rfl
theorem WcC1_0_1 : (codeAt [1, 0, 1] BWc) = .cond (.tmp 10) (codeAt [1, 0, 1, 0] BWc) (codeAt [1, 0, 1, 1] BWc) := by kernel_rfl
theorem WcC1_1 : (codeAt [1, 1] BWc) = .seq (codeAt [1, 1, 0] BWc) (codeAt [1, 1, 1] BWc) := by kernel_rfl
theorem WcC1_1_0 : (codeAt [1, 1, 0] BWc) = .seq (codeAt [1, 1, 0, 0] BWc) (codeAt [1, 1, 0, 1] BWc) := by kernel_rfl
theorem WcC1_1_1 : (codeAt [1, 1, 1] BWc) = .seq (codeAt [1, 1, 1, 0] BWc) (codeAt [1, 1, 1, 1] BWc) := by kernel_rfl
theorem WcC1_1_1_1 : (codeAt [1, 1, 1, 1] BWc) = .ret := by kernel_rfl
theorem WcC1_0_1_0 : (codeAt [1, 0, 1, 0] BWc) = .seq (codeAt [1, 0, 1, 0, 0] BWc) (codeAt [1, 0, 1, 0, 1] BWc) := by kernel_rfl
theorem WcC1_0_1_0_1 : (codeAt [1, 0, 1, 0, 1] BWc) = .ret := by kernel_rfl
noncomputable def WcS0 (off : Nat) (n : Nat) (c : Nat) (l : List Int) (e : TypeId) : KSt := (firstK [(.slice (some ⟨0, off, none⟩) n c), (.slice (some ⟨0, 0, some 0⟩) 0 0)] 26 ⟨1, 1, [(0, 0, .tail off .u64 l e)]⟩)
noncomputable def WcS1 (off : Nat) (n : Nat) (c : Nat) (l : List Int) (e : TypeId) : KSt := ⟨(frameL 26 [(0, (.slice (some ⟨0, off, none⟩) n c)), (1, (.slice (some ⟨0, 0, some 0⟩) 0 0))]), ⟨1, 1, [(0, 0, .tail off .u64 l e)]⟩⟩
theorem WcR1 (off : Nat) (n : Nat) (c : Nat) (l : List Int) (e : TypeId) : WcEV (codeAt [0] BWc) (WcS0 off n c l e) [0, 1] =
  some (.normal, (WcS1 off n c l e)) := by kernel_rfl
noncomputable def WcS2 (off : Nat) (n : Nat) (c : Nat) (l : List Int) (e : TypeId) : KSt := ⟨(frameL 26 [(0, (.slice (some ⟨0, off, none⟩) n c)), (1, (.slice (some ⟨0, 0, some 0⟩) 0 0)), (10, (.bool (((n : Nat) : Int) != 0)))]), ⟨1, 1, [(0, 0, .tail off .u64 l e)]⟩⟩
theorem WcR2 (off : Nat) (n : Nat) (c : Nat) (l : List Int) (e : TypeId) : WcEV (codeAt [1, 0, 0] BWc) (WcS1 off n c l e) [0, 1, 10] =
  some (.normal, (WcS2 off n c l e)) := by kernel_rfl
theorem WcR3 (off : Nat) (n : Nat) (c : Nat) (l : List Int) (e : TypeId) : WcEV (codeAt [1, 0, 1, 1] BWc) (WcS2 off n c l e) [0, 1] =
  some (.normal, (WcS1 off n c l e)) := by kernel_rfl
noncomputable def WcS3 (off : Nat) (n : Nat) (c : Nat) (l : List Int) (e : TypeId) : KSt := ⟨(frameL 26 [(0, (.slice (some ⟨0, off, none⟩) n c)), (1, (.slice (some ⟨0, 0, some 0⟩) 0 0)), (5, (.int .i64 0))]), ⟨1, 1, [(0, 0, .tail off .u64 l e)]⟩⟩
theorem WcR4 (off : Nat) (n : Nat) (c : Nat) (l : List Int) (e : TypeId) : WcEV (codeAt [1, 1, 0, 0] BWc) (WcS1 off n c l e) [0, 1, 5] =
  some (.normal, (WcS3 off n c l e)) := by kernel_rfl
noncomputable def WcS4 (off : Nat) (l : List Int) (e : TypeId) : KSt := ⟨(frameL 26 []), ⟨1, 1, [(0, 0, .tail off .u64 l e)]⟩⟩
theorem WcR5 (off : Nat) (n : Nat) (c : Nat) (l : List Int) (e : TypeId) : WcEV (codeAt [1, 1, 0, 1] BWc) (WcS3 off n c l e) [] =
  bif (decide (0 < ((n : Nat) : Int))) then
    if (0 : Int) ≤ 0 ∧ 0 < ((n : Nat) : Int) then
      bif (Nat.ble off (off + 0)) then
        obind (l[((off + 0) - off)]?) fun n1 =>
          none
      else
        none
    else
      none
  else
    some (.normal, (WcS4 off l e)) := by kernel_rfl
noncomputable def WcS5 (off : Nat) (l : List Int) (e : TypeId) : KSt := ⟨(frameL 26 [(4, (.bool true))]), ⟨1, 1, [(0, 0, .tail off .u64 l e)]⟩⟩
theorem WcR6 (off : Nat) (l : List Int) (e : TypeId) : WcEV (codeAt [1, 1, 1, 0] BWc) (WcS4 off l e) [4] =
  some (.normal, (WcS5 off l e)) := by kernel_rfl
noncomputable def WcS6 (off : Nat) (l : List Int) (e : TypeId) : KSt := ⟨(frameL 26 [(4, (.bool false))]), ⟨1, 1, [(0, 0, .tail off .u64 l e)]⟩⟩
theorem WcR7 (off : Nat) (n : Nat) (c : Nat) (l : List Int) (e : TypeId) : WcEV (codeAt [1, 0, 1, 0, 0] BWc) (WcS2 off n c l e) [4] =
  some (.normal, (WcS6 off l e)) := by kernel_rfl
theorem Wct {n : Nat} {off : Nat} {l : List Int} {e : TypeId} {c : Nat} (h : n = 0)   {Q : Ex → St → Prop} (hq : Q .ret (KSt.low (WcS5 off l e))) : Gets Try.prog (KH.low ⟨1, 1, [(0, 0, .tail off .u64 l e)]⟩) BWc (KSt.low (WcS0 off n c l e)) Q := by
  rw [WcC]; refine Gets.seq ?_
  refine Wcgo (WcR1 off n c l e) ?_
  rw [WcC1]; refine Gets.seq ?_
  rw [WcC1_0]; refine Gets.seq ?_
  refine Wcgo (WcR2 off n c l e) ?_
  rw [WcC1_0_1]; refine Gets.cond false (by kernel_rfl) (WceX (b := (((n : Nat) : Int) != 0)) (by kernel_rfl) ((show (((n : Nat) : Int) != 0) = false from ibne_f (by omega)))) ?_; show Gets _ _ (codeAt [1, 0, 1, 1] BWc) _ _
  refine Wcgo (WcR3 off n c l e) ?_
  rw [WcC1_1]; refine Gets.seq ?_
  rw [WcC1_1_0]; refine Gets.seq ?_
  refine Wcgo (WcR4 off n c l e) ?_
  refine Wcgo (x := .normal) (s' := (WcS4 off l e)) ((WcR5 off n c l e).trans (by rw [condF (decide_eq_false (by omega))])) ?_
  rw [WcC1_1_1]; refine Gets.seq ?_
  refine Wcgo (WcR6 off l e) ?_
  rw [WcC1_1_1_1]; refine Gets.ev fitC.mix fitC.cfg (fitC.sound SoundC.no 14 0) 14 rfl (s' := KSt.low (WcS5 off l e)) (x := .ret) rfl ?_
  exact hq
theorem Wcf {n : Nat} {off : Nat} {l : List Int} {e : TypeId} {c : Nat} (h : n ≠ 0)   {Q : Ex → St → Prop} (hq : Q .ret (KSt.low (WcS6 off l e))) : Gets Try.prog (KH.low ⟨1, 1, [(0, 0, .tail off .u64 l e)]⟩) BWc (KSt.low (WcS0 off n c l e)) Q := by
  rw [WcC]; refine Gets.seq ?_
  refine Wcgo (WcR1 off n c l e) ?_
  rw [WcC1]; refine Gets.seq ?_
  rw [WcC1_0]; refine Gets.seq ?_
  refine Wcgo (WcR2 off n c l e) ?_
  rw [WcC1_0_1]; refine Gets.cond true (by kernel_rfl) (WceX (b := (((n : Nat) : Int) != 0)) (by kernel_rfl) ((show (((n : Nat) : Int) != 0) = true from ibne_t (by omega)))) ?_; show Gets _ _ (codeAt [1, 0, 1, 0] BWc) _ _
  rw [WcC1_0_1_0]; refine Gets.seq ?_
  refine Wcgo (WcR7 off n c l e) ?_
  rw [WcC1_0_1_0_1]; refine Gets.ev fitC.mix fitC.cfg (fitC.sound SoundC.no 14 0) 14 rfl (s' := KSt.low (WcS6 off l e)) (x := .ret) rfl ?_
  exact hq
inductive ZInv (l : List Int) (k : Int) (n off c : Nat) (e : TypeId) (A : List Int) : Nat → KSt → Prop
  | at_ (j : Int) (hj : 0 ≤ j) (hjr : j ≤ 8 * (n : Int) - k) (hz : ∀ p : Nat, p < j.toNat → A.getD (k.toNat + p) 0 = 0) : ZInv l k n off c e A (8 * (n : Int) - j).toNat (TS27 k n j A off l e)
theorem loopZ (l : List Int) (k : Int) (n off c : Nat) (e : TypeId) (A : List Int) (hl : l.length = n) (h : 0 ≤ k) (hk8 : k < 8 * (n : Int)) (hn : n ≤ 1000) (hm : manyV k = ((n : Nat) : Int)) (hA : A = bytesF byteV l (8 * n)) (z : Nat) (t : KSt) (hI : ZInv l k n off c e A z t) : Gets Try.prog (KH.low ⟨1, 1, [(0, 0, .tail off .u64 l e)]⟩) (codeAt [1, 1, 1, 1, 0, 1] BT) t.low (onN (fun s => Gets Try.prog (KH.low ⟨1, 1, [(0, 0, .tail off .u64 l e)]⟩) (codeAt [1, 1, 1, 1, 1] BT) s ((EndsR Try.prog Try.f12 (.tuple #[.string (Prod.fst (textA l k)), .bool (Prod.snd (textA l k))]) [.tail off .u64 l e] [] []))) ((EndsR Try.prog Try.f12 (.tuple #[.string (Prod.fst (textA l k)), .bool (Prod.snd (textA l k))]) [.tail off .u64 l e] [] []))) := by
  rw [TC1_1_1_1_0_1, TC1_1_1_1_0_1_0]
  refine Gets.loopG (fun z t => ZInv l k n off c e A z t) ?_ _ _ hI
  clear hI z t
  intro z t hI
  have hlen : A.length = 8 * n := by rw [hA, bytesF_len]
  cases hI with
  | at_ j hj hjr hz =>
    by_cases hx : j = 8 * (n : Int) - k
    · refine Txz h hk8 hn hlen hj hx ?_
      refine ⟨fun _ => ?_, fun h => by cases h⟩
      have hT : textA l k = (bytesOfNums (List.take k.toNat A), true) := by
        unfold textA
        rw [if_neg (by rw [hl]; omega), hl, ← hA, zerosF_t (fun p hp => hz p (by omega))]
        rfl
      exact Tfi h (by omega) hn hlen (by omega) (EndsR.ret (l := [.string (bytesOfNums (List.take (k.toNat - 0) (List.drop 0 A))), .bool true]) (by kernel_rfl) (by rw [hT]; rfl) (Fits.n0 rfl rfl (show (1 : Nat) ≤ 1 by decide)))
    · by_cases h0 : A.getD (k.toNat + j.toNat) 0 = 0
      · refine Tze h hk8 hn hlen hj (by omega) (by rw [Nat.zero_add, Nat.mul_one, Nat.mul_one]; exact h0) ?_
        refine ⟨_, _, ?_, rfl, .at_ (j + 1) (by omega) (by omega) (fun p hp => ?_)⟩
        · omega
        · by_cases hp2 : p < j.toNat
          · exact hz p hp2
          · rw [show p = j.toNat by omega]; exact h0
      · refine Tnz h hk8 hn hlen hj (by omega) (by rw [Nat.zero_add, Nat.mul_one, Nat.mul_one]; exact h0) ?_
        have hT : textA l k = ((⟨#[]⟩ : ByteArray), false) := by
          unfold textA
          rw [if_neg (by rw [hl]; omega), hl, ← hA, zerosF_f (p := j.toNat) (by omega) h0]
          rfl
        exact (EndsR.ret (l := [.string (⟨#[]⟩ : ByteArray), .bool false]) (by kernel_rfl) (by rw [hT]; rfl) (Fits.n0 rfl rfl (show (1 : Nat) ≤ 1 by decide)))
inductive TInv (l : List Int) (k : Int) (n off c : Nat) (e : TypeId) : Nat → KSt → Prop
  | at_ (j : Int) (q : Nat) (A : List Int) (hj : 0 ≤ j) (hjn : j ≤ (n : Int)) (hq : q = 8 * j.toNat) (hA : A.length = 8 * n) (hB : A.take q = bytesF byteV l q) : TInv l k n off c e ((n : Int) - j).toNat (TS8 k q n off c j A l e)
inductive TJnv (l : List Int) (k : Int) (n off c : Nat) (e : TypeId) (j : Int) (w : Int) : Nat → KSt → Prop
  | at_ (i : Int) (q : Nat) (A : List Int) (hi : 0 ≤ i) (hi8 : i ≤ 8) (hq : q = 8 * j.toNat + i.toNat) (hA : A.length = 8 * n) (hB : A.take q = bytesF byteV l q) : TJnv l k n off c e j w (8 - i).toNat (TS13 k q n w off c j i A l e)
theorem loopT (l : List Int) (k : Int) (n off c : Nat) (e : TypeId) (hl : l.length = n) (h : 0 ≤ k) (hn : n ≤ 1000) (hk8 : k ≤ 8 * (n : Int)) (hm : manyV k = ((n : Nat) : Int)) (z : Nat) (t : KSt) (hI : TInv l k n off c e z t) : Gets Try.prog (KH.low ⟨1, 1, [(0, 0, .tail off .u64 l e)]⟩) (codeAt [1, 1, 1, 0, 1] BT) t.low (onN (fun s => Gets Try.prog (KH.low ⟨1, 1, [(0, 0, .tail off .u64 l e)]⟩) (codeAt [1, 1, 1, 1] BT) s ((EndsR Try.prog Try.f12 (.tuple #[.string (Prod.fst (textA l k)), .bool (Prod.snd (textA l k))]) [.tail off .u64 l e] [] []))) ((EndsR Try.prog Try.f12 (.tuple #[.string (Prod.fst (textA l k)), .bool (Prod.snd (textA l k))]) [.tail off .u64 l e] [] []))) := by
  rw [TC1_1_1_0_1, TC1_1_1_0_1_0]
  refine Gets.loopG (fun z t => TInv l k n off c e z t) ?_ _ _ hI
  clear hI z t
  intro z t hI
  cases hI with
  | at_ j q A hj hjn hq hA hB =>
    by_cases hx : j = (n : Int)
    · refine Tx hx ?_
      refine ⟨fun _ => ?_, fun h => by cases h⟩
      obtain rfl : q = 8 * n := by omega
      have hAA : A = bytesF byteV l (8 * n) := by rw [← hB, List.take_of_length_le (by omega)]
      show Gets _ _ (codeAt [1, 1, 1, 1] BT) (KSt.low (TS23 k n off c j A l e)) _
      by_cases hk : k = 8 * (n : Int)
      · refine Ts0 h hn hk ?_
        rw [TC1_1_1_1_0_1, TC1_1_1_1_0_1_0]
        refine Gets.loopG (fun z t => z = 0 ∧ t = (TS24 k n A off l e)) ?_ 0 _ ⟨rfl, rfl⟩
        rintro z t ⟨rfl, rfl⟩
        refine Tx0 ?_
        refine ⟨fun _ => ?_, fun h => by cases h⟩
        have hz0 : 8 * n - k.toNat = 0 := by omega
        have hT : textA l k = (bytesOfNums (List.take k.toNat A), true) := by
          unfold textA
          rw [if_neg (by rw [hl]; omega), hl, ← hAA, hz0]
          rfl
        by_cases hn0 : n = 0
        · have hk0 : k = 0 := by omega
          refine Tfin hk0 hn0 (EndsR.ret (l := [.string (⟨#[]⟩ : ByteArray), .bool true]) (by kernel_rfl) (by rw [hT, hk0]; rfl) (Fits.n0 rfl rfl (show (1 : Nat) ≤ 1 by decide)))
        · exact Tfi0 h hk8 hn hA (by omega) (EndsR.ret (l := [.string (bytesOfNums (List.take (k.toNat - 0) (List.drop 0 A))), .bool true]) (by kernel_rfl) (by rw [hT]; rfl) (Fits.n0 rfl rfl (show (1 : Nat) ≤ 1 by decide)))
      · refine Ts1 h hn (by omega) ?_
        exact loopZ l k n off c e A hl h (by omega) hn hm hAA _ _ (.at_ 0 (by omega) (by omega) (fun p hp => absurd hp (by omega)))
    · refine Trd hj (by omega) hl ?_
      rw [TC1_1_1_0_1_0_0_1_1_0_0_1_1, TC1_1_1_0_1_0_0_1_1_0_0_1_1_0]
      refine Gets.loopG (fun z t => TJnv l k n off c e j (l.getD (j.toNat * 1) 0) z t) ?_ _ _ (TJnv.at_ 0 q A (by omega) (by omega) (by omega) hA hB)
      clear hq hA hB
      rintro z t ⟨i, q, A, hi, hi8, hq, hA, hB⟩
      by_cases h8 : i = 8
      · refine Tex h8 ?_
        refine ⟨fun _ => ?_, fun h => by cases h⟩
        show Gets _ _ (codeAt [1, 1, 1, 0, 1, 0, 0, 1, 1, 1] BT) _ _
        refine Tnx hj (by omega) ?_
        exact ⟨_, _, by omega, rfl, .at_ (j + 1) q A (by omega) (by omega) (by omega) hA hB⟩
      · refine Tap hi (by omega) hA (by omega) hn ?_
        refine ⟨_, _, by omega, rfl, .at_ (i + 1) (q + 1) _ (by omega) (by omega) (by omega) (by simp; omega) ?_⟩
        refine (take_put (by omega)).trans ?_
        rw [hB, bytesF_step, show q / 8 = j.toNat by omega, show ((q % 8 : Nat) : Int) = i by omega, Nat.mul_one]
theorem many_le {k n : Int} (h : 0 ≤ k) (hm : manyV k = n) : k ≤ 8 * n ∧ 8 * n - 8 < k := by unfold manyV at hm; split at hm <;> omega
theorem text_does (l : List Int) (k : Int) (n off c : Nat) (e : TypeId) (hl : l.length = n) (hn : n ≤ 1000) (hk : k ≤ 9223372036854775807) : DoesC Try.prog 12 [(.slice (some ⟨0, off, none⟩) n c), (.int .i64 k)] (mkH [.tail off .u64 l e]).low (.tuple #[.string (Prod.fst (textA l k)), .bool (Prod.snd (textA l k))]) (effK (mkH [.tail off .u64 l e]) [] []).low := by
  refine EndsR.does Try.func12 BT_is (by rw [noVars]; exact Nat.zero_le _) ?_
  show Gets Try.prog (KH.low ⟨1, 1, [(0, 0, .tail off .u64 l e)]⟩) BT (KSt.low (TS0 off n c k l e)) _
  by_cases h : k < 0
  · exact Tlo h (EndsR.ret (l := [.string (⟨#[]⟩ : ByteArray), .bool false]) (by kernel_rfl) (by rw [textA_no (.inl h)]; rfl) (Fits.n0 rfl rfl (show (1 : Nat) ≤ 1 by decide)))
  by_cases hne : manyV k = (n : Int)
  · refine Tpre hk (by omega) hn hne (wrap_i64_id (by omega) (by omega)) ?_
    exact loopT l k n off c e hl (by omega) hn (many_le (by omega) hne).1 hne ((n : Int) - 0).toNat (TS8 k (0) n off c (0) (List.replicate (8 * n) 0) l e) (.at_ 0 0 _ (by omega) (by omega) rfl (by simp) rfl)
  · exact Tne hk (by omega) hn hne (EndsR.ret (l := [.string (⟨#[]⟩ : ByteArray), .bool false]) (by kernel_rfl) (by rw [textA_no (.inr (by rw [hl]; exact hne))]; rfl) (Fits.n0 rfl rfl (show (1 : Nat) ≤ 1 by decide)))
theorem text0_does (k : Int) (hk : k ≤ 9223372036854775807) : DoesC Try.prog 12 [(.slice (some ⟨0, 0, some 0⟩) 0 0), (.int .i64 k)] (mkH []).low (.tuple #[.string (Prod.fst (textA [] k)), .bool (Prod.snd (textA [] k))]) (effK (mkH []) [] []).low := by
  refine EndsR.does Try.func12 BT0_is (by rw [noVars]; exact Nat.zero_le _) ?_
  show Gets Try.prog (KH.low ⟨0, 1, []⟩) BT0 (KSt.low (T0S0 k)) _
  by_cases h : k < 0
  · exact T0lo h (EndsR.ret (l := [.string (⟨#[]⟩ : ByteArray), .bool false]) (by kernel_rfl) (by rw [textA_no (.inl h)]; rfl) (Fits.n0 rfl rfl (show (0 : Nat) ≤ 0 by decide)))
  by_cases hne : manyV k = 0
  · have hk0 : k = 0 := by have := many_le (by omega) hne; omega
    exact T0z hk0 hne (EndsR.ret (l := [.string (⟨#[]⟩ : ByteArray), .bool true]) (by kernel_rfl) (by rw [show textA [] k = ((⟨#[]⟩ : ByteArray), true) from by unfold textA; rw [if_neg (by rw [hne]; simp; omega), hk0]; rfl]; rfl) (Fits.n0 rfl rfl (show (0 : Nat) ≤ 0 by decide)))
  · exact T0ne hk (by omega) hne (EndsR.ret (l := [.string (⟨#[]⟩ : ByteArray), .bool false]) (by kernel_rfl) (by rw [textA_no (.inr hne)]; rfl) (Fits.n0 rfl rfl (show (0 : Nat) ≤ 0 by decide)))
inductive UInv (l : List Int) (k : Int) (n off c : Nat) (e : TypeId) : Nat → KSt → Prop
  | at_ (i : Int) (q : Nat) (A : List Int) (hi : 0 ≤ i) (hin : i ≤ 8 * (n : Int)) (hq : q = min i.toNat k.toNat) (hA : A = bytesF byteRV l q) (hz : ∀ p : Nat, k.toNat + p < i.toNat → byteRV (l.getD ((k.toNat + p) / 8) 0) (((k.toNat + p) % 8 : Nat) : Int) = 0) : UInv l k n off c e (8 * (n : Int) - i).toNat (US7 off n c k q i A l e)
theorem loopU (l : List Int) (k : Int) (n off c : Nat) (e : TypeId) (hl : l.length = n) (h : 0 ≤ k) (hn : n ≤ 1000) (hk8 : k ≤ 8 * (n : Int)) (hk9 : 8 * (n : Int) - 8 < k) (z : Nat) (t : KSt) (hI : UInv l k n off c e z t) : Gets Try.prog (KH.low ⟨1, 1, [(0, 0, .tail off .u64 l e)]⟩) (codeAt [1, 1, 1, 0, 1] BU) t.low (onN (fun s => Gets Try.prog (KH.low ⟨1, 1, [(0, 0, .tail off .u64 l e)]⟩) (codeAt [1, 1, 1, 1] BU) s ((EndsR Try.prog Try.f13 (.tuple #[.string (Prod.fst (textR l k)), .bool (Prod.snd (textR l k))]) [.tail off .u64 l e] [] []))) ((EndsR Try.prog Try.f13 (.tuple #[.string (Prod.fst (textR l k)), .bool (Prod.snd (textR l k))]) [.tail off .u64 l e] [] []))) := by
  rw [UC1_1_1_0_1, UC1_1_1_0_1_0]
  refine Gets.loopG (fun z t => UInv l k n off c e z t) ?_ _ _ hI
  clear hI z t
  intro z t hI
  cases hI with
  | at_ i q A hi hin hq hA hz =>
    have hlen : A.length = q := by rw [hA, bytesF_len]
    by_cases hx : i = 8 * (n : Int)
    · refine Ux hn hx ?_
      refine ⟨fun _ => ?_, fun h => by cases h⟩
      have hqk : q = k.toNat := by omega
      have hT : textR l k = (bytesOfNums A, true) := by
        unfold textR
        rw [if_neg (by rw [hl]; omega), hl, zerosR_t (fun p hp => hz p (by omega)), hA, hqk]
        rfl
      by_cases hq0 : q = 0
      · subst hq0
        obtain rfl : A = [] := List.eq_nil_of_length_eq_zero hlen
        exact Ufi0 (EndsR.ret (l := [.string (⟨#[]⟩ : ByteArray), .bool true]) (by kernel_rfl) (by rw [hT]; rfl) (Fits.n0 rfl rfl (show (1 : Nat) ≤ 1 by decide)))
      · have hAq : List.take q (List.drop 0 A) = A := by rw [List.drop_zero, List.take_of_length_le (by omega)]
        exact Ufi hlen (by omega) (EndsR.ret (l := [.string (bytesOfNums (List.take q (List.drop 0 A))), .bool true]) (by kernel_rfl) (by rw [hT, hAq]; rfl) (Fits.n0 rfl rfl (show (1 : Nat) ≤ 1 by decide)))
    · refine Uup h hn hk8 hk9 hl hi (by omega) ?_
      obtain ⟨v, hv⟩ : ∃ v, v = byteRV (l.getD ((Int.toNat (i / 8)) * 1) 0) (i % 8) := ⟨_, rfl⟩
      show Gets _ _ (codeAt [1, 1, 1, 0, 1, 0, 0, 1, 0, 0, 1] BU) (KSt.low (US12 off n c k q i (byteRV (l.getD ((Int.toNat (i / 8)) * 1) 0) (i % 8)) A l e)) _
      rw [← hv]
      have hv2 : ∀ p : Nat, p = i.toNat → byteRV (l.getD (p / 8) 0) ((p % 8 : Nat) : Int) = v := fun p hp => by
        rw [hv, Nat.mul_one, show Int.toNat (i / 8) = p / 8 by omega, show ((p % 8 : Nat) : Int) = i % 8 by omega]
      by_cases hki : k ≤ i
      · by_cases hv0 : v = 0
        · refine Usk hki hv0 ?_
          show Gets _ _ (codeAt [1, 1, 1, 0, 1, 0, 0, 1, 1] BU) _ _
          refine Uinc hi (by omega) ?_
          refine ⟨_, _, by omega, rfl, .at_ (i + 1) q A (by omega) (by omega) (by omega) hA (fun p hp => ?_)⟩
          by_cases hp2 : k.toNat + p < i.toNat
          · exact hz p hp2
          · rw [hv2 _ (by omega)]; exact hv0
        · refine Ubad hki hv0 ?_
          have hT : textR l k = ((⟨#[]⟩ : ByteArray), false) := by
            unfold textR
            rw [if_neg (by rw [hl]; omega), hl, zerosR_f (p := i.toNat - k.toNat) (by omega) (by rw [hv2 _ (by omega)]; exact hv0)]
            rfl
          exact (EndsR.ret (l := [.string (⟨#[]⟩ : ByteArray), .bool false]) (by kernel_rfl) (by rw [hT]; rfl) (Fits.n0 rfl rfl (show (1 : Nat) ≤ 1 by decide)))
      · have hqi : q = i.toNat := by omega
        have hst : bytesF byteRV l (q + 1) = A ++ [IntKind.wrap .u8 v] := by rw [bytesF_step, hv2 q hqi, ← hA]
        by_cases hq0 : q = 0
        · subst hq0
          obtain rfl : A = [] := List.eq_nil_of_length_eq_zero hlen
          refine Upu0 (by omega) ?_
          show Gets _ _ (codeAt [1, 1, 1, 0, 1, 0, 0, 1, 1] BU) (KSt.low (US7 off n c k (0 + 1) i ([IntKind.wrap .u8 v]) l e)) _
          refine Uinc hi (by omega) ?_
          exact ⟨_, _, by omega, rfl, .at_ (i + 1) (0 + 1) _ (by omega) (by omega) (by omega) hst.symm (fun p hp => absurd hp (by omega))⟩
        · refine Upu (by omega) hlen (by omega) (by omega) ?_
          show Gets _ _ (codeAt [1, 1, 1, 0, 1, 0, 0, 1, 1] BU) (KSt.low (US7 off n c k (q + 1) i (List.take q A ++ [IntKind.wrap .u8 v]) l e)) _
          refine Uinc hi (by omega) ?_
          exact ⟨_, _, by omega, rfl, .at_ (i + 1) (q + 1) _ (by omega) (by omega) (by omega) (by rw [hst, List.take_of_length_le (by omega)]) (fun p hp => absurd hp (by omega))⟩
theorem textR_does (l : List Int) (k : Int) (n off c : Nat) (e : TypeId) (hl : l.length = n) (hn : n ≤ 1000) : DoesC Try.prog 13 [(.slice (some ⟨0, off, none⟩) n c), (.int .i64 k)] (mkH [.tail off .u64 l e]).low (.tuple #[.string (Prod.fst (textR l k)), .bool (Prod.snd (textR l k))]) (effK (mkH [.tail off .u64 l e]) [] []).low := by
  refine EndsR.does Try.func13 BU_is (by rw [noVars]; exact Nat.zero_le _) ?_
  show Gets Try.prog (KH.low ⟨1, 1, [(0, 0, .tail off .u64 l e)]⟩) BU (KSt.low (US0 off n c k l e)) _
  by_cases h : k < 0
  · exact Ulo h (EndsR.ret (l := [.string (⟨#[]⟩ : ByteArray), .bool false]) (by kernel_rfl) (by rw [textR_no (.inl (.inl h))]; rfl) (Fits.n0 rfl rfl (show (1 : Nat) ≤ 1 by decide)))
  by_cases h1 : 8 * (n : Int) < k
  · exact Uhi (by omega) hn h1 (EndsR.ret (l := [.string (⟨#[]⟩ : ByteArray), .bool false]) (by kernel_rfl) (by rw [textR_no (.inl (.inr (by rw [hl]; exact h1)))]; rfl) (Fits.n0 rfl rfl (show (1 : Nat) ≤ 1 by decide)))
  by_cases h2 : k ≤ 8 * (n : Int) - 8
  · exact Usm (by omega) hn (by omega) h2 (EndsR.ret (l := [.string (⟨#[]⟩ : ByteArray), .bool false]) (by kernel_rfl) (by rw [textR_no (.inr (by rw [hl]; exact h2))]; rfl) (Fits.n0 rfl rfl (show (1 : Nat) ≤ 1 by decide)))
  · refine Upre (by omega) hn (by omega) (by omega) ?_
    exact loopU l k n off c e hl (by omega) hn (by omega) (by omega) (8 * (n : Int) - 0).toNat (US7 off n c k (0) (0) ([]) l e) (.at_ 0 0 [] (by omega) (by omega) (by omega) rfl (fun p hp => absurd hp (by omega)))
theorem textR0_does (k : Int) : DoesC Try.prog 13 [(.slice (some ⟨0, 0, some 0⟩) 0 0), (.int .i64 k)] (mkH []).low (.tuple #[.string (Prod.fst (textR [] k)), .bool (Prod.snd (textR [] k))]) (effK (mkH []) [] []).low := by
  refine EndsR.does Try.func13 BU0_is (by rw [noVars]; exact Nat.zero_le _) ?_
  show Gets Try.prog (KH.low ⟨0, 1, []⟩) BU0 (KSt.low (U0S0 k)) _
  by_cases h : k < 0
  · exact U0lo h (EndsR.ret (l := [.string (⟨#[]⟩ : ByteArray), .bool false]) (by kernel_rfl) (by rw [textR_no (.inl (.inl h))]; rfl) (Fits.n0 rfl rfl (show (0 : Nat) ≤ 0 by decide)))
  by_cases h1 : 0 < k
  · exact U0hi h1 (EndsR.ret (l := [.string (⟨#[]⟩ : ByteArray), .bool false]) (by kernel_rfl) (by rw [textR_no (.inl (.inr h1))]; rfl) (Fits.n0 rfl rfl (show (0 : Nat) ≤ 0 by decide)))
  · have hk0 : k = 0 := by omega
    exact U0z hk0 (EndsR.ret (l := [.string (⟨#[]⟩ : ByteArray), .bool true]) (by kernel_rfl) (by rw [show textR [] k = ((⟨#[]⟩ : ByteArray), true) from by rw [hk0]; unfold textR; rw [if_neg (by simp)]; rfl]; rfl) (Fits.n0 rfl rfl (show (0 : Nat) ≤ 0 by decide)))
inductive EInv (l l2 : List Int) (n m off of2 c c2 : Nat) (e e2 : TypeId) : Nat → KSt → Prop
  | at_ (i : Int) (hi : 0 ≤ i) (hin : i ≤ (n : Int)) (hz : ∀ p : Nat, p < i.toNat → l.getD p 0 = l2.getD p 0) : EInv l l2 n m off of2 c c2 e e2 ((n : Int) - i).toNat (WqS5 off n c of2 m c2 i l e l2 e2)
theorem loopE (l l2 : List Int) (n m off of2 c c2 : Nat) (e e2 : TypeId) (hl : l.length = n) (hl2 : l2.length = m) (hn : n = m) (hb : n ≤ 100000) (z : Nat) (t : KSt) (hI : EInv l l2 n m off of2 c c2 e e2 z t) : Gets Try.prog (KH.low ⟨2, 1, [(0, 0, .tail off .u64 l e), (1, 0, .tail of2 .u64 l2 e2)]⟩) (codeAt [1, 1, 0, 1] BWq) t.low (onN (fun s => Gets Try.prog (KH.low ⟨2, 1, [(0, 0, .tail off .u64 l e), (1, 0, .tail of2 .u64 l2 e2)]⟩) (codeAt [1, 1, 1] BWq) s ((EndsR Try.prog Try.f14 (.bool (decide (l = l2))) [.tail off .u64 l e, .tail of2 .u64 l2 e2] [] []))) ((EndsR Try.prog Try.f14 (.bool (decide (l = l2))) [.tail off .u64 l e, .tail of2 .u64 l2 e2] [] []))) := by
  rw [WqC1_1_0_1, WqC1_1_0_1_0]
  refine Gets.loopG (fun z t => EInv l l2 n m off of2 c c2 e e2 z t) ?_ _ _ hI
  clear hI z t
  intro z t hI
  cases hI with
  | at_ i hi hin hz =>
    by_cases hx : i = (n : Int)
    · refine Wqx hl hl2 hn hb hi hx ?_
      refine ⟨fun _ => ?_, fun h => by cases h⟩
      have hT : l = l2 := by
        refine List.ext_getElem (by omega) fun p h1 h2 => ?_
        have := hz p (by omega)
        rw [List.getD_eq_getElem?_getD, List.getD_eq_getElem?_getD, List.getElem?_eq_getElem h1, List.getElem?_eq_getElem h2] at this
        exact this
      exact Wqfi (EndsR.ret (l := [.bool true]) (by kernel_rfl) (by rw [decide_eq_true hT]; rfl) (Fits.n0 rfl rfl (show (2 : Nat) ≤ 2 by decide)))
    · by_cases he : l.getD (i.toNat * 1) 0 = l2.getD (i.toNat * 1) 0
      · refine Wqrd hl hl2 hn hb hi (by omega) he ?_
        refine ⟨_, _, by omega, rfl, .at_ (i + 1) (by omega) (by omega) (fun p hp => ?_)⟩
        by_cases hp2 : p < i.toNat
        · exact hz p hp2
        · rw [show p = i.toNat * 1 by omega]; exact he
      · refine Wqbad hl hl2 hn hb hi (by omega) he ?_
        exact (EndsR.ret (l := [.bool false]) (by kernel_rfl) (by rw [decide_eq_false (fun h => he (by rw [h]))]; rfl) (Fits.n0 rfl rfl (show (2 : Nat) ≤ 2 by decide)))
theorem eqw_does (l l2 : List Int) (n m off of2 c c2 : Nat) (e e2 : TypeId) (hl : l.length = n) (hl2 : l2.length = m) (hb : n ≤ 100000) : DoesC Try.prog 14 [(.slice (some ⟨0, off, none⟩) n c), (.slice (some ⟨1, of2, none⟩) m c2)] (mkH [.tail off .u64 l e, .tail of2 .u64 l2 e2]).low (.bool (decide (l = l2))) (effK (mkH [.tail off .u64 l e, .tail of2 .u64 l2 e2]) [] []).low := by
  refine EndsR.does Try.func14 BWq_is (by rw [noVars]; exact Nat.zero_le _) ?_
  show Gets Try.prog (KH.low ⟨2, 1, [(0, 0, .tail off .u64 l e), (1, 0, .tail of2 .u64 l2 e2)]⟩) BWq (KSt.low (WqS0 off n c of2 m c2 l e l2 e2)) _
  by_cases hn : n = m
  · refine Wqpre hn ?_
    exact loopE l l2 n m off of2 c c2 e e2 hl hl2 hn hb ((n : Int) - 0).toNat (WqS5 off n c of2 m c2 (0) l e l2 e2) (.at_ 0 (by omega) (by omega) (fun p hp => absurd hp (by omega)))
  · exact Wqne hn (EndsR.ret (l := [.bool false]) (by kernel_rfl) (by rw [decide_eq_false (fun h => hn (by rw [← hl, ← hl2, h]))]; rfl) (Fits.n0 rfl rfl (show (2 : Nat) ≤ 2 by decide)))
theorem eqw00_does : DoesC Try.prog 14 [(.slice (some ⟨0, 0, some 0⟩) 0 0), (.slice (some ⟨0, 0, some 0⟩) 0 0)] (mkH []).low (.bool (decide (([] : List Int) = []))) (effK (mkH []) [] []).low := by
  refine EndsR.does Try.func14 BWa_is (by rw [noVars]; exact Nat.zero_le _) ?_
  show Gets Try.prog (KH.low ⟨0, 1, []⟩) BWa (KSt.low WaS0) _
  exact Wat (EndsR.ret (l := [.bool true]) (by kernel_rfl) (by rw [decide_eq_true rfl]; rfl) (Fits.n0 rfl rfl (show (0 : Nat) ≤ 0 by decide)))
theorem eqw0_does (l2 : List Int) (m of2 c2 : Nat) (e2 : TypeId) (hl2 : l2.length = m) : DoesC Try.prog 14 [(.slice (some ⟨0, 0, some 0⟩) 0 0), (.slice (some ⟨0, of2, none⟩) m c2)] (mkH [.tail of2 .u64 l2 e2]).low (.bool (decide ([] = l2))) (effK (mkH [.tail of2 .u64 l2 e2]) [] []).low := by
  refine EndsR.does Try.func14 BWb_is (by rw [noVars]; exact Nat.zero_le _) ?_
  show Gets Try.prog (KH.low ⟨1, 1, [(0, 0, .tail of2 .u64 l2 e2)]⟩) BWb (KSt.low (WbS0 of2 m c2 l2 e2)) _
  by_cases h : m = 0
  · exact Wbt h (EndsR.ret (l := [.bool true]) (by kernel_rfl) (by rw [decide_eq_true (List.eq_nil_of_length_eq_zero (hl2.trans h)).symm]; rfl) (Fits.n0 rfl rfl (show (1 : Nat) ≤ 1 by decide)))
  · exact Wbf h (EndsR.ret (l := [.bool false]) (by kernel_rfl) (by rw [decide_eq_false (fun g => h (by rw [← hl2, ← g]; rfl))]; rfl) (Fits.n0 rfl rfl (show (1 : Nat) ≤ 1 by decide)))
theorem eqw1_does (l : List Int) (n off c : Nat) (e : TypeId) (hl : l.length = n) : DoesC Try.prog 14 [(.slice (some ⟨0, off, none⟩) n c), (.slice (some ⟨0, 0, some 0⟩) 0 0)] (mkH [.tail off .u64 l e]).low (.bool (decide (l = []))) (effK (mkH [.tail off .u64 l e]) [] []).low := by
  refine EndsR.does Try.func14 BWc_is (by rw [noVars]; exact Nat.zero_le _) ?_
  show Gets Try.prog (KH.low ⟨1, 1, [(0, 0, .tail off .u64 l e)]⟩) BWc (KSt.low (WcS0 off n c l e)) _
  by_cases h : n = 0
  · exact Wct h (EndsR.ret (l := [.bool true]) (by kernel_rfl) (by rw [decide_eq_true (List.eq_nil_of_length_eq_zero (hl.trans h))]; rfl) (Fits.n0 rfl rfl (show (1 : Nat) ≤ 1 by decide)))
  · exact Wcf h (EndsR.ret (l := [.bool false]) (by kernel_rfl) (by rw [decide_eq_false (fun g => h (by rw [← hl, g]; rfl))]; rfl) (Fits.n0 rfl rfl (show (1 : Nat) ≤ 1 by decide)))
noncomputable def rc_pack_Text (textA : List Int → Int → ByteArray × Bool) : RC := ⟨[.row .u64, .int .i64], fun avs => match avs with | [.row l, .int k] => ((Nat.ble (List.length l) 1000) && (decide (k ≤ 9223372036854775807))) | _ => false,
  fun N avs => match avs with | [.row l, .int k] => ((.tuple #[(.string (Prod.fst (textA l k))), (.bool (Prod.snd (textA l k)))]), [], []) | _ => (.bool false, [], [])⟩
theorem rc_pack_Text_does : RcDoes Try.prog [] 12 (rc_pack_Text textA) := by
  intro vb avs args blks hv hs hp
  cases hv
  cases hs with
  | row0 hs =>
    cases hs with
    | int k hs =>
      cases hs
      have hp : (Nat.ble (List.length ([] : List Int)) 1000 && decide (k ≤ 9223372036854775807)) = true := hp
      rw [Bool.and_eq_true, decide_eq_true_eq] at hp
      exact text0_does k hp.2
  | row off_l n_l c_l l e_l hl_l hs =>
    cases hs with
    | int k hs =>
      cases hs
      have hp : (Nat.ble (List.length l) 1000 && decide (k ≤ 9223372036854775807)) = true := hp
      rw [Bool.and_eq_true, decide_eq_true_eq] at hp
      exact text_does l k n_l off_l c_l e_l hl_l (by have := Nat.le_of_ble_eq_true hp.1; omega) hp.2
noncomputable def rc_r04_Text (textR : List Int → Int → ByteArray × Bool) : RC := ⟨[.row .u64, .int .i64], fun avs => match avs with | [.row l, .int k] => ((Nat.ble (List.length l) 1000) && (decide (k ≤ 9223372036854775807))) | _ => false,
  fun N avs => match avs with | [.row l, .int k] => ((.tuple #[(.string (Prod.fst (textR l k))), (.bool (Prod.snd (textR l k)))]), [], []) | _ => (.bool false, [], [])⟩
theorem rc_r04_Text_does : RcDoes Try.prog [] 13 (rc_r04_Text textR) := by
  intro vb avs args blks hv hs hp
  cases hv
  cases hs with
  | row0 hs =>
    cases hs with
    | int k hs =>
      cases hs
      have hp : (Nat.ble (List.length ([] : List Int)) 1000 && decide (k ≤ 9223372036854775807)) = true := hp
      rw [Bool.and_eq_true, decide_eq_true_eq] at hp
      exact textR0_does k
  | row off_l n_l c_l l e_l hl_l hs =>
    cases hs with
    | int k hs =>
      cases hs
      have hp : (Nat.ble (List.length l) 1000 && decide (k ≤ 9223372036854775807)) = true := hp
      rw [Bool.and_eq_true, decide_eq_true_eq] at hp
      exact textR_does l k n_l off_l c_l e_l hl_l (by have := Nat.le_of_ble_eq_true hp.1; omega)
noncomputable def rc_r02_Words : RC := ⟨[.row .u64, .row .u64], fun avs => match avs with | [.row l, .row l2] => (Nat.ble (List.length l) 100000) | _ => false,
  fun N avs => match avs with | [.row l, .row l2] => ((.bool (decide (l = l2))), [], []) | _ => (.bool false, [], [])⟩
theorem rc_r02_Words_does : RcDoes Try.prog [] 14 rc_r02_Words := by
  intro vb avs args blks hv hs hp
  cases hv
  cases hs with
  | row0 hs =>
    cases hs with
    | row0 hs =>
      cases hs
      exact eqw00_does
    | row off_l2 n_l2 c_l2 l2 e_l2 hl_l2 hs =>
      cases hs
      exact eqw0_does l2 n_l2 off_l2 c_l2 e_l2 hl_l2
  | row off_l n_l c_l l e_l hl_l hs =>
    cases hs with
    | row0 hs =>
      cases hs
      exact eqw1_does l n_l off_l c_l e_l hl_l
    | row off_l2 n_l2 c_l2 l2 e_l2 hl_l2 hs =>
      cases hs
      exact eqw_does l l2 n_l n_l2 off_l off_l2 c_l c_l2 e_l e_l2 hl_l hl_l2 (by have := Nat.le_of_ble_eq_true hp; omega)
noncomputable def pkcT (byteRV : Int → Int → Int) (byteV : Int → Int → Int) (manyV : Int → Int) (textA : List Int → Int → ByteArray × Bool) (textR : List Int → Int → ByteArray × Bool) (withRV : Int → Int → Int → Int) (wordsA : ByteArray → List Int) (wordsR : ByteArray → List Int) : RTab := fun f => match f with
  | 11 => some rc_sprocketlaw04_awake
  | 48 => some (rc_lane_Byte byteV)
  | 49 => some (rc_r02_Byte byteRV)
  | 50 => some (rc_r02_With withRV)
  | 17 => some (rc_pack_Many manyV)
  | 18 => some (rc_r04_Many manyV)
  | 15 => some (rc_pack_Words wordsA)
  | 16 => some (rc_r04_Words wordsR)
  | 12 => some (rc_pack_Text textA)
  | 13 => some (rc_r04_Text textR)
  | 14 => some rc_r02_Words
  | _ => none
def pkcDom : List FuncId := [11, 48, 49, 50, 17, 18, 15, 16, 12, 13, 14]
theorem pkc_does : ∀ f rc, f ∈ pkcDom → (pkcT byteRV byteV manyV textA textR withRV wordsA wordsR) f = some rc → RcDoes Try.prog [] f rc := by
  intro f rc hf hT
  simp only [pkcDom, List.mem_cons, List.not_mem_nil, or_false] at hf
  rcases hf with rfl | rfl | rfl | rfl | rfl | rfl | rfl | rfl | rfl | rfl | rfl
  · cases hT; exact rc_sprocketlaw04_awake_does
  · cases hT; exact rc_lane_Byte_does
  · cases hT; exact rc_r02_Byte_does
  · cases hT; exact rc_r02_With_does
  · cases hT; exact rc_pack_Many_does
  · cases hT; exact rc_r04_Many_does
  · cases hT; exact rc_pack_Words_does
  · cases hT; exact rc_r04_Words_does
  · cases hT; exact rc_pack_Text_does
  · cases hT; exact rc_r04_Text_does
  · cases hT; exact rc_r02_Words_does
theorem pkc_fn : ∀ f ∈ pkcDom, FnOk Try.prog f := fun f hf => fitC.fnOk f (by
    have h0 : (pkcDom.all fun f => fsC.contains f) = true := by kernel_rfl
    simpa using List.all_eq_true.1 h0 f hf)
theorem pkc_sound : SoundC Try.prog (conC pkcDom (rcE [] (pkcT byteRV byteV manyV textA textR withRV wordsA wordsR))) := rc_sound noVars pkc_fn pkc_does

end Go.Proofs.Ytnhdjmpbmecnoaa
