/- A word's bytes. -/
import Derived.Test.YtnhdjmpbmecnoaaFit
import Derived.WalkKit
import Derived.ProofKit
import Derived.OpenShut
import Derived.ChangeOld
import Derived.Below
import Derived.SizedLaws
namespace Go.Proofs.Ytnhdjmpbmecnoaa
open Go.Eng
open Go.ChangeShapes Go.WideShapes Go.ChangeAt Go.RowKit
set_option linter.unusedVariables false
set_option linter.unusedSimpArgs false
set_option maxRecDepth 100000
noncomputable def cfgL : Cfg := ⟨[]⟩
noncomputable def fsL : List FuncId := [11, 12, 14, 15, 17, 48, 49, 50, 64, 65]
theorem fitL : Fit Try.prog cfgL fsL := ⟨by kernel_rfl, Cfg.ok_of (by kernel_rfl), by kernel_rfl⟩
theorem and_step {a b A B : Nat} (ha : a < 256) (hb : b < 256) : (a + 256 * A) &&& (b + 256 * B) = (a &&& b) + 256 * (A &&& B) := by
  have hab : a &&& b < 2 ^ 8 := Nat.lt_of_le_of_lt Nat.and_le_left ha
  rw [Nat.add_comm a, Nat.add_comm b, Nat.add_comm (a &&& b)]
  apply Nat.eq_of_testBit_eq
  intro j
  show ((2 ^ 8 * A + a) &&& (2 ^ 8 * B + b)).testBit j = (2 ^ 8 * (A &&& B) + (a &&& b)).testBit j
  rw [Nat.testBit_and, Nat.testBit_two_pow_mul_add _ (show a < 2 ^ 8 from ha), Nat.testBit_two_pow_mul_add _ (show b < 2 ^ 8 from hb), Nat.testBit_two_pow_mul_add _ hab]
  split <;> simp [Nat.testBit_and]
theorem or_step {a b A B : Nat} (ha : a < 256) (hb : b < 256) : (a + 256 * A) ||| (b + 256 * B) = (a ||| b) + 256 * (A ||| B) := by
  have hab : a ||| b < 2 ^ 8 := Nat.or_lt_two_pow ha hb
  rw [Nat.add_comm a, Nat.add_comm b, Nat.add_comm (a ||| b)]
  apply Nat.eq_of_testBit_eq
  intro j
  show ((2 ^ 8 * A + a) ||| (2 ^ 8 * B + b)).testBit j = (2 ^ 8 * (A ||| B) + (a ||| b)).testBit j
  rw [Nat.testBit_or, Nat.testBit_two_pow_mul_add _ (show a < 2 ^ 8 from ha), Nat.testBit_two_pow_mul_add _ (show b < 2 ^ 8 from hb), Nat.testBit_two_pow_mul_add _ hab]
  split <;> simp [Nat.testBit_or]
theorem xor_step {a b A B : Nat} (ha : a < 256) (hb : b < 256) : (a + 256 * A) ^^^ (b + 256 * B) = (a ^^^ b) + 256 * (A ^^^ B) := by
  have hab : a ^^^ b < 2 ^ 8 := Nat.xor_lt_two_pow ha hb
  rw [Nat.add_comm a, Nat.add_comm b, Nat.add_comm (a ^^^ b)]
  apply Nat.eq_of_testBit_eq
  intro j
  show ((2 ^ 8 * A + a) ^^^ (2 ^ 8 * B + b)).testBit j = (2 ^ 8 * (A ^^^ B) + (a ^^^ b)).testBit j
  rw [Nat.testBit_xor, Nat.testBit_two_pow_mul_add _ (show a < 2 ^ 8 from ha), Nat.testBit_two_pow_mul_add _ (show b < 2 ^ 8 from hb), Nat.testBit_two_pow_mul_add _ hab]
  split <;> simp [Nat.testBit_xor]
/-- The number of some bytes. -/
def cat : List Nat → Nat
  | [] => 0
  | b :: bs => b + 256 * cat bs
/-- Bytes alone. -/
def bys (l : List Nat) : Prop := ∀ x ∈ l, x < 256
theorem cat_lt : ∀ {l : List Nat}, bys l → cat l < 256 ^ l.length
  | [], _ => by decide
  | b :: bs, h => by
    have h1 := h b List.mem_cons_self
    have h2 := cat_lt (l := bs) fun x hx => h x (List.mem_cons_of_mem _ hx)
    show b + 256 * cat bs < 256 ^ (bs.length + 1)
    rw [Nat.pow_succ]; omega
theorem cat_and : ∀ {l m : List Nat}, l.length = m.length → bys l → bys m → cat l &&& cat m = cat (List.zipWith (· &&& ·) l m)
  | [], [], _, _, _ => rfl
  | a :: l, b :: m, hl, h1, h2 => by
    show (a + 256 * cat l) &&& (b + 256 * cat m) = (a &&& b) + 256 * cat (List.zipWith (· &&& ·) l m)
    rw [and_step (h1 a List.mem_cons_self) (h2 b List.mem_cons_self), cat_and (by simpa using hl) (fun x hx => h1 x (List.mem_cons_of_mem _ hx)) fun x hx => h2 x (List.mem_cons_of_mem _ hx)]
theorem cat_or : ∀ {l m : List Nat}, l.length = m.length → bys l → bys m → cat l ||| cat m = cat (List.zipWith (· ||| ·) l m)
  | [], [], _, _, _ => rfl
  | a :: l, b :: m, hl, h1, h2 => by
    show (a + 256 * cat l) ||| (b + 256 * cat m) = (a ||| b) + 256 * cat (List.zipWith (· ||| ·) l m)
    rw [or_step (h1 a List.mem_cons_self) (h2 b List.mem_cons_self), cat_or (by simpa using hl) (fun x hx => h1 x (List.mem_cons_of_mem _ hx)) fun x hx => h2 x (List.mem_cons_of_mem _ hx)]
theorem cat_xor : ∀ {l m : List Nat}, l.length = m.length → bys l → bys m → cat l ^^^ cat m = cat (List.zipWith (· ^^^ ·) l m)
  | [], [], _, _, _ => rfl
  | a :: l, b :: m, hl, h1, h2 => by
    show (a + 256 * cat l) ^^^ (b + 256 * cat m) = (a ^^^ b) + 256 * cat (List.zipWith (· ^^^ ·) l m)
    rw [xor_step (h1 a List.mem_cons_self) (h2 b List.mem_cons_self), cat_xor (by simpa using hl) (fun x hx => h1 x (List.mem_cons_of_mem _ hx)) fun x hx => h2 x (List.mem_cons_of_mem _ hx)]
/-- A word's bytes. -/
def bytes8 (n : Nat) : List Nat := [n % 256, n / 256 % 256, n / 65536 % 256, n / 16777216 % 256, n / 4294967296 % 256, n / 1099511627776 % 256, n / 281474976710656 % 256, n / 72057594037927936 % 256]
theorem cat_bytes8 {n : Nat} (h : n < 18446744073709551616) : cat (bytes8 n) = n := by
  show _ + 256 * (_ + 256 * (_ + 256 * (_ + 256 * (_ + 256 * (_ + 256 * (_ + 256 * (_ + 256 * 0))))))) = n
  omega
theorem bys_bytes8 (n : Nat) : bys (bytes8 n) := by
  intro x hx
  simp only [bytes8, List.mem_cons, List.not_mem_nil, or_false] at hx
  omega
/-- Bits of words. -/
theorem bits_and {n m : Nat} (hn : n < 18446744073709551616) (hm : m < 18446744073709551616) : bits .and .u64 (n : Int) (m : Int) = ((n &&& m : Nat) : Int) := by
  show IntKind.u64.wrap ((BitVec.ofInt 64 n &&& BitVec.ofInt 64 m).toNat : Nat) = _
  rw [BitVec.toNat_and, BitVec.toNat_ofInt, BitVec.toNat_ofInt, wrap_u64]
  have h1 : ((n : Int) % ((2 ^ 64 : Nat) : Int)).toNat = n := by omega
  have h2 : ((m : Int) % ((2 ^ 64 : Nat) : Int)).toNat = m := by omega
  have h3 : n &&& m < 18446744073709551616 := Nat.lt_of_le_of_lt Nat.and_le_left hn
  rw [h1, h2]; omega
theorem bits_or {n m : Nat} (hn : n < 18446744073709551616) (hm : m < 18446744073709551616) : bits .or .u64 (n : Int) (m : Int) = ((n ||| m : Nat) : Int) := by
  show IntKind.u64.wrap ((BitVec.ofInt 64 n ||| BitVec.ofInt 64 m).toNat : Nat) = _
  rw [BitVec.toNat_or, BitVec.toNat_ofInt, BitVec.toNat_ofInt, wrap_u64]
  have h1 : ((n : Int) % ((2 ^ 64 : Nat) : Int)).toNat = n := by omega
  have h2 : ((m : Int) % ((2 ^ 64 : Nat) : Int)).toNat = m := by omega
  have h3 : n ||| m < 2 ^ 64 := Nat.or_lt_two_pow hn hm
  rw [h1, h2]; omega
theorem bits_xor {n m : Nat} (hn : n < 18446744073709551616) (hm : m < 18446744073709551616) : bits .xor .u64 (n : Int) (m : Int) = ((n ^^^ m : Nat) : Int) := by
  show IntKind.u64.wrap ((BitVec.ofInt 64 n ^^^ BitVec.ofInt 64 m).toNat : Nat) = _
  rw [BitVec.toNat_xor, BitVec.toNat_ofInt, BitVec.toNat_ofInt, wrap_u64]
  have h1 : ((n : Int) % ((2 ^ 64 : Nat) : Int)).toNat = n := by omega
  have h2 : ((m : Int) % ((2 ^ 64 : Nat) : Int)).toNat = m := by omega
  have h3 : n ^^^ m < 2 ^ 64 := Nat.xor_lt_two_pow hn hm
  rw [h1, h2]; omega
theorem bits_not {n m : Nat} (hn : n < 18446744073709551616) (hm : m < 18446744073709551616) : bits .andNot .u64 (n : Int) (m : Int) = ((n &&& (18446744073709551615 - m) : Nat) : Int) := by
  show IntKind.u64.wrap ((BitVec.ofInt 64 n &&& ~~~ BitVec.ofInt 64 m).toNat : Nat) = _
  rw [BitVec.toNat_and, BitVec.toNat_not, BitVec.toNat_ofInt, BitVec.toNat_ofInt, wrap_u64]
  have h1 : ((n : Int) % ((2 ^ 64 : Nat) : Int)).toNat = n := by omega
  have h2 : ((m : Int) % ((2 ^ 64 : Nat) : Int)).toNat = m := by omega
  have h3 : n &&& (18446744073709551615 - m) < 18446744073709551616 := Nat.lt_of_le_of_lt Nat.and_le_left hn
  rw [h1, h2]
  show ((n &&& (18446744073709551615 - m) : Nat) : Int) % _ = _
  omega

/-- A word's byte. -/
def byteV (w i : Int) : Int := if 0 ≤ i ∧ i ≤ 7 then (w / 2 ^ (Int.toNat (8 * i))) % 256 else -1
def divs : Nat → Int → Int
  | 0, w => w
  | k + 1, w => IntKind.wrap .u64 (Int.tdiv (divs k w) 256)
def byteRV (w i : Int) : Int := if 0 ≤ i ∧ i ≤ 7 then IntKind.wrap .i64 (Int.tmod (divs (Int.toNat i) w) 256) else -1
/-- A word with another byte. -/
def withV (w i b : Int) : Int := if (0 ≤ i ∧ i ≤ 7) ∧ (0 ≤ b ∧ b ≤ 255) then bits .or .u64 (bits .andNot .u64 w (IntKind.wrap .u64 (255 * 2 ^ (Int.toNat (8 * i))))) (IntKind.wrap .u64 (b * 2 ^ (Int.toNat (8 * i)))) else w
def hornR : List Int → Int
  | [] => 0
  | b :: bs => IntKind.wrap .u64 (IntKind.wrap .u64 (hornR bs * 256) + IntKind.wrap .u64 b)
def bytesR (w : Int) : List Int := [byteRV w 0, byteRV w 1, byteRV w 2, byteRV w 3, byteRV w 4, byteRV w 5, byteRV w 6, byteRV w 7]
def withRV (w i b : Int) : Int := if (0 ≤ i ∧ i ≤ 7) ∧ (0 ≤ b ∧ b ≤ 255) then hornR ((bytesR w).set (Int.toNat i) b) else w
theorem small8 (i : Int) (h0 : 0 ≤ i) (h7 : i ≤ 7) : i = 0 ∨ i = 1 ∨ i = 2 ∨ i = 3 ∨ i = 4 ∨ i = 5 ∨ i = 6 ∨ i = 7 := by omega
theorem shift8 {i : Int} (h0 : 0 ≤ i) (h7 : i ≤ 7) : min (Int.toNat (IntKind.wrap .i64 (8 * i))) (IntKind.bits .u64) = Int.toNat (8 * i) := by
  rw [wrap_i64_id (by omega) (by omega)]
  exact Nat.min_eq_left (show Int.toNat (8 * i) ≤ 64 by omega)
theorem byte_tree (w i : Int) : runK Try.prog cfgL fsL noT 70 40 48 [.int .u64 w, .int .i64 i] (bareK Try.prog) valK =
  bif (decide (i < 0)) then
    some (.int .i64 (-1))
  else
    bif (decide (i > 7)) then
      some (.int .i64 (-1))
    else
      bif (decide ((IntKind.wrap .i64 (8 * i)) < 0)) then
        none
      else
        some (.int .i64 (IntKind.wrap .i64 (bits .and .u64 (Int.fdiv w (2 ^ (min (Int.toNat (IntKind.wrap .i64 (8 * i))) (IntKind.bits .u64)))) 255))) := by kernel_rfl
theorem byte_told (w i : Int) : Tells Try.prog 48 [.int .u64 w, .int .i64 i] (bare Try.prog) (.int .i64 (byteV w i)) := by
  refine Tells.of_tree (h := (bareK Try.prog)) fitL SoundC.no AgreeT.no (by kernel_rfl) rfl (show Ro (bare Try.prog) from Ro.bare) (n := 70) (d := 40) ?_
  rw [byte_tree]
  unfold byteV
  by_cases h0 : i < 0
  · rw [condT (decide_eq_true h0), if_neg (by omega)]
  · rw [condF (decide_eq_false h0)]
    by_cases h7 : i > 7
    · rw [condT (decide_eq_true h7), if_neg (by omega)]
    · rw [condF (decide_eq_false h7), condF (decide_eq_false (by rw [wrap_i64_id (by omega) (by omega)]; omega)), if_pos (by omega), shift8 (by omega) (by omega), and255_u64, Int.fdiv_eq_ediv_of_nonneg _ (Int.pow_nonneg (by omega)), wrap_i64_id (by omega) (by omega)]
theorem byteR_tree (w i : Int) : runK Try.prog cfgL fsL noT 5 40 49 [.int .u64 w, .int .i64 i] (bareK Try.prog) valK =
  bif (decide (i < 0)) then
    some (.int .i64 (-1))
  else
    bif (decide (i > 7)) then
      some (.int .i64 (-1))
    else
      bif (decide (0 < i)) then
        bif (decide (1 < i)) then
          bif (decide (2 < i)) then
            bif (decide (3 < i)) then
              bif (decide (4 < i)) then
                none
              else
                some (.int .i64 (IntKind.wrap .i64 (Int.tmod (IntKind.wrap .u64 (Int.tdiv (IntKind.wrap .u64 (Int.tdiv (IntKind.wrap .u64 (Int.tdiv (IntKind.wrap .u64 (Int.tdiv w 256)) 256)) 256)) 256)) 256)))
            else
              some (.int .i64 (IntKind.wrap .i64 (Int.tmod (IntKind.wrap .u64 (Int.tdiv (IntKind.wrap .u64 (Int.tdiv (IntKind.wrap .u64 (Int.tdiv w 256)) 256)) 256)) 256)))
          else
            some (.int .i64 (IntKind.wrap .i64 (Int.tmod (IntKind.wrap .u64 (Int.tdiv (IntKind.wrap .u64 (Int.tdiv w 256)) 256)) 256)))
        else
          some (.int .i64 (IntKind.wrap .i64 (Int.tmod (IntKind.wrap .u64 (Int.tdiv w 256)) 256)))
      else
        some (.int .i64 (IntKind.wrap .i64 (Int.tmod w 256))) := by kernel_rfl
theorem byteR_told (w i : Int) : Tells Try.prog 49 [.int .u64 w, .int .i64 i] (bare Try.prog) (.int .i64 (byteRV w i)) := by
  by_cases h0 : i < 0
  · refine Tells.of_tree (h := (bareK Try.prog)) fitL SoundC.no AgreeT.no (by kernel_rfl) rfl (show Ro (bare Try.prog) from Ro.bare) (n := 5) (d := 40) ?_
    rw [byteR_tree, condT (decide_eq_true h0)]; unfold byteRV; rw [if_neg (by omega)]
  by_cases h7 : i > 7
  · refine Tells.of_tree (h := (bareK Try.prog)) fitL SoundC.no AgreeT.no (by kernel_rfl) rfl (show Ro (bare Try.prog) from Ro.bare) (n := 5) (d := 40) ?_
    rw [byteR_tree, condF (decide_eq_false h0), condT (decide_eq_true h7)]; unfold byteRV; rw [if_neg (by omega)]
  rcases small8 i (by omega) (by omega) with h | h | h | h | h | h | h | h <;> subst h <;> refine Tells.of_tree (h := (bareK Try.prog)) fitL SoundC.no AgreeT.no (by kernel_rfl) rfl (show Ro (bare Try.prog) from Ro.bare) (n := 12) (d := 40) ?_ <;> kernel_rfl
theorem withR_tree0 (w b : Int) : runK Try.prog cfgL fsL noT 30 40 50 [.int .u64 w, .int .i64 0, .int .i64 b] (bareK Try.prog) valK =
  bif (decide (b < 0)) then some (.int .u64 w) else bif (decide (b > 255)) then some (.int .u64 w) else some (.int .u64 (hornR ((bytesR w).set 0 b))) := by kernel_rfl
theorem withR_tree1 (w b : Int) : runK Try.prog cfgL fsL noT 30 40 50 [.int .u64 w, .int .i64 1, .int .i64 b] (bareK Try.prog) valK =
  bif (decide (b < 0)) then some (.int .u64 w) else bif (decide (b > 255)) then some (.int .u64 w) else some (.int .u64 (hornR ((bytesR w).set 1 b))) := by kernel_rfl
theorem withR_tree2 (w b : Int) : runK Try.prog cfgL fsL noT 30 40 50 [.int .u64 w, .int .i64 2, .int .i64 b] (bareK Try.prog) valK =
  bif (decide (b < 0)) then some (.int .u64 w) else bif (decide (b > 255)) then some (.int .u64 w) else some (.int .u64 (hornR ((bytesR w).set 2 b))) := by kernel_rfl
theorem withR_tree3 (w b : Int) : runK Try.prog cfgL fsL noT 30 40 50 [.int .u64 w, .int .i64 3, .int .i64 b] (bareK Try.prog) valK =
  bif (decide (b < 0)) then some (.int .u64 w) else bif (decide (b > 255)) then some (.int .u64 w) else some (.int .u64 (hornR ((bytesR w).set 3 b))) := by kernel_rfl
theorem withR_tree4 (w b : Int) : runK Try.prog cfgL fsL noT 30 40 50 [.int .u64 w, .int .i64 4, .int .i64 b] (bareK Try.prog) valK =
  bif (decide (b < 0)) then some (.int .u64 w) else bif (decide (b > 255)) then some (.int .u64 w) else some (.int .u64 (hornR ((bytesR w).set 4 b))) := by kernel_rfl
theorem withR_tree5 (w b : Int) : runK Try.prog cfgL fsL noT 30 40 50 [.int .u64 w, .int .i64 5, .int .i64 b] (bareK Try.prog) valK =
  bif (decide (b < 0)) then some (.int .u64 w) else bif (decide (b > 255)) then some (.int .u64 w) else some (.int .u64 (hornR ((bytesR w).set 5 b))) := by kernel_rfl
theorem withR_tree6 (w b : Int) : runK Try.prog cfgL fsL noT 30 40 50 [.int .u64 w, .int .i64 6, .int .i64 b] (bareK Try.prog) valK =
  bif (decide (b < 0)) then some (.int .u64 w) else bif (decide (b > 255)) then some (.int .u64 w) else some (.int .u64 (hornR ((bytesR w).set 6 b))) := by kernel_rfl
theorem withR_tree7 (w b : Int) : runK Try.prog cfgL fsL noT 30 40 50 [.int .u64 w, .int .i64 7, .int .i64 b] (bareK Try.prog) valK =
  bif (decide (b < 0)) then some (.int .u64 w) else bif (decide (b > 255)) then some (.int .u64 w) else some (.int .u64 (hornR ((bytesR w).set 7 b))) := by kernel_rfl
noncomputable def BRW : Code := bodyOf Try.prog 50
theorem BRW_is : Try.f50.body = some BRW := by kernel_rfl
theorem BRW_ok : okCode Try.prog.globals.size BRW = true := by kernel_rfl
noncomputable abbrev EV (c : Code) (s : KSt) (lv : List Nat) : Option (Ex × KSt) := evCK Try.prog cfgL (runK Try.prog cfgL fsL noT 30 40) 30 c s (normC 0 lv)
theorem go {lv_ : List Nat} {co_ : Code} {st_ s' : KSt} {x : Ex} {Q : Ex → St → Prop} (hE_ : EV co_ st_ lv_ = some (x, s')) (hq_ : Q x s'.low) (hok_ : okCode Try.prog.globals.size co_ = true := by kernel_rfl) : Gets Try.prog (bare Try.prog) co_ st_.low Q := Gets.ofN fitL SoundC.no AgreeT.no 30 40 hok_ hE_ hq_
theorem eX {v : Value} {b c : Bool} (h : v = .bool b) (hb : b = c) : v = .bool c := by rw [h, hb]
noncomputable def S0 (w : Int) (i : Int) (b : Int) : KSt := (firstK [(.int .u64 w), (.int .i64 i), (.int .i64 b)] 30 ⟨0, 0, []⟩)
theorem C : BRW = .seq (codeAt [0] BRW) (codeAt [1] BRW) := by kernel_rfl
noncomputable def S1 (w : Int) (i : Int) (b : Int) : KSt := ⟨(frameL 30 [(0, (.int .u64 w)), (1, (.int .i64 i)), (2, (.int .i64 b))]), ⟨0, 1, []⟩⟩
theorem R1 (w : Int) (i : Int) (b : Int) : EV (codeAt [0] BRW) (S0 w i b) [0, 1, 2] =
  some (.normal, (S1 w i b)) := by kernel_rfl
theorem C1 : (codeAt [1] BRW) = .seq (codeAt [1, 0] BRW) (codeAt [1, 1] BRW) := by kernel_rfl
theorem C1_0 : (codeAt [1, 0] BRW) = .seq (codeAt [1, 0, 0] BRW) (codeAt [1, 0, 1] BRW) := by kernel_rfl
noncomputable def S2 (w : Int) (i : Int) (b : Int) : KSt := ⟨(frameL 30 [(0, (.int .u64 w)), (1, (.int .i64 i)), (2, (.int .i64 b)), (21, (.bool true))]), ⟨0, 1, []⟩⟩
noncomputable def S3 (w : Int) (i : Int) (b : Int) : KSt := ⟨(frameL 30 [(0, (.int .u64 w)), (1, (.int .i64 i)), (2, (.int .i64 b)), (21, (.bool (decide (b > 255))))]), ⟨0, 1, []⟩⟩
theorem R2 (w : Int) (i : Int) (b : Int) : EV (codeAt [1, 0, 0] BRW) (S1 w i b) [0, 1, 2, 21] =
  bif (decide (i < 0)) then
    some (.normal, (S2 w i b))
  else
    bif (decide (i > 7)) then
      some (.normal, (S2 w i b))
    else
      bif (decide (b < 0)) then
        some (.normal, (S2 w i b))
      else
        some (.normal, (S3 w i b)) := by kernel_rfl
theorem C1_0_1 : (codeAt [1, 0, 1] BRW) = .cond (.tmp 21) (codeAt [1, 0, 1, 0] BRW) (codeAt [1, 0, 1, 1] BRW) := by kernel_rfl
theorem C1_0_1_0 : (codeAt [1, 0, 1, 0] BRW) = .seq (codeAt [1, 0, 1, 0, 0] BRW) (codeAt [1, 0, 1, 0, 1] BRW) := by kernel_rfl
noncomputable def S4 (w : Int) : KSt := ⟨(frameL 30 [(6, (.int .u64 w))]), ⟨0, 1, []⟩⟩
theorem R3 (w : Int) (i : Int) (b : Int) : EV (codeAt [1, 0, 1, 0, 0] BRW) (S2 w i b) [6] =
  some (.normal, (S4 w)) := by kernel_rfl
theorem C1_0_1_0_1 : (codeAt [1, 0, 1, 0, 1] BRW) = .ret := by kernel_rfl
theorem rw_lo (w i b : Int) (hi : i < 0)   {Q : Ex → St → Prop} (hq : Q .ret (KSt.low (S4 w))) : Gets Try.prog (bare Try.prog) BRW (KSt.low (S0 w i b)) Q := by
  rw [C]; refine Gets.seq ?_
  refine go (R1 w i b) ?_
  rw [C1]; refine Gets.seq ?_
  rw [C1_0]; refine Gets.seq ?_
  refine go (x := .normal) (s' := (S2 w i b)) ((R2 w i b).trans (by rw [condT (decide_eq_true (by omega))])) ?_
  rw [C1_0_1]; refine Gets.cond true (by kernel_rfl) (by kernel_rfl) ?_; show Gets _ _ (codeAt [1, 0, 1, 0] BRW) _ _
  rw [C1_0_1_0]; refine Gets.seq ?_
  refine go (R3 w i b) ?_
  rw [C1_0_1_0_1]; refine Gets.ev fitL.mix fitL.cfg (fitL.sound SoundC.no 30 0) 30 rfl (s' := KSt.low (S4 w)) (x := .ret) rfl ?_
  exact hq
theorem rw_hi (w i b : Int) (hi : 7 < i)   {Q : Ex → St → Prop} (hq : Q .ret (KSt.low (S4 w))) : Gets Try.prog (bare Try.prog) BRW (KSt.low (S0 w i b)) Q := by
  rw [C]; refine Gets.seq ?_
  refine go (R1 w i b) ?_
  rw [C1]; refine Gets.seq ?_
  rw [C1_0]; refine Gets.seq ?_
  refine go (x := .normal) (s' := (S2 w i b)) ((R2 w i b).trans (by rw [condF (decide_eq_false (by omega)), condT (decide_eq_true (by omega))])) ?_
  rw [C1_0_1]; refine Gets.cond true (by kernel_rfl) (by kernel_rfl) ?_; show Gets _ _ (codeAt [1, 0, 1, 0] BRW) _ _
  rw [C1_0_1_0]; refine Gets.seq ?_
  refine go (R3 w i b) ?_
  rw [C1_0_1_0_1]; refine Gets.ev fitL.mix fitL.cfg (fitL.sound SoundC.no 30 0) 30 rfl (s' := KSt.low (S4 w)) (x := .ret) rfl ?_
  exact hq
theorem endR {w v : Int} {s : KSt} (h : resL Try.prog s.low Try.f50.results.toList = some [.int .u64 w]) (h2 : v = w) : Eng.Ends Try.prog Try.f50.results.toList (fun r _ => r = .int .u64 v) .ret s.low := Ends.of h (by rw [h2]; rfl)
theorem withR_told (w i b : Int) : Tells Try.prog 50 [.int .u64 w, .int .i64 i, .int .i64 b] (bare Try.prog) (.int .u64 (withRV w i b)) := by
  by_cases h0 : i < 0
  · refine Gets.tells Try.func50 BRW_is (by rw [noVars]; exact Nat.le_refl _) rfl ?_ Ro.bare
    show Gets Try.prog (bare Try.prog) BRW (KSt.low (S0 w i b)) (Eng.Ends Try.prog Try.f50.results.toList fun r _ => r = .int .u64 (withRV w i b))
    refine rw_lo w i b h0 (endR (w := w) (by kernel_rfl) ?_)
    unfold withRV; rw [if_neg (by omega)]
  by_cases h7 : 7 < i
  · refine Gets.tells Try.func50 BRW_is (by rw [noVars]; exact Nat.le_refl _) rfl ?_ Ro.bare
    show Gets Try.prog (bare Try.prog) BRW (KSt.low (S0 w i b)) (Eng.Ends Try.prog Try.f50.results.toList fun r _ => r = .int .u64 (withRV w i b))
    refine rw_hi w i b h7 (endR (w := w) (by kernel_rfl) ?_)
    unfold withRV; rw [if_neg (by omega)]
  rcases small8 i (by omega) (by omega) with h | h | h | h | h | h | h | h <;> subst h <;> refine Tells.of_tree (h := (bareK Try.prog)) fitL SoundC.no AgreeT.no (by kernel_rfl) rfl (show Ro (bare Try.prog) from Ro.bare) (n := 30) (d := 40) ?_
  · rw [withR_tree0]
    unfold withRV
    by_cases hb : b < 0
    · rw [condT (decide_eq_true hb), if_neg (by omega)]
    · rw [condF (decide_eq_false hb)]
      by_cases hc : b > 255
      · rw [condT (decide_eq_true hc), if_neg (by omega)]
      · rw [condF (decide_eq_false hc), if_pos (by omega)]; rfl
  · rw [withR_tree1]
    unfold withRV
    by_cases hb : b < 0
    · rw [condT (decide_eq_true hb), if_neg (by omega)]
    · rw [condF (decide_eq_false hb)]
      by_cases hc : b > 255
      · rw [condT (decide_eq_true hc), if_neg (by omega)]
      · rw [condF (decide_eq_false hc), if_pos (by omega)]; rfl
  · rw [withR_tree2]
    unfold withRV
    by_cases hb : b < 0
    · rw [condT (decide_eq_true hb), if_neg (by omega)]
    · rw [condF (decide_eq_false hb)]
      by_cases hc : b > 255
      · rw [condT (decide_eq_true hc), if_neg (by omega)]
      · rw [condF (decide_eq_false hc), if_pos (by omega)]; rfl
  · rw [withR_tree3]
    unfold withRV
    by_cases hb : b < 0
    · rw [condT (decide_eq_true hb), if_neg (by omega)]
    · rw [condF (decide_eq_false hb)]
      by_cases hc : b > 255
      · rw [condT (decide_eq_true hc), if_neg (by omega)]
      · rw [condF (decide_eq_false hc), if_pos (by omega)]; rfl
  · rw [withR_tree4]
    unfold withRV
    by_cases hb : b < 0
    · rw [condT (decide_eq_true hb), if_neg (by omega)]
    · rw [condF (decide_eq_false hb)]
      by_cases hc : b > 255
      · rw [condT (decide_eq_true hc), if_neg (by omega)]
      · rw [condF (decide_eq_false hc), if_pos (by omega)]; rfl
  · rw [withR_tree5]
    unfold withRV
    by_cases hb : b < 0
    · rw [condT (decide_eq_true hb), if_neg (by omega)]
    · rw [condF (decide_eq_false hb)]
      by_cases hc : b > 255
      · rw [condT (decide_eq_true hc), if_neg (by omega)]
      · rw [condF (decide_eq_false hc), if_pos (by omega)]; rfl
  · rw [withR_tree6]
    unfold withRV
    by_cases hb : b < 0
    · rw [condT (decide_eq_true hb), if_neg (by omega)]
    · rw [condF (decide_eq_false hb)]
      by_cases hc : b > 255
      · rw [condT (decide_eq_true hc), if_neg (by omega)]
      · rw [condF (decide_eq_false hc), if_pos (by omega)]; rfl
  · rw [withR_tree7]
    unfold withRV
    by_cases hb : b < 0
    · rw [condT (decide_eq_true hb), if_neg (by omega)]
    · rw [condF (decide_eq_false hb)]
      by_cases hc : b > 255
      · rw [condT (decide_eq_true hc), if_neg (by omega)]
      · rw [condF (decide_eq_false hc), if_pos (by omega)]; rfl
theorem sprocketlaw04_awake_told : Tells Try.prog 11 [] (bare Try.prog) (.bool true) := by
  refine Tells.of_tree (h := (bareK Try.prog)) fitL SoundC.no AgreeT.no (by kernel_rfl) rfl (show Ro (bare Try.prog) from Ro.bare) (n := 70) (d := 40) ?_
  kernel_rfl
def laneE : ConE := fun _ f args => match f, args with
  | 11, [] => some ⟨[], [], [], .bool true, [], []⟩
  | 48, [.int .u64 w, .int .i64 i] => some ⟨[], [.int .u64 w, .int .i64 i], [], .int .i64 (byteV w i), [], []⟩
  | 49, [.int .u64 w, .int .i64 i] => some ⟨[], [.int .u64 w, .int .i64 i], [], .int .i64 (byteRV w i), [], []⟩
  | 50, [.int .u64 w, .int .i64 i, .int .i64 b] => some ⟨[], [.int .u64 w, .int .i64 i, .int .i64 b], [], .int .u64 (withRV w i b), [], []⟩
  | _, _ => none
def laneDom : List FuncId := [11, 48, 49, 50]
theorem lane_fn : ∀ f ∈ laneDom, FnOk Try.prog f := fun f hf => fitL.fnOk f (by
    have h0 : (laneDom.all fun f => fsL.contains f) = true := by kernel_rfl
    simpa using List.all_eq_true.1 h0 f hf)
theorem lane_ok : ∀ (h : AH) (f : FuncId) (args : List Value) (c : Con), laneE (accA h) f args = some c → ConOk Try.prog f args h c := by
  intro h f args c hE
  unfold laneE at hE
  split at hE
  · cases hE; exact ConOk.bare noVars rfl rfl (sprocketlaw04_awake_told) h
  · cases hE; exact ConOk.bare noVars rfl rfl (byte_told _ _) h
  · cases hE; exact ConOk.bare noVars rfl rfl (byteR_told _ _) h
  · cases hE; exact ConOk.bare noVars rfl rfl (withR_told _ _ _) h
  · cases hE
theorem lane_sound : SoundC Try.prog (conC laneDom laneE) := SoundC.con lane_fn fun h f args c _ hE => lane_ok h f args c hE
end Go.Proofs.Ytnhdjmpbmecnoaa
