/- Bytes of words. -/
import Derived.Test.YteafenadjidkdaaDoorLane
import Derived.WalkKit
import Derived.ProofKit
import Derived.OpenShut
import Derived.ChangeOld
import Derived.Below
import Derived.SizedLaws
namespace Go.Proofs.YteafenadjidkdaaDoor
open Go.Eng
open Go.ChangeShapes Go.WideShapes Go.ChangeAt Go.RowKit
set_option linter.unusedVariables false
set_option linter.unusedSimpArgs false
set_option maxRecDepth 100000
theorem cast_bytes (n : Nat) : byteV (n : Int) 0 = ((n % 256 : Nat) : Int) ∧ byteV (n : Int) 1 = ((n / 256 % 256 : Nat) : Int) ∧ byteV (n : Int) 2 = ((n / 65536 % 256 : Nat) : Int) ∧ byteV (n : Int) 3 = ((n / 16777216 % 256 : Nat) : Int)
    ∧ byteV (n : Int) 4 = ((n / 4294967296 % 256 : Nat) : Int) ∧ byteV (n : Int) 5 = ((n / 1099511627776 % 256 : Nat) : Int) ∧ byteV (n : Int) 6 = ((n / 281474976710656 % 256 : Nat) : Int) ∧ byteV (n : Int) 7 = ((n / 72057594037927936 % 256 : Nat) : Int) := by
  refine ⟨?_, ?_, ?_, ?_, ?_, ?_, ?_, ?_⟩ <;> (unfold byteV; rw [if_pos (by decide)])
  · show ((n : Int) / 1) % 256 = _; omega
  · show ((n : Int) / 256) % 256 = _; omega
  · show ((n : Int) / 65536) % 256 = _; omega
  · show ((n : Int) / 16777216) % 256 = _; omega
  · show ((n : Int) / 4294967296) % 256 = _; omega
  · show ((n : Int) / 1099511627776) % 256 = _; omega
  · show ((n : Int) / 281474976710656) % 256 = _; omega
  · show ((n : Int) / 72057594037927936) % 256 = _; omega
theorem byteV_get (n : Nat) : ∀ k : Nat, k < 8 → byteV (n : Int) (k : Int) = (((bytes8 n).getD k 0 : Nat) : Int) := by
  obtain ⟨h0, h1, h2, h3, h4, h5, h6, h7⟩ := cast_bytes n
  intro k hk
  match k, hk with
  | 0, _ => exact h0
  | 1, _ => exact h1
  | 2, _ => exact h2
  | 3, _ => exact h3
  | 4, _ => exact h4
  | 5, _ => exact h5
  | 6, _ => exact h6
  | 7, _ => exact h7
theorem divs_nat {n : Nat} (hn : n < 18446744073709551616) : ∀ k, divs k (n : Int) = ((n / 256 ^ k : Nat) : Int)
  | 0 => by simp [divs]
  | k + 1 => by
    have h := divs_nat hn k
    have hle : n / 256 ^ k ≤ n := Nat.div_le_self _ _
    unfold divs
    rw [h, Nat.pow_succ, ← Nat.div_div_eq_div_mul]
    clear h
    generalize n / 256 ^ k = q at hle ⊢
    rw [Int.tdiv_eq_ediv_of_nonneg (by omega), wrap_u64_id (by omega) (by omega)]
    omega
theorem byteR_get {n : Nat} (hn : n < 18446744073709551616) (i : Int) : byteRV (n : Int) i = byteV (n : Int) i := by
  unfold byteRV byteV
  by_cases h : 0 ≤ i ∧ i ≤ 7
  · rw [if_pos h, if_pos h, divs_nat hn, Int.tmod_eq_emod_of_nonneg (Int.natCast_nonneg _), wrap_i64_id (by generalize ((n / 256 ^ Int.toNat i : Nat) : Int) = q; omega) (by generalize ((n / 256 ^ Int.toNat i : Nat) : Int) = q; omega)]
    rcases small8 i h.1 h.2 with h | h | h | h | h | h | h | h <;> subst h
    · show ((n / 1 : Nat) : Int) % 256 = ((n : Int) / 1) % 256; omega
    · show ((n / 256 : Nat) : Int) % 256 = ((n : Int) / 256) % 256; omega
    · show ((n / 65536 : Nat) : Int) % 256 = ((n : Int) / 65536) % 256; omega
    · show ((n / 16777216 : Nat) : Int) % 256 = ((n : Int) / 16777216) % 256; omega
    · show ((n / 4294967296 : Nat) : Int) % 256 = ((n : Int) / 4294967296) % 256; omega
    · show ((n / 1099511627776 : Nat) : Int) % 256 = ((n : Int) / 1099511627776) % 256; omega
    · show ((n / 281474976710656 : Nat) : Int) % 256 = ((n : Int) / 281474976710656) % 256; omega
    · show ((n / 72057594037927936 : Nat) : Int) % 256 = ((n : Int) / 72057594037927936) % 256; omega
  · rw [if_neg h, if_neg h]
theorem horn_cat : ∀ {l : List Nat}, bys l → l.length ≤ 8 → hornR (l.map fun (n : Nat) => (n : Int)) = (cat l : Int)
  | [], _, _ => rfl
  | b :: bs, h, hl => by
    have h1 := h b List.mem_cons_self
    have hb : bys bs := fun x hx => h x (List.mem_cons_of_mem _ hx)
    have hl2 : bs.length + 1 ≤ 8 := hl
    have h2 := cat_lt hb
    have h3 : (256 : Nat) ^ bs.length ≤ 256 ^ 7 := Nat.pow_le_pow_right (by omega) (by omega)
    have h4 : (256 : Nat) ^ 7 = 72057594037927936 := rfl
    show IntKind.wrap .u64 (IntKind.wrap .u64 (hornR (bs.map fun (n : Nat) => (n : Int)) * 256) + IntKind.wrap .u64 (b : Int)) = ((b + 256 * cat bs : Nat) : Int)
    rw [horn_cat hb (by omega), wrap_u64_id (n := (b : Int)) (by omega) (by omega), wrap_u64_id (n := (cat bs : Int) * 256) (by omega) (by omega), wrap_u64_id (by omega) (by omega)]
    omega
theorem bytesR_eq {n : Nat} (hn : n < 18446744073709551616) : bytesR (n : Int) = (bytes8 n).map fun (n : Nat) => (n : Int) := by
  obtain ⟨h0, h1, h2, h3, h4, h5, h6, h7⟩ := cast_bytes n
  unfold bytesR bytes8
  simp only [byteR_get hn, h0, h1, h2, h3, h4, h5, h6, h7, List.map_cons, List.map_nil]
theorem bys_set {l : List Nat} (h : bys l) (k m : Nat) (hm : m < 256) : bys (l.set k m) := fun x hx => by
  rcases List.mem_or_eq_of_mem_set hx with h1 | h1
  · exact h x h1
  · omega
theorem withR_cat {n : Nat} (hn : n < 18446744073709551616) {k m : Nat} (hk : k < 8) (hm : m < 256) : withRV (n : Int) (k : Int) (m : Int) = (cat ((bytes8 n).set k m) : Int) := by
  unfold withRV
  rw [if_pos (by omega), bytesR_eq hn, ← horn_cat (bys_set (bys_bytes8 n) k m hm) (by simp [bytes8])]
  congr 1
  rw [List.map_set]; rfl
theorem and255 {x : Nat} (h : x < 256) : x &&& 255 = x := by
  have := Nat.and_two_pow_sub_one_eq_mod x 8
  rw [show (2 : Nat) ^ 8 - 1 = 255 from rfl] at this
  rw [this]; exact Nat.mod_eq_of_lt h
/-- All bytes but one. -/
def mask8 (k : Nat) : List Nat := [255, 255, 255, 255, 255, 255, 255, 255].set k 0
def one8 (k m : Nat) : List Nat := [0, 0, 0, 0, 0, 0, 0, 0].set k m
theorem with_cat {n : Nat} (hn : n < 18446744073709551616) {k m : Nat} (hk : k < 8) (hm : m < 256) : withV (n : Int) (k : Int) (m : Int) = (cat ((bytes8 n).set k m) : Int) := by
  have hb := bys_bytes8 n
  have hn2 : n = cat (bytes8 n) := (cat_bytes8 hn).symm
  have key : ∀ (s : Nat), (2 : Nat) ^ (8 * k) = s → 255 * s < 18446744073709551616 → cat (mask8 k) = 18446744073709551615 - 255 * s → cat (one8 k m) = m * s →
      List.zipWith (· ||| ·) (List.zipWith (· &&& ·) (bytes8 n) (mask8 k)) (one8 k m) = (bytes8 n).set k m → withV (n : Int) (k : Int) (m : Int) = (cat ((bytes8 n).set k m) : Int) := by
    intro s hs hs2 h1 h2 h3
    have hms : m * s < 18446744073709551616 := Nat.lt_of_le_of_lt (Nat.mul_le_mul_right s (show m ≤ 255 by omega)) hs2
    have bm : bys (mask8 k) := bys_set (fun x hx => by simp at hx; omega) k 0 (by omega)
    have bo : bys (one8 k m) := bys_set (fun x hx => by simp at hx; omega) k m hm
    have ba : bys (List.zipWith (· &&& ·) (bytes8 n) (mask8 k)) := fun x hx => by
      obtain ⟨i, hi, rfl⟩ := List.mem_iff_getElem.1 hx
      rw [List.getElem_zipWith]
      exact Nat.lt_of_le_of_lt Nat.and_le_left (hb _ (List.getElem_mem _))
    unfold withV
    rw [if_pos (by omega), show Int.toNat (8 * (k : Int)) = 8 * k by omega]
    have e1 : (255 : Int) * 2 ^ (8 * k) = ((255 * s : Nat) : Int) := by rw [← hs]; push_cast; rfl
    have e2 : (m : Int) * 2 ^ (8 * k) = ((m * s : Nat) : Int) := by rw [← hs]; push_cast; rfl
    rw [e1, e2, wrap_u64_id (by omega) (by omega), wrap_u64_id (by omega) (by omega), bits_not hn hs2, bits_or (Nat.lt_of_le_of_lt Nat.and_le_left hn) hms, ← h1, ← h2]
    rw [← h3, ← cat_or (by simp [bytes8, mask8, one8]) ba bo, ← cat_and (by simp [bytes8, mask8]) hb bm, ← hn2]
  have hall : ∀ x ∈ bytes8 n, x &&& 255 = x := fun x hx => and255 (hb x hx)
  simp only [bytes8, List.mem_cons, List.not_mem_nil, or_false, forall_eq_or_imp, forall_eq] at hall
  obtain ⟨a0, a1, a2, a3, a4, a5, a6, a7⟩ := hall
  match k, hk with
  | 0, _ => exact key 1 rfl (by decide) rfl (by simp [one8, cat]) (by simp only [bytes8, mask8, one8, List.set, List.zipWith, a0, a1, a2, a3, a4, a5, a6, a7, Nat.or_zero, Nat.and_zero, Nat.zero_or])
  | 1, _ => exact key 256 rfl (by decide) rfl (by simp [one8, cat]; omega) (by simp only [bytes8, mask8, one8, List.set, List.zipWith, a0, a1, a2, a3, a4, a5, a6, a7, Nat.or_zero, Nat.and_zero, Nat.zero_or])
  | 2, _ => exact key 65536 rfl (by decide) rfl (by simp [one8, cat]; omega) (by simp only [bytes8, mask8, one8, List.set, List.zipWith, a0, a1, a2, a3, a4, a5, a6, a7, Nat.or_zero, Nat.and_zero, Nat.zero_or])
  | 3, _ => exact key 16777216 rfl (by decide) rfl (by simp [one8, cat]; omega) (by simp only [bytes8, mask8, one8, List.set, List.zipWith, a0, a1, a2, a3, a4, a5, a6, a7, Nat.or_zero, Nat.and_zero, Nat.zero_or])
  | 4, _ => exact key 4294967296 rfl (by decide) rfl (by simp [one8, cat]; omega) (by simp only [bytes8, mask8, one8, List.set, List.zipWith, a0, a1, a2, a3, a4, a5, a6, a7, Nat.or_zero, Nat.and_zero, Nat.zero_or])
  | 5, _ => exact key 1099511627776 rfl (by decide) rfl (by simp [one8, cat]; omega) (by simp only [bytes8, mask8, one8, List.set, List.zipWith, a0, a1, a2, a3, a4, a5, a6, a7, Nat.or_zero, Nat.and_zero, Nat.zero_or])
  | 6, _ => exact key 281474976710656 rfl (by decide) rfl (by simp [one8, cat]; omega) (by simp only [bytes8, mask8, one8, List.set, List.zipWith, a0, a1, a2, a3, a4, a5, a6, a7, Nat.or_zero, Nat.and_zero, Nat.zero_or])
  | 7, _ => exact key 72057594037927936 rfl (by decide) rfl (by simp [one8, cat]; omega) (by simp only [bytes8, mask8, one8, List.set, List.zipWith, a0, a1, a2, a3, a4, a5, a6, a7, Nat.or_zero, Nat.and_zero, Nat.zero_or])
theorem withV_eq {w i b : Int} (hw : 0 ≤ w ∧ w < 18446744073709551616) : withRV w i b = withV w i b := by
  obtain ⟨n, rfl⟩ := Int.eq_ofNat_of_zero_le hw.1
  by_cases h : (0 ≤ i ∧ i ≤ 7) ∧ (0 ≤ b ∧ b ≤ 255)
  · obtain ⟨k, rfl⟩ := Int.eq_ofNat_of_zero_le h.1.1
    obtain ⟨m, rfl⟩ := Int.eq_ofNat_of_zero_le h.2.1
    exact (withR_cat (by omega) (by omega) (by omega)).trans (with_cat (by omega) (by omega) (by omega)).symm
  · unfold withRV withV
    rw [if_neg h, if_neg h]
theorem byteV_eq {w i : Int} (hw : 0 ≤ w ∧ w < 18446744073709551616) : byteRV w i = byteV w i := by
  obtain ⟨n, rfl⟩ := Int.eq_ofNat_of_zero_le hw.1
  exact byteR_get (by omega) i

end Go.Proofs.YteafenadjidkdaaDoor
