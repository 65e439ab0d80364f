/- Plain facts of words and texts. -/
import Derived.Test.YtnhdjmpbmecnoaaPkC
import Derived.WalkKit
import Derived.ProofKit
import Derived.OpenShut
import Derived.ChangeOld
import Derived.Below
import Derived.SizedLaws
namespace Go.Proofs.Ytnhdjmpbmecnoaa
open Go.Eng
open Go.ChangeShapes Go.WideShapes Go.ChangeAt Go.RowKit
set_option linter.unusedVariables false
set_option linter.unusedSimpArgs false
set_option maxRecDepth 100000
theorem cast_bytes (n : Nat) : byteV (n : Int) 0 = ((n % 256 : Nat) : Int) ∧ byteV (n : Int) 1 = ((n / 256 % 256 : Nat) : Int) ∧ byteV (n : Int) 2 = ((n / 65536 % 256 : Nat) : Int) ∧ byteV (n : Int) 3 = ((n / 16777216 % 256 : Nat) : Int)
    ∧ byteV (n : Int) 4 = ((n / 4294967296 % 256 : Nat) : Int) ∧ byteV (n : Int) 5 = ((n / 1099511627776 % 256 : Nat) : Int) ∧ byteV (n : Int) 6 = ((n / 281474976710656 % 256 : Nat) : Int) ∧ byteV (n : Int) 7 = ((n / 72057594037927936 % 256 : Nat) : Int) := by
  refine ⟨?_, ?_, ?_, ?_, ?_, ?_, ?_, ?_⟩ <;> (unfold byteV; rw [if_pos (by decide)])
  · show ((n : Int) / 1) % 256 = _; omega
  · show ((n : Int) / 256) % 256 = _; omega
  · show ((n : Int) / 65536) % 256 = _; omega
  · show ((n : Int) / 16777216) % 256 = _; omega
  · show ((n : Int) / 4294967296) % 256 = _; omega
  · show ((n : Int) / 1099511627776) % 256 = _; omega
  · show ((n : Int) / 281474976710656) % 256 = _; omega
  · show ((n : Int) / 72057594037927936) % 256 = _; omega
theorem byteV_get (n : Nat) : ∀ k : Nat, k < 8 → byteV (n : Int) (k : Int) = (((bytes8 n).getD k 0 : Nat) : Int) := by
  obtain ⟨h0, h1, h2, h3, h4, h5, h6, h7⟩ := cast_bytes n
  intro k hk
  match k, hk with
  | 0, _ => exact h0
  | 1, _ => exact h1
  | 2, _ => exact h2
  | 3, _ => exact h3
  | 4, _ => exact h4
  | 5, _ => exact h5
  | 6, _ => exact h6
  | 7, _ => exact h7
theorem divs_nat {n : Nat} (hn : n < 18446744073709551616) : ∀ k, divs k (n : Int) = ((n / 256 ^ k : Nat) : Int)
  | 0 => by simp [divs]
  | k + 1 => by
    have h := divs_nat hn k
    have hle : n / 256 ^ k ≤ n := Nat.div_le_self _ _
    unfold divs
    rw [h, Nat.pow_succ, ← Nat.div_div_eq_div_mul]
    clear h
    generalize n / 256 ^ k = q at hle ⊢
    rw [Int.tdiv_eq_ediv_of_nonneg (by omega), wrap_u64_id (by omega) (by omega)]
    omega
theorem byteR_get {n : Nat} (hn : n < 18446744073709551616) (i : Int) : byteRV (n : Int) i = byteV (n : Int) i := by
  unfold byteRV byteV
  by_cases h : 0 ≤ i ∧ i ≤ 7
  · rw [if_pos h, if_pos h, divs_nat hn, Int.tmod_eq_emod_of_nonneg (Int.natCast_nonneg _), wrap_i64_id (by generalize ((n / 256 ^ Int.toNat i : Nat) : Int) = q; omega) (by generalize ((n / 256 ^ Int.toNat i : Nat) : Int) = q; omega)]
    rcases small8 i h.1 h.2 with h | h | h | h | h | h | h | h <;> subst h
    · show ((n / 1 : Nat) : Int) % 256 = ((n : Int) / 1) % 256; omega
    · show ((n / 256 : Nat) : Int) % 256 = ((n : Int) / 256) % 256; omega
    · show ((n / 65536 : Nat) : Int) % 256 = ((n : Int) / 65536) % 256; omega
    · show ((n / 16777216 : Nat) : Int) % 256 = ((n : Int) / 16777216) % 256; omega
    · show ((n / 4294967296 : Nat) : Int) % 256 = ((n : Int) / 4294967296) % 256; omega
    · show ((n / 1099511627776 : Nat) : Int) % 256 = ((n : Int) / 1099511627776) % 256; omega
    · show ((n / 281474976710656 : Nat) : Int) % 256 = ((n : Int) / 281474976710656) % 256; omega
    · show ((n / 72057594037927936 : Nat) : Int) % 256 = ((n : Int) / 72057594037927936) % 256; omega
  · rw [if_neg h, if_neg h]
theorem horn_cat : ∀ {l : List Nat}, bys l → l.length ≤ 8 → hornR (l.map fun (n : Nat) => (n : Int)) = (cat l : Int)
  | [], _, _ => rfl
  | b :: bs, h, hl => by
    have h1 := h b List.mem_cons_self
    have hb : bys bs := fun x hx => h x (List.mem_cons_of_mem _ hx)
    have hl2 : bs.length + 1 ≤ 8 := hl
    have h2 := cat_lt hb
    have h3 : (256 : Nat) ^ bs.length ≤ 256 ^ 7 := Nat.pow_le_pow_right (by omega) (by omega)
    have h4 : (256 : Nat) ^ 7 = 72057594037927936 := rfl
    show IntKind.wrap .u64 (IntKind.wrap .u64 (hornR (bs.map fun (n : Nat) => (n : Int)) * 256) + IntKind.wrap .u64 (b : Int)) = ((b + 256 * cat bs : Nat) : Int)
    rw [horn_cat hb (by omega), wrap_u64_id (n := (b : Int)) (by omega) (by omega), wrap_u64_id (n := (cat bs : Int) * 256) (by omega) (by omega), wrap_u64_id (by omega) (by omega)]
    omega
theorem bytesR_eq {n : Nat} (hn : n < 18446744073709551616) : bytesR (n : Int) = (bytes8 n).map fun (n : Nat) => (n : Int) := by
  obtain ⟨h0, h1, h2, h3, h4, h5, h6, h7⟩ := cast_bytes n
  unfold bytesR bytes8
  simp only [byteR_get hn, h0, h1, h2, h3, h4, h5, h6, h7, List.map_cons, List.map_nil]
theorem bys_set {l : List Nat} (h : bys l) (k m : Nat) (hm : m < 256) : bys (l.set k m) := fun x hx => by
  rcases List.mem_or_eq_of_mem_set hx with h1 | h1
  · exact h x h1
  · omega
theorem withR_cat {n : Nat} (hn : n < 18446744073709551616) {k m : Nat} (hk : k < 8) (hm : m < 256) : withRV (n : Int) (k : Int) (m : Int) = (cat ((bytes8 n).set k m) : Int) := by
  unfold withRV
  rw [if_pos (by omega), bytesR_eq hn, ← horn_cat (bys_set (bys_bytes8 n) k m hm) (by simp [bytes8])]
  congr 1
  rw [List.map_set]; rfl
theorem byteV_eq {w i : Int} (hw : 0 ≤ w ∧ w < 18446744073709551616) : byteRV w i = byteV w i := by
  obtain ⟨n, rfl⟩ := Int.eq_ofNat_of_zero_le hw.1
  exact byteR_get (by omega) i

/-- A text's byte; 0 behind it. -/
def bt (s : ByteArray) (i : Nat) : Nat := (s.data.toList.getD i 0).toNat
theorem bt_lt (s : ByteArray) (i : Nat) : bt s i < 256 := (s.data.toList.getD i 0).toNat_lt
theorem bt_zero {s : ByteArray} {i : Nat} (h : s.size ≤ i) : bt s i = 0 := by
  unfold bt
  rw [List.getD_eq_getElem?_getD, List.getElem?_eq_none (by simpa using h)]
  rfl
def LB (s : ByteArray) (p : Nat) : List Nat := [bt s p, bt s (p + 1), bt s (p + 2), bt s (p + 3), bt s (p + 4), bt s (p + 5), bt s (p + 6), bt s (p + 7)]
theorem bys_LB (s : ByteArray) (p : Nat) : bys (LB s p) := by
  intro x hx
  simp only [LB, List.mem_cons, List.not_mem_nil, or_false] at hx
  rcases hx with h | h | h | h | h | h | h | h <;> (rw [h]; exact bt_lt _ _)
theorem cut256 {a M : Nat} (ha : a < 256) : (a + 256 * M) % 256 = a ∧ (a + 256 * M) / 256 = M := by omega
theorem bytes8_cat {a b c d e f g h : Nat} (ha : a < 256) (hb : b < 256) (hc : c < 256) (hd : d < 256) (he : e < 256) (hf : f < 256) (hg : g < 256) (hh : h < 256) : bytes8 (cat [a, b, c, d, e, f, g, h]) = [a, b, c, d, e, f, g, h] := by
  have hn : cat [a, b, c, d, e, f, g, h] = a + 256 * (b + 256 * (c + 256 * (d + 256 * (e + 256 * (f + 256 * (g + 256 * (h + 256 * 0))))))) := rfl
  have d2 : ∀ x : Nat, x / 65536 = x / 256 / 256 := fun x => by omega
  have d3 : ∀ x : Nat, x / 16777216 = x / 256 / 256 / 256 := fun x => by omega
  have d4 : ∀ x : Nat, x / 4294967296 = x / 256 / 256 / 256 / 256 := fun x => by omega
  have d5 : ∀ x : Nat, x / 1099511627776 = x / 256 / 256 / 256 / 256 / 256 := fun x => by omega
  have d6 : ∀ x : Nat, x / 281474976710656 = x / 256 / 256 / 256 / 256 / 256 / 256 := fun x => by omega
  have d7 : ∀ x : Nat, x / 72057594037927936 = x / 256 / 256 / 256 / 256 / 256 / 256 / 256 := fun x => by omega
  unfold bytes8
  rw [hn, d2, d3, d4, d5, d6, d7]
  simp only [(cut256 ha).1, (cut256 ha).2, (cut256 hb).1, (cut256 hb).2, (cut256 hc).1, (cut256 hc).2, (cut256 hd).1, (cut256 hd).2, (cut256 he).1, (cut256 he).2, (cut256 hf).1, (cut256 hf).2, (cut256 hg).1, (cut256 hg).2, (cut256 hh).1]
theorem cat8_lt {a b c d e f g h : Nat} (ha : a < 256) (hb : b < 256) (hc : c < 256) (hd : d < 256) (he : e < 256) (hf : f < 256) (hg : g < 256) (hh : h < 256) : cat [a, b, c, d, e, f, g, h] < 18446744073709551616 := by
  have hb : bys [a, b, c, d, e, f, g, h] := fun x hx => by
    simp only [List.mem_cons, List.not_mem_nil, or_false] at hx
    rcases hx with rfl | rfl | rfl | rfl | rfl | rfl | rfl | rfl <;> assumption
  have h1 := cat_lt hb
  simp only [List.length_cons, List.length_nil, Nat.zero_add, Nat.reduceAdd, Nat.reducePow] at h1
  exact h1
theorem with_at {a b c d e f g h : Nat} (ha : a < 256) (hb : b < 256) (hc : c < 256) (hd : d < 256) (he : e < 256) (hf : f < 256) (hg : g < 256) (hh : h < 256) {k m : Nat} (hk : k < 8) (hm : m < 256) :
    withRV ((cat [a, b, c, d, e, f, g, h] : Nat) : Int) ((k : Nat) : Int) ((m : Nat) : Int) = ((cat ([a, b, c, d, e, f, g, h].set k m) : Nat) : Int) := by
  rw [withR_cat (cat8_lt ha hb hc hd he hf hg hh) hk hm, bytes8_cat ha hb hc hd he hf hg hh]
theorem wrap_bt (s : ByteArray) (i : Nat) : IntKind.wrap .i64 (((s.data.toList.getD i 0).toNat : Nat) : Int) = ((bt s i : Nat) : Int) := by
  have := bt_lt s i
  exact wrap_i64_id (n := ((bt s i : Nat) : Int)) (by omega) (by omega)
theorem partR_eq (s : ByteArray) (p : Nat) : partR s p 1 = ((cat [bt s p, 0, 0, 0, 0, 0, 0, 0] : Nat) : Int) ∧ partR s p 2 = ((cat [bt s p, bt s (p + 1), 0, 0, 0, 0, 0, 0] : Nat) : Int) ∧ partR s p 3 = ((cat [bt s p, bt s (p + 1), bt s (p + 2), 0, 0, 0, 0, 0] : Nat) : Int)
    ∧ partR s p 4 = ((cat [bt s p, bt s (p + 1), bt s (p + 2), bt s (p + 3), 0, 0, 0, 0] : Nat) : Int) ∧ partR s p 5 = ((cat [bt s p, bt s (p + 1), bt s (p + 2), bt s (p + 3), bt s (p + 4), 0, 0, 0] : Nat) : Int)
    ∧ partR s p 6 = ((cat [bt s p, bt s (p + 1), bt s (p + 2), bt s (p + 3), bt s (p + 4), bt s (p + 5), 0, 0] : Nat) : Int) ∧ partR s p 7 = ((cat [bt s p, bt s (p + 1), bt s (p + 2), bt s (p + 3), bt s (p + 4), bt s (p + 5), bt s (p + 6), 0] : Nat) : Int)
    ∧ partR s p 8 = ((cat (LB s p) : Nat) : Int) := by
  have b := fun i => bt_lt s i
  have z : (0 : Nat) < 256 := by omega
  have st : ∀ k : Nat, partR s p (k + 1) = withRV (partR s p k) ((k : Nat) : Int) ((bt s (p + k) : Nat) : Int) := fun k => by
    show withRV _ _ (IntKind.wrap .i64 _) = _
    rw [wrap_bt]
  have h1 : partR s p 1 = ((cat [bt s p, 0, 0, 0, 0, 0, 0, 0] : Nat) : Int) := by
    rw [st 0]; exact with_at z z z z z z z z (k := 0) (by omega) (b _)
  have h2 : partR s p 2 = ((cat [bt s p, bt s (p + 1), 0, 0, 0, 0, 0, 0] : Nat) : Int) := by
    rw [st 1, h1]; exact with_at (b _) z z z z z z z (k := 1) (by omega) (b _)
  have h3 : partR s p 3 = ((cat [bt s p, bt s (p + 1), bt s (p + 2), 0, 0, 0, 0, 0] : Nat) : Int) := by
    rw [st 2, h2]; exact with_at (b _) (b _) z z z z z z (k := 2) (by omega) (b _)
  have h4 : partR s p 4 = ((cat [bt s p, bt s (p + 1), bt s (p + 2), bt s (p + 3), 0, 0, 0, 0] : Nat) : Int) := by
    rw [st 3, h3]; exact with_at (b _) (b _) (b _) z z z z z (k := 3) (by omega) (b _)
  have h5 : partR s p 5 = ((cat [bt s p, bt s (p + 1), bt s (p + 2), bt s (p + 3), bt s (p + 4), 0, 0, 0] : Nat) : Int) := by
    rw [st 4, h4]; exact with_at (b _) (b _) (b _) (b _) z z z z (k := 4) (by omega) (b _)
  have h6 : partR s p 6 = ((cat [bt s p, bt s (p + 1), bt s (p + 2), bt s (p + 3), bt s (p + 4), bt s (p + 5), 0, 0] : Nat) : Int) := by
    rw [st 5, h5]; exact with_at (b _) (b _) (b _) (b _) (b _) z z z (k := 5) (by omega) (b _)
  have h7 : partR s p 7 = ((cat [bt s p, bt s (p + 1), bt s (p + 2), bt s (p + 3), bt s (p + 4), bt s (p + 5), bt s (p + 6), 0] : Nat) : Int) := by
    rw [st 6, h6]; exact with_at (b _) (b _) (b _) (b _) (b _) (b _) z z (k := 6) (by omega) (b _)
  have h8 : partR s p 8 = ((cat (LB s p) : Nat) : Int) := by
    rw [st 7, h7]; exact with_at (b _) (b _) (b _) (b _) (b _) (b _) (b _) z (k := 7) (by omega) (b _)
  exact ⟨h1, h2, h3, h4, h5, h6, h7, h8⟩
theorem wordR_eq {s : ByteArray} {p : Nat} (hp : p < s.size) : wordR s p = ((cat (LB s p) : Nat) : Int) := by
  obtain ⟨h1, h2, h3, h4, h5, h6, h7, h8⟩ := partR_eq s p
  unfold wordR LB
  have bz := fun i (h : s.size ≤ i) => bt_zero h
  rcases Nat.lt_or_ge (s.size - p) 8 with h | h
  · have : s.size - p = 1 ∨ s.size - p = 2 ∨ s.size - p = 3 ∨ s.size - p = 4 ∨ s.size - p = 5 ∨ s.size - p = 6 ∨ s.size - p = 7 := by omega
    rcases this with e | e | e | e | e | e | e
    · rw [e, bz (p + 1) (by omega), bz (p + 2) (by omega), bz (p + 3) (by omega), bz (p + 4) (by omega), bz (p + 5) (by omega), bz (p + 6) (by omega), bz (p + 7) (by omega)]; exact h1
    · rw [e, bz (p + 2) (by omega), bz (p + 3) (by omega), bz (p + 4) (by omega), bz (p + 5) (by omega), bz (p + 6) (by omega), bz (p + 7) (by omega)]; exact h2
    · rw [e, bz (p + 3) (by omega), bz (p + 4) (by omega), bz (p + 5) (by omega), bz (p + 6) (by omega), bz (p + 7) (by omega)]; exact h3
    · rw [e, bz (p + 4) (by omega), bz (p + 5) (by omega), bz (p + 6) (by omega), bz (p + 7) (by omega)]; exact h4
    · rw [e, bz (p + 5) (by omega), bz (p + 6) (by omega), bz (p + 7) (by omega)]; exact h5
    · rw [e, bz (p + 6) (by omega), bz (p + 7) (by omega)]; exact h6
    · rw [e, bz (p + 7) (by omega)]; exact h7
  · rw [Nat.min_eq_left h]; exact h8
theorem padA_get {s : ByteArray} {m : Nat} (h : s.size ≤ 8 * m) (i : Nat) : (padA s m).getD i 0 = ((bt s i : Nat) : Int) := by
  have hl : s.data.toList.length = s.size := by simp
  unfold padA
  rw [List.take_zero, List.nil_append, List.take_of_length_le (by omega), Nat.zero_add, List.length_map, List.getD_eq_getElem?_getD]
  by_cases hi : i < s.size
  · rw [List.getElem?_append_left (by rw [List.length_map]; omega), List.getElem?_map, List.getElem?_eq_getElem (by omega)]
    unfold bt
    rw [List.getD_eq_getElem?_getD, List.getElem?_eq_getElem (by omega)]
    rfl
  · rw [List.getElem?_append_right (by rw [List.length_map]; omega), bt_zero (by omega), List.getElem?_drop, List.getElem?_replicate]
    split <;> rfl
theorem or_put {a b i : Nat} (hi : i ≤ 56) (ha : a < 2 ^ i) (hb : b < 256) : bits .or .u64 ((a : Nat) : Int) (IntKind.wrap .u64 (IntKind.wrap .u64 ((b : Nat) : Int) * 2 ^ i)) = ((a + b * 2 ^ i : Nat) : Int) := by
  have h1 : 2 ^ i ≤ 2 ^ 56 := Nat.pow_le_pow_right (by omega) hi
  have h2 : b * 2 ^ i ≤ 255 * 2 ^ 56 := Nat.mul_le_mul (by omega) h1
  have e1 : IntKind.wrap .u64 ((b : Nat) : Int) = ((b : Nat) : Int) := wrap_u64_id (by omega) (by omega)
  have e2 : ((b : Nat) : Int) * 2 ^ i = ((b * 2 ^ i : Nat) : Int) := by push_cast; rfl
  rw [e1, e2, wrap_u64_id (by omega) (by omega), bits_or (by omega) (by omega), Nat.or_comm, Nat.mul_comm, ← Nat.two_pow_add_eq_or_of_lt ha, Nat.add_comm]
theorem wordA_eq {s : ByteArray} {m p : Nat} (h : s.size ≤ 8 * m) : wordA (padA s m) p = ((cat (LB s p) : Nat) : Int) := by
  unfold wordA
  have b := fun i => bt_lt s i
  simp only [Nat.add_zero, padA_get h]
  have b0 := b p; have b1 := b (p + 1); have b2 := b (p + 2); have b3 := b (p + 3); have b4 := b (p + 4); have b5 := b (p + 5); have b6 := b (p + 6); have b7 := b (p + 7)
  have e0 := or_put (a := 0) (i := 0) (by omega) (by omega) b0
  rw [show ((0 : Nat) : Int) = 0 from rfl] at e0
  rw [e0]
  have e1 := or_put (a := 0 + bt s p * 2 ^ 0) (i := 8) (by omega) (by omega) b1
  rw [e1]
  have e2 := or_put (a := 0 + bt s p * 2 ^ 0 + bt s (p + 1) * 2 ^ 8) (i := 16) (by omega) (by omega) b2
  rw [e2]
  have e3 := or_put (a := 0 + bt s p * 2 ^ 0 + bt s (p + 1) * 2 ^ 8 + bt s (p + 2) * 2 ^ 16) (i := 24) (by omega) (by omega) b3
  rw [e3]
  have e4 := or_put (a := 0 + bt s p * 2 ^ 0 + bt s (p + 1) * 2 ^ 8 + bt s (p + 2) * 2 ^ 16 + bt s (p + 3) * 2 ^ 24) (i := 32) (by omega) (by omega) b4
  rw [e4]
  have e5 := or_put (a := 0 + bt s p * 2 ^ 0 + bt s (p + 1) * 2 ^ 8 + bt s (p + 2) * 2 ^ 16 + bt s (p + 3) * 2 ^ 24 + bt s (p + 4) * 2 ^ 32) (i := 40) (by omega) (by omega) b5
  rw [e5]
  have e6 := or_put (a := 0 + bt s p * 2 ^ 0 + bt s (p + 1) * 2 ^ 8 + bt s (p + 2) * 2 ^ 16 + bt s (p + 3) * 2 ^ 24 + bt s (p + 4) * 2 ^ 32 + bt s (p + 5) * 2 ^ 40) (i := 48) (by omega) (by omega) b6
  rw [e6]
  have e7 := or_put (a := 0 + bt s p * 2 ^ 0 + bt s (p + 1) * 2 ^ 8 + bt s (p + 2) * 2 ^ 16 + bt s (p + 3) * 2 ^ 24 + bt s (p + 4) * 2 ^ 32 + bt s (p + 5) * 2 ^ 40 + bt s (p + 6) * 2 ^ 48) (i := 56) (by omega) (by omega) b7
  rw [e7]
  congr 1
  show _ = bt s p + 256 * (bt s (p + 1) + 256 * (bt s (p + 2) + 256 * (bt s (p + 3) + 256 * (bt s (p + 4) + 256 * (bt s (p + 5) + 256 * (bt s (p + 6) + 256 * (bt s (p + 7) + 256 * 0)))))))
  omega
def wordsN (s : ByteArray) : List Int := (List.range (manyN s)).map fun j => ((cat (LB s (8 * j)) : Nat) : Int)
theorem wordsA_n (s : ByteArray) : wordsA s = wordsN s := by
  unfold wordsA wordsN
  refine List.map_congr_left fun j hj => wordA_eq ?_
  unfold manyN; omega
theorem wordsR_n (s : ByteArray) : wordsR s = wordsN s := by
  unfold wordsR wordsN
  refine List.map_congr_left fun j hj => wordR_eq ?_
  have := List.mem_range.1 hj
  unfold manyN at this; omega
/-- Both make the same words of a text. -/
theorem words_same (s : ByteArray) : wordsA s = wordsR s := by rw [wordsA_n, wordsR_n]

/-! ### Texts -/
def word64 (n : Int) : Prop := 0 ≤ n ∧ n < 18446744073709551616
theorem getD_word {l : List Int} (h : ∀ n ∈ l, word64 n) (i : Nat) : word64 (l.getD i 0) := by
  rw [List.getD_eq_getElem?_getD]
  cases e : l[i]? with
  | none => exact ⟨by decide, by decide⟩
  | some n => exact h n (List.mem_of_getElem? e)
theorem bytesF_same {l : List Int} (h : ∀ n ∈ l, word64 n) (q : Nat) : bytesF byteRV l q = bytesF byteV l q := by
  unfold bytesF
  refine List.map_congr_left fun p _ => ?_
  rw [byteV_eq (getD_word h _)]
theorem byte_range {w : Int} (h : word64 w) (i : Nat) (hi : i < 8) : ∃ b : Nat, b < 256 ∧ byteV w ((i : Nat) : Int) = ((b : Nat) : Int) := by
  obtain ⟨n, rfl⟩ := Int.eq_ofNat_of_zero_le h.1
  have hn : n < 18446744073709551616 := by have := h.2; omega
  refine ⟨(bytes8 n).getD i 0, ?_, byteV_get n i hi⟩
  have hb := bys_bytes8 n
  rw [List.getD_eq_getElem?_getD, List.getElem?_eq_getElem (by simpa [bytes8] using hi)]
  exact hb _ (List.getElem_mem _)
theorem wrap_u8 {b : Nat} (h : b < 256) : IntKind.wrap .u8 ((b : Nat) : Int) = ((b : Nat) : Int) := by
  rw [IntKind.wrap_u8]; omega
theorem bytesF_get (f : Int → Int → Int) (l : List Int) {q p : Nat} (h : p < q) : (bytesF f l q).getD p 0 = IntKind.wrap .u8 (f (l.getD (p / 8) 0) ((p % 8 : Nat) : Int)) := by
  unfold bytesF
  rw [List.getD_eq_getElem?_getD, List.getElem?_map, List.getElem?_range h]
  rfl
theorem bytesF_take (f : Int → Int → Int) (l : List Int) {q k : Nat} (h : k ≤ q) : List.take k (bytesF f l q) = bytesF f l k := by
  unfold bytesF
  rw [← List.map_take, List.take_range, Nat.min_eq_left h]
/-- Both make the same text of words. -/
theorem text_same {l : List Int} (h : ∀ n ∈ l, word64 n) (k : Int) : textA l k = textR l k := by
  unfold textA textR
  by_cases h1 : k < 0
  · rw [if_pos (.inl h1), if_pos (.inl (.inl h1))]
  by_cases h2 : manyV k = ((l.length : Nat) : Int)
  · obtain ⟨h3, h4⟩ := many_le (by omega) h2
    rw [if_neg (by omega), if_neg (by omega)]
    have hz : zerosF (bytesF byteV l (8 * l.length)) k.toNat (8 * l.length - k.toNat) = zerosR l k.toNat (8 * l.length - k.toNat) := by
      unfold zerosF zerosR
      rw [Bool.eq_iff_iff, List.all_eq_true, List.all_eq_true]
      refine forall_congr' fun p => forall_congr' fun hp => ?_
      have := List.mem_range.1 hp
      rw [bytesF_get _ _ (by omega), byteV_eq (getD_word h _)]
      obtain ⟨b, hb, e⟩ := byte_range (getD_word h ((k.toNat + p) / 8)) ((k.toNat + p) % 8) (by omega)
      rw [e, wrap_u8 hb]
    rw [hz, bytesF_take _ _ (by omega), bytesF_same h]
  · rw [if_pos (.inr h2)]
    rw [if_pos (by unfold manyV at h2; split at h2 <;> omega)]
theorem wordsN_len (s : ByteArray) : (wordsN s).length = manyN s := by simp [wordsN]
theorem wordsN_get {s : ByteArray} {j : Nat} (h : j < manyN s) : (wordsN s).getD j 0 = ((cat (LB s (8 * j)) : Nat) : Int) := by
  unfold wordsN
  rw [List.getD_eq_getElem?_getD, List.getElem?_map, List.getElem?_range h]
  rfl
theorem LB_get (s : ByteArray) (p i : Nat) (hi : i < 8) : (LB s p).getD i 0 = bt s (p + i) := by
  match i, hi with
  | 0, _ => rfl
  | 1, _ => rfl
  | 2, _ => rfl
  | 3, _ => rfl
  | 4, _ => rfl
  | 5, _ => rfl
  | 6, _ => rfl
  | 7, _ => rfl
theorem bytes8_LB (s : ByteArray) (p : Nat) : bytes8 (cat (LB s p)) = LB s p := by
  unfold LB
  exact bytes8_cat (bt_lt _ _) (bt_lt _ _) (bt_lt _ _) (bt_lt _ _) (bt_lt _ _) (bt_lt _ _) (bt_lt _ _) (bt_lt _ _)
theorem LB_lt (s : ByteArray) (p : Nat) : cat (LB s p) < 18446744073709551616 := by
  unfold LB
  exact cat8_lt (bt_lt _ _) (bt_lt _ _) (bt_lt _ _) (bt_lt _ _) (bt_lt _ _) (bt_lt _ _) (bt_lt _ _) (bt_lt _ _)
theorem bytesN_get {s : ByteArray} {p : Nat} (h : p < 8 * manyN s) : (bytesF byteV (wordsN s) (8 * manyN s)).getD p 0 = ((bt s p : Nat) : Int) := by
  rw [bytesF_get _ _ h, wordsN_get (by omega), byteV_get _ _ (by omega), bytes8_LB, LB_get _ _ _ (by omega), show 8 * (p / 8) + p % 8 = p by omega, wrap_u8 (bt_lt _ _)]
theorem nums_back {s : ByteArray} {A : List Int} (hl : A.length = s.size) (h : ∀ p, p < s.size → A.getD p 0 = ((bt s p : Nat) : Int)) : bytesOfNums A = s := by
  have hs : s.data.toList.length = s.size := by simp
  unfold bytesOfNums
  have : (A.map fun n => UInt8.ofNat n.toNat) = s.data.toList := by
    refine List.ext_getElem (by rw [List.length_map]; omega) fun p h1 h2 => ?_
    rw [List.getElem_map]
    have := h p (by omega)
    rw [List.getD_eq_getElem?_getD, List.getElem?_eq_getElem (by omega)] at this
    simp only [Option.getD_some] at this
    rw [this]
    unfold bt
    rw [List.getD_eq_getElem?_getD, List.getElem?_eq_getElem h2]
    simp
  rw [this]
/-- A text comes back of its words. -/
theorem text_words (s : ByteArray) : textA (wordsN s) ((s.size : Nat) : Int) = (s, true) := by
  have hm : s.size ≤ 8 * manyN s := by unfold manyN; omega
  unfold textA
  rw [if_neg (by rw [many_size, wordsN_len]; omega), wordsN_len, Int.toNat_natCast, zerosF_t (fun p hp => by rw [bytesN_get (by omega), bt_zero (by omega)]; rfl)]
  show (_, true) = _
  rw [nums_back (A := List.take s.size (bytesF byteV (wordsN s) (8 * manyN s)))]
  · rw [List.length_take, bytesF_len]; omega
  · intro p hp
    rw [List.getD_eq_getElem?_getD, List.getElem?_take, if_pos hp, ← List.getD_eq_getElem?_getD, bytesN_get (by omega)]
theorem bt_nums {A : List Int} {p : Nat} (hb : ∀ i, i < A.length → ∃ b : Nat, b < 256 ∧ A.getD i 0 = ((b : Nat) : Int)) (h : p < A.length) : ((bt (bytesOfNums A) p : Nat) : Int) = A.getD p 0 := by
  obtain ⟨b, h1, h2⟩ := hb p h
  unfold bt bytesOfNums
  rw [h2]
  rw [List.getD_eq_getElem?_getD, List.getElem?_eq_getElem h] at h2
  simp only [Option.getD_some] at h2
  rw [List.getD_eq_getElem?_getD]
  simp only [List.getElem?_map, List.getElem?_eq_getElem h, Option.map_some, Option.getD_some, h2, Int.toNat_natCast, UInt8.toNat_ofNat']
  omega
theorem nums_size (A : List Int) : (bytesOfNums A).size = A.length := by
  unfold bytesOfNums
  show (A.map _).toArray.size = _
  simp
/-- Words that are a text's have nothing behind it. -/
theorem words_text {l : List Int} (h : ∀ n ∈ l, word64 n) {k : Int} {u : ByteArray} (ht : textA l k = (u, true)) : ((u.size : Nat) : Int) = k ∧ wordsN u = l := by
  unfold textA at ht
  split at ht
  · cases ht
  rename_i hg
  simp only [not_or, Decidable.not_not, Int.not_lt] at hg
  obtain ⟨h3, h4⟩ := many_le hg.1 hg.2
  cases hz : zerosF (bytesF byteV l (8 * l.length)) k.toNat (8 * l.length - k.toNat) with
  | false => rw [hz] at ht; cases ht
  | true =>
    rw [hz] at ht
    simp only [cond_true, Prod.mk.injEq, and_true] at ht
    subst ht
    have hlen : (List.take k.toNat (bytesF byteV l (8 * l.length))).length = k.toNat := by rw [List.length_take, bytesF_len]; omega
    have hsz : (bytesOfNums (List.take k.toNat (bytesF byteV l (8 * l.length)))).size = k.toNat := by rw [nums_size, hlen]
    refine ⟨by rw [hsz]; omega, ?_⟩
    have hmany : manyN (bytesOfNums (List.take k.toNat (bytesF byteV l (8 * l.length)))) = l.length := by unfold manyN; rw [hsz]; omega
    have hbt : ∀ p, p < 8 * l.length → ((bt (bytesOfNums (List.take k.toNat (bytesF byteV l (8 * l.length)))) p : Nat) : Int) = byteV (l.getD (p / 8) 0) ((p % 8 : Nat) : Int) := by
      intro p hp
      obtain ⟨b, hb, e⟩ := byte_range (getD_word h (p / 8)) (p % 8) (by omega)
      by_cases hpk : p < k.toNat
      · rw [bt_nums (fun i hi => ?_) (by rw [hlen]; exact hpk)]
        · rw [List.getD_eq_getElem?_getD, List.getElem?_take, if_pos hpk, ← List.getD_eq_getElem?_getD, bytesF_get _ _ hp, e, wrap_u8 hb]
        · rw [hlen] at hi
          obtain ⟨b', hb', e'⟩ := byte_range (getD_word h (i / 8)) (i % 8) (by omega)
          refine ⟨b', hb', ?_⟩
          rw [List.getD_eq_getElem?_getD, List.getElem?_take, if_pos hi, ← List.getD_eq_getElem?_getD, bytesF_get _ _ (by omega), e', wrap_u8 hb']
      · rw [bt_zero (by rw [hsz]; omega)]
        unfold zerosF at hz
        rw [List.all_eq_true] at hz
        have := beq_iff_eq.1 (hz (p - k.toNat) (List.mem_range.2 (by omega)))
        rw [show k.toNat + (p - k.toNat) = p by omega, bytesF_get _ _ hp, e, wrap_u8 hb] at this
        rw [e, this]; rfl
    refine List.ext_getElem (by rw [wordsN_len, hmany]) fun j h1 h2 => ?_
    have hg1 : (wordsN (bytesOfNums (List.take k.toNat (bytesF byteV l (8 * l.length))))).getD j 0 = l.getD j 0 := by
      rw [wordsN_get (by omega)]
      obtain ⟨n, hn⟩ := Int.eq_ofNat_of_zero_le (getD_word h j).1
      have hn2 : n < 18446744073709551616 := by have := (getD_word h j).2; omega
      rw [hn, ← cat_bytes8 hn2]
      congr 2
      have hv := fun (i : Nat) (hi : i < 8) => show bt (bytesOfNums (List.take k.toNat (bytesF byteV l (8 * l.length)))) (8 * j + i) = (bytes8 n).getD i 0 from by
        have h5 := hbt (8 * j + i) (by omega)
        rw [show (8 * j + i) / 8 = j by omega, show (8 * j + i) % 8 = i by omega, hn] at h5
        have h6 := byteV_get n i hi
        omega
      unfold LB
      rw [show bt (bytesOfNums (List.take k.toNat (bytesF byteV l (8 * l.length)))) (8 * j) = (bytes8 n).getD 0 0 from hv 0 (by omega), hv 1 (by omega), hv 2 (by omega), hv 3 (by omega), hv 4 (by omega), hv 5 (by omega), hv 6 (by omega), hv 7 (by omega)]
      rfl
    rw [List.getD_eq_getElem?_getD, List.getElem?_eq_getElem h1, List.getD_eq_getElem?_getD, List.getElem?_eq_getElem h2] at hg1
    exact hg1
theorem text_false {l : List Int} {k : Int} {u : ByteArray} (h : textA l k = (u, false)) : u = (⟨#[]⟩ : ByteArray) := by
  unfold textA at h
  split at h
  · exact (Prod.mk.inj h).1.symm
  · cases hz : zerosF (bytesF byteV l (8 * l.length)) k.toNat (8 * l.length - k.toNat) with
    | false => rw [hz] at h; exact (Prod.mk.inj h).1.symm
    | true => rw [hz] at h; cases (Prod.mk.inj h).2

end Go.Proofs.Ytnhdjmpbmecnoaa
