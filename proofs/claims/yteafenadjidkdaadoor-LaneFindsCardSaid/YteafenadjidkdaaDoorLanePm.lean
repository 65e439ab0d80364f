/- Bytes that are a number: found, filled, counted. -/
import Derived.Test.YteafenadjidkdaaDoorLanePl
import Derived.WalkKit
import Derived.ProofKit
import Derived.OpenShut
import Derived.ChangeOld
import Derived.Below
import Derived.SizedLaws
namespace Go.Proofs.YteafenadjidkdaaDoor
open Go.Eng
open Go.ChangeShapes Go.WideShapes Go.ChangeAt Go.RowKit
set_option linter.unusedVariables false
set_option linter.unusedSimpArgs false
set_option maxRecDepth 100000
section
variable {l : List Nat}
theorem map_and {f g : Nat → Nat} : ∀ {l : List Nat}, bys l → (∀ x, x < 256 → f x < 256) → (∀ x, x < 256 → g x < 256) → cat (l.map f) &&& cat (l.map g) = cat (l.map fun x => f x &&& g x)
  | [], _, _, _ => by simp [cat]
  | a :: l, h, hf, hg => by
    have h1 := h a List.mem_cons_self
    show (f a + 256 * cat (l.map f)) &&& (g a + 256 * cat (l.map g)) = _
    rw [and_step (hf a h1) (hg a h1), map_and (fun x hx => h x (List.mem_cons_of_mem _ hx)) hf hg]; rfl
theorem map_or {f g : Nat → Nat} : ∀ {l : List Nat}, bys l → (∀ x, x < 256 → f x < 256) → (∀ x, x < 256 → g x < 256) → cat (l.map f) ||| cat (l.map g) = cat (l.map fun x => f x ||| g x)
  | [], _, _, _ => by simp [cat]
  | a :: l, h, hf, hg => by
    have h1 := h a List.mem_cons_self
    show (f a + 256 * cat (l.map f)) ||| (g a + 256 * cat (l.map g)) = _
    rw [or_step (hf a h1) (hg a h1), map_or (fun x hx => h x (List.mem_cons_of_mem _ hx)) hf hg]; rfl
theorem map_xor {f g : Nat → Nat} : ∀ {l : List Nat}, bys l → (∀ x, x < 256 → f x < 256) → (∀ x, x < 256 → g x < 256) → cat (l.map f) ^^^ cat (l.map g) = cat (l.map fun x => f x ^^^ g x)
  | [], _, _, _ => by simp [cat]
  | a :: l, h, hf, hg => by
    have h1 := h a List.mem_cons_self
    show (f a + 256 * cat (l.map f)) ^^^ (g a + 256 * cat (l.map g)) = _
    rw [xor_step (hf a h1) (hg a h1), map_xor (fun x hx => h x (List.mem_cons_of_mem _ hx)) hf hg]; rfl
theorem map_mul {f : Nat → Nat} {m : Nat} : ∀ {l : List Nat}, cat (l.map f) * m = cat (l.map fun x => f x * m)
  | [] => Nat.zero_mul m
  | a :: l => by
    show (f a + 256 * cat (l.map f)) * m = f a * m + 256 * cat (l.map fun x => f x * m)
    rw [← map_mul, Nat.add_mul, Nat.mul_assoc]
theorem map_add {f g : Nat → Nat} : ∀ {l : List Nat}, cat (l.map f) + cat (l.map g) = cat (l.map fun x => f x + g x)
  | [] => rfl
  | a :: l => by
    have := map_add (f := f) (g := g) (l := l)
    show (f a + 256 * cat (l.map f)) + (g a + 256 * cat (l.map g)) = (f a + g a) + 256 * cat (l.map fun x => f x + g x)
    omega
theorem map_lt {f : Nat → Nat} (h8 : l.length = 8) (hl : bys l) (hf : ∀ x, x < 256 → f x < 256) : cat (l.map f) < 18446744073709551616 := by
  have := cat_lt (l := l.map f) (fun x hx => by obtain ⟨y, hy, rfl⟩ := List.mem_map.1 hx; exact hf y (hl y hy))
  rw [List.length_map, h8] at this
  exact this
theorem map_const (h8 : l.length = 8) (c : Nat) : cat (l.map fun _ => c) = c * 72340172838076673 := by
  match l, h8 with
  | [_, _, _, _, _, _, _, _], _ => simp only [List.map, cat]; omega
theorem cat_id : cat (l.map fun x => x) = cat l := by rw [List.map_id']
theorem xor_zero_iff : ∀ x b : Nat, (x ^^^ b = 0 ↔ x = b) := fun x b => by
  constructor
  · intro h
    have h2 : x ^^^ b ^^^ b = 0 ^^^ b := by rw [h]
    rwa [Nat.xor_assoc, Nat.xor_self, Nat.xor_zero, Nat.zero_xor] at h2
  · rintro rfl; exact Nat.xor_self _
theorem zero_byte : ∀ y : Fin 256, (255 ^^^ (((y.1 &&& 127) + 127 ||| y.1) ||| 127)) &&& 128 = if y.1 = 0 then 128 else 0 := by decide +kernel
theorem zero_byte2 : ∀ y : Fin 256, (y.1 &&& 127) + 127 < 256 := by decide +kernel
theorem xlt {x b : Nat} (hx : x < 256) (hb : b < 256) : x ^^^ b < 256 := Nat.xor_lt_two_pow (n := 8) hx hb
theorem olt {x b : Nat} (hx : x < 256) (hb : b < 256) : x ||| b < 256 := Nat.or_lt_two_pow (n := 8) hx hb
theorem alt {x b : Nat} (hx : x < 256) : x &&& b < 256 := Nat.lt_of_le_of_lt Nat.and_le_left hx
/-- Which bytes are a number: 128 in their places. -/
def hit (b x : Nat) : Nat := if x = b then 128 else 0
theorem matchL (h8 : l.length = 8) (hl : bys l) {b : Nat} (hb : b < 256) : matchV (cat l : Int) (b : Int) = (cat (l.map (hit b)) : Int) := by
  unfold matchV
  rw [condF (decide_eq_false (by omega)), condF (decide_eq_false (by omega))]
  have hw : IntKind.wrap .u64 (IntKind.wrap .u64 (b : Int) * 72340172838076673) = ((cat (l.map fun _ => b) : Nat) : Int) := by
    rw [map_const h8, wrap_u64_id (n := (b : Int)) (by omega) (by omega), wrap_u64_id (by omega) (by omega)]; omega
  have k1 : (9187201950435737471 : Int) = ((cat (l.map fun _ => 127) : Nat) : Int) := by rw [map_const h8]; rfl
  have k2 : (9259542123273814144 : Int) = ((cat (l.map fun _ => 128) : Nat) : Int) := by rw [map_const h8]; rfl
  have k3 : (18446744073709551615 : Int) = ((cat (l.map fun _ => 255) : Nat) : Int) := by rw [map_const h8]; rfl
  have c1 : ∀ c, c < 256 → ∀ x, x < 256 → (fun _ : Nat => c) x < 256 := fun c hc _ _ => hc
  have hid : ∀ x, x < 256 → (fun x : Nat => x) x < 256 := fun _ h => h
  have hx : ∀ x, x < 256 → x ^^^ b < 256 := fun x h => xlt h hb
  have lc : ∀ c, c < 256 → cat (l.map fun _ => c) < 18446744073709551616 := fun c hc => map_lt h8 hl (c1 c hc)
  have x1 : bits .xor .u64 (cat l : Int) ((cat (l.map fun _ => b) : Nat) : Int) = ((cat (l.map fun x => x ^^^ b) : Nat) : Int) := by
    rw [bits_xor (by have := map_lt h8 hl hid; rwa [cat_id] at this) (lc b hb), ← cat_id (l := l), map_xor hl hid (c1 b hb)]
  have x2 : bits .and .u64 ((cat (l.map fun x => x ^^^ b) : Nat) : Int) ((cat (l.map fun _ => 127) : Nat) : Int) = ((cat (l.map fun x => (x ^^^ b) &&& 127) : Nat) : Int) := by
    rw [bits_and (map_lt h8 hl hx) (lc _ (by omega)), map_and hl hx (c1 127 (by omega))]
  have b3 : ∀ x, x < 256 → ((x ^^^ b) &&& 127) + 127 < 256 := fun x h => zero_byte2 ⟨x ^^^ b, hx x h⟩
  have x3 : IntKind.wrap .u64 (((cat (l.map fun x => (x ^^^ b) &&& 127) : Nat) : Int) + ((cat (l.map fun _ => 127) : Nat) : Int)) = ((cat (l.map fun x => ((x ^^^ b) &&& 127) + 127) : Nat) : Int) := by
    have := map_lt h8 hl b3
    have e := map_add (f := fun x => (x ^^^ b) &&& 127) (g := fun _ => 127) (l := l)
    rw [← e] at this ⊢
    rw [wrap_u64_id (by omega) (by omega)]; omega
  have b4 : ∀ x, x < 256 → (((x ^^^ b) &&& 127) + 127 ||| (x ^^^ b)) < 256 := fun x h => olt (b3 x h) (hx x h)
  have x4 : bits .or .u64 ((cat (l.map fun x => ((x ^^^ b) &&& 127) + 127) : Nat) : Int) ((cat (l.map fun x => x ^^^ b) : Nat) : Int) = ((cat (l.map fun x => (((x ^^^ b) &&& 127) + 127 ||| (x ^^^ b))) : Nat) : Int) := by
    rw [bits_or (map_lt h8 hl b3) (map_lt h8 hl hx), map_or hl b3 hx]
  have b5 : ∀ x, x < 256 → ((((x ^^^ b) &&& 127) + 127 ||| (x ^^^ b)) ||| 127) < 256 := fun x h => olt (b4 x h) (by omega)
  have x5 : bits .or .u64 ((cat (l.map fun x => (((x ^^^ b) &&& 127) + 127 ||| (x ^^^ b))) : Nat) : Int) ((cat (l.map fun _ => 127) : Nat) : Int) = ((cat (l.map fun x => ((((x ^^^ b) &&& 127) + 127 ||| (x ^^^ b)) ||| 127)) : Nat) : Int) := by
    rw [bits_or (map_lt h8 hl b4) (lc _ (by omega)), map_or hl b4 (c1 127 (by omega))]
  have b6 : ∀ x, x < 256 → (255 ^^^ ((((x ^^^ b) &&& 127) + 127 ||| (x ^^^ b)) ||| 127)) < 256 := fun x h => xlt (by omega) (b5 x h)
  have x6 : bits .xor .u64 ((cat (l.map fun _ => 255) : Nat) : Int) ((cat (l.map fun x => ((((x ^^^ b) &&& 127) + 127 ||| (x ^^^ b)) ||| 127)) : Nat) : Int) = ((cat (l.map fun x => (255 ^^^ ((((x ^^^ b) &&& 127) + 127 ||| (x ^^^ b)) ||| 127))) : Nat) : Int) := by
    rw [bits_xor (lc _ (by omega)) (map_lt h8 hl b5), map_xor hl (c1 255 (by omega)) b5]
  have x7 : bits .and .u64 ((cat (l.map fun x => (255 ^^^ ((((x ^^^ b) &&& 127) + 127 ||| (x ^^^ b)) ||| 127))) : Nat) : Int) ((cat (l.map fun _ => 128) : Nat) : Int) = ((cat (l.map fun x => (255 ^^^ ((((x ^^^ b) &&& 127) + 127 ||| (x ^^^ b)) ||| 127)) &&& 128) : Nat) : Int) := by
    rw [bits_and (map_lt h8 hl b6) (lc _ (by omega)), map_and hl b6 (c1 128 (by omega))]
  rw [hw, k1, k2, k3, x1, x2, x3, x4, x5, x6, x7]
  congr 2
  apply List.map_congr_left
  intro x hxl
  rw [zero_byte ⟨x ^^^ b, hx x (hl x hxl)⟩]
  unfold hit
  simp only [xor_zero_iff]
theorem matchV_out {w b : Int} (h : ¬ (0 ≤ b ∧ b ≤ 255)) : matchV w b = 0 := by
  unfold matchV
  by_cases hb : b < 0
  · rw [condT (decide_eq_true hb)]
  · rw [condF (decide_eq_false hb), condT (decide_eq_true (by omega))]
/-- A byte for another one. -/
def swap (a c x : Nat) : Nat := if x = a then c else x
theorem xor_small : ∀ a c : Nat, a < 256 → c < 256 → bits .xor .i64 (a : Int) (c : Int) = ((a ^^^ c : Nat) : Int) := fun a c ha hc => by
  show IntKind.i64.wrap ((BitVec.ofInt 64 a ^^^ BitVec.ofInt 64 c).toNat : Nat) = _
  rw [BitVec.toNat_xor, BitVec.toNat_ofInt, BitVec.toNat_ofInt, IntKind.wrap_i64]
  have h1 : ((a : Int) % ((2 ^ 64 : Nat) : Int)).toNat = a := by omega
  have h2 : ((c : Int) % ((2 ^ 64 : Nat) : Int)).toNat = c := by omega
  have h3 := xlt ha hc
  rw [h1, h2]; omega
theorem fillL (h8 : l.length = 8) (hl : bys l) {a c : Nat} (ha : a < 256) (hc : c < 256) : fillV (cat l : Int) (a : Int) (c : Int) = (cat (l.map (swap a c)) : Int) := by
  have hm := matchL h8 hl ha
  unfold matchV at hm
  rw [condF (decide_eq_false (by omega)), condF (decide_eq_false (by omega))] at hm
  unfold fillV
  rw [condF (decide_eq_false (by omega)), condF (decide_eq_false (by omega)), condF (decide_eq_false (by omega)), condF (decide_eq_false (by omega)), condF (decide_eq_false (by omega)), condF (decide_eq_false (by omega)), hm, xor_small a c ha hc]
  have hx := xlt ha hc
  have e1 : cat (l.map (hit a)) = cat (l.map fun x => if x = a then 1 else 0) * 128 := by
    rw [map_mul]; congr 1; apply List.map_congr_left; intro x _; unfold hit; split <;> rfl
  have e2 : Int.fdiv ((cat (l.map (hit a)) : Nat) : Int) (2 ^ 7) = ((cat (l.map fun x => if x = a then 1 else 0) : Nat) : Int) := by
    rw [e1, Int.fdiv_eq_ediv_of_nonneg _ (by decide)]
    show ((cat (l.map fun x => if x = a then 1 else 0) * 128 : Nat) : Int) / 128 = _
    omega
  have bs : ∀ x, x < 256 → (if x = a then (a ^^^ c) else 0) < 256 := fun x _ => by split <;> omega
  have e3 : cat (l.map fun x => if x = a then 1 else 0) * (a ^^^ c) = cat (l.map fun x => if x = a then (a ^^^ c) else 0) := by
    rw [map_mul]; congr 1; apply List.map_congr_left; intro x _; split <;> simp
  have e4 := map_lt h8 hl bs
  rw [e2, wrap_u64_id (n := ((a ^^^ c : Nat) : Int)) (by omega) (by omega)]
  have e5 : ((cat (l.map fun x => if x = a then 1 else 0) : Nat) : Int) * ((a ^^^ c : Nat) : Int) = ((cat (l.map fun x => if x = a then (a ^^^ c) else 0) : Nat) : Int) := by rw [← e3]; push_cast; rfl
  have hid : ∀ x, x < 256 → (fun x : Nat => x) x < 256 := fun _ h => h
  rw [e5, wrap_u64_id (by omega) (by omega), bits_xor (by have := map_lt h8 hl hid; rwa [cat_id] at this) e4, ← cat_id (l := l), map_xor hl hid bs]
  congr 2
  apply List.map_congr_left
  intro x _
  unfold swap
  by_cases h : x = a
  · rw [if_pos h, if_pos h, h, ← Nat.xor_assoc, Nat.xor_self, Nat.zero_xor]
  · rw [if_neg h, if_neg h, Nat.xor_zero]
theorem fillV_out {w a c : Int} (h : ¬ ((0 ≤ a ∧ a ≤ 255) ∧ (0 ≤ c ∧ c ≤ 255))) : fillV w a c = w := by
  unfold fillV
  by_cases h1 : c < 0
  · rw [condT (decide_eq_true h1)]
  · rw [condF (decide_eq_false h1)]
    by_cases h2 : c > 255
    · rw [condT (decide_eq_true h2)]
    · rw [condF (decide_eq_false h2)]
      by_cases h3 : a < 0
      · rw [condT (decide_eq_true h3)]
      · rw [condF (decide_eq_false h3), condT (decide_eq_true (by omega))]
/-- How many. -/
def many (p : Nat → Bool) : List Nat → Nat
  | [] => 0
  | x :: xs => (if p x then 1 else 0) + many p xs
def hot (b : Bool) : Nat := if b then 128 else 0
def hot1 (b : Bool) : Nat := if b then 1 else 0
theorem pop8 : ∀ a b c d e f g h : Bool, popV ((cat [hot a, hot b, hot c, hot d, hot e, hot f, hot g, hot h] : Nat) : Int) = ((hot1 a + (hot1 b + (hot1 c + (hot1 d + (hot1 e + (hot1 f + (hot1 g + (hot1 h + 0))))))) : Nat) : Int) := by decide +kernel
theorem pop_many (h8 : l.length = 8) (b : Nat) : popV ((cat (l.map (hit b)) : Nat) : Int) = ((many (fun x => decide (x = b)) l : Nat) : Int) := by
  match l, h8 with
  | [x0, x1, x2, x3, x4, x5, x6, x7], _ =>
    have e : ∀ x, hit b x = hot (decide (x = b)) := fun x => by unfold hit hot; by_cases h : x = b <;> simp [h]
    have e2 : ∀ p : Bool, (if p = true then 1 else 0 : Nat) = hot1 p := fun p => rfl
    simp only [List.map, e, many, e2]
    exact pop8 _ _ _ _ _ _ _ _
end

end Go.Proofs.YteafenadjidkdaaDoor
