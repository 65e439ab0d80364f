/- Claims and seals of words. -/
import Derived.Test.YteafenadjidkdaaDoorCtrlPl
import Derived.Test.YteafenadjidkdaaDoorClaimed
import Derived.WalkKit
import Derived.ProofKit
import Derived.OpenShut
import Derived.ChangeOld
import Derived.Below
import Derived.SizedLaws
namespace Go.Proofs.YteafenadjidkdaaDoor.keeps
open Go.Eng
open Go.ChangeShapes Go.WideShapes Go.ChangeAt Go.RowKit
set_option linter.unusedVariables false
set_option linter.unusedSimpArgs false
set_option maxRecDepth 100000
open Go.Proofs.YteafenadjidkdaaDoor.ctrls
open Go.Proofs.YteafenadjidkdaaDoor.claimed (clL clNone claimedE claimedK claimed_tells claimed_ok claimed_fn)
theorem len8 (n : Nat) : (bytes8 n).length = 8 := rfl
theorem set_get {l : List Nat} {k i m : Nat} (hi : i < l.length) : (l.set k m).getD i 0 = if k = i then m else l.getD i 0 := by
  rw [List.getD_eq_getElem?_getD, List.getD_eq_getElem?_getD, List.getElem?_set]
  by_cases h : k = i
  · subst h
    rw [if_pos rfl, if_pos rfl, if_pos hi]; rfl
  · rw [if_neg h, if_neg h]
theorem bytes_cat : ∀ {l : List Nat}, l.length = 8 → bys l → bytes8 (cat l) = l
  | [a, b, c, d, e, f, g, h], _, hl => by
    have ha := hl a (by simp); have hb := hl b (by simp); have hc := hl c (by simp); have hd := hl d (by simp)
    have he := hl e (by simp); have hf := hl f (by simp); have hg := hl g (by simp); have hh := hl h (by simp)
    have e0 : cat [a, b, c, d, e, f, g, h] = a + 256 * (b + 256 * (c + 256 * (d + 256 * (e + 256 * (f + 256 * (g + 256 * h)))))) := by simp [cat]
    rw [e0]
    unfold bytes8
    have q : ∀ x y : Nat, x < 256 → (x + 256 * y) / 256 = y ∧ (x + 256 * y) % 256 = x := fun x y hx => by omega
    have d2 : ∀ n : Nat, n / 65536 = n / 256 / 256 := fun n => by omega
    have d3 : ∀ n : Nat, n / 16777216 = n / 65536 / 256 := fun n => by omega
    have d4 : ∀ n : Nat, n / 4294967296 = n / 16777216 / 256 := fun n => by omega
    have d5 : ∀ n : Nat, n / 1099511627776 = n / 4294967296 / 256 := fun n => by omega
    have d6 : ∀ n : Nat, n / 281474976710656 = n / 1099511627776 / 256 := fun n => by omega
    have d7 : ∀ n : Nat, n / 72057594037927936 = n / 281474976710656 / 256 := fun n => by omega
    rw [d7, d6, d5, d4, d3, d2, (q a _ ha).1, (q a _ ha).2, (q b _ hb).1, (q b _ hb).2, (q c _ hc).1, (q c _ hc).2, (q d _ hd).1, (q d _ hd).2, (q e _ he).1, (q e _ he).2, (q f _ hf).1, (q f _ hf).2, (q g _ hg).1, (q g _ hg).2, Nat.mod_eq_of_lt hh]
theorem byte_with {w : Int} (hw : 0 ≤ w ∧ w < 18446744073709551616) (i b : Int) {k : Int} (hk : 0 ≤ k ∧ k ≤ 7) : byteV (withV w i b) k = if k = i ∧ (0 ≤ b ∧ b ≤ 255) then b else byteV w k := by
  obtain ⟨n, rfl⟩ := Int.eq_ofNat_of_zero_le hw.1
  obtain ⟨k, rfl⟩ := Int.eq_ofNat_of_zero_le hk.1
  by_cases h : (0 ≤ i ∧ i ≤ 7) ∧ (0 ≤ b ∧ b ≤ 255)
  · obtain ⟨j, rfl⟩ := Int.eq_ofNat_of_zero_le h.1.1
    obtain ⟨m, rfl⟩ := Int.eq_ofNat_of_zero_le h.2.1
    have hbs := bys_set (bys_bytes8 n) j m (by omega)
    rw [with_cat (by omega) (by omega) (by omega), byteV_get _ k (by omega), bytes_cat (by simp [bytes8]) hbs, set_get (by simp [bytes8]; omega), byteV_get _ k (by omega)]
    by_cases hj : j = k
    · subst hj; rw [if_pos rfl, if_pos (by omega)]
    · rw [if_neg hj, if_neg (by omega)]
  · have : withV (n : Int) i b = n := by unfold withV; rw [if_neg h]
    rw [this, if_neg (by omega)]
theorem claim_word {x a b : Int} (hx : word x) : word (claimA x a b) := by
  have hw : word (withV x a b) := by
    obtain ⟨n, rfl⟩ := Int.eq_ofNat_of_zero_le hx.1
    have hn : n < 18446744073709551616 := by have := hx.2; omega
    by_cases h : (0 ≤ a ∧ a ≤ 7) ∧ (0 ≤ b ∧ b ≤ 255)
    · obtain ⟨j, rfl⟩ := Int.eq_ofNat_of_zero_le h.1.1
      obtain ⟨m, rfl⟩ := Int.eq_ofNat_of_zero_le h.2.1
      have hb := bys_set (bys_bytes8 n) j m (by omega)
      have hlt := cat_lt hb
      rw [List.length_set, len8] at hlt
      have hlt : cat ((bytes8 n).set j m) < 18446744073709551616 := hlt
      rw [with_cat hn (by omega) (by omega)]
      exact ⟨Int.natCast_nonneg _, by omega⟩
    · have : withV (n : Int) a b = n := by unfold withV; rw [if_neg h]
      rw [this]; exact hx
  unfold claimA
  by_cases h1 : b ≥ 128
  · rw [condT (decide_eq_true h1)]
    by_cases h2 : b ≤ 255
    · rw [decide_eq_true h2]
      cases h3 : (byteV x a != 0) with
      | true => exact hx
      | false => exact hw
    · rw [decide_eq_false h2]; exact hx
  · rw [condF (decide_eq_false h1)]; exact hx
theorem byteR_word {x k : Int} (hx : word x) : byteRV x k = byteV x k := byteV_eq hx
theorem claim_keep {x a b k : Int} (hx : word x) (hk : 0 ≤ k ∧ k ≤ 7) (h : ((byteRV x k) != 0) = true) : byteRV (claimA x a b) k = byteRV x k := by
  have h0 : byteV x k ≠ 0 := by rw [byteR_word hx] at h; simpa using h
  rw [byteR_word (claim_word hx), byteR_word hx]
  unfold claimA
  by_cases h1 : b ≥ 128
  · rw [condT (decide_eq_true h1)]
    by_cases h2 : b ≤ 255
    · rw [decide_eq_true h2]
      by_cases h3 : byteV x a = 0
      · rw [show (byteV x a != 0) = false by rw [h3]; rfl]
        show byteV (withV x a b) k = byteV x k
        rw [byte_with hx a b hk, if_neg]
        rintro ⟨rfl, _⟩
        exact h0 h3
      · rw [show (byteV x a != 0) = true by simpa using h3]; rfl
    · rw [decide_eq_false h2]; rfl
  · rw [condF (decide_eq_false h1)]
theorem seal_cat {n : Nat} (hn : n < 18446744073709551616) : sealA (n : Int) = ((cat ((bytes8 n).map (swap 0 1)) : Nat) : Int) := by
  unfold sealA
  rw [fillW_eq]
  have h := fillL (l := bytes8 n) (len8 n) (bys_bytes8 n) (a := 0) (c := 1) (by omega) (by omega)
  rw [cat_bytes8 hn] at h
  exact h
theorem swap_bys {l : List Nat} (h : bys l) : bys (l.map (swap 0 1)) := fun x hx => by
  obtain ⟨y, hy, rfl⟩ := List.mem_map.1 hx
  unfold swap; split
  · omega
  · exact h y hy
theorem seal_word {x : Int} (hx : word x) : word (sealA x) := by
  obtain ⟨n, rfl⟩ := Int.eq_ofNat_of_zero_le hx.1
  have hn : n < 18446744073709551616 := by have := hx.2; omega
  have hlt := cat_lt (swap_bys (bys_bytes8 n))
  rw [List.length_map, len8] at hlt
  have hlt : cat ((bytes8 n).map (swap 0 1)) < 18446744073709551616 := hlt
  rw [seal_cat hn]
  exact ⟨Int.natCast_nonneg _, by omega⟩
theorem seal_byte {x k : Int} (hx : word x) (hk : 0 ≤ k ∧ k ≤ 7) : byteV (sealA x) k = if byteV x k = 0 then 1 else byteV x k := by
  obtain ⟨n, rfl⟩ := Int.eq_ofNat_of_zero_le hx.1
  have hn : n < 18446744073709551616 := by have := hx.2; omega
  obtain ⟨j, rfl⟩ := Int.eq_ofNat_of_zero_le hk.1
  have hj : j < 8 := by omega
  rw [seal_cat hn, byteV_get _ j hj, bytes_cat (by simp [bytes8]) (swap_bys (bys_bytes8 n)), byteV_get n j hj]
  rw [List.getD_eq_getElem?_getD, List.getD_eq_getElem?_getD, List.getElem?_map, List.getElem?_eq_getElem (show j < (bytes8 n).length by rw [len8]; exact hj)]
  show ((swap 0 1 (bytes8 n)[j] : Nat) : Int) = if (((bytes8 n)[j] : Nat) : Int) = 0 then 1 else (((bytes8 n)[j] : Nat) : Int)
  unfold swap
  split <;> split <;> omega
theorem seal_seal {x : Int} (hx : word x) : sealA (sealA x) = sealA x := by
  obtain ⟨n, rfl⟩ := Int.eq_ofNat_of_zero_le hx.1
  have hn : n < 18446744073709551616 := by have := hx.2; omega
  have hb := swap_bys (bys_bytes8 n)
  have hlt := cat_lt hb
  rw [List.length_map, len8] at hlt
  have hlt : cat ((bytes8 n).map (swap 0 1)) < 18446744073709551616 := hlt
  rw [seal_cat hn, seal_cat hlt, bytes_cat (by simp [bytes8]) hb, List.map_map]
  congr 2
  apply List.map_congr_left
  intro y _
  show swap 0 1 (swap 0 1 y) = swap 0 1 y
  by_cases h : y = 0
  · subst h; rfl
  · have e : swap 0 1 y = y := if_neg h
    rw [e, e]
theorem class_free {x k : Int} : ((classA x k 0) == 1) = decide (byteV x k = 0) := by
  unfold classA
  by_cases h0 : byteV x k = 0
  · rw [condT (ibeq_t h0), decide_eq_true h0]; rfl
  · rw [condF (ibeq_f h0), decide_eq_false h0]
    by_cases h1 : byteV x k = 1
    · rw [condT (ibeq_t h1)]; rfl
    · rw [condF (ibeq_f h1), condF (ibeq_f h0)]; rfl
theorem class_one {x k : Int} (h : byteV x k = 1) : classA x k 0 = 2 := by
  unfold classA
  rw [condF (ibeq_f (by omega)), condT (ibeq_t h)]
theorem class_two {x k : Int} (h : byteV x k ≠ 0) (hc : classA x k 0 ≠ 0) : classA x k 0 = 2 := by
  unfold classA at hc ⊢
  rw [condF (ibeq_f h)] at hc ⊢
  by_cases h1 : byteV x k = 1
  · rw [condT (ibeq_t h1)]
  · rw [condF (ibeq_f h1), condF (ibeq_f h)] at hc
    exact absurd rfl hc
theorem next_lt {w fr c : Int} : ∀ (m : Nat) (k : Int), (∃ q, k ≤ q ∧ q < k + m ∧ fr ≤ q ∧ classR w q c ≠ 0) → k ≤ nextI w fr c m k ∧ nextI w fr c m k < k + m ∧ classR w (nextI w fr c m k) c ≠ 0
  | 0, k, ⟨q, h1, h2, _, _⟩ => absurd h2 (by omega)
  | m + 1, k, ⟨q, h1, h2, h3, h4⟩ => by
    by_cases h : fr ≤ k ∧ classR w k c ≠ 0
    · have e : nextI w fr c (m + 1) k = k := if_pos h
      rw [e]; exact ⟨by omega, by omega, h.2⟩
    · have e : nextI w fr c (m + 1) k = nextI w fr c m (k + 1) := if_neg h
      have hq : q ≠ k := by rintro rfl; exact h ⟨h3, h4⟩
      obtain ⟨g1, g2, g3⟩ := next_lt m (k + 1) ⟨q, by omega, by omega, h3, h4⟩
      rw [e]; exact ⟨by omega, by omega, g3⟩
theorem seal_next {x k : Int} (hx : word x) (hk : 0 ≤ k ∧ k ≤ 7) (h0 : byteV x k = 0) : nextI (sealA x) 0 0 8 0 < 8 ∧ nextC (sealA x) 0 (nextI (sealA x) 0 0 8 0) = 2 := by
  have hz := seal_word hx
  have hb : byteV (sealA x) k = 1 := by rw [seal_byte hx hk, if_pos h0]
  obtain ⟨g1, g2, g3⟩ := next_lt (w := sealA x) (fr := 0) (c := 0) 8 0 ⟨k, by omega, by omega, by omega, by rw [← class_eq hz, class_one hb]; decide⟩
  refine ⟨by omega, ?_⟩
  unfold Go.Proofs.YteafenadjidkdaaDoor.ctrls.nextC
  rw [if_neg (by omega), ← class_eq hz]
  rw [← class_eq hz] at g3
  refine class_two ?_ g3
  rw [seal_byte hx ⟨by omega, by omega⟩]
  split
  · decide
  · assumption
theorem seal_cl {x : Int} (hx : word x) : ∀ m, m ≤ 8 → clL (sealA x) m = clL x m
  | 0, _ => rfl
  | m + 1, hm => by
    show clL (sealA x) m ++ (if byteV (sealA x) (m : Int) < 128 then [] else [(m : Int)]) = clL x m ++ (if byteV x (m : Int) < 128 then [] else [(m : Int)])
    rw [seal_cl hx m (by omega), seal_byte hx ⟨by omega, by omega⟩]
    by_cases h : byteV x (m : Int) = 0
    · rw [if_pos h, h]; rfl
    · rw [if_neg h]
theorem seal_none {x : Int} (hx : word x) : clNone (sealA x) = clNone x := by
  unfold clNone; rw [seal_cl hx 8 (by omega)]
theorem seal_keep {x k : Int} (hx : word x) (hk : 0 ≤ k ∧ k ≤ 7) (h : ((classA x k 0) == 1) = false) : byteRV (sealA x) k = byteRV x k := by
  rw [class_free] at h
  rw [byteR_word (seal_word hx), byteR_word hx, seal_byte hx hk, if_neg (of_decide_eq_false h)]
theorem four_ok : ∀ (h : AH) (f : FuncId) (args : List Value) (c : Con), fourE (accA h) f args = some c → ConOk Tryd.prog f args h c := by
  intro h f args c hE
  unfold fourE orE at hE
  cases hd : threeDom.contains f with
  | true => rw [hd] at hE; exact three_ok h f args c hE
  | false => rw [hd] at hE; exact nx_ok h f args c hE
theorem four_fn : ∀ f ∈ fourDom, FnOk Tryd.prog f := fun f hf => by
  rcases List.mem_cons.1 hf with rfl | hf
  · exact fitN.fnOk _ (by
      have h0 : fsN.contains 23 = true := by kernel_rfl
      simpa using h0)
  · exact three_fn f hf
def fiveE : ConE := orE fourDom fourE claimedE
def fiveK {β : Type} : ConEK β := orK fourDom fourK claimedK
def fiveDom : List FuncId := 32 :: fourDom
theorem five_agree {β : Type} : AgreeT (conC fiveDom fiveE) (conTk (β := β) fiveDom fiveK) := conTk_agree (orK_tells (orK_tells (plainK_tells _) nx_tells) claimed_tells)
theorem five_sound : SoundC Tryd.prog (conC fiveDom fiveE) := by
  refine SoundC.con ?_ ?_
  · intro f hf
    rcases List.mem_cons.1 hf with rfl | hf
    · exact claimed_fn
    · exact four_fn f hf
  · intro h f args c hm hE
    unfold fiveE orE at hE
    cases hd : fourDom.contains f with
    | true => rw [hd] at hE; exact four_ok h f args c hE
    | false => rw [hd] at hE; exact claimed_ok h f args c hE

end Go.Proofs.YteafenadjidkdaaDoor.keeps
