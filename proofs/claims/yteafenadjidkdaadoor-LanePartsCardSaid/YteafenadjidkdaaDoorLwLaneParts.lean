/- Whatever the word, the place and the bytes: LaneParts answers true. -/
import Derived.Test.YteafenadjidkdaaDoorCards
import Derived.Test.YteafenadjidkdaaDoorTie
import Derived.Test.YteafenadjidkdaaDoorLanePm
import Derived.WalkKit
import Derived.ProofKit
import Derived.OpenShut
import Derived.ChangeOld
import Derived.Below
import Derived.SizedLaws
namespace Go.Proofs.YteafenadjidkdaaDoor.laneParts
open Go.Eng
open Go.ChangeShapes Go.WideShapes Go.ChangeAt Go.RowKit
set_option linter.unusedVariables false
set_option linter.unusedSimpArgs false
set_option maxRecDepth 100000
noncomputable def cfgT : Cfg := ⟨[]⟩
noncomputable def fsT : List FuncId := [5, 19]
theorem fitT : Fit Tryd.prog cfgT fsT := ⟨by kernel_rfl, Cfg.ok_of (by kernel_rfl), by kernel_rfl⟩
/-- A word of a word's bytes. -/
def chain (w : Int) : Int := (withV ((withV ((withV ((withV ((withV ((withV ((withV ((withV (0) (0) (byteV w (0)))) (1) (byteV w (1)))) (2) (byteV w (2)))) (3) (byteV w (3)))) (4) (byteV w (4)))) (5) (byteV w (5)))) (6) (byteV w (6)))) (7) (byteV w (7)))
theorem chain_ne {w : Int} (h : chain w = w) : ((chain w) != w) = false := by rw [h]; exact bne_self_eq_false _
theorem bne_eq {a b : Int} (h : a = b) : (a != b) = false := by rw [h]; exact bne_self_eq_false _
theorem len8 (n : Nat) : (bytes8 n).length = 8 := rfl
theorem set_get {l : List Nat} {k i m : Nat} (hi : i < l.length) : (l.set k m).getD i 0 = if k = i then m else l.getD i 0 := by
  rw [List.getD_eq_getElem?_getD, List.getD_eq_getElem?_getD, List.getElem?_set]
  by_cases h : k = i
  · subst h
    rw [if_pos rfl, if_pos rfl, if_pos hi]; rfl
  · rw [if_neg h, if_neg h]
theorem bytes_cat : ∀ {l : List Nat}, l.length = 8 → bys l → bytes8 (cat l) = l
  | [a, b, c, d, e, f, g, h], _, hl => by
    have ha := hl a (by simp); have hb := hl b (by simp); have hc := hl c (by simp); have hd := hl d (by simp)
    have he := hl e (by simp); have hf := hl f (by simp); have hg := hl g (by simp); have hh := hl h (by simp)
    have e0 : cat [a, b, c, d, e, f, g, h] = a + 256 * (b + 256 * (c + 256 * (d + 256 * (e + 256 * (f + 256 * (g + 256 * h)))))) := by simp [cat]
    rw [e0]
    unfold bytes8
    have q : ∀ x y : Nat, x < 256 → (x + 256 * y) / 256 = y ∧ (x + 256 * y) % 256 = x := fun x y hx => by omega
    have d2 : ∀ n : Nat, n / 65536 = n / 256 / 256 := fun n => by omega
    have d3 : ∀ n : Nat, n / 16777216 = n / 65536 / 256 := fun n => by omega
    have d4 : ∀ n : Nat, n / 4294967296 = n / 16777216 / 256 := fun n => by omega
    have d5 : ∀ n : Nat, n / 1099511627776 = n / 4294967296 / 256 := fun n => by omega
    have d6 : ∀ n : Nat, n / 281474976710656 = n / 1099511627776 / 256 := fun n => by omega
    have d7 : ∀ n : Nat, n / 72057594037927936 = n / 281474976710656 / 256 := fun n => by omega
    rw [d7, d6, d5, d4, d3, d2, (q a _ ha).1, (q a _ ha).2, (q b _ hb).1, (q b _ hb).2, (q c _ hc).1, (q c _ hc).2, (q d _ hd).1, (q d _ hd).2, (q e _ he).1, (q e _ he).2, (q f _ hf).1, (q f _ hf).2, (q g _ hg).1, (q g _ hg).2, Nat.mod_eq_of_lt hh]
theorem byte_with {w : Int} (hw : 0 ≤ w ∧ w < 18446744073709551616) (i b : Int) {k : Int} (hk : 0 ≤ k ∧ k ≤ 7) : byteV (withV w i b) k = if k = i ∧ (0 ≤ b ∧ b ≤ 255) then b else byteV w k := by
  obtain ⟨n, rfl⟩ := Int.eq_ofNat_of_zero_le hw.1
  obtain ⟨k, rfl⟩ := Int.eq_ofNat_of_zero_le hk.1
  by_cases h : (0 ≤ i ∧ i ≤ 7) ∧ (0 ≤ b ∧ b ≤ 255)
  · obtain ⟨j, rfl⟩ := Int.eq_ofNat_of_zero_le h.1.1
    obtain ⟨m, rfl⟩ := Int.eq_ofNat_of_zero_le h.2.1
    have hbs := bys_set (bys_bytes8 n) j m (by omega)
    rw [with_cat (by omega) (by omega) (by omega), byteV_get _ k (by omega), bytes_cat (by simp [bytes8]) hbs, set_get (by simp [bytes8]; omega), byteV_get _ k (by omega)]
    by_cases hj : j = k
    · subst hj; rw [if_pos rfl, if_pos (by omega)]
    · rw [if_neg hj, if_neg (by omega)]
  · have : withV (n : Int) i b = n := by unfold withV; rw [if_neg h]
    rw [this, if_neg (by omega)]
theorem chain_id {w : Int} (hw : 0 ≤ w ∧ w < 18446744073709551616) : chain w = w := by
  obtain ⟨n, rfl⟩ := Int.eq_ofNat_of_zero_le hw.1
  have hn : n < 18446744073709551616 := by omega
  have hb := bys_bytes8 n
  have step : ∀ (l : List Nat) (k : Nat), l.length = 8 → bys l → k < 8 → withV (cat l : Int) (k : Int) (byteV (n : Int) (k : Int)) = ((cat (l.set k ((bytes8 n).getD k 0)) : Nat) : Int) ∧ bys (l.set k ((bytes8 n).getD k 0)) := by
    intro l k h8 hl hk
    have hx : (bytes8 n).getD k 0 < 256 := by
      rw [List.getD_eq_getElem?_getD, List.getElem?_eq_getElem (by rw [len8]; exact hk)]
      exact hb _ (List.getElem_mem _)
    have hlt : cat l < 18446744073709551616 := by have := cat_lt hl; rw [h8] at this; exact this
    rw [byteV_get n k hk, with_cat hlt hk hx, bytes_cat h8 hl]
    exact ⟨rfl, bys_set hl k _ hx⟩
  have z0 : bys [0, 0, 0, 0, 0, 0, 0, 0] := fun x hx => by simp at hx; omega
  obtain ⟨a0, b0⟩ := step _ 0 rfl z0 (by omega)
  obtain ⟨a1, b1⟩ := step _ 1 rfl b0 (by omega)
  obtain ⟨a2, b2⟩ := step _ 2 rfl b1 (by omega)
  obtain ⟨a3, b3⟩ := step _ 3 rfl b2 (by omega)
  obtain ⟨a4, b4⟩ := step _ 4 rfl b3 (by omega)
  obtain ⟨a5, b5⟩ := step _ 5 rfl b4 (by omega)
  obtain ⟨a6, b6⟩ := step _ 6 rfl b5 (by omega)
  obtain ⟨a7, b7⟩ := step _ 7 rfl b6 (by omega)
  have h0 : (0 : Int) = ((cat [0, 0, 0, 0, 0, 0, 0, 0] : Nat) : Int) := rfl
  unfold chain
  have c0 : withV 0 0 (byteV (n : Int) 0) = _ := a0
  rw [c0]
  have c1 := a1; have c2 := a2; have c3 := a3; have c4 := a4; have c5 := a5; have c6 := a6; have c7 := a7
  refine Eq.trans ?_ (congrArg (fun n : Nat => (n : Int)) (cat_bytes8 hn))
  refine Eq.trans (congrArg (fun x => withV x 7 (byteV (n : Int) 7)) ?_) (c7.trans ?_)
  · refine Eq.trans (congrArg (fun x => withV x 6 (byteV (n : Int) 6)) ?_) c6
    refine Eq.trans (congrArg (fun x => withV x 5 (byteV (n : Int) 5)) ?_) c5
    refine Eq.trans (congrArg (fun x => withV x 4 (byteV (n : Int) 4)) ?_) c4
    refine Eq.trans (congrArg (fun x => withV x 3 (byteV (n : Int) 3)) ?_) c3
    refine Eq.trans (congrArg (fun x => withV x 2 (byteV (n : Int) 2)) ?_) c2
    exact c1
  · rfl
theorem many_swap {a c : Nat} (h : a ≠ c) : ∀ l : List Nat, many (fun x => decide (x = a)) (l.map (swap a c)) = 0 ∧ many (fun x => decide (x = c)) (l.map (swap a c)) = many (fun x => decide (x = c)) l + many (fun x => decide (x = a)) l
  | [] => ⟨rfl, rfl⟩
  | x :: l => by
    obtain ⟨h1, h2⟩ := many_swap h l
    have h' : c ≠ a := fun e => h e.symm
    have e1 : many (fun x => decide (x = a)) ((x :: l).map (swap a c)) = (if swap a c x = a then 1 else 0) + many (fun x => decide (x = a)) (l.map (swap a c)) := by
      show (if decide (swap a c x = a) = true then 1 else 0) + _ = _
      simp only [decide_eq_true_eq]
    have e2 : many (fun x => decide (x = c)) ((x :: l).map (swap a c)) = (if swap a c x = c then 1 else 0) + many (fun x => decide (x = c)) (l.map (swap a c)) := by
      show (if decide (swap a c x = c) = true then 1 else 0) + _ = _
      simp only [decide_eq_true_eq]
    have e3 : many (fun x => decide (x = c)) (x :: l) = (if x = c then 1 else 0) + many (fun x => decide (x = c)) l := by
      show (if decide (x = c) = true then 1 else 0) + _ = _
      simp only [decide_eq_true_eq]
    have e4 : many (fun x => decide (x = a)) (x :: l) = (if x = a then 1 else 0) + many (fun x => decide (x = a)) l := by
      show (if decide (x = a) = true then 1 else 0) + _ = _
      simp only [decide_eq_true_eq]
    rw [e1, e2, e3, e4, h1, h2]
    by_cases hx : x = a
    · have s : swap a c x = c := if_pos hx
      rw [s, if_neg h', if_pos rfl, if_neg (by omega), if_pos hx]
      omega
    · have s : swap a c x = x := if_neg hx
      rw [s, if_neg hx]
      omega
theorem many_le (p : Nat → Bool) : ∀ l : List Nat, many p l ≤ l.length
  | [] => Nat.le_refl _
  | x :: l => by
    have := many_le p l
    show (if p x = true then 1 else 0) + many p l ≤ l.length + 1
    split <;> omega
theorem counts {w b fr : Int} (hw : 0 ≤ w ∧ w < 18446744073709551616) (hb : 0 ≤ b ∧ b ≤ 255) (hf : fr ≠ b) :
    popV (matchV (fillV w fr b) fr) = 0 ∧ popV (matchV (fillV w fr b) b) = IntKind.wrap .i64 (popV (matchV w b) + popV (matchV w fr)) := by
  have p0 : popV 0 = 0 := by decide +kernel
  obtain ⟨n, rfl⟩ := Int.eq_ofNat_of_zero_le hw.1
  obtain ⟨c, rfl⟩ := Int.eq_ofNat_of_zero_le hb.1
  have hn : n < 18446744073709551616 := by omega
  have hl := bys_bytes8 n
  have ec : (n : Int) = ((cat (bytes8 n) : Nat) : Int) := by rw [cat_bytes8 hn]
  have l8 := many_le (fun x => decide (x = c)) (bytes8 n)
  rw [len8] at l8
  by_cases h : 0 ≤ fr ∧ fr ≤ 255
  · obtain ⟨a, rfl⟩ := Int.eq_ofNat_of_zero_le h.1
    have hac : a ≠ c := fun e => hf (by rw [e])
    have hs : bys ((bytes8 n).map (swap a c)) := fun x hx => by
      obtain ⟨y, hy, rfl⟩ := List.mem_map.1 hx
      unfold swap; split
      · omega
      · exact hl y hy
    obtain ⟨m1, m2⟩ := many_swap hac (bytes8 n)
    have la := many_le (fun x => decide (x = a)) (bytes8 n)
    rw [len8] at la
    rw [ec, fillL (len8 n) hl (by omega) (by omega), matchL (by simp [bytes8]) hs (by omega), matchL (by simp [bytes8]) hs (by omega), pop_many (by simp [bytes8]), pop_many (by simp [bytes8]), m1, m2, matchL (len8 n) hl (by omega), matchL (len8 n) hl (by omega), pop_many (len8 n), pop_many (len8 n)]
    refine ⟨rfl, ?_⟩
    rw [wrap_i64_id (by omega) (by omega)]; omega
  · rw [fillV_out (fun k => h k.1), matchV_out h, p0, ec, matchL (len8 n) hl (by omega), pop_many (len8 n)]
    refine ⟨rfl, ?_⟩
    rw [wrap_i64_id (by omega) (by omega)]; omega
noncomputable def B : Code := bodyOf Tryd.prog 5
theorem B_is : Tryd.f5.body = some B := by kernel_rfl
theorem B_ok : okCode Tryd.prog.globals.size B = true := by kernel_rfl
noncomputable def S0 (w : Int) (i : Int) (b : Int) (fr : Int) (e0 : TypeId) : KSt := (firstK [(.int .u64 w), (.int .i64 i), (.agg #[(.int .i64 b), (.int .i64 fr)])] 106 ⟨1, 1, [(0, 0, .cells [(.int .u8 0), (.int .u8 1), (.int .u8 56), (.int .u8 2), (.int .u8 57), (.int .u8 49), (.int .u8 28), (.int .u8 3), (.int .u8 61), (.int .u8 58), (.int .u8 42), (.int .u8 50), (.int .u8 38), (.int .u8 29), (.int .u8 17), (.int .u8 4), (.int .u8 62), (.int .u8 47), (.int .u8 59), (.int .u8 36), (.int .u8 45), (.int .u8 43), (.int .u8 51), (.int .u8 22), (.int .u8 53), (.int .u8 39), (.int .u8 33), (.int .u8 30), (.int .u8 24), (.int .u8 18), (.int .u8 12), (.int .u8 5), (.int .u8 63), (.int .u8 55), (.int .u8 48), (.int .u8 27), (.int .u8 60), (.int .u8 41), (.int .u8 37), (.int .u8 16), (.int .u8 46), (.int .u8 35), (.int .u8 44), (.int .u8 21), (.int .u8 52), (.int .u8 32), (.int .u8 23), (.int .u8 11), (.int .u8 54), (.int .u8 26), (.int .u8 40), (.int .u8 15), (.int .u8 34), (.int .u8 20), (.int .u8 31), (.int .u8 10), (.int .u8 25), (.int .u8 14), (.int .u8 19), (.int .u8 9), (.int .u8 13), (.int .u8 8), (.int .u8 7), (.int .u8 6)] e0 false)]⟩)
theorem C : B = .seq (codeAt [0] B) (codeAt [1] B) := by kernel_rfl
noncomputable def S1 (w : Int) (i : Int) (b : Int) (fr : Int) (e0 : TypeId) : KSt := ⟨(frameL 106 [(0, (.int .u64 w)), (1, (.int .i64 i)), (5, (.pointer (some ⟨1, 0, none⟩)))]), ⟨2, 1, [(1, 0, .cells [(.int .i64 b), (.int .i64 fr)] 33 true), (0, 0, .cells [(.int .u8 0), (.int .u8 1), (.int .u8 56), (.int .u8 2), (.int .u8 57), (.int .u8 49), (.int .u8 28), (.int .u8 3), (.int .u8 61), (.int .u8 58), (.int .u8 42), (.int .u8 50), (.int .u8 38), (.int .u8 29), (.int .u8 17), (.int .u8 4), (.int .u8 62), (.int .u8 47), (.int .u8 59), (.int .u8 36), (.int .u8 45), (.int .u8 43), (.int .u8 51), (.int .u8 22), (.int .u8 53), (.int .u8 39), (.int .u8 33), (.int .u8 30), (.int .u8 24), (.int .u8 18), (.int .u8 12), (.int .u8 5), (.int .u8 63), (.int .u8 55), (.int .u8 48), (.int .u8 27), (.int .u8 60), (.int .u8 41), (.int .u8 37), (.int .u8 16), (.int .u8 46), (.int .u8 35), (.int .u8 44), (.int .u8 21), (.int .u8 52), (.int .u8 32), (.int .u8 23), (.int .u8 11), (.int .u8 54), (.int .u8 26), (.int .u8 40), (.int .u8 15), (.int .u8 34), (.int .u8 20), (.int .u8 31), (.int .u8 10), (.int .u8 25), (.int .u8 14), (.int .u8 19), (.int .u8 9), (.int .u8 13), (.int .u8 8), (.int .u8 7), (.int .u8 6)] e0 false)]⟩⟩
theorem R1 (w : Int) (i : Int) (b : Int) (fr : Int) (e0 : TypeId) : evCK Tryd.prog cfgT (runK Tryd.prog cfgT fsT (conT laneDom laneE) 12 40) 12 (codeAt [0] B) (S0 w i b fr e0) (normC 1 [0, 1, 5]) =
  some (.normal, (S1 w i b fr e0)) := by kernel_rfl
theorem C1 : (codeAt [1] B) = .seq (codeAt [1, 0] B) (codeAt [1, 1] B) := by kernel_rfl
noncomputable def S2 (w : Int) (i : Int) (b : Int) (fr : Int) (e0 : TypeId) : KSt := ⟨(frameL 106 [(0, (.int .u64 w)), (1, (.int .i64 i)), (7, (.int .i64 b)), (8, (.int .i64 fr))]), ⟨1, 1, [(0, 0, .cells [(.int .u8 0), (.int .u8 1), (.int .u8 56), (.int .u8 2), (.int .u8 57), (.int .u8 49), (.int .u8 28), (.int .u8 3), (.int .u8 61), (.int .u8 58), (.int .u8 42), (.int .u8 50), (.int .u8 38), (.int .u8 29), (.int .u8 17), (.int .u8 4), (.int .u8 62), (.int .u8 47), (.int .u8 59), (.int .u8 36), (.int .u8 45), (.int .u8 43), (.int .u8 51), (.int .u8 22), (.int .u8 53), (.int .u8 39), (.int .u8 33), (.int .u8 30), (.int .u8 24), (.int .u8 18), (.int .u8 12), (.int .u8 5), (.int .u8 63), (.int .u8 55), (.int .u8 48), (.int .u8 27), (.int .u8 60), (.int .u8 41), (.int .u8 37), (.int .u8 16), (.int .u8 46), (.int .u8 35), (.int .u8 44), (.int .u8 21), (.int .u8 52), (.int .u8 32), (.int .u8 23), (.int .u8 11), (.int .u8 54), (.int .u8 26), (.int .u8 40), (.int .u8 15), (.int .u8 34), (.int .u8 20), (.int .u8 31), (.int .u8 10), (.int .u8 25), (.int .u8 14), (.int .u8 19), (.int .u8 9), (.int .u8 13), (.int .u8 8), (.int .u8 7), (.int .u8 6)] e0 false)]⟩⟩
theorem R2 (w : Int) (i : Int) (b : Int) (fr : Int) (e0 : TypeId) : evCK Tryd.prog cfgT (runK Tryd.prog cfgT fsT (conT laneDom laneE) 12 40) 12 (codeAt [1, 0] B) (S1 w i b fr e0) (normC 1 [0, 1, 7, 8]) =
  some (.normal, (S2 w i b fr e0)) := by kernel_rfl
theorem C1_1 : (codeAt [1, 1] B) = .seq (codeAt [1, 1, 0] B) (codeAt [1, 1, 1] B) := by kernel_rfl
noncomputable def S3 (w : Int) (i : Int) (b : Int) (fr : Int) (e0 : TypeId) : KSt := ⟨(frameL 106 [(0, (.int .u64 w)), (1, (.int .i64 i)), (7, (.int .i64 b)), (8, (.int .i64 fr)), (9, (.int .u64 0))]), ⟨1, 1, [(0, 0, .cells [(.int .u8 0), (.int .u8 1), (.int .u8 56), (.int .u8 2), (.int .u8 57), (.int .u8 49), (.int .u8 28), (.int .u8 3), (.int .u8 61), (.int .u8 58), (.int .u8 42), (.int .u8 50), (.int .u8 38), (.int .u8 29), (.int .u8 17), (.int .u8 4), (.int .u8 62), (.int .u8 47), (.int .u8 59), (.int .u8 36), (.int .u8 45), (.int .u8 43), (.int .u8 51), (.int .u8 22), (.int .u8 53), (.int .u8 39), (.int .u8 33), (.int .u8 30), (.int .u8 24), (.int .u8 18), (.int .u8 12), (.int .u8 5), (.int .u8 63), (.int .u8 55), (.int .u8 48), (.int .u8 27), (.int .u8 60), (.int .u8 41), (.int .u8 37), (.int .u8 16), (.int .u8 46), (.int .u8 35), (.int .u8 44), (.int .u8 21), (.int .u8 52), (.int .u8 32), (.int .u8 23), (.int .u8 11), (.int .u8 54), (.int .u8 26), (.int .u8 40), (.int .u8 15), (.int .u8 34), (.int .u8 20), (.int .u8 31), (.int .u8 10), (.int .u8 25), (.int .u8 14), (.int .u8 19), (.int .u8 9), (.int .u8 13), (.int .u8 8), (.int .u8 7), (.int .u8 6)] e0 false)]⟩⟩
theorem R3 (w : Int) (i : Int) (b : Int) (fr : Int) (e0 : TypeId) : evCK Tryd.prog cfgT (runK Tryd.prog cfgT fsT (conT laneDom laneE) 12 40) 12 (codeAt [1, 1, 0] B) (S2 w i b fr e0) (normC 1 [0, 1, 7, 8, 9]) =
  some (.normal, (S3 w i b fr e0)) := by kernel_rfl
theorem C1_1_1 : (codeAt [1, 1, 1] B) = .seq (codeAt [1, 1, 1, 0] B) (codeAt [1, 1, 1, 1] B) := by kernel_rfl
theorem C1_1_1_0 : (codeAt [1, 1, 1, 0] B) = .seq (codeAt [1, 1, 1, 0, 0] B) (codeAt [1, 1, 1, 0, 1] B) := by kernel_rfl
noncomputable def S4 (w : Int) (i : Int) (b : Int) (fr : Int) (e0 : TypeId) : KSt := ⟨(frameL 106 [(0, (.int .u64 w)), (1, (.int .i64 i)), (7, (.int .i64 b)), (8, (.int .i64 fr)), (9, (.int .u64 0)), (10, (.int .i64 0))]), ⟨1, 1, [(0, 0, .cells [(.int .u8 0), (.int .u8 1), (.int .u8 56), (.int .u8 2), (.int .u8 57), (.int .u8 49), (.int .u8 28), (.int .u8 3), (.int .u8 61), (.int .u8 58), (.int .u8 42), (.int .u8 50), (.int .u8 38), (.int .u8 29), (.int .u8 17), (.int .u8 4), (.int .u8 62), (.int .u8 47), (.int .u8 59), (.int .u8 36), (.int .u8 45), (.int .u8 43), (.int .u8 51), (.int .u8 22), (.int .u8 53), (.int .u8 39), (.int .u8 33), (.int .u8 30), (.int .u8 24), (.int .u8 18), (.int .u8 12), (.int .u8 5), (.int .u8 63), (.int .u8 55), (.int .u8 48), (.int .u8 27), (.int .u8 60), (.int .u8 41), (.int .u8 37), (.int .u8 16), (.int .u8 46), (.int .u8 35), (.int .u8 44), (.int .u8 21), (.int .u8 52), (.int .u8 32), (.int .u8 23), (.int .u8 11), (.int .u8 54), (.int .u8 26), (.int .u8 40), (.int .u8 15), (.int .u8 34), (.int .u8 20), (.int .u8 31), (.int .u8 10), (.int .u8 25), (.int .u8 14), (.int .u8 19), (.int .u8 9), (.int .u8 13), (.int .u8 8), (.int .u8 7), (.int .u8 6)] e0 false)]⟩⟩
theorem R4 (w : Int) (i : Int) (b : Int) (fr : Int) (e0 : TypeId) : evCK Tryd.prog cfgT (runK Tryd.prog cfgT fsT (conT laneDom laneE) 12 40) 12 (codeAt [1, 1, 1, 0, 0] B) (S3 w i b fr e0) (normC 1 [0, 1, 7, 8, 9, 10]) =
  some (.normal, (S4 w i b fr e0)) := by kernel_rfl
noncomputable def S5 (w : Int) (i : Int) (b : Int) (fr : Int) (e0 : TypeId) : KSt := ⟨(frameL 106 [(0, (.int .u64 w)), (1, (.int .i64 i)), (7, (.int .i64 b)), (8, (.int .i64 fr)), (9, (.int .u64 (withV ((withV ((withV ((withV ((withV ((withV ((withV ((withV 0 0 ((byteV w 0)))) 1 ((byteV w 1)))) 2 ((byteV w 2)))) 3 ((byteV w 3)))) 4 ((byteV w 4)))) 5 ((byteV w 5)))) 6 ((byteV w 6)))) 7 ((byteV w 7)))))]), ⟨1, 1, [(0, 0, .cells [(.int .u8 0), (.int .u8 1), (.int .u8 56), (.int .u8 2), (.int .u8 57), (.int .u8 49), (.int .u8 28), (.int .u8 3), (.int .u8 61), (.int .u8 58), (.int .u8 42), (.int .u8 50), (.int .u8 38), (.int .u8 29), (.int .u8 17), (.int .u8 4), (.int .u8 62), (.int .u8 47), (.int .u8 59), (.int .u8 36), (.int .u8 45), (.int .u8 43), (.int .u8 51), (.int .u8 22), (.int .u8 53), (.int .u8 39), (.int .u8 33), (.int .u8 30), (.int .u8 24), (.int .u8 18), (.int .u8 12), (.int .u8 5), (.int .u8 63), (.int .u8 55), (.int .u8 48), (.int .u8 27), (.int .u8 60), (.int .u8 41), (.int .u8 37), (.int .u8 16), (.int .u8 46), (.int .u8 35), (.int .u8 44), (.int .u8 21), (.int .u8 52), (.int .u8 32), (.int .u8 23), (.int .u8 11), (.int .u8 54), (.int .u8 26), (.int .u8 40), (.int .u8 15), (.int .u8 34), (.int .u8 20), (.int .u8 31), (.int .u8 10), (.int .u8 25), (.int .u8 14), (.int .u8 19), (.int .u8 9), (.int .u8 13), (.int .u8 8), (.int .u8 7), (.int .u8 6)] e0 false)]⟩⟩
theorem R5 (w : Int) (i : Int) (b : Int) (fr : Int) (e0 : TypeId) : evCK Tryd.prog cfgT (runK Tryd.prog cfgT fsT (conT laneDom laneE) 12 40) 12 (codeAt [1, 1, 1, 0, 1] B) (S4 w i b fr e0) (normC 1 [0, 1, 7, 8, 9]) =
  some (.normal, (S5 w i b fr e0)) := by kernel_rfl
theorem C1_1_1_1 : (codeAt [1, 1, 1, 1] B) = .seq (codeAt [1, 1, 1, 1, 0] B) (codeAt [1, 1, 1, 1, 1] B) := by kernel_rfl
theorem C1_1_1_1_0 : (codeAt [1, 1, 1, 1, 0] B) = .seq (codeAt [1, 1, 1, 1, 0, 0] B) (codeAt [1, 1, 1, 1, 0, 1] B) := by kernel_rfl
noncomputable def S6 (w : Int) (i : Int) (b : Int) (fr : Int) (e0 : TypeId) : KSt := ⟨(frameL 106 [(0, (.int .u64 w)), (1, (.int .i64 i)), (7, (.int .i64 b)), (8, (.int .i64 fr)), (31, (.bool ((withV ((withV ((withV ((withV ((withV ((withV ((withV ((withV 0 0 ((byteV w 0)))) 1 ((byteV w 1)))) 2 ((byteV w 2)))) 3 ((byteV w 3)))) 4 ((byteV w 4)))) 5 ((byteV w 5)))) 6 ((byteV w 6)))) 7 ((byteV w 7))) != w)))]), ⟨1, 1, [(0, 0, .cells [(.int .u8 0), (.int .u8 1), (.int .u8 56), (.int .u8 2), (.int .u8 57), (.int .u8 49), (.int .u8 28), (.int .u8 3), (.int .u8 61), (.int .u8 58), (.int .u8 42), (.int .u8 50), (.int .u8 38), (.int .u8 29), (.int .u8 17), (.int .u8 4), (.int .u8 62), (.int .u8 47), (.int .u8 59), (.int .u8 36), (.int .u8 45), (.int .u8 43), (.int .u8 51), (.int .u8 22), (.int .u8 53), (.int .u8 39), (.int .u8 33), (.int .u8 30), (.int .u8 24), (.int .u8 18), (.int .u8 12), (.int .u8 5), (.int .u8 63), (.int .u8 55), (.int .u8 48), (.int .u8 27), (.int .u8 60), (.int .u8 41), (.int .u8 37), (.int .u8 16), (.int .u8 46), (.int .u8 35), (.int .u8 44), (.int .u8 21), (.int .u8 52), (.int .u8 32), (.int .u8 23), (.int .u8 11), (.int .u8 54), (.int .u8 26), (.int .u8 40), (.int .u8 15), (.int .u8 34), (.int .u8 20), (.int .u8 31), (.int .u8 10), (.int .u8 25), (.int .u8 14), (.int .u8 19), (.int .u8 9), (.int .u8 13), (.int .u8 8), (.int .u8 7), (.int .u8 6)] e0 false)]⟩⟩
theorem R6 (w : Int) (i : Int) (b : Int) (fr : Int) (e0 : TypeId) : evCK Tryd.prog cfgT (runK Tryd.prog cfgT fsT (conT laneDom laneE) 12 40) 12 (codeAt [1, 1, 1, 1, 0, 0] B) (S5 w i b fr e0) (normC 1 [0, 1, 7, 8, 31]) =
  some (.normal, (S6 w i b fr e0)) := by kernel_rfl
theorem C1_1_1_1_0_1 : (codeAt [1, 1, 1, 1, 0, 1] B) = .cond (.tmp 31) (codeAt [1, 1, 1, 1, 0, 1, 0] B) (codeAt [1, 1, 1, 1, 0, 1, 1] B) := by kernel_rfl
theorem R7 (w : Int) (i : Int) (b : Int) (fr : Int) (e0 : TypeId) : evCK Tryd.prog cfgT (runK Tryd.prog cfgT fsT (conT laneDom laneE) 12 40) 12 (codeAt [1, 1, 1, 1, 0, 1, 1] B) (S6 w i b fr e0) (normC 1 [0, 1, 7, 8]) =
  some (.normal, (S2 w i b fr e0)) := by kernel_rfl
theorem C1_1_1_1_1 : (codeAt [1, 1, 1, 1, 1] B) = .seq (codeAt [1, 1, 1, 1, 1, 0] B) (codeAt [1, 1, 1, 1, 1, 1] B) := by kernel_rfl
noncomputable def S7 (w : Int) (i : Int) (b : Int) (fr : Int) (e0 : TypeId) : KSt := ⟨(frameL 106 [(0, (.int .u64 w)), (1, (.int .i64 i)), (7, (.int .i64 b)), (8, (.int .i64 fr)), (11, (.int .u64 (withV w i b)))]), ⟨1, 1, [(0, 0, .cells [(.int .u8 0), (.int .u8 1), (.int .u8 56), (.int .u8 2), (.int .u8 57), (.int .u8 49), (.int .u8 28), (.int .u8 3), (.int .u8 61), (.int .u8 58), (.int .u8 42), (.int .u8 50), (.int .u8 38), (.int .u8 29), (.int .u8 17), (.int .u8 4), (.int .u8 62), (.int .u8 47), (.int .u8 59), (.int .u8 36), (.int .u8 45), (.int .u8 43), (.int .u8 51), (.int .u8 22), (.int .u8 53), (.int .u8 39), (.int .u8 33), (.int .u8 30), (.int .u8 24), (.int .u8 18), (.int .u8 12), (.int .u8 5), (.int .u8 63), (.int .u8 55), (.int .u8 48), (.int .u8 27), (.int .u8 60), (.int .u8 41), (.int .u8 37), (.int .u8 16), (.int .u8 46), (.int .u8 35), (.int .u8 44), (.int .u8 21), (.int .u8 52), (.int .u8 32), (.int .u8 23), (.int .u8 11), (.int .u8 54), (.int .u8 26), (.int .u8 40), (.int .u8 15), (.int .u8 34), (.int .u8 20), (.int .u8 31), (.int .u8 10), (.int .u8 25), (.int .u8 14), (.int .u8 19), (.int .u8 9), (.int .u8 13), (.int .u8 8), (.int .u8 7), (.int .u8 6)] e0 false)]⟩⟩
theorem R8 (w : Int) (i : Int) (b : Int) (fr : Int) (e0 : TypeId) : evCK Tryd.prog cfgT (runK Tryd.prog cfgT fsT (conT laneDom laneE) 12 40) 12 (codeAt [1, 1, 1, 1, 1, 0] B) (S2 w i b fr e0) (normC 1 [0, 1, 7, 8, 11]) =
  some (.normal, (S7 w i b fr e0)) := by kernel_rfl
theorem C1_1_1_1_1_1 : (codeAt [1, 1, 1, 1, 1, 1] B) = .seq (codeAt [1, 1, 1, 1, 1, 1, 0] B) (codeAt [1, 1, 1, 1, 1, 1, 1] B) := by kernel_rfl
theorem C1_1_1_1_1_1_0 : (codeAt [1, 1, 1, 1, 1, 1, 0] B) = .seq (codeAt [1, 1, 1, 1, 1, 1, 0, 0] B) (codeAt [1, 1, 1, 1, 1, 1, 0, 1] B) := by kernel_rfl
noncomputable def S8 (w : Int) (i : Int) (b : Int) (fr : Int) (e0 : TypeId) : KSt := ⟨(frameL 106 [(0, (.int .u64 w)), (1, (.int .i64 i)), (7, (.int .i64 b)), (8, (.int .i64 fr)), (11, (.int .u64 (withV w i b))), (12, (.int .i64 0))]), ⟨1, 1, [(0, 0, .cells [(.int .u8 0), (.int .u8 1), (.int .u8 56), (.int .u8 2), (.int .u8 57), (.int .u8 49), (.int .u8 28), (.int .u8 3), (.int .u8 61), (.int .u8 58), (.int .u8 42), (.int .u8 50), (.int .u8 38), (.int .u8 29), (.int .u8 17), (.int .u8 4), (.int .u8 62), (.int .u8 47), (.int .u8 59), (.int .u8 36), (.int .u8 45), (.int .u8 43), (.int .u8 51), (.int .u8 22), (.int .u8 53), (.int .u8 39), (.int .u8 33), (.int .u8 30), (.int .u8 24), (.int .u8 18), (.int .u8 12), (.int .u8 5), (.int .u8 63), (.int .u8 55), (.int .u8 48), (.int .u8 27), (.int .u8 60), (.int .u8 41), (.int .u8 37), (.int .u8 16), (.int .u8 46), (.int .u8 35), (.int .u8 44), (.int .u8 21), (.int .u8 52), (.int .u8 32), (.int .u8 23), (.int .u8 11), (.int .u8 54), (.int .u8 26), (.int .u8 40), (.int .u8 15), (.int .u8 34), (.int .u8 20), (.int .u8 31), (.int .u8 10), (.int .u8 25), (.int .u8 14), (.int .u8 19), (.int .u8 9), (.int .u8 13), (.int .u8 8), (.int .u8 7), (.int .u8 6)] e0 false)]⟩⟩
theorem R9 (w : Int) (i : Int) (b : Int) (fr : Int) (e0 : TypeId) : evCK Tryd.prog cfgT (runK Tryd.prog cfgT fsT (conT laneDom laneE) 12 40) 12 (codeAt [1, 1, 1, 1, 1, 1, 0, 0] B) (S7 w i b fr e0) (normC 1 [0, 1, 7, 8, 11, 12]) =
  some (.normal, (S8 w i b fr e0)) := by kernel_rfl
theorem pre (w i b fr k : Int) (e0 : TypeId) (hch : ∀ x : Int, x = x) (hC : chain w = w)   {Q : Ex → St → Prop} (hq : Gets Tryd.prog (varH .u8 tz e0).low (codeAt [1, 1, 1, 1, 1, 1, 0, 1] B) (KSt.low (S8 w i b fr e0)) (onN (fun s => Gets Tryd.prog (varH .u8 tz e0).low (codeAt [1, 1, 1, 1, 1, 1, 1] B) s (Q)) (Q))) : Gets Tryd.prog (varH .u8 tz e0).low B (KSt.low (S0 w i b fr e0)) Q := by
  rw [C]; refine Gets.seq ?_
  refine Gets.ofN fitT lane_sound (conT_agree _ _) 12 40 (by kernel_rfl) (x := .normal) (s' := (S1 w i b fr e0)) (R1 w i b fr e0) ?_
  show Gets _ _ (codeAt [1] B) _ _
  rw [C1]; refine Gets.seq ?_
  refine Gets.ofN fitT lane_sound (conT_agree _ _) 12 40 (by kernel_rfl) (x := .normal) (s' := (S2 w i b fr e0)) (R2 w i b fr e0) ?_
  show Gets _ _ (codeAt [1, 1] B) _ _
  rw [C1_1]; refine Gets.seq ?_
  refine Gets.ofN fitT lane_sound (conT_agree _ _) 12 40 (by kernel_rfl) (x := .normal) (s' := (S3 w i b fr e0)) (R3 w i b fr e0) ?_
  show Gets _ _ (codeAt [1, 1, 1] B) _ _
  rw [C1_1_1]; refine Gets.seq ?_
  rw [C1_1_1_0]; refine Gets.seq ?_
  refine Gets.ofN fitT lane_sound (conT_agree _ _) 12 40 (by kernel_rfl) (x := .normal) (s' := (S4 w i b fr e0)) (R4 w i b fr e0) ?_
  show Gets _ _ (codeAt [1, 1, 1, 0, 1] B) _ _
  refine Gets.ofN fitT lane_sound (conT_agree _ _) 12 40 (by kernel_rfl) (x := .normal) (s' := (S5 w i b fr e0)) (R5 w i b fr e0) ?_
  show Gets _ _ (codeAt [1, 1, 1, 1] B) _ _
  rw [C1_1_1_1]; refine Gets.seq ?_
  rw [C1_1_1_1_0]; refine Gets.seq ?_
  refine Gets.ofN fitT lane_sound (conT_agree _ _) 12 40 (by kernel_rfl) (x := .normal) (s' := (S6 w i b fr e0)) (R6 w i b fr e0) ?_
  show Gets _ _ (codeAt [1, 1, 1, 1, 0, 1] B) _ _
  rw [C1_1_1_1_0_1]; refine Gets.cond false (by kernel_rfl) ((show evalX (KSt.ts (S6 w i b fr e0)) (.tmp 31) = .bool ((withV ((withV ((withV ((withV ((withV ((withV ((withV ((withV 0 0 ((byteV w 0)))) 1 ((byteV w 1)))) 2 ((byteV w 2)))) 3 ((byteV w 3)))) 4 ((byteV w 4)))) 5 ((byteV w 5)))) 6 ((byteV w 6)))) 7 ((byteV w 7))) != w) by kernel_rfl).trans (by rw [(show ((withV ((withV ((withV ((withV ((withV ((withV ((withV ((withV 0 0 ((byteV w 0)))) 1 ((byteV w 1)))) 2 ((byteV w 2)))) 3 ((byteV w 3)))) 4 ((byteV w 4)))) 5 ((byteV w 5)))) 6 ((byteV w 6)))) 7 ((byteV w 7))) != w) = false from by exact chain_ne hC)])) ?_; show Gets _ _ (codeAt [1, 1, 1, 1, 0, 1, 1] B) _ _
  refine Gets.ofN fitT lane_sound (conT_agree _ _) 12 40 (by kernel_rfl) (x := .normal) (s' := (S2 w i b fr e0)) (R7 w i b fr e0) ?_
  show Gets _ _ (codeAt [1, 1, 1, 1, 1] B) _ _
  rw [C1_1_1_1_1]; refine Gets.seq ?_
  refine Gets.ofN fitT lane_sound (conT_agree _ _) 12 40 (by kernel_rfl) (x := .normal) (s' := (S7 w i b fr e0)) (R8 w i b fr e0) ?_
  show Gets _ _ (codeAt [1, 1, 1, 1, 1, 1] B) _ _
  rw [C1_1_1_1_1_1]; refine Gets.seq ?_
  rw [C1_1_1_1_1_1_0]; refine Gets.seq ?_
  refine Gets.ofN fitT lane_sound (conT_agree _ _) 12 40 (by kernel_rfl) (x := .normal) (s' := (S8 w i b fr e0)) (R9 w i b fr e0) ?_
  show Gets _ _ (codeAt [1, 1, 1, 1, 1, 1, 0, 1] B) _ _
  exact hq
noncomputable def S9 (w : Int) (i : Int) (b : Int) (fr : Int) (k : Int) (e0 : TypeId) : KSt := ⟨(frameL 106 [(0, (.int .u64 w)), (1, (.int .i64 i)), (7, (.int .i64 b)), (8, (.int .i64 fr)), (11, (.int .u64 (withV w i b))), (12, (.int .i64 k))]), ⟨1, 1, [(0, 0, .cells [(.int .u8 0), (.int .u8 1), (.int .u8 56), (.int .u8 2), (.int .u8 57), (.int .u8 49), (.int .u8 28), (.int .u8 3), (.int .u8 61), (.int .u8 58), (.int .u8 42), (.int .u8 50), (.int .u8 38), (.int .u8 29), (.int .u8 17), (.int .u8 4), (.int .u8 62), (.int .u8 47), (.int .u8 59), (.int .u8 36), (.int .u8 45), (.int .u8 43), (.int .u8 51), (.int .u8 22), (.int .u8 53), (.int .u8 39), (.int .u8 33), (.int .u8 30), (.int .u8 24), (.int .u8 18), (.int .u8 12), (.int .u8 5), (.int .u8 63), (.int .u8 55), (.int .u8 48), (.int .u8 27), (.int .u8 60), (.int .u8 41), (.int .u8 37), (.int .u8 16), (.int .u8 46), (.int .u8 35), (.int .u8 44), (.int .u8 21), (.int .u8 52), (.int .u8 32), (.int .u8 23), (.int .u8 11), (.int .u8 54), (.int .u8 26), (.int .u8 40), (.int .u8 15), (.int .u8 34), (.int .u8 20), (.int .u8 31), (.int .u8 10), (.int .u8 25), (.int .u8 14), (.int .u8 19), (.int .u8 9), (.int .u8 13), (.int .u8 8), (.int .u8 7), (.int .u8 6)] e0 false)]⟩⟩
theorem C1_1_1_1_1_1_0_1_0_0 : (codeAt [1, 1, 1, 1, 1, 1, 0, 1, 0, 0] B) = .seq (codeAt [1, 1, 1, 1, 1, 1, 0, 1, 0, 0, 0] B) (codeAt [1, 1, 1, 1, 1, 1, 0, 1, 0, 0, 1] B) := by kernel_rfl
theorem C1_1_1_1_1_1_0_1_0_0_0 : (codeAt [1, 1, 1, 1, 1, 1, 0, 1, 0, 0, 0] B) = .seq (codeAt [1, 1, 1, 1, 1, 1, 0, 1, 0, 0, 0, 0] B) (codeAt [1, 1, 1, 1, 1, 1, 0, 1, 0, 0, 0, 1] B) := by kernel_rfl
noncomputable def S10 (w : Int) (i : Int) (b : Int) (fr : Int) (k : Int) (e0 : TypeId) : KSt := ⟨(frameL 106 [(0, (.int .u64 w)), (1, (.int .i64 i)), (7, (.int .i64 b)), (8, (.int .i64 fr)), (11, (.int .u64 (withV w i b))), (12, (.int .i64 k)), (37, (.bool (decide (k < 8))))]), ⟨1, 1, [(0, 0, .cells [(.int .u8 0), (.int .u8 1), (.int .u8 56), (.int .u8 2), (.int .u8 57), (.int .u8 49), (.int .u8 28), (.int .u8 3), (.int .u8 61), (.int .u8 58), (.int .u8 42), (.int .u8 50), (.int .u8 38), (.int .u8 29), (.int .u8 17), (.int .u8 4), (.int .u8 62), (.int .u8 47), (.int .u8 59), (.int .u8 36), (.int .u8 45), (.int .u8 43), (.int .u8 51), (.int .u8 22), (.int .u8 53), (.int .u8 39), (.int .u8 33), (.int .u8 30), (.int .u8 24), (.int .u8 18), (.int .u8 12), (.int .u8 5), (.int .u8 63), (.int .u8 55), (.int .u8 48), (.int .u8 27), (.int .u8 60), (.int .u8 41), (.int .u8 37), (.int .u8 16), (.int .u8 46), (.int .u8 35), (.int .u8 44), (.int .u8 21), (.int .u8 52), (.int .u8 32), (.int .u8 23), (.int .u8 11), (.int .u8 54), (.int .u8 26), (.int .u8 40), (.int .u8 15), (.int .u8 34), (.int .u8 20), (.int .u8 31), (.int .u8 10), (.int .u8 25), (.int .u8 14), (.int .u8 19), (.int .u8 9), (.int .u8 13), (.int .u8 8), (.int .u8 7), (.int .u8 6)] e0 false)]⟩⟩
theorem R10 (w : Int) (i : Int) (b : Int) (fr : Int) (k : Int) (e0 : TypeId) : evCK Tryd.prog cfgT (runK Tryd.prog cfgT fsT (conT laneDom laneE) 12 40) 12 (codeAt [1, 1, 1, 1, 1, 1, 0, 1, 0, 0, 0, 0] B) (S9 w i b fr k e0) (normC 1 [0, 1, 7, 8, 11, 12, 37]) =
  some (.normal, (S10 w i b fr k e0)) := by kernel_rfl
theorem C1_1_1_1_1_1_0_1_0_0_0_1 : (codeAt [1, 1, 1, 1, 1, 1, 0, 1, 0, 0, 0, 1] B) = .cond (.tmp 37) (codeAt [1, 1, 1, 1, 1, 1, 0, 1, 0, 0, 0, 1, 0] B) (codeAt [1, 1, 1, 1, 1, 1, 0, 1, 0, 0, 0, 1, 1] B) := by kernel_rfl
theorem R11 (w : Int) (i : Int) (b : Int) (fr : Int) (k : Int) (e0 : TypeId) : evCK Tryd.prog cfgT (runK Tryd.prog cfgT fsT (conT laneDom laneE) 12 40) 12 (codeAt [1, 1, 1, 1, 1, 1, 0, 1, 0, 0, 0, 1, 0] B) (S10 w i b fr k e0) (normC 1 [0, 1, 7, 8, 11, 12]) =
  some (.normal, (S9 w i b fr k e0)) := by kernel_rfl
theorem C1_1_1_1_1_1_0_1_0_0_1 : (codeAt [1, 1, 1, 1, 1, 1, 0, 1, 0, 0, 1] B) = .seq (codeAt [1, 1, 1, 1, 1, 1, 0, 1, 0, 0, 1, 0] B) (codeAt [1, 1, 1, 1, 1, 1, 0, 1, 0, 0, 1, 1] B) := by kernel_rfl
theorem C1_1_1_1_1_1_0_1_0_0_1_0 : (codeAt [1, 1, 1, 1, 1, 1, 0, 1, 0, 0, 1, 0] B) = .block 3 (codeAt [1, 1, 1, 1, 1, 1, 0, 1, 0, 0, 1, 0, 0] B) := by kernel_rfl
theorem C1_1_1_1_1_1_0_1_0_0_1_0_0 : (codeAt [1, 1, 1, 1, 1, 1, 0, 1, 0, 0, 1, 0, 0] B) = .seq (codeAt [1, 1, 1, 1, 1, 1, 0, 1, 0, 0, 1, 0, 0, 0] B) (codeAt [1, 1, 1, 1, 1, 1, 0, 1, 0, 0, 1, 0, 0, 1] B) := by kernel_rfl
noncomputable def S11 (w : Int) (i : Int) (b : Int) (fr : Int) (k : Int) (e0 : TypeId) : KSt := ⟨(frameL 106 [(0, (.int .u64 w)), (1, (.int .i64 i)), (7, (.int .i64 b)), (8, (.int .i64 fr)), (11, (.int .u64 (withV w i b))), (12, (.int .i64 k)), (13, (.int .i64 (byteV w k)))]), ⟨1, 1, [(0, 0, .cells [(.int .u8 0), (.int .u8 1), (.int .u8 56), (.int .u8 2), (.int .u8 57), (.int .u8 49), (.int .u8 28), (.int .u8 3), (.int .u8 61), (.int .u8 58), (.int .u8 42), (.int .u8 50), (.int .u8 38), (.int .u8 29), (.int .u8 17), (.int .u8 4), (.int .u8 62), (.int .u8 47), (.int .u8 59), (.int .u8 36), (.int .u8 45), (.int .u8 43), (.int .u8 51), (.int .u8 22), (.int .u8 53), (.int .u8 39), (.int .u8 33), (.int .u8 30), (.int .u8 24), (.int .u8 18), (.int .u8 12), (.int .u8 5), (.int .u8 63), (.int .u8 55), (.int .u8 48), (.int .u8 27), (.int .u8 60), (.int .u8 41), (.int .u8 37), (.int .u8 16), (.int .u8 46), (.int .u8 35), (.int .u8 44), (.int .u8 21), (.int .u8 52), (.int .u8 32), (.int .u8 23), (.int .u8 11), (.int .u8 54), (.int .u8 26), (.int .u8 40), (.int .u8 15), (.int .u8 34), (.int .u8 20), (.int .u8 31), (.int .u8 10), (.int .u8 25), (.int .u8 14), (.int .u8 19), (.int .u8 9), (.int .u8 13), (.int .u8 8), (.int .u8 7), (.int .u8 6)] e0 false)]⟩⟩
theorem R12 (w : Int) (i : Int) (b : Int) (fr : Int) (k : Int) (e0 : TypeId) : evCK Tryd.prog cfgT (runK Tryd.prog cfgT fsT (conT laneDom laneE) 12 40) 12 (codeAt [1, 1, 1, 1, 1, 1, 0, 1, 0, 0, 1, 0, 0, 0] B) (S9 w i b fr k e0) (normC 1 [0, 1, 7, 8, 11, 12, 13]) =
  some (.normal, (S11 w i b fr k e0)) := by kernel_rfl
theorem C1_1_1_1_1_1_0_1_0_0_1_0_0_1 : (codeAt [1, 1, 1, 1, 1, 1, 0, 1, 0, 0, 1, 0, 0, 1] B) = .seq (codeAt [1, 1, 1, 1, 1, 1, 0, 1, 0, 0, 1, 0, 0, 1, 0] B) (codeAt [1, 1, 1, 1, 1, 1, 0, 1, 0, 0, 1, 0, 0, 1, 1] B) := by kernel_rfl
theorem C1_1_1_1_1_1_0_1_0_0_1_0_0_1_0 : (codeAt [1, 1, 1, 1, 1, 1, 0, 1, 0, 0, 1, 0, 0, 1, 0] B) = .seq (codeAt [1, 1, 1, 1, 1, 1, 0, 1, 0, 0, 1, 0, 0, 1, 0, 0] B) (codeAt [1, 1, 1, 1, 1, 1, 0, 1, 0, 0, 1, 0, 0, 1, 0, 1] B) := by kernel_rfl
noncomputable def S12 (w : Int) (i : Int) (b : Int) (fr : Int) (k : Int) (e0 : TypeId) : KSt := ⟨(frameL 106 [(0, (.int .u64 w)), (1, (.int .i64 i)), (7, (.int .i64 b)), (8, (.int .i64 fr)), (11, (.int .u64 (withV w i b))), (12, (.int .i64 k)), (13, (.int .i64 (byteV w k))), (53, (.bool (decide (b ≤ 255))))]), ⟨1, 1, [(0, 0, .cells [(.int .u8 0), (.int .u8 1), (.int .u8 56), (.int .u8 2), (.int .u8 57), (.int .u8 49), (.int .u8 28), (.int .u8 3), (.int .u8 61), (.int .u8 58), (.int .u8 42), (.int .u8 50), (.int .u8 38), (.int .u8 29), (.int .u8 17), (.int .u8 4), (.int .u8 62), (.int .u8 47), (.int .u8 59), (.int .u8 36), (.int .u8 45), (.int .u8 43), (.int .u8 51), (.int .u8 22), (.int .u8 53), (.int .u8 39), (.int .u8 33), (.int .u8 30), (.int .u8 24), (.int .u8 18), (.int .u8 12), (.int .u8 5), (.int .u8 63), (.int .u8 55), (.int .u8 48), (.int .u8 27), (.int .u8 60), (.int .u8 41), (.int .u8 37), (.int .u8 16), (.int .u8 46), (.int .u8 35), (.int .u8 44), (.int .u8 21), (.int .u8 52), (.int .u8 32), (.int .u8 23), (.int .u8 11), (.int .u8 54), (.int .u8 26), (.int .u8 40), (.int .u8 15), (.int .u8 34), (.int .u8 20), (.int .u8 31), (.int .u8 10), (.int .u8 25), (.int .u8 14), (.int .u8 19), (.int .u8 9), (.int .u8 13), (.int .u8 8), (.int .u8 7), (.int .u8 6)] e0 false)]⟩⟩
noncomputable def S13 (w : Int) (i : Int) (b : Int) (fr : Int) (k : Int) (e0 : TypeId) : KSt := ⟨(frameL 106 [(0, (.int .u64 w)), (1, (.int .i64 i)), (7, (.int .i64 b)), (8, (.int .i64 fr)), (11, (.int .u64 (withV w i b))), (12, (.int .i64 k)), (13, (.int .i64 (byteV w k))), (53, (.bool false))]), ⟨1, 1, [(0, 0, .cells [(.int .u8 0), (.int .u8 1), (.int .u8 56), (.int .u8 2), (.int .u8 57), (.int .u8 49), (.int .u8 28), (.int .u8 3), (.int .u8 61), (.int .u8 58), (.int .u8 42), (.int .u8 50), (.int .u8 38), (.int .u8 29), (.int .u8 17), (.int .u8 4), (.int .u8 62), (.int .u8 47), (.int .u8 59), (.int .u8 36), (.int .u8 45), (.int .u8 43), (.int .u8 51), (.int .u8 22), (.int .u8 53), (.int .u8 39), (.int .u8 33), (.int .u8 30), (.int .u8 24), (.int .u8 18), (.int .u8 12), (.int .u8 5), (.int .u8 63), (.int .u8 55), (.int .u8 48), (.int .u8 27), (.int .u8 60), (.int .u8 41), (.int .u8 37), (.int .u8 16), (.int .u8 46), (.int .u8 35), (.int .u8 44), (.int .u8 21), (.int .u8 52), (.int .u8 32), (.int .u8 23), (.int .u8 11), (.int .u8 54), (.int .u8 26), (.int .u8 40), (.int .u8 15), (.int .u8 34), (.int .u8 20), (.int .u8 31), (.int .u8 10), (.int .u8 25), (.int .u8 14), (.int .u8 19), (.int .u8 9), (.int .u8 13), (.int .u8 8), (.int .u8 7), (.int .u8 6)] e0 false)]⟩⟩
theorem R13 (w : Int) (i : Int) (b : Int) (fr : Int) (k : Int) (e0 : TypeId) : evCK Tryd.prog cfgT (runK Tryd.prog cfgT fsT (conT laneDom laneE) 12 40) 12 (codeAt [1, 1, 1, 1, 1, 1, 0, 1, 0, 0, 1, 0, 0, 1, 0, 0] B) (S11 w i b fr k e0) (normC 1 [0, 1, 7, 8, 11, 12, 13, 53]) =
  bif (k == i) then
    bif (decide (b ≥ 0)) then
      some (.normal, (S12 w i b fr k e0))
    else
      some (.normal, (S13 w i b fr k e0))
  else
    some (.normal, (S13 w i b fr k e0)) := by kernel_rfl
theorem C1_1_1_1_1_1_0_1_0_0_1_0_0_1_0_1 : (codeAt [1, 1, 1, 1, 1, 1, 0, 1, 0, 0, 1, 0, 0, 1, 0, 1] B) = .cond (.tmp 53) (codeAt [1, 1, 1, 1, 1, 1, 0, 1, 0, 0, 1, 0, 0, 1, 0, 1, 0] B) (codeAt [1, 1, 1, 1, 1, 1, 0, 1, 0, 0, 1, 0, 0, 1, 0, 1, 1] B) := by kernel_rfl
theorem R14 (w : Int) (i : Int) (b : Int) (fr : Int) (k : Int) (e0 : TypeId) : evCK Tryd.prog cfgT (runK Tryd.prog cfgT fsT (conT laneDom laneE) 12 40) 12 (codeAt [1, 1, 1, 1, 1, 1, 0, 1, 0, 0, 1, 0, 0, 1, 0, 1, 1] B) (S13 w i b fr k e0) (normC 1 [0, 1, 7, 8, 11, 12, 13]) =
  some (.normal, (S11 w i b fr k e0)) := by kernel_rfl
theorem C1_1_1_1_1_1_0_1_0_0_1_0_0_1_1 : (codeAt [1, 1, 1, 1, 1, 1, 0, 1, 0, 0, 1, 0, 0, 1, 1] B) = .seq (codeAt [1, 1, 1, 1, 1, 1, 0, 1, 0, 0, 1, 0, 0, 1, 1, 0] B) (codeAt [1, 1, 1, 1, 1, 1, 0, 1, 0, 0, 1, 0, 0, 1, 1, 1] B) := by kernel_rfl
noncomputable def S14 (w : Int) (i : Int) (b : Int) (fr : Int) (k : Int) (e0 : TypeId) : KSt := ⟨(frameL 106 [(0, (.int .u64 w)), (1, (.int .i64 i)), (7, (.int .i64 b)), (8, (.int .i64 fr)), (11, (.int .u64 (withV w i b))), (12, (.int .i64 k)), (59, (.bool ((byteV ((withV w i b)) k) != (byteV w k))))]), ⟨1, 1, [(0, 0, .cells [(.int .u8 0), (.int .u8 1), (.int .u8 56), (.int .u8 2), (.int .u8 57), (.int .u8 49), (.int .u8 28), (.int .u8 3), (.int .u8 61), (.int .u8 58), (.int .u8 42), (.int .u8 50), (.int .u8 38), (.int .u8 29), (.int .u8 17), (.int .u8 4), (.int .u8 62), (.int .u8 47), (.int .u8 59), (.int .u8 36), (.int .u8 45), (.int .u8 43), (.int .u8 51), (.int .u8 22), (.int .u8 53), (.int .u8 39), (.int .u8 33), (.int .u8 30), (.int .u8 24), (.int .u8 18), (.int .u8 12), (.int .u8 5), (.int .u8 63), (.int .u8 55), (.int .u8 48), (.int .u8 27), (.int .u8 60), (.int .u8 41), (.int .u8 37), (.int .u8 16), (.int .u8 46), (.int .u8 35), (.int .u8 44), (.int .u8 21), (.int .u8 52), (.int .u8 32), (.int .u8 23), (.int .u8 11), (.int .u8 54), (.int .u8 26), (.int .u8 40), (.int .u8 15), (.int .u8 34), (.int .u8 20), (.int .u8 31), (.int .u8 10), (.int .u8 25), (.int .u8 14), (.int .u8 19), (.int .u8 9), (.int .u8 13), (.int .u8 8), (.int .u8 7), (.int .u8 6)] e0 false)]⟩⟩
theorem R15 (w : Int) (i : Int) (b : Int) (fr : Int) (k : Int) (e0 : TypeId) : evCK Tryd.prog cfgT (runK Tryd.prog cfgT fsT (conT laneDom laneE) 12 40) 12 (codeAt [1, 1, 1, 1, 1, 1, 0, 1, 0, 0, 1, 0, 0, 1, 1, 0] B) (S11 w i b fr k e0) (normC 1 [0, 1, 7, 8, 11, 12, 59]) =
  some (.normal, (S14 w i b fr k e0)) := by kernel_rfl
theorem C1_1_1_1_1_1_0_1_0_0_1_0_0_1_1_1 : (codeAt [1, 1, 1, 1, 1, 1, 0, 1, 0, 0, 1, 0, 0, 1, 1, 1] B) = .cond (.tmp 59) (codeAt [1, 1, 1, 1, 1, 1, 0, 1, 0, 0, 1, 0, 0, 1, 1, 1, 0] B) (codeAt [1, 1, 1, 1, 1, 1, 0, 1, 0, 0, 1, 0, 0, 1, 1, 1, 1] B) := by kernel_rfl
theorem R16 (w : Int) (i : Int) (b : Int) (fr : Int) (k : Int) (e0 : TypeId) : evCK Tryd.prog cfgT (runK Tryd.prog cfgT fsT (conT laneDom laneE) 12 40) 12 (codeAt [1, 1, 1, 1, 1, 1, 0, 1, 0, 0, 1, 0, 0, 1, 1, 1, 1] B) (S14 w i b fr k e0) (normC 1 [0, 1, 7, 8, 11, 12]) =
  some (.normal, (S9 w i b fr k e0)) := by kernel_rfl
noncomputable def S15 (w : Int) (i : Int) (b : Int) (fr : Int) (k : Int) (e0 : TypeId) : KSt := ⟨(frameL 106 [(0, (.int .u64 w)), (1, (.int .i64 i)), (7, (.int .i64 b)), (8, (.int .i64 fr)), (11, (.int .u64 (withV w i b))), (12, (.int .i64 (IntKind.wrap .i64 (k + 1))))]), ⟨1, 1, [(0, 0, .cells [(.int .u8 0), (.int .u8 1), (.int .u8 56), (.int .u8 2), (.int .u8 57), (.int .u8 49), (.int .u8 28), (.int .u8 3), (.int .u8 61), (.int .u8 58), (.int .u8 42), (.int .u8 50), (.int .u8 38), (.int .u8 29), (.int .u8 17), (.int .u8 4), (.int .u8 62), (.int .u8 47), (.int .u8 59), (.int .u8 36), (.int .u8 45), (.int .u8 43), (.int .u8 51), (.int .u8 22), (.int .u8 53), (.int .u8 39), (.int .u8 33), (.int .u8 30), (.int .u8 24), (.int .u8 18), (.int .u8 12), (.int .u8 5), (.int .u8 63), (.int .u8 55), (.int .u8 48), (.int .u8 27), (.int .u8 60), (.int .u8 41), (.int .u8 37), (.int .u8 16), (.int .u8 46), (.int .u8 35), (.int .u8 44), (.int .u8 21), (.int .u8 52), (.int .u8 32), (.int .u8 23), (.int .u8 11), (.int .u8 54), (.int .u8 26), (.int .u8 40), (.int .u8 15), (.int .u8 34), (.int .u8 20), (.int .u8 31), (.int .u8 10), (.int .u8 25), (.int .u8 14), (.int .u8 19), (.int .u8 9), (.int .u8 13), (.int .u8 8), (.int .u8 7), (.int .u8 6)] e0 false)]⟩⟩
theorem R17 (w : Int) (i : Int) (b : Int) (fr : Int) (k : Int) (e0 : TypeId) : evCK Tryd.prog cfgT (runK Tryd.prog cfgT fsT (conT laneDom laneE) 12 40) 12 (codeAt [1, 1, 1, 1, 1, 1, 0, 1, 0, 0, 1, 1] B) (S9 w i b fr k e0) (normC 1 [0, 1, 7, 8, 11, 12]) =
  some (.normal, (S15 w i b fr k e0)) := by kernel_rfl
noncomputable def S16 (w : Int) (i : Int) (b : Int) (fr : Int) (k : Int) (e0 : TypeId) : KSt := ⟨(frameL 106 [(0, (.int .u64 w)), (1, (.int .i64 i)), (7, (.int .i64 b)), (8, (.int .i64 fr)), (11, (.int .u64 (withV w i b))), (12, (.int .i64 (k + 1)))]), ⟨1, 1, [(0, 0, .cells [(.int .u8 0), (.int .u8 1), (.int .u8 56), (.int .u8 2), (.int .u8 57), (.int .u8 49), (.int .u8 28), (.int .u8 3), (.int .u8 61), (.int .u8 58), (.int .u8 42), (.int .u8 50), (.int .u8 38), (.int .u8 29), (.int .u8 17), (.int .u8 4), (.int .u8 62), (.int .u8 47), (.int .u8 59), (.int .u8 36), (.int .u8 45), (.int .u8 43), (.int .u8 51), (.int .u8 22), (.int .u8 53), (.int .u8 39), (.int .u8 33), (.int .u8 30), (.int .u8 24), (.int .u8 18), (.int .u8 12), (.int .u8 5), (.int .u8 63), (.int .u8 55), (.int .u8 48), (.int .u8 27), (.int .u8 60), (.int .u8 41), (.int .u8 37), (.int .u8 16), (.int .u8 46), (.int .u8 35), (.int .u8 44), (.int .u8 21), (.int .u8 52), (.int .u8 32), (.int .u8 23), (.int .u8 11), (.int .u8 54), (.int .u8 26), (.int .u8 40), (.int .u8 15), (.int .u8 34), (.int .u8 20), (.int .u8 31), (.int .u8 10), (.int .u8 25), (.int .u8 14), (.int .u8 19), (.int .u8 9), (.int .u8 13), (.int .u8 8), (.int .u8 7), (.int .u8 6)] e0 false)]⟩⟩
theorem ne (w i b fr k : Int) (e0 : TypeId) (hk : 0 ≤ k) (hk8 : k < 8) (hi : k ≠ i) (hB : byteV (withV w i b) k = byteV w k)   {Q : Ex → St → Prop} (hq : Q .normal (KSt.low (S16 w i b fr k e0))) : Gets Tryd.prog (varH .u8 tz e0).low (codeAt [1, 1, 1, 1, 1, 1, 0, 1, 0, 0] B) (KSt.low (S9 w i b fr k e0)) Q := by
  rw [C1_1_1_1_1_1_0_1_0_0]; refine Gets.seq ?_
  rw [C1_1_1_1_1_1_0_1_0_0_0]; refine Gets.seq ?_
  refine Gets.ofN fitT lane_sound (conT_agree _ _) 12 40 (by kernel_rfl) (x := .normal) (s' := (S10 w i b fr k e0)) (R10 w i b fr k e0) ?_
  show Gets _ _ (codeAt [1, 1, 1, 1, 1, 1, 0, 1, 0, 0, 0, 1] B) _ _
  rw [C1_1_1_1_1_1_0_1_0_0_0_1]; refine Gets.cond true (by kernel_rfl) ((show evalX (KSt.ts (S10 w i b fr k e0)) (.tmp 37) = .bool (decide (k < 8)) by kernel_rfl).trans (by rw [(show (decide (k < 8)) = true from decide_eq_true (by omega))])) ?_; show Gets _ _ (codeAt [1, 1, 1, 1, 1, 1, 0, 1, 0, 0, 0, 1, 0] B) _ _
  refine Gets.ofN fitT lane_sound (conT_agree _ _) 12 40 (by kernel_rfl) (x := .normal) (s' := (S9 w i b fr k e0)) (R11 w i b fr k e0) ?_
  show Gets _ _ (codeAt [1, 1, 1, 1, 1, 1, 0, 1, 0, 0, 1] B) _ _
  rw [C1_1_1_1_1_1_0_1_0_0_1]; refine Gets.seq ?_
  rw [C1_1_1_1_1_1_0_1_0_0_1_0]; refine Gets.block ?_
  rw [C1_1_1_1_1_1_0_1_0_0_1_0_0]; refine Gets.seq ?_
  refine Gets.ofN fitT lane_sound (conT_agree _ _) 12 40 (by kernel_rfl) (x := .normal) (s' := (S11 w i b fr k e0)) (R12 w i b fr k e0) ?_
  show Gets _ _ (codeAt [1, 1, 1, 1, 1, 1, 0, 1, 0, 0, 1, 0, 0, 1] B) _ _
  rw [C1_1_1_1_1_1_0_1_0_0_1_0_0_1]; refine Gets.seq ?_
  rw [C1_1_1_1_1_1_0_1_0_0_1_0_0_1_0]; refine Gets.seq ?_
  refine Gets.ofN fitT lane_sound (conT_agree _ _) 12 40 (by kernel_rfl) (x := .normal) (s' := (S13 w i b fr k e0)) ((R13 w i b fr k e0).trans (by rw [condF (ibeq_f (by omega))])) ?_
  show Gets _ _ (codeAt [1, 1, 1, 1, 1, 1, 0, 1, 0, 0, 1, 0, 0, 1, 0, 1] B) _ _
  rw [C1_1_1_1_1_1_0_1_0_0_1_0_0_1_0_1]; refine Gets.cond false (by kernel_rfl) (show evalX (KSt.ts (S13 w i b fr k e0)) (.tmp 53) = .bool false by kernel_rfl) ?_; show Gets _ _ (codeAt [1, 1, 1, 1, 1, 1, 0, 1, 0, 0, 1, 0, 0, 1, 0, 1, 1] B) _ _
  refine Gets.ofN fitT lane_sound (conT_agree _ _) 12 40 (by kernel_rfl) (x := .normal) (s' := (S11 w i b fr k e0)) (R14 w i b fr k e0) ?_
  show Gets _ _ (codeAt [1, 1, 1, 1, 1, 1, 0, 1, 0, 0, 1, 0, 0, 1, 1] B) _ _
  rw [C1_1_1_1_1_1_0_1_0_0_1_0_0_1_1]; refine Gets.seq ?_
  refine Gets.ofN fitT lane_sound (conT_agree _ _) 12 40 (by kernel_rfl) (x := .normal) (s' := (S14 w i b fr k e0)) (R15 w i b fr k e0) ?_
  show Gets _ _ (codeAt [1, 1, 1, 1, 1, 1, 0, 1, 0, 0, 1, 0, 0, 1, 1, 1] B) _ _
  rw [C1_1_1_1_1_1_0_1_0_0_1_0_0_1_1_1]; refine Gets.cond false (by kernel_rfl) ((show evalX (KSt.ts (S14 w i b fr k e0)) (.tmp 59) = .bool ((byteV ((withV w i b)) k) != (byteV w k)) by kernel_rfl).trans (by rw [(show ((byteV ((withV w i b)) k) != (byteV w k)) = false from bne_eq hB)])) ?_; show Gets _ _ (codeAt [1, 1, 1, 1, 1, 1, 0, 1, 0, 0, 1, 0, 0, 1, 1, 1, 1] B) _ _
  refine Gets.ofN fitT lane_sound (conT_agree _ _) 12 40 (by kernel_rfl) (x := .normal) (s' := (S9 w i b fr k e0)) (R16 w i b fr k e0) ?_
  show Gets _ _ (codeAt [1, 1, 1, 1, 1, 1, 0, 1, 0, 0, 1, 1] B) _ _
  refine Gets.ofN fitT lane_sound (conT_agree _ _) 12 40 (by kernel_rfl) (x := .normal) (s' := (S16 w i b fr k e0)) ((R17 w i b fr k e0).trans (by (show some (Ex.normal, (S15 w i b fr k e0)) = some (Ex.normal, (S16 w i b fr k e0)); unfold S15 S16; rw [(show (IntKind.wrap .i64 (k + 1)) = (k + 1) from wrap_i64_id (by omega) (by omega))]))) ?_
  exact hq
theorem bl (w i b fr k : Int) (e0 : TypeId) (hk : 0 ≤ k) (hk8 : k < 8) (hi : k = i) (hb : b < 0) (hB : byteV (withV w i b) k = byteV w k)   {Q : Ex → St → Prop} (hq : Q .normal (KSt.low (S16 w i b fr k e0))) : Gets Tryd.prog (varH .u8 tz e0).low (codeAt [1, 1, 1, 1, 1, 1, 0, 1, 0, 0] B) (KSt.low (S9 w i b fr k e0)) Q := by
  rw [C1_1_1_1_1_1_0_1_0_0]; refine Gets.seq ?_
  rw [C1_1_1_1_1_1_0_1_0_0_0]; refine Gets.seq ?_
  refine Gets.ofN fitT lane_sound (conT_agree _ _) 12 40 (by kernel_rfl) (x := .normal) (s' := (S10 w i b fr k e0)) (R10 w i b fr k e0) ?_
  show Gets _ _ (codeAt [1, 1, 1, 1, 1, 1, 0, 1, 0, 0, 0, 1] B) _ _
  rw [C1_1_1_1_1_1_0_1_0_0_0_1]; refine Gets.cond true (by kernel_rfl) ((show evalX (KSt.ts (S10 w i b fr k e0)) (.tmp 37) = .bool (decide (k < 8)) by kernel_rfl).trans (by rw [(show (decide (k < 8)) = true from decide_eq_true (by omega))])) ?_; show Gets _ _ (codeAt [1, 1, 1, 1, 1, 1, 0, 1, 0, 0, 0, 1, 0] B) _ _
  refine Gets.ofN fitT lane_sound (conT_agree _ _) 12 40 (by kernel_rfl) (x := .normal) (s' := (S9 w i b fr k e0)) (R11 w i b fr k e0) ?_
  show Gets _ _ (codeAt [1, 1, 1, 1, 1, 1, 0, 1, 0, 0, 1] B) _ _
  rw [C1_1_1_1_1_1_0_1_0_0_1]; refine Gets.seq ?_
  rw [C1_1_1_1_1_1_0_1_0_0_1_0]; refine Gets.block ?_
  rw [C1_1_1_1_1_1_0_1_0_0_1_0_0]; refine Gets.seq ?_
  refine Gets.ofN fitT lane_sound (conT_agree _ _) 12 40 (by kernel_rfl) (x := .normal) (s' := (S11 w i b fr k e0)) (R12 w i b fr k e0) ?_
  show Gets _ _ (codeAt [1, 1, 1, 1, 1, 1, 0, 1, 0, 0, 1, 0, 0, 1] B) _ _
  rw [C1_1_1_1_1_1_0_1_0_0_1_0_0_1]; refine Gets.seq ?_
  rw [C1_1_1_1_1_1_0_1_0_0_1_0_0_1_0]; refine Gets.seq ?_
  refine Gets.ofN fitT lane_sound (conT_agree _ _) 12 40 (by kernel_rfl) (x := .normal) (s' := (S13 w i b fr k e0)) ((R13 w i b fr k e0).trans (by rw [condT (ibeq_t (by omega)), condF (decide_eq_false (by omega))])) ?_
  show Gets _ _ (codeAt [1, 1, 1, 1, 1, 1, 0, 1, 0, 0, 1, 0, 0, 1, 0, 1] B) _ _
  rw [C1_1_1_1_1_1_0_1_0_0_1_0_0_1_0_1]; refine Gets.cond false (by kernel_rfl) (show evalX (KSt.ts (S13 w i b fr k e0)) (.tmp 53) = .bool false by kernel_rfl) ?_; show Gets _ _ (codeAt [1, 1, 1, 1, 1, 1, 0, 1, 0, 0, 1, 0, 0, 1, 0, 1, 1] B) _ _
  refine Gets.ofN fitT lane_sound (conT_agree _ _) 12 40 (by kernel_rfl) (x := .normal) (s' := (S11 w i b fr k e0)) (R14 w i b fr k e0) ?_
  show Gets _ _ (codeAt [1, 1, 1, 1, 1, 1, 0, 1, 0, 0, 1, 0, 0, 1, 1] B) _ _
  rw [C1_1_1_1_1_1_0_1_0_0_1_0_0_1_1]; refine Gets.seq ?_
  refine Gets.ofN fitT lane_sound (conT_agree _ _) 12 40 (by kernel_rfl) (x := .normal) (s' := (S14 w i b fr k e0)) (R15 w i b fr k e0) ?_
  show Gets _ _ (codeAt [1, 1, 1, 1, 1, 1, 0, 1, 0, 0, 1, 0, 0, 1, 1, 1] B) _ _
  rw [C1_1_1_1_1_1_0_1_0_0_1_0_0_1_1_1]; refine Gets.cond false (by kernel_rfl) ((show evalX (KSt.ts (S14 w i b fr k e0)) (.tmp 59) = .bool ((byteV ((withV w i b)) k) != (byteV w k)) by kernel_rfl).trans (by rw [(show ((byteV ((withV w i b)) k) != (byteV w k)) = false from bne_eq hB)])) ?_; show Gets _ _ (codeAt [1, 1, 1, 1, 1, 1, 0, 1, 0, 0, 1, 0, 0, 1, 1, 1, 1] B) _ _
  refine Gets.ofN fitT lane_sound (conT_agree _ _) 12 40 (by kernel_rfl) (x := .normal) (s' := (S9 w i b fr k e0)) (R16 w i b fr k e0) ?_
  show Gets _ _ (codeAt [1, 1, 1, 1, 1, 1, 0, 1, 0, 0, 1, 1] B) _ _
  refine Gets.ofN fitT lane_sound (conT_agree _ _) 12 40 (by kernel_rfl) (x := .normal) (s' := (S16 w i b fr k e0)) ((R17 w i b fr k e0).trans (by (show some (Ex.normal, (S15 w i b fr k e0)) = some (Ex.normal, (S16 w i b fr k e0)); unfold S15 S16; rw [(show (IntKind.wrap .i64 (k + 1)) = (k + 1) from wrap_i64_id (by omega) (by omega))]))) ?_
  exact hq
theorem R18 (w : Int) (i : Int) (b : Int) (fr : Int) (k : Int) (e0 : TypeId) : evCK Tryd.prog cfgT (runK Tryd.prog cfgT fsT (conT laneDom laneE) 12 40) 12 (codeAt [1, 1, 1, 1, 1, 1, 0, 1, 0, 0, 1, 0, 0, 1, 0, 1, 1] B) (S12 w i b fr k e0) (normC 1 [0, 1, 7, 8, 11, 12, 13]) =
  some (.normal, (S11 w i b fr k e0)) := by kernel_rfl
theorem bh (w i b fr k : Int) (e0 : TypeId) (hk : 0 ≤ k) (hk8 : k < 8) (hi : k = i) (hb : 255 < b) (hB : byteV (withV w i b) k = byteV w k)   {Q : Ex → St → Prop} (hq : Q .normal (KSt.low (S16 w i b fr k e0))) : Gets Tryd.prog (varH .u8 tz e0).low (codeAt [1, 1, 1, 1, 1, 1, 0, 1, 0, 0] B) (KSt.low (S9 w i b fr k e0)) Q := by
  rw [C1_1_1_1_1_1_0_1_0_0]; refine Gets.seq ?_
  rw [C1_1_1_1_1_1_0_1_0_0_0]; refine Gets.seq ?_
  refine Gets.ofN fitT lane_sound (conT_agree _ _) 12 40 (by kernel_rfl) (x := .normal) (s' := (S10 w i b fr k e0)) (R10 w i b fr k e0) ?_
  show Gets _ _ (codeAt [1, 1, 1, 1, 1, 1, 0, 1, 0, 0, 0, 1] B) _ _
  rw [C1_1_1_1_1_1_0_1_0_0_0_1]; refine Gets.cond true (by kernel_rfl) ((show evalX (KSt.ts (S10 w i b fr k e0)) (.tmp 37) = .bool (decide (k < 8)) by kernel_rfl).trans (by rw [(show (decide (k < 8)) = true from decide_eq_true (by omega))])) ?_; show Gets _ _ (codeAt [1, 1, 1, 1, 1, 1, 0, 1, 0, 0, 0, 1, 0] B) _ _
  refine Gets.ofN fitT lane_sound (conT_agree _ _) 12 40 (by kernel_rfl) (x := .normal) (s' := (S9 w i b fr k e0)) (R11 w i b fr k e0) ?_
  show Gets _ _ (codeAt [1, 1, 1, 1, 1, 1, 0, 1, 0, 0, 1] B) _ _
  rw [C1_1_1_1_1_1_0_1_0_0_1]; refine Gets.seq ?_
  rw [C1_1_1_1_1_1_0_1_0_0_1_0]; refine Gets.block ?_
  rw [C1_1_1_1_1_1_0_1_0_0_1_0_0]; refine Gets.seq ?_
  refine Gets.ofN fitT lane_sound (conT_agree _ _) 12 40 (by kernel_rfl) (x := .normal) (s' := (S11 w i b fr k e0)) (R12 w i b fr k e0) ?_
  show Gets _ _ (codeAt [1, 1, 1, 1, 1, 1, 0, 1, 0, 0, 1, 0, 0, 1] B) _ _
  rw [C1_1_1_1_1_1_0_1_0_0_1_0_0_1]; refine Gets.seq ?_
  rw [C1_1_1_1_1_1_0_1_0_0_1_0_0_1_0]; refine Gets.seq ?_
  refine Gets.ofN fitT lane_sound (conT_agree _ _) 12 40 (by kernel_rfl) (x := .normal) (s' := (S12 w i b fr k e0)) ((R13 w i b fr k e0).trans (by rw [condT (ibeq_t (by omega)), condT (decide_eq_true (by omega))])) ?_
  show Gets _ _ (codeAt [1, 1, 1, 1, 1, 1, 0, 1, 0, 0, 1, 0, 0, 1, 0, 1] B) _ _
  rw [C1_1_1_1_1_1_0_1_0_0_1_0_0_1_0_1]; refine Gets.cond false (by kernel_rfl) ((show evalX (KSt.ts (S12 w i b fr k e0)) (.tmp 53) = .bool (decide (b ≤ 255)) by kernel_rfl).trans (by rw [(show (decide (b ≤ 255)) = false from decide_eq_false (by omega))])) ?_; show Gets _ _ (codeAt [1, 1, 1, 1, 1, 1, 0, 1, 0, 0, 1, 0, 0, 1, 0, 1, 1] B) _ _
  refine Gets.ofN fitT lane_sound (conT_agree _ _) 12 40 (by kernel_rfl) (x := .normal) (s' := (S11 w i b fr k e0)) (R18 w i b fr k e0) ?_
  show Gets _ _ (codeAt [1, 1, 1, 1, 1, 1, 0, 1, 0, 0, 1, 0, 0, 1, 1] B) _ _
  rw [C1_1_1_1_1_1_0_1_0_0_1_0_0_1_1]; refine Gets.seq ?_
  refine Gets.ofN fitT lane_sound (conT_agree _ _) 12 40 (by kernel_rfl) (x := .normal) (s' := (S14 w i b fr k e0)) (R15 w i b fr k e0) ?_
  show Gets _ _ (codeAt [1, 1, 1, 1, 1, 1, 0, 1, 0, 0, 1, 0, 0, 1, 1, 1] B) _ _
  rw [C1_1_1_1_1_1_0_1_0_0_1_0_0_1_1_1]; refine Gets.cond false (by kernel_rfl) ((show evalX (KSt.ts (S14 w i b fr k e0)) (.tmp 59) = .bool ((byteV ((withV w i b)) k) != (byteV w k)) by kernel_rfl).trans (by rw [(show ((byteV ((withV w i b)) k) != (byteV w k)) = false from bne_eq hB)])) ?_; show Gets _ _ (codeAt [1, 1, 1, 1, 1, 1, 0, 1, 0, 0, 1, 0, 0, 1, 1, 1, 1] B) _ _
  refine Gets.ofN fitT lane_sound (conT_agree _ _) 12 40 (by kernel_rfl) (x := .normal) (s' := (S9 w i b fr k e0)) (R16 w i b fr k e0) ?_
  show Gets _ _ (codeAt [1, 1, 1, 1, 1, 1, 0, 1, 0, 0, 1, 1] B) _ _
  refine Gets.ofN fitT lane_sound (conT_agree _ _) 12 40 (by kernel_rfl) (x := .normal) (s' := (S16 w i b fr k e0)) ((R17 w i b fr k e0).trans (by (show some (Ex.normal, (S15 w i b fr k e0)) = some (Ex.normal, (S16 w i b fr k e0)); unfold S15 S16; rw [(show (IntKind.wrap .i64 (k + 1)) = (k + 1) from wrap_i64_id (by omega) (by omega))]))) ?_
  exact hq
noncomputable def S17 (w : Int) (i : Int) (b : Int) (fr : Int) (k : Int) (e0 : TypeId) : KSt := ⟨(frameL 106 [(0, (.int .u64 w)), (1, (.int .i64 i)), (7, (.int .i64 b)), (8, (.int .i64 fr)), (11, (.int .u64 (withV w i b))), (12, (.int .i64 k)), (13, (.int .i64 b))]), ⟨1, 1, [(0, 0, .cells [(.int .u8 0), (.int .u8 1), (.int .u8 56), (.int .u8 2), (.int .u8 57), (.int .u8 49), (.int .u8 28), (.int .u8 3), (.int .u8 61), (.int .u8 58), (.int .u8 42), (.int .u8 50), (.int .u8 38), (.int .u8 29), (.int .u8 17), (.int .u8 4), (.int .u8 62), (.int .u8 47), (.int .u8 59), (.int .u8 36), (.int .u8 45), (.int .u8 43), (.int .u8 51), (.int .u8 22), (.int .u8 53), (.int .u8 39), (.int .u8 33), (.int .u8 30), (.int .u8 24), (.int .u8 18), (.int .u8 12), (.int .u8 5), (.int .u8 63), (.int .u8 55), (.int .u8 48), (.int .u8 27), (.int .u8 60), (.int .u8 41), (.int .u8 37), (.int .u8 16), (.int .u8 46), (.int .u8 35), (.int .u8 44), (.int .u8 21), (.int .u8 52), (.int .u8 32), (.int .u8 23), (.int .u8 11), (.int .u8 54), (.int .u8 26), (.int .u8 40), (.int .u8 15), (.int .u8 34), (.int .u8 20), (.int .u8 31), (.int .u8 10), (.int .u8 25), (.int .u8 14), (.int .u8 19), (.int .u8 9), (.int .u8 13), (.int .u8 8), (.int .u8 7), (.int .u8 6)] e0 false)]⟩⟩
theorem R19 (w : Int) (i : Int) (b : Int) (fr : Int) (k : Int) (e0 : TypeId) : evCK Tryd.prog cfgT (runK Tryd.prog cfgT fsT (conT laneDom laneE) 12 40) 12 (codeAt [1, 1, 1, 1, 1, 1, 0, 1, 0, 0, 1, 0, 0, 1, 0, 1, 0] B) (S12 w i b fr k e0) (normC 1 [0, 1, 7, 8, 11, 12, 13]) =
  some (.normal, (S17 w i b fr k e0)) := by kernel_rfl
noncomputable def S18 (w : Int) (i : Int) (b : Int) (fr : Int) (k : Int) (e0 : TypeId) : KSt := ⟨(frameL 106 [(0, (.int .u64 w)), (1, (.int .i64 i)), (7, (.int .i64 b)), (8, (.int .i64 fr)), (11, (.int .u64 (withV w i b))), (12, (.int .i64 k)), (59, (.bool ((byteV ((withV w i b)) k) != b)))]), ⟨1, 1, [(0, 0, .cells [(.int .u8 0), (.int .u8 1), (.int .u8 56), (.int .u8 2), (.int .u8 57), (.int .u8 49), (.int .u8 28), (.int .u8 3), (.int .u8 61), (.int .u8 58), (.int .u8 42), (.int .u8 50), (.int .u8 38), (.int .u8 29), (.int .u8 17), (.int .u8 4), (.int .u8 62), (.int .u8 47), (.int .u8 59), (.int .u8 36), (.int .u8 45), (.int .u8 43), (.int .u8 51), (.int .u8 22), (.int .u8 53), (.int .u8 39), (.int .u8 33), (.int .u8 30), (.int .u8 24), (.int .u8 18), (.int .u8 12), (.int .u8 5), (.int .u8 63), (.int .u8 55), (.int .u8 48), (.int .u8 27), (.int .u8 60), (.int .u8 41), (.int .u8 37), (.int .u8 16), (.int .u8 46), (.int .u8 35), (.int .u8 44), (.int .u8 21), (.int .u8 52), (.int .u8 32), (.int .u8 23), (.int .u8 11), (.int .u8 54), (.int .u8 26), (.int .u8 40), (.int .u8 15), (.int .u8 34), (.int .u8 20), (.int .u8 31), (.int .u8 10), (.int .u8 25), (.int .u8 14), (.int .u8 19), (.int .u8 9), (.int .u8 13), (.int .u8 8), (.int .u8 7), (.int .u8 6)] e0 false)]⟩⟩
theorem R20 (w : Int) (i : Int) (b : Int) (fr : Int) (k : Int) (e0 : TypeId) : evCK Tryd.prog cfgT (runK Tryd.prog cfgT fsT (conT laneDom laneE) 12 40) 12 (codeAt [1, 1, 1, 1, 1, 1, 0, 1, 0, 0, 1, 0, 0, 1, 1, 0] B) (S17 w i b fr k e0) (normC 1 [0, 1, 7, 8, 11, 12, 59]) =
  some (.normal, (S18 w i b fr k e0)) := by kernel_rfl
theorem R21 (w : Int) (i : Int) (b : Int) (fr : Int) (k : Int) (e0 : TypeId) : evCK Tryd.prog cfgT (runK Tryd.prog cfgT fsT (conT laneDom laneE) 12 40) 12 (codeAt [1, 1, 1, 1, 1, 1, 0, 1, 0, 0, 1, 0, 0, 1, 1, 1, 1] B) (S18 w i b fr k e0) (normC 1 [0, 1, 7, 8, 11, 12]) =
  some (.normal, (S9 w i b fr k e0)) := by kernel_rfl
theorem ok (w i b fr k : Int) (e0 : TypeId) (hk : 0 ≤ k) (hk8 : k < 8) (hi : k = i) (hb : 0 ≤ b ∧ b ≤ 255) (hB : byteV (withV w i b) k = b)   {Q : Ex → St → Prop} (hq : Q .normal (KSt.low (S16 w i b fr k e0))) : Gets Tryd.prog (varH .u8 tz e0).low (codeAt [1, 1, 1, 1, 1, 1, 0, 1, 0, 0] B) (KSt.low (S9 w i b fr k e0)) Q := by
  rw [C1_1_1_1_1_1_0_1_0_0]; refine Gets.seq ?_
  rw [C1_1_1_1_1_1_0_1_0_0_0]; refine Gets.seq ?_
  refine Gets.ofN fitT lane_sound (conT_agree _ _) 12 40 (by kernel_rfl) (x := .normal) (s' := (S10 w i b fr k e0)) (R10 w i b fr k e0) ?_
  show Gets _ _ (codeAt [1, 1, 1, 1, 1, 1, 0, 1, 0, 0, 0, 1] B) _ _
  rw [C1_1_1_1_1_1_0_1_0_0_0_1]; refine Gets.cond true (by kernel_rfl) ((show evalX (KSt.ts (S10 w i b fr k e0)) (.tmp 37) = .bool (decide (k < 8)) by kernel_rfl).trans (by rw [(show (decide (k < 8)) = true from decide_eq_true (by omega))])) ?_; show Gets _ _ (codeAt [1, 1, 1, 1, 1, 1, 0, 1, 0, 0, 0, 1, 0] B) _ _
  refine Gets.ofN fitT lane_sound (conT_agree _ _) 12 40 (by kernel_rfl) (x := .normal) (s' := (S9 w i b fr k e0)) (R11 w i b fr k e0) ?_
  show Gets _ _ (codeAt [1, 1, 1, 1, 1, 1, 0, 1, 0, 0, 1] B) _ _
  rw [C1_1_1_1_1_1_0_1_0_0_1]; refine Gets.seq ?_
  rw [C1_1_1_1_1_1_0_1_0_0_1_0]; refine Gets.block ?_
  rw [C1_1_1_1_1_1_0_1_0_0_1_0_0]; refine Gets.seq ?_
  refine Gets.ofN fitT lane_sound (conT_agree _ _) 12 40 (by kernel_rfl) (x := .normal) (s' := (S11 w i b fr k e0)) (R12 w i b fr k e0) ?_
  show Gets _ _ (codeAt [1, 1, 1, 1, 1, 1, 0, 1, 0, 0, 1, 0, 0, 1] B) _ _
  rw [C1_1_1_1_1_1_0_1_0_0_1_0_0_1]; refine Gets.seq ?_
  rw [C1_1_1_1_1_1_0_1_0_0_1_0_0_1_0]; refine Gets.seq ?_
  refine Gets.ofN fitT lane_sound (conT_agree _ _) 12 40 (by kernel_rfl) (x := .normal) (s' := (S12 w i b fr k e0)) ((R13 w i b fr k e0).trans (by rw [condT (ibeq_t (by omega)), condT (decide_eq_true (by omega))])) ?_
  show Gets _ _ (codeAt [1, 1, 1, 1, 1, 1, 0, 1, 0, 0, 1, 0, 0, 1, 0, 1] B) _ _
  rw [C1_1_1_1_1_1_0_1_0_0_1_0_0_1_0_1]; refine Gets.cond true (by kernel_rfl) ((show evalX (KSt.ts (S12 w i b fr k e0)) (.tmp 53) = .bool (decide (b ≤ 255)) by kernel_rfl).trans (by rw [(show (decide (b ≤ 255)) = true from decide_eq_true (by omega))])) ?_; show Gets _ _ (codeAt [1, 1, 1, 1, 1, 1, 0, 1, 0, 0, 1, 0, 0, 1, 0, 1, 0] B) _ _
  refine Gets.ofN fitT lane_sound (conT_agree _ _) 12 40 (by kernel_rfl) (x := .normal) (s' := (S17 w i b fr k e0)) (R19 w i b fr k e0) ?_
  show Gets _ _ (codeAt [1, 1, 1, 1, 1, 1, 0, 1, 0, 0, 1, 0, 0, 1, 1] B) _ _
  rw [C1_1_1_1_1_1_0_1_0_0_1_0_0_1_1]; refine Gets.seq ?_
  refine Gets.ofN fitT lane_sound (conT_agree _ _) 12 40 (by kernel_rfl) (x := .normal) (s' := (S18 w i b fr k e0)) (R20 w i b fr k e0) ?_
  show Gets _ _ (codeAt [1, 1, 1, 1, 1, 1, 0, 1, 0, 0, 1, 0, 0, 1, 1, 1] B) _ _
  rw [C1_1_1_1_1_1_0_1_0_0_1_0_0_1_1_1]; refine Gets.cond false (by kernel_rfl) ((show evalX (KSt.ts (S18 w i b fr k e0)) (.tmp 59) = .bool ((byteV ((withV w i b)) k) != b) by kernel_rfl).trans (by rw [(show ((byteV ((withV w i b)) k) != b) = false from bne_eq hB)])) ?_; show Gets _ _ (codeAt [1, 1, 1, 1, 1, 1, 0, 1, 0, 0, 1, 0, 0, 1, 1, 1, 1] B) _ _
  refine Gets.ofN fitT lane_sound (conT_agree _ _) 12 40 (by kernel_rfl) (x := .normal) (s' := (S9 w i b fr k e0)) (R21 w i b fr k e0) ?_
  show Gets _ _ (codeAt [1, 1, 1, 1, 1, 1, 0, 1, 0, 0, 1, 1] B) _ _
  refine Gets.ofN fitT lane_sound (conT_agree _ _) 12 40 (by kernel_rfl) (x := .normal) (s' := (S16 w i b fr k e0)) ((R17 w i b fr k e0).trans (by (show some (Ex.normal, (S15 w i b fr k e0)) = some (Ex.normal, (S16 w i b fr k e0)); unfold S15 S16; rw [(show (IntKind.wrap .i64 (k + 1)) = (k + 1) from wrap_i64_id (by omega) (by omega))]))) ?_
  exact hq
theorem C1_1_1_1_1_1_0_1_0_0_0_1_1 : (codeAt [1, 1, 1, 1, 1, 1, 0, 1, 0, 0, 0, 1, 1] B) = .exit 2 := by kernel_rfl
theorem ex (w i b fr k : Int) (e0 : TypeId) (hk : k = 8)   {Q : Ex → St → Prop} (hq : Q (.exit 2) (KSt.low (S10 w i b fr k e0))) : Gets Tryd.prog (varH .u8 tz e0).low (codeAt [1, 1, 1, 1, 1, 1, 0, 1, 0, 0] B) (KSt.low (S9 w i b fr k e0)) Q := by
  rw [C1_1_1_1_1_1_0_1_0_0]; refine Gets.seq ?_
  rw [C1_1_1_1_1_1_0_1_0_0_0]; refine Gets.seq ?_
  refine Gets.ofN fitT lane_sound (conT_agree _ _) 12 40 (by kernel_rfl) (x := .normal) (s' := (S10 w i b fr k e0)) (R10 w i b fr k e0) ?_
  show Gets _ _ (codeAt [1, 1, 1, 1, 1, 1, 0, 1, 0, 0, 0, 1] B) _ _
  rw [C1_1_1_1_1_1_0_1_0_0_0_1]; refine Gets.cond false (by kernel_rfl) ((show evalX (KSt.ts (S10 w i b fr k e0)) (.tmp 37) = .bool (decide (k < 8)) by kernel_rfl).trans (by rw [(show (decide (k < 8)) = false from decide_eq_false (by omega))])) ?_; show Gets _ _ (codeAt [1, 1, 1, 1, 1, 1, 0, 1, 0, 0, 0, 1, 1] B) _ _
  rw [C1_1_1_1_1_1_0_1_0_0_0_1_1]; refine Gets.ev fitT.mix fitT.cfg (fitT.sound lane_sound 12 0) 12 rfl (s' := KSt.low (S10 w i b fr k e0)) (x := (.exit 2)) rfl ?_
  exact hq
theorem C1_1_1_1_1_1_1 : (codeAt [1, 1, 1, 1, 1, 1, 1] B) = .seq (codeAt [1, 1, 1, 1, 1, 1, 1, 0] B) (codeAt [1, 1, 1, 1, 1, 1, 1, 1] B) := by kernel_rfl
noncomputable def S19 (w : Int) (b : Int) (fr : Int) (e0 : TypeId) : KSt := ⟨(frameL 106 [(0, (.int .u64 w)), (7, (.int .i64 b)), (8, (.int .i64 fr)), (14, (.int .u64 (fillV w fr b)))]), ⟨1, 1, [(0, 0, .cells [(.int .u8 0), (.int .u8 1), (.int .u8 56), (.int .u8 2), (.int .u8 57), (.int .u8 49), (.int .u8 28), (.int .u8 3), (.int .u8 61), (.int .u8 58), (.int .u8 42), (.int .u8 50), (.int .u8 38), (.int .u8 29), (.int .u8 17), (.int .u8 4), (.int .u8 62), (.int .u8 47), (.int .u8 59), (.int .u8 36), (.int .u8 45), (.int .u8 43), (.int .u8 51), (.int .u8 22), (.int .u8 53), (.int .u8 39), (.int .u8 33), (.int .u8 30), (.int .u8 24), (.int .u8 18), (.int .u8 12), (.int .u8 5), (.int .u8 63), (.int .u8 55), (.int .u8 48), (.int .u8 27), (.int .u8 60), (.int .u8 41), (.int .u8 37), (.int .u8 16), (.int .u8 46), (.int .u8 35), (.int .u8 44), (.int .u8 21), (.int .u8 52), (.int .u8 32), (.int .u8 23), (.int .u8 11), (.int .u8 54), (.int .u8 26), (.int .u8 40), (.int .u8 15), (.int .u8 34), (.int .u8 20), (.int .u8 31), (.int .u8 10), (.int .u8 25), (.int .u8 14), (.int .u8 19), (.int .u8 9), (.int .u8 13), (.int .u8 8), (.int .u8 7), (.int .u8 6)] e0 false)]⟩⟩
theorem R22 (w : Int) (i : Int) (b : Int) (fr : Int) (k : Int) (e0 : TypeId) : evCK Tryd.prog cfgT (runK Tryd.prog cfgT fsT (conT laneDom laneE) 12 40) 12 (codeAt [1, 1, 1, 1, 1, 1, 1, 0] B) (S10 w i b fr k e0) (normC 1 [0, 7, 8, 14]) =
  some (.normal, (S19 w b fr e0)) := by kernel_rfl
theorem C1_1_1_1_1_1_1_1 : (codeAt [1, 1, 1, 1, 1, 1, 1, 1] B) = .seq (codeAt [1, 1, 1, 1, 1, 1, 1, 1, 0] B) (codeAt [1, 1, 1, 1, 1, 1, 1, 1, 1] B) := by kernel_rfl
theorem C1_1_1_1_1_1_1_1_0 : (codeAt [1, 1, 1, 1, 1, 1, 1, 1, 0] B) = .seq (codeAt [1, 1, 1, 1, 1, 1, 1, 1, 0, 0] B) (codeAt [1, 1, 1, 1, 1, 1, 1, 1, 0, 1] B) := by kernel_rfl
noncomputable def S20 (w : Int) (b : Int) (fr : Int) (e0 : TypeId) : KSt := ⟨(frameL 106 [(0, (.int .u64 w)), (7, (.int .i64 b)), (8, (.int .i64 fr)), (14, (.int .u64 (fillV w fr b))), (69, (.bool true))]), ⟨1, 1, [(0, 0, .cells [(.int .u8 0), (.int .u8 1), (.int .u8 56), (.int .u8 2), (.int .u8 57), (.int .u8 49), (.int .u8 28), (.int .u8 3), (.int .u8 61), (.int .u8 58), (.int .u8 42), (.int .u8 50), (.int .u8 38), (.int .u8 29), (.int .u8 17), (.int .u8 4), (.int .u8 62), (.int .u8 47), (.int .u8 59), (.int .u8 36), (.int .u8 45), (.int .u8 43), (.int .u8 51), (.int .u8 22), (.int .u8 53), (.int .u8 39), (.int .u8 33), (.int .u8 30), (.int .u8 24), (.int .u8 18), (.int .u8 12), (.int .u8 5), (.int .u8 63), (.int .u8 55), (.int .u8 48), (.int .u8 27), (.int .u8 60), (.int .u8 41), (.int .u8 37), (.int .u8 16), (.int .u8 46), (.int .u8 35), (.int .u8 44), (.int .u8 21), (.int .u8 52), (.int .u8 32), (.int .u8 23), (.int .u8 11), (.int .u8 54), (.int .u8 26), (.int .u8 40), (.int .u8 15), (.int .u8 34), (.int .u8 20), (.int .u8 31), (.int .u8 10), (.int .u8 25), (.int .u8 14), (.int .u8 19), (.int .u8 9), (.int .u8 13), (.int .u8 8), (.int .u8 7), (.int .u8 6)] e0 false)]⟩⟩
noncomputable def S21 (w : Int) (b : Int) (fr : Int) (e0 : TypeId) : KSt := ⟨(frameL 106 [(0, (.int .u64 w)), (7, (.int .i64 b)), (8, (.int .i64 fr)), (14, (.int .u64 (fillV w fr b))), (69, (.bool (decide (b > 255))))]), ⟨1, 1, [(0, 0, .cells [(.int .u8 0), (.int .u8 1), (.int .u8 56), (.int .u8 2), (.int .u8 57), (.int .u8 49), (.int .u8 28), (.int .u8 3), (.int .u8 61), (.int .u8 58), (.int .u8 42), (.int .u8 50), (.int .u8 38), (.int .u8 29), (.int .u8 17), (.int .u8 4), (.int .u8 62), (.int .u8 47), (.int .u8 59), (.int .u8 36), (.int .u8 45), (.int .u8 43), (.int .u8 51), (.int .u8 22), (.int .u8 53), (.int .u8 39), (.int .u8 33), (.int .u8 30), (.int .u8 24), (.int .u8 18), (.int .u8 12), (.int .u8 5), (.int .u8 63), (.int .u8 55), (.int .u8 48), (.int .u8 27), (.int .u8 60), (.int .u8 41), (.int .u8 37), (.int .u8 16), (.int .u8 46), (.int .u8 35), (.int .u8 44), (.int .u8 21), (.int .u8 52), (.int .u8 32), (.int .u8 23), (.int .u8 11), (.int .u8 54), (.int .u8 26), (.int .u8 40), (.int .u8 15), (.int .u8 34), (.int .u8 20), (.int .u8 31), (.int .u8 10), (.int .u8 25), (.int .u8 14), (.int .u8 19), (.int .u8 9), (.int .u8 13), (.int .u8 8), (.int .u8 7), (.int .u8 6)] e0 false)]⟩⟩
theorem R23 (w : Int) (b : Int) (fr : Int) (e0 : TypeId) : evCK Tryd.prog cfgT (runK Tryd.prog cfgT fsT (conT laneDom laneE) 12 40) 12 (codeAt [1, 1, 1, 1, 1, 1, 1, 1, 0, 0] B) (S19 w b fr e0) (normC 1 [0, 7, 8, 14, 69]) =
  bif (decide (b < 0)) then
    some (.normal, (S20 w b fr e0))
  else
    some (.normal, (S21 w b fr e0)) := by kernel_rfl
theorem C1_1_1_1_1_1_1_1_0_1 : (codeAt [1, 1, 1, 1, 1, 1, 1, 1, 0, 1] B) = .cond (.tmp 69) (codeAt [1, 1, 1, 1, 1, 1, 1, 1, 0, 1, 0] B) (codeAt [1, 1, 1, 1, 1, 1, 1, 1, 0, 1, 1] B) := by kernel_rfl
theorem C1_1_1_1_1_1_1_1_0_1_0 : (codeAt [1, 1, 1, 1, 1, 1, 1, 1, 0, 1, 0] B) = .seq (codeAt [1, 1, 1, 1, 1, 1, 1, 1, 0, 1, 0, 0] B) (codeAt [1, 1, 1, 1, 1, 1, 1, 1, 0, 1, 0, 1] B) := by kernel_rfl
noncomputable def S22 (e0 : TypeId) : KSt := ⟨(frameL 106 [(6, (.bool true))]), ⟨1, 1, [(0, 0, .cells [(.int .u8 0), (.int .u8 1), (.int .u8 56), (.int .u8 2), (.int .u8 57), (.int .u8 49), (.int .u8 28), (.int .u8 3), (.int .u8 61), (.int .u8 58), (.int .u8 42), (.int .u8 50), (.int .u8 38), (.int .u8 29), (.int .u8 17), (.int .u8 4), (.int .u8 62), (.int .u8 47), (.int .u8 59), (.int .u8 36), (.int .u8 45), (.int .u8 43), (.int .u8 51), (.int .u8 22), (.int .u8 53), (.int .u8 39), (.int .u8 33), (.int .u8 30), (.int .u8 24), (.int .u8 18), (.int .u8 12), (.int .u8 5), (.int .u8 63), (.int .u8 55), (.int .u8 48), (.int .u8 27), (.int .u8 60), (.int .u8 41), (.int .u8 37), (.int .u8 16), (.int .u8 46), (.int .u8 35), (.int .u8 44), (.int .u8 21), (.int .u8 52), (.int .u8 32), (.int .u8 23), (.int .u8 11), (.int .u8 54), (.int .u8 26), (.int .u8 40), (.int .u8 15), (.int .u8 34), (.int .u8 20), (.int .u8 31), (.int .u8 10), (.int .u8 25), (.int .u8 14), (.int .u8 19), (.int .u8 9), (.int .u8 13), (.int .u8 8), (.int .u8 7), (.int .u8 6)] e0 false)]⟩⟩
noncomputable def S23 (e0 : TypeId) : KSt := ⟨(frameL 106 [(6, (.bool false))]), ⟨1, 1, [(0, 0, .cells [(.int .u8 0), (.int .u8 1), (.int .u8 56), (.int .u8 2), (.int .u8 57), (.int .u8 49), (.int .u8 28), (.int .u8 3), (.int .u8 61), (.int .u8 58), (.int .u8 42), (.int .u8 50), (.int .u8 38), (.int .u8 29), (.int .u8 17), (.int .u8 4), (.int .u8 62), (.int .u8 47), (.int .u8 59), (.int .u8 36), (.int .u8 45), (.int .u8 43), (.int .u8 51), (.int .u8 22), (.int .u8 53), (.int .u8 39), (.int .u8 33), (.int .u8 30), (.int .u8 24), (.int .u8 18), (.int .u8 12), (.int .u8 5), (.int .u8 63), (.int .u8 55), (.int .u8 48), (.int .u8 27), (.int .u8 60), (.int .u8 41), (.int .u8 37), (.int .u8 16), (.int .u8 46), (.int .u8 35), (.int .u8 44), (.int .u8 21), (.int .u8 52), (.int .u8 32), (.int .u8 23), (.int .u8 11), (.int .u8 54), (.int .u8 26), (.int .u8 40), (.int .u8 15), (.int .u8 34), (.int .u8 20), (.int .u8 31), (.int .u8 10), (.int .u8 25), (.int .u8 14), (.int .u8 19), (.int .u8 9), (.int .u8 13), (.int .u8 8), (.int .u8 7), (.int .u8 6)] e0 false)]⟩⟩
theorem R24 (w : Int) (b : Int) (fr : Int) (e0 : TypeId) : evCK Tryd.prog cfgT (runK Tryd.prog cfgT fsT (conT laneDom laneE) 12 40) 12 (codeAt [1, 1, 1, 1, 1, 1, 1, 1, 0, 1, 0, 0] B) (S20 w b fr e0) (normC 1 [6]) =
  bif ((fillV w fr b) == w) then
    some (.normal, (S22 e0))
  else
    some (.normal, (S23 e0)) := by kernel_rfl
theorem C1_1_1_1_1_1_1_1_0_1_0_1 : (codeAt [1, 1, 1, 1, 1, 1, 1, 1, 0, 1, 0, 1] B) = .ret := by kernel_rfl
theorem o_bl (w i b fr k : Int) (e0 : TypeId) (hb : b < 0) (hE1 : ((fillV w fr b) == w) = true)   {Q : Ex → St → Prop} (hq : Q .ret (KSt.low (S22 e0))) : Gets Tryd.prog (varH .u8 tz e0).low (codeAt [1, 1, 1, 1, 1, 1, 1] B) (KSt.low (S10 w i b fr k e0)) Q := by
  rw [C1_1_1_1_1_1_1]; refine Gets.seq ?_
  refine Gets.ofN fitT lane_sound (conT_agree _ _) 12 40 (by kernel_rfl) (x := .normal) (s' := (S19 w b fr e0)) (R22 w i b fr k e0) ?_
  show Gets _ _ (codeAt [1, 1, 1, 1, 1, 1, 1, 1] B) _ _
  rw [C1_1_1_1_1_1_1_1]; refine Gets.seq ?_
  rw [C1_1_1_1_1_1_1_1_0]; refine Gets.seq ?_
  refine Gets.ofN fitT lane_sound (conT_agree _ _) 12 40 (by kernel_rfl) (x := .normal) (s' := (S20 w b fr e0)) ((R23 w b fr e0).trans (by rw [condT (decide_eq_true (by omega))])) ?_
  show Gets _ _ (codeAt [1, 1, 1, 1, 1, 1, 1, 1, 0, 1] B) _ _
  rw [C1_1_1_1_1_1_1_1_0_1]; refine Gets.cond true (by kernel_rfl) (show evalX (KSt.ts (S20 w b fr e0)) (.tmp 69) = .bool true by kernel_rfl) ?_; show Gets _ _ (codeAt [1, 1, 1, 1, 1, 1, 1, 1, 0, 1, 0] B) _ _
  rw [C1_1_1_1_1_1_1_1_0_1_0]; refine Gets.seq ?_
  refine Gets.ofN fitT lane_sound (conT_agree _ _) 12 40 (by kernel_rfl) (x := .normal) (s' := (S22 e0)) ((R24 w b fr e0).trans (by rw [condT (hE1)])) ?_
  show Gets _ _ (codeAt [1, 1, 1, 1, 1, 1, 1, 1, 0, 1, 0, 1] B) _ _
  rw [C1_1_1_1_1_1_1_1_0_1_0_1]; refine Gets.ev fitT.mix fitT.cfg (fitT.sound lane_sound 12 0) 12 rfl (s' := KSt.low (S22 e0)) (x := .ret) rfl ?_
  exact hq
theorem R25 (w : Int) (b : Int) (fr : Int) (e0 : TypeId) : evCK Tryd.prog cfgT (runK Tryd.prog cfgT fsT (conT laneDom laneE) 12 40) 12 (codeAt [1, 1, 1, 1, 1, 1, 1, 1, 0, 1, 0, 0] B) (S21 w b fr e0) (normC 1 [6]) =
  bif ((fillV w fr b) == w) then
    some (.normal, (S22 e0))
  else
    some (.normal, (S23 e0)) := by kernel_rfl
theorem o_bh (w i b fr k : Int) (e0 : TypeId) (hb : 255 < b) (hE1 : ((fillV w fr b) == w) = true)   {Q : Ex → St → Prop} (hq : Q .ret (KSt.low (S22 e0))) : Gets Tryd.prog (varH .u8 tz e0).low (codeAt [1, 1, 1, 1, 1, 1, 1] B) (KSt.low (S10 w i b fr k e0)) Q := by
  rw [C1_1_1_1_1_1_1]; refine Gets.seq ?_
  refine Gets.ofN fitT lane_sound (conT_agree _ _) 12 40 (by kernel_rfl) (x := .normal) (s' := (S19 w b fr e0)) (R22 w i b fr k e0) ?_
  show Gets _ _ (codeAt [1, 1, 1, 1, 1, 1, 1, 1] B) _ _
  rw [C1_1_1_1_1_1_1_1]; refine Gets.seq ?_
  rw [C1_1_1_1_1_1_1_1_0]; refine Gets.seq ?_
  refine Gets.ofN fitT lane_sound (conT_agree _ _) 12 40 (by kernel_rfl) (x := .normal) (s' := (S21 w b fr e0)) ((R23 w b fr e0).trans (by rw [condF (decide_eq_false (by omega))])) ?_
  show Gets _ _ (codeAt [1, 1, 1, 1, 1, 1, 1, 1, 0, 1] B) _ _
  rw [C1_1_1_1_1_1_1_1_0_1]; refine Gets.cond true (by kernel_rfl) ((show evalX (KSt.ts (S21 w b fr e0)) (.tmp 69) = .bool (decide (b > 255)) by kernel_rfl).trans (by rw [(show (decide (b > 255)) = true from decide_eq_true (by omega))])) ?_; show Gets _ _ (codeAt [1, 1, 1, 1, 1, 1, 1, 1, 0, 1, 0] B) _ _
  rw [C1_1_1_1_1_1_1_1_0_1_0]; refine Gets.seq ?_
  refine Gets.ofN fitT lane_sound (conT_agree _ _) 12 40 (by kernel_rfl) (x := .normal) (s' := (S22 e0)) ((R25 w b fr e0).trans (by rw [condT (hE1)])) ?_
  show Gets _ _ (codeAt [1, 1, 1, 1, 1, 1, 1, 1, 0, 1, 0, 1] B) _ _
  rw [C1_1_1_1_1_1_1_1_0_1_0_1]; refine Gets.ev fitT.mix fitT.cfg (fitT.sound lane_sound 12 0) 12 rfl (s' := KSt.low (S22 e0)) (x := .ret) rfl ?_
  exact hq
theorem R26 (w : Int) (b : Int) (fr : Int) (e0 : TypeId) : evCK Tryd.prog cfgT (runK Tryd.prog cfgT fsT (conT laneDom laneE) 12 40) 12 (codeAt [1, 1, 1, 1, 1, 1, 1, 1, 0, 1, 1] B) (S21 w b fr e0) (normC 1 [0, 7, 8, 14]) =
  some (.normal, (S19 w b fr e0)) := by kernel_rfl
theorem C1_1_1_1_1_1_1_1_1 : (codeAt [1, 1, 1, 1, 1, 1, 1, 1, 1] B) = .seq (codeAt [1, 1, 1, 1, 1, 1, 1, 1, 1, 0] B) (codeAt [1, 1, 1, 1, 1, 1, 1, 1, 1, 1] B) := by kernel_rfl
theorem R27 (w : Int) (b : Int) (fr : Int) (e0 : TypeId) : evCK Tryd.prog cfgT (runK Tryd.prog cfgT fsT (conT laneDom laneE) 12 40) 12 (codeAt [1, 1, 1, 1, 1, 1, 1, 1, 1, 0] B) (S19 w b fr e0) (normC 1 [6]) =
  bif (fr == b) then
    bif (fr == b) then
      some (.normal, (S22 e0))
    else
      bif ((popV ((matchV ((fillV w fr b)) b))) == (IntKind.wrap .i64 ((popV ((matchV w b))) + (popV ((matchV w fr)))))) then
        some (.normal, (S22 e0))
      else
        some (.normal, (S23 e0))
  else
    bif ((popV ((matchV ((fillV w fr b)) fr))) == 0) then
      bif (fr == b) then
        some (.normal, (S22 e0))
      else
        bif ((popV ((matchV ((fillV w fr b)) b))) == (IntKind.wrap .i64 ((popV ((matchV w b))) + (popV ((matchV w fr)))))) then
          some (.normal, (S22 e0))
        else
          some (.normal, (S23 e0))
    else
      some (.normal, (S23 e0)) := by kernel_rfl
theorem C1_1_1_1_1_1_1_1_1_1 : (codeAt [1, 1, 1, 1, 1, 1, 1, 1, 1, 1] B) = .ret := by kernel_rfl
theorem o_eq (w i b fr k : Int) (e0 : TypeId) (hb : 0 ≤ b ∧ b ≤ 255) (hf : fr = b)   {Q : Ex → St → Prop} (hq : Q .ret (KSt.low (S22 e0))) : Gets Tryd.prog (varH .u8 tz e0).low (codeAt [1, 1, 1, 1, 1, 1, 1] B) (KSt.low (S10 w i b fr k e0)) Q := by
  rw [C1_1_1_1_1_1_1]; refine Gets.seq ?_
  refine Gets.ofN fitT lane_sound (conT_agree _ _) 12 40 (by kernel_rfl) (x := .normal) (s' := (S19 w b fr e0)) (R22 w i b fr k e0) ?_
  show Gets _ _ (codeAt [1, 1, 1, 1, 1, 1, 1, 1] B) _ _
  rw [C1_1_1_1_1_1_1_1]; refine Gets.seq ?_
  rw [C1_1_1_1_1_1_1_1_0]; refine Gets.seq ?_
  refine Gets.ofN fitT lane_sound (conT_agree _ _) 12 40 (by kernel_rfl) (x := .normal) (s' := (S21 w b fr e0)) ((R23 w b fr e0).trans (by rw [condF (decide_eq_false (by omega))])) ?_
  show Gets _ _ (codeAt [1, 1, 1, 1, 1, 1, 1, 1, 0, 1] B) _ _
  rw [C1_1_1_1_1_1_1_1_0_1]; refine Gets.cond false (by kernel_rfl) ((show evalX (KSt.ts (S21 w b fr e0)) (.tmp 69) = .bool (decide (b > 255)) by kernel_rfl).trans (by rw [(show (decide (b > 255)) = false from decide_eq_false (by omega))])) ?_; show Gets _ _ (codeAt [1, 1, 1, 1, 1, 1, 1, 1, 0, 1, 1] B) _ _
  refine Gets.ofN fitT lane_sound (conT_agree _ _) 12 40 (by kernel_rfl) (x := .normal) (s' := (S19 w b fr e0)) (R26 w b fr e0) ?_
  show Gets _ _ (codeAt [1, 1, 1, 1, 1, 1, 1, 1, 1] B) _ _
  rw [C1_1_1_1_1_1_1_1_1]; refine Gets.seq ?_
  refine Gets.ofN fitT lane_sound (conT_agree _ _) 12 40 (by kernel_rfl) (x := .normal) (s' := (S22 e0)) ((R27 w b fr e0).trans (by rw [condT (ibeq_t (by omega)), condT (ibeq_t (by omega))])) ?_
  show Gets _ _ (codeAt [1, 1, 1, 1, 1, 1, 1, 1, 1, 1] B) _ _
  rw [C1_1_1_1_1_1_1_1_1_1]; refine Gets.ev fitT.mix fitT.cfg (fitT.sound lane_sound 12 0) 12 rfl (s' := KSt.low (S22 e0)) (x := .ret) rfl ?_
  exact hq
theorem o_ne (w i b fr k : Int) (e0 : TypeId) (hb : 0 ≤ b ∧ b ≤ 255) (hf : fr ≠ b) (hE1 : ((popV (matchV (fillV w fr b) fr)) == 0) = true) (hE2 : ((popV (matchV (fillV w fr b) b)) == (IntKind.wrap .i64 ((popV (matchV w b)) + (popV (matchV w fr))))) = true)   {Q : Ex → St → Prop} (hq : Q .ret (KSt.low (S22 e0))) : Gets Tryd.prog (varH .u8 tz e0).low (codeAt [1, 1, 1, 1, 1, 1, 1] B) (KSt.low (S10 w i b fr k e0)) Q := by
  rw [C1_1_1_1_1_1_1]; refine Gets.seq ?_
  refine Gets.ofN fitT lane_sound (conT_agree _ _) 12 40 (by kernel_rfl) (x := .normal) (s' := (S19 w b fr e0)) (R22 w i b fr k e0) ?_
  show Gets _ _ (codeAt [1, 1, 1, 1, 1, 1, 1, 1] B) _ _
  rw [C1_1_1_1_1_1_1_1]; refine Gets.seq ?_
  rw [C1_1_1_1_1_1_1_1_0]; refine Gets.seq ?_
  refine Gets.ofN fitT lane_sound (conT_agree _ _) 12 40 (by kernel_rfl) (x := .normal) (s' := (S21 w b fr e0)) ((R23 w b fr e0).trans (by rw [condF (decide_eq_false (by omega))])) ?_
  show Gets _ _ (codeAt [1, 1, 1, 1, 1, 1, 1, 1, 0, 1] B) _ _
  rw [C1_1_1_1_1_1_1_1_0_1]; refine Gets.cond false (by kernel_rfl) ((show evalX (KSt.ts (S21 w b fr e0)) (.tmp 69) = .bool (decide (b > 255)) by kernel_rfl).trans (by rw [(show (decide (b > 255)) = false from decide_eq_false (by omega))])) ?_; show Gets _ _ (codeAt [1, 1, 1, 1, 1, 1, 1, 1, 0, 1, 1] B) _ _
  refine Gets.ofN fitT lane_sound (conT_agree _ _) 12 40 (by kernel_rfl) (x := .normal) (s' := (S19 w b fr e0)) (R26 w b fr e0) ?_
  show Gets _ _ (codeAt [1, 1, 1, 1, 1, 1, 1, 1, 1] B) _ _
  rw [C1_1_1_1_1_1_1_1_1]; refine Gets.seq ?_
  refine Gets.ofN fitT lane_sound (conT_agree _ _) 12 40 (by kernel_rfl) (x := .normal) (s' := (S22 e0)) ((R27 w b fr e0).trans (by rw [condF (ibeq_f (by omega)), condT (hE1), condF (ibeq_f (by omega)), condT (hE2)])) ?_
  show Gets _ _ (codeAt [1, 1, 1, 1, 1, 1, 1, 1, 1, 1] B) _ _
  rw [C1_1_1_1_1_1_1_1_1_1]; refine Gets.ev fitT.mix fitT.cfg (fitT.sound lane_sound 12 0) 12 rfl (s' := KSt.low (S22 e0)) (x := .ret) rfl ?_
  exact hq
theorem C1_1_1_1_1_1_0_1 : (codeAt [1, 1, 1, 1, 1, 1, 0, 1] B) = .block 2 (codeAt [1, 1, 1, 1, 1, 1, 0, 1, 0] B) := by kernel_rfl
theorem C1_1_1_1_1_1_0_1_0 : (codeAt [1, 1, 1, 1, 1, 1, 0, 1, 0] B) = .loop (codeAt [1, 1, 1, 1, 1, 1, 0, 1, 0, 0] B) := by kernel_rfl
noncomputable def QE : Ex → St → Prop := Eng.Ends Tryd.prog Tryd.f5.results.toList fun r _ => r = .bool true
theorem qe_true {s : KSt} (h : resL Tryd.prog s.low Tryd.f5.results.toList = some [.bool true]) : QE .ret s.low := Ends.of h rfl

inductive LInv (w i b fr : Int) (e0 : TypeId) : Nat → KSt → Prop
  | at_ (k : Int) (hk : 0 ≤ k) (hk8 : k ≤ 8) : LInv w i b fr e0 (8 - k).toNat (S9 w i b fr k e0)
theorem partsLoop (w i b fr : Int) (e0 : TypeId) (hw : 0 ≤ w ∧ w < 18446744073709551616) (m : Nat) (s : KSt) (hI : LInv w i b fr e0 m s) :
    Gets Tryd.prog (varH .u8 tz e0).low (codeAt [1, 1, 1, 1, 1, 1, 0, 1] B) s.low (onN (fun s => Gets Tryd.prog (varH .u8 tz e0).low (codeAt [1, 1, 1, 1, 1, 1, 1] B) s (QE)) (QE)) := by
  rw [C1_1_1_1_1_1_0_1, C1_1_1_1_1_1_0_1_0]
  refine Gets.loopG (fun m s => LInv w i b fr e0 m s) ?_ _ _ hI
  clear hI m s
  intro m s hI
  cases hI with
  | at_ k hk hk8 =>
    by_cases h8 : k = 8
    · refine ex w i b fr k e0 h8 ?_
      refine ⟨fun _ => ?_, fun h => by cases h⟩
      by_cases hb : b < 0
      · exact o_bl w i b fr k e0 hb (by rw [fillV_out (by omega)]; exact beq_self_eq_true _) (qe_true (by kernel_rfl))
      by_cases hb2 : 255 < b
      · exact o_bh w i b fr k e0 hb2 (by rw [fillV_out (by omega)]; exact beq_self_eq_true _) (qe_true (by kernel_rfl))
      by_cases hf : fr = b
      · exact o_eq w i b fr k e0 (by omega) hf (qe_true (by kernel_rfl))
      · obtain ⟨q1, q2⟩ := counts hw (show 0 ≤ b ∧ b ≤ 255 by omega) hf
        exact o_ne w i b fr k e0 (by omega) hf (by rw [q1]; rfl) (by rw [q2]; exact beq_self_eq_true _) (qe_true (by kernel_rfl))
    · have hB := byte_with hw i b (show 0 ≤ k ∧ k ≤ 7 by omega)
      by_cases hi : k = i
      · by_cases hb : b < 0
        · rw [if_neg (by omega)] at hB
          refine bl w i b fr k e0 hk (by omega) hi hb hB ?_
          exact ⟨_, _, by omega, rfl, .at_ (k + 1) (by omega) (by omega)⟩
        by_cases hb2 : 255 < b
        · rw [if_neg (by omega)] at hB
          refine bh w i b fr k e0 hk (by omega) hi hb2 hB ?_
          exact ⟨_, _, by omega, rfl, .at_ (k + 1) (by omega) (by omega)⟩
        · rw [if_pos (by omega)] at hB
          refine ok w i b fr k e0 hk (by omega) hi (by omega) hB ?_
          exact ⟨_, _, by omega, rfl, .at_ (k + 1) (by omega) (by omega)⟩
      · rw [if_neg (by omega)] at hB
        refine ne w i b fr k e0 hk (by omega) hi hB ?_
        exact ⟨_, _, by omega, rfl, .at_ (k + 1) (by omega) (by omega)⟩
theorem told (w i b fr : Int) (e0 : TypeId) (hw : 0 ≤ w ∧ w < 18446744073709551616) : Tells Tryd.prog 5 [.int .u64 w, .int .i64 i, .agg #[.int .i64 b, .int .i64 fr]] (varH .u8 tz e0).low (.bool true) := by
  refine Gets.tells Tryd.func5 B_is (by rw [oneVar]; exact Nat.le_refl _) rfl ?_ Ro.varH
  show Gets Tryd.prog (varH .u8 tz e0).low B (KSt.low (S0 w i b fr e0)) QE
  refine pre w i b fr 0 e0 (fun _ => rfl) (chain_id hw) ?_
  exact partsLoop w i b fr e0 hw _ _ (.at_ 0 (by omega) (by omega))
theorem own : ownKnob Tryd.prog.godebug = none := by kernel_rfl
def laidV0 : List (String × DataW Unit) := laidV
/-- The door's own heap meets the condition. -/
theorem door_met (os : Os) (args : Array Value) : laidMetH Tryd.prog laidV ((World.doorLaid Tryd.prog 400 os).forCall (fun _ _ => 0) ⟨#[], args, []⟩).memory :=
  laidMetH_of_parts3 (fuel := 8) (laidMet_of_run' 8 (by kernel_rfl) (by kernel_rfl)) (by kernel_rfl) (by kernel_rfl)
theorem lifted (os : Os) (started : os.Started) (H : Type) (enc : TypeId × Value → H) :
    ReturnsInHanded {} Tryd.checked os 5 .any (fun w args => (Rows.lanePartsSpec.pre enc Tryd.prog Tryd.f5 [] false w args ∧ laidMetH Tryd.prog laidV w) ∧ sizedMet enc Tryd.prog Tryd.f5 (OpenSpec.ofChange Rows.lanePartsSpec) false w args)
      (Rows.lanePartsSpec.post enc Tryd.prog Tryd.f5 false true false false) := by
  refine returnsInHanded_of_change_and (C := Tryd.checked) (X := fun w _ => laidMetH Tryd.prog laidV w) (fun _ _ _ hh h => h.of_heap hh) own started (by kernel_rfl) Tryd.func5
    (ChangeSpec.witness_shaped (enc := enc) (C := Tryd.checked) (os := os) (X := fun w _ => laidMetH Tryd.prog laidV w) false (World.doorLaid Tryd.prog 400 os) #[.int .u64 0, .int .i64 0, .agg #[.int .i64 0, .int .i64 0]] 8 rfl (World.shaped_of_RefB (by kernel_rfl) (by kernel_rfl)) (by kernel_rfl) (by kernel_rfl) (by kernel_rfl) (door_met os _)) ?_
  intro W base args ds gs before hval0 hW hcnd hsz0 hL _
  have hvar := tz_cells hL
  have hval : ∀ (j : Nat) t v, Tryd.f5.params[j]? = some t → args[j]? = some v → Value.okWide Tryd.prog W .any base t v := hval0
  have hW' := hW
  obtain ⟨p, q, hA0, hV, rfl, hfz, hnd⟩ := hW
  have hA : DataW.TrodAll enc Tryd.prog W 0 (fun _ => true) true Tryd.f5.params.toList args.toList ds p := hA0
  rw [Tryd.params5] at hA hval
  have hS := hA
  obtain ⟨v0, vs0, d0, ds0, p0, q0, hargs, rfl, rfl, h0, r0⟩ := trodAll_cons hA
  obtain ⟨v1, vs1, d1, ds1, p1, q1, rfl, rfl, rfl, h1, r1⟩ := trodAll_cons r0
  obtain ⟨v2, vs2, d2, ds2, p2, q2, rfl, rfl, rfl, h2, r2⟩ := trodAll_cons r1
  obtain ⟨rfl, rfl, rfl⟩ := trodAll_nil r2
  obtain rfl : args = #[v0, v1, v2] := by cases args; simp_all
  obtain ⟨rfl, rfl⟩ := trodVars_none hV
  suffices hc : Calls Tryd.prog 5 #[v0, v1, v2] W fun e W' => e = .returned (.bool true) ∧ Below W.heap.size W W' by
    refine hc.mono fun e W' ⟨he, bel⟩ => ?_
    subst he
    exact ⟨_, rfl, _, _, _, [], _, [], hW', trodAll_mk1 (shut_bool Tryd.underlying4 _), trodAll_stays fineA bel (by decide +kernel) hS, rfl, bel.frame _, fun h => by cases h⟩
  clear hS hW' hfz hnd
  obtain ⟨a0, rfl, rfl, rfl, w0⟩ := open_int Tryd.underlying22 (hval 0 22 v0 rfl rfl) h0
  obtain ⟨a1, rfl, rfl, rfl, w1⟩ := open_int Tryd.underlying3 (hval 1 3 v1 rfl rfl) h1
  obtain ⟨cs2, rfl, hl2, hc2⟩ := open_agg (ts := [3, 3]) (by kernel_rfl) (by kernel_rfl) (by kernel_rfl) (hval 2 33 v2 rfl rfl)
  obtain ⟨x2_0, cs2_0, rfl, hl2_0⟩ := list_succ hl2
  obtain ⟨x2_1, cs2_1, rfl, hl2_1⟩ := list_succ hl2_0
  obtain rfl := list_zero hl2_1
  obtain ⟨a2_0, rfl, w2_0⟩ := cell_int (k := .i64) Tryd.underlying3 (hc2 0 _ _ rfl rfl)
  obtain ⟨a2_1, rfl, w2_1⟩ := cell_int (k := .i64) Tryd.underlying3 (hc2 1 _ _ rfl rfl)
  obtain ⟨e, hS⟩ := Sim.var (k := .u8) (zs := tz) oneVar (by decide) hvar
  exact told a0 a1 a2_0 a2_1 e (wf_u64 w0) _ W _ (.cons (.int _ _) (.cons (.int _ _) (.cons (.of_plain rfl) (.nil _)))) hS
theorem over : Rows.lanePartsRow.holds Tryd.pinned (OpenSpec.ofChange Rows.lanePartsSpec) :=
  OpenClaim.holds_of_wide 5 Tryd.f5 rfl rfl rfl rfl rfl rfl rfl ⟨rfl, rfl, rfl, rfl, rfl⟩ rfl rfl rfl rfl rfl (by kernel_rfl) Tryd.func5 (by kernel_rfl)
    (of_decide_eq_true (by kernel_rfl)) (by unfold Func.isWrapper; first | (rw [if_pos (by decide +kernel)]; kernel_rfl) | (rw [if_neg (by decide +kernel)]; exact ⟨rfl, rfl⟩))
    (fun os started H enc _ => lifted os started H enc)
end Go.Proofs.YteafenadjidkdaaDoor.laneParts
namespace Go.Proofs.YteafenadjidkdaaDoor
/-- The tied card, for the claim. -/
theorem laneParts_holds : Rows.LanePartsCardSaid :=
  Claim7.holds_tied_plain_at .later [] [.data] true (true, "311be7784f3cdb14a14e5a869a188c3f955b6b6d19542726ab5b5a32b74a7d88") false
    laneParts.over (fun _ h => by cases h) (by kernel_rfl) (fun _ h => by cases h) laneParts_row_tie rfl ⟨rfl, rfl⟩ (by kernel_rfl) rfl
    (fun f fn hf hfn => by
      obtain rfl : f = 5 := Option.some.inj ((show Tryd.prog.funcNamed "sprocket/sprocketlaw02.LaneParts" = some 5 by kernel_rfl).symm.trans hf) |>.symm
      obtain rfl : fn = Tryd.f5 := (Option.some.inj (Tryd.func5.symm.trans hfn)).symm
      exact ⟨by kernel_rfl, fun j t ht => by
        rw [Tryd.params5] at ht
        have hm : t ∈ [22, 3, 33] := by simpa using Array.mem_of_getElem? ht
        have hall : ([22, 3, 33].all fun u => !Tryd.prog.wantsStandIn u) = true := by kernel_rfl
        exact (show Tryd.prog.wantsStandIn t = false by simpa using List.all_eq_true.1 hall t hm)⟩)
    (by kernel_rfl)
#print axioms laneParts_holds
end Go.Proofs.YteafenadjidkdaaDoor
