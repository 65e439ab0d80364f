import Derived.Test.YtfhfbbhoppnbiaaDoorRtM
import Derived.WalkKit
import Derived.ProofKit
import Derived.OpenShut
import Derived.ChangeOld
import Derived.Below
import Derived.SizedLaws
namespace Go.Proofs.YtfhfbbhoppnbiaaDoor
open Go.Eng
open Go.ChangeShapes Go.WideShapes Go.ChangeAt Go.RowKit
set_option linter.unusedVariables false
set_option linter.unusedSimpArgs false
set_option maxRecDepth 100000
def getL (k : Int) : List (Int × Int × Nat) → Int
  | [] => 0
  | (k', v, _) :: r => if k = k' then v else getL k r
theorem dFind_none {k : Int} : ∀ {es : List (Int × Int × Nat)} {i : Nat}, dFind k es i = none → getL k es = 0 ∧ k ∉ es.map Prod.fst
  | [], _, _ => ⟨rfl, by simp⟩
  | (k', v, b) :: r, i, h => by
    unfold dFind at h
    by_cases hk : k = k'
    · rw [ibeq_t hk] at h; cases h
    · rw [ibeq_f hk] at h
      obtain ⟨h1, h2⟩ := dFind_none (es := r) h
      exact ⟨by unfold getL; rw [if_neg hk, h1], by simp [hk, h2]⟩
theorem dFind_some {k : Int} : ∀ {es : List (Int × Int × Nat)} {i : Nat} {p : Nat × Int}, dFind k es i = some p → ∃ A B v b, es = A ++ (k, v, b) :: B ∧ k ∉ A.map Prod.fst ∧ p = (i + A.length, v) ∧ getL k es = v
  | [], _, _, h => by cases h
  | (k', v, b) :: r, i, p, h => by
    unfold dFind at h
    by_cases hk : k = k'
    · rw [ibeq_t hk] at h; cases h; subst hk
      exact ⟨[], r, v, b, rfl, by simp, rfl, by unfold getL; rw [if_pos rfl]⟩
    · rw [ibeq_f hk] at h
      obtain ⟨A, B, v', b', rfl, h1, rfl, h3⟩ := dFind_some (es := r) h
      exact ⟨(k', v, b) :: A, B, v', b', rfl, by simp [hk, h1], by simp only [List.length_cons]; rw [show i + 1 + A.length = i + (A.length + 1) by omega], by unfold getL; rw [if_neg hk, h3]⟩
theorem get_eq (d : DictSt) (k : Int) : d.get k = getL k d.es := by
  unfold DictSt.get
  cases h : dFind k d.es 0 with
  | none => exact (dFind_none h).1.symm
  | some p => obtain ⟨A, B, v, b, -, -, rfl, h4⟩ := dFind_some h; exact h4.symm
theorem getL_app {k : Int} : ∀ {A B : List (Int × Int × Nat)}, k ∉ A.map Prod.fst → getL k (A ++ B) = getL k B
  | [], _, _ => rfl
  | (k', v, b) :: r, B, h => by
    simp only [List.map_cons, List.mem_cons, not_or] at h
    show getL k ((k', v, b) :: (r ++ B)) = _; rw [getL, if_neg h.1, getL_app h.2]
theorem getL_skip {k k2 v : Int} {b : Nat} (hk : ¬ k = k2) : ∀ {A B : List (Int × Int × Nat)}, getL k (A ++ (k2, v, b) :: B) = getL k (A ++ B)
  | [], B => by show getL k ((k2, v, b) :: B) = _; rw [getL, if_neg hk]; rfl
  | (k', v', b') :: r, B => by
    simp only [List.cons_append]
    unfold getL
    rw [getL_skip hk (A := r)]
theorem getL_not {k : Int} {A : List (Int × Int × Nat)} (h : k ∉ A.map Prod.fst) : getL k A = 0 := by
  have := getL_app (B := []) h
  rw [List.append_nil] at this; exact this
theorem setD_app {k v v' : Int} {b : Nat} : ∀ {A B : List (Int × Int × Nat)} {k2 : Int}, setD (A ++ (k2, v', b) :: B) A.length k v = A ++ (k, v, b) :: B
  | [], _, _ => rfl
  | e :: r, B, k2 => by
    show setD (e :: (r ++ (k2, v', b) :: B)) (r.length + 1) k v = _
    unfold setD; rw [setD_app]; rfl
def DNd (d : DictSt) : Prop := (d.es.map Prod.fst).Nodup
theorem set_get {d : DictSt} {k v k' : Int} : (d.set k v).get k' = if k' = k then v else d.get k' := by
  rw [get_eq, get_eq]
  unfold DictSt.set
  cases h : dFind k d.es 0 with
  | none =>
    obtain ⟨h1, h2⟩ := dFind_none h
    show getL k' (d.es ++ [(k, v, d.clk)]) = _
    by_cases hk : k' = k
    · subst hk; rw [if_pos rfl, getL_app h2, getL, if_pos rfl]
    · rw [if_neg hk, getL_skip hk, List.append_nil]
  | some p =>
    obtain ⟨A, B, v', b, he, h2, rfl, h4⟩ := dFind_some h
    show getL k' (setD d.es (0 + A.length) k v) = _
    rw [Nat.zero_add, he, setD_app]
    by_cases hk : k' = k
    · subst hk; rw [if_pos rfl, getL_app h2, getL, if_pos rfl]
    · rw [if_neg hk, getL_skip hk, getL_skip hk]
theorem set_nd {d : DictSt} {k v : Int} (h : DNd d) : DNd (d.set k v) := by
  unfold DNd DictSt.set at *
  cases hf : dFind k d.es 0 with
  | none =>
    obtain ⟨h1, h2⟩ := dFind_none hf
    show ((d.es ++ [(k, v, d.clk)]).map Prod.fst).Nodup
    rw [List.map_append, List.nodup_append]
    refine ⟨h, by simp, fun a ha b hb => ?_⟩
    simp at hb; subst hb
    intro he; subst he; exact h2 ha
  | some p =>
    obtain ⟨A, B, v', b, he, h2, rfl, h4⟩ := dFind_some hf
    show ((setD d.es (0 + A.length) k v).map Prod.fst).Nodup
    rw [Nat.zero_add, he, setD_app]
    rw [he] at h
    simpa using h
theorem del_nd {d : DictSt} {k : Int} (h : DNd d) : DNd (d.del k) := by
  unfold DNd DictSt.del at *
  cases hf : dFind k d.es 0 with
  | none => exact h
  | some p => exact h.sublist ((List.eraseIdx_sublist d.es p.1).map _)
theorem del_get {d : DictSt} {k k' : Int} (h : DNd d) : (d.del k).get k' = if k' = k then 0 else d.get k' := by
  rw [get_eq, get_eq]
  unfold DNd at h
  unfold DictSt.del
  cases hf : dFind k d.es 0 with
  | none =>
    obtain ⟨h1, h2⟩ := dFind_none hf
    by_cases hk : k' = k
    · subst hk; rw [if_pos rfl]; exact h1
    · rw [if_neg hk]
  | some p =>
    obtain ⟨A, B, v', b, he, h2, rfl, h4⟩ := dFind_some hf
    show getL k' (d.es.eraseIdx (0 + A.length)) = _
    rw [Nat.zero_add, he, List.eraseIdx_append_of_length_le (Nat.le_refl _), Nat.sub_self]
    show getL k' (A ++ B) = _
    by_cases hk : k' = k
    · subst hk; rw [if_pos rfl]
      refine getL_not ?_
      rw [he] at h
      simp only [List.map_append, List.map_cons, List.nodup_append, List.nodup_cons] at h
      simp only [List.map_append, List.mem_append, not_or]
      exact ⟨h2, h.2.1.1⟩
    · rw [if_neg hk, getL_skip hk]
theorem dictOf_nd (l : List Int) : DNd (dictOf l) := by
  unfold dictOf
  suffices h : ∀ (l : List Int) (d : DictSt), DNd d → DNd (l.foldl (fun d b => d.set b 1) d) from h l _ (by unfold DNd; exact List.nodup_nil)
  intro l
  induction l with
  | nil => exact fun d h => h
  | cons a r ih => exact fun d h => ih _ (set_nd h)
theorem dictOf_get (l : List Int) (w : Int) (hw : w ∈ l) : (dictOf l).get w = 1 := by
  unfold dictOf
  suffices h : ∀ (l : List Int) (d : DictSt), (w ∈ l ∨ d.get w = 1) → (l.foldl (fun d b => d.set b 1) d).get w = 1 from h l _ (.inl hw)
  intro l
  induction l with
  | nil => intro d h; rcases h with h | h; cases h; exact h
  | cons a r ih =>
    intro d h
    refine ih _ ?_
    rw [set_get]
    by_cases ha : w = a
    · exact .inr (if_pos ha)
    · rw [if_neg ha]
      rcases h with h | h
      · rcases List.mem_cons.1 h with h | h
        · exact absurd h ha
        · exact .inl h
      · exact .inr h
def dels (d : DictSt) (q : List Int) : DictSt := q.foldl DictSt.del d
theorem dels_get {q : List Int} {w : Int} : ∀ {d : DictSt}, DNd d → (dels d q).get w = if w ∈ q then 0 else d.get w := by
  induction q with
  | nil => intro d h; rfl
  | cons a r ih =>
    intro d h
    show (dels (d.del a) r).get w = _
    rw [ih (del_nd h), del_get h]
    by_cases h1 : w = a <;> by_cases h2 : w ∈ r <;> simp [h1, h2]
theorem pred_eq {W q : List Int} {w : Int} (hw : w ∈ W) : ((dels (dictOf W) q).get w == 0) = hasW q w := by
  rw [dels_get (dictOf_nd W), dictOf_get W w hw]
  unfold hasW
  by_cases h : w ∈ q
  · rw [if_pos h, decide_eq_true h]; rfl
  · rw [if_neg h, decide_eq_false h]; rfl
theorem tps_ov {l : List Int} {T : TpS} {k b c o n : Int} (h : T.ov = true) : tpS l T k b c o n = T := by
  obtain ⟨a, v, k', b', c', o', n'⟩ := T
  cases h; rfl
theorem tps_go {l : List Int} {j k b c o n : Int} (h : j < (l.length : Nat)) : tpS l ⟨j, false, 0, 0, 0, 0, 0⟩ k b c o n = ⟨j + 1, false, 0, 0, 0, 0, 0⟩ := by
  unfold tpS tAt tOv tF tLv; simp [h]
theorem tps_end {l : List Int} {j k b c o n : Int} (h : ¬ j < (l.length : Nat)) : tpS l ⟨j, false, 0, 0, 0, 0, 0⟩ k b c o n = ⟨j, true, k, b, c, o, n⟩ := by
  unfold tpS tAt tOv tF tLv; simp [h]
theorem load_ov {l : List Int} {dk : Int} : ∀ (f : Nat) (i : Int) (T : TpS) (q : List Int), T.ov = true → (rlLoad l dk f i T q).1 = T
  | 0, _, _, _, _ => rfl
  | f + 1, i, T, q, h => by
    unfold rlLoad; rw [tps_ov h]; exact load_ov f _ _ _ h
theorem load_few {l : List Int} {dk : Int} : ∀ (f : Nat) (i : Nat) (q : List Int), i ≤ l.length → l.length < i + f → (rlLoad l dk f (i : Int) ⟨(i : Int), false, 0, 0, 0, 0, 0⟩ q).1 = ⟨(l.length : Nat), true, 1, dk, 3 + 2 * ((l.length : Nat) : Int), 0, 0⟩
  | 0, i, q, h1, h2 => by omega
  | f + 1, i, q, h1, h2 => by
    unfold rlLoad
    by_cases h : i < l.length
    · rw [tps_go (l := l) (by omega)]
      exact load_few f (i + 1) _ (by omega) (by omega)
    · have : i = l.length := by omega
      subst this
      rw [tps_end (by omega), load_ov _ _ _ _ rfl]
      congr 1; omega
theorem load_all {l : List Int} {dk : Int} : ∀ (f : Nat) (i : Nat), i + f ≤ l.length → rlLoad l dk f (i : Int) ⟨(i : Int), false, 0, 0, 0, 0, 0⟩ (l.take i) = (⟨((i + f : Nat) : Int), false, 0, 0, 0, 0, 0⟩, l.take (i + f))
  | 0, i, h => rfl
  | f + 1, i, h => by
    unfold rlLoad
    rw [tps_go (l := l) (by omega)]
    have e : l.take i ++ [tAns l (i : Int) false] = l.take (i + 1) := by
      unfold tAns tLv
      rw [decide_eq_true (by omega : ((i : Nat) : Int) < (l.length : Nat))]
      show l.take i ++ [l.getD (i : Int).toNat 0] = _
      rw [Int.toNat_natCast, List.take_add_one, List.getElem?_eq_getElem (by omega), List.getD_eq_getElem?_getD, List.getElem?_eq_getElem (by omega)]; rfl
    rw [show (TpS.mk ((i : Nat) : Int) false 0 0 0 0 0).at_ = (i : Int) from rfl, show (TpS.mk ((i : Nat) : Int) false 0 0 0 0 0).ov = false from rfl, e]
    have := load_all (l := l) (dk := dk) f (i + 1) (by omega)
    rw [show i + 1 + f = i + (f + 1) by omega] at this
    exact this
theorem free_ov {l q : List Int} : ∀ (m : List Int) (T : TpS) (r : List Int), T.ov = true → (rlFree l q m T r).1 = T ∧ (rlFree l q m T r).2.length ≤ r.length + m.length
  | [], T, r, _ => ⟨rfl, Nat.le_refl _⟩
  | x :: m, T, r, h => by
    unfold rlFree
    cases hasW q x with
    | true =>
      obtain ⟨h1, h2⟩ := free_ov m T (r ++ [x]) h
      exact ⟨h1, by simp only [List.length_append, List.length_cons, List.length_nil] at h2 ⊢; simp only [cond_true]; omega⟩
    | false =>
      simp only [cond_false]
      rw [tps_ov h]
      obtain ⟨h1, h2⟩ := free_ov m T r h
      exact ⟨h1, by simp only [List.length_cons]; omega⟩
theorem free_all {l q : List Int} : ∀ (m : List Int) (j : Nat) (r : List Int), j + (m.filter fun w => !hasW q w).length ≤ l.length →
    rlFree l q m ⟨(j : Int), false, 0, 0, 0, 0, 0⟩ r = (⟨((j + (m.filter fun w => !hasW q w).length : Nat) : Int), false, 0, 0, 0, 0, 0⟩, r ++ m.filter (hasW q))
  | [], j, r, _ => by simp [rlFree]
  | x :: m, j, r, h => by
    unfold rlFree
    cases hx : hasW q x with
    | true =>
      simp only [List.filter_cons, hx, Bool.not_true, cond_true] at h ⊢
      rw [free_all m j _ (by simpa using h)]
      simp
    | false =>
      simp only [List.filter_cons, hx, Bool.not_false, cond_false, if_true, List.length_cons] at h ⊢
      rw [tps_go (l := l) (by omega)]
      have := free_all (l := l) (q := q) m (j + 1) r (by omega)
      rw [show j + 1 + (m.filter fun w => !hasW q w).length = j + ((m.filter fun w => !hasW q w).length + 1) by omega] at this
      simpa using this
theorem free_few {l q : List Int} : ∀ (m : List Int) (j : Nat) (r : List Int), j ≤ l.length → l.length < j + (m.filter fun w => !hasW q w).length →
    (rlFree l q m ⟨(j : Int), false, 0, 0, 0, 0, 0⟩ r).1 = ⟨((l.length : Nat) : Int), true, 6, (m.filter fun w => !hasW q w).getD (l.length - j) 0, 0, 0, 0⟩ ∧
    (rlFree l q m ⟨(j : Int), false, 0, 0, 0, 0, 0⟩ r).2.length ≤ r.length + m.length
  | [], j, r, h1, h2 => by simp at h2; omega
  | x :: m, j, r, h1, h2 => by
    unfold rlFree
    cases hx : hasW q x with
    | true =>
      simp only [List.filter_cons, hx, Bool.not_true, cond_true] at h2 ⊢
      obtain ⟨g1, g2⟩ := free_few (l := l) (q := q) m j (r ++ [x]) h1 (by simpa using h2)
      refine ⟨by simpa using g1, ?_⟩
      simp only [List.length_append, List.length_cons, List.length_nil] at g2 ⊢; omega
    | false =>
      simp only [List.filter_cons, hx, Bool.not_false, cond_false, if_true, List.length_cons] at h2 ⊢
      by_cases h : j < l.length
      · rw [tps_go (l := l) (by omega)]
        obtain ⟨g1, g2⟩ := free_few (l := l) (q := q) m (j + 1) r (by omega) (by omega)
        refine ⟨?_, Nat.le_trans g2 (by omega)⟩
        rw [show l.length - j = (l.length - (j + 1)) + 1 by omega]
        simpa using g1
      · have : j = l.length := by omega
        subst this
        rw [tps_end (by omega)]
        obtain ⟨g1, g2⟩ := free_ov (l := l) (q := q) m ⟨((l.length : Nat) : Int), true, 6, x, 0, 0, 0⟩ r rfl
        refine ⟨?_, by omega⟩
        rw [g1, Nat.sub_self]; rfl
def looking (S : SiteSt) (t : Int) (W : List Int) (a : Nat) (D : DictSt) (R : List Int) : RetireSt := ⟨S, true, true, t, W, (a : Int), D, R, false⟩
theorem drop_at {A B : List Int} : (A ++ B).drop A.length = B := by simp
structure At (W A B : List Int) (p : Int → Bool) (n : Nat) : Prop where
  split : W = A ++ B
  cnt : (B = [] ∧ (W.filter fun w => !p w).length ≤ n) ∨ (∃ b B', B = b :: B' ∧ p b = false ∧ (A.filter fun w => !p w).length = n)
theorem tw_all {p : Int → Bool} {B : List Int} : (B.takeWhile p).filter p = B.takeWhile p := List.filter_eq_self.2 fun a ha => by
  have := List.all_takeWhile (p := p) (l := B)
  exact List.all_eq_true.1 this a ha
theorem tw_none {p : Int → Bool} {B : List Int} : (B.takeWhile p).filter (fun w => !p w) = [] := List.filter_eq_nil_iff.2 fun a ha => by
  have := List.all_eq_true.1 (List.all_takeWhile (p := p) (l := B)) a ha
  simp [this]
theorem dw_head {p : Int → Bool} : ∀ {B : List Int} {b : Int} {B' : List Int}, B.dropWhile p = b :: B' → p b = false
  | [], _, _, h => by cases h
  | x :: r, b, B', h => by
    cases hx : p x with
    | true => rw [List.dropWhile_cons, hx] at h; exact dw_head (B := r) h
    | false => rw [List.dropWhile_cons, hx] at h; cases h; exact hx
theorem skip_at {W A B : List Int} {p : Int → Bool} {n : Nat} (h : W = A ++ B) (hn : (A.filter fun w => !p w).length = n) : At W (A ++ B.takeWhile p) (B.dropWhile p) p n := by
  refine ⟨by rw [h, List.append_assoc, List.takeWhile_append_dropWhile], ?_⟩
  cases hd : B.dropWhile p with
  | nil =>
    refine .inl ⟨rfl, ?_⟩
    have : B = B.takeWhile p := by
      have := List.takeWhile_append_dropWhile (p := p) (l := B)
      rw [hd, List.append_nil] at this; exact this.symm
    rw [h, List.filter_append, this, tw_none, List.append_nil, hn]; exact Nat.le_refl _
  | cons b B' => exact .inr ⟨b, B', rfl, dw_head hd, by rw [List.filter_append, tw_none, List.append_nil]; exact hn⟩
theorem skP_eq {D : DictSt} {q W B : List Int} (hp : ∀ w ∈ W, (D.get w == 0) = hasW q w) (hB : ∀ w ∈ B, w ∈ W) : skP D B = B.takeWhile (hasW q) := by
  unfold skP
  induction B with
  | nil => rfl
  | cons b r ih =>
    rw [List.takeWhile_cons, List.takeWhile_cons, hp b (hB b (List.mem_cons_self ..)), ih fun w hw => hB w (List.mem_cons_of_mem _ hw)]
theorem rtSkip_eq {S : SiteSt} {t : Int} {W A B : List Int} {D : DictSt} {q : List Int} (ht : ¬ t < S.threads) (h : W = A ++ B) (hp : ∀ w ∈ W, (D.get w == 0) = hasW q w) :
    rtSkip (looking S t W A.length D (A.filter (hasW q))) = looking S t W (A ++ B.takeWhile (hasW q)).length D ((A ++ B.takeWhile (hasW q)).filter (hasW q)) := by
  unfold rtSkip looking
  rw [decide_eq_false ht]
  simp only [cond_false]
  have e : (W.drop ((A.length : Nat) : Int).toNat) = B := by rw [h, Int.toNat_natCast, drop_at]
  rw [e, skP_eq hp fun w hw => by rw [h]; exact List.mem_append_right _ hw, List.filter_append, tw_all, List.length_append]
  simp only [Int.natCast_add]
theorem run_behind {S : SiteSt} {W q : List Int} {D : DictSt} (hp : ∀ w ∈ W, (D.get w == 0) = hasW q w) {t : Int} (ht : ¬ t < S.threads) :
    ∀ (r : List Int) (n : Nat) (A B : List Int), At W A B (hasW q) n → ∃ A' B', At W A' B' (hasW q) (n + r.length) ∧ r.foldl rtTake (looking S t W A.length D (A.filter (hasW q))) = looking S t W A'.length D (A'.filter (hasW q))
  | [], n, A, B, h => ⟨A, B, h, rfl⟩
  | g :: r, n, A, B, h => by
    show ∃ A' B', _ ∧ r.foldl rtTake (rtTake _ g) = _
    rcases h.cnt with ⟨rfl, hc⟩ | ⟨b, B', rfl, hb, hc⟩
    · have hA : A.length = W.length := by rw [h.split, List.append_nil]
      have : rtTake (looking S t W A.length D (A.filter (hasW q))) g = looking S t W A.length D (A.filter (hasW q)) := by
        unfold rtTake rtMore looking
        simp only [decide_eq_false ht, Bool.false_or, Bool.true_and]
        rw [decide_eq_false (by omega)]; rfl
      rw [this]
      obtain ⟨A', B', h1, h2⟩ := run_behind hp ht r (n + 1) A [] ⟨h.split, .inl ⟨rfl, by omega⟩⟩
      exact ⟨A', B', by rw [List.length_cons, show n + (r.length + 1) = n + 1 + r.length by omega]; exact h1, h2⟩
    · have hA : A.length < W.length := by rw [h.split]; simp
      have hs : W = (A ++ [b]) ++ B' := by rw [h.split]; simp
      have : rtTake (looking S t W A.length D (A.filter (hasW q))) g = looking S t W ((A ++ [b]) ++ B'.takeWhile (hasW q)).length D (((A ++ [b]) ++ B'.takeWhile (hasW q)).filter (hasW q)) := by
        rw [← rtSkip_eq ht hs hp]
        unfold rtTake rtMore
        rw [show (looking S t W A.length D (A.filter (hasW q))).looks = true from rfl, show decide ((looking S t W A.length D (A.filter (hasW q))).at_ < (((looking S t W A.length D (A.filter (hasW q))).waiting.length : Nat) : Int)) = true from decide_eq_true (by show ((A.length : Nat) : Int) < ((W.length : Nat) : Int); omega)]
        simp only [Bool.or_true, Bool.and_self, cond_true]
        congr 1
        unfold rtStep looking
        simp only [decide_eq_false ht, cond_false, List.filter_append]
        rw [List.filter_cons, hb]
        simp
      rw [this]
      obtain ⟨A', C', h1, h2⟩ := run_behind hp ht r (n + 1) _ _ (skip_at hs (n := n + 1) (by rw [List.filter_append, List.length_append, hc, List.filter_cons, hb]; rfl))
      exact ⟨A', C', by rw [List.length_cons, show n + (r.length + 1) = n + 1 + r.length by omega]; exact h1, h2⟩
theorem run_desk {S : SiteSt} {W : List Int} : ∀ (l : List Int) (t : Nat) (D : DictSt), (t : Int) + (l.length : Nat) < S.threads → l.foldl rtTake (looking S (t : Int) W 0 D []) = looking S (((t + l.length : Nat)) : Int) W 0 (dels D l) []
  | [], t, D, _ => rfl
  | g :: r, t, D, h => by
    simp only [List.length_cons, Int.natCast_add] at h
    have : rtTake (looking S (t : Int) W 0 D []) g = looking S ((t + 1 : Nat) : Int) W 0 (D.del g) [] := by
      unfold rtTake rtMore rtStep rtSkip looking
      simp only [decide_eq_true (show (t : Int) < S.threads by omega), Bool.true_or, Bool.and_self, cond_true]
      rw [decide_eq_true (by omega)]; rfl
    show r.foldl rtTake (rtTake _ g) = _
    rw [this, run_desk r (t + 1) (D.del g) (by push_cast; push_cast at h; omega)]
    rw [List.length_cons, show t + 1 + r.length = t + (r.length + 1) by omega]; rfl
theorem run_last {S : SiteSt} {W : List Int} {l : List Int} {g : Int} (hW : W ≠ []) (h : ((l.length : Nat) : Int) + 1 = S.threads) :
    rtTake (looking S ((l.length : Nat) : Int) W 0 (dels (dictOf W) l) []) g = looking S S.threads W (W.takeWhile (hasW (l ++ [g]))).length (dels (dictOf W) (l ++ [g])) ((W.takeWhile (hasW (l ++ [g]))).filter (hasW (l ++ [g]))) := by
  have hs := rtSkip_eq (S := S) (t := S.threads) (W := W) (A := []) (B := W) (D := dels (dictOf W) (l ++ [g])) (q := l ++ [g]) (by omega) rfl fun w hw => pred_eq hw
  rw [List.nil_append] at hs
  rw [← hs]
  unfold rtTake rtMore rtStep looking
  simp only [decide_eq_true (show ((l.length : Nat) : Int) < S.threads by omega), Bool.true_or, Bool.and_self, cond_true]
  rw [h]
  unfold dels
  rw [List.foldl_append]; rfl
def behind (S : SiteSt) (W q : List Int) (A : List Int) : RetireSt := looking S S.threads W A.length (dels (dictOf W) q) (A.filter (hasW q))
theorem run_all {S : SiteSt} {W l : List Int} {ts : Nat} (hW : W ≠ []) (ht : S.threads = (ts : Int)) (h1 : 1 ≤ ts) (hl : ts ≤ l.length) :
    ∃ A B, At W A B (hasW (l.take ts)) (l.length - ts) ∧ l.foldl rtTake (looking S 0 W 0 (dictOf W) []) = behind S W (l.take ts) A := by
  have e : l = l.take (ts - 1) ++ ([l.getD (ts - 1) 0] ++ l.drop ts) := by
    have h2 : l.drop (ts - 1) = l.getD (ts - 1) 0 :: l.drop ts := by
      rw [List.drop_eq_getElem_cons (by omega), List.getD_eq_getElem?_getD, List.getElem?_eq_getElem (by omega)]
      rw [show ts - 1 + 1 = ts by omega]; rfl
    rw [List.singleton_append, ← h2, List.take_append_drop]
  have e2 : l.take ts = l.take (ts - 1) ++ [l.getD (ts - 1) 0] := by
    conv => lhs; rw [show ts = (ts - 1) + 1 by omega]
    rw [List.take_add_one, List.getElem?_eq_getElem (by omega), List.getD_eq_getElem?_getD, List.getElem?_eq_getElem (by omega)]; rfl
  have hlen : (l.take (ts - 1)).length = ts - 1 := by rw [List.length_take]; omega
  obtain ⟨A', B', g1, g2⟩ := run_behind (S := S) (W := W) (q := l.take ts) (D := dels (dictOf W) (l.take ts)) (fun w hw => pred_eq hw) (t := S.threads) (by omega) (l.drop ts) 0 _ _ (skip_at (A := []) (B := W) (p := hasW (l.take ts)) (n := 0) rfl rfl)
  refine ⟨A', B', by rw [Nat.zero_add, List.length_drop] at g1; exact g1, ?_⟩
  conv => lhs; rw [e]
  rw [List.foldl_append]
  have hd := run_desk (S := S) (W := W) (l.take (ts - 1)) 0 (dictOf W) (by rw [hlen, ht]; omega)
  rw [Nat.zero_add, show ((0 : Nat) : Int) = 0 from rfl] at hd
  rw [hd, List.foldl_append]
  show (l.drop ts).foldl rtTake (rtTake _ _) = _
  rw [run_last hW (by rw [hlen, ht]; omega), ← e2]
  exact g2
theorem ok_looking {S : SiteSt} {t : Int} {W R : List Int} {a : Nat} {D : DictSt} (hW : W ≠ []) (hw : W.length ≤ 1000) (h0 : 0 ≤ t) (h1 : t ≤ S.threads) (h2 : S.threads ≤ 64) (ha : a ≤ W.length) (hR : R.length ≤ a) : rtOk (looking S t W a D R) = true := by
  unfold rtOk looking
  simp only [Bool.and_eq_true, decide_eq_true_eq, cond_true, true_and, Bool.not_eq_true', List.isEmpty_eq_false_iff]
  exact ⟨hw, by omega, hW, h0, h1, h2, by omega, by omega, by omega⟩
theorem good_look {S : SiteSt} {W : List Int} (hW : W ≠ []) (hw : W.length ≤ 1000) (h1 : 1 ≤ S.threads) (h2 : S.threads ≤ 64) (l : List Int) :
    Good (l.foldl rtTake (looking S 0 W 0 (dictOf W) [])) (rlLook l S.desk S.threads ⟨0, false, 0, 0, 0, 0, 0⟩ W) := by
  have hne : W.isEmpty = false := by cases W with | nil => exact absurd rfl hW | cons a r => rfl
  obtain ⟨ts, hts⟩ : ∃ ts : Nat, S.threads = (ts : Int) := ⟨S.threads.toNat, by omega⟩
  unfold rlLook
  rw [hne]
  simp only [cond_false]
  rw [show S.threads.toNat = ts by omega]
  by_cases hl : l.length < ts
  · have hT := load_few (l := l) (dk := S.desk) ts 0 [] (Nat.zero_le _) (by omega)
    rw [show ((0 : Nat) : Int) = 0 from rfl] at hT
    have hd := run_desk (S := S) (W := W) l 0 (dictOf W) (by omega)
    rw [Nat.zero_add, show ((0 : Nat) : Int) = 0 from rfl] at hd
    rw [hd, hT]
    obtain ⟨g1, g2⟩ := free_ov (l := l) (q := (rlLoad l S.desk ts 0 ⟨0, false, 0, 0, 0, 0, 0⟩ []).2) W ⟨((l.length : Nat) : Int), true, 1, S.desk, 3 + 2 * ((l.length : Nat) : Int), 0, 0⟩ [] rfl
    have hd1 : decide (((l.length : Nat) : Int) < S.threads) = true := decide_eq_true (by omega)
    have hm : rtMore (looking S ((l.length : Nat) : Int) W 0 (dels (dictOf W) l) []) = true := by unfold rtMore looking; simp only [hd1]; rfl
    refine ⟨ok_looking hW hw (by omega) (by omega) h2 (Nat.zero_le _) (Nat.le_refl _), ⟨((l.length : Nat) : Int), _, Prod.ext ?_ rfl, ?_, ?_⟩, ?_, ?_⟩
    · rw [g1, hm]
      unfold rtK rtB rtC looking
      simp only [hd1]; rfl
    · exact Nat.le_trans g2 (by rw [List.length_nil]; omega)
    · intro h; unfold rtFin at h; rw [hm] at h; cases h
    · unfold rtFin; rfl
    · show ([] : List Int).length ≤ 1000; exact Nat.zero_le _
  · obtain ⟨A, B, hA, hr⟩ := run_all (S := S) (W := W) (l := l) (ts := ts) hW hts (by omega) (by omega)
    have hT := load_all (l := l) (dk := S.desk) ts 0 (by omega)
    rw [Nat.zero_add, show ((0 : Nat) : Int) = 0 from rfl, List.take_zero] at hT
    rw [hr, hT]
    simp only []
    have hq : (A.filter (hasW (l.take ts))).length ≤ A.length := List.length_filter_le _ _
    have hAW : A.length ≤ W.length := by rw [hA.split]; simp
    have hok : rtOk (behind S W (l.take ts) A) = true := ok_looking hW hw (by omega) (Int.le_refl _) h2 hAW hq
    have hts2 : decide (S.threads < S.threads) = false := decide_eq_false (by omega)
    have hrn : (rtRest (behind S W (l.take ts) A)).length ≤ 1000 := by show (A.filter (hasW (l.take ts))).length ≤ 1000; omega
    rcases hA.cnt with ⟨rfl, hc⟩ | ⟨b, B', rfl, hb, hc⟩
    · have hAW2 : A = W := by rw [hA.split, List.append_nil]
      subst hAW2
      have hm : rtMore (behind S A (l.take ts) A) = false := by
        unfold rtMore behind looking
        simp only [hts2, Bool.false_or, Bool.true_and]
        exact decide_eq_false (by omega)
      rw [free_all A ts [] (by omega)]
      refine ⟨hok, ⟨((ts + (A.filter fun w => !hasW (l.take ts) w).length : Nat) : Int), [] ++ A.filter (hasW (l.take ts)), Prod.ext ?_ rfl, ?_, ?_⟩, ?_, hrn⟩
      · rw [hm]
        have hd3 : decide (((A.length : Nat) : Int) < ((A.length : Nat) : Int)) = false := decide_eq_false (by omega)
        unfold rtK rtB rtC behind looking
        simp only [hts2, hd3]; rfl
      · rw [List.nil_append]; omega
      · intro _; rw [List.nil_append]; rfl
      · unfold rtFin; rfl
    · have hlt : A.length < W.length := by rw [hA.split]; simp
      have hm : rtMore (behind S W (l.take ts) A) = true := by
        unfold rtMore behind looking
        simp only [hts2, Bool.false_or, Bool.true_and]
        exact decide_eq_true (by omega)
      have hcnt : (W.filter fun w => !hasW (l.take ts) w) = (A.filter fun w => !hasW (l.take ts) w) ++ b :: (B'.filter fun w => !hasW (l.take ts) w) := by
        rw [hA.split, List.filter_append, List.filter_cons, hb]; rfl
      obtain ⟨g1, g2⟩ := free_few (l := l) (q := l.take ts) W ts [] (by omega) (by rw [hcnt, List.length_append, List.length_cons]; omega)
      refine ⟨hok, ⟨((l.length : Nat) : Int), _, Prod.ext ?_ rfl, ?_, ?_⟩, ?_, hrn⟩
      · rw [g1, hm]
        have hd3 : decide (((A.length : Nat) : Int) < ((W.length : Nat) : Int)) = true := decide_eq_true (by omega)
        have hg : (W.filter fun w => !hasW (l.take ts) w).getD (l.length - ts) 0 = b := by
          rw [hcnt, ← hc]; simp [List.getD_eq_getElem?_getD]
        have hg2 : W.getD A.length 0 = b := by rw [hA.split]; simp [List.getD_eq_getElem?_getD]
        rw [hg]
        unfold rtK rtB rtC behind looking
        simp only [hts2, hd3, cond_true, cond_false, Int.toNat_natCast]
        rw [hg2]
      · exact Nat.le_trans g2 (by rw [List.length_nil]; omega)
      · intro h; unfold rtFin at h; rw [hm] at h; cases h
      · unfold rtFin; rfl
theorem still_take {x : RetireSt} (h : rtMore x = false) : ∀ l : List Int, l.foldl rtTake x = x
  | [] => rfl
  | g :: r => by
    show r.foldl rtTake (rtTake x g) = x
    rw [show rtTake x g = x from by unfold rtTake; rw [h]; rfl]
    exact still_take h r
theorem good_still {S : SiteSt} {W : List Int} {t a : Int} {D : DictSt} {R : List Int} {sm : Bool} (hs : sm = true ∨ (W = [] ∧ R = [])) (hw : W.length ≤ 1000) (hR : R.length ≤ 1000) (l : List Int) :
    Good (l.foldl rtTake ⟨S, true, false, t, W, a, D, R, sm⟩) (⟨0, false, 0, 0, 0, 0, 0⟩, W) := by
  rw [still_take rfl]
  refine ⟨?_, ⟨0, W, rfl, hw, fun _ => ?_⟩, rfl, ?_⟩
  · unfold rtOk
    simp only [cond_false, Bool.and_eq_true, decide_eq_true_eq, Bool.or_eq_true, true_and]
    exact ⟨hw, hR, hs.imp id fun h => by rw [h.1, h.2]; exact ⟨rfl, rfl⟩⟩
  · unfold rtRest
    rcases hs with rfl | ⟨rfl, rfl⟩
    · rfl
    · cases sm <;> rfl
  · unfold rtRest; cases sm <;> simp <;> omega
theorem newW_len (m : List Int) (b : Int) : (newW m b).length ≤ m.length + 1 := by
  unfold newW; cases b == 0 <;> simp
theorem good_new {S : SiteSt} {m : List Int} {b : Int} (hm : m.length ≤ 900) (h1 : 1 ≤ S.threads) (h2 : S.threads ≤ 64) (h3 : 1 ≤ S.keep) (l : List Int) :
    Good (l.foldl rtTake (rtNew S m b)) (aRef false l S.desk S.threads S.keep m b) := by
  have hl := newW_len m b
  show Good _ (rlRet l S.desk S.threads S.keep ⟨0, false, 0, 0, 0, 0, 0⟩ m b)
  by_cases hk : S.keep ≤ (((newW m b).length : Nat) : Int)
  · rw [rtNew_t rfl hk, rlRet_l rfl (by omega)]
    exact good_look (fun h => by rw [h] at hk; simp at hk; omega) (by omega) h1 h2 l
  · rw [rtNew_f rfl hk, rlRet_s rfl (by omega)]
    exact good_still (.inl rfl) (by omega) (Nat.zero_le _) l
theorem good_lk {S : SiteSt} {m : List Int} {b kp : Int} (hm : m.length ≤ 900) (h1 : 1 ≤ S.threads) (h2 : S.threads ≤ 64) (l : List Int) :
    Good (l.foldl rtTake (rtLook S m)) (aRef true l S.desk S.threads kp m b) := by
  show Good _ (rlLook l S.desk S.threads ⟨0, false, 0, 0, 0, 0, 0⟩ m)
  cases m with
  | nil => exact good_still (S := S) (.inr ⟨rfl, rfl⟩) (Nat.zero_le _) (Nat.zero_le _) l
  | cons w ws => exact good_look (S := S) (W := w :: ws) (by simp) (by omega) h1 h2 l
end Go.Proofs.YtfhfbbhoppnbiaaDoor
