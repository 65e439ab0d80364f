import Derived.Test.YtfhfbbhoppnbiaaDoorDrD
import Derived.Test.YtfhfbbhoppnbiaaDoorRtF
import Derived.WalkKit
import Derived.ProofKit
import Derived.OpenShut
import Derived.ChangeOld
import Derived.Below
import Derived.SizedLaws
namespace Go.Proofs.YtfhfbbhoppnbiaaDoor
open Go.Eng
open Go.ChangeShapes Go.WideShapes Go.ChangeAt Go.RowKit
set_option linter.unusedVariables false
set_option linter.unusedSimpArgs false
set_option maxRecDepth 100000
def hasW (l : List Int) (w : Int) : Bool := decide (w ∈ l)
def getL (k : Int) : List (Int × Int × Nat) → Int
  | [] => 0
  | (k', v, _) :: r => if k = k' then v else getL k r
theorem dFind_none {k : Int} : ∀ {es : List (Int × Int × Nat)} {i : Nat}, dFind k es i = none → getL k es = 0 ∧ k ∉ es.map Prod.fst
  | [], _, _ => ⟨rfl, by simp⟩
  | (k', v, b) :: r, i, h => by
    unfold dFind at h
    by_cases hk : k = k'
    · rw [ibeq_t hk] at h; cases h
    · rw [ibeq_f hk] at h
      obtain ⟨h1, h2⟩ := dFind_none (es := r) h
      exact ⟨by unfold getL; rw [if_neg hk, h1], by simp [hk, h2]⟩
theorem dFind_some {k : Int} : ∀ {es : List (Int × Int × Nat)} {i : Nat} {p : Nat × Int}, dFind k es i = some p → ∃ A B v b, es = A ++ (k, v, b) :: B ∧ k ∉ A.map Prod.fst ∧ p = (i + A.length, v) ∧ getL k es = v
  | [], _, _, h => by cases h
  | (k', v, b) :: r, i, p, h => by
    unfold dFind at h
    by_cases hk : k = k'
    · rw [ibeq_t hk] at h; cases h; subst hk
      exact ⟨[], r, v, b, rfl, by simp, rfl, by unfold getL; rw [if_pos rfl]⟩
    · rw [ibeq_f hk] at h
      obtain ⟨A, B, v', b', rfl, h1, rfl, h3⟩ := dFind_some (es := r) h
      exact ⟨(k', v, b) :: A, B, v', b', rfl, by simp [hk, h1], by simp only [List.length_cons]; rw [show i + 1 + A.length = i + (A.length + 1) by omega], by unfold getL; rw [if_neg hk, h3]⟩
theorem get_eq (d : DictSt) (k : Int) : d.get k = getL k d.es := by
  unfold DictSt.get
  cases h : dFind k d.es 0 with
  | none => exact (dFind_none h).1.symm
  | some p => obtain ⟨A, B, v, b, -, -, rfl, h4⟩ := dFind_some h; exact h4.symm
theorem getL_app {k : Int} : ∀ {A B : List (Int × Int × Nat)}, k ∉ A.map Prod.fst → getL k (A ++ B) = getL k B
  | [], _, _ => rfl
  | (k', v, b) :: r, B, h => by
    simp only [List.map_cons, List.mem_cons, not_or] at h
    show getL k ((k', v, b) :: (r ++ B)) = _; rw [getL, if_neg h.1, getL_app h.2]
theorem getL_skip {k k2 v : Int} {b : Nat} (hk : ¬ k = k2) : ∀ {A B : List (Int × Int × Nat)}, getL k (A ++ (k2, v, b) :: B) = getL k (A ++ B)
  | [], B => by show getL k ((k2, v, b) :: B) = _; rw [getL, if_neg hk]; rfl
  | (k', v', b') :: r, B => by
    simp only [List.cons_append]
    unfold getL
    rw [getL_skip hk (A := r)]
theorem getL_not {k : Int} {A : List (Int × Int × Nat)} (h : k ∉ A.map Prod.fst) : getL k A = 0 := by
  have := getL_app (B := []) h
  rw [List.append_nil] at this; exact this
theorem setD_app {k v v' : Int} {b : Nat} : ∀ {A B : List (Int × Int × Nat)} {k2 : Int}, setD (A ++ (k2, v', b) :: B) A.length k v = A ++ (k, v, b) :: B
  | [], _, _ => rfl
  | e :: r, B, k2 => by
    show setD (e :: (r ++ (k2, v', b) :: B)) (r.length + 1) k v = _
    unfold setD; rw [setD_app]; rfl
def DNd (d : DictSt) : Prop := (d.es.map Prod.fst).Nodup
theorem set_get {d : DictSt} {k v k' : Int} : (d.set k v).get k' = if k' = k then v else d.get k' := by
  rw [get_eq, get_eq]
  unfold DictSt.set
  cases h : dFind k d.es 0 with
  | none =>
    obtain ⟨h1, h2⟩ := dFind_none h
    show getL k' (d.es ++ [(k, v, d.clk)]) = _
    by_cases hk : k' = k
    · subst hk; rw [if_pos rfl, getL_app h2, getL, if_pos rfl]
    · rw [if_neg hk, getL_skip hk, List.append_nil]
  | some p =>
    obtain ⟨A, B, v', b, he, h2, rfl, h4⟩ := dFind_some h
    show getL k' (setD d.es (0 + A.length) k v) = _
    rw [Nat.zero_add, he, setD_app]
    by_cases hk : k' = k
    · subst hk; rw [if_pos rfl, getL_app h2, getL, if_pos rfl]
    · rw [if_neg hk, getL_skip hk, getL_skip hk]
theorem set_nd {d : DictSt} {k v : Int} (h : DNd d) : DNd (d.set k v) := by
  unfold DNd DictSt.set at *
  cases hf : dFind k d.es 0 with
  | none =>
    obtain ⟨h1, h2⟩ := dFind_none hf
    show ((d.es ++ [(k, v, d.clk)]).map Prod.fst).Nodup
    rw [List.map_append, List.nodup_append]
    refine ⟨h, by simp, fun a ha b hb => ?_⟩
    simp at hb; subst hb
    intro he; subst he; exact h2 ha
  | some p =>
    obtain ⟨A, B, v', b, he, h2, rfl, h4⟩ := dFind_some hf
    show ((setD d.es (0 + A.length) k v).map Prod.fst).Nodup
    rw [Nat.zero_add, he, setD_app]
    rw [he] at h
    simpa using h
theorem del_nd {d : DictSt} {k : Int} (h : DNd d) : DNd (d.del k) := by
  unfold DNd DictSt.del at *
  cases hf : dFind k d.es 0 with
  | none => exact h
  | some p => exact h.sublist ((List.eraseIdx_sublist d.es p.1).map _)
theorem del_get {d : DictSt} {k k' : Int} (h : DNd d) : (d.del k).get k' = if k' = k then 0 else d.get k' := by
  rw [get_eq, get_eq]
  unfold DNd at h
  unfold DictSt.del
  cases hf : dFind k d.es 0 with
  | none =>
    obtain ⟨h1, h2⟩ := dFind_none hf
    by_cases hk : k' = k
    · subst hk; rw [if_pos rfl]; exact h1
    · rw [if_neg hk]
  | some p =>
    obtain ⟨A, B, v', b, he, h2, rfl, h4⟩ := dFind_some hf
    show getL k' (d.es.eraseIdx (0 + A.length)) = _
    rw [Nat.zero_add, he, List.eraseIdx_append_of_length_le (Nat.le_refl _), Nat.sub_self]
    show getL k' (A ++ B) = _
    by_cases hk : k' = k
    · subst hk; rw [if_pos rfl]
      refine getL_not ?_
      rw [he] at h
      simp only [List.map_append, List.map_cons, List.nodup_append, List.nodup_cons] at h
      simp only [List.map_append, List.mem_append, not_or]
      exact ⟨h2, h.2.1.1⟩
    · rw [if_neg hk, getL_skip hk]
theorem dictOf_nd (l : List Int) : DNd (dictOf l) := by
  unfold dictOf
  suffices h : ∀ (l : List Int) (d : DictSt), DNd d → DNd (l.foldl (fun d b => d.set b 1) d) from h l _ (by unfold DNd; exact List.nodup_nil)
  intro l
  induction l with
  | nil => exact fun d h => h
  | cons a r ih => exact fun d h => ih _ (set_nd h)
theorem dictOf_get (l : List Int) (w : Int) (hw : w ∈ l) : (dictOf l).get w = 1 := by
  unfold dictOf
  suffices h : ∀ (l : List Int) (d : DictSt), (w ∈ l ∨ d.get w = 1) → (l.foldl (fun d b => d.set b 1) d).get w = 1 from h l _ (.inl hw)
  intro l
  induction l with
  | nil => intro d h; rcases h with h | h; cases h; exact h
  | cons a r ih =>
    intro d h
    refine ih _ ?_
    rw [set_get]
    by_cases ha : w = a
    · exact .inr (if_pos ha)
    · rw [if_neg ha]
      rcases h with h | h
      · rcases List.mem_cons.1 h with h | h
        · exact absurd h ha
        · exact .inl h
      · exact .inr h
def dels (d : DictSt) (q : List Int) : DictSt := q.foldl DictSt.del d
theorem dels_get {q : List Int} {w : Int} : ∀ {d : DictSt}, DNd d → (dels d q).get w = if w ∈ q then 0 else d.get w := by
  induction q with
  | nil => intro d h; rfl
  | cons a r ih =>
    intro d h
    show (dels (d.del a) r).get w = _
    rw [ih (del_nd h), del_get h]
    by_cases h1 : w = a <;> by_cases h2 : w ∈ r <;> simp [h1, h2]
theorem pred_eq {W q : List Int} {w : Int} (hw : w ∈ W) : ((dels (dictOf W) q).get w == 0) = hasW q w := by
  rw [dels_get (dictOf_nd W), dictOf_get W w hw]
  unfold hasW
  by_cases h : w ∈ q
  · rw [if_pos h, decide_eq_true h]; rfl
  · rw [if_neg h, decide_eq_false h]; rfl
def looking (S : SiteSt) (t : Int) (W : List Int) (a : Nat) (D : DictSt) (R : List Int) : RetireSt := ⟨S, true, true, t, W, (a : Int), D, R, false⟩
theorem drop_at {A B : List Int} : (A ++ B).drop A.length = B := by simp
structure At (W A B : List Int) (p : Int → Bool) (n : Nat) : Prop where
  split : W = A ++ B
  cnt : (B = [] ∧ (W.filter fun w => !p w).length ≤ n) ∨ (∃ b B', B = b :: B' ∧ p b = false ∧ (A.filter fun w => !p w).length = n)
theorem tw_all {p : Int → Bool} {B : List Int} : (B.takeWhile p).filter p = B.takeWhile p := List.filter_eq_self.2 fun a ha => by
  have := List.all_takeWhile (p := p) (l := B)
  exact List.all_eq_true.1 this a ha
theorem tw_none {p : Int → Bool} {B : List Int} : (B.takeWhile p).filter (fun w => !p w) = [] := List.filter_eq_nil_iff.2 fun a ha => by
  have := List.all_eq_true.1 (List.all_takeWhile (p := p) (l := B)) a ha
  simp [this]
theorem dw_head {p : Int → Bool} : ∀ {B : List Int} {b : Int} {B' : List Int}, B.dropWhile p = b :: B' → p b = false
  | [], _, _, h => by cases h
  | x :: r, b, B', h => by
    cases hx : p x with
    | true => rw [List.dropWhile_cons, hx] at h; exact dw_head (B := r) h
    | false => rw [List.dropWhile_cons, hx] at h; cases h; exact hx
theorem skP_eq {D : DictSt} {q W B : List Int} (hp : ∀ w ∈ W, (D.get w == 0) = hasW q w) (hB : ∀ w ∈ B, w ∈ W) : skP D B = B.takeWhile (hasW q) := by
  unfold skP
  induction B with
  | nil => rfl
  | cons b r ih =>
    rw [List.takeWhile_cons, List.takeWhile_cons, hp b (hB b (List.mem_cons_self ..)), ih fun w hw => hB w (List.mem_cons_of_mem _ hw)]
theorem rtSkip_eq {S : SiteSt} {t : Int} {W A B : List Int} {D : DictSt} {q : List Int} (ht : ¬ t < S.threads) (h : W = A ++ B) (hp : ∀ w ∈ W, (D.get w == 0) = hasW q w) :
    rtSkip (looking S t W A.length D (A.filter (hasW q))) = looking S t W (A ++ B.takeWhile (hasW q)).length D ((A ++ B.takeWhile (hasW q)).filter (hasW q)) := by
  unfold rtSkip looking
  rw [decide_eq_false ht]
  simp only [cond_false]
  have e : (W.drop ((A.length : Nat) : Int).toNat) = B := by rw [h, Int.toNat_natCast, drop_at]
  rw [e, skP_eq hp fun w hw => by rw [h]; exact List.mem_append_right _ hw, List.filter_append, tw_all, List.length_append]
  simp only [Int.natCast_add]
theorem run_desk {S : SiteSt} {W : List Int} : ∀ (l : List Int) (t : Nat) (D : DictSt), (t : Int) + (l.length : Nat) < S.threads → l.foldl rtTake (looking S (t : Int) W 0 D []) = looking S (((t + l.length : Nat)) : Int) W 0 (dels D l) []
  | [], t, D, _ => rfl
  | g :: r, t, D, h => by
    simp only [List.length_cons, Int.natCast_add] at h
    have : rtTake (looking S (t : Int) W 0 D []) g = looking S ((t + 1 : Nat) : Int) W 0 (D.del g) [] := by
      unfold rtTake rtMore rtStep rtSkip looking
      simp only [decide_eq_true (show (t : Int) < S.threads by omega), Bool.true_or, Bool.and_self, cond_true]
      rw [decide_eq_true (by omega)]; rfl
    show r.foldl rtTake (rtTake _ g) = _
    rw [this, run_desk r (t + 1) (D.del g) (by push_cast; push_cast at h; omega)]
    rw [List.length_cons, show t + 1 + r.length = t + (r.length + 1) by omega]; rfl
theorem run_last {S : SiteSt} {W : List Int} {l : List Int} {g : Int} (hW : W ≠ []) (h : ((l.length : Nat) : Int) + 1 = S.threads) :
    rtTake (looking S ((l.length : Nat) : Int) W 0 (dels (dictOf W) l) []) g = looking S S.threads W (W.takeWhile (hasW (l ++ [g]))).length (dels (dictOf W) (l ++ [g])) ((W.takeWhile (hasW (l ++ [g]))).filter (hasW (l ++ [g]))) := by
  have hs := rtSkip_eq (S := S) (t := S.threads) (W := W) (A := []) (B := W) (D := dels (dictOf W) (l ++ [g])) (q := l ++ [g]) (by omega) rfl fun w hw => pred_eq hw
  rw [List.nil_append] at hs
  rw [← hs]
  unfold rtTake rtMore rtStep looking
  simp only [decide_eq_true (show ((l.length : Nat) : Int) < S.threads by omega), Bool.true_or, Bool.and_self, cond_true]
  rw [h]
  unfold dels
  rw [List.foldl_append]; rfl
def behind (S : SiteSt) (W q : List Int) (A : List Int) : RetireSt := looking S S.threads W A.length (dels (dictOf W) q) (A.filter (hasW q))
theorem ok_looking {S : SiteSt} {t : Int} {W R : List Int} {a : Nat} {D : DictSt} (hW : W ≠ []) (hw : W.length ≤ 1000) (h0 : 0 ≤ t) (h1 : t ≤ S.threads) (h2 : S.threads ≤ 64) (ha : a ≤ W.length) (hR : R.length ≤ a) : rtOk (looking S t W a D R) = true := by
  unfold rtOk looking
  simp only [Bool.and_eq_true, decide_eq_true_eq, cond_true, true_and, Bool.not_eq_true', List.isEmpty_eq_false_iff]
  exact ⟨hw, by omega, hW, h0, h1, h2, by omega, by omega, by omega⟩
def ansL (S : ArSt) (dk : Int) : Nat → Nat → List Int
  | _, 0 => []
  | t, j + 1 => S.loadV dk (3 + 2 * (t : Int)) :: ansL S dk (t + 1) j
theorem ansL_len {S : ArSt} {dk : Int} : ∀ (j t : Nat), (ansL S dk t j).length = j
  | 0, _ => rfl
  | j + 1, t => by show (ansL S dk (t + 1) j).length + 1 = _; rw [ansL_len j]
theorem ansL_mem {S : ArSt} {dk w : Int} : ∀ (j t : Nat), w ∈ ansL S dk t j ↔ ∃ i, t ≤ i ∧ i < t + j ∧ S.loadV dk (3 + 2 * (i : Int)) = w
  | 0, t => ⟨fun h => (by cases h), fun ⟨i, h1, h2, _⟩ => by omega⟩
  | j + 1, t => by
    show w ∈ S.loadV dk (3 + 2 * (t : Int)) :: ansL S dk (t + 1) j ↔ _
    rw [List.mem_cons, ansL_mem j (t + 1)]
    constructor
    · rintro (rfl | ⟨i, h1, h2, h3⟩)
      · exact ⟨t, Nat.le_refl _, by omega, rfl⟩
      · exact ⟨i, by omega, by omega, h3⟩
    · rintro ⟨i, h1, h2, h3⟩
      by_cases h : i = t
      · subst h; exact .inl h3.symm
      · exact .inr ⟨i, by omega, by omega, h3⟩
theorem desk_more {Sd : SiteSt} {t : Int} {W R : List Int} {a : Nat} {D : DictSt} (h : t < Sd.threads) : rtMore (looking Sd t W a D R) = true ∧ rtK (looking Sd t W a D R) = 1 ∧ rtB (looking Sd t W a D R) = Sd.desk ∧ rtC (looking Sd t W a D R) = 3 + 2 * t := by
  unfold rtMore rtK rtB rtC looking
  simp [h]
theorem desk_nx {S : ArSt} {Sd : SiteSt} {t : Int} {W R : List Int} {a : Nat} {D : DictSt} (h : t < Sd.threads) (hE : S.err Sd.desk (3 + 2 * t) = 0) :
    nxG S (looking Sd t W a D R) = S.loadV Sd.desk (3 + 2 * t) ∧ nxS S (looking Sd t W a D R) = S ∧ nxX S (looking Sd t W a D R) = rtTake (looking Sd t W a D R) (S.loadV Sd.desk (3 + 2 * t)) := by
  obtain ⟨h1, h2, h3, h4⟩ := desk_more (W := W) (R := R) (a := a) (D := D) h
  have e : nxG S (looking Sd t W a D R) = S.loadV Sd.desk (3 + 2 * t) := by unfold nxG; rw [h1, h2, h3, h4]; rfl
  refine ⟨e, ?_, ?_⟩
  · unfold nxS; rw [h1, h2, h3, h4]; exact ArSt.touch_ok hE
  · unfold nxX; rw [h1, e]; rfl
theorem al_desk {Sd : SiteSt} {S : ArSt} {W : List Int} {ts : Nat} (hW : W ≠ []) (hw : W.length ≤ 1000) (hts : Sd.threads = (ts : Int)) (h64 : ts ≤ 64) (hE : ∀ t : Nat, t < ts → S.err Sd.desk (3 + 2 * (t : Int)) = 0) (M : Nat) : ∀ (j t : Nat) (D : DictSt), t + j < ts →
    (alN (j + M) S (looking Sd (t : Int) W 0 D [])).2 = (alN M S (looking Sd ((t + j : Nat) : Int) W 0 (dels D (ansL S Sd.desk t j)) [])).2 ∧
    (alOk M S (looking Sd ((t + j : Nat) : Int) W 0 (dels D (ansL S Sd.desk t j)) []) = true → alOk (j + M) S (looking Sd (t : Int) W 0 D []) = true)
  | 0, t, D, _ => by rw [Nat.zero_add]; exact ⟨rfl, fun h => h⟩
  | j + 1, t, D, h => by
    have hlt : (t : Int) < Sd.threads := by omega
    obtain ⟨e1, e2, e3⟩ := desk_nx (S := S) (W := W) (R := []) (a := 0) (D := D) hlt (hE t (by omega))
    have hm := (desk_more (W := W) (R := []) (a := 0) (D := D) hlt).1
    have hr := run_desk (S := Sd) (W := W) [S.loadV Sd.desk (3 + 2 * (t : Int))] t D (by simp; omega)
    have hr : rtTake (looking Sd (t : Int) W 0 D []) (S.loadV Sd.desk (3 + 2 * (t : Int))) = looking Sd ((t + 1 : Nat) : Int) W 0 (D.del (S.loadV Sd.desk (3 + 2 * (t : Int)))) [] := hr
    obtain ⟨g1, g2⟩ := al_desk hW hw hts h64 hE M j (t + 1) (D.del (S.loadV Sd.desk (3 + 2 * (t : Int)))) (by omega)
    have ed : dels D (ansL S Sd.desk t (j + 1)) = dels (D.del (S.loadV Sd.desk (3 + 2 * (t : Int)))) (ansL S Sd.desk (t + 1) j) := rfl
    rw [show j + 1 + M = (j + M) + 1 by omega, ed, show t + (j + 1) = t + 1 + j by omega]
    constructor
    · rw [alN_go hm, e2, e3, hr]; exact g1
    · intro hk
      rw [alOk, hm, e2, e3, hr, g2 hk, ok_looking hW hw (by omega) (by omega) (by omega) (Nat.zero_le _) (Nat.le_refl _)]; rfl
theorem take_free {Sd : SiteSt} {t : Int} {W A B' : List Int} {b : Int} {D : DictSt} {q : List Int} (ht : ¬ t < Sd.threads) (h : W = A ++ b :: B') (hb : hasW q b = false) (hp : ∀ w ∈ W, (D.get w == 0) = hasW q w) (g : Int) :
    rtTake (looking Sd t W A.length D (A.filter (hasW q))) g = looking Sd t W ((A ++ [b]) ++ B'.takeWhile (hasW q)).length D (((A ++ [b]) ++ B'.takeWhile (hasW q)).filter (hasW q)) := by
  have hA : A.length < W.length := by rw [h]; simp
  have hs : W = (A ++ [b]) ++ B' := by rw [h]; simp
  rw [← rtSkip_eq ht hs hp]
  unfold rtTake rtMore
  rw [show (looking Sd t W A.length D (A.filter (hasW q))).looks = true from rfl, show decide ((looking Sd t W A.length D (A.filter (hasW q))).at_ < (((looking Sd t W A.length D (A.filter (hasW q))).waiting.length : Nat) : Int)) = true from decide_eq_true (by show ((A.length : Nat) : Int) < ((W.length : Nat) : Int); omega)]
  simp only [Bool.or_true, Bool.and_self, cond_true]
  congr 1
  unfold rtStep looking
  simp only [decide_eq_false ht, cond_false, List.filter_append]
  rw [List.filter_cons, hb]
  simp
theorem free_more {Sd : SiteSt} {t : Int} {W A B' R : List Int} {b : Int} {D : DictSt} (ht : ¬ t < Sd.threads) (h : W = A ++ b :: B') : rtMore (looking Sd t W A.length D R) = true ∧ rtK (looking Sd t W A.length D R) = 6 ∧ rtB (looking Sd t W A.length D R) = b ∧ rtC (looking Sd t W A.length D R) = 0 := by
  have hd : decide (t < Sd.threads) = false := decide_eq_false ht
  have hd2 : decide (((A.length : Nat) : Int) < ((W.length : Nat) : Int)) = true := decide_eq_true (by rw [h]; simp; omega)
  unfold rtMore rtK rtB rtC looking
  simp only [hd, hd2, cond_true, cond_false, Int.toNat_natCast]
  have hg : W.getD A.length 0 = b := by rw [h]; simp [List.getD_eq_getElem?_getD]
  rw [hg]; simp
theorem al_free {Sd : SiteSt} {W q : List Int} {D : DictSt} {t : Int} (hW : W ≠ []) (hw : W.length ≤ 1000) (h0 : 0 ≤ t) (h64 : Sd.threads ≤ 64) (hp : ∀ w ∈ W, (D.get w == 0) = hasW q w) (ht : ¬ t < Sd.threads) (htt : t ≤ Sd.threads) :
    ∀ (k : Nat) (A B : List Int) (S : ArSt) (M : Nat), B.length ≤ k → W = A ++ B → (∀ b B', B = b :: B' → hasW q b = false) → B.length ≤ M →
      (alN M S (looking Sd t W A.length D (A.filter (hasW q)))).2 = ((B.filter fun w => !hasW q w).foldl ArSt.free S, looking Sd t W W.length D (W.filter (hasW q))) ∧ alOk M S (looking Sd t W A.length D (A.filter (hasW q))) = true
  | k, A, [], S, M, _, h, _, _ => by
    have hA : A = W := by rw [h, List.append_nil]
    subst hA
    have hm : rtMore (looking Sd t A A.length D (A.filter (hasW q))) = false := by
      unfold rtMore looking
      simp only [decide_eq_false ht, Bool.false_or, Bool.true_and]
      exact decide_eq_false (by omega)
    have hok := ok_looking (S := Sd) (D := D) hW hw h0 htt h64 (Nat.le_refl _) (List.length_filter_le (hasW q) A)
    refine ⟨by rw [alN_no hm]; rfl, ?_⟩
    cases M with
    | zero => exact hok
    | succ M => rw [alOk, hok, hm]; rfl
  | 0, A, b :: B', S, M, hk, _, _, _ => by simp at hk
  | k + 1, A, b :: B', S, M, hk, h, hb, hM => by
    obtain ⟨M, rfl⟩ : ∃ M', M = M' + 1 := ⟨M - 1, by simp at hM; omega⟩
    have hb := hb b B' rfl
    obtain ⟨h1, h2, h3, h4⟩ := free_more (D := D) (R := A.filter (hasW q)) ht h
    have eG : nxG S (looking Sd t W A.length D (A.filter (hasW q))) = 0 := by unfold nxG; rw [h1, h2]; rfl
    have eS : nxS S (looking Sd t W A.length D (A.filter (hasW q))) = S.free b := by unfold nxS; rw [h1, h2, h3, h4]; rfl
    have eX : nxX S (looking Sd t W A.length D (A.filter (hasW q))) = looking Sd t W ((A ++ [b]) ++ B'.takeWhile (hasW q)).length D (((A ++ [b]) ++ B'.takeWhile (hasW q)).filter (hasW q)) := by
      unfold nxX; rw [h1, eG]; exact take_free ht h hb hp 0
    have hdl : (B'.dropWhile (hasW q)).length ≤ B'.length := (List.dropWhile_sublist _).length_le
    simp only [List.length_cons] at hk hM
    obtain ⟨g1, g2⟩ := al_free hW hw h0 h64 hp ht htt k ((A ++ [b]) ++ B'.takeWhile (hasW q)) (B'.dropWhile (hasW q)) (S.free b) M (by omega) (by rw [List.append_assoc, List.takeWhile_append_dropWhile, h]; simp) (fun b' C hc => dw_head hc) (by omega)
    have hfe : ((b :: B').filter fun w => !hasW q w) = b :: (B'.dropWhile (hasW q)).filter fun w => !hasW q w := by
      rw [List.filter_cons, hb]
      have : B'.filter (fun w => !hasW q w) = (B'.dropWhile (hasW q)).filter fun w => !hasW q w := by
        conv => lhs; rw [← List.takeWhile_append_dropWhile (p := hasW q) (l := B'), List.filter_append, tw_none, List.nil_append]
      rw [this]; rfl
    have hok := ok_looking (S := Sd) (D := D) (a := A.length) hW hw h0 htt h64 (by rw [h]; simp) (List.length_filter_le (hasW q) A)
    constructor
    · rw [alN_go h1, eS, eX, hfe]; exact g1
    · rw [alOk, hok, h1, eS, eX]; exact g2
theorem al_look {Sd : SiteSt} {S : ArSt} {W : List Int} {ts : Nat} (hw : W.length ≤ 900) (hts : Sd.threads = (ts : Int)) (h1 : 1 ≤ ts) (h64 : ts ≤ 64) (hE : ∀ t : Nat, t < ts → S.err Sd.desk (3 + 2 * (t : Int)) = 0) (M : Nat) (hM : ts + W.length ≤ M) :
    ∃ x2, (alN M S (rtLook Sd W)).2 = ((W.filter fun w => !hasW (ansL S Sd.desk 0 ts) w).foldl ArSt.free S, x2) ∧ rtMore x2 = false ∧ rtOk x2 = true ∧ rtRest x2 = W.filter (hasW (ansL S Sd.desk 0 ts)) ∧ alOk M S (rtLook Sd W) = true := by
  by_cases hW : W = []
  · subst hW
    have hm : rtMore (rtLook Sd []) = false := rfl
    have hok : rtOk (rtLook Sd []) = true := by unfold rtOk rtLook; simp
    refine ⟨_, by rw [alN_no hm]; rfl, hm, hok, rfl, ?_⟩
    cases M with
    | zero => exact hok
    | succ M => rw [alOk, hok, hm]; rfl
  · have e0 : rtLook Sd W = looking Sd ((0 : Nat) : Int) W 0 (dictOf W) [] := by
      unfold rtLook looking
      rw [show (!W.isEmpty) = true by cases W with | nil => exact absurd rfl hW | cons a r => rfl]; rfl
    obtain ⟨M', hM'⟩ : ∃ M', M = (ts - 1) + (M' + 1) := ⟨M - ts, by omega⟩
    obtain ⟨j, rfl⟩ : ∃ j, ts = j + 1 := ⟨ts - 1, by omega⟩
    rw [Nat.add_sub_cancel] at hM'
    subst hM'
    obtain ⟨g1, g2⟩ := al_desk (S := S) hW (by omega) hts h64 hE (M' + 1) j 0 (dictOf W) (by omega)
    rw [Nat.zero_add] at g1 g2
    have hl := ansL_len (S := S) (dk := Sd.desk) j 0
    have hlt : ((j : Nat) : Int) < Sd.threads := by omega
    obtain ⟨e1, e2, e3⟩ := desk_nx (S := S) (W := W) (R := []) (a := 0) (D := dels (dictOf W) (ansL S Sd.desk 0 j)) hlt (hE j (by omega))
    have hm := (desk_more (W := W) (R := []) (a := 0) (D := dels (dictOf W) (ansL S Sd.desk 0 j)) hlt).1
    have hla := run_last (S := Sd) (W := W) (l := ansL S Sd.desk 0 j) (g := S.loadV Sd.desk (3 + 2 * ((j : Nat) : Int))) hW (by rw [hl, hts]; push_cast; rfl)
    rw [hl] at hla
    have eq : ansL S Sd.desk 0 j ++ [S.loadV Sd.desk (3 + 2 * ((j : Nat) : Int))] = ansL S Sd.desk 0 (j + 1) := by
      have : ∀ (j t : Nat), ansL S Sd.desk t j ++ [S.loadV Sd.desk (3 + 2 * ((t + j : Nat) : Int))] = ansL S Sd.desk t (j + 1) := by
        intro j
        induction j with
        | zero => intro t; rfl
        | succ j ih =>
          intro t
          show _ :: (ansL S Sd.desk (t + 1) j ++ _) = _ :: ansL S Sd.desk (t + 1) (j + 1)
          rw [← ih (t + 1), show t + (j + 1) = t + 1 + j by omega]
      have h := this j 0
      rw [Nat.zero_add] at h; exact h
    rw [eq] at hla
    obtain ⟨f1, f2⟩ := al_free (Sd := Sd) (W := W) (q := ansL S Sd.desk 0 (j + 1)) (D := dels (dictOf W) (ansL S Sd.desk 0 (j + 1))) (t := Sd.threads) hW (by omega) (by omega) (by omega) (fun w hw => pred_eq hw) (by omega) (by omega) W.length (W.takeWhile (hasW (ansL S Sd.desk 0 (j + 1)))) (W.dropWhile (hasW (ansL S Sd.desk 0 (j + 1)))) S M' ((List.dropWhile_sublist _).length_le) (List.takeWhile_append_dropWhile).symm (fun b' C hc => dw_head hc) (Nat.le_trans (List.dropWhile_sublist _).length_le (by omega))
    have hfe : (W.filter fun w => !hasW (ansL S Sd.desk 0 (j + 1)) w) = (W.dropWhile (hasW (ansL S Sd.desk 0 (j + 1)))).filter fun w => !hasW (ansL S Sd.desk 0 (j + 1)) w := by
      conv => lhs; rw [← List.takeWhile_append_dropWhile (p := hasW (ansL S Sd.desk 0 (j + 1))) (l := W), List.filter_append, tw_none, List.nil_append]
    refine ⟨looking Sd Sd.threads W W.length (dels (dictOf W) (ansL S Sd.desk 0 (j + 1))) (W.filter (hasW (ansL S Sd.desk 0 (j + 1)))), ?_, ?_, ?_, rfl, ?_⟩
    · rw [e0, g1, alN_go hm, e2, e3, hla, hfe]; exact f1
    · unfold rtMore looking
      simp only [decide_eq_false (show ¬ Sd.threads < Sd.threads by omega), Bool.false_or, Bool.true_and]
      exact decide_eq_false (by omega)
    · exact ok_looking hW (by omega) (by omega) (Int.le_refl _) (by omega) (Nat.le_refl _) (List.length_filter_le _ _)
    · rw [e0]
      refine g2 ?_
      rw [alOk, hm, e2, e3, hla, f2, ok_looking hW (by omega) (by omega) (by omega) (by omega) (Nat.zero_le _) (Nat.le_refl _)]; rfl
structure Fld (S : ArSt) (n m : Nat) (f : Nat → Int) : Prop where
  fl : S.faults = 0
  dk : ∃ L : List Int, S.find 1 = some L ∧ L.length = 2 + 2 * n ∧ ∀ t, t < n → L.getD (3 + 2 * t) 0 = f t
  bx : ∀ j, j < m → ∃ L : List Int, S.find ((j : Int) + 2) = some L ∧ L.length = 1
theorem getD_rep (n i : Nat) : (List.replicate n (0 : Int)).getD i 0 = 0 := by
  rw [List.getD_eq_getElem?_getD, List.getElem?_replicate]; split <;> rfl
theorem getD_setK (L : List Int) (i j : Nat) (v : Int) : (L.set i v).getD j 0 = if j = i ∧ i < L.length then v else L.getD j 0 := by
  rw [List.getD_eq_getElem?_getD, List.getD_eq_getElem?_getD, List.getElem?_set]
  by_cases h : i = j
  · subst h
    by_cases h2 : i < L.length
    · simp [h2]
    · simp [h2]
  · rw [if_neg h, if_neg (by omega)]
theorem field_ok {n : Int} {nn : Nat} (hn : n = (nn : Int)) (h8 : nn ≤ 8) : ∀ m : Nat, m ≤ 19 → (fieldS n m).cells = 300 ∧ (fieldS n m).used = 2 + 2 * n + m ∧ (fieldS n m).last = m + 1 ∧ Fld (fieldS n m) nn m (fun _ => 0)
  | 0, _ => by
    have hr : (ArSt.mk 300 0 0 0 []).room (2 + (2 * n)) = true := ArSt.room_iff.2 ⟨by omega, by show 2 + 2 * n ≤ 300 - 0; omega⟩
    have e : fieldS n 0 = ArSt.alloc (ArSt.mk 300 0 0 0 []) (2 + (2 * n)) := rfl
    rw [e]
    refine ⟨by rw [ArSt.alloc_room hr], by rw [ArSt.alloc_room hr]; show 0 + (2 + 2 * n) = _; omega, by rw [ArSt.alloc_room hr]; rfl, by rw [ArSt.alloc_room hr], ⟨List.replicate (2 + 2 * n).toNat 0, by rw [ArSt.find_alloc hr, if_pos (by decide)], by rw [List.length_replicate]; omega, fun t _ => getD_rep _ _⟩, fun j hj => by omega⟩
  | m + 1, hm => by
    obtain ⟨h1, h2, h3, h4⟩ := field_ok hn h8 m (by omega)
    have hr : (fieldS n m).room 1 = true := ArSt.room_iff.2 ⟨Int.le_refl _, by rw [h1, h2]; omega⟩
    have hb : (fieldS n m).nextB = (m : Int) + 2 := by unfold ArSt.nextB; rw [h3, wrap_u64_id (by omega) (by omega)]; omega
    have e : fieldS n (m + 1) = ArSt.alloc (fieldS n m) 1 := rfl
    rw [e]
    refine ⟨by rw [ArSt.alloc_room hr]; exact h1, by rw [ArSt.alloc_room hr]; show (fieldS n m).used + 1 = _; rw [h2]; push_cast; omega, by rw [ArSt.alloc_room hr]; show (fieldS n m).nextB = _; rw [hb]; push_cast; omega, by rw [ArSt.alloc_room hr]; exact h4.fl, ?_, fun j hj => ?_⟩
    · obtain ⟨L, g1, g2⟩ := h4.dk
      exact ⟨L, by rw [ArSt.find_alloc hr, hb, if_neg (by omega)]; exact g1, g2⟩
    · rw [ArSt.find_alloc hr, hb]
      by_cases hjm : j = m
      · subst hjm; rw [if_pos rfl]; exact ⟨_, rfl, by simp⟩
      · rw [if_neg (by omega)]; exact h4.bx j (by omega)
theorem Fld.err {S : ArSt} {n m : Nat} {f : Nat → Int} (h : Fld S n m f) {t : Nat} (ht : t < n) : S.err 1 (3 + 2 * (t : Int)) = 0 := by
  obtain ⟨L, g1, g2, _⟩ := h.dk
  exact ArSt.err_in g1 (by omega) (by omega)
theorem Fld.load {S : ArSt} {n m : Nat} {f : Nat → Int} (h : Fld S n m f) {t : Nat} (ht : t < n) : S.loadV 1 (3 + 2 * (t : Int)) = f t := by
  obtain ⟨L, g1, g2, g3⟩ := h.dk
  rw [ArSt.loadV_ok (h.err ht)]
  unfold ArSt.word
  rw [ArSt.row_find g1, show ((3 + 2 * (t : Int)).toNat) = 3 + 2 * t by omega]
  exact g3 t ht
theorem Fld.put {S : ArSt} {n m : Nat} {f : Nat → Int} (h : Fld S n m f) {i : Nat} (hi : i < n) (v : Int) : Fld (S.store 1 (3 + 2 * (i : Int)) v) n m (fun t => if t = i then v else f t) := by
  rw [ArSt.store_ok (h.err hi)]
  obtain ⟨L, g1, g2, g3⟩ := h.dk
  refine ⟨h.fl, ⟨_, by rw [ArSt.find_put, if_pos rfl], by rw [List.length_set, ArSt.row_find g1]; exact g2, fun t ht => ?_⟩, fun j hj => ?_⟩
  · rw [ArSt.row_find g1, show ((3 + 2 * (i : Int)).toNat) = 3 + 2 * i by omega, getD_setK]
    by_cases hti : t = i
    · subst hti; rw [if_pos ⟨rfl, by omega⟩, if_pos rfl]
    · rw [if_neg (by omega), if_neg hti]; exact g3 t ht
  · rw [ArSt.find_put, if_neg (by omega)]; exact h.bx j hj
theorem frees {S : ArSt} : ∀ (L : List Int) (S : ArSt), L.Nodup → (∀ b ∈ L, (S.find b).isSome = true) → (L.foldl ArSt.free S).faults = S.faults ∧ ∀ b', (L.foldl ArSt.free S).find b' = if b' ∈ L then none else S.find b'
  | [], S, _, _ => ⟨rfl, fun b' => by simp⟩
  | b :: L, S, hn, hs => by
    obtain ⟨h1, h2⟩ := List.nodup_cons.1 hn
    have hf : (S.free b).faults = S.faults := by
      unfold ArSt.free
      have := hs b (List.mem_cons_self ..)
      unfold ArSt.find at this
      rw [this]; rfl
    obtain ⟨g1, g2⟩ := frees (S := S) L (S.free b) h2 fun b' hb' => by
      rw [ArSt.find_free, if_neg (fun h => by subst h; exact h1 hb')]; exact hs b' (List.mem_cons_of_mem _ hb')
    refine ⟨by rw [List.foldl_cons, g1, hf], fun b' => ?_⟩
    rw [List.foldl_cons, g2, ArSt.find_free]
    by_cases h3 : b' = b
    · subst h3; simp
    · by_cases h4 : b' ∈ L <;> simp [h3, h4]
def keptL : Nat → List Int
  | 0 => []
  | i + 1 => keptL i ++ [((i : Nat) : Int) + 2]
theorem keptL_len : ∀ i, (keptL i).length = i
  | 0 => rfl
  | i + 1 => by show (keptL i ++ [_]).length = _; rw [List.length_append, keptL_len i]; rfl
theorem keptL_mem {w : Int} : ∀ i, w ∈ keptL i ↔ ∃ j : Nat, j < i ∧ w = (j : Int) + 2
  | 0 => ⟨fun h => (by cases h), fun ⟨j, h, _⟩ => by omega⟩
  | i + 1 => by
    show w ∈ keptL i ++ [_] ↔ _
    rw [List.mem_append, keptL_mem i, List.mem_singleton]
    constructor
    · rintro (⟨j, h1, h2⟩ | h)
      · exact ⟨j, by omega, h2⟩
      · exact ⟨i, by omega, h⟩
    · rintro ⟨j, h1, h2⟩
      by_cases h : j = i
      · subst h; exact .inr h2
      · exact .inl ⟨j, by omega, h2⟩
theorem keptL_nodup : ∀ i, (keptL i).Nodup
  | 0 => List.nodup_nil
  | i + 1 => by
    show (keptL i ++ [_]).Nodup
    rw [List.nodup_append]
    refine ⟨keptL_nodup i, by simp, fun a ha b hb => ?_⟩
    rw [List.mem_singleton] at hb; subst hb
    obtain ⟨j, h1, rfl⟩ := (keptL_mem i).1 ha
    omega
theorem keptL_split {i m : Nat} (h : i < m) : ∃ C, keptL m = keptL i ++ (((i : Nat) : Int) + 2) :: C := by
  induction m with
  | zero => omega
  | succ m ih =>
    by_cases him : i = m
    · subst him; exact ⟨[], rfl⟩
    · obtain ⟨C, hC⟩ := ih (by omega)
      exact ⟨C ++ [((m : Nat) : Int) + 2], by show keptL m ++ [_] = _; rw [hC]; simp⟩
def bN (l : List Int) (mm t : Nat) : Nat := (Int.tmod (IntKind.wrap .i64 (l.getD t 0)) (IntKind.wrap .i64 (((mm : Nat) : Int) + 3))).toNat
theorem bN_eq {l : List Int} {mm t : Nat} (hm : mm ≤ 19) (h0 : 0 ≤ l.getD t 0) (h1 : l.getD t 0 < 256) : Int.tmod (IntKind.wrap .i64 (l.getD t 0)) (IntKind.wrap .i64 (((mm : Nat) : Int) + 3)) = ((bN l mm t : Nat) : Int) ∧ bN l mm t < mm + 3 := by
  have e : Int.tmod (IntKind.wrap .i64 (l.getD t 0)) (IntKind.wrap .i64 (((mm : Nat) : Int) + 3)) = l.getD t 0 % (((mm : Nat) : Int) + 3) := by
    rw [wrap_i64_id (by omega) (by omega), wrap_i64_id (by omega) (by omega), Int.tmod_eq_emod_of_nonneg h0]
  have a1 : 0 ≤ l.getD t 0 % (((mm : Nat) : Int) + 3) := Int.emod_nonneg _ (by omega)
  have a2 : l.getD t 0 % (((mm : Nat) : Int) + 3) < ((mm : Nat) : Int) + 3 := Int.emod_lt_of_pos _ (by omega)
  unfold bN
  rw [e]; omega
structure Gd (l : List Int) (n mm : Nat) (S : ArSt) (q : List Bool) (i : Nat) : Prop where
  fld : Fld S n mm (fun t => if t < i then ((bN l mm t : Nat) : Int) else 0)
  ql : q.length = mm + 40
  qv : ∀ j, q.getD j false = decide (∃ t, t < i ∧ bN l mm t = j)
theorem Gd.zero {l : List Int} {n : Int} {nn mm : Nat} (hn : n = (nn : Int)) (h8 : nn ≤ 8) (hm : mm ≤ 19) : Gd l nn mm (fieldS n mm) (List.replicate (mm + 40) false) 0 := by
  refine ⟨?_, List.length_replicate, fun j => ?_⟩
  · have := (field_ok hn h8 mm hm).2.2.2
    simpa using this
  · rw [decide_eq_false (by rintro ⟨t, h, _⟩; omega), List.getD_eq_getElem?_getD, List.getElem?_replicate]; split <;> rfl
theorem Gd.next {l : List Int} {n mm : Nat} {S : ArSt} {q : List Bool} {i : Nat} (h : Gd l n mm S q i) (hi : i < n) (hb : bN l mm i < mm + 40) : Gd l n mm (S.store 1 (3 + 2 * (i : Int)) ((bN l mm i : Nat) : Int)) (q.set (bN l mm i) true) (i + 1) := by
  refine ⟨?_, by rw [List.length_set]; exact h.ql, fun j => ?_⟩
  · have := h.fld.put hi ((bN l mm i : Nat) : Int)
    refine ⟨this.fl, ?_, this.bx⟩
    obtain ⟨L, g1, g2, g3⟩ := this.dk
    refine ⟨L, g1, g2, fun t ht => (g3 t ht).trans ?_⟩
    by_cases e : t = i
    · subst e; rw [if_pos rfl, if_pos (by omega)]
    · rw [if_neg e]
      by_cases e2 : t < i
      · rw [if_pos e2, if_pos (by omega)]
      · rw [if_neg e2, if_neg (by omega)]
  · have hl := h.ql
    have hv := h.qv j
    rw [List.getD_eq_getElem?_getD] at hv ⊢
    rw [List.getElem?_set]
    by_cases e : bN l mm i = j
    · rw [if_pos e, if_pos (by omega)]
      exact (decide_eq_true ⟨i, by omega, e⟩).symm
    · rw [if_neg e, hv]
      refine decide_eq_decide.2 ⟨fun ⟨t, h1, h2⟩ => ⟨t, by omega, h2⟩, fun ⟨t, h1, h2⟩ => ⟨t, ?_, h2⟩⟩
      by_cases e2 : t = i
      · subst e2; exact absurd h2 e
      · omega
theorem Gd.told {l : List Int} {n mm : Nat} {S : ArSt} {q : List Bool} {i : Nat} (h : Gd l n mm S q i) (hi : i ≤ n) (j : Nat) : hasW (ansL S 1 0 n) (((j : Nat) : Int) + 2) = q.getD (j + 2) false := by
  rw [h.qv]
  unfold hasW
  refine decide_eq_decide.2 ?_
  rw [ansL_mem]
  constructor
  · rintro ⟨t, _, h2, h3⟩
    rw [h.fld.load (by omega)] at h3
    by_cases e : t < i
    · rw [if_pos e] at h3; exact ⟨t, e, by omega⟩
    · rw [if_neg e] at h3; omega
  · rintro ⟨t, h1, h2⟩
    exact ⟨t, Nat.zero_le _, by omega, by rw [h.fld.load (by omega), if_pos h1, h2]; push_cast; omega⟩
theorem Gd.left {l : List Int} {n mm : Nat} {S : ArSt} {q : List Bool} {i : Nat} (h : Gd l n mm S q i) (hi : i ≤ n) :
    (((keptL mm).filter fun w => !hasW (ansL S 1 0 n) w).foldl ArSt.free S).faults = 0 ∧ ∀ j, j < mm → ((((keptL mm).filter fun w => !hasW (ansL S 1 0 n) w).foldl ArSt.free S).size (((j : Nat) : Int) + 2) == 1) = q.getD (j + 2) false := by
  have hm : ∀ b ∈ (keptL mm).filter fun w => !hasW (ansL S 1 0 n) w, (S.find b).isSome = true := by
    intro b hb
    obtain ⟨j, hj, rfl⟩ := (keptL_mem mm).1 (List.mem_filter.1 hb).1
    obtain ⟨L, g1, _⟩ := h.fld.bx j hj
    rw [g1]; rfl
  obtain ⟨g1, g2⟩ := frees (S := S) _ S ((keptL_nodup mm).filter _) hm
  refine ⟨by rw [g1]; exact h.fld.fl, fun j hj => ?_⟩
  have g := g2 (((j : Nat) : Int) + 2)
  obtain ⟨L, l1, l2⟩ := h.fld.bx j hj
  rw [← h.told hi j]
  unfold ArSt.size
  cases ht : hasW (ansL S 1 0 n) (((j : Nat) : Int) + 2) with
  | true =>
    rw [if_neg (fun hc => by have := (List.mem_filter.1 hc).2; rw [ht] at this; cases this), l1] at g
    rw [ArSt.row_find g, l2]; rfl
  | false =>
    rw [if_pos (List.mem_filter.2 ⟨(keptL_mem mm).2 ⟨j, hj, rfl⟩, by rw [ht]; rfl⟩)] at g
    unfold ArSt.row
    unfold ArSt.find at g
    rw [g]; rfl
def atN (p : Int → Bool) (i : Nat) : Nat := ((keptL i).filter p).length
theorem atN_next {p : Int → Bool} {i : Nat} : atN p (i + 1) = if p (((i : Nat) : Int) + 2) = true then atN p i + 1 else atN p i := by
  unfold atN
  show ((keptL i ++ [_]).filter p).length = _
  rw [List.filter_append, List.length_append, List.filter_cons, List.filter_nil]
  split <;> rfl
theorem rest_at {p : Int → Bool} {i m : Nat} (h : i < m) (hp : p (((i : Nat) : Int) + 2) = true) : atN p i < ((keptL m).filter p).length ∧ ((keptL m).filter p).getD (atN p i) 0 = ((i : Nat) : Int) + 2 := by
  obtain ⟨C, hC⟩ := keptL_split h
  have e : (keptL m).filter p = (keptL i).filter p ++ (((i : Nat) : Int) + 2) :: C.filter p := by rw [hC, List.filter_append, List.filter_cons, if_pos hp]
  rw [e]
  unfold atN
  exact ⟨by simp, by simp [List.getD_eq_getElem?_getD]⟩
end Go.Proofs.YtfhfbbhoppnbiaaDoor
