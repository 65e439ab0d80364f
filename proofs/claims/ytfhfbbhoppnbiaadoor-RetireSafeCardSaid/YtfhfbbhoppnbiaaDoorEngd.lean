/- A checked evaluator for programs, part d. -/
import Derived.Test.YtfhfbbhoppnbiaaDoorEngc
import Derived.Deep.Grids
namespace Go.Eng
set_option linter.unusedVariables false
set_option linter.unusedSimpArgs false
set_option linter.unusedSectionVars false
open Go
set_option linter.unusedVariables false
set_option linter.unusedSimpArgs false
def rhoOf (g : Nat) (bs : List (Nat × Nat)) : Rho := ⟨fun a => if a < g then none else bs[a - g]?, fun _ _ => False⟩
theorem rhoOf_get {g : Nat} {bs : List (Nat × Nat)} {i : Nat} {p : Nat × Nat} (h : bs[i]? = some p) : rhoOf g bs (g + i) = some p := by
  show (if g + i < g then none else _) = _
  rw [if_neg (by omega), show g + i - g = i by omega, h]
theorem rhoOf_inv {g : Nat} {bs : List (Nat × Nat)} {a : Nat} {p : Nat × Nat} (h : rhoOf g bs a = some p) : g ≤ a ∧ bs[a - g]? = some p := by
  have h : (if a < g then none else bs[a - g]?) = some p := h
  split at h
  · cases h
  · exact ⟨by omega, h⟩
section
variable {P : Program} [ObjSem P]
abbrev AtP := MSt → World → Nat → (Nat → Prop) → Prop
structure OpensA (P : Program) (At : AtP) (g : Nat) (os : List KObj) (w : World) (F : Nat → Prop) (bs : List (Nat × Nat)) (φs : Nat → Nat → Prop) : Prop where
  len : bs.length = os.length
  obj : ∀ i o, os[i]? = some o → ∃ x l o', bs[i]? = some (x, l) ∧ w.heap[x]? = some o' ∧ RObj P (rhoOf g bs) l o.low o' ∧ φs i x ∧ ∀ m, o = .mach m → At m w x (φs i)
  own : ∀ i x, i < os.length → φs i x → F x ∧ ∃ o', w.heap[x]? = some o' ∧ nd o'
  sep : ∀ i j x, i < os.length → j < os.length → φs i x → φs j x → i = j
  all : ∀ x, F x → ∃ i, i < os.length ∧ φs i x
abbrev OpensB (P : Program) [ObjSem P] := OpensA P (ObjSem.At P)
def OpensC (P : Program) (At : AtP) (g : Nat) (os : List KObj) (w : World) (b : Nat) (F : Nat → Prop) : Prop := ∃ bs φs l, OpensA P At g os w F bs φs ∧ bs[0]? = some (b, l)
abbrev Opens (P : Program) [ObjSem P] := OpensC P (ObjSem.At P)
theorem opened_sim {ρ : Rho} {w : World} {vs : Vars} {vb : List KObj} {m : MSt} {os : List KObj} {b : Nat} {F : Nat → Prop} (hg : P.globals.size = vs.length) (hvb : VarB vs vb) (hs : Sim P ρ (mkH (vb ++ [.mach m])).low w)
    (ho : Opens P vs.length os w b F) (hF : ∀ x, F x → ρ.φ vs.length x) (hrw : ∀ o ∈ os, o.rw = true) :
    ∃ ρo : Rho, Sim P ρo (mkH (vb ++ os)).low w ∧ (∀ a, a < vs.length → ρo a = ρ a) ∧ (∃ l, ρo vs.length = some (b, l)) ∧ (∀ a x, (mkH (vb ++ os)).low.get a ≠ none → ρo.φ a x → F x) ∧ (∀ x, F x → ∃ a, (mkH (vb ++ os)).low.get a ≠ none ∧ ρo.φ a x) := by
  obtain ⟨bs, φs, l0, op, h0⟩ := ho
  have hlen := hvb.length
  have hvg : ∀ a, a < vs.length → (vb ++ [KObj.mach m])[a]? = vb[a]? := fun a ha => List.getElem?_append_left (by omega)
  have hvg2 : ∀ a, a < vs.length → (vb ++ os)[a]? = vb[a]? := fun a ha => List.getElem?_append_left (by omega)
  have hog : ∀ i, (vb ++ os)[vs.length + i]? = os[i]? := fun i => by
    rw [List.getElem?_append_right (by omega), hlen, show vs.length + i - vs.length = i by omega]
  have hmg : (mkH (vb ++ [KObj.mach m])).low.get vs.length = some (.mach m) := by
    rw [low_get, mkH_get (o := .mach m) (by rw [List.getElem?_append_right (by omega), hlen]; simp)]; rfl
  have hml : (mkH (vb ++ [KObj.mach m])).low.get vs.length ≠ none := by rw [hmg]; simp
  have hget : ∀ a o, (mkH (vb ++ os)).low.get a = some o → (a < vs.length ∧ (mkH (vb ++ [KObj.mach m])).low.get a = some o ∧ o.rw = false) ∨ ∃ i q, a = vs.length + i ∧ os[i]? = some q ∧ o = q.low := by
    intro a o ha
    obtain ⟨q, hq, rfl⟩ := mkH_inv ha
    by_cases hlt : a < vs.length
    · refine .inl ⟨hlt, ?_, ?_⟩
      · rw [hvg2 a hlt, ← hvg a hlt] at hq
        rw [low_get, mkH_get hq]; rfl
      · rw [hvg2 a hlt] at hq
        have key : ∀ {vs : Vars} {vb : List KObj}, VarB vs vb → ∀ (a : Nat) q, vb[a]? = some q → q.low.rw = false := by
          intro vs vb h
          induction h with
          | nil => intro a q h; simp at h
          | cons e h ih =>
            intro a q hq
            cases a with
            | zero => simp at hq; subst hq; rfl
            | succ a => exact ih a q (by simpa using hq)
        exact key hvb a q hq
    · refine .inr ⟨a - vs.length, q, by omega, ?_, rfl⟩
      rw [← hog, show vs.length + (a - vs.length) = a by omega]; exact hq
  obtain ⟨ρo, hf, hφ⟩ : ∃ ρo : Rho, (ρo.f = fun a => if a < vs.length then ρ a else rhoOf vs.length bs a) ∧ (ρo.φ = fun a x => vs.length ≤ a ∧ φs (a - vs.length) x) := ⟨⟨_, _⟩, rfl, rfl⟩
  have hlo : ∀ a, a < vs.length → ρo a = ρ a := fun a ha => by rw [hf]; simp [ha]
  have hhi : ∀ i, ρo (vs.length + i) = rhoOf vs.length bs (vs.length + i) := fun i => by rw [hf]; simp only; rw [if_neg (by omega)]
  have hle : (rhoOf vs.length bs).le ρo := fun a p hp => by
    have := (rhoOf_inv hp).1
    rw [hf]; simp only; rw [if_neg (by omega)]; exact hp
  have hfi : ∀ i x, ρo.φ (vs.length + i) x ↔ φs i x := fun i x => by
    rw [hφ]
    simp
  have hbs : ∀ i (x : Nat × Nat), bs[i]? = some x → i < os.length := fun i x h => by
    rw [← op.len]; exact (List.getElem?_eq_some_iff.1 h).1
  have hobj : ∀ i q, os[i]? = some q → ∃ x l o', bs[i]? = some (x, l) ∧ ρo (vs.length + i) = some (x, l) ∧ w.heap[x]? = some o' ∧ RObj P ρo l q.low o' ∧ φs i x := fun i q hq => by
    obtain ⟨x, l, o', h1, h2, h3, h4, _⟩ := op.obj i q hq
    exact ⟨x, l, o', h1, by rw [hhi]; exact rhoOf_get h1, h2, h3.mono hle, h4⟩
  have hlive : ∀ i, i < os.length → (mkH (vb ++ os)).low.get (vs.length + i) ≠ none := fun i hi => by
    rw [low_get, mkH_get (o := os[i]) (by rw [hog]; simp [hi])]; simp
  refine ⟨ρo, ⟨?_, ?_, ⟨?_, ?_, ?_, ?_, ?_⟩, ?_⟩, hlo, ?_, ?_, ?_⟩
  · intro a o ha
    rcases hget a o ha with ⟨h1, h2, h3⟩ | ⟨i, q, rfl, h2, rfl⟩
    · obtain ⟨x, l, o', g1, g2, g3⟩ := hs.blk a o h2
      refine ⟨x, l, o', by rw [hlo a h1]; exact g1, g2, ?_⟩
      obtain ⟨q, hq, rfl⟩ := mkH_inv h2
      rw [hvg a h1] at hq
      have key : ∀ {vs : Vars} {vb : List KObj}, VarB vs vb → ∀ (a : Nat) q, vb[a]? = some q → ∃ k zs e, q = .cells (intCells k zs) e false := by
        intro vs vb h
        induction h with
        | nil => intro a q h; simp at h
        | cons e h ih =>
          intro a q hq
          cases a with
          | zero => simp at hq; subst hq; exact ⟨_, _, _, rfl⟩
          | succ a => exact ih a q (by simpa using hq)
      obtain ⟨k, zs, e, rfl⟩ := key hvb a q hq
      cases o' <;> simp only [KObj.low, RObj] at g3 ⊢
      refine ⟨g3.1, fun j v hv => ?_, g3.2.2⟩
      obtain ⟨v', e1, r⟩ := g3.2.1 j v hv
      refine ⟨v', e1, r.inert (.inl ?_)⟩
      exact List.all_eq_true.1 (show (intCells k zs).all plain1 = true by unfold intCells; rw [List.all_map, List.all_eq_true]; intro x _; rfl) v (List.mem_of_getElem? hv)
    · obtain ⟨x, l, o', _, h4, h5, h6, _⟩ := hobj i q h2
      exact ⟨x, l, o', h4, h5, h6⟩
  · intro a x l ha
    by_cases hlt : a < vs.length
    · rw [hlo a hlt] at ha
      refine ⟨?_, (hs.lt a x l ha).2⟩
      show a < (vb ++ os).length
      simp; omega
    · have ha : rhoOf vs.length bs a = some (x, l) := by rw [hf] at ha; simp only [if_neg hlt] at ha; exact ha
      obtain ⟨h1, h2⟩ := rhoOf_inv ha
      have h3 := hbs _ _ h2
      refine ⟨?_, ?_⟩
      · show a < (vb ++ os).length
        simp; omega
      · obtain ⟨x', _, o', g1, g2, _⟩ := op.obj (a - vs.length) os[a - vs.length] (by simp [h3])
        rw [h2] at g1; cases g1
        exact (Array.getElem?_eq_some_iff.1 g2).1
  · intro a a' x h1 h2 h3 h4
    rw [hφ] at h3
    obtain ⟨h3, h5⟩ := h3
    obtain ⟨o, h1⟩ := Option.ne_none_iff_exists'.1 h1
    obtain ⟨o', h2⟩ := Option.ne_none_iff_exists'.1 h2
    have hi : a - vs.length < os.length := by
      rcases hget a o h1 with ⟨h, _⟩ | ⟨i, q, rfl, h, _⟩
      · omega
      · have := (List.getElem?_eq_some_iff.1 h).1; omega
    rcases hget a' o' h2 with ⟨g1, g2, g3⟩ | ⟨j, q, rfl, g2, rfl⟩
    · exfalso
      rcases h4 with h4 | ⟨l, h4⟩
      · rw [hφ] at h4; omega
      · rw [hlo a' g1] at h4
        have hx := hF x (op.own _ x hi h5).1
        have := hs.ow.sep vs.length a' x hml (by rw [g2]; simp) hx (.inr ⟨l, h4⟩)
        omega
    · have hj := (List.getElem?_eq_some_iff.1 g2).1
      have key : φs j x := by
        rcases h4 with h4 | ⟨l, h4⟩
        · exact (hfi j x).1 h4
        · obtain ⟨x', _, o', _, k2, _, _, k4⟩ := hobj j q g2
          rw [k2] at h4; cases h4; exact k4
      have := op.sep _ j x hi hj h5 key
      omega
  · intro a o x l h1 h2 h3
    rcases hget a o h1 with ⟨_, _, g⟩ | ⟨i, q, rfl, g2, rfl⟩
    · rw [h2] at g; cases g
    · obtain ⟨x', _, o', _, k2, _, _, k4⟩ := hobj i q g2
      rw [k2] at h3; cases h3
      exact (hfi i x).2 k4
  · intro a o x h1 h2 h3
    rcases hget a o h1 with ⟨g, _, _⟩ | ⟨i, q, rfl, g2, rfl⟩
    · rw [hφ] at h3; omega
    · rw [KObj.rw_low, hrw q (List.mem_of_getElem? g2)] at h2; cases h2
  · intro a x h1 h2
    obtain ⟨o, h1⟩ := Option.ne_none_iff_exists'.1 h1
    rcases hget a o h1 with ⟨g, _, _⟩ | ⟨i, q, rfl, g2, rfl⟩
    · rw [hφ] at h2; omega
    · exact (op.own i x (List.getElem?_eq_some_iff.1 g2).1 ((hfi i x).1 h2)).2
  · intro a m' x l h1 h2
    rcases hget a _ h1 with ⟨_, _, g⟩ | ⟨i, q, rfl, g2, g3⟩
    · cases g
    · have hq : q = .mach m' := by cases q <;> simp [KObj.low] at g3 <;> first | (subst g3; rfl) | skip
      subst hq
      obtain ⟨x', _, o', k1, k2, _⟩ := hobj i _ g2
      rw [k2] at h2; cases h2
      obtain ⟨x', _, o', j1, _, _, _, j2⟩ := op.obj i _ g2
      rw [k1] at j1; cases j1
      have : ρo.φ (vs.length + i) = φs i := funext fun y => propext (hfi i y)
      rw [this]; exact j2 m' rfl
  · intro g' hg'
    rw [hlo g' (by omega)]
    exact hs.glob g' hg'
  · have := hhi 0
    rw [Nat.add_zero] at this
    refine ⟨l0, ?_⟩
    rw [this]
    exact rhoOf_get h0
  · intro a x h1 h2
    obtain ⟨o, h1⟩ := Option.ne_none_iff_exists'.1 h1
    rcases hget a o h1 with ⟨g, _, _⟩ | ⟨i, q, rfl, g2, rfl⟩
    · rw [hφ] at h2; omega
    · exact (op.own i x (List.getElem?_eq_some_iff.1 g2).1 ((hfi i x).1 h2)).1
  · intro x hx
    obtain ⟨i, hi, h⟩ := op.all x hx
    exact ⟨vs.length + i, hlive i hi, (hfi i x).2 h⟩
def argG (g : Nat) : Value → Bool
  | .pointer (some ⟨a, 0, none⟩) => Nat.beq a g
  | v => plain v
theorem argG_r {g : Nat} {ρ ρo : Rho} {b l l' : Nat} (h1 : ρ g = some (b, l)) (h2 : ρo g = some (b, l')) {v v' : Value} (hv : argG g v = true) (h : R ρ v v') : R ρo v v' := by
  unfold argG at hv
  split at hv
  · have := beq_true hv; subst this
    cases h with
    | ptr off h => rw [h1] at h; cases h; exact .ptr 0 h2
  · rw [h.plain_inv hv]; exact .of_plain hv
theorem argsG_rl {g : Nat} {ρ ρo : Rho} {b l l' : Nat} (h1 : ρ g = some (b, l)) (h2 : ρo g = some (b, l')) {xs ys : List Value} (hv : xs.all (argG g) = true) (h : RL ρ xs ys) : RL ρo xs ys :=
  ⟨h.1, fun i v e => by
    obtain ⟨v', e', r⟩ := h.2 i v e
    exact ⟨v', e', argG_r h1 h2 (List.all_eq_true.1 hv v (List.mem_of_getElem? e)) r⟩⟩
theorem R.of_plainT {ρ : Rho} {v : Value} (hv : plainT v = true) : R ρ v v := by
  cases v with
  | tuple vs =>
    simp only [plainT, Bool.and_eq_true] at hv
    exact .tuple vs vs rfl fun i h1 h2 => .of_plain (List.all_eq_true.1 hv.2 _ (by simp))
  | _ => exact .of_plain hv
theorem DoesC.mach {vs : Vars} {vb : List KObj} (hg : P.globals.size = vs.length) (hvb : VarB vs vb) {f : FuncId} {args : List Value} {m m' : MSt} {v : Value} (hargs : args.all (argG vs.length) = true) (hv : plainT v = true)
    (key : ∀ (w : World) (b : Nat) (F : Nat → Prop), ObjSem.At P m w b F → F b → (∀ x, F x → ∃ o', w.heap[x]? = some o' ∧ nd o') →
      ∃ (os : List KObj) (h' : AH) (F' : Nat → Prop), (∀ o ∈ os, o.rw = true) ∧ Opens P vs.length os w b F' ∧ (∀ x, F' x → F x) ∧ DoesC P f args (mkH (vb ++ os)).low v h' ∧
        ∀ (ρ' : Rho) (w' : World) (l : Nat), Sim P ρ' h' w' → w.heap.size ≤ w'.heap.size → ρ' vs.length = some (b, l) → (∀ x, F x → ¬ F' x → w'.heap[x]? = w.heap[x]?) →
          (∀ a x, h'.get a ≠ none → ρ'.φ a x → F' x ∨ w.heap.size ≤ x) → ∃ F'', ObjSem.At P m' w' b F'' ∧ F'' b ∧ (∀ x, F'' x → (∃ o', w'.heap[x]? = some o' ∧ nd o') ∧ (F x ∨ w.heap.size ≤ x))) :
    DoesC P f args (mkH (vb ++ [.mach m])).low v (effK (mkH (vb ++ [.mach m])) [(vs.length, .mach m')] []).low := by
  intro ρ w args' ha hs
  have hlen := hvb.length
  have hmg : (mkH (vb ++ [KObj.mach m])).low.get vs.length = some (.mach m) := by
    rw [low_get, mkH_get (o := .mach m) (by rw [List.getElem?_append_right (by omega), hlen]; simp)]; rfl
  have hml : (mkH (vb ++ [KObj.mach m])).low.get vs.length ≠ none := by rw [hmg]; simp
  obtain ⟨b, l, o', hb, hw, hr⟩ := hs.blk _ _ hmg
  have hat := hs.ow.mach _ m b l hmg hb
  obtain ⟨os, h', F', hrw, hop, hF', hd, hcl⟩ := key w b _ hat (hs.ow.own _ _ b l hmg rfl hb) (fun x hx => hs.ow.lt _ x hml hx)
  obtain ⟨ρo, so, hlo, ⟨l0, hro⟩, hof, hfo⟩ := opened_sim hg hvb hs hop hF' hrw
  refine (hd ρo w args' (argsG_rl hb hro hargs ha) so).mono ?_
  rintro e w' ⟨ρ', v', rfl, hR, st⟩
  have hvv : v' = v := plainT_inv hv hR
  subst hvv
  have hkeep : ∀ x, x < w.heap.size → ¬ F' x → w'.heap[x]? = w.heap[x]? := fun x hx hn => st.keep x hx fun a h1 h2 => hn (hof a x h1 h2)
  have hsz : ∀ x, ρ.φ vs.length x → x < w.heap.size := fun x hx => hs.ow.size hml hx
  obtain ⟨F'', hat', hbF, hF''⟩ := hcl ρ' w' l0 st.sim st.size (st.ext _ _ hro) (fun x hx hn => hkeep x (hsz x hx) hn) (fun a x h1 h2 => by
    rcases Nat.lt_or_ge x w.heap.size with hx | hx
    · obtain ⟨a0, g1, g2⟩ := st.imf a x h1 h2 hx
      exact .inl (hof a0 x g1 g2)
    · exact .inr hx)
  obtain ⟨ρ2, h2f, h2φ⟩ : ∃ ρ2 : Rho, ρ2.f = ρ.f ∧ ρ2.φ = fun a x => if a = vs.length then F'' x else ρ.φ a x := ⟨⟨ρ.f, fun a x => if a = vs.length then F'' x else ρ.φ a x⟩, rfl, rfl⟩
  have h2 : ∀ a, ρ2 a = ρ a := fun a => by show ρ2.f a = _; rw [h2f]
  have heff : (effK (mkH (vb ++ [KObj.mach m])) [(vs.length, .mach m')] []).low = ((mkH (vb ++ [KObj.mach m])).low).put vs.length (.mach m') := by rw [effK_low]; rfl
  have hgs : (effK (mkH (vb ++ [KObj.mach m])) [(vs.length, .mach m')] []).low.get vs.length = some (.mach m') := by rw [heff]; exact AH.get_put_same hmg
  have hgn : ∀ a, a ≠ vs.length → (effK (mkH (vb ++ [KObj.mach m])) [(vs.length, .mach m')] []).low.get a = (mkH (vb ++ [KObj.mach m])).low.get a := fun a ha => by rw [heff]; exact AH.get_put_ne ha
  have hnx : (effK (mkH (vb ++ [KObj.mach m])) [(vs.length, .mach m')] []).low.next = (mkH (vb ++ [KObj.mach m])).low.next := by rw [heff]; rfl
  have hlv : ∀ a, (effK (mkH (vb ++ [KObj.mach m])) [(vs.length, .mach m')] []).low.get a ≠ none → (mkH (vb ++ [KObj.mach m])).low.get a ≠ none := fun a ha => by
    by_cases e : a = vs.length
    · rw [e]; exact hml
    · rw [← hgn a e]; exact ha
  have hvar : ∀ a o, a ≠ vs.length → (mkH (vb ++ [KObj.mach m])).low.get a = some o → o.rw = false := by
    intro a o ha hg'
    obtain ⟨q, hq, rfl⟩ := mkH_inv hg'
    have hlt : a < vb.length := by
      have := (List.getElem?_eq_some_iff.1 hq).1
      simp at this; omega
    rw [List.getElem?_append_left hlt] at hq
    have key : ∀ {vs : Vars} {vb : List KObj}, VarB vs vb → ∀ (a : Nat) q, vb[a]? = some q → q.low.rw = false := by
      intro vs vb h
      induction h with
      | nil => intro a q h; simp at h
      | cons e h ih =>
        intro a q hq
        cases a with
        | zero => simp at hq; subst hq; rfl
        | succ a => exact ih a q (by simpa using hq)
    exact key hvb a q hq
  have hφs : ∀ x, ρ2.φ vs.length x ↔ F'' x := fun x => by rw [h2φ]; simp
  have hφn : ∀ a x, a ≠ vs.length → (mkH (vb ++ [KObj.mach m])).low.get a ≠ none → ¬ ρ2.φ a x := fun a x ha hl h => by
    rw [h2φ] at h; simp only [if_neg ha] at h
    obtain ⟨o, ho⟩ := Option.ne_none_iff_exists'.1 hl
    exact hs.ow.ro a o x ho (hvar a o ha ho) h
  refine ⟨ρ2, v', rfl, .of_plainT hv, fun a p hp => by rw [h2]; exact hp, ⟨?_, ?_, ⟨?_, ?_, ?_, ?_, ?_⟩, ?_⟩, ?_, st.os, st.tape, st.output, st.size, ?_, ?_, ?_⟩
  · intro a o ho
    by_cases e : a = vs.length
    · subst e
      rw [hgs] at ho; cases ho
      obtain ⟨o2, g1, g2⟩ := (hF'' b hbF).1
      exact ⟨b, l, o2, by rw [h2]; exact hb, g1, g2⟩
    · rw [hgn a e] at ho
      obtain ⟨x, k, q, g1, g2, g3⟩ := hs.blk a o ho
      refine ⟨x, k, q, by rw [h2]; exact g1, ?_, g3.mono fun a p hp => by rw [h2]; exact hp⟩
      rw [hkeep x (hs.lt a x k g1).2 fun hx => e (hs.ow.sep vs.length a x hml (by rw [ho]; simp) (hF' x hx) (.inr ⟨k, g1⟩)).symm]
      exact g2
  · intro a x k ha
    rw [h2] at ha
    have := hs.lt a x k ha
    exact ⟨by rw [hnx]; exact this.1, Nat.lt_of_lt_of_le this.2 st.size⟩
  · intro a a' x h1 h3 h4 h5
    by_cases e : a = vs.length
    · subst e
      rw [hφs] at h4
      by_cases e' : a' = vs.length
      · exact e'.symm
      · exfalso
        rcases h5 with h5 | ⟨k, h5⟩
        · exact hφn a' x e' (hlv a' h3) h5
        · rw [h2] at h5
          rcases (hF'' x h4).2 with h6 | h6
          · exact e' (hs.ow.sep vs.length a' x hml (hlv a' h3) h6 (.inr ⟨k, h5⟩)).symm
          · have := (hs.lt a' x k h5).2; omega
    · exact absurd h4 (hφn a x e (hlv a h1))
  · intro a o x k h1 h3 h4
    by_cases e : a = vs.length
    · subst e
      rw [h2, hb] at h4; cases h4
      rw [hφs]; exact hbF
    · rw [hgn a e] at h1
      rw [hvar a o e h1] at h3; cases h3
  · intro a o x h1 h3 h4
    by_cases e : a = vs.length
    · subst e; rw [hgs] at h1; cases h1; cases h3
    · exact hφn a x e (hlv a (by rw [h1]; simp)) h4
  · intro a x h1 h3
    by_cases e : a = vs.length
    · subst e; rw [hφs] at h3; exact (hF'' x h3).1
    · exact absurd h3 (hφn a x e (hlv a h1))
  · intro a q x k h1 h3
    by_cases e : a = vs.length
    · subst e; rw [hgs] at h1; cases h1
      rw [h2, hb] at h3; cases h3
      have : ρ2.φ vs.length = F'' := funext fun y => propext (hφs y)
      rw [this]; exact hat'
    · rw [hgn a e] at h1
      have := hvar a _ e h1; cases this
  · intro g' hg'
    obtain ⟨k, hk⟩ := hs.glob g' hg'
    exact ⟨k, by rw [h2]; exact hk⟩
  · rw [heff]; exact Grow.put _ _ _ rfl
  · intro x hx hn
    exact hkeep x hx fun h => hn vs.length hml (hF' x h)
  · intro a o x k h1 h3 hx
    rw [h2] at h3
    by_cases e : a = vs.length
    · subst e; exact ⟨_, _, k, hmg, h3, fun _ => rfl⟩
    · rw [hgn a e] at h1; exact ⟨a, o, k, h1, h3, id⟩
  · intro a x h1 h3 hx
    by_cases e : a = vs.length
    · subst e; rw [hφs] at h3
      rcases (hF'' x h3).2 with h6 | h6
      · exact ⟨_, hml, h6⟩
      · omega
    · exact absurd h3 (hφn a x e (hlv a h1))
def sigR (g : Nat) (ren : List Nat) : Nat → Option Nat := fun a => idxN a ren g
def shutK (g : Nat) (h : KH) (ren : List Nat) : List Nat → List (Option KObj)
  | [] => []
  | a :: r => (match h.get a with
    | some o => some (renO (sigR g ren) o)
    | none => none) :: shutK g h ren r
theorem shutK_get {g : Nat} {h : KH} {ren : List Nat} : ∀ (r : List Nat) (i a : Nat), r[i]? = some a → (shutK g h ren r)[i]? = some (match h.get a with
    | some o => some (renO (sigR g ren) o)
    | none => none)
  | [], i, a, hi => by simp at hi
  | b :: r, 0, a, hi => by simp at hi; subst hi; rfl
  | b :: r, i + 1, a, hi => by simp at hi; simpa [shutK] using shutK_get r i a hi
theorem shutK_length {g : Nat} {h : KH} {ren : List Nat} : ∀ (r : List Nat), (shutK g h ren r).length = r.length
  | [] => rfl
  | b :: r => by simp [shutK, shutK_length r]
theorem OpensB.shut {ρ : Rho} {h : KH} {w : World} (hs : Sim P ρ h.low w) (g : Nat) (ren : List Nat) (os : List KObj) (hnd : nodupN ren = true) (hos : shutK g h ren ren = os.map some) (hrw : os.all KObj.rw = true) :
    ∃ (bs : List (Nat × Nat)) (φs : Nat → Nat → Prop), OpensB P g os w (fun x => ∃ a, a ∈ ren ∧ ρ.φ a x) bs φs ∧ ∀ (i a : Nat), ren[i]? = some a → bs[i]? = ρ a ∧ φs i = ρ.φ a := by
  have hlen : ren.length = os.length := by
    have := congrArg List.length hos
    rw [shutK_length, List.length_map] at this; exact this
  have hg : ∀ (i a : Nat), ren[i]? = some a → ∃ o, h.get a = some o ∧ os[i]? = some (renO (sigR g ren) o) := by
    intro i a hi
    have h1 := shutK_get (g := g) (h := h) (ren := ren) ren i a hi
    rw [hos, List.getElem?_map] at h1
    cases hq : os[i]? with
    | none => rw [hq] at h1; cases h1
    | some q =>
      rw [hq] at h1
      cases ho : h.get a with
      | none => rw [ho] at h1; cases h1
      | some o => rw [ho] at h1; cases h1; exact ⟨o, rfl, rfl⟩
  have hlv : ∀ a, a ∈ ren → ∃ (i : Nat) (o : KObj) (b l : Nat), ren[i]? = some a ∧ h.get a = some o ∧ ρ a = some (b, l) := by
    intro a ha
    obtain ⟨i, hi, rfl⟩ := List.mem_iff_getElem.1 ha
    obtain ⟨o, ho, _⟩ := hg i _ (List.getElem?_eq_some_iff.2 ⟨hi, rfl⟩)
    obtain ⟨b, l, o', h1, _⟩ := hs.blk _ _ (low_getK ho)
    exact ⟨i, o, b, l, List.getElem?_eq_some_iff.2 ⟨hi, rfl⟩, ho, h1⟩
  obtain ⟨bs, hbs⟩ : ∃ bs : List (Nat × Nat), bs = ren.map fun a => (ρ a).getD (0, 0) := ⟨_, rfl⟩
  have hb : ∀ (i a : Nat), ren[i]? = some a → bs[i]? = ρ a := fun i a hi => by
    rw [hbs, List.getElem?_map, hi]
    obtain ⟨_, o, b, l, _, _, h1⟩ := hlv a (List.mem_of_getElem? hi)
    rw [h1]
    show some ((ρ a).getD (0, 0)) = some (b, l)
    rw [h1]; rfl
  have hnd := nodupN_iff hnd
  have hinj : ∀ (i j a : Nat), ren[i]? = some a → ren[j]? = some a → i = j := fun i j a hi hj => by
    obtain ⟨i1, e1⟩ := List.getElem?_eq_some_iff.1 hi
    obtain ⟨j1, e2⟩ := List.getElem?_eq_some_iff.1 hj
    exact (List.getElem_inj (h₀ := i1) (h₁ := j1) hnd).1 (e1.trans e2.symm)
  have hσ : ∀ a x p, sigR g ren a = some x → ρ a = some p → rhoOf g bs x = some p := by
    intro a x p hs hp
    obtain ⟨h1, h2⟩ := idxN_spec hs
    have := hb _ a h2
    rw [hp] at this
    have h3 := rhoOf_get (g := g) this
    rw [show g + (x - g) = x by omega] at h3
    exact h3
  have hat : ∀ i, i < os.length → ∃ a, ren[i]? = some a := fun i hi => ⟨ren[i]'(by omega), by simp [hlen, hi]⟩
  obtain ⟨φs, hφ⟩ : ∃ φs : Nat → Nat → Prop, φs = fun i x => ∃ a, ren[i]? = some a ∧ ρ.φ a x := ⟨_, rfl⟩
  have hφi : ∀ (i a : Nat), ren[i]? = some a → φs i = ρ.φ a := fun i a hi => by
    rw [hφ]; funext x
    exact propext ⟨fun ⟨a', h1, h2⟩ => by rw [hi] at h1; cases h1; exact h2, fun h => ⟨a, hi, h⟩⟩
  refine ⟨bs, φs, ⟨by rw [hbs, List.length_map]; exact hlen, fun i o (hi : os[i]? = some o) => ?_, fun i x hi hx => ?_, fun i j x hi hj h1 h2 => ?_, fun x hx => ?_⟩, fun i a hi => ⟨hb i a hi, hφi i a hi⟩⟩
  · have hil : i < os.length := (List.getElem?_eq_some_iff.1 hi).1
    obtain ⟨a, ha⟩ := hat i hil
    obtain ⟨q, h1, h2⟩ := hg i a ha
    rw [hi] at h2; cases h2
    obtain ⟨b, l, o', h3, h4, h5⟩ := hs.blk a _ (low_getK h1)
    have hw : q.low.rw = true := by
      have := List.all_eq_true.1 hrw _ (List.mem_of_getElem? hi)
      rw [← KObj.rw_low, renO_rw] at this; exact this
    refine ⟨b, l, o', by rw [hb i a ha]; exact h3, h4, renO_r hσ h5, by rw [hφi i a ha]; exact hs.ow.own a _ b l (low_getK h1) hw h3, fun m hm => ?_⟩
    rw [hφi i a ha]
    refine hs.ow.mach a m b l ?_ h3
    rw [low_getK h1]
    cases q <;> simp [renO] at hm ⊢
    rw [hm]; rfl
  · obtain ⟨a, ha⟩ := hat i hi
    rw [hφi i a ha] at hx
    obtain ⟨_, o, _, _, _, h1, _⟩ := hlv a (List.mem_of_getElem? ha)
    exact ⟨⟨a, List.mem_of_getElem? ha, hx⟩, hs.ow.lt a x (by rw [low_getK h1]; simp) hx⟩
  · obtain ⟨a, ha⟩ := hat i hi
    obtain ⟨a', ha'⟩ := hat j hj
    rw [hφi i a ha] at h1
    rw [hφi j a' ha'] at h2
    obtain ⟨_, o, _, _, _, g1, _⟩ := hlv a (List.mem_of_getElem? ha)
    obtain ⟨_, o', _, _, _, g2, _⟩ := hlv a' (List.mem_of_getElem? ha')
    have := hs.ow.sep a a' x (by rw [low_getK g1]; simp) (by rw [low_getK g2]; simp) h1 (.inl h2)
    subst this
    exact hinj i j a ha ha'
  · obtain ⟨a, ha, h1⟩ := hx
    obtain ⟨i, o, b, l, h2, _, _⟩ := hlv a ha
    exact ⟨i, by rw [← hlen]; exact (List.getElem?_eq_some_iff.1 h2).1, by rw [hφi i a h2]; exact h1⟩
theorem tree_does {C : Cfg} {fs : List FuncId} {ext : Calling} (F : Fit P C fs) (hx : SoundC P ext) {T : TabK (Value × KH)} (hT : AgreeT ext T) {n d : Nat} {f : FuncId} (hf : Nat.blt f P.funcs.size = true) {args : List Value} {h h' : KH} {v : Value}
    (ht : runK P C fs T n d f args h bothK = some (v, h')) : DoesC P f args h.low v h'.low := (F.sound hx n d).does hf (runK_both hT ht)
theorem varB_get {vs : Vars} {vb : List KObj} (h : VarB vs vb) : ∀ (a : Nat) (q : KObj), vb[a]? = some q → ∃ k zs e, q = .cells (intCells k zs) e false := by
  induction h with
  | nil => intro a q h; simp at h
  | cons e h ih =>
    intro a q hq
    cases a with
    | zero => simp at hq; subst hq; exact ⟨_, _, _, rfl⟩
    | succ a => exact ih a q (by simpa using hq)
theorem DoesC.made {vs : Vars} {vb : List KObj} (hg : P.globals.size = vs.length) (hvb : VarB vs vb) {f : FuncId} {args : List Value} {h' : KH} {r : Nat} {m : MSt} (hd : DoesC P f args (mkH vb).low (.pointer (some ⟨r, 0, none⟩)) h'.low)
    (hold : ∀ a o, vb[a]? = some o → h'.get a = some o)
    (hcl : ∀ (ρ' : Rho) (w' : World) (b l : Nat), Sim P ρ' h'.low w' → ρ' r = some (b, l) → ∃ F, ObjSem.At P m w' b F ∧ F b ∧ ∀ x, F x → (∃ o', w'.heap[x]? = some o' ∧ nd o') ∧ ∃ a, vs.length ≤ a ∧ h'.low.get a ≠ none ∧ ρ'.φ a x) :
    DoesC P f args (mkH vb).low (.pointer (some ⟨vs.length, 0, none⟩)) (effK (mkH vb) [] [.mach m]).low := by
  intro ρ w args' ha hs
  refine (hd ρ w args' ha hs).mono ?_
  rintro e w' ⟨ρ', v', rfl, hR, st⟩
  have hlen := hvb.length
  cases hR with
  | ptr off hrb =>
    rename_i b l
    obtain ⟨F, hat, hFb, hF⟩ := hcl ρ' w' b l st.sim hrb
    have hget : ∀ a o, (mkH vb).low.get a = some o → a < vs.length ∧ o.rw = false ∧ h'.low.get a = some o ∧ ∃ k zs e, o = (KObj.cells (intCells k zs) e false).low := by
      intro a o h
      obtain ⟨q, hq, rfl⟩ := mkH_inv h
      obtain ⟨k, zs, e, rfl⟩ := varB_get hvb a q hq
      exact ⟨by rw [← hlen]; exact (List.getElem?_eq_some_iff.1 hq).1, rfl, low_getK (hold a _ hq), k, zs, e, rfl⟩
    have hnot : ∀ a x, (mkH vb).low.get a ≠ none → ¬ ρ.φ a x := fun a x h1 h2 => by
      obtain ⟨o, h1⟩ := Option.ne_none_iff_exists'.1 h1
      exact hs.ow.ro a o x h1 (hget a o h1).2.1 h2
    have hnew : ∀ x, F x → w.heap.size ≤ x := fun x hx => by
      obtain ⟨_, a, _, h2, h3⟩ := hF x hx
      rcases Nat.lt_or_ge x w.heap.size with h | h
      · obtain ⟨a0, g1, g2⟩ := st.imf a x h2 h3 h
        exact absurd g2 (hnot a0 x g1)
      · exact h
    have hnx : (mkH vb).low.next = vs.length := by rw [← hlen]; rfl
    obtain ⟨ρ2, h2f, h2φ⟩ : ∃ ρ2 : Rho, (ρ2.f = fun a => if a < vs.length then ρ' a else if a = vs.length then some (b, l) else none) ∧ (ρ2.φ = fun a x => a = vs.length ∧ F x) :=
      ⟨⟨fun a => if a < vs.length then ρ' a else if a = vs.length then some (b, l) else none, fun a x => a = vs.length ∧ F x⟩, rfl, rfl⟩
    have hlo : ∀ a, a < vs.length → ρ2 a = ρ' a := fun a ha => by rw [h2f]; simp [ha]
    have hro : ρ2 vs.length = some (b, l) := by rw [h2f]; simp
    have heff : (effK (mkH vb) [] [.mach m]).low = ((mkH vb).low).new (.mach m) := by rw [effK_low]; rfl
    have hgs : (effK (mkH vb) [] [.mach m]).low.get vs.length = some (.mach m) := by rw [heff, ← hnx]; exact AH.get_new_same
    have hgn : ∀ a, a ≠ vs.length → (effK (mkH vb) [] [.mach m]).low.get a = (mkH vb).low.get a := fun a ha => by rw [heff]; exact AH.get_new_ne (by rw [hnx]; exact ha)
    refine ⟨ρ2, _, rfl, .ptr 0 hro, fun a p hp => ?_, ⟨?_, ?_, ⟨?_, ?_, ?_, ?_, ?_⟩, ?_⟩, ?_, st.os, st.tape, st.output, st.size, ?_, ?_, ?_⟩
    · have := (hs.lt a p.1 p.2 hp).1
      rw [hlo a (by rw [← hnx]; exact this)]; exact st.ext a p hp
    · intro a o h
      by_cases e : a = vs.length
      · subst e; rw [hgs] at h; cases h
        obtain ⟨o', g1, g2⟩ := (hF b hFb).1
        exact ⟨b, l, o', hro, g1, g2⟩
      · rw [hgn a e] at h
        obtain ⟨h1, _, h3, k, zs, e', rfl⟩ := hget a o h
        obtain ⟨x, j, o', g1, g2, g3⟩ := st.sim.blk a _ h3
        refine ⟨x, j, o', by rw [hlo a h1]; exact g1, g2, ?_⟩
        cases o' <;> simp only [KObj.low, RObj] at g3 ⊢
        refine ⟨g3.1, fun i v hv => ?_, g3.2.2⟩
        obtain ⟨v', e1, r⟩ := g3.2.1 i v hv
        refine ⟨v', e1, r.inert (.inl ?_)⟩
        exact List.all_eq_true.1 (show (intCells k zs).all plain1 = true by unfold intCells; rw [List.all_map, List.all_eq_true]; intro x _; rfl) v (List.mem_of_getElem? hv)
    · intro a x j hr
      rw [heff]
      show a < (mkH vb).low.next + 1 ∧ _
      rw [hnx]
      by_cases e : a < vs.length
      · rw [hlo a e] at hr; exact ⟨by omega, (st.sim.lt a x j hr).2⟩
      · by_cases e2 : a = vs.length
        · subst e2; rw [hro] at hr; cases hr
          obtain ⟨o', g1, _⟩ := (hF b hFb).1
          exact ⟨by omega, (Array.getElem?_eq_some_iff.1 g1).1⟩
        · rw [h2f] at hr; simp [e, e2] at hr
    · intro a a' x h1 h2 h3 h4
      rw [h2φ] at h3
      obtain ⟨rfl, h3⟩ := h3
      by_cases e : a' = vs.length
      · exact e.symm
      · exfalso
        rw [hgn a' e] at h2
        obtain ⟨o, h2⟩ := Option.ne_none_iff_exists'.1 h2
        obtain ⟨g1, g2, g3, _⟩ := hget a' o h2
        rcases h4 with h4 | ⟨j, h4⟩
        · rw [h2φ] at h4; exact e h4.1
        · rw [hlo a' g1] at h4
          obtain ⟨x0, j0, o0, k1, _⟩ := hs.blk a' o h2
          have := st.ext _ _ k1
          rw [h4] at this; cases this
          have := (hs.lt a' x _ k1).2
          have := hnew x h3
          omega
    · intro a o x j h1 h2 h3
      by_cases e : a = vs.length
      · subst e; rw [hro] at h3; cases h3
        rw [h2φ]; exact ⟨rfl, hFb⟩
      · rw [hgn a e] at h1
        rw [(hget a o h1).2.1] at h2; cases h2
    · intro a o x h1 h2 h3
      rw [h2φ] at h3
      obtain ⟨rfl, _⟩ := h3
      rw [hgs] at h1; cases h1; cases h2
    · intro a x h1 h2
      rw [h2φ] at h2
      exact (hF x h2.2).1
    · intro a q x j h1 h3
      by_cases e : a = vs.length
      · subst e; rw [hgs] at h1; cases h1
        rw [hro] at h3; cases h3
        have : ρ2.φ vs.length = F := funext fun y => propext (by rw [h2φ]; simp)
        rw [this]; exact hat
      · rw [hgn a e] at h1
        have := (hget a _ h1).2.1; cases this
    · intro g' hg'
      obtain ⟨k, hk⟩ := st.sim.glob g' hg'
      exact ⟨k, by rw [hlo g' (by omega)]; exact hk⟩
    · rw [heff]; exact Grow.new _ _
    · intro x hx hn
      exact st.keep x hx hn
    · intro a o x j h1 h3 hx
      by_cases e : a = vs.length
      · subst e; rw [hro] at h3; cases h3
        have := hnew b hFb; omega
      · rw [hgn a e] at h1
        obtain ⟨g1, _, g3, _⟩ := hget a o h1
        rw [hlo a g1] at h3
        exact st.img a o x j g3 h3 hx
    · intro a x h1 h3 hx
      rw [h2φ] at h3
      have := hnew x h3.2; omega
end
end Go.Eng
namespace Go.Eng
set_option linter.unusedVariables false
set_option linter.unusedSimpArgs false
set_option linter.unusedSectionVars false
open Go
set_option linter.unusedVariables false
set_option linter.unusedSimpArgs false
def PreA (vs : List Value) (cs : Array Value) : Prop := ∀ (i : Nat) (v : Value), vs[i]? = some v → cs[i]? = some v
abbrev Ent := Int × List Int × Nat × Nat × Nat
def Ent.kv (t : Ent) : Value × Value := (.int .u64 t.1, .slice (some ⟨t.2.2.1, 0, none⟩) t.2.1.length t.2.2.2.2)
def Ent.pr (t : Ent) : Int × List Int := (t.1, t.2.1)
def Ent.at_ (t : Ent) : Nat := t.2.2.1
structure Ent.row (P : Program) (tU : TypeId) (w : World) (t : Ent) : Prop where
  obj : ∃ o', w.heap[t.at_]? = some o' ∧ RObj P Rho.nil t.2.2.2.1 (KObj.ints .u64 t.2.1 tU true).low o'
  pos : 0 < t.2.1.length
  le : t.2.1.length ≤ t.2.2.2.2
  room : t.2.2.2.2 = t.2.1.length ∨ t.2.2.2.2 ≤ t.2.2.2.1
structure Ents (P : Program) (tU : TypeId) (T : List Ent) (es : List MapEntry) (w : World) : Prop where
  kv : es.map (fun e => (e.key, e.val)) = T.map Ent.kv
  rows : ∀ t ∈ T, Ent.row P tU w t
def cellsS (S : ArSt) (m : Nat) : List Value := [.int .i64 S.cells, .int .i64 S.used, .int .i64 S.faults, .int .u64 S.last, .map (some m)]
def ArenaAt (P : Program) (tA tU : TypeId) (S : ArSt) (w : World) (b : Nat) (F : Nat → Prop) : Prop :=
  S.ok ∧ ∃ (m : Nat) (cs : Array Value) (es : Array MapEntry) (clk : Nat) (T : List Ent), w.heap[b]? = some (.cells cs tA (0, 0)) ∧ PreA (cellsS S m) cs ∧ w.heap[m]? = some (.map es clk) ∧ Ents P tU T es.toList w ∧
    (T.map Ent.pr).Perm S.blocks ∧ (T.map Prod.fst).Nodup ∧ (b :: m :: T.map Ent.at_).Nodup ∧ ∀ x, F x ↔ x ∈ b :: m :: T.map Ent.at_
theorem ArenaAt.loc {P : Program} {tA tU : TypeId} {S : ArSt} {w w' : World} {b : Nat} {F : Nat → Prop} (h : ArenaAt P tA tU S w b F) (hk : ∀ x, F x → w'.heap[x]? = w.heap[x]?) : ArenaAt P tA tU S w' b F := by
  obtain ⟨ho, m, cs, es, clk, T, h1, h2, h3, h4, h5, h6, h7, h8⟩ := h
  refine ⟨ho, m, cs, es, clk, T, ?_, h2, ?_, ⟨h4.kv, fun t ht => ?_⟩, h5, h6, h7, h8⟩
  · rw [hk b ((h8 b).2 (by simp))]; exact h1
  · rw [hk m ((h8 m).2 (by simp))]; exact h3
  · obtain ⟨⟨c, g1, g2⟩, g3, g4, g5⟩ := h4.rows t ht
    exact ⟨⟨c, (hk t.at_ ((h8 _).2 (List.mem_cons_of_mem _ (List.mem_cons_of_mem _ (List.mem_map.2 ⟨t, ht, rfl⟩))))).trans g1, g2⟩, g3, g4, g5⟩
def arCells (tA : TypeId) (g : Nat) (S : ArSt) : KObj := .cells [.int .i64 S.cells, .int .i64 S.used, .int .i64 S.faults, .int .u64 S.last, .map (some (g + 1))] tA true
def delB (k : Int) (l : List (Int × List Int)) : List (Int × List Int) := l.filter fun p => !(p.1 == k)
def openA (tA tU : TypeId) (g : Nat) (S : ArSt) (old : List MapEntry) (k : Int) : Option (List Int) → List KObj
  | none => [arCells tA g S, .pmap old (.int .u64 k) none]
  | some L => [arCells tA g S, .pmap old (.int .u64 k) (some (.slice (some ⟨g + 2, 0, none⟩) L.length L.length)), .ints .u64 L tU true]
def RestO (P : Program) (tU : TypeId) (k : Int) (rest : List (Int × List Int)) (old : List MapEntry) (w : World) (Fr : Nat → Prop) : Prop :=
  ∃ T : List Ent, Ents P tU T old w ∧ (T.map Ent.pr).Perm rest ∧ (T.map Prod.fst).Nodup ∧ k ∉ T.map Prod.fst ∧ (T.map Ent.at_).Nodup ∧ ∀ x, Fr x ↔ x ∈ T.map Ent.at_
theorem RestO.loc {P : Program} {tU : TypeId} {k : Int} {rest : List (Int × List Int)} {old : List MapEntry} {w w' : World} {Fr : Nat → Prop} (h : RestO P tU k rest old w Fr) (hk : ∀ x, Fr x → w'.heap[x]? = w.heap[x]?) : RestO P tU k rest old w' Fr := by
  obtain ⟨T, h4, h5, h6, h7, h8, h9⟩ := h
  refine ⟨T, ⟨h4.kv, fun t ht => ?_⟩, h5, h6, h7, h8, h9⟩
  obtain ⟨⟨c, g1, g2⟩, g3, g4, g5⟩ := h4.rows t ht
  exact ⟨⟨c, (hk t.at_ ((h9 _).2 (List.mem_map.2 ⟨t, ht, rfl⟩))).trans g1, g2⟩, g3, g4, g5⟩
theorem Ents.key {P : Program} {tU : TypeId} {T : List Ent} {es : List MapEntry} {w : World} (h : Ents P tU T es w) {e : MapEntry} (he : e ∈ es) : ∃ t ∈ T, e.key = .int .u64 t.1 := by
  have h1 : (e.key, e.val) ∈ es.map (fun e => (e.key, e.val)) := List.mem_map.2 ⟨e, he, rfl⟩
  rw [h.kv] at h1
  obtain ⟨t, ht, he⟩ := List.mem_map.1 h1
  simp only [Ent.kv, Prod.mk.injEq] at he
  exact ⟨t, ht, he.1.symm⟩
theorem Ents.length {P : Program} {tU : TypeId} {T : List Ent} {es : List MapEntry} {w : World} (h : Ents P tU T es w) : es.length = T.length := by
  have := congrArg List.length h.kv
  simpa using this
theorem Ents.split {P : Program} {tU : TypeId} {T1 T2 : List Ent} {t : Ent} {es : List MapEntry} {w : World} (h : Ents P tU (T1 ++ t :: T2) es w) :
    ∃ e1 e e2, es = e1 ++ e :: e2 ∧ Ents P tU (T1 ++ T2) (e1 ++ e2) w ∧ (e.key, e.val) = t.kv := by
  have hl := h.length
  simp at hl
  have h1 : T1.length < es.length := by omega
  refine ⟨es.take T1.length, es[T1.length], es.drop (T1.length + 1), by simp, ⟨?_, fun u hu => h.rows u ?_⟩, ?_⟩
  · have hk := h.kv
    rw [List.map_append, List.map_cons] at hk
    have e1 : (es.take T1.length).map (fun e => (e.key, e.val)) = T1.map Ent.kv := by
      rw [List.map_take, hk, List.take_append_of_le_length (by simp), ← List.length_map (f := Ent.kv), List.take_length]
    have e2 : (es.drop (T1.length + 1)).map (fun e => (e.key, e.val)) = T2.map Ent.kv := by
      rw [List.map_drop, hk, ← List.length_map (f := Ent.kv), List.drop_length_add_append]
      rfl
    rw [List.map_append, List.map_append, e1, e2]
  · rcases List.mem_append.1 hu with hu | hu
    · exact List.mem_append_left _ hu
    · exact List.mem_append_right _ (List.mem_cons_of_mem _ hu)
  · have hk := congrArg (fun l => l[T1.length]?) h.kv
    simp [h1] at hk
    exact hk
theorem nodup_mid {α : Type} {l1 l2 : List α} {a : α} (h : (l1 ++ a :: l2).Nodup) : (a :: (l1 ++ l2)).Nodup := (List.Perm.nodup_iff List.perm_middle).1 h
theorem lookup_mem {k : Int} {L : List Int} : ∀ {l2 : List (Int × List Int)}, (l2.map Prod.fst).Nodup → (l2.lookup k = some L ↔ (k, L) ∈ l2)
  | [], _ => by simp
  | (a, b) :: r, hn2 => by
    simp only [List.map_cons, List.nodup_cons] at hn2
    rw [List.lookup_cons]
    cases e : k == a with
    | true =>
      have := eq_of_beq e; subst this
      simp only [Option.some.injEq, List.mem_cons, Prod.mk.injEq, true_and]
      constructor
      · intro h; exact .inl h.symm
      · rintro (h | h)
        · exact h.symm
        · exact absurd (List.mem_map.2 ⟨_, h, rfl⟩) hn2.1
    | false =>
      simp only
      rw [lookup_mem hn2.2]
      simp only [List.mem_cons, Prod.mk.injEq]
      constructor
      · intro h; exact .inr h
      · rintro (⟨h, _⟩ | h)
        · rw [h] at e; simp at e
        · exact h
theorem lookup_perm {k : Int} {l1 l2 : List (Int × List Int)} (hp : l1.Perm l2) (hn : (l1.map Prod.fst).Nodup) {L : List Int} : l2.lookup k = some L ↔ (k, L) ∈ l1 := by
  rw [lookup_mem ((hp.map Prod.fst).nodup_iff.1 hn), hp.mem_iff]
theorem delB_perm {k : Int} {l1 l2 : List (Int × List Int)} (hp : l1.Perm l2) : (delB k l1).Perm (delB k l2) := hp.filter _
theorem delB_none {k : Int} {l : List (Int × List Int)} (h : ∀ L, (k, L) ∉ l) : delB k l = l := by
  unfold delB
  rw [List.filter_eq_self]
  intro p hp
  obtain ⟨a, b⟩ := p
  simp only [Bool.not_eq_eq_eq_not, Bool.not_true, beq_eq_false_iff_ne, ne_eq]
  intro he
  exact h b (by rw [← he]; exact hp)
theorem delB_mid {k : Int} {L : List Int} {l1 l2 : List (Int × List Int)} (hn : ((l1 ++ (k, L) :: l2).map Prod.fst).Nodup) : delB k (l1 ++ (k, L) :: l2) = l1 ++ l2 := by
  have h1 : ∀ M, (k, M) ∉ l1 ++ l2 := by
    intro M hM
    rw [List.map_append, List.map_cons] at hn
    have := nodup_mid hn
    rw [List.nodup_cons] at this
    apply this.1
    rw [← List.map_append]
    exact List.mem_map.2 ⟨_, hM, rfl⟩
  have h2 : delB k (l1 ++ (k, L) :: l2) = delB k (l1 ++ l2) := by
    unfold delB
    simp
  rw [h2, delB_none h1]
section
variable {P : Program} [ObjSem P]
theorem row_any {ρ ρ' : Rho} {tU : TypeId} {L : List Int} {l : Nat} {o' : Obj} (h : RObj P ρ l (KObj.ints .u64 L tU true).low o') : RObj P ρ' l (KObj.ints .u64 L tU true).low o' := by
  cases o' <;> simp only [KObj.low, RObj] at h ⊢
  refine ⟨h.1, fun i v hv => ?_, h.2.2⟩
  obtain ⟨v', e', r⟩ := h.2.1 i v hv
  obtain ⟨n, _, rfl⟩ := List.mem_map.1 (List.mem_of_getElem? hv)
  exact ⟨v', e', r.inert (.inl rfl)⟩
theorem arCells_robj {g : Nat} {ρ : Rho} {tA : TypeId} {S : ArSt} {m l : Nat} {cs : Array Value} (hm : ρ (g + 1) = some (m, l)) (h : PreA (cellsS S m) cs) : RObj P ρ 0 (arCells tA g S).low (.cells cs tA (0, 0)) := by
  refine ⟨rfl, fun i v hv => ?_, by simp, fun _ => rfl⟩
  rw [Array.getElem?_toList]
  match i, hv with
  | 0, hv => cases hv; exact ⟨_, h 0 _ rfl, .int _ _⟩
  | 1, hv => cases hv; exact ⟨_, h 1 _ rfl, .int _ _⟩
  | 2, hv => cases hv; exact ⟨_, h 2 _ rfl, .int _ _⟩
  | 3, hv => cases hv; exact ⟨_, h 3 _ rfl, .int _ _⟩
  | 4, hv => cases hv; exact ⟨_, h 4 _ rfl, .map hm⟩
theorem arCells_pre {g : Nat} {ρ : Rho} {tA : TypeId} {S : ArSt} {l0 : Nat} {e : TypeId} {fr : Nat × Nat} {cs : Array Value} (h : RObj P ρ l0 (arCells tA g S).low (.cells cs e fr)) : e = tA ∧ fr = (0, 0) ∧ ∃ m l, ρ (g + 1) = some (m, l) ∧ PreA (cellsS S m) cs := by
  obtain ⟨h1, h2, _, h4⟩ := h
  have h2 : RP ρ [.int .i64 S.cells, .int .i64 S.used, .int .i64 S.faults, .int .u64 S.last, .map (some (g + 1))] cs.toList := h2
  refine ⟨h1, h4 rfl, ?_⟩
  obtain ⟨v4, e4, r4⟩ := h2 4 _ rfl
  cases r4 with | map hm =>
  refine ⟨_, _, hm, fun i v hv => ?_⟩
  rw [← Array.getElem?_toList]
  match i, hv with
  | 0, hv => cases hv; obtain ⟨v, e0, r0⟩ := h2 0 _ rfl; cases r0; exact e0
  | 1, hv => cases hv; obtain ⟨v, e0, r0⟩ := h2 1 _ rfl; cases r0; exact e0
  | 2, hv => cases hv; obtain ⟨v, e0, r0⟩ := h2 2 _ rfl; cases r0; exact e0
  | 3, hv => cases hv; obtain ⟨v, e0, r0⟩ := h2 3 _ rfl; cases r0; exact e0
  | 4, hv => cases hv; exact e4
theorem ArenaAt.open_ {tA tU : TypeId} {S : ArSt} {w : World} {b : Nat} {F : Nat → Prop} (g : Nat) (k : Int) (h : ArenaAt P tA tU S w b F) :
    ∃ old F' Fr, Opens P g (openA tA tU g S old k (S.blocks.lookup k)) w b F' ∧ RestO P tU k (delB k S.blocks) old w Fr ∧ (∀ x, F x ↔ F' x ∨ Fr x) ∧ (∀ x, F' x → ¬ Fr x) ∧ (∀ L, S.blocks.lookup k = some L → 0 < L.length) ∧ S.ok ∧ (S.blocks.map Prod.fst).Nodup := by
  obtain ⟨hok, m, cs, es, clk, T, h1, h2, h3, h4, h5, h6, h7, h8⟩ := h
  have hpn : ((T.map Ent.pr).map Prod.fst).Nodup := by
    rw [List.map_map]; exact h6
  have hnd := (h5.map Prod.fst).nodup_iff.1 hpn
  cases hL : S.blocks.lookup k with
  | none =>
    have hno : ∀ L, (k, L) ∉ T.map Ent.pr := fun L hL' => by
      have := (lookup_perm h5 hpn (k := k) (L := L)).2 hL'
      rw [hL] at this; cases this
    have hkn : k ∉ T.map Prod.fst := fun hk => by
      obtain ⟨t, ht, rfl⟩ := List.mem_map.1 hk
      exact hno t.2.1 (List.mem_map.2 ⟨t, ht, rfl⟩)
    simp only [List.nodup_cons] at h7
    refine ⟨es.toList, fun x => x = b ∨ x = m, fun x => x ∈ T.map Ent.at_, ⟨[(b, 0), (m, 0)], fun i x => x = [b, m].getD i 0, 0, ⟨rfl, fun i o hi => ?_, fun i x hi hx => ?_, fun i j x hi hj e1 e2 => ?_, fun x hx => ?_⟩, rfl⟩, ⟨T, h4, ?_, h6, hkn, h7.2.2, fun x => Iff.rfl⟩, fun x => ?_, fun x hx => ?_, fun L h => (by cases h), hok, hnd⟩
    · match i, hi with
      | 0, hi => cases hi; exact ⟨b, 0, _, rfl, h1, arCells_robj (rhoOf_get (i := 1) rfl) h2, rfl, fun m hm => by cases hm⟩
      | 1, hi =>
        cases hi
        refine ⟨m, 0, _, rfl, h3, ⟨fun e he => ?_, rfl⟩, rfl, fun m hm => by cases hm⟩
        obtain ⟨t, ht, hk⟩ := h4.key he
        have : k ≠ t.1 := fun e => hkn (by rw [e]; exact List.mem_map.2 ⟨t, ht, rfl⟩)
        rw [hk]; simp [keyEq, this]
    · match i, hi with
      | 0, _ => subst hx; exact ⟨.inl rfl, _, h1, trivial⟩
      | 1, _ => subst hx; exact ⟨.inr rfl, _, h3, trivial⟩
    · simp at h7
      match i, hi, j, hj with
      | 0, _, 0, _ => rfl
      | 1, _, 1, _ => rfl
      | 0, _, 1, _ => simp at e1 e2; omega
      | 1, _, 0, _ => simp at e1 e2; omega
    · rcases hx with rfl | rfl
      · exact ⟨0, by simp [openA], rfl⟩
      · exact ⟨1, by simp [openA], rfl⟩
    · rw [delB_none (fun L hL' => hno L (h5.mem_iff.2 hL'))]; exact h5
    · rw [h8]; simp [or_assoc]
    · rcases hx with rfl | rfl
      · intro hx; exact h7.1 (List.mem_cons_of_mem _ hx)
      · exact h7.2.1
  | some L =>
    have hmem := (lookup_perm h5 hpn).1 hL
    obtain ⟨t, ht, hte⟩ := List.mem_map.1 hmem
    obtain ⟨T1, T2, rfl⟩ := List.append_of_mem ht
    obtain ⟨k', L', r, l, c⟩ := t
    simp only [Ent.pr, Prod.mk.injEq] at hte
    obtain ⟨rfl, rfl⟩ := hte
    obtain ⟨e1, e, e2, hes, hen, hek⟩ := h4.split
    simp only [Ent.kv, Prod.mk.injEq] at hek
    obtain ⟨⟨ro, hr1, hr2⟩, hr3, hr4, hr5⟩ := h4.rows (k', L', r, l, c) (by simp)
    have hr1 : w.heap[r]? = some ro := hr1
    have hr2 : RObj P Rho.nil l (KObj.ints .u64 L' tU true).low ro := hr2
    have hr3 : 0 < L'.length := hr3
    rw [List.map_append, List.map_cons] at h6 h7
    have h6' := nodup_mid h6
    have h7b : (b :: m :: (r :: (T1.map Ent.at_ ++ T2.map Ent.at_))).Nodup := by
      refine (List.Perm.nodup_iff ?_).1 h7
      exact .cons _ (.cons _ List.perm_middle)
    rw [List.nodup_cons] at h6'
    simp only [List.nodup_cons, List.mem_cons, not_or] at h7b
    obtain ⟨⟨n1, n2, n3⟩, ⟨n4, n5⟩, n6, n7⟩ := h7b
    rw [← List.map_append] at h6' n3 n5 n6 n7
    have hlt : ∀ i, i < (openA tA tU g S (e1 ++ e2) k' (some L')).length → i = 0 ∨ i = 1 ∨ i = 2 := fun i hi => by simp [openA] at hi; omega
    refine ⟨e1 ++ e2, fun x => x = b ∨ x = m ∨ x = r, fun x => x ∈ (T1 ++ T2).map Ent.at_, ⟨[(b, 0), (m, 0), (r, l)], fun i x => x = [b, m, r].getD i 0, 0, ⟨rfl, fun i o hi => ?_, fun i x hi hx => ?_, fun i j x hi hj k1 k2 => ?_, fun x hx => ?_⟩, rfl⟩, ⟨T1 ++ T2, hen, ?_, h6'.2, h6'.1, n7, fun x => Iff.rfl⟩, fun x => ?_, fun x hx => ?_, fun L h => (by cases h; exact hr3), hok, hnd⟩
    · match i, hi with
      | 0, hi => cases hi; exact ⟨b, 0, _, rfl, h1, arCells_robj (rhoOf_get (i := 1) rfl) h2, rfl, fun m hm => by cases hm⟩
      | 1, hi =>
        cases hi
        refine ⟨m, 0, _, rfl, h3, ⟨fun e he => ?_, e1, e2, e, hes, rfl, hek.1, ?_⟩, rfl, fun m hm => by cases hm⟩
        · obtain ⟨t, ht, hk⟩ := hen.key he
          have : k' ≠ t.1 := fun e => h6'.1 (by rw [e]; exact List.mem_map.2 ⟨t, ht, rfl⟩)
          rw [hk]; simp [keyEq, this]
        · rw [hek.2]; exact .slice (b := r) (l := l) 0 _ _ _ (rhoOf_get (i := 2) rfl) hr4 (fun _ => hr5) (.inl hr3)
      | 2, hi => cases hi; exact ⟨r, l, _, rfl, hr1, row_any hr2, rfl, fun m hm => by cases hm⟩
    · rcases hlt i hi with rfl | rfl | rfl
      · subst hx; exact ⟨.inl rfl, _, h1, trivial⟩
      · subst hx; exact ⟨.inr (.inl rfl), _, h3, trivial⟩
      · subst hx; exact ⟨.inr (.inr rfl), _, hr1, hr2.nd⟩
    · rcases hlt i hi with rfl | rfl | rfl <;> rcases hlt j hj with rfl | rfl | rfl <;> simp at k1 k2 <;> first | rfl | (exfalso; omega)
    · rcases hx with rfl | rfl | rfl
      · exact ⟨0, by simp [openA], rfl⟩
      · exact ⟨1, by simp [openA], rfl⟩
      · exact ⟨2, by simp [openA], rfl⟩
    · have := delB_perm (k := k') h5
      rw [List.map_append, List.map_cons, show Ent.pr (k', L', r, l, c) = (k', L') from rfl, delB_mid (by rw [List.map_append, List.map_cons]; simpa [List.map_map, Function.comp_def, Ent.pr] using h6), ← List.map_append] at this
      exact this
    · rw [h8]; simp [Ent.at_]; grind
    · rcases hx with rfl | rfl | rfl
      · exact n3
      · exact n5
      · exact n6
structure ArEnd (tA tU : TypeId) (g : Nat) (h : KH) (old : List MapEntry) (k : Int) (rest : List (Int × List Int)) (S : ArSt) : Prop where
  ok : S.ok
  cells : h.get g = some (arCells tA g S)
  mp : (h.get (g + 1) = some (.pmap old (.int .u64 k) none) ∧ rest.Perm S.blocks) ∨
    ∃ j L, j ≠ g ∧ j ≠ g + 1 ∧ 0 < L.length ∧ h.get (g + 1) = some (.pmap old (.int .u64 k) (some (.slice (some ⟨j, 0, none⟩) L.length L.length))) ∧ h.get j = some (.ints .u64 L tU true) ∧ ((k, L) :: rest).Perm S.blocks
theorem ArenaAt.shut {tA tU : TypeId} {S : ArSt} {w' : World} {b l g : Nat} {k : Int} {old : List MapEntry} {rest : List (Int × List Int)} {Fr : Nat → Prop} {h : KH} {ρ : Rho} (hs : Sim P ρ h.low w') (hb : ρ g = some (b, l))
    (he : ArEnd tA tU g h old k rest S) (hr : RestO P tU k rest old w' Fr) (hd : ∀ a x, h.low.get a ≠ none → ρ.φ a x → ¬ Fr x) :
    ∃ F, ArenaAt P tA tU S w' b F ∧ (∀ x, F x → Fr x ∨ ∃ a, h.low.get a ≠ none ∧ ρ.φ a x) := by
  obtain ⟨T, t1, t2, t3, t4, t5, t6⟩ := hr
  have hg := low_getK he.cells
  obtain ⟨b', l', o0, e1, w0, r0⟩ := hs.blk g _ hg
  rw [hb] at e1; cases e1
  have hφg := hs.ow.own g _ b l hg rfl hb
  have hlg : h.low.get g ≠ none := by rw [hg]; simp
  cases o0 with
  | cells cs e fr =>
    obtain ⟨rfl, rfl, m, lm, hm, hp⟩ := arCells_pre r0
    rcases he.mp with ⟨hmp, hperm⟩ | ⟨j, L, hj1, hj2, hpos, hmp, hrow, hperm⟩
    · have hg1 := low_getK hmp
      obtain ⟨m', l2, o1, e2, w1, r1⟩ := hs.blk (g + 1) _ hg1
      rw [hm] at e2; cases e2
      have hφm := hs.ow.own (g + 1) _ m lm hg1 rfl hm
      have hlm : h.low.get (g + 1) ≠ none := by rw [hg1]; simp
      cases o1 with
      | map es clk =>
        have hes : es.toList = old := r1.2
        refine ⟨fun x => x ∈ b :: m :: T.map Ent.at_, ⟨he.ok, m, cs, es, clk, T, w0, hp, w1, by rw [hes]; exact t1, t2.trans hperm, t3, ?_, fun x => Iff.rfl⟩, fun x hx => ?_⟩
        · simp only [List.nodup_cons, List.mem_cons, not_or]
          refine ⟨⟨fun e => ?_, fun hx => hd g b hlg hφg ((t6 _).2 hx)⟩, fun hx => hd _ m hlm hφm ((t6 _).2 hx), t5⟩
          have := hs.inj g (g + 1) b l lm ⟨_, hg, rfl⟩ hlm hb (by rw [e]; exact hm)
          omega
        · rcases List.mem_cons.1 hx with rfl | hx
          · exact .inr ⟨g, hlg, hφg⟩
          · rcases List.mem_cons.1 hx with rfl | hx
            · exact .inr ⟨g + 1, hlm, hφm⟩
            · exact .inl ((t6 _).2 hx)
      | _ => exact r1.elim
    · have hg1 := low_getK hmp
      have hgj := low_getK hrow
      obtain ⟨m', l2, o1, e2, w1, r1⟩ := hs.blk (g + 1) _ hg1
      rw [hm] at e2; cases e2
      have hφm := hs.ow.own (g + 1) _ m lm hg1 rfl hm
      have hlm : h.low.get (g + 1) ≠ none := by rw [hg1]; simp
      obtain ⟨r, lr, o2, hr', w2, r2⟩ := hs.blk j _ hgj
      have hφr := hs.ow.own j _ r lr hgj rfl hr'
      have hlj : h.low.get j ≠ none := by rw [hgj]; simp
      cases o1 with
      | map es clk =>
        obtain ⟨_, pre, post, me, hes, rfl, hkey, hval⟩ := r1
        obtain ⟨c, hv, hc1, hc2⟩ : ∃ c, me.val = .slice (some ⟨r, 0, none⟩) L.length c ∧ L.length ≤ c ∧ (c = L.length ∨ c ≤ lr) := by
          generalize me.val = mv at hval
          generalize hn : L.length = n at hval hpos
          cases hval with
          | slice off n c c' h1 h2 h3 h4 => rw [hr'] at h1; cases h1; exact ⟨c', rfl, h2, h3 rfl⟩
          | slice00 a off x => omega
        have hkv := t1.kv
        have hT1 : T = T.take pre.length ++ T.drop pre.length := (List.take_append_drop _ _).symm
        have hk1 : pre.map (fun e => (e.key, e.val)) = (T.take pre.length).map Ent.kv := by
          have := congrArg (List.take pre.length) hkv
          rw [List.map_append, List.take_append_of_le_length (by simp), List.map_take.symm, List.take_length, ← List.map_take] at this
          exact this
        have hk2 : post.map (fun e => (e.key, e.val)) = (T.drop pre.length).map Ent.kv := by
          have := congrArg (List.drop pre.length) hkv
          rw [← List.map_drop, ← List.map_drop, List.drop_left] at this
          exact this
        generalize hTa : T.take pre.length = T1 at hT1 hk1
        generalize hTb : T.drop pre.length = T2 at hT1 hk2
        subst hT1
        rw [List.map_append] at t2 t3 t4 t5
        refine ⟨fun x => x ∈ b :: m :: (T1 ++ (k, L, r, lr, c) :: T2).map Ent.at_, ⟨he.ok, m, cs, es, clk, T1 ++ (k, L, r, lr, c) :: T2, w0, hp, w1, ⟨?_, fun t ht => ?_⟩, ?_, ?_, ?_, fun x => Iff.rfl⟩, fun x hx => ?_⟩
        · rw [hes, List.map_append, List.map_append, List.map_cons, List.map_cons, hk1, hk2, hkey, hv]; rfl
        · rcases List.mem_append.1 ht with ht | ht
          · exact t1.rows t (List.mem_append_left _ ht)
          · rcases List.mem_cons.1 ht with rfl | ht
            · exact ⟨⟨o2, w2, row_any r2⟩, hpos, hc1, hc2⟩
            · exact t1.rows t (List.mem_append_right _ ht)
        · refine .trans ?_ hperm
          rw [List.map_append, List.map_cons]
          exact List.perm_middle.trans (.cons _ t2)
        · rw [List.map_append, List.map_cons]
          refine (List.Perm.nodup_iff List.perm_middle).2 ?_
          rw [List.nodup_cons]
          exact ⟨by simpa using t4, by simpa using t3⟩
        · rw [List.map_append, List.map_cons]
          have hp2 : (b :: m :: (T1.map Ent.at_ ++ Ent.at_ (k, L, r, lr, c) :: T2.map Ent.at_)).Perm (b :: m :: r :: (T1.map Ent.at_ ++ T2.map Ent.at_)) := .cons _ (.cons _ List.perm_middle)
          refine hp2.nodup_iff.2 ?_
          have hnf : ∀ x, (∃ a, h.low.get a ≠ none ∧ ρ.φ a x) → x ∉ T1.map Ent.at_ ++ T2.map Ent.at_ := fun x ⟨a, h1, h2⟩ hx => hd a x h1 h2 ((t6 x).2 (by rw [List.map_append]; exact hx))
          simp only [List.nodup_cons, List.mem_cons, not_or]
          refine ⟨⟨fun e => ?_, fun e => ?_, hnf b ⟨g, hlg, hφg⟩⟩, ⟨fun e => ?_, hnf m ⟨g + 1, hlm, hφm⟩⟩, hnf r ⟨j, hlj, hφr⟩, t5⟩
          · have := hs.inj g (g + 1) b l lm ⟨_, hg, rfl⟩ hlm hb (by rw [e]; exact hm)
            omega
          · have := hs.inj g j b l lr ⟨_, hg, rfl⟩ hlj hb (by rw [e]; exact hr')
            omega
          · have := hs.inj (g + 1) j m lm lr ⟨_, hg1, rfl⟩ hlj hm (by rw [e]; exact hr')
            omega
        · rcases List.mem_cons.1 hx with rfl | hx
          · exact .inr ⟨g, hlg, hφg⟩
          · rcases List.mem_cons.1 hx with rfl | hx
            · exact .inr ⟨g + 1, hlm, hφm⟩
            · rw [List.map_append, List.map_cons] at hx
              rcases List.mem_append.1 hx with hx | hx
              · exact .inl ((t6 _).2 (by rw [List.map_append]; exact List.mem_append_left _ hx))
              · rcases List.mem_cons.1 hx with rfl | hx
                · exact .inr ⟨j, hlj, hφr⟩
                · exact .inl ((t6 _).2 (by rw [List.map_append]; exact List.mem_append_right _ hx))
      | _ => exact r1.elim
  | _ => exact r0.elim
theorem arena_does {tA tU : TypeId} {vs : Vars} {vb : List KObj} (hsem : ∀ S w b F, ObjSem.At P (.arena S) w b F ↔ ArenaAt P tA tU S w b F) (hg : P.globals.size = vs.length) (hvb : VarB vs vb) {f : FuncId} {args : List Value} {S S' : ArSt} {v : Value} (k : Int)
    (hargs : args.all (argG vs.length) = true) (hv : plainT v = true)
    (key : ∀ old, S.ok → (S.blocks.map Prod.fst).Nodup → (∀ L, S.blocks.lookup k = some L → 0 < L.length) → ∃ h' : KH, DoesC P f args (mkH (vb ++ openA tA tU vs.length S old k (S.blocks.lookup k))).low v h'.low ∧ ArEnd tA tU vs.length h' old k (delB k S.blocks) S') :
    DoesC P f args (mkH (vb ++ [.mach (.arena S)])).low v (effK (mkH (vb ++ [.mach (.arena S)])) [(vs.length, .mach (.arena S'))] []).low := by
  refine DoesC.mach hg hvb hargs hv fun w b F hat hbF hF => ?_
  rw [hsem] at hat
  obtain ⟨old, F', Fr, hop, hrest, hFF, hdis, hpos, hok, hnd⟩ := hat.open_ (P := P) vs.length k
  obtain ⟨h', hd, hend⟩ := key old hok hnd hpos
  refine ⟨_, h'.low, F', ?_, hop, fun x hx => (hFF x).2 (.inl hx), hd, ?_⟩
  · intro o ho
    cases hL : S.blocks.lookup k with
    | none => rw [hL] at ho; simp [openA, arCells] at ho; rcases ho with rfl | rfl <;> rfl
    | some L => rw [hL] at ho; simp [openA, arCells] at ho; rcases ho with rfl | rfl | rfl <;> rfl
  · intro ρ' w' l hs hsz hb hk hown
    have hFrlt : ∀ x, Fr x → x < w.heap.size := fun x hx => by
      obtain ⟨o', h1, _⟩ := hF x ((hFF x).2 (.inr hx))
      exact (Array.getElem?_eq_some_iff.1 h1).1
    obtain ⟨F2, h1, h2⟩ := ArenaAt.shut hs hb hend (hrest.loc fun x hx => hk x ((hFF x).2 (.inr hx)) fun h => hdis x h hx) (fun a x h1 h2 hx => by
      rcases hown a x h1 h2 with h | h
      · exact hdis x h hx
      · have := hFrlt x hx; omega)
    refine ⟨F2, (hsem _ _ _ _).2 h1, ?_, fun x hx => ⟨?_, ?_⟩⟩
    · obtain ⟨_, m, cs, es, clk, T, _, _, _, _, _, _, _, h8⟩ := h1
      exact (h8 b).2 (by simp)
    · rcases h2 x hx with h | ⟨a, h3, h4⟩
      · have := hFF x
        obtain ⟨o', g1, g2⟩ := hF x (this.2 (.inr h))
        exact ⟨o', by rw [hk x (this.2 (.inr h)) fun h' => hdis x h' h]; exact g1, g2⟩
      · exact hs.ow.lt a x h3 h4
    · rcases h2 x hx with h | ⟨a, h3, h4⟩
      · exact .inl ((hFF x).2 (.inr h))
      · rcases hown a x h3 h4 with h | h
        · exact .inl ((hFF x).2 (.inl h))
        · exact .inr h
theorem arena_made {tA tU : TypeId} {vs : Vars} {vb : List KObj} (hsem : ∀ S w b F, ObjSem.At P (.arena S) w b F ↔ ArenaAt P tA tU S w b F) (hg : P.globals.size = vs.length) (hvb : VarB vs vb) {f : FuncId} {args : List Value} {h' : KH} {r m clk : Nat} {c : Int}
    (hd : DoesC P f args (mkH vb).low (.pointer (some ⟨r, 0, none⟩)) h'.low) (hold : ∀ a o, vb[a]? = some o → h'.get a = some o) (hr : vs.length ≤ r) (hm : vs.length ≤ m) (hrm : r ≠ m) (hc0 : 0 ≤ c) (hc : c ≤ 65536)
    (h1 : h'.get r = some (.cells [.int .i64 c, .int .i64 0, .int .i64 0, .int .u64 0, .map (some m)] tA true)) (h2 : h'.get m = some (.map [] clk)) :
    DoesC P f args (mkH vb).low (.pointer (some ⟨vs.length, 0, none⟩)) (effK (mkH vb) [] [.mach (.arena ⟨c, 0, 0, 0, []⟩)]).low := by
  refine DoesC.made hg hvb hd hold fun ρ' w' b l hs hb => ?_
  have g1 := low_getK h1
  have g2 := low_getK h2
  obtain ⟨b', l', o0, e1, w0, r0⟩ := hs.blk r _ g1
  rw [hb] at e1; cases e1
  cases o0 with
  | cells cs e fr =>
    obtain ⟨rfl, hp, _, hfr⟩ := r0
    have hfr := hfr rfl; subst hfr
    have hp : RP ρ' [.int .i64 c, .int .i64 0, .int .i64 0, .int .u64 0, .map (some m)] cs.toList := hp
    obtain ⟨v4, e4, r4⟩ := hp 4 _ rfl
    cases r4 with | map hmb =>
    rename_i mb lm
    obtain ⟨mb', lm', o1, e2, w1, r1⟩ := hs.blk m _ g2
    rw [hmb] at e2; cases e2
    have hφr := hs.ow.own r _ b l g1 rfl hb
    have hφm := hs.ow.own m _ mb lm g2 rfl hmb
    cases o1 with
    | map es clk' =>
      have hz : es.size = 0 := r1.2.1
      have hes : es.toList = [] := by simpa using hz
      refine ⟨fun x => x = b ∨ x = mb, (hsem _ _ _ _).2 ⟨⟨hc, hc0, Int.le_refl _⟩, mb, cs, es, clk', [], w0, fun i v hv => ?_, w1, ⟨by rw [hes]; rfl, fun t ht => by cases ht⟩, .refl _, .nil, ?_, fun x => by simp⟩, .inl rfl, fun x hx => ?_⟩
      · rw [← Array.getElem?_toList]
        match i, hv with
        | 0, hv => cases hv; obtain ⟨v, e0, r0⟩ := hp 0 _ rfl; cases r0; exact e0
        | 1, hv => cases hv; obtain ⟨v, e0, r0⟩ := hp 1 _ rfl; cases r0; exact e0
        | 2, hv => cases hv; obtain ⟨v, e0, r0⟩ := hp 2 _ rfl; cases r0; exact e0
        | 3, hv => cases hv; obtain ⟨v, e0, r0⟩ := hp 3 _ rfl; cases r0; exact e0
        | 4, hv => cases hv; exact e4
      · have : b ≠ mb := fun e => by
          have := hs.inj r m b l lm ⟨_, g1, rfl⟩ (by rw [g2]; simp) hb (by rw [e]; exact hmb)
          exact hrm this
        simp [this]
      · rcases hx with rfl | rfl
        · exact ⟨hs.ow.lt r x (by rw [g1]; simp) hφr, r, hr, by rw [g1]; simp, hφr⟩
        · exact ⟨hs.ow.lt m x (by rw [g2]; simp) hφm, m, hm, by rw [g2]; simp, hφm⟩
    | _ => exact r1.elim
  | _ => exact r0.elim
end
theorem upd_perm {k : Int} {L : List Int} {l : List (Int × List Int)} (hn : (l.map Prod.fst).Nodup) (h : l.lookup k = some L) : ((k, L) :: delB k l).Perm l := by
  have hm := (lookup_mem hn).1 h
  obtain ⟨l1, l2, rfl⟩ := List.append_of_mem hm
  rw [delB_mid hn]
  exact List.perm_middle.symm
theorem delB_lookup_none {k : Int} {l : List (Int × List Int)} (hn : (l.map Prod.fst).Nodup) (h : l.lookup k = none) : delB k l = l :=
  delB_none fun L hL => by rw [(lookup_mem hn).2 hL] at h; cases h
theorem total_perm {l1 l2 : List (Int × List Int)} (h : l1.Perm l2) : total l1 = total l2 := by
  induction h with
  | nil => rfl
  | cons x _ ih => simp only [total, ih]
  | swap x y l => simp only [total]; omega
  | trans _ _ h1 h2 => rw [h1, h2]
theorem total_nonneg : ∀ l : List (Int × List Int), 0 ≤ total l
  | [] => Int.le_refl _
  | p :: r => by have := total_nonneg r; simp only [total]; omega
theorem total_del {k : Int} {L : List Int} {l : List (Int × List Int)} (hn : (l.map Prod.fst).Nodup) (h : l.lookup k = some L) : total l = (L.length : Int) + total (delB k l) :=
  (total_perm (upd_perm hn h)).symm
theorem total_delB_le (k : Int) : ∀ l : List (Int × List Int), total (delB k l) ≤ total l
  | [] => Int.le_refl _
  | p :: r => by
    have h1 := total_delB_le k r
    have h2 : delB k (p :: r) = bif !(p.1 == k) then p :: delB k r else delB k r := by
      unfold delB; rw [List.filter_cons]; cases (p.1 == k) <;> rfl
    rw [h2]
    cases (p.1 == k) with
    | true => simp only [total, Bool.not_true, cond_false]; omega
    | false => simp only [total, Bool.not_false, cond_true]; omega
namespace ArSt
def err (S : ArSt) (b i : Int) : Int := match S.blocks.lookup b with
  | none => 13
  | some L => bif decide (i < 0) || decide ((L.length : Int) ≤ i) then 14 else 0
def row (S : ArSt) (b : Int) : List Int := (S.blocks.lookup b).getD []
def word (S : ArSt) (b i : Int) : Int := (S.row b).getD i.toNat 0
def fault (S : ArSt) : ArSt := { S with faults := IntKind.wrap .i64 (S.faults + 1) }
def put (S : ArSt) (b i v : Int) : ArSt := { S with blocks := (b, (S.row b).set i.toNat v) :: delB b S.blocks }
def loadV (S : ArSt) (b i : Int) : Int := bif S.err b i == 0 then S.word b i else 0
def touch (S : ArSt) (b i : Int) : ArSt := bif S.err b i == 0 then S else S.fault
def store (S : ArSt) (b i v : Int) : ArSt := bif S.err b i == 0 then S.put b i v else S.fault
def cas (S : ArSt) (b i o n : Int) : ArSt := bif S.err b i == 0 then (bif S.word b i == o then S.put b i n else S) else S.fault
def add (S : ArSt) (b i d : Int) : ArSt := bif S.err b i == 0 then S.put b i (IntKind.wrap .u64 (S.word b i + d)) else S.fault
def room (S : ArSt) (n : Int) : Bool := !(decide (n < 1)) && !(decide (n > S.cells - S.used))
def nextB (S : ArSt) : Int := IntKind.wrap .u64 (S.last + 1)
def allocV (S : ArSt) (n : Int) : Int := bif S.room n then S.nextB else 0
def alloc (S : ArSt) (n : Int) : ArSt := bif S.room n then { S with last := S.nextB, used := S.used + n, blocks := (S.nextB, List.replicate n.toNat 0) :: delB S.nextB S.blocks } else S
def freeE (S : ArSt) (b : Int) : Int := bif (S.blocks.lookup b).isSome then 0 else 13
def free (S : ArSt) (b : Int) : ArSt := bif (S.blocks.lookup b).isSome then { S with used := S.used - ((S.row b).length : Int), blocks := delB b S.blocks } else S.fault
def size (S : ArSt) (b : Int) : Int := ((S.row b).length : Int)
theorem row_some {S : ArSt} {b : Int} {L : List Int} (h : S.blocks.lookup b = some L) : S.row b = L := by unfold row; rw [h]; rfl
theorem err_none {S : ArSt} {b i : Int} (h : S.blocks.lookup b = none) : S.err b i = 13 := by unfold err; rw [h]
theorem err_out {S : ArSt} {b i : Int} {L : List Int} (h : S.blocks.lookup b = some L) (hi : i < 0 ∨ (L.length : Int) ≤ i) : S.err b i = 14 := by
  unfold err; rw [h]; simp only
  rcases hi with hi | hi <;> simp [hi]
theorem err_in {S : ArSt} {b i : Int} {L : List Int} (h : S.blocks.lookup b = some L) (h0 : 0 ≤ i) (h1 : i < (L.length : Int)) : S.err b i = 0 := by
  unfold err; rw [h]; simp only
  rw [decide_eq_false (by omega : ¬ i < 0), decide_eq_false (by omega : ¬ (L.length : Int) ≤ i)]; rfl
theorem ok.fault {S : ArSt} (h : S.ok) : S.fault.ok := ⟨h.cells, h.used, h.total⟩
theorem ok.put {S : ArSt} (h : S.ok) (hn : (S.blocks.map Prod.fst).Nodup) {b i v : Int} {L : List Int} (hL : S.blocks.lookup b = some L) : (S.put b i v).ok := by
  refine ⟨h.cells, h.used, ?_⟩
  show Eng.total ((b, (S.row b).set i.toNat v) :: delB b S.blocks) ≤ S.used
  rw [row_some hL]
  have h1 := total_del hn hL
  have h2 := h.total
  simp only [Eng.total, List.length_set]; omega
theorem ok.used0 {S : ArSt} (h : S.ok) : 0 ≤ S.used := Int.le_trans (total_nonneg _) h.total
theorem room_iff {S : ArSt} {n : Int} : S.room n = true ↔ 1 ≤ n ∧ n ≤ S.cells - S.used := by
  unfold room
  simp only [Bool.and_eq_true, Bool.not_eq_eq_eq_not, Bool.not_true, decide_eq_false_iff_not]
  omega
theorem alloc_room {S : ArSt} {n : Int} (h : S.room n = true) : S.alloc n = { S with last := S.nextB, used := S.used + n, blocks := (S.nextB, List.replicate n.toNat 0) :: delB S.nextB S.blocks } := by unfold alloc; rw [h]; rfl
theorem alloc_no {S : ArSt} {n : Int} (h : S.room n = false) : S.alloc n = S := by unfold alloc; rw [h]; rfl
theorem ok.alloc {S : ArSt} (h : S.ok) (n : Int) : (S.alloc n).ok := by
  cases hr : S.room n with
  | false => rw [alloc_no hr]; exact h
  | true =>
    rw [alloc_room hr]
    have := room_iff.1 hr
    have h1 := h.total
    have h2 := total_delB_le S.nextB S.blocks
    refine ⟨h.cells, by show S.used + n ≤ S.cells; omega, ?_⟩
    show Eng.total ((S.nextB, List.replicate n.toNat 0) :: delB S.nextB S.blocks) ≤ S.used + n
    simp only [Eng.total, List.length_replicate]; omega
theorem ok.free {S : ArSt} (h : S.ok) (hn : (S.blocks.map Prod.fst).Nodup) (b : Int) : (S.free b).ok := by
  unfold ArSt.free
  cases hL : S.blocks.lookup b with
  | none => exact h.fault
  | some L =>
    have h1 := total_del hn hL
    have h2 := h.total
    have h3 := h.used
    refine ⟨h.cells, ?_, ?_⟩
    · show S.used - ((S.row b).length : Int) ≤ S.cells; omega
    · show Eng.total (delB b S.blocks) ≤ S.used - ((S.row b).length : Int)
      rw [row_some hL]; omega
theorem lookup_delB (k k' : Int) : ∀ l : List (Int × List Int), (delB k l).lookup k' = if k' = k then none else l.lookup k'
  | [] => by unfold delB; simp
  | (a, L) :: r => by
    have ih := lookup_delB k k' r
    have h2 : delB k ((a, L) :: r) = bif !(a == k) then (a, L) :: delB k r else delB k r := by
      unfold delB; rw [List.filter_cons]; cases (a == k) <;> rfl
    rw [h2]
    by_cases ha : a = k
    · subst ha
      rw [beq_self_eq_true, Bool.not_true, cond_false, ih]
      by_cases hk : k' = a
      · rw [if_pos hk, if_pos hk]
      · rw [if_neg hk, if_neg hk, List.lookup_cons, ibeq_f hk]
    · rw [ibeq_f ha, Bool.not_false, cond_true, List.lookup_cons, List.lookup_cons, ih]
      by_cases hk : k' = a
      · subst hk; simp [ha]
      · rw [ibeq_f hk]
def find (S : ArSt) (b : Int) : Option (List Int) := S.blocks.lookup b
theorem find_upd (S : ArSt) (b : Int) (L : List Int) (b' : Int) : ((b, L) :: delB b S.blocks).lookup b' = if b' = b then some L else S.find b' := by
  rw [List.lookup_cons]
  by_cases h : b' = b
  · subst h; rw [beq_self_eq_true, if_pos rfl]
  · rw [ibeq_f h, if_neg h, lookup_delB, if_neg h]; rfl
theorem find_put (S : ArSt) (b i v b' : Int) : (S.put b i v).find b' = if b' = b then some ((S.row b).set i.toNat v) else S.find b' := find_upd S b _ b'
theorem find_fault (S : ArSt) (b : Int) : S.fault.find b = S.find b := rfl
theorem find_alloc {S : ArSt} {n : Int} (h : S.room n = true) (b : Int) : (S.alloc n).find b = if b = S.nextB then some (List.replicate n.toNat 0) else S.find b := by
  rw [alloc_room h]; exact find_upd S S.nextB _ b
theorem find_free (S : ArSt) (b b' : Int) : (S.free b).find b' = if b' = b then none else S.find b' := by
  unfold free
  cases h : S.blocks.lookup b with
  | none =>
    show S.fault.find b' = _
    rw [find_fault]
    by_cases e : b' = b
    · subst e; rw [if_pos rfl]; exact h
    · rw [if_neg e]
  | some L => exact lookup_delB b b' S.blocks
theorem row_find {S : ArSt} {b : Int} {L : List Int} (h : S.find b = some L) : S.row b = L := row_some h
theorem store_ok {S : ArSt} {b i v : Int} (h : S.err b i = 0) : S.store b i v = S.put b i v := by unfold store; rw [h]; rfl
theorem touch_ok {S : ArSt} {b i : Int} (h : S.err b i = 0) : S.touch b i = S := by unfold touch; rw [h]; rfl
theorem loadV_ok {S : ArSt} {b i : Int} (h : S.err b i = 0) : S.loadV b i = S.word b i := by unfold loadV; rw [h]; rfl
end ArSt
end Go.Eng
namespace Go.Eng
set_option linter.unusedVariables false
set_option linter.unusedSimpArgs false
set_option linter.unusedSectionVars false
open Go
set_option linter.unusedVariables false
set_option linter.unusedSimpArgs false
section
variable {P : Program}
theorem OpensA.imp {A1 A2 : AtP} {g : Nat} {os : List KObj} {w : World} {F : Nat → Prop} {bs : List (Nat × Nat)} {φs : Nat → Nat → Prop} (h : OpensA P A1 g os w F bs φs)
    (hi : ∀ m, KObj.mach m ∈ os → ∀ w b F, A1 m w b F → A2 m w b F) : OpensA P A2 g os w F bs φs :=
  ⟨h.len, fun i o ho => by
    obtain ⟨x, l, o', h1, h2, h3, h4, h5⟩ := h.obj i o ho
    exact ⟨x, l, o', h1, h2, h3, h4, fun m hm => hi m (by rw [← hm]; exact List.mem_of_getElem? ho) w x _ (h5 m hm)⟩, h.own, h.sep, h.all⟩
theorem OpensC.imp {A1 A2 : AtP} {g : Nat} {os : List KObj} {w : World} {b : Nat} {F : Nat → Prop} (h : OpensC P A1 g os w b F)
    (hi : ∀ m, KObj.mach m ∈ os → ∀ w b F, A1 m w b F → A2 m w b F) : OpensC P A2 g os w b F := by
  obtain ⟨bs, φs, l, h1, h2⟩ := h
  exact ⟨bs, φs, l, h1.imp hi, h2⟩
def LocA (A : AtP) : Prop := ∀ m w w' b F, A m w b F → w.heap.size ≤ w'.heap.size → (∀ x, F x → w'.heap[x]? = w.heap[x]?) → A m w' b F
theorem OpensC.loc {A : AtP} (hA : LocA A) {g : Nat} {os : List KObj} {w w' : World} {b : Nat} {F : Nat → Prop} (h : OpensC P A g os w b F) (hsz : w.heap.size ≤ w'.heap.size) (hk : ∀ x, F x → w'.heap[x]? = w.heap[x]?) : OpensC P A g os w' b F := by
  obtain ⟨bs, φs, l, op, h2⟩ := h
  have hl : ∀ {i : Nat} {o : KObj}, os[i]? = some o → i < os.length := fun h => (List.getElem?_eq_some_iff.1 h).1
  refine ⟨bs, φs, l, ⟨op.len, fun i o ho => ?_, fun i x hi hx => ?_, op.sep, op.all⟩, h2⟩
  · obtain ⟨x, l, o', h1, h2, h3, h4, h5⟩ := op.obj i o ho
    refine ⟨x, l, o', h1, by rw [hk x (op.own i x (hl ho) h4).1]; exact h2, h3, h4, fun m hm => ?_⟩
    exact hA m w w' x _ (h5 m hm) hsz fun y hy => hk y (op.own i y (hl ho) hy).1
  · obtain ⟨h1, o', h3, h4⟩ := op.own i x hi hx
    exact ⟨h1, o', by rw [hk x h1]; exact h3, h4⟩
def semN (P : Program) (base : AtP) (g : Nat) (openM : MSt → Option (List KObj)) : Nat → AtP
  | 0 => fun m w b F => (match openM m with
    | none => base m w b F
    | some _ => False)
  | n + 1 => fun m w b F => (match openM m with
    | none => base m w b F
    | some os => OpensC P (semN P base g openM n) g os w b F)
theorem semN_none {base : AtP} {g : Nat} {openM : MSt → Option (List KObj)} {m : MSt} (h : openM m = none) : ∀ (n : Nat) (w : World) (b : Nat) (F : Nat → Prop), semN P base g openM n m w b F ↔ base m w b F
  | 0, w, b, F => by simp only [semN, h]
  | n + 1, w, b, F => by simp only [semN, h]
theorem semN_succ {base : AtP} {g : Nat} {openM : MSt → Option (List KObj)} {m : MSt} {os : List KObj} (h : openM m = some os) (n : Nat) (w : World) (b : Nat) (F : Nat → Prop) : semN P base g openM (n + 1) m w b F ↔ OpensC P (semN P base g openM n) g os w b F := by
  simp only [semN, h]
theorem semN_loc {base : AtP} (hb : LocA base) {g : Nat} {openM : MSt → Option (List KObj)} : ∀ n, LocA (semN P base g openM n)
  | 0 => fun m w w' b F h hsz hk => by
    cases ho : openM m with
    | none => rw [semN_none ho] at h ⊢; exact hb m w w' b F h hsz hk
    | some os => simp only [semN, ho] at h
  | n + 1 => fun m w w' b F h hsz hk => by
    cases ho : openM m with
    | none => rw [semN_none ho] at h ⊢; exact hb m w w' b F h hsz hk
    | some os => rw [semN_succ ho] at h ⊢; exact h.loc (semN_loc hb n) hsz hk
theorem semN_stable {base : AtP} {g : Nat} {openM : MSt → Option (List KObj)} {rank : MSt → Nat} (hr : ∀ m os, openM m = some os → 0 < rank m ∧ ∀ m', KObj.mach m' ∈ os → rank m' < rank m) :
    ∀ (n : Nat) (m : MSt), rank m ≤ n → ∀ w b F, semN P base g openM n m w b F ↔ semN P base g openM (n + 1) m w b F
  | 0, m, hm, w, b, F => by
    cases ho : openM m with
    | none => rw [semN_none ho, semN_none ho]
    | some os => have := (hr m os ho).1; omega
  | n + 1, m, hm, w, b, F => by
    cases ho : openM m with
    | none => rw [semN_none ho, semN_none ho]
    | some os =>
      rw [semN_succ ho, semN_succ ho]
      have key : ∀ m', KObj.mach m' ∈ os → ∀ w b F, semN P base g openM n m' w b F ↔ semN P base g openM (n + 1) m' w b F := fun m' hm' w b F =>
        semN_stable hr n m' (by have := (hr m os ho).2 m' hm'; omega) w b F
      exact ⟨fun h => h.imp fun m' hm' w b F => (key m' hm' w b F).1, fun h => h.imp fun m' hm' w b F => (key m' hm' w b F).2⟩
theorem semN_open {base : AtP} {g : Nat} {openM : MSt → Option (List KObj)} {rank : MSt → Nat} (hr : ∀ m os, openM m = some os → 0 < rank m ∧ ∀ m', KObj.mach m' ∈ os → rank m' < rank m) (K : Nat) {m : MSt} {os : List KObj} (ho : openM m = some os) (hK : rank m ≤ K)
    (w : World) (b : Nat) (F : Nat → Prop) : semN P base g openM K m w b F ↔ OpensC P (semN P base g openM K) g os w b F := by
  rw [semN_stable hr K m hK w b F, semN_succ ho]
end
section
variable {P : Program} [ObjSem P]
def IsM (P : Program) [ObjSem P] (g : Nat) (m : MSt) (os : List KObj) : Prop := ∀ w b F, ObjSem.At P m w b F ↔ Opens P g os w b F
theorem mach_does {vs : Vars} {vb : List KObj} (hg : P.globals.size = vs.length) (hvb : VarB vs vb) {f : FuncId} {args : List Value} {m m' : MSt} {os os' : List KObj} {v : Value} {h' : KH} (hm : IsM P vs.length m os) (hm' : IsM P vs.length m' os')
    (hd : DoesC P f args (mkH (vb ++ os)).low v h'.low) (r : List Nat) (hsh : shutK vs.length h' (vs.length :: r) (vs.length :: r) = os'.map some) (hrw : os.all KObj.rw = true := by kernel_rfl) (hrw' : os'.all KObj.rw = true := by kernel_rfl) (hnd : nodupN (vs.length :: r) = true := by kernel_rfl)
    (hargs : args.all (argG vs.length) = true := by kernel_rfl) (hv : plainT v = true := by kernel_rfl) : DoesC P f args (mkH (vb ++ [.mach m])).low v (effK (mkH (vb ++ [.mach m])) [(vs.length, .mach m')] []).low := by
  refine DoesC.mach hg hvb hargs hv fun w b F hat hbF hF => ?_
  refine ⟨os, h'.low, F, fun o ho => List.all_eq_true.1 hrw o ho, (hm w b F).1 hat, fun x h => h, hd, fun ρ' w' l hs hsz hb hk hown => ?_⟩
  obtain ⟨bs, φs, op, hbs⟩ := OpensB.shut hs vs.length (vs.length :: r) os' hnd hsh hrw'
  have h0 := hbs 0 vs.length rfl
  refine ⟨_, (hm' w' b _).2 ⟨bs, φs, l, op, by rw [h0.1]; exact hb⟩, ?_, fun x hx => ?_⟩
  · obtain ⟨x, l', o', g1, _, _, g4, _⟩ := op.obj 0 (os'[0]'(by rw [← op.len]; exact (List.getElem?_eq_some_iff.1 (by rw [h0.1]; exact hb)).1)) (by simp)
    rw [h0.1, hb] at g1; cases g1
    exact (op.own 0 b (by rw [← op.len]; exact (List.getElem?_eq_some_iff.1 (by rw [h0.1]; exact hb)).1) g4).1
  · obtain ⟨i, hi, hx2⟩ := op.all x hx
    obtain ⟨a, ha, hx3⟩ := hx
    refine ⟨(op.own i x hi hx2).2, hown a x ?_ hx3⟩
    have hlen : (vs.length :: r).length = os'.length := by
      have := congrArg List.length hsh
      rw [shutK_length, List.length_map] at this; exact this
    obtain ⟨j, hj, rfl⟩ := List.mem_iff_getElem.1 ha
    have h1 := shutK_get (g := vs.length) (h := h') (ren := vs.length :: r) (vs.length :: r) j _ (List.getElem?_eq_some_iff.2 ⟨hj, rfl⟩)
    rw [hsh, List.getElem?_map] at h1
    cases hq : h'.get ((vs.length :: r)[j]) with
    | none =>
      rw [hq] at h1
      have : os'[j]? = some (os'[j]'(by omega)) := by simp [hlen ▸ hj]
      rw [this] at h1; cases h1
    | some o => rw [low_getK hq]; simp
end
end Go.Eng
namespace Go.Eng
set_option linter.unusedVariables false
set_option linter.unusedSimpArgs false
set_option linter.unusedSectionVars false
open Go
open Go.RowKit (Below)
set_option linter.unusedVariables false
set_option linter.unusedSimpArgs false
section
variable {P : Program} [ObjSem P]
def DoesE (P : Program) [ObjSem P] (f : FuncId) (args : List Value) (h : AH) (A : Value → AH → Prop) : Prop :=
  ∀ (ρ : Rho) (w : World) (args' : Array Value), RL ρ args args'.toList → Sim P ρ h w → Calls P f args' w fun e w' => ∃ v h2 ρ' v', e = .returned v' ∧ A v h2 ∧ R ρ' v v' ∧ Step P ρ h w ρ' h2 w'
theorem Gets.doesE {f : FuncId} {fn : Func} {c : Code} (hf : P.funcs[f]? = some fn) (hb : fn.body = some c) {args : List Value} {h : AH} {A : Value → AH → Prop} (hgl : P.globals.size ≤ h.next)
    (hg : Gets P h c (firstSt args fn.ntmps h) (Ends P fn.results.toList fun r sh => ∃ h2, A r h2 ∧ Fits h sh h2)) : DoesE P f args h A := by
  intro ρ w args' ha hs
  refine (hg.calls hf hb hgl ha hs).mono ?_
  rintro e w' ⟨v, v', s, a', ρ', rfl, ⟨h2, hA, hfit⟩, hR, t⟩
  exact ⟨v, h2, _, v', rfl, hA, hR.mono (Rho.lv_le _ _), t.does hs hfit⟩
def jumpQ (Q : Ex → St → Prop) (s : St) : Option Code → Prop
  | none => Q .normal s
  | some .ret => Q .ret s
  | some (.exit i) => Q (.exit i) s
  | some (.goto l) => Q (.goto l) s
  | some _ => False
theorem range_rel {g : Operand} {ps : Array Tmp} {asg bd : Code} (hg : okX P.globals.size g = true) {Q : Ex → St → Prop} {A : AH → Prop} {a00 : Nat} {ρ00 : Rho} {h00 : AH} {w00 : World} {s : St} {a : Act} {w : World} {ρ : Rho} {f : FuncId} {first cap : Array Value}
    (hv : evalX s.ts g = .func (.func f) first cap) (hf : FnOk P f) (hdo : DoesE P f (first.toList ++ [Value.func (.yield s.h.next) #[] #[]] ++ cap.toList) (s.h.new (.loop s.ts ps asg bd .ready)) (fun _ => A))
    (hA : ∀ h2, A h2 → ∃ t p ca cb st, h2.get s.h.next = some (.loop t p ca cb st) ∧ (st = .ready ∨ ∃ c, st = .done c) ∧ jumpQ Q ⟨s.ts, (h2.put s.h.next (.loop t p ca cb .gone)).drop s.h.next⟩ st.jump) (hi : Is P ρ00 h00 w00 a00 s a w ρ) :
    (Code.rangeFunc g ps asg bd).wpIn (Fr none) 0 P (fun e a' w' => ∃ x s', e = x.real ∧ Q x s' ∧ ∃ ρ', Is P ρ00 h00 w00 a00 s' a' w' ρ') a w := by
  have hev := hi.rt.eval hi.st.sim hg
  rw [hv] at hev
  generalize hq : a.eval g = z at hev
  cases hev with
  | func _ _ ys _ vs hys kys hvs kvs =>
  have hfirst : RL ρ first.toList ys.toList := .of_array hys kys
  have hcap : RL ρ cap.toList vs.toList := .of_array hvs kvs
  refine wpIn_rangeFunc fun fn _ => ?_
  obtain ⟨rec, hrec⟩ : ∃ rec : Loop, rec = { state := .ready, pending := none, fn, tmps := a.tmps, params := ps, assign := asg, body := bd, defers := w.heap.size } := ⟨_, rfl⟩
  obtain ⟨W0, hW0⟩ : ∃ W0, w.alloc (.deferred (some [])) = W0 := ⟨_, rfl⟩
  have hs0 : W0.heap.size = w.heap.size + 1 := by rw [← hW0]; simp
  have hD0 : W0.heap[w.heap.size]? = some (.deferred (some [])) := by rw [← hW0]; exact heapNew _ _
  have st0 : Step P ρ s.h w ρ s.h W0 := by
    refine .of_grown hi.st.sim (by rw [← hW0]; rfl) (by rw [← hW0]; rfl) (by rw [← hW0]; rfl) (by omega) fun b hb => ?_
    rw [← hW0]; exact heapOld _ _ _ hb
  have st1 := Step.alloc (P := P) st0.sim (.loop s.ts ps asg bd .ready) (.loop rec) 0 ⟨by rw [hrec]; exact hi.rt.rl, by rw [hrec], by rw [hrec], by rw [hrec], by rw [hrec]; exact ⟨rfl, rfl⟩⟩
  obtain ⟨ρ1, hρ1⟩ : ∃ ρ1 : Rho, ρ.add s.h.next W0.heap.size 0 (AObj.rw (.loop s.ts ps asg bd .ready)) = ρ1 := ⟨_, rfl⟩
  obtain ⟨W1, hW1⟩ : ∃ W1, W0.alloc (.loop rec) = W1 := ⟨_, rfl⟩
  rw [hρ1, hW1] at st1
  have hn1 : ρ1 s.h.next = some (W0.heap.size, 0) := by rw [← hρ1]; simp [Rho.add_f]
  have henter : (Instr.enterLoop fn a.tmps ps asg bd none).run P w = .ok (w.heap.size + 1, [markD w.heap.size]) W1 := by
    rw [run_enterLoop_outer, ← hW1, ← hW0, hrec]; rfl
  refine ⟨w.heap.size + 1, [markD w.heap.size], W1, { target := .fn (.func f) vs, args := ys ++ #[.func (.yield (w.heap.size + 1)) #[] #[]] }, W1, f, ys ++ #[.func (.yield (w.heap.size + 1)) #[] #[]] ++ vs, W1, henter, ?_, fun _ _ => trivial, ?_, fun h => by simp [Fr, Fence.wide] at h, ?_⟩
  · simp only [resolve, hq, Deferred.ofValue]
    simp [go_sem]
  · simp [invoke]
    exact callFunc_ok hf _ _
  have hargs : RL ρ1 (first.toList ++ [Value.func (.yield s.h.next) #[] #[]] ++ cap.toList) (ys ++ #[Value.func (.yield (w.heap.size + 1)) #[] #[]] ++ vs).toList := by
    have hle : ρ.le ρ1 := st1.ext
    have := ((hfirst.mono hle).append (RL.cons (R.yield (ρ := ρ1) (b := w.heap.size + 1) (l := 0) (by rw [hn1, hs0])) (.nil _))).append (hcap.mono hle)
    simpa using this
  have m1 : Marks a00 ρ1 (s.h.new (.loop s.ts ps asg bd .ready)) W1 (markD w.heap.size :: a.defers) := by
    obtain ⟨hsz, Ds, hds, hnd, hall⟩ := (hi.df.step st0).step st1
    refine ⟨hsz, w.heap.size :: Ds, by rw [hds]; rfl, List.nodup_cons.2 ⟨fun hmem => ?_, hnd⟩, fun D hD => ?_⟩
    · obtain ⟨_, Ds', hds', _, hall'⟩ := hi.df
      have : Ds = Ds' := by
        have h := hds.symm.trans hds'
        exact List.map_inj_right (fun a b h => by simpa [markD] using h) |>.1 h
      subst this
      have := (Array.getElem?_eq_some_iff.1 (hall' _ hmem).2.1).1
      omega
    · rcases List.mem_cons.1 hD with rfl | hD
      · refine ⟨hi.df.1, ?_, fun b hg hr => ?_⟩
        · rw [← hW1, heapOld _ _ _ (by omega)]; exact hD0
        · rw [← hρ1, Rho.add_φ] at hr
          split at hr
          · omega
          · rename_i hne
            rw [AH.get_new_ne hne] at hg
            have := hi.st.sim.ow.size hg hr; omega
      · exact hall D hD
  refine callsIn_Fr.2 ((hdo ρ1 W1 _ hargs st1.sim).mono ?_)
  rintro e W2 ⟨v2, h2, ρ2, v', rfl, hAh, hR2, st2⟩
  have hn2 : ρ2 s.h.next = some (w.heap.size + 1, 0) := by rw [← hs0]; exact st2.ext _ _ hn1
  have fin : ∀ (t : List Value) (p : Array Tmp) (ca cb : Code) (st : LSt), h2.get s.h.next = some (.loop t p ca cb st) → (st = .ready ∨ ∃ c, st = .done c) →
      ∃ W3, (Instr.endLoop (w.heap.size + 1)).run P W2 = .ok st.jump W3 ∧
        Is P ρ00 h00 w00 a00 ⟨s.ts, (h2.put s.h.next (.loop t p ca cb .gone)).drop s.h.next⟩ { a with defers := [markD w.heap.size] ++ a.defers } W3 ρ2 := by
    intro t p ca cb st hg hst
    obtain ⟨b, l, o', h3, h4, h5⟩ := st2.sim.blk _ _ hg
    rw [hn2] at h3; cases h3
    cases o' with
    | loop r =>
      obtain ⟨q1, q2, q3, q4, q5⟩ := h5
      have hbusy : r.state ≠ .busy := by
        rcases hst with rfl | ⟨c, rfl⟩
        · rw [q5.1]; simp
        · rw [q5.1]; simp
      have hpend : r.pending = st.jump := by
        rcases hst with rfl | ⟨c, rfl⟩
        · exact q5.2
        · exact q5.2
      have hlt2 : w.heap.size + 1 < W2.heap.size := (Array.getElem?_eq_some_iff.1 h4).1
      refine ⟨_, by rw [← hpend]; exact run_endLoop h4 hbusy, ?_⟩
      have st3 := Step.write (P := P) st2.sim hg rfl hn2 (.loop t p ca cb .gone) rfl (.loop { r with state := .exhausted }) ⟨q1, q2, q3, q4, rfl⟩ (W2.putObj (w.heap.size + 1) (.loop { r with state := .exhausted }))
        (World.putObj_heap_same hlt2) (fun k hk => World.putObj_heap_other hk) (by simp) rfl rfl rfl
      have st4 := Step.drop (P := P) st3.sim s.h.next
      have stA := (((st0.trans st1).trans st2).trans st3).trans st4
      exact ⟨⟨(hi.rt.mono stA.ext).size, (hi.rt.mono stA.ext).at_⟩, hi.st.trans stA, (((m1.step st2).step st3).step st4 :)⟩
    | _ => exact h5.elim
  obtain ⟨t, p, ca, cb, st, hgl, hst, hjump⟩ := hA h2 hAh
  obtain ⟨W3, hr, hI⟩ := fin t p ca cb st hgl hst
  rcases hst with rfl | ⟨c, rfl⟩
  · exact ⟨none, W3, hr, .normal, _, rfl, hjump, ρ2, hI⟩
  · refine ⟨some c, W3, hr, ?_⟩
    cases c with
    | ret => exact wpIn_ret ⟨.ret, _, rfl, hjump, ρ2, hI⟩
    | exit i => exact wpIn_exit ⟨.exit i, _, rfl, hjump, ρ2, hI⟩
    | goto l => exact wpIn_goto ⟨.goto l, _, rfl, hjump, ρ2, hI⟩
    | _ => exact hjump.elim
theorem Gets.rangeFunc {h0 : AH} {g : Operand} {ps : Array Tmp} {asg bd : Code} {s : St} {Q : Ex → St → Prop} {A : AH → Prop} {f : FuncId} {first cap : Array Value} (hg : okX P.globals.size g = true)
    (hv : evalX s.ts g = .func (.func f) first cap) (hf : FnOk P f) (hdo : DoesE P f (first.toList ++ [Value.func (.yield s.h.next) #[] #[]] ++ cap.toList) (s.h.new (.loop s.ts ps asg bd .ready)) (fun _ => A))
    (hA : ∀ h2, A h2 → ∃ t p ca cb st, h2.get s.h.next = some (.loop t p ca cb st) ∧ (st = .ready ∨ ∃ c, st = .done c) ∧ jumpQ Q ⟨s.ts, (h2.put s.h.next (.loop t p ca cb .gone)).drop s.h.next⟩ st.jump) : Gets P h0 (.rangeFunc g ps asg bd) s Q := by
  intro ρ0 w0 a w ρ t
  refine wpIn_mono (range_rel hg hv hf hdo hA (ρ00 := ρ) (h00 := s.h) (w00 := w) (a00 := w0.heap.size) ⟨t.rt, Step.refl t.sim, t.df⟩) ?_
  rintro e a' w' ⟨x, s', rfl, hq, ρ', i⟩
  exact ⟨x, s', ρ', rfl, hq, t.step i⟩
end
end Go.Eng
namespace Go.Eng
set_option linter.unusedVariables false
set_option linter.unusedSimpArgs false
set_option linter.unusedSectionVars false
open Go
set_option linter.unusedVariables false
set_option linter.unusedSimpArgs false
def RowAt (W : World) (b pre : Nat) (vals : List Value) (e : TypeId) : Prop :=
  ∃ cs fr, W.heap[b]? = some (.cells cs e fr) ∧ pre ≤ cs.size ∧ ∀ i v, vals[i]? = some v → cs[pre + i]? = some v
theorem RowAt.robj {P : Program} [ObjSem P] {W : World} {b pre : Nat} {vals : List Value} {e : TypeId} (h : RowAt W b pre vals e) (hp : ∀ v ∈ vals, Eng.plain v = true) {o : AObj} (ho : o = .cells (List.replicate pre DC ++ vals) e false) :
    ∃ o', W.heap[b]? = some o' ∧ ∀ ρ, RObj P ρ 0 o o' := by
  subst ho
  obtain ⟨cs, fr, hw, hsz, hc⟩ := h
  refine ⟨_, hw, fun ρ => ⟨rfl, fun i v hv => ?_, by simp, fun h => by cases h⟩⟩
  rw [Array.getElem?_toList]
  by_cases hi : i < pre
  · rw [List.getElem?_append_left (by simpa using hi), List.getElem?_replicate, if_pos hi] at hv
    cases hv
    exact ⟨cs[i]'(by omega), by simp, .any _⟩
  · rw [List.getElem?_append_right (by simp; omega), List.length_replicate] at hv
    have := hc (i - pre) v hv
    rw [show pre + (i - pre) = i by omega] at this
    exact ⟨_, this, .of_plain (hp v (List.mem_of_getElem? hv))⟩
theorem cells_rowV {W : World} {a : Addr} {vals : List Value} (hz : 0 < vals.length) (hc : ∀ i v, vals[i]? = some v → W.cell? (a.add i) = some v) : a.spot = Option.none ∧ ∃ e, RowAt W a.block a.off vals e := by
  obtain ⟨b, off, spot⟩ := a
  have hv0 : vals[0]? = some (vals[0]'hz) := by simp
  cases spot with
  | some sp =>
    exfalso
    have := hc 0 _ hv0
    unfold World.cell? at this
    split at this
    · simp [Addr.add] at this
    · cases this
  | none =>
    refine ⟨rfl, ?_⟩
    have h0 := hc 0 _ hv0
    rw [add_at0] at h0
    unfold World.cell? at h0
    split at h0
    · rename_i cs e fr hw
      have key : ∀ i v, vals[i]? = some v → cs[off + i]? = some v := by
        intro i v hv
        have h1 := hc i v hv
        rw [add_at0] at h1
        unfold World.cell? at h1
        rw [hw] at h1
        simpa using h1
      exact ⟨e, cs, fr, hw, by have := (Array.getElem?_eq_some_iff.1 (key 0 _ hv0)).1; show off ≤ _; omega, key⟩
    · cases h0
theorem RowAt.empty {W : World} {b : Nat} {cs : Array Value} {e : TypeId} {fr : Nat × Nat} (h : W.heap[b]? = some (.cells cs e fr)) : RowAt W b 0 [] e := ⟨cs, fr, h, Nat.zero_le _, fun i v hv => by simp at hv⟩
theorem row_open {P : Program} [ObjSem P] {W : World} {v : Value} {k : IntKind} {b0 : Nat} (hfb : ∃ cs e fr, W.heap[b0]? = some (.cells cs e fr))
    (o : (∃ x, v = .slice x 0 0) ∨ ∃ (a : Addr) (len cap : Nat) (zs : List Int), v = .slice (some a) len cap ∧ 0 < cap ∧ len ≤ cap ∧ cap ≤ maxLen ∧ zs.length = cap ∧ (∀ i, i < zs.length → W.cell? (a.add i) = some (.int k (zs.getD i 0))) ∧ ∀ n ∈ zs, (Lit.int k n).wf = true) :
    ∃ (b off len cap : Nat) (zs : List Int) (e : TypeId), RowAt W b off (zs.map (.int k)) e ∧ zs.length = cap ∧ len ≤ cap ∧ cap ≤ maxLen ∧ (∀ n ∈ zs, (Lit.int k n).wf = true) ∧ ∀ (ρ : Rho) x, ρ x = some (b, 0) → R ρ (.slice (some ⟨x, off, none⟩) len cap) v := by
  rcases o with ⟨x, rfl⟩ | ⟨a, len, cap, zs, rfl, h0, hle, hmx, hz, hcell, hwf⟩
  · obtain ⟨cs, e, fr, hw⟩ := hfb
    exact ⟨b0, 0, 0, 0, [], e, RowAt.empty hw, rfl, Nat.le_refl _, Nat.zero_le _, fun n h => by simp at h, fun ρ y _ => .slice00 _ _ _⟩
  · obtain ⟨hs, e, hr⟩ := cells_rowV (W := W) (a := a) (vals := zs.map (.int k)) (by simp; omega) (fun i v hv => by
      rw [List.getElem?_map] at hv
      cases hq : zs[i]? with
      | none => rw [hq] at hv; cases hv
      | some n =>
        rw [hq] at hv; cases hv
        have := hcell i (List.getElem?_eq_some_iff.1 hq).1
        rw [this, List.getD_eq_getElem?_getD, hq]; rfl)
    obtain ⟨blk, off, spot⟩ := a
    simp only at hs; subst hs
    exact ⟨blk, off, len, cap, zs, e, hr, hz, hle, hmx, hwf, fun ρ x h => R.slice_row h⟩
theorem Sim.rows {P : Program} [ObjSem P] (W : World) (rs : List (Nat × KObj)) (hglob : ∀ g, g < P.globals.size → (rs.map fun r => some r.1)[g]? = some (some g))
    (h : ∀ r ∈ rs, r.2.low.rw = false ∧ ∃ o', W.heap[r.1]? = some o' ∧ ∀ ρ, RObj P ρ 0 r.2.low o') : Sim P (argRho (rs.map fun r => some r.1)) (mkH (rs.map Prod.snd)).low W := by
  refine Sim.argsG W _ _ hglob ?_ (fun b hb => ?_) (fun x o hx => ?_)
  · show (rs.map Prod.snd).length = _
    simp
  · obtain ⟨r, hr, e⟩ := List.mem_map.1 hb
    cases e
    obtain ⟨_, o', h1, _⟩ := h r hr
    exact (Array.getElem?_eq_some_iff.1 h1).1
  · obtain ⟨q, h1, rfl⟩ := mkH_inv hx
    rw [List.getElem?_map] at h1
    cases hq : rs[x]? with
    | none => rw [hq] at h1; cases h1
    | some r =>
      rw [hq] at h1; cases h1
      obtain ⟨h2, o', h3, h4⟩ := h r (List.mem_of_getElem? hq)
      exact ⟨h2, r.1, o', by rw [List.getElem?_map, hq]; rfl, h3, h4 _⟩
theorem Ro.rows {bs : List KObj} (h : bs.all (fun o => !o.low.rw) = true) : Ro (mkH bs).low := by
  intro a o ho
  obtain ⟨q, h1, rfl⟩ := mkH_inv ho
  have := List.all_eq_true.1 h q (List.mem_of_getElem? h1)
  simpa using this
end Go.Eng
namespace Go.Eng
set_option linter.unusedVariables false
set_option linter.unusedSimpArgs false
set_option linter.unusedSectionVars false
open Go
set_option linter.unusedVariables false
set_option linter.unusedSimpArgs false
section
variable {P : Program} [ObjSem P]
theorem varB_ro {vs : Vars} {vb : List KObj} (h : VarB vs vb) (a : Nat) (q : KObj) (hq : vb[a]? = some q) : q.low.rw = false := by
  obtain ⟨k, zs, e, rfl⟩ := varB_get h a q hq; rfl
def sigQ (q N : Nat) : Nat → Option Nat := fun a => match Nat.beq a q with
  | true => some N
  | false => none
theorem sigQ_some {q N a x : Nat} (h : sigQ q N a = some x) : a = q ∧ x = N := by
  unfold sigQ at h
  split at h
  · rename_i hb; cases h; exact ⟨beq_true hb, rfl⟩
  · cases h
def InertO (o : AObj) : Prop := ∃ c e rw, o = .cells c e rw ∧ ∀ v ∈ c, plain1 v = true ∨ v = DC
theorem InertO.ints (k : IntKind) (l : List Int) (e : TypeId) (rw : Bool) : InertO (KObj.ints k l e rw).low := ⟨_, _, _, rfl, fun v hv => by
  obtain ⟨n, _, rfl⟩ := List.mem_map.1 hv; exact .inl rfl⟩
theorem InertO.tail (pre : Nat) (k : IntKind) (l : List Int) (e : TypeId) : InertO (KObj.tail pre k l e).low := ⟨_, _, _, rfl, fun v hv => by
  rcases List.mem_append.1 hv with h | h
  · exact .inr (List.mem_replicate.1 h).2
  · obtain ⟨n, _, rfl⟩ := List.mem_map.1 h; exact .inl rfl⟩
theorem InertO.var (k : IntKind) (zs : List Int) (e : TypeId) (rw : Bool) : InertO (KObj.cells (intCells k zs) e rw).low := ⟨_, _, _, rfl, fun v hv => by
  unfold intCells at hv
  obtain ⟨n, _, rfl⟩ := List.mem_map.1 hv; exact .inl rfl⟩
theorem InertO.mono {ρ ρ' : Rho} {l : Nat} {o : AObj} {o' : Obj} (h : InertO o) (r : RObj P ρ l o o') : RObj P ρ' l o o' := by
  obtain ⟨c, e, rw, rfl, hc⟩ := h
  cases o' <;> simp only [RObj] at r ⊢
  refine ⟨r.1, fun i v hv => ?_, r.2.2⟩
  obtain ⟨v', e1, r1⟩ := r.2.1 i v hv
  exact ⟨v', e1, r1.inert (hc v (List.mem_of_getElem? hv))⟩
def liveAll (h : KH) : Nat → Bool
  | 0 => true
  | n + 1 => (h.get n).isSome && liveAll h n
theorem liveAll_get {h : KH} : ∀ {n a : Nat}, liveAll h n = true → a < n → h.low.get a ≠ none
  | n + 1, a, hl, ha => by
    simp only [liveAll, Bool.and_eq_true] at hl
    by_cases e : a = n
    · subst e
      obtain ⟨o, ho⟩ := Option.isSome_iff_exists.1 hl.1
      rw [low_getK ho]; simp
    · exact liveAll_get hl.2 (by omega)
theorem DoesC.machN {vs : Vars} {vb : List KObj} (hg : P.globals.size = vs.length) (hvb : VarB vs vb) {f : FuncId} {args : List Value} {m m' : MSt} {v v0 : Value} {q : Nat} {ob : KObj} (hargs : args.all (argG vs.length) = true) (hv : renV (sigQ q (vs.length + 1)) 5 v = v0) (hob : InertO ob.low) (hobw : ob.rw = true)
    (key : ∀ (w : World) (b : Nat) (F : Nat → Prop), ObjSem.At P m w b F → F b → (∀ x, F x → ∃ o', w.heap[x]? = some o' ∧ nd o') →
      ∃ (os : List KObj) (h' : AH) (F' : Nat → Prop), (∀ o ∈ os, o.rw = true) ∧ Opens P vs.length os w b F' ∧ (∀ x, F' x → F x) ∧ DoesC P f args (mkH (vb ++ os)).low v h' ∧ h'.get q = some ob.low ∧ (vb ++ os).length ≤ q ∧ (∀ a, a < (vb ++ os).length → h'.get a ≠ none) ∧
        ∀ (ρ' : Rho) (w' : World) (l : Nat), Sim P ρ' h' w' → w.heap.size ≤ w'.heap.size → ρ' vs.length = some (b, l) → (∀ x, F x → ¬ F' x → w'.heap[x]? = w.heap[x]?) →
          (∀ a x, h'.get a ≠ none → ρ'.φ a x → F' x ∨ w.heap.size ≤ x) → ∃ F'', ObjSem.At P m' w' b F'' ∧ F'' b ∧ (∀ x, F'' x → (∃ o', w'.heap[x]? = some o' ∧ nd o') ∧ (F x ∨ w.heap.size ≤ x) ∧ ¬ ρ'.φ q x)) :
    DoesC P f args (mkH (vb ++ [.mach m])).low v0 (effK (mkH (vb ++ [.mach m])) [(vs.length, .mach m')] [ob]).low := by
  intro ρ w args' ha hs
  have hlen := hvb.length
  have hmg : (mkH (vb ++ [KObj.mach m])).low.get vs.length = some (.mach m) := by
    rw [low_get, mkH_get (o := .mach m) (by rw [List.getElem?_append_right (by omega), hlen]; simp)]; rfl
  have hml : (mkH (vb ++ [KObj.mach m])).low.get vs.length ≠ none := by rw [hmg]; simp
  obtain ⟨b, l, o', hb, hw, hr⟩ := hs.blk _ _ hmg
  have hat := hs.ow.mach _ m b l hmg hb
  obtain ⟨os, h', F', hrw, hop, hF', hd, hq, hqn, hall, hcl⟩ := key w b _ hat (hs.ow.own _ _ b l hmg rfl hb) (fun x hx => hs.ow.lt _ x hml hx)
  obtain ⟨ρo, so, hlo, ⟨l0, hro⟩, hof, hfo⟩ := opened_sim hg hvb hs hop hF' hrw
  refine (hd ρo w args' (argsG_rl hb hro hargs ha) so).mono ?_
  rintro e w' ⟨ρ', v', rfl, hR, st⟩
  have hkeep : ∀ x, x < w.heap.size → ¬ F' x → w'.heap[x]? = w.heap[x]? := fun x hx hn => st.keep x hx fun a h1 h2 => hn (hof a x h1 h2)
  have hsz : ∀ x, ρ.φ vs.length x → x < w.heap.size := fun x hx => hs.ow.size hml hx
  have hown : ∀ a x, h'.get a ≠ none → ρ'.φ a x → F' x ∨ w.heap.size ≤ x := fun a x h1 h2 => by
    rcases Nat.lt_or_ge x w.heap.size with hx | hx
    · obtain ⟨a0, g1, g2⟩ := st.imf a x h1 h2 hx
      exact .inl (hof a0 x g1 g2)
    · exact .inr hx
  obtain ⟨F'', hat', hbF, hF''⟩ := hcl ρ' w' l0 st.sim st.size (st.ext _ _ hro) (fun x hx hn => hkeep x (hsz x hx) hn) hown
  have hN : (mkH (vb ++ [KObj.mach m])).low.next = vs.length + 1 := by
    show (vb ++ [KObj.mach m]).length = _
    rw [List.length_append, hlen]; rfl
  have hql : h'.get q ≠ none := by rw [hq]; simp
  obtain ⟨bq, lq, oq, hbq, hwq, hrq⟩ := st.sim.blk q _ hq
  have hqφ := st.sim.ow.own q _ bq lq hq (by rw [KObj.rw_low]; exact hobw) hbq
  obtain ⟨ρ2, h2f, h2φ⟩ : ∃ ρ2 : Rho, (ρ2.f = fun a => if a = vs.length + 1 then ρ' q else ρ a) ∧ ρ2.φ = fun a x => if a = vs.length then F'' x else if a = vs.length + 1 then ρ'.φ q x else ρ.φ a x :=
    ⟨⟨fun a => if a = vs.length + 1 then ρ' q else ρ a, fun a x => if a = vs.length then F'' x else if a = vs.length + 1 then ρ'.φ q x else ρ.φ a x⟩, rfl, rfl⟩
  have h2 : ∀ a, a ≠ vs.length + 1 → ρ2 a = ρ a := fun a ha => by rw [h2f]; simp [ha]
  have h2N : ρ2 (vs.length + 1) = ρ' q := by rw [h2f]; simp
  have heff : (effK (mkH (vb ++ [KObj.mach m])) [(vs.length, .mach m')] [ob]).low = (((mkH (vb ++ [KObj.mach m])).low).put vs.length (.mach m')).new ob.low := by rw [effK_low]; rfl
  have hnp : (((mkH (vb ++ [KObj.mach m])).low).put vs.length (.mach m')).next = vs.length + 1 := hN
  have hgN : (effK (mkH (vb ++ [KObj.mach m])) [(vs.length, .mach m')] [ob]).low.get (vs.length + 1) = some ob.low := by rw [heff, ← hnp]; exact AH.get_new_same
  have hgs : (effK (mkH (vb ++ [KObj.mach m])) [(vs.length, .mach m')] [ob]).low.get vs.length = some (.mach m') := by
    rw [heff, AH.get_new_ne (by rw [hnp]; omega)]; exact AH.get_put_same hmg
  have hgn : ∀ a, a ≠ vs.length → a ≠ vs.length + 1 → (effK (mkH (vb ++ [KObj.mach m])) [(vs.length, .mach m')] [ob]).low.get a = (mkH (vb ++ [KObj.mach m])).low.get a := fun a ha hb => by
    rw [heff, AH.get_new_ne (by rw [hnp]; exact hb)]; exact AH.get_put_ne ha
  have hnx : (effK (mkH (vb ++ [KObj.mach m])) [(vs.length, .mach m')] [ob]).low.next = vs.length + 2 := by rw [heff]; show (((mkH (vb ++ [KObj.mach m])).low).put vs.length (.mach m')).next + 1 = _; rw [hnp]
  have hlv : ∀ a, a ≠ vs.length + 1 → (effK (mkH (vb ++ [KObj.mach m])) [(vs.length, .mach m')] [ob]).low.get a ≠ none → (mkH (vb ++ [KObj.mach m])).low.get a ≠ none := fun a hb ha => by
    by_cases e : a = vs.length
    · rw [e]; exact hml
    · rw [← hgn a e hb]; exact ha
  have hvar : ∀ a o, a ≠ vs.length → (mkH (vb ++ [KObj.mach m])).low.get a = some o → o.rw = false := by
    intro a o ha hg'
    obtain ⟨q, hq, rfl⟩ := mkH_inv hg'
    have hlt : a < vb.length := by
      have := (List.getElem?_eq_some_iff.1 hq).1
      simp at this; omega
    rw [List.getElem?_append_left hlt] at hq
    exact varB_ro hvb a q hq
  have hφs : ∀ x, ρ2.φ vs.length x ↔ F'' x := fun x => by rw [h2φ]; simp
  have hφN : ∀ x, ρ2.φ (vs.length + 1) x ↔ ρ'.φ q x := fun x => by rw [h2φ]; simp
  have hφn : ∀ a x, a ≠ vs.length → a ≠ vs.length + 1 → (mkH (vb ++ [KObj.mach m])).low.get a ≠ none → ¬ ρ2.φ a x := fun a x ha hb hl h => by
    rw [h2φ] at h; simp only [if_neg ha, if_neg hb] at h
    obtain ⟨o, ho⟩ := Option.ne_none_iff_exists'.1 hl
    exact hs.ow.ro a o x ho (hvar a o ha ho) h
  have hother : ∀ a x j, a ≠ vs.length → ρ'.φ q x → (mkH (vb ++ [KObj.mach m])).low.get a ≠ none → ρ a = some (x, j) → False := fun a x j ha hx hl hr => by
    rcases hown q x hql hx with h6 | h6
    · exact ha (hs.ow.sep vs.length a x hml hl (hF' x h6) (.inr ⟨j, hr⟩)).symm
    · have := (hs.lt a x j hr).2; omega
  refine ⟨ρ2, v', rfl, ?_, fun a p hp => by rw [h2 a (by have := (hs.lt a p.1 p.2 hp).1; rw [hN] at this; omega)]; exact hp, ⟨?_, ?_, ⟨?_, ?_, ?_, ?_, ?_⟩, ?_⟩, ?_, st.os, st.tape, st.output, st.size, ?_, ?_, ?_⟩
  · rw [← hv]
    refine renV_r (fun a x p h1 h3 => ?_) 5 _ _ hR
    obtain ⟨rfl, rfl⟩ := sigQ_some h1
    rw [h2N]; exact h3
  · intro a o ho
    by_cases e : a = vs.length
    · subst e
      rw [hgs] at ho; cases ho
      obtain ⟨o2, g1, g2⟩ := (hF'' b hbF).1
      exact ⟨b, l, o2, by rw [h2 _ (by omega)]; exact hb, g1, g2⟩
    · by_cases e2 : a = vs.length + 1
      · subst e2
        rw [hgN] at ho; cases ho
        exact ⟨bq, lq, oq, by rw [h2N]; exact hbq, hwq, hob.mono hrq⟩
      · rw [hgn a e e2] at ho
        obtain ⟨x, k, q', g1, g2, g3⟩ := hs.blk a o ho
        refine ⟨x, k, q', by rw [h2 a e2]; exact g1, ?_, ?_⟩
        · rw [hkeep x (hs.lt a x k g1).2 fun hx => e (hs.ow.sep vs.length a x hml (by rw [ho]; simp) (hF' x hx) (.inr ⟨k, g1⟩)).symm]
          exact g2
        · obtain ⟨y, hy, rfl⟩ := mkH_inv ho
          have hlt : a < vb.length := by
            have := (List.getElem?_eq_some_iff.1 hy).1
            simp at this; omega
          rw [List.getElem?_append_left hlt] at hy
          obtain ⟨k', zs, e', rfl⟩ := varB_get hvb a y hy
          exact (InertO.var _ _ _ _).mono g3
  · intro a x k ha
    by_cases e2 : a = vs.length + 1
    · subst e2
      rw [h2N] at ha
      exact ⟨by rw [hnx]; omega, (st.sim.lt q x k ha).2⟩
    · rw [h2 a e2] at ha
      have := hs.lt a x k ha
      rw [hN] at this
      exact ⟨by rw [hnx]; omega, Nat.lt_of_lt_of_le this.2 st.size⟩
  · intro a a' x h1 h3 h4 h5
    by_cases e : a = vs.length
    · subst e
      rw [hφs] at h4
      by_cases e' : a' = vs.length
      · exact e'.symm
      · exfalso
        by_cases e2 : a' = vs.length + 1
        · subst e2
          have hnq := (hF'' x h4).2.2
          rcases h5 with h5 | ⟨k, h5⟩
          · rw [hφN] at h5; exact hnq h5
          · rw [h2N, hbq] at h5; cases h5; exact hnq hqφ
        · rcases h5 with h5 | ⟨k, h5⟩
          · exact hφn a' x e' e2 (hlv a' e2 h3) h5
          · rw [h2 a' e2] at h5
            rcases (hF'' x h4).2.1 with h6 | h6
            · exact e' (hs.ow.sep vs.length a' x hml (hlv a' e2 h3) h6 (.inr ⟨k, h5⟩)).symm
            · have := (hs.lt a' x k h5).2; omega
    · by_cases e2 : a = vs.length + 1
      · subst e2
        rw [hφN] at h4
        by_cases e' : a' = vs.length + 1
        · exact e'.symm
        · exfalso
          by_cases e3 : a' = vs.length
          · subst e3
            rcases h5 with h5 | ⟨k, h5⟩
            · rw [hφs] at h5; exact (hF'' x h5).2.2 h4
            · rw [h2 _ (by omega), hb] at h5; cases h5; exact (hF'' _ hbF).2.2 h4
          · rcases h5 with h5 | ⟨k, h5⟩
            · exact hφn a' x e3 e' (hlv a' e' h3) h5
            · rw [h2 a' e'] at h5
              exact hother a' x k e3 h4 (hlv a' e' h3) h5
      · exact absurd h4 (hφn a x e e2 (hlv a e2 h1))
  · intro a o x k h1 h3 h4
    by_cases e : a = vs.length
    · subst e
      rw [h2 _ (by omega), hb] at h4; cases h4
      rw [hφs]; exact hbF
    · by_cases e2 : a = vs.length + 1
      · subst e2
        rw [h2N, hbq] at h4; cases h4
        rw [hφN]; exact hqφ
      · rw [hgn a e e2] at h1
        rw [hvar a o e h1] at h3; cases h3
  · intro a o x h1 h3 h4
    by_cases e : a = vs.length
    · subst e; rw [hgs] at h1; cases h1; cases h3
    · by_cases e2 : a = vs.length + 1
      · subst e2; rw [hgN] at h1; cases h1; rw [KObj.rw_low, hobw] at h3; cases h3
      · exact hφn a x e e2 (hlv a e2 (by rw [h1]; simp)) h4
  · intro a x h1 h3
    by_cases e : a = vs.length
    · subst e; rw [hφs] at h3; exact (hF'' x h3).1
    · by_cases e2 : a = vs.length + 1
      · subst e2; rw [hφN] at h3; exact st.sim.ow.lt q x hql h3
      · exact absurd h3 (hφn a x e e2 (hlv a e2 h1))
  · intro a q' x k h1 h3
    by_cases e : a = vs.length
    · subst e; rw [hgs] at h1; cases h1
      rw [h2 _ (by omega), hb] at h3; cases h3
      have : ρ2.φ vs.length = F'' := funext fun y => propext (hφs y)
      rw [this]; exact hat'
    · by_cases e2 : a = vs.length + 1
      · subst e2; rw [hgN] at h1
        obtain ⟨c, e', rw', ho, _⟩ := hob
        rw [ho] at h1; cases h1
      · rw [hgn a e e2] at h1
        have := hvar a _ e h1; cases this
  · intro g' hg'
    obtain ⟨k, hk⟩ := hs.glob g' hg'
    exact ⟨k, by rw [h2 g' (by omega)]; exact hk⟩
  · rw [heff]; exact (Grow.put _ _ _ rfl).trans (Grow.new _ _)
  · intro x hx hn
    exact hkeep x hx fun h => hn vs.length hml (hF' x h)
  · intro a o x k h1 h3 hx
    by_cases e : a = vs.length
    · subst e; rw [h2 _ (by omega)] at h3; exact ⟨_, _, k, hmg, h3, fun _ => rfl⟩
    · by_cases e2 : a = vs.length + 1
      · subst e2
        rw [h2N, hbq] at h3; cases h3
        obtain ⟨a0, o0, l0', k1, k2, _⟩ := st.img q _ _ _ hq hbq hx
        obtain ⟨y, hy, _⟩ := mkH_inv k1
        have hlt := (List.getElem?_eq_some_iff.1 hy).1
        have := st.sim.ow.sep q a0 _ hql (hall a0 hlt) hqφ (.inr ⟨l0', st.ext _ _ k2⟩)
        omega
      · rw [hgn a e e2] at h1; rw [h2 a e2] at h3; exact ⟨a, o, k, h1, h3, id⟩
  · intro a x h1 h3 hx
    by_cases e : a = vs.length
    · subst e; rw [hφs] at h3
      rcases (hF'' x h3).2.1 with h6 | h6
      · exact ⟨_, hml, h6⟩
      · omega
    · by_cases e2 : a = vs.length + 1
      · subst e2; rw [hφN] at h3
        rcases hown q x hql h3 with h6 | h6
        · exact ⟨_, hml, hF' x h6⟩
        · omega
      · exact absurd h3 (hφn a x e e2 (hlv a e2 h1))
theorem mach_news {vs : Vars} {vb : List KObj} (hg : P.globals.size = vs.length) (hvb : VarB vs vb) {f : FuncId} {args : List Value} {m m' : MSt} {os os' : List KObj} {v v0 : Value} {h' : KH} (q : Nat) {ob : KObj} (hm : IsM P vs.length m os) (hm' : IsM P vs.length m' os')
    (hd : DoesC P f args (mkH (vb ++ os)).low v h'.low) (r : List Nat) (hsh : shutK vs.length h' (vs.length :: r) (vs.length :: r) = os'.map some) (hq : h'.get q = some ob) (hob : InertO ob.low) (hobw : ob.rw = true) (hqn : Nat.ble (vb ++ os).length q = true) (hall : liveAll h' (vb ++ os).length = true) (hqr : memN q (vs.length :: r) = false)
    (hrw : os.all KObj.rw = true := by kernel_rfl) (hrw' : os'.all KObj.rw = true := by kernel_rfl) (hnd : nodupN (vs.length :: r) = true := by kernel_rfl)
    (hargs : args.all (argG vs.length) = true := by kernel_rfl) (hv : renV (sigQ q (vs.length + 1)) 5 v = v0 := by kernel_rfl) : DoesC P f args (mkH (vb ++ [.mach m])).low v0 (effK (mkH (vb ++ [.mach m])) [(vs.length, .mach m')] [ob]).low := by
  refine DoesC.machN hg hvb hargs hv hob hobw fun w b F hat hbF hF => ?_
  refine ⟨os, h'.low, F, fun o ho => List.all_eq_true.1 hrw o ho, (hm w b F).1 hat, fun x h => h, hd, low_getK hq, Nat.le_of_ble_eq_true hqn, fun a ha => liveAll_get hall ha, fun ρ' w' l hs hsz hb hk hown => ?_⟩
  obtain ⟨bs, φs, op, hbs⟩ := OpensB.shut hs vs.length (vs.length :: r) os' hnd hsh hrw'
  have h0 := hbs 0 vs.length rfl
  refine ⟨_, (hm' w' b _).2 ⟨bs, φs, l, op, by rw [h0.1]; exact hb⟩, ?_, fun x hx => ?_⟩
  · obtain ⟨x, l', o', g1, _, _, g4, _⟩ := op.obj 0 (os'[0]'(by rw [← op.len]; exact (List.getElem?_eq_some_iff.1 (by rw [h0.1]; exact hb)).1)) (by simp)
    rw [h0.1, hb] at g1; cases g1
    exact (op.own 0 b (by rw [← op.len]; exact (List.getElem?_eq_some_iff.1 (by rw [h0.1]; exact hb)).1) g4).1
  · obtain ⟨i, hi, hx2⟩ := op.all x hx
    obtain ⟨a, ha, hx3⟩ := hx
    have hal : h'.low.get a ≠ none := by
      have hlen : (vs.length :: r).length = os'.length := by
        have := congrArg List.length hsh
        rw [shutK_length, List.length_map] at this; exact this
      obtain ⟨j, hj, rfl⟩ := List.mem_iff_getElem.1 ha
      have h1 := shutK_get (g := vs.length) (h := h') (ren := vs.length :: r) (vs.length :: r) j _ (List.getElem?_eq_some_iff.2 ⟨hj, rfl⟩)
      rw [hsh, List.getElem?_map] at h1
      cases hq : h'.get ((vs.length :: r)[j]) with
      | none =>
        rw [hq] at h1
        have : os'[j]? = some (os'[j]'(by omega)) := by simp [hlen ▸ hj]
        rw [this] at h1; cases h1
      | some o => rw [low_getK hq]; simp
    refine ⟨(op.own i x hi hx2).2, hown a x hal hx3, fun hqx => ?_⟩
    have := hs.ow.sep a q x hal (by rw [low_getK hq]; simp) hx3 (.inl hqx)
    subst this
    have := memN_iff.2 ha
    rw [hqr] at this; cases this
theorem DoesC.madeX {vb : List KObj} (hg : P.globals.size ≤ vb.length) (hin : ∀ (a : Nat) (q : KObj), vb[a]? = some q → InertO q.low ∧ q.low.rw = false) {f : FuncId} {args : List Value} {h' : KH} {r : Nat} {m : MSt} (hd : DoesC P f args (mkH vb).low (.pointer (some ⟨r, 0, none⟩)) h'.low)
    (hold : ∀ a o, vb[a]? = some o → h'.get a = some o)
    (hcl : ∀ (ρ' : Rho) (w' : World) (b l : Nat), Sim P ρ' h'.low w' → ρ' r = some (b, l) → ∃ F, ObjSem.At P m w' b F ∧ F b ∧ ∀ x, F x → (∃ o', w'.heap[x]? = some o' ∧ nd o') ∧ ∃ a, vb.length ≤ a ∧ h'.low.get a ≠ none ∧ ρ'.φ a x) :
    DoesC P f args (mkH vb).low (.pointer (some ⟨vb.length, 0, none⟩)) (effK (mkH vb) [] [.mach m]).low := by
  intro ρ w args' ha hs
  refine (hd ρ w args' ha hs).mono ?_
  rintro e w' ⟨ρ', v', rfl, hR, st⟩
  cases hR with
  | ptr off hrb =>
    rename_i b l
    obtain ⟨F, hat, hFb, hF⟩ := hcl ρ' w' b l st.sim hrb
    have hget : ∀ a o, (mkH vb).low.get a = some o → a < vb.length ∧ o.rw = false ∧ h'.low.get a = some o ∧ InertO o := by
      intro a o h
      obtain ⟨q, hq, rfl⟩ := mkH_inv h
      exact ⟨(List.getElem?_eq_some_iff.1 hq).1, (hin a q hq).2, low_getK (hold a _ hq), (hin a q hq).1⟩
    have hnot : ∀ a x, (mkH vb).low.get a ≠ none → ¬ ρ.φ a x := fun a x h1 h2 => by
      obtain ⟨o, h1⟩ := Option.ne_none_iff_exists'.1 h1
      exact hs.ow.ro a o x h1 (hget a o h1).2.1 h2
    have hnew : ∀ x, F x → w.heap.size ≤ x := fun x hx => by
      obtain ⟨_, a, _, h2, h3⟩ := hF x hx
      rcases Nat.lt_or_ge x w.heap.size with h | h
      · obtain ⟨a0, g1, g2⟩ := st.imf a x h2 h3 h
        exact absurd g2 (hnot a0 x g1)
      · exact h
    have hnx : (mkH vb).low.next = vb.length := rfl
    obtain ⟨ρ2, h2f, h2φ⟩ : ∃ ρ2 : Rho, (ρ2.f = fun a => if a < vb.length then ρ' a else if a = vb.length then some (b, l) else none) ∧ (ρ2.φ = fun a x => a = vb.length ∧ F x) :=
      ⟨⟨fun a => if a < vb.length then ρ' a else if a = vb.length then some (b, l) else none, fun a x => a = vb.length ∧ F x⟩, rfl, rfl⟩
    have hlo : ∀ a, a < vb.length → ρ2 a = ρ' a := fun a ha => by rw [h2f]; simp [ha]
    have hro : ρ2 vb.length = some (b, l) := by rw [h2f]; simp
    have heff : (effK (mkH vb) [] [.mach m]).low = ((mkH vb).low).new (.mach m) := by rw [effK_low]; rfl
    have hgs : (effK (mkH vb) [] [.mach m]).low.get vb.length = some (.mach m) := by rw [heff, ← hnx]; exact AH.get_new_same
    have hgn : ∀ a, a ≠ vb.length → (effK (mkH vb) [] [.mach m]).low.get a = (mkH vb).low.get a := fun a ha => by rw [heff]; exact AH.get_new_ne (by rw [hnx]; exact ha)
    refine ⟨ρ2, _, rfl, .ptr 0 hro, fun a p hp => ?_, ⟨?_, ?_, ⟨?_, ?_, ?_, ?_, ?_⟩, ?_⟩, ?_, st.os, st.tape, st.output, st.size, ?_, ?_, ?_⟩
    · have := (hs.lt a p.1 p.2 hp).1
      rw [hlo a (by rw [← hnx]; exact this)]; exact st.ext a p hp
    · intro a o h
      by_cases e : a = vb.length
      · subst e; rw [hgs] at h; cases h
        obtain ⟨o', g1, g2⟩ := (hF b hFb).1
        exact ⟨b, l, o', hro, g1, g2⟩
      · rw [hgn a e] at h
        obtain ⟨h1, _, h3, hi⟩ := hget a o h
        obtain ⟨x, j, o', g1, g2, g3⟩ := st.sim.blk a _ h3
        exact ⟨x, j, o', by rw [hlo a h1]; exact g1, g2, hi.mono g3⟩
    · intro a x j hr
      rw [heff]
      show a < (mkH vb).low.next + 1 ∧ _
      rw [hnx]
      by_cases e : a < vb.length
      · rw [hlo a e] at hr; exact ⟨by omega, (st.sim.lt a x j hr).2⟩
      · by_cases e2 : a = vb.length
        · subst e2; rw [hro] at hr; cases hr
          obtain ⟨o', g1, _⟩ := (hF b hFb).1
          exact ⟨by omega, (Array.getElem?_eq_some_iff.1 g1).1⟩
        · rw [h2f] at hr; simp [e, e2] at hr
    · intro a a' x h1 h2 h3 h4
      rw [h2φ] at h3
      obtain ⟨rfl, h3⟩ := h3
      by_cases e : a' = vb.length
      · exact e.symm
      · exfalso
        rw [hgn a' e] at h2
        obtain ⟨o, h2⟩ := Option.ne_none_iff_exists'.1 h2
        obtain ⟨g1, g2, g3, _⟩ := hget a' o h2
        rcases h4 with h4 | ⟨j, h4⟩
        · rw [h2φ] at h4; exact e h4.1
        · rw [hlo a' g1] at h4
          obtain ⟨x0, j0, o0, k1, _⟩ := hs.blk a' o h2
          have := st.ext _ _ k1
          rw [h4] at this; cases this
          have := (hs.lt a' x _ k1).2
          have := hnew x h3
          omega
    · intro a o x j h1 h2 h3
      by_cases e : a = vb.length
      · subst e; rw [hro] at h3; cases h3
        rw [h2φ]; exact ⟨rfl, hFb⟩
      · rw [hgn a e] at h1
        rw [(hget a o h1).2.1] at h2; cases h2
    · intro a o x h1 h2 h3
      rw [h2φ] at h3
      obtain ⟨rfl, _⟩ := h3
      rw [hgs] at h1; cases h1; cases h2
    · intro a x h1 h2
      rw [h2φ] at h2
      exact (hF x h2.2).1
    · intro a q x j h1 h3
      by_cases e : a = vb.length
      · subst e; rw [hgs] at h1; cases h1
        rw [hro] at h3; cases h3
        have : ρ2.φ vb.length = F := funext fun y => propext (by rw [h2φ]; simp)
        rw [this]; exact hat
      · rw [hgn a e] at h1
        have := (hget a _ h1).2.1; cases this
    · intro g' hg'
      obtain ⟨k, hk⟩ := st.sim.glob g' hg'
      exact ⟨k, by rw [hlo g' (by omega)]; exact hk⟩
    · rw [heff]; exact Grow.new _ _
    · intro x hx hn
      exact st.keep x hx hn
    · intro a o x j h1 h3 hx
      by_cases e : a = vb.length
      · subst e; rw [hro] at h3; cases h3
        have := hnew b hFb; omega
      · rw [hgn a e] at h1
        obtain ⟨g1, _, g3, _⟩ := hget a o h1
        rw [hlo a g1] at h3
        exact st.img a o x j g3 h3 hx
    · intro a x h1 h3 hx
      rw [h2φ] at h3
      have := hnew x h3.2; omega
theorem mach_madeX {g : Nat} {vb : List KObj} (hg : P.globals.size ≤ vb.length) (hin : ∀ (a : Nat) (q : KObj), vb[a]? = some q → InertO q.low ∧ q.low.rw = false) {f : FuncId} {args : List Value} {m : MSt} {os : List KObj} {h' : KH} {r0 : Nat} (hm : IsM P g m os)
    (hd : DoesC P f args (mkH vb).low (.pointer (some ⟨r0, 0, none⟩)) h'.low) (r : List Nat) (hsh : shutK g h' (r0 :: r) (r0 :: r) = os.map some) (hold : ∀ a o, vb[a]? = some o → h'.get a = some o)
    (hrw : os.all KObj.rw = true := by kernel_rfl) (hnd : nodupN (r0 :: r) = true := by kernel_rfl) (hge : (r0 :: r).all (fun a => Nat.ble vb.length a) = true := by kernel_rfl) :
    DoesC P f args (mkH vb).low (.pointer (some ⟨vb.length, 0, none⟩)) (effK (mkH vb) [] [.mach m]).low := by
  refine DoesC.madeX hg hin hd hold fun ρ' w' b l hs hb => ?_
  obtain ⟨bs, φs, op, hbs⟩ := OpensB.shut hs g (r0 :: r) os hnd hsh hrw
  have h0 := hbs 0 r0 rfl
  have hl0 : 0 < os.length := by rw [← op.len]; exact (List.getElem?_eq_some_iff.1 (by rw [h0.1]; exact hb)).1
  refine ⟨_, (hm w' b _).2 ⟨bs, φs, l, op, by rw [h0.1]; exact hb⟩, ?_, fun x hx => ?_⟩
  · obtain ⟨x, l', o', g1, _, _, g4, _⟩ := op.obj 0 (os[0]'hl0) (by simp)
    rw [h0.1, hb] at g1; cases g1
    exact (op.own 0 b hl0 g4).1
  · obtain ⟨i, hi, hx2⟩ := op.all x hx
    obtain ⟨a, ha, hx3⟩ := hx
    refine ⟨(op.own i x hi hx2).2, a, Nat.le_of_ble_eq_true (List.all_eq_true.1 hge a ha), ?_, hx3⟩
    have hlen : (r0 :: r).length = os.length := by
      have := congrArg List.length hsh
      rw [shutK_length, List.length_map] at this; exact this
    obtain ⟨j, hj, rfl⟩ := List.mem_iff_getElem.1 ha
    have h1 := shutK_get (g := g) (h := h') (ren := r0 :: r) (r0 :: r) j _ (List.getElem?_eq_some_iff.2 ⟨hj, rfl⟩)
    rw [hsh, List.getElem?_map] at h1
    cases hq : h'.get ((r0 :: r)[j]) with
    | none =>
      rw [hq] at h1
      have : os[j]? = some (os[j]'(by omega)) := by simp [hlen ▸ hj]
      rw [this] at h1; cases h1
    | some o => rw [low_getK hq]; simp
theorem DoesC.machI {vs : Vars} {vb : List KObj} (hg : P.globals.size = vs.length) (hvb : VarB vs vb) {f : FuncId} {args : List Value} {m m' : MSt} {v v0 : Value} (hargs : args.all (argG vs.length) = true) (hv : ∀ (ρ ρ' : Rho) (u : Value), R ρ v u → R ρ' v0 u)
    (key : ∀ (w : World) (b : Nat) (F : Nat → Prop), ObjSem.At P m w b F → F b → (∀ x, F x → ∃ o', w.heap[x]? = some o' ∧ nd o') →
      ∃ (os : List KObj) (h' : AH) (F' : Nat → Prop), (∀ o ∈ os, o.rw = true) ∧ Opens P vs.length os w b F' ∧ (∀ x, F' x → F x) ∧ DoesC P f args (mkH (vb ++ os)).low v h' ∧
        ∀ (ρ' : Rho) (w' : World) (l : Nat), Sim P ρ' h' w' → w.heap.size ≤ w'.heap.size → ρ' vs.length = some (b, l) → (∀ x, F x → ¬ F' x → w'.heap[x]? = w.heap[x]?) →
          (∀ a x, h'.get a ≠ none → ρ'.φ a x → F' x ∨ w.heap.size ≤ x) → ∃ F'', ObjSem.At P m' w' b F'' ∧ F'' b ∧ (∀ x, F'' x → (∃ o', w'.heap[x]? = some o' ∧ nd o') ∧ (F x ∨ w.heap.size ≤ x))) :
    DoesC P f args (mkH (vb ++ [.mach m])).low v0 (effK (mkH (vb ++ [.mach m])) [(vs.length, .mach m')] []).low := by
  intro ρ w args' ha hs
  have hlen := hvb.length
  have hmg : (mkH (vb ++ [KObj.mach m])).low.get vs.length = some (.mach m) := by
    rw [low_get, mkH_get (o := .mach m) (by rw [List.getElem?_append_right (by omega), hlen]; simp)]; rfl
  have hml : (mkH (vb ++ [KObj.mach m])).low.get vs.length ≠ none := by rw [hmg]; simp
  obtain ⟨b, l, o', hb, hw, hr⟩ := hs.blk _ _ hmg
  have hat := hs.ow.mach _ m b l hmg hb
  obtain ⟨os, h', F', hrw, hop, hF', hd, hcl⟩ := key w b _ hat (hs.ow.own _ _ b l hmg rfl hb) (fun x hx => hs.ow.lt _ x hml hx)
  obtain ⟨ρo, so, hlo, ⟨l0, hro⟩, hof, hfo⟩ := opened_sim hg hvb hs hop hF' hrw
  refine (hd ρo w args' (argsG_rl hb hro hargs ha) so).mono ?_
  rintro e w' ⟨ρ', v', rfl, hR, st⟩
  have hkeep : ∀ x, x < w.heap.size → ¬ F' x → w'.heap[x]? = w.heap[x]? := fun x hx hn => st.keep x hx fun a h1 h2 => hn (hof a x h1 h2)
  have hsz : ∀ x, ρ.φ vs.length x → x < w.heap.size := fun x hx => hs.ow.size hml hx
  obtain ⟨F'', hat', hbF, hF''⟩ := hcl ρ' w' l0 st.sim st.size (st.ext _ _ hro) (fun x hx hn => hkeep x (hsz x hx) hn) (fun a x h1 h2 => by
    rcases Nat.lt_or_ge x w.heap.size with hx | hx
    · obtain ⟨a0, g1, g2⟩ := st.imf a x h1 h2 hx
      exact .inl (hof a0 x g1 g2)
    · exact .inr hx)
  obtain ⟨ρ2, h2f, h2φ⟩ : ∃ ρ2 : Rho, ρ2.f = ρ.f ∧ ρ2.φ = fun a x => if a = vs.length then F'' x else ρ.φ a x := ⟨⟨ρ.f, fun a x => if a = vs.length then F'' x else ρ.φ a x⟩, rfl, rfl⟩
  have h2 : ∀ a, ρ2 a = ρ a := fun a => by show ρ2.f a = _; rw [h2f]
  have heff : (effK (mkH (vb ++ [KObj.mach m])) [(vs.length, .mach m')] []).low = ((mkH (vb ++ [KObj.mach m])).low).put vs.length (.mach m') := by rw [effK_low]; rfl
  have hgs : (effK (mkH (vb ++ [KObj.mach m])) [(vs.length, .mach m')] []).low.get vs.length = some (.mach m') := by rw [heff]; exact AH.get_put_same hmg
  have hgn : ∀ a, a ≠ vs.length → (effK (mkH (vb ++ [KObj.mach m])) [(vs.length, .mach m')] []).low.get a = (mkH (vb ++ [KObj.mach m])).low.get a := fun a ha => by rw [heff]; exact AH.get_put_ne ha
  have hnx : (effK (mkH (vb ++ [KObj.mach m])) [(vs.length, .mach m')] []).low.next = (mkH (vb ++ [KObj.mach m])).low.next := by rw [heff]; rfl
  have hlv : ∀ a, (effK (mkH (vb ++ [KObj.mach m])) [(vs.length, .mach m')] []).low.get a ≠ none → (mkH (vb ++ [KObj.mach m])).low.get a ≠ none := fun a ha => by
    by_cases e : a = vs.length
    · rw [e]; exact hml
    · rw [← hgn a e]; exact ha
  have hvar : ∀ a o, a ≠ vs.length → (mkH (vb ++ [KObj.mach m])).low.get a = some o → o.rw = false := by
    intro a o ha hg'
    obtain ⟨q, hq, rfl⟩ := mkH_inv hg'
    have hlt : a < vb.length := by
      have := (List.getElem?_eq_some_iff.1 hq).1
      simp at this; omega
    rw [List.getElem?_append_left hlt] at hq
    have key : ∀ {vs : Vars} {vb : List KObj}, VarB vs vb → ∀ (a : Nat) q, vb[a]? = some q → q.low.rw = false := by
      intro vs vb h
      induction h with
      | nil => intro a q h; simp at h
      | cons e h ih =>
        intro a q hq
        cases a with
        | zero => simp at hq; subst hq; rfl
        | succ a => exact ih a q (by simpa using hq)
    exact key hvb a q hq
  have hφs : ∀ x, ρ2.φ vs.length x ↔ F'' x := fun x => by rw [h2φ]; simp
  have hφn : ∀ a x, a ≠ vs.length → (mkH (vb ++ [KObj.mach m])).low.get a ≠ none → ¬ ρ2.φ a x := fun a x ha hl h => by
    rw [h2φ] at h; simp only [if_neg ha] at h
    obtain ⟨o, ho⟩ := Option.ne_none_iff_exists'.1 hl
    exact hs.ow.ro a o x ho (hvar a o ha ho) h
  refine ⟨ρ2, v', rfl, hv _ _ _ hR, fun a p hp => by rw [h2]; exact hp, ⟨?_, ?_, ⟨?_, ?_, ?_, ?_, ?_⟩, ?_⟩, ?_, st.os, st.tape, st.output, st.size, ?_, ?_, ?_⟩
  · intro a o ho
    by_cases e : a = vs.length
    · subst e
      rw [hgs] at ho; cases ho
      obtain ⟨o2, g1, g2⟩ := (hF'' b hbF).1
      exact ⟨b, l, o2, by rw [h2]; exact hb, g1, g2⟩
    · rw [hgn a e] at ho
      obtain ⟨x, k, q, g1, g2, g3⟩ := hs.blk a o ho
      refine ⟨x, k, q, by rw [h2]; exact g1, ?_, g3.mono fun a p hp => by rw [h2]; exact hp⟩
      rw [hkeep x (hs.lt a x k g1).2 fun hx => e (hs.ow.sep vs.length a x hml (by rw [ho]; simp) (hF' x hx) (.inr ⟨k, g1⟩)).symm]
      exact g2
  · intro a x k ha
    rw [h2] at ha
    have := hs.lt a x k ha
    exact ⟨by rw [hnx]; exact this.1, Nat.lt_of_lt_of_le this.2 st.size⟩
  · intro a a' x h1 h3 h4 h5
    by_cases e : a = vs.length
    · subst e
      rw [hφs] at h4
      by_cases e' : a' = vs.length
      · exact e'.symm
      · exfalso
        rcases h5 with h5 | ⟨k, h5⟩
        · exact hφn a' x e' (hlv a' h3) h5
        · rw [h2] at h5
          rcases (hF'' x h4).2 with h6 | h6
          · exact e' (hs.ow.sep vs.length a' x hml (hlv a' h3) h6 (.inr ⟨k, h5⟩)).symm
          · have := (hs.lt a' x k h5).2; omega
    · exact absurd h4 (hφn a x e (hlv a h1))
  · intro a o x k h1 h3 h4
    by_cases e : a = vs.length
    · subst e
      rw [h2, hb] at h4; cases h4
      rw [hφs]; exact hbF
    · rw [hgn a e] at h1
      rw [hvar a o e h1] at h3; cases h3
  · intro a o x h1 h3 h4
    by_cases e : a = vs.length
    · subst e; rw [hgs] at h1; cases h1; cases h3
    · exact hφn a x e (hlv a (by rw [h1]; simp)) h4
  · intro a x h1 h3
    by_cases e : a = vs.length
    · subst e; rw [hφs] at h3; exact (hF'' x h3).1
    · exact absurd h3 (hφn a x e (hlv a h1))
  · intro a q x k h1 h3
    by_cases e : a = vs.length
    · subst e; rw [hgs] at h1; cases h1
      rw [h2, hb] at h3; cases h3
      have : ρ2.φ vs.length = F'' := funext fun y => propext (hφs y)
      rw [this]; exact hat'
    · rw [hgn a e] at h1
      have := hvar a _ e h1; cases this
  · intro g' hg'
    obtain ⟨k, hk⟩ := hs.glob g' hg'
    exact ⟨k, by rw [h2]; exact hk⟩
  · rw [heff]; exact Grow.put _ _ _ rfl
  · intro x hx hn
    exact hkeep x hx fun h => hn vs.length hml (hF' x h)
  · intro a o x k h1 h3 hx
    rw [h2] at h3
    by_cases e : a = vs.length
    · subst e; exact ⟨_, _, k, hmg, h3, fun _ => rfl⟩
    · rw [hgn a e] at h1; exact ⟨a, o, k, h1, h3, id⟩
  · intro a x h1 h3 hx
    by_cases e : a = vs.length
    · subst e; rw [hφs] at h3
      rcases (hF'' x h3).2 with h6 | h6
      · exact ⟨_, hml, h6⟩
      · omega
    · exact absurd h3 (hφn a x e (hlv a h1))
theorem mach_doesI {vs : Vars} {vb : List KObj} (hg : P.globals.size = vs.length) (hvb : VarB vs vb) {f : FuncId} {args : List Value} {m m' : MSt} {os os' : List KObj} {v v0 : Value} {h' : KH} (hm : IsM P vs.length m os) (hm' : IsM P vs.length m' os')
    (hd : DoesC P f args (mkH (vb ++ os)).low v h'.low) (r : List Nat) (hsh : shutK vs.length h' (vs.length :: r) (vs.length :: r) = os'.map some) (hrw : os.all KObj.rw = true := by kernel_rfl) (hrw' : os'.all KObj.rw = true := by kernel_rfl) (hnd : nodupN (vs.length :: r) = true := by kernel_rfl)
    (hv : ∀ (ρ ρ' : Rho) (u : Value), R ρ v u → R ρ' v0 u) (hargs : args.all (argG vs.length) = true := by kernel_rfl) : DoesC P f args (mkH (vb ++ [.mach m])).low v0 (effK (mkH (vb ++ [.mach m])) [(vs.length, .mach m')] []).low := by
  refine DoesC.machI hg hvb hargs hv fun w b F hat hbF hF => ?_
  refine ⟨os, h'.low, F, fun o ho => List.all_eq_true.1 hrw o ho, (hm w b F).1 hat, fun x h => h, hd, fun ρ' w' l hs hsz hb hk hown => ?_⟩
  obtain ⟨bs, φs, op, hbs⟩ := OpensB.shut hs vs.length (vs.length :: r) os' hnd hsh hrw'
  have h0 := hbs 0 vs.length rfl
  refine ⟨_, (hm' w' b _).2 ⟨bs, φs, l, op, by rw [h0.1]; exact hb⟩, ?_, fun x hx => ?_⟩
  · obtain ⟨x, l', o', g1, _, _, g4, _⟩ := op.obj 0 (os'[0]'(by rw [← op.len]; exact (List.getElem?_eq_some_iff.1 (by rw [h0.1]; exact hb)).1)) (by simp)
    rw [h0.1, hb] at g1; cases g1
    exact (op.own 0 b (by rw [← op.len]; exact (List.getElem?_eq_some_iff.1 (by rw [h0.1]; exact hb)).1) g4).1
  · obtain ⟨i, hi, hx2⟩ := op.all x hx
    obtain ⟨a, ha, hx3⟩ := hx
    refine ⟨(op.own i x hi hx2).2, hown a x ?_ hx3⟩
    have hlen : (vs.length :: r).length = os'.length := by
      have := congrArg List.length hsh
      rw [shutK_length, List.length_map] at this; exact this
    obtain ⟨j, hj, rfl⟩ := List.mem_iff_getElem.1 ha
    have h1 := shutK_get (g := vs.length) (h := h') (ren := vs.length :: r) (vs.length :: r) j _ (List.getElem?_eq_some_iff.2 ⟨hj, rfl⟩)
    rw [hsh, List.getElem?_map] at h1
    cases hq : h'.get ((vs.length :: r)[j]) with
    | none =>
      rw [hq] at h1
      have : os'[j]? = some (os'[j]'(by omega)) := by simp [hlen ▸ hj]
      rw [this] at h1; cases h1
    | some o => rw [low_getK hq]; simp
def zeroT (b : Bool) : Value := .tuple #[.slice (some ⟨0, 0, none⟩) 0 0, .bool b]
theorem zeroT_nil (b : Bool) (ρ ρ' : Rho) (u : Value) (h : R ρ (.tuple #[.slice none 0 0, .bool b]) u) : R ρ' (zeroT b) u := by
  generalize e : Value.tuple #[.slice none 0 0, .bool b] = v at h
  cases h with
  | tuple xs ys hs h =>
    cases e
    have h0 := h 0 (by simp) (by rw [← hs]; simp)
    have h1 := h 1 (by simp) (by rw [← hs]; simp)
    refine .tuple _ _ (by rw [← hs]; rfl) fun i h2 h3 => ?_
    match i, h2 with
    | 0, _ => simp only [List.getElem_toArray, List.getElem_cons_zero] at h0 ⊢; generalize ys[0] = y at h0 ⊢; cases h0; exact .slice00 _ _ _
    | 1, _ => simp only [List.getElem_toArray, List.getElem_cons_zero, List.getElem_cons_succ] at h1 ⊢; generalize ys[1] = y at h1 ⊢; cases h1; exact .bool b
  | _ => cases e
theorem zeroT_zero (a : Nat) (b : Bool) (ρ ρ' : Rho) (u : Value) (h : R ρ (.tuple #[.slice (some ⟨a, 0, none⟩) 0 0, .bool b]) u) : R ρ' (zeroT b) u := by
  generalize e : Value.tuple #[.slice (some ⟨a, 0, none⟩) 0 0, .bool b] = v at h
  cases h with
  | tuple xs ys hs h =>
    cases e
    have h0 := h 0 (by simp) (by rw [← hs]; simp)
    have h1 := h 1 (by simp) (by rw [← hs]; simp)
    refine .tuple _ _ (by rw [← hs]; rfl) fun i h2 h3 => ?_
    match i, h2 with
    | 0, _ =>
      simp only [List.getElem_toArray, List.getElem_cons_zero] at h0 ⊢
      generalize ys[0] = y at h0 ⊢
      cases h0 with
      | slice _ _ _ c' hρ hc hf hz =>
        rcases hz with h | h
        · omega
        · subst h; exact .slice00 _ _ _
      | slice00 => exact .slice00 _ _ _
    | 1, _ => simp only [List.getElem_toArray, List.getElem_cons_zero, List.getElem_cons_succ] at h1 ⊢; generalize ys[1] = y at h1 ⊢; cases h1; exact .bool b
  | _ => cases e
def ZeroLike (v : Value) : Prop := ∀ (ρ : Rho) (y : Value), R ρ v y → (∃ c, y = .slice none 0 c) ∨ ∃ ad c, y = .slice (some ad) 0 c
theorem ZeroLike.slice0 : ZeroLike slice0V := fun ρ y h => by
  cases h with
  | slice0 c y => cases y with
    | none => exact .inl ⟨_, rfl⟩
    | some ad => exact .inr ⟨_, _, rfl⟩
theorem ZeroLike.row (a off c : Nat) : ZeroLike (.slice (some ⟨a, off, none⟩) 0 c) := fun ρ y h => by
  cases h with
  | slice => exact .inr ⟨_, _, rfl⟩
  | slice00 _ _ y => cases y with
    | none => exact .inl ⟨_, rfl⟩
    | some ad => exact .inr ⟨_, _, rfl⟩
theorem DoesC.zero {f : FuncId} {h h' : AH} {v : Value} (h0 : ∀ c, DoesC P f [.slice none 0 c] h v h') (h1 : DoesC P f [.slice (some ⟨0, 0, some 1⟩) 0 0] h v h') {v1 : Value} (hz : ZeroLike v1) : DoesC P f [v1] h v h' := by
  intro ρ w args ha hs
  obtain ⟨y, hy, hr⟩ := ha.2 0 v1 rfl
  have hlen := ha.1
  have he : args.toList = [y] := by
    match args.toList, hy, hlen with
    | [z], hy, _ => simp at hy; rw [hy]
  rcases hz ρ y hr with ⟨c, rfl⟩ | ⟨ad, c, rfl⟩
  · exact h0 c ρ w args (by rw [he]; exact RL.cons (.nilSlice 0 c) (.nil _)) hs
  · exact h1 ρ w args (by rw [he]; exact RL.cons (.slice1 c ad) (.nil _)) hs
theorem DoesC.value {f : FuncId} {args : List Value} {h h' : AH} {v v0 : Value} (hd : DoesC P f args h v h') (hv : ∀ (ρ : Rho) (u : Value), R ρ v u → R ρ v0 u) : DoesC P f args h v0 h' := fun ρ w args' ha hs =>
  (hd ρ w args' ha hs).mono fun e w' ⟨ρ', v', e1, r, st⟩ => ⟨ρ', v', e1, hv _ _ r, st⟩
theorem DoesC.still {f : FuncId} {args : List Value} {h h' : AH} {v v0 : Value} (hd : DoesC P f args h v h') (hro : Ro h) (hv : ∀ (ρ ρ' : Rho) (u : Value), R ρ v u → R ρ' v0 u) : DoesC P f args h v0 h := fun ρ w args' ha hs =>
  (hd ρ w args' ha hs).mono fun e w' ⟨ρ', v', e1, r, st⟩ => ⟨ρ, v', e1, hv _ _ _ r, Step.of_below hs (st.below hs hro)⟩
theorem growPut {h0 h : KH} {a : Nat} {o : KObj} (hg : Grow h0.low h.low) (hw : o.rw = true) : Grow h0.low (h.put a o).low := by
  rw [low_put]; exact hg.trans (Grow.put _ _ _ (by rw [KObj.rw_low]; exact hw))
theorem growNew {h0 h : KH} {o : KObj} (hg : Grow h0.low h.low) : Grow h0.low (h.new o).low := by
  rw [low_new]; exact hg.trans (Grow.new _ _)
theorem growDrop {h0 h : KH} {a : Nat} (hg : Grow h0.low h.low) : Grow h0.low (h.drop a).low := by
  rw [low_drop]; exact hg.trans (Grow.drop _ _)
def subK (sh : KH) : List (Nat × Nat × KObj) → Prop
  | [] => True
  | p :: r => sh.get p.1 = some p.2.2 ∧ subK sh r
theorem subK_mem {sh : KH} : ∀ {l : List (Nat × Nat × KObj)} {p}, subK sh l → p ∈ l → sh.get p.1 = some p.2.2
  | q :: r, p, h, hp => by
    rcases List.mem_cons.1 hp with rfl | hp
    · exact h.1
    · exact subK_mem h.2 hp
theorem Fits.kh {h0 sh h' : KH} (hg : Grow h0.low h'.low) (hn : Nat.ble sh.next h'.next = true) (hs : subK sh h'.blk) : Fits h0.low sh.low h'.low :=
  ⟨hg, Nat.le_of_ble_eq_true hn, fun a o ho => .inl (by
    obtain ⟨p, hp, rfl, rfl⟩ := low_get_mem ho
    exact low_getK (subK_mem hs hp))⟩
def EndsK (P : Program) [ObjSem P] (fn : Func) (v : Value) (h0 h' : KH) : Ex → St → Prop := Ends P fn.results.toList fun r sh => r = v ∧ Fits h0.low sh h'.low
theorem EndsK.does {f : FuncId} {fn : Func} {c : Code} {args : List Value} {v : Value} {h h' : KH} (hf : P.funcs[f]? = some fn) (hb : fn.body = some c) (hgl : P.globals.size ≤ h.next) (hg : Gets P h.low c (firstSt args fn.ntmps h.low) (EndsK P fn v h h')) : DoesC P f args h.low v h'.low := Gets.does hf hb hgl hg
theorem EndsK.ret {fn : Func} {v : Value} {h0 h' : KH} {s : KSt} {l : List Value} (hr : resL P s.low fn.results.toList = some l) (hv : oneOf l = v) (hfit : Fits h0.low s.h.low h'.low) : EndsK P fn v h0 h' .ret s.low := Ends.of hr ⟨hv, hfit⟩
theorem EndsK.normal {fn : Func} {v : Value} {h0 h' : KH} {s : KSt} {l : List Value} (hr : resL P s.low fn.results.toList = some l) (hv : oneOf l = v) (hfit : Fits h0.low s.h.low h'.low) : EndsK P fn v h0 h' .normal s.low := Ends.ofN hr ⟨hv, hfit⟩
end
end Go.Eng
