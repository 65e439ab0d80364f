/- What code comes to from an abstract frame: triples; and names made anew. -/
import Derived.Test.YtmphcolclkpnnaaEngb
import Derived.Below
namespace Go.Eng
set_option linter.unusedVariables false
set_option linter.unusedSimpArgs false
open Go
set_option linter.unusedVariables false
set_option linter.unusedSimpArgs false

/-- The machine is as the abstract frame tells; and no block of before the call has turned. -/
structure TopR (P : Program) (w00 : World) (s : St) (a : Act) (w : World) (ρ : Rho) : Prop where
  rt : RT ρ s.ts a
  sim : Sim P ρ s.h w
  df : a.defers = []
  os : w.os = w00.os
  tape : w.tape = w00.tape
  output : w.output = w00.output
  size : w00.heap.size ≤ w.heap.size
  keep : ∀ b, b < w00.heap.size → w.heap[b]? = w00.heap[b]?
  own : ∀ x o b l, s.h.get x = some o → o.rw = true → ρ x = some (b, l) → w00.heap.size ≤ b
def Top (P : Program) (w00 : World) (s : St) (a : Act) (w : World) : Prop := ∃ ρ, TopR P w00 s a w ρ

section
variable {P : Program} {C : Cfg} {Γ : Calling}

theorem TopR.step {w00 : World} {s s' : St} {a a' : Act} {w w' : World} {ρ ρ' : Rho} (t : TopR P w00 s a w ρ) (i : Is P ρ s.h w a s' a' w' ρ') : TopR P w00 s' a' w' ρ' where
  rt := i.rt
  sim := i.st.sim
  df := i.df.trans t.df
  os := i.st.os.trans t.os
  tape := i.st.tape.trans t.tape
  output := i.st.output.trans t.output
  size := Nat.le_trans t.size i.st.size
  keep := fun b hb => by
    rw [i.st.keep b (Nat.lt_of_lt_of_le hb t.size) ?_, t.keep b hb]
    intro x o l hg hrw hr
    exact absurd hb (Nat.not_lt_of_le (t.own x o b l hg hrw hr))
  own := fun x o b l hg hrw hr => by
    rcases Nat.lt_or_ge b w.heap.size with h | h
    · obtain ⟨a0, o0, l0, h1, h2, h3⟩ := i.st.img x o b l hg hr h
      exact t.own a0 o0 b l0 h1 (h3 hrw) h2
    · exact Nat.le_trans t.size h

/-- What code comes to. -/
def Gets (P : Program) (c : Code) (s : St) (Q : Ex → St → Prop) : Prop :=
  ∀ (w00 : World) (a : Act) (w : World), Top P w00 s a w → c.wp P (fun e a' w' => ∃ x s', e = x.real ∧ Q x s' ∧ Top P w00 s' a' w') a w

theorem Gets.ev (hm : P.follows .mixedOrders = true) (hC : C.ok P) (hΓ : SoundC P Γ) (n : Nat) {c : Code} (hok : okCode P.globals.size c = true) {s s' : St} {x : Ex} {Q : Ex → St → Prop}
    (h : evC P C Γ n c s = some (x, s')) (hq : Q x s') : Gets P c s Q := by
  intro w00 a w ⟨ρ, t⟩
  refine wp_mono ((evC_sound hm hC hΓ n c hok).1 a ρ s.h w s x s' a w ρ h ⟨t.rt, Step.refl t.sim, rfl⟩) ?_
  rintro e a' w' ⟨rfl, ρ', i⟩
  exact ⟨x, s', rfl, hq, ρ', t.step i⟩

theorem Gets.mono {c : Code} {s : St} {Q Q' : Ex → St → Prop} (h : Gets P c s Q) (hq : ∀ x s', Q x s' → Q' x s') : Gets P c s Q' :=
  fun w00 a w t => wp_mono (h w00 a w t) fun e a' w' ⟨x, s', h1, h2, h3⟩ => ⟨x, s', h1, hq x s' h2, h3⟩

/-- Behind code that goes on, and behind code that does not. -/
def onN (G : St → Prop) (Q : Ex → St → Prop) : Ex → St → Prop
  | .normal, s => G s
  | x, s => Q x s

theorem Gets.seq {c d : Code} {s : St} {Q : Ex → St → Prop} (h : Gets P c s (onN (fun s' => Gets P d s' Q) Q)) : Gets P (.seq c d) s Q := by
  intro w00 a w t
  refine wp_seq (wp_mono (h w00 a w t) ?_)
  rintro e a' w' ⟨x, s', rfl, hq, t'⟩
  cases x with
  | normal => exact hq w00 a' w' t'
  | exit id => exact ⟨_, s', rfl, hq, t'⟩
  | goto l => exact ⟨_, s', rfl, hq, t'⟩
  | ret => exact ⟨_, s', rfl, hq, t'⟩

theorem Gets.cond {q : Operand} {c d : Code} {s : St} {Q : Ex → St → Prop} (b : Bool) (hx : okX P.globals.size q = true) (hb : evalX s.ts q = .bool b) (h : Gets P (match b with | true => c | false => d) s Q) :
    Gets P (.cond q c d) s Q := by
  intro w00 a w t
  obtain ⟨ρ, tr⟩ := t
  have he := tr.rt.eval tr.sim hx
  rw [hb] at he
  generalize hz : a.eval q = z at he
  cases he
  cases b with
  | true => exact wp_cond_true hz (h w00 a w ⟨ρ, tr⟩)
  | false => exact wp_cond_false hz (h w00 a w ⟨ρ, tr⟩)

def onB (id : Nat) (Q : Ex → St → Prop) : Ex → St → Prop
  | .exit i, s => (Nat.beq i id = true → Q .normal s) ∧ (Nat.beq i id = false → Q (.exit i) s)
  | x, s => Q x s

theorem Gets.block {id : Nat} {c : Code} {s : St} {Q : Ex → St → Prop} (h : Gets P c s (onB id Q)) : Gets P (.block id c) s Q := by
  intro w00 a w t
  refine wp_block (wp_mono (h w00 a w t) ?_)
  rintro e a' w' ⟨x, s', rfl, hq, t'⟩
  cases x with
  | normal => exact ⟨.normal, s', rfl, hq, t'⟩
  | goto l => exact ⟨_, s', rfl, hq, t'⟩
  | ret => exact ⟨_, s', rfl, hq, t'⟩
  | exit i =>
    show Exit.inBlock id _ (Exit.exit i) a' w'
    simp only [Exit.inBlock]
    cases hb : Nat.beq i id with
    | true => rw [if_pos (beq_true hb)]; exact ⟨.normal, s', rfl, hq.1 hb, t'⟩
    | false => rw [if_neg (beq_false hb)]; exact ⟨.exit i, s', rfl, hq.2 hb, t'⟩

/-- Another abstract frame tells of the same machine. -/
def Gc (P : Program) (s s' : St) : Prop := ∀ (w00 : World) (a : Act) (w : World), Top P w00 s a w → Top P w00 s' a w
theorem Gc.refl (s : St) : Gc P s s := fun _ _ _ h => h
theorem Gc.trans {s s' s'' : St} (h : Gc P s s') (k : Gc P s' s'') : Gc P s s'' := fun w00 a w t => k w00 a w (h w00 a w t)
theorem Gets.gc {c : Code} {s s' : St} {Q : Ex → St → Prop} (g : Gc P s s') (h : Gets P c s' Q) : Gets P c s Q := fun w00 a w t => h w00 a w (g w00 a w t)
theorem Gets.then_gc {c : Code} {s : St} {Q Q' : Ex → St → Prop} (h : Gets P c s Q) (hq : ∀ x s', Q x s' → ∃ s'', Gc P s' s'' ∧ Q' x s'') : Gets P c s Q' :=
  fun w00 a w t => wp_mono (h w00 a w t) fun e a' w' ⟨x, s', h1, h2, h3⟩ => let ⟨s'', g, h4⟩ := hq x s' h2; ⟨x, s'', h1, h4, g w00 a' w' h3⟩

/-- A loop: `J n s` tells the frame of a round, with `n` a bound for the rounds that are left. -/
theorem Gets.loop {c : Code} {Q : Ex → St → Prop} (J : Nat → St → Prop) (hb : ∀ n s, J n s → Gets P c s (onN (fun s' => ∃ m s'', m < n ∧ Gc P s' s'' ∧ J m s'') Q)) :
    ∀ (n : Nat) (s : St), J n s → Gets P (.loop c) s Q := by
  intro n s hj w00 a w t
  have key : ∀ (k n : Nat), n < k → ∀ (s : St) (a : Act) (w : World), J n s → Top P w00 s a w → Code.rounds P c (fun e a' w' => ∃ x s', e = x.real ∧ Q x s' ∧ Top P w00 s' a' w') k a w := by
    intro k
    induction k with
    | zero => intro n hn; exact absurd hn (Nat.not_lt_zero _)
    | succ k ih =>
      intro n hn s a w hj t
      rw [rounds_succ]
      refine wp_mono (hb n s hj w00 a w t) ?_
      rintro e a' w' ⟨x, s', rfl, hq, t'⟩
      cases x with
      | normal =>
        obtain ⟨m, s'', hm, g, hj'⟩ := hq
        exact ih m (by omega) s'' a' w' hj' (g w00 a' w' t')
      | exit id => exact ⟨_, s', rfl, hq, t'⟩
      | goto l => exact ⟨_, s', rfl, hq, t'⟩
      | ret => exact ⟨_, s', rfl, hq, t'⟩
  exact wp_loop_rounds (n + 1) (key (n + 1) n (Nat.lt_succ_self n) s a w hj t)

end

/-! ### Names made anew -/
/-- The first value is the second one under new names: `τ` tells the old name of a new one below `N`. -/
inductive RN (N : Nat) (τ : Nat → Nat) : Value → Value → Prop
  | plain {v : Value} (h : plain v = true) : RN N τ v v
  | undef : RN N τ undef undef
  | any (v : Value) : RN N τ DC v
  | ptr {a : Nat} (off : Nat) (h : a < N) : RN N τ (.pointer (some ⟨a, off, none⟩)) (.pointer (some ⟨τ a, off, none⟩))
  | slice {a : Nat} (off n c : Nat) (h : a < N) : RN N τ (.slice (some ⟨a, off, none⟩) n c) (.slice (some ⟨τ a, off, none⟩) n c)
  | map {a : Nat} (h : a < N) : RN N τ (.map (some a)) (.map (some (τ a)))
  | iface (t : TypeId) {v v' : Value} (h : RN N τ v v') : RN N τ (.iface t v) (.iface t v')
  | agg (xs ys : Array Value) (hs : xs.size = ys.size) (h : ∀ i (h1 : i < xs.size) (h2 : i < ys.size), RN N τ xs[i] ys[i]) : RN N τ (.agg xs) (.agg ys)
  | tuple (xs ys : Array Value) (hs : xs.size = ys.size) (hn : xs.size ≠ 1) (h : ∀ i (h1 : i < xs.size) (h2 : i < ys.size), RN N τ xs[i] ys[i]) : RN N τ (.tuple xs) (.tuple ys)
  | func (fn : Fn) (xs ys us vs : Array Value) (hs : xs.size = ys.size) (h : ∀ i (h1 : i < xs.size) (h2 : i < ys.size), RN N τ xs[i] ys[i])
      (ht : us.size = vs.size) (k : ∀ i (h1 : i < us.size) (h2 : i < vs.size), RN N τ us[i] vs[i]) : RN N τ (.func fn xs us) (.func fn ys vs)

theorem R.plain1_inv {ρ : Rho} {v w : Value} (hp : plain1 v = true) (h : R ρ v w) : w = v := by
  cases h with
  | bool b => rfl
  | int k n => rfl
  | string s => rfl
  | nilPtr => rfl
  | nilSlice n c => rfl
  | nilMap => rfl
  | nilFunc => rfl
  | nilIface => rfl
  | func fn xs ys us vs hs h ht k =>
    simp [plain1] at hp
    obtain ⟨rfl, rfl⟩ := hp
    have h1 : ys = #[] := by simpa using hs.symm
    have h2 : vs = #[] := by simpa using ht.symm
    rw [h1, h2]
  | ptr off h => cases hp
  | slice off n c c' h hc hf hz => cases hp
  | slice0 off off' c' h => cases hp
  | map h => cases hp
  | iface t h => cases hp
  | agg xs ys hs h => cases hp
  | tuple xs ys hs h => cases hp
  | any v => cases hp
theorem R.plain_inv {ρ : Rho} {v w : Value} (hp : plain v = true) (h : R ρ v w) : w = v := by
  cases h with
  | agg xs ys hs h =>
    congr 1
    refine Array.ext hs.symm fun i h1 h2 => ?_
    exact R.plain1_inv (List.all_eq_true.1 hp _ (by simp)) (h i h2 h1)
  | iface t h => rw [R.plain1_inv hp h]
  | tuple xs ys hs h => cases hp
  | any v => cases hp
  | bool b => rfl
  | int k n => rfl
  | string s => rfl
  | nilPtr => rfl
  | nilSlice n c => rfl
  | nilMap => rfl
  | nilFunc => rfl
  | nilIface => rfl
  | func fn xs ys us vs hs h ht k => exact R.plain1_inv hp (.func fn xs ys us vs hs h ht k)
  | ptr off h => cases hp
  | slice off n c c' h hc hf hz => cases hp
  | slice0 off off' c' h => cases hp
  | map h => cases hp
theorem R.undef_inv {ρ : Rho} {w : Value} (h : R ρ Go.undef w) : w = Go.undef := by
  generalize e : Go.undef = v at h
  cases h with
  | tuple xs ys hs h =>
    cases e
    have : ys = #[] := by simpa using hs.symm
    rw [this]
  | any v => cases e
  | _ => cases e

/-- What the new names stand for. -/
def Rho.under (ρ : Rho) (N : Nat) (τ : Nat → Nat) : Rho := fun a => if a < N then ρ (τ a) else none
theorem Rho.under_lt {ρ : Rho} {N : Nat} {τ : Nat → Nat} {a : Nat} (h : a < N) : ρ.under N τ a = ρ (τ a) := if_pos h

theorem RN.comp {N : Nat} {τ : Nat → Nat} {ρ : Rho} {v' v : Value} (h : RN N τ v' v) : ∀ {w : Value}, R ρ v w → R (ρ.under N τ) v' w := by
  induction h with
  | plain hp => intro w hr; rw [hr.plain_inv hp]; exact .of_plain hp
  | undef => intro w hr; rw [hr.undef_inv]; exact R.undef _
  | any v => intro w hr; exact .any w
  | ptr off h => intro w hr; cases hr with | ptr _ k => exact .ptr off (by rw [Rho.under_lt h]; exact k)
  | slice off n c h =>
    intro w hr
    cases hr with
    | slice _ _ _ c' k hc hf hz => exact .slice off n c c' (by rw [Rho.under_lt h]; exact k) hc hf hz
    | slice0 _ off' c' k => exact .slice0 off off' c' (by rw [Rho.under_lt h]; exact k)
  | map h => intro w hr; cases hr with | map k => exact .map (by rw [Rho.under_lt h]; exact k)
  | iface t h ih => intro w hr; cases hr with | iface _ k => exact .iface t (ih k)
  | agg xs ys hs h ih =>
    intro w hr
    cases hr with
    | agg _ zs hz k => exact .agg xs zs (hs.trans hz) fun i h1 h2 => ih i h1 (hs ▸ h1) (k i (hs ▸ h1) h2)
  | tuple xs ys hs hn h ih =>
    intro w hr
    generalize e : Value.tuple ys = v at hr
    cases hr with
    | tuple us zs hz k => cases e; exact .tuple xs zs (hs.trans hz) fun i h1 h2 => ih i h1 (hs ▸ h1) (k i (hs ▸ h1) h2)
    | any v => cases e; exact absurd (hs.trans (by simp)) hn
    | _ => cases e
  | func fn xs ys us vs hs h ht k ih ik =>
    intro w hr
    cases hr with
    | func _ _ zs _ qs hz kz hq kq =>
      exact .func fn xs zs us qs (hs.trans hz) (fun i h1 h2 => ih i h1 (hs ▸ h1) (kz i (hs ▸ h1) h2)) (ht.trans hq) (fun i h1 h2 => ik i h1 (ht ▸ h1) (kq i (ht ▸ h1) h2))

/-- Lists, one by one. -/
def RNL (N : Nat) (τ : Nat → Nat) (xs ys : List Value) : Prop := xs.length = ys.length ∧ ∀ (i : Nat) (v : Value), xs[i]? = some v → ∃ v', ys[i]? = some v' ∧ RN N τ v v'
/-- The second list may be longer. -/
def RNP (N : Nat) (τ : Nat → Nat) (xs ys : List Value) : Prop := ∀ (i : Nat) (v : Value), xs[i]? = some v → ∃ v', ys[i]? = some v' ∧ RN N τ v v'
theorem RNL.nil (N : Nat) (τ : Nat → Nat) : RNL N τ [] [] := ⟨rfl, fun i v e => by simp at e⟩
theorem RNL.cons {N : Nat} {τ : Nat → Nat} {v v' : Value} {xs ys : List Value} (h : RN N τ v v') (k : RNL N τ xs ys) : RNL N τ (v :: xs) (v' :: ys) := by
  refine ⟨by simp [k.1], fun i u e => ?_⟩
  cases i with
  | zero => simp at e; subst e; exact ⟨v', by simp, h⟩
  | succ i => simp at e ⊢; exact k.2 i u e
theorem RNL.rnp {N : Nat} {τ : Nat → Nat} {xs ys : List Value} (h : RNL N τ xs ys) : RNP N τ xs ys := h.2
theorem RNL.of_plain {N : Nat} {τ : Nat → Nat} {xs : List Value} (h : xs.all plain = true) : RNL N τ xs xs :=
  ⟨rfl, fun i v e => ⟨v, e, .plain (List.all_eq_true.1 h v (List.mem_of_getElem? e))⟩⟩
theorem RNL.of_any (N : Nat) (τ : Nat → Nat) : ∀ xs : List Value, RNL N τ (List.replicate xs.length DC) xs
  | [] => .nil _ _
  | x :: xs => .cons (.any x) (of_any N τ xs)

def RNObj (N : Nat) (τ : Nat → Nat) : AObj → AObj → Prop
  | .cells c' e' rw', .cells c e rw => e' = e ∧ RNP N τ c' c ∧ (rw' = true → rw = true)
  | .map es' k', .map es k => k' = k ∧ es'.length = es.length ∧ ∀ (i : Nat) (e' : Value × Value × Nat), es'[i]? = some e' → ∃ e, es[i]? = some e ∧ plain1 e'.1 = true ∧ e'.1 = e.1 ∧ e'.2.2 = e.2.2 ∧ RN N τ e'.2.1 e.2.1
  | _, _ => False
theorem RNObj.rw {N : Nat} {τ : Nat → Nat} {o' o : AObj} (h : RNObj N τ o' o) (hr : o'.rw = true) : o.rw = true := by
  cases o' <;> cases o <;> simp only [RNObj] at h
  · exact h.2.2 hr
  · rfl
theorem RNObj.comp {P : Program} {N : Nat} {τ : Nat → Nat} {ρ : Rho} {l : Nat} {o' o : AObj} {w : Obj} (h : RNObj N τ o' o) (hr : RObj P ρ l o w) : RObj P (ρ.under N τ) l o' w := by
  cases o' <;> cases o <;> simp only [RNObj] at h
  · cases w <;> simp only [RObj] at hr ⊢
    obtain ⟨h1, h2, h3, h4⟩ := hr
    refine ⟨h1.trans h.1.symm, ?_, by rw [h.1]; exact h3, fun hw => h4 (h.2.2 hw)⟩
    intro i v e
    obtain ⟨v1, e1, r1⟩ := h.2.1 i v e
    obtain ⟨v2, e2, r2⟩ := h2 i v1 e1
    exact ⟨v2, e2, r1.comp r2⟩
  · cases w <;> simp only [RObj] at hr ⊢
    obtain ⟨h1, h2, h3⟩ := hr
    refine ⟨h1.trans h.1.symm, by rw [h.2.1]; exact h2, fun i e he => ?_⟩
    obtain ⟨e1, g1, g2, g3, g4, g5⟩ := h.2.2 i e he
    obtain ⟨m, m1, m2, m3, m4, m5⟩ := h3 i e1 g1
    exact ⟨m, m1, g2, m3.trans g3.symm, m4.trans g4.symm, g5.comp m5⟩

/-- Dead temporaries and dead blocks are forgotten, and what lives has new names. -/
theorem Gc.of {P : Program} {s s' : St} (τ : Nat → Nat) (hts : RNL s'.h.next τ s'.ts s.ts)
    (hb : ∀ a o, s'.h.get a = some o → a < s'.h.next ∧ ∃ o0, s.h.get (τ a) = some o0 ∧ RNObj s'.h.next τ o o0)
    (hi : ∀ a a', s'.h.get a ≠ none → s'.h.get a' ≠ none → τ a = τ a' → a = a')
    (hg : ∀ g, g < P.globals.size → g < s'.h.next ∧ τ g = g) : Gc P s s' := by
  rintro w00 a w ⟨ρ, t⟩
  refine ⟨ρ.under s'.h.next τ, ⟨?_, ?_⟩, ⟨?_, ?_, ?_, ?_⟩, t.df, t.os, t.tape, t.output, t.size, t.keep, ?_⟩
  · rw [t.rt.size, hts.1]
  · intro i
    have h := t.rt.at_ i
    rw [List.getD_eq_getElem?_getD] at h ⊢
    cases e : s'.ts[i]? with
    | none =>
      have h2 : s.ts[i]? = none := by rw [List.getElem?_eq_none_iff] at e ⊢; rw [← hts.1]; exact e
      rw [h2] at h
      rw [h.undef_inv]; exact R.undef _
    | some v =>
      obtain ⟨v', e', r⟩ := hts.2 i v e
      rw [e'] at h
      exact r.comp h
  · intro x o hx
    obtain ⟨hlt, o0, h0, hr⟩ := hb x o hx
    obtain ⟨b, l, o', h1, h2, h3⟩ := t.sim.blk _ _ h0
    exact ⟨b, l, o', by rw [Rho.under_lt hlt]; exact h1, h2, hr.comp h3⟩
  · intro x b l hx
    unfold Rho.under at hx
    split at hx
    · rename_i hlt; exact ⟨hlt, (t.sim.lt _ b l hx).2⟩
    · cases hx
  · intro x x' b l l' h1 h2 h3 h4
    obtain ⟨o, h1, hw⟩ := h1
    obtain ⟨hlt, o0, h0, hr⟩ := hb x o h1
    cases e : s'.h.get x' with
    | none => exact absurd e h2
    | some o' =>
      obtain ⟨hlt', o0', h0', hr'⟩ := hb x' o' e
      rw [Rho.under_lt hlt] at h3
      rw [Rho.under_lt hlt'] at h4
      exact hi x x' (by rw [h1]; simp) h2 (t.sim.inj _ _ b l l' ⟨o0, h0, hr.rw hw⟩ (by rw [h0']; simp) h3 h4)
  · intro g h
    obtain ⟨h1, h2⟩ := hg g h
    rw [Rho.under_lt h1, h2]
    exact t.sim.glob g h
  · intro x o b l hx hw hr
    obtain ⟨hlt, o0, h0, hn⟩ := hb x o hx
    rw [Rho.under_lt hlt] at hr
    exact t.own _ o0 b l h0 (hn.rw hw) hr

end Go.Eng
/- What a function tells, whatever the memory: and such functions as callees. -/
namespace Go.Eng
set_option linter.unusedVariables false
set_option linter.unusedSimpArgs false
open Go
open Go.RowKit (Below)
set_option linter.unusedVariables false
set_option linter.unusedSimpArgs false

/-- No block of the abstract heap may be written. -/
def Ro (h : AH) : Prop := ∀ a o, h.get a = some o → o.rw = false

/-- Values that lead to no memory, or a few of them. -/
def plainT : Value → Bool
  | .tuple vs => !Nat.beq vs.size 1 && vs.toList.all plain
  | v => plain v
theorem plainT_inv {ρ : Rho} {v w : Value} (hp : plainT v = true) (h : R ρ v w) : w = v := by
  cases v with
  | tuple vs =>
    simp only [plainT, Bool.and_eq_true] at hp
    generalize e : Value.tuple vs = u at h
    cases h with
    | tuple xs ys hs h =>
      cases e
      congr 1
      exact Array.ext hs.symm fun i h1 h2 => R.plain_inv (List.all_eq_true.1 hp.2 _ (by simp)) (h i h2 h1)
    | any v => cases e; exact absurd hp.1 (by decide)
    | _ => cases e
  | _ => exact R.plain_inv hp h

section
variable {P : Program} {C : Cfg} {Γ : Calling}

theorem Step.below {ρ ρ' : Rho} {h h' : AH} {w w' : World} (s : Step P ρ h w ρ' h' w') (hro : Ro h) : Below w.heap.size w w' :=
  ⟨s.os, s.tape, s.output, s.size, fun k hk => s.keep k hk fun a o l hg hr => by rw [hro a o hg] at hr; cases hr⟩

/-- From this abstract memory, which it does not turn, the function's answer is `v`. -/
def Tells (P : Program) (f : FuncId) (args : List Value) (h : AH) (v : Value) : Prop :=
  ∀ (ρ : Rho) (w : World) (args' : Array Value), RL ρ args args'.toList → Sim P ρ h w → Calls P f args' w fun e w' => e = .returned v ∧ Below w.heap.size w w'

theorem Tells.of_sound (hΓ : SoundC P Γ) {f : FuncId} {args : List Value} {h h' : AH} {v : Value} (hr : Γ f args h = some (v, h')) (hv : plainT v = true) (hro : Ro h) : Tells P f args h v := by
  intro ρ w args' ha hs
  refine ((hΓ f args h v h' hr).2.2 ρ w args' ha hs).mono ?_
  rintro e w' ⟨ρ', v', rfl, hR, st⟩
  rw [plainT_inv hv hR]
  exact ⟨rfl, st.below hro⟩

/-- How a function's body must end. -/
def Ends (P : Program) (rs : List ResultVar) (A : Value → AH → Prop) (x : Ex) (s : St) : Prop :=
  (x = .normal ∨ x = .ret) ∧ ∃ l, resL P s rs = some l ∧ A (oneOf l) s.h

theorem Top.first {ρ : Rho} {args : List Value} {args' : Array Value} {h : AH} {w : World} (ha : RL ρ args args'.toList) (hs : Sim P ρ h w) (hro : Ro h) (n : Nat) :
    Top P w (firstSt args n h) { tmps := args' ++ Array.replicate (n - args'.size) undef, defers := [] } w :=
  ⟨ρ, first_rt ha _ _, hs, rfl, rfl, rfl, rfl, Nat.le_refl _, fun _ _ => rfl, fun x o b l hg hr _ => by rw [hro x o hg] at hr; cases hr⟩

theorem Gets.calls {f : FuncId} {fn : Func} {c : Code} (hf : P.funcs[f]? = some fn) (hb : fn.body = some c) {args : List Value} {h : AH} {A : Value → AH → Prop}
    (hg : Gets P c (firstSt args fn.ntmps h) (Ends P fn.results.toList A)) (hro : Ro h) {ρ : Rho} {w : World} {args' : Array Value} (ha : RL ρ args args'.toList) (hs : Sim P ρ h w) :
    Calls P f args' w fun e w' => ∃ v v' s a' ρ', e = .returned v' ∧ A v s.h ∧ R ρ' v v' ∧ TopR P w s a' w' ρ' := by
  refine calls_of_wp hf hb (wp_mono (hg w _ w (Top.first ha hs hro fn.ntmps)) ?_)
  rintro e a' w' ⟨x, s, rfl, ⟨hx, l, hl, hA⟩, ρ', t⟩
  obtain ⟨v', hr, hR⟩ := results_run t.sim t.rt.at_ hl
  rcases hx with rfl | rfl
  · exact ⟨t.df, v', hr, _, v', s, a', ρ', rfl, hA, hR, t⟩
  · exact ⟨t.df, v', hr, _, v', s, a', ρ', rfl, hA, hR, t⟩

theorem TopR.below {w00 : World} {s : St} {a : Act} {w : World} {ρ : Rho} (t : TopR P w00 s a w ρ) : Below w00.heap.size w00 w := ⟨t.os, t.tape, t.output, t.size, t.keep⟩

theorem Gets.tells {f : FuncId} {fn : Func} {c : Code} (hf : P.funcs[f]? = some fn) (hb : fn.body = some c) {args : List Value} {h : AH} {v : Value} (hv : plainT v = true)
    (hg : Gets P c (firstSt args fn.ntmps h) (Ends P fn.results.toList fun r _ => r = v)) (hro : Ro h) : Tells P f args h v := by
  intro ρ w args' ha hs
  refine (hg.calls hf hb hro ha hs).mono ?_
  rintro e w' ⟨v, v', s, a', ρ', rfl, rfl, hR, t⟩
  rw [plainT_inv hv hR]
  exact ⟨rfl, t.below⟩

/-! ### Such a function as a callee -/
/-- The memory that a function sees, `h0`, is a part of `h`, under names of its own. -/
structure View (P : Program) (τ : Nat → Nat) (args0 : List Value) (h0 : AH) (args : List Value) (h : AH) : Prop where
  args : RNL h0.next τ args0 args
  blk : ∀ a o, h0.get a = some o → a < h0.next ∧ ∃ o0, h.get (τ a) = some o0 ∧ RNObj h0.next τ o o0
  glob : ∀ g, g < P.globals.size → g < h0.next ∧ τ g = g

theorem View.sim {τ : Nat → Nat} {args0 args : List Value} {h0 h : AH} (v : View P τ args0 h0 args h) (hro : Ro h0) {ρ : Rho} {w : World} (s : Sim P ρ h w) : Sim P (ρ.under h0.next τ) h0 w where
  blk := fun x o hx => by
    obtain ⟨hlt, o0, h1, hr⟩ := v.blk x o hx
    obtain ⟨b, l, o', h2, h3, h4⟩ := s.blk _ _ h1
    exact ⟨b, l, o', by rw [Rho.under_lt hlt]; exact h2, h3, hr.comp h4⟩
  lt := fun x b l hx => by
    unfold Rho.under at hx
    split at hx
    · rename_i hlt; exact ⟨hlt, (s.lt _ b l hx).2⟩
    · cases hx
  inj := fun x x' b l l' h1 _ _ _ => by obtain ⟨o, h1, h2⟩ := h1; rw [hro x o h1] at h2; cases h2
  glob := fun g hg => by
    obtain ⟨h1, h2⟩ := v.glob g hg
    rw [Rho.under_lt h1, h2]
    exact s.glob g hg
theorem View.rl {τ : Nat → Nat} {args0 args : List Value} {h0 h : AH} (v : View P τ args0 h0 args h) {ρ : Rho} {ys : List Value} (ha : RL ρ args ys) : RL (ρ.under h0.next τ) args0 ys :=
  ⟨v.args.1.trans ha.1, fun i u e => by
    obtain ⟨u1, e1, r1⟩ := v.args.2 i u e
    obtain ⟨u2, e2, r2⟩ := ha.2 i u1 e1
    exact ⟨u2, e2, r1.comp r2⟩⟩

/-- What was there is there as it was: so the abstract heap still tells of it. -/
theorem Step.of_below {ρ : Rho} {h : AH} {w w' : World} (s : Sim P ρ h w) (b : Below w.heap.size w w') : Step P ρ h w ρ h w' where
  ext := .refl _
  sim := ⟨fun a o hg => by
      obtain ⟨k, l, o', h1, h2, h3⟩ := s.blk a o hg
      exact ⟨k, l, o', h1, by rw [b.block k (s.lt a k l h1).2]; exact h2, h3⟩,
    fun a k l hr => ⟨(s.lt a k l hr).1, Nat.lt_of_lt_of_le (s.lt a k l hr).2 b.size⟩, s.inj, s.glob⟩
  grow := .refl h
  os := b.os
  tape := b.tape
  output := b.output
  size := b.size
  keep := fun k hk _ => b.block k hk
  img := fun a o k l hg hr _ => ⟨a, o, l, hg, hr, id⟩

/-- A table of answers. -/
theorem SoundC.table {T : Calling} (h : ∀ f args q v q', T f args q = some (v, q') → FnOk P f ∧ q' = q ∧ ∃ τ args0 h0, View P τ args0 h0 args q ∧ Ro h0 ∧ Tells P f args0 h0 v ∧ plainT v = true) : SoundC P T := by
  intro f args q v q' hT
  obtain ⟨hf, rfl, τ, args0, h0, vw, hro, ht, hv⟩ := h f args q v q' hT
  refine ⟨hf, .refl _, fun ρ w args' ha hs => ?_⟩
  refine (ht _ w args' (vw.rl ha) (vw.sim hro hs)).mono ?_
  rintro e w' ⟨rfl, b⟩
  refine ⟨ρ, v, rfl, ?_, .of_below hs b⟩
  cases v with
  | tuple vs =>
    simp only [plainT, Bool.and_eq_true] at hv
    exact .tuple vs vs rfl fun i h1 h2 => .of_plain (List.all_eq_true.1 hv.2 _ (by simp))
  | _ => exact .of_plain hv

/-- Two tables, one before the other. -/
def orC (T U : Calling) : Calling := fun f args h => match T f args h with
  | some r => some r
  | none => U f args h
theorem SoundC.or {T U : Calling} (hT : SoundC P T) (hU : SoundC P U) : SoundC P (orC T U) := by
  intro f args h v h' hr
  unfold orC at hr
  split at hr
  · rename_i r e; cases hr; exact hT f args h v h' e
  · exact hU f args h v h' hr
def noC : Calling := fun _ _ _ => none
theorem SoundC.no : SoundC P noC := fun f args h v h' hr => by cases hr

/-- Arguments that lead to no memory: nothing need be seen. -/
def bare (P : Program) : AH := ⟨P.globals.size, 0, []⟩
theorem Ro.bare : Ro (bare P) := fun a o h => by cases h
theorem View.bare {args : List Value} (hp : args.all plain = true) (h : AH) : View P id args (bare P) args h :=
  ⟨.of_plain hp, (fun a o hg => by cases hg), fun g hg => ⟨hg, rfl⟩⟩
end
end Go.Eng
/- The evaluator once more, with a continuation, over frames whose numbers may be unknown: a tree of its tests comes out of it by mere reckoning. -/
namespace Go.Eng
set_option linter.unusedVariables false
set_option linter.unusedSimpArgs false
open Go
set_option linter.unusedVariables false
set_option linter.unusedSimpArgs false

/-- A block; one of numbers alone is a list of numbers. -/
inductive KObj where
  | cells (c : List Value) (elem : TypeId) (rw : Bool)
  | ints (k : IntKind) (l : List Int) (elem : TypeId) (rw : Bool)
  | map (es : List (Value × Value × Nat)) (clock : Nat)
def KObj.low : KObj → AObj
  | .cells c e rw => .cells c e rw
  | .ints k l e rw => .cells (l.map (.int k)) e rw
  | .map es c => .map es c
def KObj.up : AObj → KObj
  | .cells c e rw => .cells c e rw
  | .map es c => .map es c
theorem KObj.low_up (o : AObj) : (KObj.up o).low = o := by cases o <;> rfl

structure KH where
  next : Nat
  clock : Nat
  blk : List (Nat × Nat × KObj)
def lowB : List (Nat × Nat × KObj) → List (Nat × Nat × AObj)
  | [] => []
  | (n, s, o) :: r => (n, s, o.low) :: lowB r
def KH.low (h : KH) : AH := ⟨h.next, h.clock, lowB h.blk⟩
def findK (a : Nat) : List (Nat × Nat × KObj) → Option (Nat × KObj)
  | [] => none
  | (n, s, o) :: r => match Nat.beq n a with
    | true => some (s, o)
    | false => findK a r
def replaceK (a s : Nat) (o : KObj) : List (Nat × Nat × KObj) → List (Nat × Nat × KObj)
  | [] => []
  | (n, s', o') :: r => match Nat.beq n a with
    | true => (n, s, o) :: r
    | false => (n, s', o') :: replaceK a s o r
def removeK (a : Nat) : List (Nat × Nat × KObj) → List (Nat × Nat × KObj)
  | [] => []
  | (n, s', o') :: r => match Nat.beq n a with
    | true => removeK a r
    | false => (n, s', o') :: removeK a r
def KH.get (h : KH) (a : Nat) : Option KObj := match findK a h.blk with
  | some (_, o) => some o
  | none => none
def KH.put (h : KH) (a : Nat) (o : KObj) : KH := ⟨h.next, h.clock + 1, replaceK a h.clock o h.blk⟩
def KH.new (h : KH) (o : KObj) : KH := ⟨h.next + 1, h.clock + 1, (h.next, h.clock, o) :: h.blk⟩
def KH.drop (h : KH) (a : Nat) : KH := ⟨h.next, h.clock, removeK a h.blk⟩

theorem find_low (a : Nat) : ∀ l : List (Nat × Nat × KObj), Eng.find a (lowB l) = (findK a l).map fun p => (p.1, p.2.low)
  | [] => rfl
  | (n, s, o) :: r => by
    simp only [lowB, Eng.find, findK]
    cases Nat.beq n a with
    | true => rfl
    | false => exact find_low a r
theorem replace_low (a s : Nat) (o : KObj) : ∀ l : List (Nat × Nat × KObj), lowB (replaceK a s o l) = replace a s o.low (lowB l)
  | [] => rfl
  | (n, s', o') :: r => by
    simp only [lowB, replace, replaceK]
    cases Nat.beq n a with
    | true => rfl
    | false => simp only [lowB]; rw [replace_low a s o r]
theorem remove_low (a : Nat) : ∀ l : List (Nat × Nat × KObj), lowB (removeK a l) = remove a (lowB l)
  | [] => rfl
  | (n, s', o') :: r => by
    simp only [lowB, remove, removeK]
    cases Nat.beq n a with
    | true => exact remove_low a r
    | false => simp only [lowB]; rw [remove_low a r]
theorem low_get (h : KH) (a : Nat) : h.low.get a = (h.get a).map KObj.low := by
  unfold AH.get AH.find KH.low KH.get
  simp only
  rw [find_low]
  cases findK a h.blk with
  | none => rfl
  | some p => rfl
theorem low_put (h : KH) (a : Nat) (o : KObj) : (h.put a o).low = h.low.put a o.low := by simp [KH.low, KH.put, AH.put, replace_low]
theorem low_new (h : KH) (o : KObj) : (h.new o).low = h.low.new o.low := by simp [KH.low, KH.new, AH.new, lowB]
theorem low_drop (h : KH) (a : Nat) : (h.drop a).low = h.low.drop a := by simp [KH.low, KH.drop, AH.drop, remove_low]

/-- The numbers of a row. -/
def numsOf : List Value → Option (List Int)
  | [] => some []
  | .int _ n :: r => match numsOf r with
    | some l => some (n :: l)
    | none => none
  | _ :: _ => none
theorem numsOf_map (k : IntKind) : ∀ l : List Int, numsOf (l.map (.int k)) = some l
  | [] => rfl
  | n :: l => by simp only [List.map_cons, numsOf]; rw [numsOf_map k l]
/-- The numbers of a row, if they are of one kind. -/
def numsOfK (k : IntKind) : List Value → Option (List Int)
  | [] => some []
  | .int k' n :: r => match decide (k' = k), numsOfK k r with
    | true, some l => some (n :: l)
    | _, _ => none
  | _ :: _ => none
theorem numsOfK_eq {k : IntKind} : ∀ {vs : List Value} {l : List Int}, numsOfK k vs = some l → vs = l.map (.int k)
  | [], l, h => by cases h; rfl
  | v :: r, l, h => by
    cases v with
    | int k' n =>
      simp only [numsOfK] at h
      split at h
      · rename_i q hk hq
        cases h
        rw [of_decide_eq_true hk, numsOfK_eq hq]; rfl
      · cases h
    | _ => simp only [numsOfK] at h; cases h

section
variable {β : Type} (P : Program) (C : Cfg)

/-- What goes on with a value and with the memory. -/
abbrev Kont (β : Type) := Value → KH → Option β

def optK (x : Option Value) (h : KH) (k : Kont β) : Option β :=
  match x with
  | some v => k v h
  | none => none

def loadK (t : TypeId) (x : Value) (h : KH) (k : Kont β) : Option β :=
  match x with
  | .pointer (some ⟨a, off, none⟩) => match h.get a with
    | some (.ints kd l _ _) => match isAggT P t with
      | some false => match l[off]? with
        | some n => k (.int kd n) h
        | none => none
      | _ => none
    | _ => optK (loadV P t x h.low.get) h k
  | _ => none

def storeK (t : TypeId) (x v : Value) (h : KH) (k : Kont β) : Option β :=
  match x with
  | .pointer (some ⟨a, off, none⟩) => match h.get a, P.info? t with
    | some (.ints kd l e true), some i => match v with
      | .int kv n => match decide (kv = kd) && Nat.beq i.size 1 with
        | true => bif Nat.ble (off + 1) l.length then k undef (h.put a (.ints kd (l.set off n) e true)) else none
        | false => none
      | _ => none
    | some (.cells c e true), some i =>
      match Nat.beq v.cells.toList.length i.size && Nat.ble (off + i.size) c.length && v.cells.toList.all Value.oneCell' with
      | true => k undef (h.put a (.cells (splice c off v.cells.toList) e true))
      | false => none
    | _, _ => none
  | _ => none

def indexAddrK (t : TypeId) (x i : Value) (h : KH) (k : Kont β) : Option β :=
  match P.underlying t, x, i with
  | some (.array n e), .pointer (some ⟨a, off, none⟩), .int _ i => match P.info? e with
    | some ie => if 0 ≤ i ∧ i < n then k (.pointer (some ⟨a, off + i.toNat * ie.size, none⟩)) h else none
    | none => none
  | some (.slice e), .slice (some ⟨a, off, none⟩) n _, .int _ i => match P.info? e with
    | some ie => if 0 ≤ i ∧ i < n then k (.pointer (some ⟨a, off + i.toNat * ie.size, none⟩)) h else none
    | none => none
  | _, _, _ => none

def indexK (t : TypeId) (x i : Value) (h : KH) (k : Kont β) : Option β :=
  match P.underlying t, x, i with
  | some .string, .string s, .int _ i => if 0 ≤ i then (match s.data.toList[i.toNat]? with
    | some b => k (.int .u8 b.toNat) h
    | none => none) else none
  | _, _, _ => optK (indexV P t x i) h k

def eqFsK (eq : TypeId → Value → Value → Option Bool) (xs ys : List Value) : List Field → Option Bool
  | [] => some true
  | f :: fs => if f.name = "_" then eqFsK eq xs ys fs else
    match partV P f.type xs f.offset, partV P f.type ys f.offset with
    | some a, some b => match eq f.type a b, eqFsK eq xs ys fs with
      | some p, some q => some (p && q)
      | _, _ => none
    | _, _ => none
def eqVK : Nat → TypeId → Value → Value → Option Bool
  | 0, _, _, _ => none
  | n + 1, t, x, y => match P.underlying t, x, y with
    | some (.struct fs), .agg xs, .agg ys => match C.eqT.contains t with
      | true => eqFsK P (eqVK n) xs.toList ys.toList fs.toList
      | false => none
    | _, _, _ => eqV P C (n + 1) t x y

def binK (op : BinOp) (t : TypeId) (x y : Operand) (u v : Value) (h : KH) (k : Kont β) : Option β :=
  match u, v with
  | .int kd a, .int kd' b => match op with
    | .shl => bif decide (b < 0) then none else k (.int kd (kd.wrap (a * 2 ^ (min b.toNat kd.bits)))) h
    | .shr => bif decide (b < 0) then none else k (.int kd (a.fdiv (2 ^ (min b.toNat kd.bits)))) h
    | .quo => match decide (kd = kd') with
      | true => bif decide (b = 0) then none else k (.int kd (kd.wrap (a.tdiv b))) h
      | false => none
    | .rem => match decide (kd = kd') with
      | true => bif decide (b = 0) then none else k (.int kd (a.tmod b)) h
      | false => none
    | op => optK (binV P C op t x y u v) h k
  | .agg _, .agg _ => match C.eqT.contains t with
    | true => (match op with
      | .eql => (match eqVK P C 12 t u v with
        | some b => k (.bool b) h
        | none => none)
      | .neq => (match eqVK P C 12 t u v with
        | some b => k (.bool (!b)) h
        | none => none)
      | _ => none)
    | false => none
  | .string a, .string b => match op with
    | .add => bif decide (((a.size + b.size : Nat) : Int) > 4294967296) then none else k (.string (a ++ b)) h
    | op => optK (binV P C op t x y u v) h k
  | _, _ => optK (binV P C op t x y u v) h k

def bytesOfNums (l : List Int) : ByteArray := ⟨(l.map fun n => UInt8.ofNat n.toNat).toArray⟩

def convK (s d : TypeId) (x : Value) (h : KH) (k : Kont β) : Option β :=
  match P.underlying s, P.underlying d, x with
  | some (.slice e), some .string, .slice (some ⟨a, off, none⟩) n c => match P.underlying e, h.get a with
    | some (.int .u8), some (.ints .u8 l _ _) => bif Nat.ble (off + n) l.length then k (.string (bytesOfNums ((l.drop off).take n))) h else none
    | _, _ => optK (convV P s d x h.low.get) h k
  | _, _, _ => optK (convV P s d x h.low.get) h k

/-- A bound of a slicing. -/
def boundK (x : Option Value) (y dflt : Nat) (k : Nat → Option β) : Option β :=
  match x with
  | none => k dflt
  | some (.int _ i) => if 0 ≤ i ∧ i ≤ y then k i.toNat else none
  | some _ => none
def sliceK (t : TypeId) (x : Value) (lo hi mx : Option Value) (h : KH) (k : Kont β) : Option β :=
  match P.underlying t, x, mx with
  | some .string, .string s, none =>
    boundK hi s.size s.size fun hh => boundK lo hh 0 fun l => k (.string (s.extract l hh)) h
  | some (.slice e), .slice a len cap, _ => match P.info? e with
    | some i => boundK mx cap cap fun m => (match hi, mx with
      | none, some _ => none
      | hi, _ => boundK hi m len fun hh => boundK lo hh 0 fun l =>
        bif Nat.ble l hh && Nat.ble hh m then (match a with
          | none => k (.slice none (hh - l) (m - l)) h
          | some ⟨a, off, none⟩ => bif Nat.beq m l then k (.slice (some ⟨a, off, none⟩) (hh - l) (m - l)) h else k (.slice (some ⟨a, off + l * i.size, none⟩) (hh - l) (m - l)) h
          | _ => none) else none)
    | none => none
  | _, _, _ => optK (sliceV P t x lo hi mx) h k

def makeK (t : TypeId) (l c : Value) (h : KH) (k : Kont β) : Option β :=
  match P.underlying t, l, c with
  | some (.slice e), .int _ l, .int _ c => match P.info? e, zeroV P e with
    | some i, some (.int kd z) =>
      if 0 ≤ l ∧ l ≤ c ∧ (i.bytes : Int) * c ≤ 1099511627776 ∧ c ≤ 1099511627776 then (match Nat.beq i.size 1 with
        | true => k (.slice (some ⟨h.next, 0, none⟩) l.toNat c.toNat) (h.new (.ints kd (List.replicate c.toNat z) e true))
        | false => none) else none
    | _, _ => none
  | _, _, _ => none

/-- What is appended. -/
inductive News where
  | vals (vs : List Value)
  | nums (k : IntKind) (l : List Int)
def newsK (x : Value) (size m : Nat) (h : KH) (k : News → Option β) : Option β :=
  match x with
  | .slice (some ⟨a, off, none⟩) _ _ => match h.get a with
    | some (.cells c _ _) => match Nat.ble (off + m * size) c.length with
      | true => k (.vals ((c.drop off).take (m * size)))
      | false => none
    | some (.ints kd l _ _) => match Nat.beq size 1 with
      | true => bif Nat.ble (off + m) l.length then k (.nums kd ((l.drop off).take m)) else none
      | false => none
    | _ => none
  | _ => none
def News.low : News → List Value
  | .vals vs => vs
  | .nums k l => l.map (.int k)
/-- The news as numbers of a kind. -/
def News.num (kd : IntKind) : News → Option (List Int)
  | .vals vs => numsOfK kd vs
  | .nums k l => match decide (k = kd) with
    | true => some l
    | false => none
def News.ok : News → Bool
  | .vals vs => vs.all Value.oneCell'
  | .nums _ _ => true
def News.obj (e : TypeId) : News → KObj
  | .vals vs => .cells vs e true
  | .nums k l => .ints k l e true

def appendK (t : TypeId) (s x : Value) (h : KH) (k : Kont β) : Option β :=
  match P.underlying t, s, x with
  | some (.slice e), .slice base n c, .slice xb m xc => match P.info? e, zeroV P e with
    | some i, some z => bif Nat.beq m 0 then (bif Nat.ble n c then k (.slice base n c) h else none) else
        newsK (.slice xb m xc) i.size m h fun vs =>
        match Nat.blt 0 i.size && Nat.beq z.cells.toList.length i.size && vs.ok with
        | false => none
        | true =>
        bif Nat.ble ((n + m) * (i.bytes + 1)) 1099511627776 then
        (bif Nat.ble (n + m) c then (match base with
          | some ⟨a, off, none⟩ => match h.get a with
            | some (.cells cs e' true) => bif Nat.ble (off + (n + m) * i.size) cs.length then
                k (.slice (some ⟨a, off, none⟩) (n + m) c) (h.put a (.cells (splice cs (off + n * i.size) vs.low) e' true)) else none
            | some (.ints kd l e' true) => match Nat.beq i.size 1, vs.num kd with
              | true, some ws => bif Nat.ble (off + (n + m)) l.length then
                k (.slice (some ⟨a, off, none⟩) (n + m) c) (h.put a (.ints kd (l.take (off + n) ++ ws ++ l.drop (off + n + ws.length)) e' true)) else none
              | _, _ => none
            | _ => none
          | _ => none)
        else (match base with
          | none => match Nat.beq n 0 && Nat.beq c 0 with
            | true => k (.slice (some ⟨h.next, 0, none⟩) m m) (h.new (vs.obj e))
            | false => none
          | some ⟨a, 0, none⟩ => match h.get a with
            | some (.cells cs e' true) => bif Nat.ble (n * i.size) cs.length && Nat.beq e' e && Nat.ble 1 c then
                k (.slice (some ⟨h.next, 0, none⟩) (n + m) (n + m)) ((h.drop a).new (.cells (cs.take (n * i.size) ++ vs.low) e true)) else none
            | some (.ints kd l e' true) => match Nat.beq i.size 1 && Nat.beq e' e, vs.num kd with
              | true, some ws => bif Nat.ble n l.length && Nat.ble 1 c then
                k (.slice (some ⟨h.next, 0, none⟩) (n + m) (n + m)) ((h.drop a).new (.ints kd (l.take n ++ ws) e true)) else none
              | _, _ => none
            | _ => none
          | _ => none)) else none
    | _, _ => none
  | _, _, _ => none

/-- The numbers that are copied from. -/
def srcK (x : Value) (n m : Nat) (h : KH) (k : IntKind → List Int → Option β) : Option β :=
  match x with
  | .slice (some ⟨a, off, none⟩) _ _ => match h.get a with
    | some (.ints kd l _ _) => bif Nat.ble (off + min m n) l.length then k kd ((l.drop off).take (min m n)) else none
    | _ => none
  | .string s => k .u8 ((s.data.toList.take n).map fun (b : UInt8) => (b.toNat : Int))
  | _ => none
def copyK (t : TypeId) (d x : Value) (h : KH) (k : Kont β) : Option β :=
  match P.underlying t, d with
  | some (.slice e), .slice base n _ => match P.info? e, (match x with | .slice _ m _ => some m | .string s => some s.size | _ => none) with
    | some i, some m => match Nat.beq i.size 1 with
      | false => none
      | true => bif Nat.beq (min m n) 0 then k (.int .i64 0) h else (match base with
        | some ⟨a, off, none⟩ => match h.get a with
          | some (.ints kd l e' true) => srcK x n m h fun ks ws => match decide (ks = kd) with
            | true => bif Nat.ble (off + ws.length) l.length && Nat.beq ws.length (min m n) then
              k (.int .i64 ws.length) (h.put a (.ints kd (l.take off ++ ws ++ l.drop (off + ws.length)) e' true)) else none
            | false => none
          | _ => none
        | _ => none)
    | _, _ => none
  | _, _ => none

end
end Go.Eng
/- The operations with a continuation do what the operations do. -/
namespace Go.Eng
set_option linter.unusedVariables false
set_option linter.unusedSimpArgs false
open Go
set_option linter.unusedVariables false
set_option linter.unusedSimpArgs false

theorem cond_some {β : Type} {b : Bool} {x : Option β} {r : β} (h : (bif b then x else none) = some r) : b = true ∧ x = some r := by
  cases b with
  | true => exact ⟨rfl, h⟩
  | false => cases h
theorem cond_none {β : Type} {b : Bool} {x : Option β} {r : β} (h : (bif b then none else x) = some r) : b = false ∧ x = some r := by
  cases b with
  | false => exact ⟨rfl, h⟩
  | true => cases h

section
variable {β : Type} {P : Program} {C : Cfg} {r : β}

theorem optK_ok {x : Option Value} {h : KH} {k : Kont β} (hk : optK x h k = some r) : ∃ v, x = some v ∧ k v h = some r := by
  unfold optK at hk
  split at hk
  · exact ⟨_, rfl, hk⟩
  · cases hk

theorem loadK_ok {t : TypeId} {x : Value} {h : KH} {k : Kont β} (hk : loadK P t x h k = some r) : ∃ v, loadV P t x h.low.get = some v ∧ k v h = some r := by
  unfold loadK at hk
  split at hk
  · rename_i a off
    split at hk
    · rename_i kd l e rw hg
      split at hk
      · rename_i ha
        split at hk
        · rename_i n hn
          refine ⟨_, ?_, hk⟩
          simp only [loadV, low_get, hg, Option.map_some, KObj.low, ha]
          rw [List.getElem?_map, hn]; rfl
        · cases hk
      · cases hk
    · exact optK_ok hk
  · cases hk

theorem storeK_ok {t : TypeId} {x v : Value} {h : KH} {k : Kont β} (hk : storeK P t x v h k = some r) : ∃ h', storeV P t x v h.low = some h'.low ∧ k undef h' = some r := by
  unfold storeK at hk
  split at hk
  · rename_i a off
    split at hk
    · rename_i kd l e i hg hi
      split at hk
      · rename_i kv n
        split at hk
        · rename_i hc
          simp only [Bool.and_eq_true, decide_eq_true_eq] at hc
          obtain ⟨rfl, hsz⟩ := hc
          have hsz := beq_true hsz
          obtain ⟨hle, hk⟩ := cond_some hk
          have hle := Nat.le_of_ble_eq_true hle
          refine ⟨_, ?_, hk⟩
          have hcell : (Value.int kv n).cells.toList = [Value.int kv n] := rfl
          simp only [storeV, low_get, hg, hi, Option.map_some, KObj.low, hcell]
          have hb : (Nat.beq [Value.int kv n].length i.size && Nat.ble (off + i.size) (l.map (Value.int kv)).length && [Value.int kv n].all Value.oneCell') = true := by
            simp [hsz, Value.oneCell']; exact hle
          rw [hb]
          simp only [cond_true]
          rw [low_put]
          have : splice (l.map (Value.int kv)) off [Value.int kv n] = (l.set off n).map (Value.int kv) := by
            unfold splice
            rw [List.map_set]
            have hl : off < (l.map (Value.int kv)).length := by simp; omega
            rw [List.set_eq_take_append_cons_drop, if_pos hl]
            simp
          rw [this]; rfl
        · cases hk
      · cases hk
    · rename_i c e i hg hi
      split at hk
      · rename_i hb
        refine ⟨_, ?_, hk⟩
        simp only [storeV, low_get, hg, hi, Option.map_some, KObj.low, hb, cond_true]
        rw [low_put]; rfl
      · cases hk
    · cases hk
  · cases hk

theorem indexAddrK_ok {t : TypeId} {x i : Value} {h : KH} {k : Kont β} (hk : indexAddrK P t x i h k = some r) : ∃ v, indexAddrV P t x i = some v ∧ k v h = some r := by
  unfold indexAddrK at hk
  split at hk
  · rename_i hu
    split at hk
    · rename_i ie he
      split at hk
      · rename_i hc; exact ⟨_, by simp only [indexAddrV, hu, he]; rw [if_pos hc], hk⟩
      · cases hk
    · cases hk
  · rename_i hu
    split at hk
    · rename_i ie he
      split at hk
      · rename_i hc; exact ⟨_, by simp only [indexAddrV, hu, he]; rw [if_pos hc], hk⟩
      · cases hk
    · cases hk
  · cases hk

theorem indexK_ok {t : TypeId} {x i : Value} {h : KH} {k : Kont β} (hk : indexK P t x i h k = some r) : ∃ v, indexV P t x i = some v ∧ k v h = some r := by
  unfold indexK at hk
  split at hk
  · rename_i hu
    split at hk
    · rename_i hc
      split at hk
      · rename_i b hb; exact ⟨_, by simp only [indexV, hu]; rw [if_pos hc, hb], hk⟩
      · cases hk
    · cases hk
  · exact optK_ok hk

theorem eqFsK_ok {eqK eq : TypeId → Value → Value → Option Bool} (ih : ∀ t x y b, eqK t x y = some b → eq t x y = some b) (xs ys : List Value) : ∀ (fs : List Field) (b : Bool), eqFsK P eqK xs ys fs = some b → eqFs P eq xs ys fs = some b
  | [], b, h => h
  | f :: fs, b, h => by
    simp only [eqFsK] at h
    simp only [eqFs]
    split at h
    · rename_i hn; rw [if_pos hn]; exact eqFsK_ok ih xs ys fs b h
    · rename_i hn
      rw [if_neg hn]
      split at h
      · rename_i u v hu hv
        split at h
        · rename_i p q hp hq
          cases h
          rw [hu, hv]
          simp only
          rw [ih _ _ _ _ hp]
          cases p with
          | true => simp only [Bool.true_and]; exact eqFsK_ok ih xs ys fs q hq
          | false => rfl
        · cases h
      · cases h
theorem eqVK_ok : ∀ (n : Nat) (t : TypeId) (x y : Value) (b : Bool), eqVK P C n t x y = some b → eqV P C n t x y = some b
  | 0, t, x, y, b, h => by cases h
  | n + 1, t, x, y, b, h => by
    simp only [eqVK] at h
    split at h
    · rename_i hu
      split at h
      · rename_i hc
        simp only [eqV, hu, hc, cond_true]
        exact eqFsK_ok (eqVK_ok n) _ _ _ b h
      · cases h
    · exact h

theorem binK_ok {op : BinOp} {t : TypeId} {x y : Operand} {u v : Value} {h : KH} {k : Kont β} (hk : binK P C op t x y u v h k = some r) : ∃ z, binV P C op t x y u v = some z ∧ k z h = some r := by
  unfold binK at hk
  split at hk
  · rename_i kd a kd' b
    split at hk
    · obtain ⟨hb, hk⟩ := cond_none hk
      refine ⟨_, ?_, hk⟩
      simp only [binV, shiftV]
      rw [if_neg (of_decide_eq_false hb)]
    · obtain ⟨hb, hk⟩ := cond_none hk
      refine ⟨_, ?_, hk⟩
      simp only [binV, shiftV]
      rw [if_neg (of_decide_eq_false hb)]
    · split at hk
      · rename_i hkd
        obtain ⟨hb, hk⟩ := cond_none hk
        refine ⟨_, ?_, hk⟩
        simp only [binV, intV]
        rw [if_pos (of_decide_eq_true hkd), if_neg (of_decide_eq_false hb)]
      · cases hk
    · split at hk
      · rename_i hkd
        obtain ⟨hb, hk⟩ := cond_none hk
        refine ⟨_, ?_, hk⟩
        simp only [binV, intV]
        rw [if_pos (of_decide_eq_true hkd), if_neg (of_decide_eq_false hb)]
      · cases hk
    · exact optK_ok hk
  · split at hk
    · rename_i hc
      split at hk
      · split at hk
        · rename_i b hb
          exact ⟨_, by simp only [binV, hc, cond_true]; rw [eqVK_ok _ _ _ _ _ hb]; rfl, hk⟩
        · cases hk
      · split at hk
        · rename_i b hb
          exact ⟨_, by simp only [binV, hc, cond_true]; rw [eqVK_ok _ _ _ _ _ hb]; rfl, hk⟩
        · cases hk
      · cases hk
    · cases hk
  · split at hk
    · obtain ⟨hb, hk⟩ := cond_none hk
      refine ⟨_, ?_, hk⟩
      simp only [binV, strV]
      rw [if_neg (of_decide_eq_false hb)]
    · exact optK_ok hk
  · exact optK_ok hk

theorem bytesOf_nums : ∀ l : List Int, bytesOfCells (l.map (.int .u8)) = some (l.map fun n => UInt8.ofNat n.toNat)
  | [] => rfl
  | n :: l => by simp only [List.map_cons, bytesOfCells]; rw [bytesOf_nums l]; rfl

theorem convK_ok {s d : TypeId} {x : Value} {h : KH} {k : Kont β} (hk : convK P s d x h k = some r) : ∃ v, convV P s d x h.low.get = some v ∧ k v h = some r := by
  unfold convK at hk
  split at hk
  · rename_i hs hd
    split at hk
    · rename_i l e rw hu hg
      obtain ⟨hb, hk⟩ := cond_some hk
      refine ⟨_, ?_, hk⟩
      simp only [convV, hs, hd, hu, low_get, hg, Option.map_some, KObj.low, List.length_map, hb, cond_true]
      rw [← List.map_drop, ← List.map_take, bytesOf_nums]
      rfl
    · exact optK_ok hk
  · exact optK_ok hk

theorem boundK_ok {x : Option Value} {y d : Nat} {k : Nat → Option β} (hk : boundK x y d k = some r) : ∃ b, (match x with | some v => boundV v y | none => some d) = some b ∧ k b = some r := by
  unfold boundK at hk
  split at hk
  · exact ⟨d, rfl, hk⟩
  · split at hk
    · rename_i hc; exact ⟨_, by simp only [boundV]; rw [if_pos hc], hk⟩
    · cases hk
  · cases hk

theorem boundsV_of {len cap : Nat} {lo hi mx : Option Value} {m hh l : Nat} (h1 : (match mx with | some v => boundV v cap | none => some cap) = some m)
    (h2 : (match hi with | some v => boundV v m | none => some len) = some hh) (hn : hi = none → mx = none) (h3 : (match lo with | some v => boundV v hh | none => some 0) = some l) : boundsV len cap lo hi mx = some (l, hh, m) := by
  unfold boundsV
  cases hi with
  | none =>
    cases hn rfl
    cases h1; cases h2
    cases lo with
    | none => cases h3; rfl
    | some v => dsimp only at h3 ⊢; rw [h3]
  | some u =>
    cases mx with
    | none =>
      cases h1
      dsimp only at h2 ⊢; rw [h2]
      cases lo with
      | none => cases h3; rfl
      | some v => dsimp only at h3 ⊢; rw [h3]
    | some x =>
      dsimp only at h1 h2 ⊢; rw [h1]; dsimp only; rw [h2]
      cases lo with
      | none => cases h3; rfl
      | some v => dsimp only at h3 ⊢; rw [h3]

theorem sliceK_ok {t : TypeId} {x : Value} {lo hi mx : Option Value} {h : KH} {k : Kont β} (hk : sliceK P t x lo hi mx h k = some r) : ∃ v, sliceV P t x lo hi mx = some v ∧ k v h = some r := by
  unfold sliceK at hk
  split at hk
  · rename_i s hu
    obtain ⟨hh, h1, hk⟩ := boundK_ok hk
    obtain ⟨l, h2, hk⟩ := boundK_ok hk
    refine ⟨_, ?_, hk⟩
    unfold sliceV
    rw [hu]
    dsimp only
    rw [boundsV_of (mx := none) (cap := s.size) rfl h1 (fun _ => rfl) h2]
  · rename_i e a ln cap hu
    split at hk
    · rename_i i hi'
      obtain ⟨m, h1, hk⟩ := boundK_ok hk
      split at hk
      · cases hk
      · rename_i hhi hno
        obtain ⟨hh, h2, hk⟩ := boundK_ok hk
        obtain ⟨l, h3, hk⟩ := boundK_ok hk
        obtain ⟨hb, hk⟩ := cond_some hk
        simp only [Bool.and_eq_true, Nat.ble_eq] at hb
        have hbs := boundsV_of (len := ln) h1 h2 (fun e => Option.eq_none_iff_forall_ne_some.2 fun v hv => hno v e hv) h3
        unfold sliceV
        rw [hu]
        dsimp only
        rw [hi', hbs]
        dsimp only
        rw [if_neg (by simp only [Classical.not_not]; exact hb)]
        split at hk
        · exact ⟨_, rfl, hk⟩
        · cases he : Nat.beq m l with
          | true => rw [he] at hk; exact ⟨_, by simp only; rw [if_pos (beq_true he)], hk⟩
          | false => rw [he] at hk; exact ⟨_, by simp only; rw [if_neg (beq_false he)], hk⟩
        · cases hk
    · cases hk
  · exact optK_ok hk

theorem repL_one (n : Nat) (v : Value) : repL n [v] = List.replicate n v := by
  induction n with
  | zero => rfl
  | succ n ih => simp only [repL, List.replicate_succ]; rw [ih]; rfl

theorem makeK_ok {t : TypeId} {l c : Value} {h : KH} {k : Kont β} (hk : makeK P t l c h k = some r) :
    ∃ o n m h', makeV P t l c = some (.sl o n m) ∧ h'.low = h.low.new o ∧ k (.slice (some ⟨h.next, 0, none⟩) n m) h' = some r := by
  unfold makeK at hk
  split at hk
  · rename_i e k1 l k2 c hu
    split at hk
    · rename_i i kd z hi hz
      split at hk
      · rename_i hc
        split at hk
        · rename_i hsz
          have hsz := beq_true hsz
          refine ⟨.cells ((List.replicate c.toNat z).map (.int kd)) e true, _, _, _, ?_, ?_, hk⟩
          · simp only [makeV, hu, hi, hz]
            have hcl : (Value.int kd z).cells.toList = [Value.int kd z] := rfl
            rw [if_pos ⟨hc.1, hc.2.1, hc.2.2.1, hc.2.2.2, by rw [hcl, hsz]; rfl, by omega⟩]
            rw [hcl, repL_one, List.map_replicate]
          · rw [low_new]; rfl
        · cases hk
      · cases hk
    · cases hk
  · cases hk

theorem newsK_ok {x : Value} {size m : Nat} {h : KH} {k : News → Option β} (hk : newsK x size m h k = some r) : ∃ v, newsV x size m h.low = some v.low ∧ k v = some r := by
  unfold newsK at hk
  split at hk
  · split at hk
    · rename_i c e rw hg
      split at hk
      · rename_i hb
        exact ⟨_, by simp only [newsV, low_get, hg, Option.map_some, KObj.low, hb, cond_true]; rfl, hk⟩
      · cases hk
    · rename_i kd l e rw hg
      split at hk
      · rename_i hsz
        have hsz := beq_true hsz
        subst hsz
        obtain ⟨hb, hk⟩ := cond_some hk
        refine ⟨_, ?_, hk⟩
        simp only [newsV, low_get, hg, Option.map_some, KObj.low, List.length_map, Nat.mul_one, hb, cond_true, News.low]
        rw [← List.map_drop, ← List.map_take]
      · cases hk
    · cases hk
  · cases hk

theorem News.ok_low {v : News} (h : v.ok = true) : v.low.all Value.oneCell' = true := by
  cases v with
  | vals vs => exact h
  | nums k l => simp [News.low, Value.oneCell']
theorem News.num_low {v : News} {kd : IntKind} {ws : List Int} (h : v.num kd = some ws) : v.low = ws.map (.int kd) := by
  cases v with
  | vals vs => exact numsOfK_eq h
  | nums k l =>
    simp only [News.num] at h
    split at h
    · rename_i hk; cases h; rw [of_decide_eq_true hk]; rfl
    · cases h
theorem News.obj_low (e : TypeId) (v : News) : (v.obj e).low = .cells v.low e true := by cases v <;> rfl

theorem appendK_ok {t : TypeId} {s x : Value} {h : KH} {k : Kont β} (hk : appendK P t s x h k = some r) : ∃ v h', appendV P t s x h.low = some (v, h'.low) ∧ k v h' = some r := by
  unfold appendK at hk
  split at hk
  · rename_i e base n c xb m xc hu
    split at hk
    · rename_i i z hi hz
      simp only [appendV, hu, hi, hz]
      cases hm : Nat.beq m 0 with
      | true =>
        rw [hm] at hk
        obtain ⟨hb, hk⟩ := cond_some hk
        exact ⟨_, h, by simp only [cond_true, hb], hk⟩
      | false =>
        rw [hm] at hk
        simp only [cond_false] at hk ⊢
        obtain ⟨vs, hv, hk⟩ := newsK_ok hk
        rw [hv]
        simp only
        split at hk
        · cases hk
        · rename_i hcond
          simp only [Bool.and_eq_true, Nat.blt_eq] at hcond
          obtain ⟨⟨c1, c2⟩, c3⟩ := hcond
          obtain ⟨hlim, hk⟩ := cond_some hk
          rw [if_neg (by simp only [Classical.not_not]; exact ⟨c1, beq_true c2, News.ok_low c3, Nat.le_of_ble_eq_true hlim⟩)]
          cases hnc : Nat.ble (n + m) c with
          | true =>
            rw [hnc] at hk
            simp only [cond_true] at hk ⊢
            split at hk
            · rename_i a off
              split at hk
              · rename_i cs e' hg
                obtain ⟨hb, hk⟩ := cond_some hk
                exact ⟨_, _, by simp only [low_get, hg, Option.map_some, KObj.low, hb, cond_true]; rw [low_put]; rfl, hk⟩
              · rename_i kd l e' hg
                split at hk
                · rename_i ws hsz hws
                  have hsz := beq_true hsz
                  obtain ⟨hb, hk⟩ := cond_some hk
                  refine ⟨_, _, ?_, hk⟩
                  simp only [low_get, hg, Option.map_some, KObj.low, hsz, Nat.mul_one, List.length_map, hb, cond_true]
                  rw [low_put, News.num_low hws]
                  simp only [KObj.low, splice, List.map_append, List.map_take, List.map_drop, List.length_map]
                · cases hk
              · cases hk
            · cases hk
          | false =>
            rw [hnc] at hk
            simp only [cond_false] at hk ⊢
            split at hk
            · split at hk
              · rename_i hb
                refine ⟨_, _, ?_, hk⟩
                simp only [hb, cond_true]
                rw [low_new, News.obj_low]; rfl
              · cases hk
            · rename_i a
              split at hk
              · rename_i cs e' hg
                obtain ⟨hb, hk⟩ := cond_some hk
                exact ⟨_, _, by simp only [low_get, hg, Option.map_some, KObj.low, hb, cond_true]; rw [low_new, low_drop]; rfl, hk⟩
              · rename_i kd l e' hg
                split at hk
                · rename_i ws hsz hws
                  simp only [Bool.and_eq_true] at hsz
                  have hs1 := beq_true hsz.1
                  obtain ⟨hb, hk⟩ := cond_some hk
                  simp only [Bool.and_eq_true] at hb
                  refine ⟨_, _, ?_, hk⟩
                  simp only [low_get, hg, Option.map_some, KObj.low, hs1, Nat.mul_one, List.length_map, hb.1, hb.2, hsz.2, Bool.and_true, cond_true]
                  rw [low_new, low_drop, News.num_low hws]
                  simp only [KObj.low, List.map_append, List.map_take]; rfl
                · cases hk
              · cases hk
            · cases hk
    · cases hk
  · cases hk

theorem srcK_slice {a : Option Addr} {n m q c : Nat} {h : KH} {k : IntKind → List Int → Option β} (hk : srcK (.slice a q c) n m h k = some r) :
    ∃ kd ws, newsV (.slice a q c) 1 (min m n) h.low = some (ws.map (.int kd)) ∧ k kd ws = some r := by
  unfold srcK at hk
  split at hk
  · rename_i heq
    cases heq
    split at hk
    · rename_i kd l e rw hg
      obtain ⟨hb, hk⟩ := cond_some hk
      refine ⟨kd, _, ?_, hk⟩
      simp only [newsV, low_get, hg, Option.map_some, KObj.low, List.length_map, Nat.mul_one, hb, cond_true]
      rw [← List.map_drop, ← List.map_take]
    · cases hk
  · rename_i heq; cases heq
  · cases hk

theorem copyK_ok {t : TypeId} {d x : Value} {h : KH} {k : Kont β} (hk : copyK P t d x h k = some r) : ∃ v h', copyV P t d x h.low = some (v, h'.low) ∧ k v h' = some r := by
  unfold copyK at hk
  split at hk
  · rename_i e base n c hu
    split at hk
    · rename_i i m hi hm
      split at hk
      · cases hk
      · rename_i hsz
        cases x with
        | slice xa xn xc =>
          cases hm
          unfold copyV
          simp only [hu, hi, hsz, cond_true]
          cases h0 : Nat.beq (min m n) 0 with
          | true => rw [h0] at hk; exact ⟨_, h, rfl, hk⟩
          | false =>
            rw [h0] at hk
            simp only [cond_false] at hk ⊢
            split at hk
            · rename_i a off
              split at hk
              · rename_i kd l e' hg
                obtain ⟨ks, ws, hs, hk⟩ := srcK_slice hk
                split at hk
                · rename_i hkk
                  have hkk := of_decide_eq_true hkk
                  subst hkk
                  obtain ⟨hb, hk⟩ := cond_some hk
                  refine ⟨_, _, ?_, hk⟩
                  simp only [low_get, hg, Option.map_some, KObj.low]
                  rw [hs]
                  simp only [List.length_map]
                  have : (ws.map (Value.int ks)).all Value.oneCell' = true := by simp [Value.oneCell']
                  rw [this]
                  simp only [Bool.and_true, hb, cond_true]
                  rw [low_put]
                  simp only [KObj.low, splice, List.map_append, List.map_take, List.map_drop, List.length_map]
                · cases hk
              · cases hk
            · cases hk
        | string s =>
          cases hm
          unfold copyV
          simp only [hu, hi, hsz, cond_true]
          cases h0 : Nat.beq (min s.size n) 0 with
          | true => rw [h0] at hk; exact ⟨_, h, rfl, hk⟩
          | false =>
            rw [h0] at hk
            simp only [cond_false] at hk ⊢
            split at hk
            · rename_i a off
              split at hk
              · rename_i kd l e' hg
                simp only [srcK] at hk
                split at hk
                · rename_i hkk
                  have hkk := of_decide_eq_true hkk
                  subst hkk
                  obtain ⟨hb, hk⟩ := cond_some hk
                  refine ⟨_, _, ?_, hk⟩
                  simp only [low_get, hg, Option.map_some, KObj.low]
                  have e1 : ((s.data.toList.take n).map fun (b : UInt8) => Value.int .u8 (b.toNat : Int)) = ((s.data.toList.take n).map fun (b : UInt8) => (b.toNat : Int)).map (.int .u8) := by
                    rw [List.map_map]; rfl
                  rw [e1]
                  generalize (s.data.toList.take n).map (fun (b : UInt8) => (b.toNat : Int)) = ws at hb hk ⊢
                  simp only [List.length_map]
                  have : (ws.map (Value.int .u8)).all Value.oneCell' = true := by simp [Value.oneCell']
                  rw [this]
                  simp only [Bool.and_true, hb, cond_true]
                  rw [low_put]
                  simp only [KObj.low, splice, List.map_append, List.map_take, List.map_drop, List.length_map]
                · cases hk
              · cases hk
            · cases hk
        | _ => cases hm
    · cases hk
  · cases hk

end
end Go.Eng
/- Regions, code and calls with a continuation; and that they tell what the evaluator tells. -/
namespace Go.Eng
set_option linter.unusedVariables false
set_option linter.unusedSimpArgs false
open Go
set_option linter.unusedVariables false
set_option linter.unusedSimpArgs false

structure KSt where
  ts : List Value
  h : KH
def KSt.low (s : KSt) : St := ⟨s.ts, s.h.low⟩

abbrev CallK (β : Type) := FuncId → List Value → KH → Kont β → Option β

section
variable {β : Type} (P : Program) (C : Cfg)

def lresK (x : Option LRes) (h : KH) (k : Kont β) : Option β :=
  match x with
  | some (.val v) => k v h
  | some (.ptr ob) => k (.pointer (some ⟨h.next, 0, none⟩)) (h.new (.up ob))
  | some (.sl ob n c) => k (.slice (some ⟨h.next, 0, none⟩) n c) (h.new (.up ob))
  | some (.mp ob) => k (.map (some h.next)) (h.new (.up ob))
  | none => none

def mapUpdK (t : TypeId) (m y v : Value) (h : KH) (k : Kont β) : Option β :=
  match P.underlying t, m with
  | some (.map kt _), .map (some r) => match h.get r with
    | some (.map es clk) => match keyFits P kt y with
      | true => (match lookE y es 0 with
        | some (some (i, _)) => k undef (h.put r (.map (setE es i y v) clk))
        | some none => k undef (h.put r (.map (es ++ [(y, v, clk)]) (clk + 1)))
        | none => none)
      | false => none
    | _ => none
  | _, _ => none
def mapDelK (t : TypeId) (m y : Value) (h : KH) (k : Kont β) : Option β :=
  match P.underlying t, m with
  | some (.map kt _), .map (some r) => match h.get r with
    | some (.map es clk) => match keyFits P kt y with
      | true => (match lookE y es 0 with
        | some (some (i, _)) => k (.tuple #[]) (h.put r (.map (es.eraseIdx i) clk))
        | some none => k (.tuple #[]) (h.put r (.map es clk))
        | none => none)
      | false => none
    | _ => none
  | _, _ => none

def doK (Γ : CallK β) (o : Oper) (e : Operand → Value) (h : KH) (k : Kont β) : Option β :=
  match o.op with
  | .load t a => loadK P t (e a) h k
  | .store t a x => storeK P t (e a) (e x) h k
  | .indexAddr t x i => indexAddrK P t (e x) (e i) h k
  | .index t x i => indexK P t (e x) (e i) h k
  | .binOp op t x y _ => binK P C op t x y (e x) (e y) h k
  | .convert s d x => convK P s d (e x) h k
  | .slice t x lo hi mx => sliceK P t (e x) (lo.map e) (hi.map e) (mx.map e) h k
  | .makeSlice t l c => makeK P t (e l) (e c) h k
  | .mapUpdate t m y x => mapUpdK P t (e m) (e y) (e x) h k
  | .pick c a b => match e c with
    | .bool t => bif t then k (e a) h else k (e b) h
    | _ => none
  | .call ⟨.value _, _, _⟩ => match callOf P o e with
    | some (f, args) => Γ f args h k
    | none => none
  | .call ⟨.invoke _ _, _, _⟩ => match callOf P o e with
    | some (f, args) => Γ f args h k
    | none => none
  | .call ⟨.builtin .append, args, ts⟩ => match args.toList, ts.toList with
    | [s, x], [t, t'] => match Nat.beq t t' with
      | true => appendK P t (e s) (e x) h k
      | false => none
    | _, _ => none
  | .call ⟨.builtin .copy, args, ts⟩ => match args.toList, ts.toList with
    | [s, x], [t, _] => copyK P t (e s) (e x) h k
    | _, _ => none
  | .call ⟨.builtin .delete, args, ts⟩ => match args.toList, ts.toList with
    | [m, y], t :: _ => mapDelK P t (e m) (e y) h k
    | _, _ => none
  | _ => lresK (evL P C o e h.low.get) h k

/-- Where the operation has a guard: both ways, each with its test known. -/
def guardK (all : List Oper) (o : Oper) (ts : List Value) (x y : List Value → Option β) : Option β :=
  match o.guard with
  | none => x ts
  | some (j, want) => match all[j]? with
    | some q => match q.dst with
      | some d => match ts[d]? with
        | some (.bool b) => bif b then (match want with
            | true => x (ts.set d (.bool true))
            | false => y (ts.set d (.bool true)))
          else (match want with
            | true => y (ts.set d (.bool false))
            | false => x (ts.set d (.bool false)))
        | some v => match isDC v with
          | true => none
          | false => y ts
        | none => y ts
      | none => y ts
    | none => y ts

def evOpsK (Γ : CallK β) (all : List Oper) : List Oper → KSt → (KSt → Option β) → Option β
  | [], s, k => k s
  | o :: r, s, k => guardK all o s.ts
    (fun ts => doK P C Γ o (evalX ts) s.h fun v h => evOpsK Γ all r ⟨putL o.dst v ts, h⟩ k)
    (fun ts => evOpsK Γ all r ⟨putL o.dst undef ts, s.h⟩ k)

def seenK (ms : List Nat) (all : List Oper) (i : Nat) (o : Oper) (e : Operand → Value) (acc : List Nat) : List Nat :=
  match isRd o.op && looseAt ms all i 0 all with
  | true => (match readBlk o e with
    | some b => b :: acc
    | none => acc)
  | false => acc

def evDrawK (Γ : CallK β) (ms : List Nat) (all : List Oper) : Nat → List Oper → KSt → List Nat → (KSt → List Nat → Option β) → Option β
  | _, [], s, acc, k => k s acc
  | i, o :: r, s, acc, k => guardK all o s.ts
    (fun ts => doK P C Γ o (evalX ts) s.h fun v h => evDrawK Γ ms all (i + 1) r ⟨putL o.dst v ts, h⟩ (seenK ms all i o (evalX ts) acc) k)
    (fun ts => evDrawK Γ ms all (i + 1) r ⟨putL o.dst undef ts, s.h⟩ acc k)

def evRegionK (Γ : CallK β) (ops : Array Oper) (draw : Bool) (s : KSt) (k : KSt → Option β) : Option β :=
  match draw with
  | false => evOpsK P C Γ ops.toList ops.toList s k
  | true => evDrawK P C Γ (masks ops.toList []) ops.toList 0 ops.toList s [] fun s' bs => match unwritten s.h.clock s'.h.low bs with
    | true => k s'
    | false => none

def thenK (g : KSt → Option β) (k : Ex → KSt → Option β) (x : Ex) (s : KSt) : Option β :=
  match x with
  | .normal => g s
  | x => k x s
def blockK (id : Nat) (k : Ex → KSt → Option β) (x : Ex) (s : KSt) : Option β :=
  match x with
  | .exit i => (match Nat.beq i id with
    | true => k .normal s
    | false => k (.exit i) s)
  | x => k x s
def condK (q : Operand) (s : KSt) (x y : KSt → Option β) : Option β :=
  match q with
  | .tmp t => (match s.ts[t]? with
    | some (.bool b) => bif b then x ⟨s.ts.set t (.bool true), s.h⟩ else y ⟨s.ts.set t (.bool false), s.h⟩
    | _ => none)
  | q => match evalX s.ts q with
    | .bool b => bif b then x s else y s
    | _ => none
def loopNK (f : KSt → (Ex → KSt → Option β) → Option β) : Nat → KSt → (Ex → KSt → Option β) → Option β
  | 0, _, _ => none
  | n + 1, s, k => f s (thenK (fun s' => loopNK f n s' k) k)
def scopeNK (frm : Nat → Option (KSt → (Ex → KSt → Option β) → Option β)) : Nat → Nat → KSt → (Ex → KSt → Option β) → Option β
  | 0, _, _, _ => none
  | n + 1, l, s, k => match frm l with
    | none => k (.goto l) s
    | some f => f s fun x s' => match x with
      | .goto l' => scopeNK frm n l' s' k
      | x => k x s'

mutual
def evCK (Γ : CallK β) (n : Nat) : Code → KSt → (Ex → KSt → Option β) → Option β
  | .skip, s, k => k .normal s
  | .region _ ops draw, s, k => evRegionK P C Γ ops draw s (k .normal)
  | .seq a b, s, k => evCK Γ n a s (thenK (fun s' => evCK Γ n b s' k) k)
  | .cond c x y, s, k => condK c s (fun s' => evCK Γ n x s' k) (fun s' => evCK Γ n y s' k)
  | .block id b, s, k => evCK Γ n b s (blockK id k)
  | .loop b, s, k => loopNK (fun s k => evCK Γ n b s k) n s k
  | .exit id, s, k => k (.exit id) s
  | .scope b, s, k => evCK Γ n b s fun x s' => match x with
    | .goto l => scopeNK (fun l => evFK Γ n b l) n l s' k
    | x => k x s'
  | .label _, s, k => k .normal s
  | .goto l, s, k => k (.goto l) s
  | .ret, s, k => k .ret s
  | .rangeFunc _ _ _ _, _, _ => none
  | .refuse _, _, _ => none
def evFK (Γ : CallK β) (n : Nat) : Code → Nat → Option (KSt → (Ex → KSt → Option β) → Option β)
  | .seq a b, l => match evFK Γ n a l with
    | some f => some fun s k => f s (thenK (fun s' => evCK Γ n b s' k) k)
    | none => evFK Γ n b l
  | .label l', l => match Nat.beq l' l with
    | true => some fun s k => k .normal s
    | false => none
  | .skip, _ => none
  | .region _ _ _, _ => none
  | .cond _ _ _, _ => none
  | .block _ _, _ => none
  | .loop _, _ => none
  | .exit _, _ => none
  | .scope _, _ => none
  | .goto _, _ => none
  | .ret, _ => none
  | .rangeFunc _ _ _ _, _ => none
  | .refuse _, _ => none
end

def outK (rs : List ResultVar) (k : Kont β) (x : Ex) (s : KSt) : Option β :=
  match x with
  | .normal => (match resL P s.low rs with
    | some l => k (oneOf l) s.h
    | none => none)
  | .ret => (match resL P s.low rs with
    | some l => k (oneOf l) s.h
    | none => none)
  | _ => none
def firstK (args : List Value) (n : Nat) (h : KH) : KSt := ⟨args ++ List.replicate (n - args.length) undef, h⟩
def evFnK (Γ : CallK β) (n : Nat) (c : Code) (m : Nat) (rs : List ResultVar) (args : List Value) (h : KH) (k : Kont β) : Option β :=
  evCK P C Γ n c (firstK args m h) (outK P rs k)

/-- A table of answers to calls. -/
abbrev TabK (β : Type) := FuncId → Option (List Value → KH → Kont β → Option β)
def noT : TabK β := fun _ => none

def runK (fs : List FuncId) (T : TabK β) (n : Nat) : Nat → CallK β
  | 0, _, _, _, _ => none
  | d + 1, f, args, h, k => match T f with
    | some g => g args h k
    | none => match fs.contains f with
      | true => match P.funcs[f]? with
        | some fn => match fn.body with
          | some c => evFnK P C (runK fs T n d) n c fn.ntmps fn.results.toList args h k
          | none => none
        | none => none
      | false => none
end

section
variable {β : Type} {P : Program} {C : Cfg} {r : β}

theorem lresK_ok {o : Oper} {e : Operand → Value} {h : KH} {k : Kont β} (hk : lresK (evL P C o e h.low.get) h k = some r) : ∃ v h', doL P C o e h.low = some (v, h'.low) ∧ k v h' = some r := by
  unfold lresK at hk
  unfold doL
  split at hk
  · rename_i v hv; exact ⟨_, h, by rw [hv], hk⟩
  · rename_i ob hv; exact ⟨_, _, by rw [hv]; simp only [low_new, KObj.low_up]; rfl, hk⟩
  · rename_i ob n c hv; exact ⟨_, _, by rw [hv]; simp only [low_new, KObj.low_up]; rfl, hk⟩
  · rename_i ob hv; exact ⟨_, _, by rw [hv]; simp only [low_new, KObj.low_up]; rfl, hk⟩
  · cases hk

theorem mapUpdK_ok {t : TypeId} {m y v : Value} {h : KH} {k : Kont β} (hk : mapUpdK P t m y v h k = some r) : ∃ h', mapUpdV P t m y v h.low = some h'.low ∧ k undef h' = some r := by
  unfold mapUpdK at hk
  split at hk
  · rename_i hu
    split at hk
    · rename_i es clk hg
      split at hk
      · rename_i hf
        split at hk
        · rename_i hl; exact ⟨_, by simp only [mapUpdV, hu, low_get, hg, Option.map_some, KObj.low, hf, cond_true, hl]; rw [low_put]; rfl, hk⟩
        · rename_i hl; exact ⟨_, by simp only [mapUpdV, hu, low_get, hg, Option.map_some, KObj.low, hf, cond_true, hl]; rw [low_put]; rfl, hk⟩
        · cases hk
      · cases hk
    · cases hk
  · cases hk
theorem mapDelK_ok {t : TypeId} {m y : Value} {h : KH} {k : Kont β} (hk : mapDelK P t m y h k = some r) : ∃ h', mapDelV P t m y h.low = some h'.low ∧ k (.tuple #[]) h' = some r := by
  unfold mapDelK at hk
  split at hk
  · rename_i hu
    split at hk
    · rename_i es clk hg
      split at hk
      · rename_i hf
        split at hk
        · rename_i hl; exact ⟨_, by simp only [mapDelV, hu, low_get, hg, Option.map_some, KObj.low, hf, cond_true, hl]; rw [low_put]; rfl, hk⟩
        · rename_i hl; exact ⟨_, by simp only [mapDelV, hu, low_get, hg, Option.map_some, KObj.low, hf, cond_true, hl]; rw [low_put]; rfl, hk⟩
        · cases hk
      · cases hk
    · cases hk
  · cases hk

/-- The calls of the one are those of the other. -/
def AgreeK (G : Calling) (K : CallK β) : Prop := ∀ f args h k r, K f args h k = some r → ∃ v h', G f args h.low = some (v, h'.low) ∧ k v h' = some r

theorem doK_ok {G : Calling} {K : CallK β} (hG : AgreeK G K) {o : Oper} {e : Operand → Value} {h : KH} {k : Kont β} (hk : doK P C K o e h k = some r) :
    ∃ v h', doOp P C G o e h.low = some (v, h'.low) ∧ k v h' = some r := by
  obtain ⟨dst, op, type, pos, after, guard⟩ := o
  unfold doK at hk
  split at hk
  · rename_i t a heq
    cases heq
    obtain ⟨v, h1, h2⟩ := loadK_ok hk
    exact ⟨v, h, by simp [doOp, isC, doL, evL, h1], h2⟩
  · rename_i t a x heq
    cases heq
    obtain ⟨h', h1, h2⟩ := storeK_ok hk
    exact ⟨undef, h', by simp [doOp, isC, doC, evW, h1], h2⟩
  · rename_i t x i heq
    cases heq
    obtain ⟨v, h1, h2⟩ := indexAddrK_ok hk
    exact ⟨v, h, by simp [doOp, isC, doL, evL, h1], h2⟩
  · rename_i t x i heq
    cases heq
    obtain ⟨v, h1, h2⟩ := indexK_ok hk
    exact ⟨v, h, by simp [doOp, isC, doL, evL, h1], h2⟩
  · rename_i bo t x y q heq
    cases heq
    obtain ⟨v, h1, h2⟩ := binK_ok hk
    exact ⟨v, h, by simp [doOp, isC, doL, evL, h1], h2⟩
  · rename_i s d x heq
    cases heq
    obtain ⟨v, h1, h2⟩ := convK_ok hk
    exact ⟨v, h, by simp [doOp, isC, doL, evL, h1], h2⟩
  · rename_i t x lo hi mx heq
    cases heq
    obtain ⟨v, h1, h2⟩ := sliceK_ok hk
    exact ⟨v, h, by simp [doOp, isC, doL, evL, h1], h2⟩
  · rename_i t l c heq
    cases heq
    obtain ⟨o, n, m, h', h1, h2, h3⟩ := makeK_ok hk
    exact ⟨_, h', by simp only [doOp, isC, doL, evL, h1, h2]; rfl, h3⟩
  · rename_i t m y x heq
    cases heq
    obtain ⟨h', h1, h2⟩ := mapUpdK_ok hk
    exact ⟨undef, h', by simp [doOp, isC, doC, evW, h1], h2⟩
  · rename_i c a b heq
    cases heq
    split at hk
    · rename_i t ht
      cases t with
      | true => exact ⟨e a, h, by simp [doOp, isC, doL, evL, ht], hk⟩
      | false => exact ⟨e b, h, by simp [doOp, isC, doL, evL, ht], hk⟩
    · cases hk
  · rename_i heq
    cases heq
    split at hk
    · rename_i f args hc
      obtain ⟨v, h', h1, h2⟩ := hG _ _ _ _ _ hk
      exact ⟨v, h', by simp only [doOp, isC, doC, hc, h1], h2⟩
    · cases hk
  · rename_i heq
    cases heq
    split at hk
    · rename_i f args hc
      obtain ⟨v, h', h1, h2⟩ := hG _ _ _ _ _ hk
      exact ⟨v, h', by simp only [doOp, isC, doC, hc, h1], h2⟩
    · cases hk
  · rename_i args ts heq
    cases heq
    split at hk
    · rename_i s x t t' ha ht
      split at hk
      · rename_i hb
        obtain ⟨v, h', h1, h2⟩ := appendK_ok hk
        exact ⟨v, h', by simp [doOp, isC, doC, evW, ha, ht, hb, h1], h2⟩
      · cases hk
    · cases hk
  · rename_i args ts heq
    cases heq
    split at hk
    · rename_i s x t t' ha ht
      obtain ⟨v, h', h1, h2⟩ := copyK_ok hk
      exact ⟨v, h', by simp [doOp, isC, doC, evW, ha, ht, h1], h2⟩
    · cases hk
  · rename_i args ts heq
    cases heq
    split at hk
    · rename_i m y t q ha ht
      obtain ⟨h', h1, h2⟩ := mapDelK_ok hk
      exact ⟨_, h', by simp [doOp, isC, doC, evW, ha, ht, h1], h2⟩
    · cases hk
  · rename_i n1 n2 n3 n4 n5 n6 n7 n8 n9 n10 n11 n12 n13 n14 n15
    obtain ⟨v, h', h1, h2⟩ := lresK_ok hk
    refine ⟨v, h', ?_, h2⟩
    have hC : isC op = false := by
      cases op with
      | store t a x => exact (n2 _ _ _ rfl).elim
      | mapUpdate t m y x => exact (n9 _ _ _ _ rfl).elim
      | call c =>
        obtain ⟨callee, args, ts⟩ := c
        cases callee with
        | value f => exact (n11 _ _ _ rfl).elim
        | invoke a b => exact (n12 _ _ _ _ rfl).elim
        | builtin b =>
          cases b with
          | append => exact (n13 _ _ rfl).elim
          | copy => exact (n14 _ _ rfl).elim
          | delete => exact (n15 _ _ rfl).elim
          | _ => rfl
      | _ => rfl
    unfold doOp
    rw [hC]
    exact h1

theorem set_same {α : Type} {l : List α} {i : Nat} {v : α} (h : l[i]? = some v) : l.set i v = l := by
  refine List.ext_getElem? fun j => ?_
  rw [List.getElem?_set]
  split
  · rename_i e; subst e
    obtain ⟨hl, hv⟩ := List.getElem?_eq_some_iff.1 h
    rw [if_pos hl, h]
  · rfl

theorem guardK_ok {all : List Oper} {o : Oper} {ts : List Value} {x y : List Value → Option β} (hk : guardK all o ts x y = some r) :
    knownL all ts o = true ∧ ((wantedL all ts o = true ∧ x ts = some r) ∨ (wantedL all ts o = false ∧ y ts = some r)) := by
  unfold guardK at hk
  unfold knownL wantedL yieldL
  split at hk
  · rename_i hg; rw [hg]; exact ⟨rfl, .inl ⟨rfl, hk⟩⟩
  · rename_i j want hg
    rw [hg]
    simp only
    split at hk
    · rename_i q hq
      rw [hq]
      simp only
      split at hk
      · rename_i d hd
        rw [hd]
        simp only
        split at hk
        · rename_i b hb
          have hs : ts.set d (.bool b) = ts := set_same hb
          rw [hb]
          refine ⟨rfl, ?_⟩
          cases b <;> cases want <;> simp only [cond_true, cond_false] at hk <;> rw [hs] at hk
          · exact .inl ⟨rfl, hk⟩
          · exact .inr ⟨rfl, hk⟩
          · exact .inr ⟨rfl, hk⟩
          · exact .inl ⟨rfl, hk⟩
        · rename_i v hnb hv
          split at hk
          · cases hk
          · rename_i hdc
            rw [hv]
            refine ⟨by simp only [hdc]; rfl, .inr ⟨?_, hk⟩⟩
            cases v <;> first | rfl | exact absurd rfl (hnb _)
        · rename_i hv; rw [hv]; exact ⟨rfl, .inr ⟨rfl, hk⟩⟩
      · rename_i hd; rw [hd]; exact ⟨rfl, .inr ⟨rfl, hk⟩⟩
    · rename_i hq; rw [hq]; exact ⟨rfl, .inr ⟨rfl, hk⟩⟩

theorem evOpsK_ok {G : Calling} {K : CallK β} (hG : AgreeK G K) (all : List Oper) : ∀ (l : List Oper) (s : KSt) (k : KSt → Option β), evOpsK P C K all l s k = some r →
    ∃ s', evOps P C G all l s.low = some s'.low ∧ k s' = some r
  | [], s, k, hk => ⟨s, rfl, hk⟩
  | o :: l, s, k, hk => by
    simp only [evOpsK] at hk
    obtain ⟨hkn, h | h⟩ := guardK_ok hk
    · obtain ⟨hw, hk⟩ := h
      obtain ⟨v, h', h1, h2⟩ := doK_ok hG hk
      obtain ⟨s', h3, h4⟩ := evOpsK_ok hG all l _ k h2
      refine ⟨s', ?_, h4⟩
      simp only [evOps, KSt.low] at h3 ⊢
      rw [hkn, hw, h1]
      exact h3
    · obtain ⟨hw, hk⟩ := h
      obtain ⟨s', h3, h4⟩ := evOpsK_ok hG all l _ k hk
      refine ⟨s', ?_, h4⟩
      simp only [evOps, KSt.low] at h3 ⊢
      rw [hkn, hw]
      exact h3

theorem evDrawK_ok {G : Calling} {K : CallK β} (hG : AgreeK G K) (ms : List Nat) (all : List Oper) : ∀ (l : List Oper) (i : Nat) (s : KSt) (acc : List Nat) (k : KSt → List Nat → Option β), evDrawK P C K ms all i l s acc k = some r →
    ∃ s' bs, evDraw P C G ms all i l s.low acc = some (s'.low, bs) ∧ k s' bs = some r
  | [], i, s, acc, k, hk => ⟨s, acc, rfl, hk⟩
  | o :: l, i, s, acc, k, hk => by
    simp only [evDrawK] at hk
    obtain ⟨hkn, h | h⟩ := guardK_ok hk
    · obtain ⟨hw, hk⟩ := h
      obtain ⟨v, h', h1, h2⟩ := doK_ok hG hk
      obtain ⟨s', bs, h3, h4⟩ := evDrawK_ok hG ms all l _ _ _ k h2
      refine ⟨s', bs, ?_, h4⟩
      simp only [evDraw, KSt.low] at h3 ⊢
      rw [hkn, hw, h1]
      exact h3
    · obtain ⟨hw, hk⟩ := h
      obtain ⟨s', bs, h3, h4⟩ := evDrawK_ok hG ms all l _ _ _ k hk
      refine ⟨s', bs, ?_, h4⟩
      simp only [evDraw, KSt.low] at h3 ⊢
      rw [hkn, hw]
      exact h3

theorem evRegionK_ok {G : Calling} {K : CallK β} (hG : AgreeK G K) {ops : Array Oper} {d : Bool} {s : KSt} {k : KSt → Option β} (hk : evRegionK P C K ops d s k = some r) :
    ∃ s', evRegion P C G ops d s.low = some s'.low ∧ k s' = some r := by
  unfold evRegionK at hk
  unfold evRegion
  cases d with
  | false => exact evOpsK_ok hG _ _ _ _ hk
  | true =>
    obtain ⟨s', bs, h1, h2⟩ := evDrawK_ok hG _ _ _ _ _ _ _ hk
    split at h2
    · rename_i hu
      refine ⟨s', ?_, h2⟩
      simp only
      rw [h1]
      simp only
      rw [show s.low.h.clock = s.h.clock from rfl, show s'.low.h = s'.h.low from rfl, hu]
    · cases h2

/-- Code with a continuation, and code. -/
def OkF (f : KSt → (Ex → KSt → Option β) → Option β) (g : St → Option (Ex × St)) : Prop := ∀ (s : KSt) (k : Ex → KSt → Option β) (r : β), f s k = some r → ∃ x s', g s.low = some (x, s'.low) ∧ k x s' = some r

theorem OkF.then {f f' : KSt → (Ex → KSt → Option β) → Option β} {g g' : St → Option (Ex × St)} (hf : OkF f g) (hf' : OkF f' g') : OkF (fun s k => f s (thenK (fun s' => f' s' k) k)) fun s => thenR (g s) g' := by
  intro s k r h
  obtain ⟨x, s', h1, h2⟩ := hf s _ r h
  simp only [thenR, h1]
  cases x with
  | normal =>
    obtain ⟨x2, s2, h3, h4⟩ := hf' s' k r h2
    exact ⟨x2, s2, h3, h4⟩
  | exit i => exact ⟨_, s', rfl, h2⟩
  | goto l => exact ⟨_, s', rfl, h2⟩
  | ret => exact ⟨_, s', rfl, h2⟩

theorem OkF.loop {f : KSt → (Ex → KSt → Option β) → Option β} {g : St → Option (Ex × St)} (hf : OkF f g) : ∀ n, OkF (loopNK f n) (loopN g n)
  | 0 => fun s k r h => by cases h
  | n + 1 => by
    intro s k r h
    simp only [loopNK] at h
    obtain ⟨x, s', h1, h2⟩ := hf s _ r h
    simp only [loopN, h1]
    cases x with
    | normal => exact OkF.loop hf n s' k r h2
    | exit i => exact ⟨_, s', rfl, h2⟩
    | goto l => exact ⟨_, s', rfl, h2⟩
    | ret => exact ⟨_, s', rfl, h2⟩

theorem scopeNK_ok {frm : Nat → Option (KSt → (Ex → KSt → Option β) → Option β)} {frm' : Nat → Option (St → Option (Ex × St))} (hf : ∀ l, (∀ f, frm l = some f → ∃ g, frm' l = some g ∧ OkF f g) ∧ (frm l = none → frm' l = none)) :
    ∀ n l, OkF (scopeNK frm n l) (scopeN frm' n l)
  | 0, l => fun s k r h => by cases h
  | n + 1, l => by
    intro s k r h
    simp only [scopeNK] at h
    simp only [scopeN]
    cases he : frm l with
    | none =>
      rw [he] at h
      rw [(hf l).2 he]
      exact ⟨_, s, rfl, h⟩
    | some f =>
      obtain ⟨g, hg, ho⟩ := (hf l).1 f he
      rw [he] at h
      rw [hg]
      obtain ⟨x, s', h1, h2⟩ := ho s _ r h
      simp only [h1]
      cases x with
      | goto l' => exact scopeNK_ok hf n l' s' k r h2
      | normal => exact ⟨_, s', rfl, h2⟩
      | exit i => exact ⟨_, s', rfl, h2⟩
      | ret => exact ⟨_, s', rfl, h2⟩

theorem condK_ok {q : Operand} {s : KSt} {x y : KSt → Option β} (hk : condK q s x y = some r) : (evalX s.ts q = .bool true ∧ x s = some r) ∨ (evalX s.ts q = .bool false ∧ y s = some r) := by
  unfold condK at hk
  split at hk
  · rename_i t
    split at hk
    · rename_i b hb
      have hs : s.ts.set t (.bool b) = s.ts := set_same hb
      have hv : evalX s.ts (.tmp t) = .bool b := by simp [evalX, List.getD_eq_getElem?_getD, hb]
      cases b with
      | true => rw [hs] at hk; exact .inl ⟨hv, hk⟩
      | false => rw [hs] at hk; exact .inr ⟨hv, hk⟩
    · cases hk
  · split at hk
    · rename_i b hb
      cases b with
      | true => exact .inl ⟨hb, hk⟩
      | false => exact .inr ⟨hb, hk⟩
    · cases hk

theorem evCK_ok {G : Calling} {K : CallK β} (hG : AgreeK G K) (n : Nat) : ∀ (c : Code), OkF (evCK P C K n c) (evC P C G n c) ∧
    ∀ l, (∀ f, evFK P C K n c l = some f → ∃ g, evF P C G n c l = some g ∧ OkF f g) ∧ (evFK P C K n c l = none → evF P C G n c l = none) := by
  intro c
  induction c with
  | skip => exact ⟨fun s k r h => ⟨.normal, s, by simp only [evC], by simpa only [evCK] using h⟩, fun l => ⟨fun f h => (by simp only [evFK] at h; cases h), fun _ => by simp only [evF]⟩⟩
  | region id ops d =>
    refine ⟨fun s k r h => ?_, fun l => ⟨fun f h => (by simp only [evFK] at h; cases h), fun _ => by simp only [evF]⟩⟩
    simp only [evCK] at h
    obtain ⟨s', h1, h2⟩ := evRegionK_ok hG h
    exact ⟨.normal, s', by simp only [evC, h1, regR], h2⟩
  | seq a b iha ihb =>
    refine ⟨fun s k r h => ?_, fun l => ?_⟩
    · simp only [evCK] at h
      simp only [evC]
      exact iha.1.then ihb.1 s k r h
    · obtain ⟨h1, h2⟩ := iha.2 l
      obtain ⟨h3, h4⟩ := ihb.2 l
      simp only [evFK, evF]
      cases he : evFK P C K n a l with
      | none => rw [h2 he]; exact ⟨h3, h4⟩
      | some f =>
        obtain ⟨g, hg, ho⟩ := h1 f he
        rw [hg]
        refine ⟨fun f' hf => ?_, fun h => by cases h⟩
        cases hf
        exact ⟨_, rfl, ho.then ihb.1⟩
  | cond q a b iha ihb =>
    refine ⟨fun s k r h => ?_, fun l => ⟨fun f h => (by simp only [evFK] at h; cases h), fun _ => by simp only [evF]⟩⟩
    simp only [evCK] at h
    simp only [evC]
    rcases condK_ok h with ⟨hv, h⟩ | ⟨hv, h⟩
    · rw [show s.low.ts = s.ts from rfl, hv]; exact iha.1 s k r h
    · rw [show s.low.ts = s.ts from rfl, hv]; exact ihb.1 s k r h
  | block id b ih =>
    refine ⟨fun s k r h => ?_, fun l => ⟨fun f h => (by simp only [evFK] at h; cases h), fun _ => by simp only [evF]⟩⟩
    simp only [evCK] at h
    simp only [evC]
    obtain ⟨x, s', h1, h2⟩ := ih.1 s _ r h
    rw [h1]
    cases x with
    | exit i =>
      simp only [blockR, blockK] at h2 ⊢
      cases hb : Nat.beq i id with
      | true => rw [hb] at h2; exact ⟨_, s', rfl, h2⟩
      | false => rw [hb] at h2; exact ⟨_, s', rfl, h2⟩
    | normal => exact ⟨_, s', rfl, h2⟩
    | goto l => exact ⟨_, s', rfl, h2⟩
    | ret => exact ⟨_, s', rfl, h2⟩
  | loop b ih =>
    refine ⟨fun s k r h => ?_, fun l => ⟨fun f h => (by simp only [evFK] at h; cases h), fun _ => by simp only [evF]⟩⟩
    simp only [evCK] at h
    simp only [evC]
    exact ih.1.loop n s k r h
  | exit id => exact ⟨fun s k r h => ⟨.exit id, s, by simp only [evC], by simpa only [evCK] using h⟩, fun l => ⟨fun f h => (by simp only [evFK] at h; cases h), fun _ => by simp only [evF]⟩⟩
  | scope b ih =>
    refine ⟨fun s k r h => ?_, fun l => ⟨fun f h => (by simp only [evFK] at h; cases h), fun _ => by simp only [evF]⟩⟩
    simp only [evCK] at h
    simp only [evC]
    obtain ⟨x, s', h1, h2⟩ := ih.1 s _ r h
    rw [h1]
    cases x with
    | goto l => exact scopeNK_ok ih.2 n l s' k r h2
    | normal => exact ⟨_, s', rfl, h2⟩
    | exit i => exact ⟨_, s', rfl, h2⟩
    | ret => exact ⟨_, s', rfl, h2⟩
  | label l0 =>
    refine ⟨fun s k r h => ⟨.normal, s, by simp only [evC], by simpa only [evCK] using h⟩, fun l => ?_⟩
    simp only [evFK, evF]
    cases hb : Nat.beq l0 l with
    | true =>
      refine ⟨fun f hf => ?_, fun h => by cases h⟩
      cases hf
      exact ⟨_, rfl, fun s k r h => ⟨.normal, s, rfl, h⟩⟩
    | false => exact ⟨(fun f hf => by cases hf), fun _ => rfl⟩
  | goto l0 => exact ⟨fun s k r h => ⟨.goto l0, s, by simp only [evC], by simpa only [evCK] using h⟩, fun l => ⟨fun f h => (by simp only [evFK] at h; cases h), fun _ => by simp only [evF]⟩⟩
  | ret => exact ⟨fun s k r h => ⟨.ret, s, by simp only [evC], by simpa only [evCK] using h⟩, fun l => ⟨fun f h => (by simp only [evFK] at h; cases h), fun _ => by simp only [evF]⟩⟩
  | rangeFunc f p a b ih => exact ⟨fun s k r h => (by simp only [evCK] at h; cases h), fun l => ⟨fun f h => (by simp only [evFK] at h; cases h), fun _ => by simp only [evF]⟩⟩
  | refuse w => exact ⟨fun s k r h => (by simp only [evCK] at h; cases h), fun l => ⟨fun f h => (by simp only [evFK] at h; cases h), fun _ => by simp only [evF]⟩⟩

theorem firstK_low (args : List Value) (n : Nat) (h : KH) : (firstK args n h).low = firstSt args n h.low := rfl

theorem evFnK_ok {G : Calling} {K : CallK β} (hG : AgreeK G K) {n : Nat} {c : Code} {m : Nat} {rs : List ResultVar} {args : List Value} {h : KH} {k : Kont β} (hk : evFnK P C K n c m rs args h k = some r) :
    ∃ v h', evFn P C G n c m rs args h.low = some (v, h'.low) ∧ k v h' = some r := by
  unfold evFnK at hk
  obtain ⟨x, s', h1, h2⟩ := (evCK_ok hG n c).1 _ _ r hk
  rw [firstK_low] at h1
  unfold evFn
  rw [h1]
  cases x with
  | normal =>
    simp only [outK] at h2
    split at h2
    · rename_i l hl; exact ⟨_, s'.h, by simp only [endR, outR, hl]; rfl, h2⟩
    · cases h2
  | ret =>
    simp only [outK] at h2
    split at h2
    · rename_i l hl; exact ⟨_, s'.h, by simp only [endR, outR, hl]; rfl, h2⟩
    · cases h2
  | exit i => cases h2
  | goto l => cases h2

/-- The tables agree. -/
structure AgreeT (ext : Calling) (T : TabK β) : Prop where
  some : ∀ f g, T f = some g → ∀ args h k r, g args h k = some r → ∃ v h', ext f args h.low = some (v, h'.low) ∧ k v h' = some r
  none : ∀ f, T f = none → ∀ args h, ext f args h = none
theorem AgreeT.no : AgreeT noC (noT (β := β)) := ⟨(fun f g h => by cases h), fun _ _ _ _ => rfl⟩

theorem runK_ok {fs : List FuncId} {ext : Calling} {T : TabK β} (hT : AgreeT ext T) (n : Nat) : ∀ d, AgreeK (run P C fs ext n d) (runK P C fs T n d)
  | 0 => fun f args h k r hk => by cases hk
  | d + 1 => by
    intro f args h k r hk
    simp only [runK] at hk
    simp only [run]
    split at hk
    · rename_i g hg
      obtain ⟨v, h', h1, h2⟩ := hT.some f g hg args h k r hk
      exact ⟨v, h', by rw [h1], h2⟩
    · rename_i hg
      rw [hT.none f hg]
      simp only
      split at hk
      · rename_i hc
        rw [hc]
        simp only
        split at hk
        · rename_i fn hf
          rw [hf]
          simp only
          split at hk
          · rename_i c hb
            rw [hb]
            exact evFnK_ok (runK_ok hT n d) hk
          · cases hk
        · cases hk
      · cases hk

end
end Go.Eng
/- From a tree of tests to what the function tells; and to a call from a world of any memory. -/
namespace Go.Eng
set_option linter.unusedVariables false
set_option linter.unusedSimpArgs false
open Go
open Go.RowKit (Below)
set_option linter.unusedVariables false
set_option linter.unusedSimpArgs false

/-- A test for a thing that may be missing. -/
def obind {α β : Type} (x : Option α) (k : α → Option β) : Option β :=
  match x with
  | some v => k v
  | none => none
theorem obind_some {α β : Type} (v : α) (k : α → Option β) : obind (some v) k = k v := rfl
theorem obind_none {α β : Type} (k : α → Option β) : obind none k = none := rfl

def valK : Kont Value := fun v _ => some v
def bothK : Kont (Value × KH) := fun v h => some (v, h)

/-- What is asked of a program, and of the functions that are reckoned. -/
structure Fit (P : Program) (C : Cfg) (fs : List FuncId) : Prop where
  mix : P.follows .mixedOrders = true
  cfg : C.ok P
  fns : fs.all (okFn P) = true

section
variable {P : Program} {C : Cfg} {fs : List FuncId} {ext : Calling}

theorem Fit.sound (F : Fit P C fs) (hx : SoundC P ext) (n d : Nat) : SoundC P (run P C fs ext n d) := run_sound F.mix F.cfg F.fns hx n d

theorem runK_val {T : TabK Value} (hT : AgreeT ext T) {n d : Nat} {f : FuncId} {args : List Value} {h : KH} {v : Value} (ht : runK P C fs T n d f args h valK = some v) :
    ∃ h' : KH, run P C fs ext n d f args h.low = some (v, h'.low) := by
  obtain ⟨v', h', h1, h2⟩ := runK_ok hT n d f args h _ v ht
  cases h2
  exact ⟨h', h1⟩
theorem runK_both {T : TabK (Value × KH)} (hT : AgreeT ext T) {n d : Nat} {f : FuncId} {args : List Value} {h h' : KH} {v : Value} (ht : runK P C fs T n d f args h bothK = some (v, h')) :
    run P C fs ext n d f args h.low = some (v, h'.low) := by
  obtain ⟨v1, h1, e1, e2⟩ := runK_ok hT n d f args h _ _ ht
  cases e2
  exact e1

theorem Tells.of_tree (F : Fit P C fs) (hx : SoundC P ext) {T : TabK Value} (hT : AgreeT ext T) {n d : Nat} {f : FuncId} {args : List Value} {h : KH} {v : Value} (hv : plainT v = true) (hro : Ro h.low)
    (ht : runK P C fs T n d f args h valK = some v) : Tells P f args h.low v := by
  obtain ⟨h', hr⟩ := runK_val hT ht
  exact Tells.of_sound (F.sound hx n d) hr hv hro

/-- A memory with nothing in it. -/
def bareK (P : Program) : KH := ⟨P.globals.size, 0, []⟩
theorem bareK_low : (bareK P).low = bare P := rfl

/-- A table of functions whose answers are plain, and which look at numbers of rows at most. -/
abbrev Ext := (Nat → Option (List Int)) → FuncId → List Value → Option Value
def numsA (h : AH) (a : Nat) : Option (List Int) :=
  match h.get a with
  | some (.cells c _ _) => numsOf c
  | _ => none
def numsK (h : KH) (a : Nat) : Option (List Int) :=
  match h.get a with
  | some (.cells c _ _) => numsOf c
  | some (.ints _ l _ _) => some l
  | _ => none
theorem numsK_low (h : KH) : numsA h.low = numsK h := by
  funext a
  unfold numsA numsK
  rw [low_get]
  cases h.get a with
  | none => rfl
  | some o => cases o with
    | cells c e rw => rfl
    | ints k l e rw => exact numsOf_map k l
    | map es c => rfl
def extC (dom : List FuncId) (E : Ext) : Calling := fun f args h => match dom.contains f with
  | true => (match E (numsA h) f args with
    | some v => some (v, h)
    | none => none)
  | false => none
def extT {β : Type} (dom : List FuncId) (E : Ext) : TabK β := fun f => match dom.contains f with
  | true => some fun args h k => match E (numsK h) f args with
    | some v => k v h
    | none => none
  | false => none
theorem extT_agree {β : Type} (dom : List FuncId) (E : Ext) : AgreeT (extC dom E) (extT (β := β) dom E) := by
  refine ⟨fun f g hg args h k r hk => ?_, fun f hf args h => ?_⟩
  · unfold extT at hg
    split at hg
    · rename_i hd
      cases hg
      dsimp only at hk
      split at hk
      · rename_i v hv
        refine ⟨v, h, ?_, hk⟩
        unfold extC
        rw [hd]
        simp only
        rw [numsK_low, hv]
      · cases hk
    · cases hg
  · unfold extT at hf
    split at hf
    · cases hf
    · rename_i hd
      unfold extC
      rw [hd]

/-- Plain arguments. -/
theorem SoundC.ext_plain {dom : List FuncId} {E : Ext} (hf : ∀ f ∈ dom, FnOk P f)
    (h : ∀ rd f args v, f ∈ dom → E rd f args = some v → args.all plain = true ∧ plainT v = true ∧ Tells P f args (bare P) v) : SoundC P (extC dom E) := by
  refine SoundC.table fun f args q v q' hT => ?_
  unfold extC at hT
  split at hT
  · rename_i hd
    have hm : f ∈ dom := by simpa using hd
    split at hT
    · rename_i u hu
      cases hT
      obtain ⟨h1, h2, h3⟩ := h _ f args v hm hu
      exact ⟨hf f hm, rfl, id, args, bare P, View.bare h1 q, Ro.bare, h3, h2⟩
    · cases hT
  · cases hT

theorem FnOk.of {f : FuncId} (h : okFn P f = true) : FnOk P f := by
  obtain ⟨fn, c, h1, h2, _, h4⟩ := okFn_spec h
  exact ⟨fn, c, h1, h2, h4⟩
theorem Fit.fnOk (F : Fit P C fs) : ∀ f ∈ fs, FnOk P f := fun f hf => FnOk.of (List.all_eq_true.1 F.fns f hf)

/-! ### A call from any world, where the program has no package variable -/
theorem Sim.bare (hg : P.globals.size = 0) (w : World) : Sim P (fun _ => none) (bare P) w :=
  ⟨fun a o h => (by cases h), fun a b l h => (by cases h), fun a a' b l l' h => (by obtain ⟨o, h, _⟩ := h; cases h), fun g h => by omega⟩
theorem Tells.call (hg : P.globals.size = 0) {f : FuncId} {args : Array Value} {v : Value} (ht : Tells P f args.toList (bare P) v) (hp : args.toList.all plain = true) (w : World) :
    Calls P f args w fun e w' => e = .returned v ∧ Below w.heap.size w w' :=
  ht _ w args ⟨rfl, fun i u e => ⟨u, e, .of_plain (List.all_eq_true.1 hp u (List.mem_of_getElem? e))⟩⟩ (Sim.bare hg w)
end

theorem Cfg.ok_of {P : Program} {C : Cfg} (h : (C.eqT.all fun t => !P.stoodInHeld t && !P.eqGuardType P.depth t) = true) : C.ok P :=
  ⟨fun t ht => by
    have := List.all_eq_true.1 h t ht
    simpa using this⟩

/-! ### Trees whose ends are of one kind -/
theorem cond_bool (b x y : Bool) : (bif b then some (Value.bool x) else some (Value.bool y)) = some (.bool (bif b then x else y)) := by cases b <;> rfl
theorem cond_int (b : Bool) (k : IntKind) (x y : Int) : (bif b then some (Value.int k x) else some (Value.int k y)) = some (.int k (bif b then x else y)) := by cases b <;> rfl

/-! ### Numbers of a width -/
theorem wrap_u64 (n : Int) : IntKind.wrap .u64 n = n % 18446744073709551616 := IntKind.wrap_u64 n
theorem wrap_u64_id {n : Int} (h : 0 ≤ n) (h2 : n < 18446744073709551616) : IntKind.wrap .u64 n = n := by rw [wrap_u64]; omega
theorem wrap_i64_id {n : Int} (h : -9223372036854775808 ≤ n) (h2 : n < 9223372036854775808) : IntKind.wrap .i64 n = n := by rw [IntKind.wrap_i64]; omega
theorem wf_u64 {n : Int} (h : (Lit.int .u64 n).wf = true) : 0 ≤ n ∧ n < 18446744073709551616 := by
  simp [Lit.wf, IntKind.min, IntKind.max, IntKind.signed, IntKind.bits] at h; omega
theorem wf_i64 {n : Int} (h : (Lit.int .i64 n).wf = true) : -9223372036854775808 ≤ n ∧ n < 9223372036854775808 := by
  simp [Lit.wf, IntKind.min, IntKind.max, IntKind.signed, IntKind.bits] at h; omega
theorem wf_u8 {n : Int} (h : (Lit.int .u8 n).wf = true) : 0 ≤ n ∧ n < 256 := by
  simp [Lit.wf, IntKind.min, IntKind.max, IntKind.signed, IntKind.bits] at h; omega
theorem wf_u16 {n : Int} (h : (Lit.int .u16 n).wf = true) : 0 ≤ n ∧ n < 65536 := by
  simp [Lit.wf, IntKind.min, IntKind.max, IntKind.signed, IntKind.bits] at h; omega
theorem land_mask (n : Int) (k : Nat) (hk : k ≤ 62) : (BitVec.ofInt 64 n &&& BitVec.ofInt 64 (2 ^ k - 1)).toNat = (n % 18446744073709551616).toNat % 2 ^ k := by
  have hp : (2 : Nat) ^ k ≤ 2 ^ 62 := Nat.pow_le_pow_right (by omega) hk
  have h1 : (1 : Nat) ≤ 2 ^ k := Nat.one_le_two_pow
  have hm : (BitVec.ofInt 64 (2 ^ k - 1)).toNat = 2 ^ k - 1 := by
    rw [BitVec.toNat_ofInt]
    have e : ((2 : Int) ^ k - 1) = ((2 ^ k - 1 : Nat) : Int) := by push_cast [h1]; rfl
    rw [e]
    omega
  rw [BitVec.toNat_and, hm, Nat.and_two_pow_sub_one_eq_mod, BitVec.toNat_ofInt]
  rfl
theorem and_mask_u64 (n : Int) (k : Nat) (hk : k ≤ 62) : bits .and .u64 n (2 ^ k - 1) = n % 2 ^ k := by
  show IntKind.u64.wrap ((BitVec.ofInt 64 n &&& BitVec.ofInt 64 (2 ^ k - 1)).toNat : Nat) = n % 2 ^ k
  rw [land_mask n k hk, wrap_u64]
  have hp : (2 : Nat) ^ k ≤ 2 ^ 62 := Nat.pow_le_pow_right (by omega) hk
  have h0 : 0 < (2 : Nat) ^ k := Nat.two_pow_pos k
  have hd : (2 : Int) ^ k ∣ 18446744073709551616 := by
    refine ⟨2 ^ (64 - k), ?_⟩
    rw [← Int.pow_add, Nat.add_sub_cancel' (by omega)]; rfl
  have e1 : (((n % 18446744073709551616).toNat % 2 ^ k : Nat) : Int) = n % 2 ^ k := by
    rw [Int.natCast_emod, Int.toNat_of_nonneg (Int.emod_nonneg _ (by decide))]
    push_cast
    exact Int.emod_emod_of_dvd n hd
  rw [e1]
  have h2 : (0 : Int) < 2 ^ k := by exact_mod_cast h0
  have h3 := Int.emod_nonneg n (show (2 : Int) ^ k ≠ 0 by omega)
  have h4 := Int.emod_lt_of_pos n h2
  have hp2 : (2 : Nat) ^ k ≤ 4611686018427387904 := hp
  have h6 : ((2 ^ k : Nat) : Int) = (2 : Int) ^ k := by push_cast; rfl
  have h5 : (2 : Int) ^ k ≤ 4611686018427387904 := by rw [← h6]; omega
  omega
theorem and_mask_i64 (n : Int) (k : Nat) (hk : k ≤ 62) : bits .and .i64 n (2 ^ k - 1) = n % 2 ^ k := by
  show IntKind.i64.wrap ((BitVec.ofInt 64 n &&& BitVec.ofInt 64 (2 ^ k - 1)).toNat : Nat) = n % 2 ^ k
  rw [land_mask n k hk, IntKind.wrap_i64]
  have hp : (2 : Nat) ^ k ≤ 2 ^ 62 := Nat.pow_le_pow_right (by omega) hk
  have h0 : 0 < (2 : Nat) ^ k := Nat.two_pow_pos k
  have hd : (2 : Int) ^ k ∣ 18446744073709551616 := by
    refine ⟨2 ^ (64 - k), ?_⟩
    rw [← Int.pow_add, Nat.add_sub_cancel' (by omega)]; rfl
  have e1 : (((n % 18446744073709551616).toNat % 2 ^ k : Nat) : Int) = n % 2 ^ k := by
    rw [Int.natCast_emod, Int.toNat_of_nonneg (Int.emod_nonneg _ (by decide))]
    push_cast
    exact Int.emod_emod_of_dvd n hd
  rw [e1]
  have h2 : (0 : Int) < 2 ^ k := by exact_mod_cast h0
  have h3 := Int.emod_nonneg n (show (2 : Int) ^ k ≠ 0 by omega)
  have h4 := Int.emod_lt_of_pos n h2
  have hp2 : (2 : Nat) ^ k ≤ 4611686018427387904 := hp
  have h6 : ((2 ^ k : Nat) : Int) = (2 : Int) ^ k := by push_cast; rfl
  have h5 : (2 : Int) ^ k ≤ 4611686018427387904 := by rw [← h6]; omega
  omega
theorem and3_i64 (n : Int) : bits .and .i64 n 3 = n % 4 := and_mask_i64 n 2 (by omega)
theorem and7_i64 (n : Int) : bits .and .i64 n 7 = n % 8 := and_mask_i64 n 3 (by omega)
theorem and7_u64 (n : Int) : bits .and .u64 n 7 = n % 8 := and_mask_u64 n 3 (by omega)
theorem and255_u64 (n : Int) : bits .and .u64 n 255 = n % 256 := and_mask_u64 n 8 (by omega)
theorem tmod_cases (m d : Int) : (0 ≤ m ∧ Int.tmod m d = m % d) ∨ (m < 0 ∧ Int.tmod m d = -((-m) % d)) := by
  rcases Int.lt_or_le m 0 with h | h
  · refine .inr ⟨h, ?_⟩
    have := Int.neg_tmod (-m) d
    rw [Int.neg_neg] at this
    rw [this, Int.tmod_eq_emod_of_nonneg (by omega)]
  · exact .inl ⟨h, Int.tmod_eq_emod_of_nonneg h⟩
theorem tdiv_cases (m d : Int) : (0 ≤ m ∧ Int.tdiv m d = m / d) ∨ (m < 0 ∧ Int.tdiv m d = -((-m) / d)) := by
  rcases Int.lt_or_le m 0 with h | h
  · refine .inr ⟨h, ?_⟩
    have := Int.neg_tdiv (-m) d
    rw [Int.neg_neg] at this
    rw [this, Int.tdiv_eq_ediv_of_nonneg (by omega)]
  · exact .inl ⟨h, Int.tdiv_eq_ediv_of_nonneg h⟩
end Go.Eng
