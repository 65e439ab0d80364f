/- A checked evaluator for programs, part a. -/
import Derived.WalkKit
import Derived.Calls
import Derived.Orders
import Derived.ScopeJumps
import Derived.LoopN
import Derived.Laws.Rows
import Derived.Laws.CopyRow
import Derived.Laws.AppendOwn
import Derived.Laws.OwnMore
import Derived.Laws.MakeOwn
import Derived.Laws.StructEq
import Derived.Below
import Derived.RangeFuncLeaves
import Derived.OrdersIn
import Derived.LoopNIn
import Derived.RangeFuncOwn
import Derived.WideLaws
import Derived.Laws.Unary
import Derived.Laws.BytesString
import Derived.Laws.Slices
import Derived.Laws.Tables
import Derived.Laws.Shifts
import Derived.MapKept
namespace Go.Eng
set_option linter.unusedVariables false
set_option linter.unusedSimpArgs false
open Go
structure ArSt where
  cells : Int
  used : Int
  faults : Int
  last : Int
  blocks : List (Int × List Int)
def total : List (Int × List Int) → Int
  | [] => 0
  | p :: r => (p.2.length : Int) + total r
structure ArSt.ok (S : ArSt) : Prop where
  cells : S.cells ≤ 65536
  used : S.used ≤ S.cells
  total : total S.blocks ≤ S.used
structure SiteSt where
  desk : Int
  thread : Int
  threads : Int
  keep : Int
  seed : Int
structure GuardSt where
  site : SiteSt
  root : Int
  state : Int
structure ShieldSt where
  site : SiteSt
  block : Int
  cell : Int
  word : Int
  state : Int
structure DictSt where
  es : List (Int × Int × Nat)
  clk : Nat
structure RetireSt where
  site : SiteSt
  made : Bool
  looks : Bool
  thread : Int
  waiting : List Int
  at_ : Int
  free : DictSt
  rest : List Int
  same : Bool
inductive MSt where
  | retire (x : RetireSt)
  | arena (S : ArSt)
  | guard (x : GuardSt)
  | shield (x : ShieldSt)
class ObjSem (P : Program) where
  At : MSt → World → Nat → (Nat → Prop) → Prop
  loc : ∀ m w w' b F, At m w b F → w.heap.size ≤ w'.heap.size → (∀ x, F x → w'.heap[x]? = w.heap[x]?) → At m w' b F
end Go.Eng
namespace Go.Eng
set_option linter.unusedVariables false
set_option linter.unusedSimpArgs false
open Go
structure Rho where
  f : Nat → Option (Nat × Nat)
  φ : Nat → Nat → Prop
instance : CoeFun Rho (fun _ => Nat → Option (Nat × Nat)) := ⟨Rho.f⟩
def DC : Value := .tuple #[undef]
inductive R (ρ : Rho) : Value → Value → Prop
  | bool (b : Bool) : R ρ (.bool b) (.bool b)
  | int (k : IntKind) (n : Int) : R ρ (.int k n) (.int k n)
  | string (s : ByteArray) : R ρ (.string s) (.string s)
  | nilPtr : R ρ (.pointer none) (.pointer none)
  | ptr {a b l : Nat} (off : Nat) (h : ρ a = some (b, l)) : R ρ (.pointer (some ⟨a, off, none⟩)) (.pointer (some ⟨b, off, none⟩))
  | nilSlice (n c : Nat) : R ρ (.slice none n c) (.slice none n c)
  | slice {a b l : Nat} (off n c c' : Nat) (h : ρ a = some (b, l)) (hc : c ≤ c') (hf : off = 0 → c' = c ∨ c' ≤ l) (hz : 0 < c ∨ c' = c) :
      R ρ (.slice (some ⟨a, off, none⟩) n c) (.slice (some ⟨b, off, none⟩) n c')
  | slice0 (c' : Nat) (y : Option Addr) : R ρ (.slice (some ⟨0, 0, some 0⟩) 0 0) (.slice y 0 c')
  | slice1 (c' : Nat) (y : Addr) : R ρ (.slice (some ⟨0, 0, some 1⟩) 0 0) (.slice (some y) 0 c')
  | slice00 (a off : Nat) (x : Option Addr) : R ρ (.slice (some ⟨a, off, none⟩) 0 0) (.slice x 0 0)
  | nilMap : R ρ (.map none) (.map none)
  | map {a b l : Nat} (h : ρ a = some (b, l)) : R ρ (.map (some a)) (.map (some b))
  | func (fn : FuncId) (xs ys us vs : Array Value) (hs : xs.size = ys.size) (h : ∀ i (h1 : i < xs.size) (h2 : i < ys.size), R ρ xs[i] ys[i])
      (ht : us.size = vs.size) (k : ∀ i (h1 : i < us.size) (h2 : i < vs.size), R ρ us[i] vs[i]) : R ρ (.func (.func fn) xs us) (.func (.func fn) ys vs)
  | yield {a b l : Nat} (h : ρ a = some (b, l)) : R ρ (.func (.yield a) #[] #[]) (.func (.yield b) #[] #[])
  | nilFunc : R ρ .nilFunc .nilFunc
  | iface (t : TypeId) {v v' : Value} (h : R ρ v v') : R ρ (.iface t v) (.iface t v')
  | nilIface : R ρ .nilIface .nilIface
  | agg (xs ys : Array Value) (hs : xs.size = ys.size) (h : ∀ i (h1 : i < xs.size) (h2 : i < ys.size), R ρ xs[i] ys[i]) : R ρ (.agg xs) (.agg ys)
  | tuple (xs ys : Array Value) (hs : xs.size = ys.size) (h : ∀ i (h1 : i < xs.size) (h2 : i < ys.size), R ρ xs[i] ys[i]) : R ρ (.tuple xs) (.tuple ys)
  | any (v' : Value) : R ρ DC v'
def Rho.nil : Rho := ⟨fun _ => none, fun _ _ => False⟩
def Rho.add (ρ : Rho) (nm b l : Nat) (rw : Bool) : Rho := ⟨fun a => if a = nm then some (b, l) else ρ a, fun a x => if a = nm then rw = true ∧ x = b else ρ.φ a x⟩
theorem Rho.add_f (ρ : Rho) (nm b l : Nat) (rw : Bool) (a : Nat) : (ρ.add nm b l rw) a = if a = nm then some (b, l) else ρ a := rfl
theorem Rho.add_φ (ρ : Rho) (nm b l : Nat) (rw : Bool) (a x : Nat) : (ρ.add nm b l rw).φ a x ↔ if a = nm then rw = true ∧ x = b else ρ.φ a x := Iff.rfl
def Rho.le (ρ ρ' : Rho) : Prop := ∀ a p, ρ a = some p → ρ' a = some p
theorem Rho.add_le {ρ : Rho} {nm b l : Nat} {rw : Bool} (h : ρ nm = none) : ρ.le (ρ.add nm b l rw) := fun a p e => by
  have : a ≠ nm := fun he => by rw [he, h] at e; cases e
  rw [Rho.add_f, if_neg this]; exact e
theorem Rho.le.refl (ρ : Rho) : ρ.le ρ := fun _ _ h => h
theorem Rho.le.trans {ρ ρ' ρ'' : Rho} (h : ρ.le ρ') (k : ρ'.le ρ'') : ρ.le ρ'' := fun a p e => k a p (h a p e)
theorem R.mono {ρ ρ' : Rho} (hle : ρ.le ρ') {v v' : Value} (h : R ρ v v') : R ρ' v v' := by
  induction h with
  | bool b => exact .bool b
  | int k n => exact .int k n
  | string s => exact .string s
  | nilPtr => exact .nilPtr
  | ptr off h => exact .ptr off (hle _ _ h)
  | nilSlice n c => exact .nilSlice n c
  | slice off n c c' h hc hf hz => exact .slice off n c c' (hle _ _ h) hc hf hz
  | slice0 y c' => exact .slice0 y c'
  | slice1 y c' => exact .slice1 y c'
  | slice00 a off x => exact .slice00 a off x
  | nilMap => exact .nilMap
  | map h => exact .map (hle _ _ h)
  | func fn xs ys us vs hs h ht k ih ik => exact .func fn xs ys us vs hs ih ht ik
  | yield h => exact .yield (hle _ _ h)
  | nilFunc => exact .nilFunc
  | iface t h ih => exact .iface t ih
  | nilIface => exact .nilIface
  | agg xs ys hs h ih => exact .agg xs ys hs ih
  | tuple xs ys hs h ih => exact .tuple xs ys hs ih
  | any v' => exact .any v'
def RL (ρ : Rho) (xs ys : List Value) : Prop := xs.length = ys.length ∧ ∀ (i : Nat) (v : Value), xs[i]? = some v → ∃ v', ys[i]? = some v' ∧ R ρ v v'
def RP (ρ : Rho) (xs ys : List Value) : Prop := ∀ (i : Nat) (v : Value), xs[i]? = some v → ∃ v', ys[i]? = some v' ∧ R ρ v v'
theorem RL.mono {ρ ρ' : Rho} (hle : ρ.le ρ') {xs ys : List Value} (h : RL ρ xs ys) : RL ρ' xs ys :=
  ⟨h.1, fun i v e => let ⟨v', e', r⟩ := h.2 i v e; ⟨v', e', r.mono hle⟩⟩
theorem RP.mono {ρ ρ' : Rho} (hle : ρ.le ρ') {xs ys : List Value} (h : RP ρ xs ys) : RP ρ' xs ys :=
  fun i v e => let ⟨v', e', r⟩ := h i v e; ⟨v', e', r.mono hle⟩
theorem RL.nil (ρ : Rho) : RL ρ [] [] := ⟨rfl, fun i v e => by simp at e⟩
theorem RL.cons {ρ : Rho} {v v' : Value} {xs ys : List Value} (h : R ρ v v') (k : RL ρ xs ys) : RL ρ (v :: xs) (v' :: ys) := by
  refine ⟨by simp [k.1], fun i u e => ?_⟩
  cases i with
  | zero => simp at e; subst e; exact ⟨v', by simp, h⟩
  | succ i => simp at e ⊢; exact k.2 i u e
theorem RL.uncons {ρ : Rho} {v : Value} {xs zs : List Value} (h : RL ρ (v :: xs) zs) : ∃ v' ys, zs = v' :: ys ∧ R ρ v v' ∧ RL ρ xs ys := by
  cases zs with
  | nil => have := h.1; simp at this
  | cons v' ys =>
    refine ⟨v', ys, rfl, ?_, ?_⟩
    · obtain ⟨u, e, r⟩ := h.2 0 v (by simp); simp at e; subst e; exact r
    · refine ⟨by have := h.1; simp at this; exact this, fun i u e => ?_⟩
      obtain ⟨u', e', r⟩ := h.2 (i + 1) u (by simpa using e)
      exact ⟨u', by simpa using e', r⟩
theorem RL.nil_inv {ρ : Rho} {zs : List Value} (h : RL ρ [] zs) : zs = [] := by
  have := h.1; simp at this; exact List.eq_nil_of_length_eq_zero this.symm
theorem RL.rp {ρ : Rho} {xs ys : List Value} (h : RL ρ xs ys) : RP ρ xs ys := h.2
theorem RP.length {ρ : Rho} {xs ys : List Value} (h : RP ρ xs ys) : xs.length ≤ ys.length := by
  rcases Nat.lt_or_ge ys.length xs.length with hlt | hge
  · exfalso
    obtain ⟨v', e, _⟩ := h ys.length xs[ys.length] (by simp [hlt])
    simp at e
  · exact hge
theorem RP.take {ρ : Rho} {xs ys : List Value} (h : RP ρ xs ys) (n : Nat) (hn : n ≤ xs.length) : RL ρ (xs.take n) (ys.take n) := by
  have hl := h.length
  refine ⟨by simp; omega, fun i v e => ?_⟩
  rw [List.getElem?_take] at e ⊢
  split at e
  · rename_i hi
    obtain ⟨v', e', r⟩ := h i v e
    exact ⟨v', by rw [if_pos hi]; exact e', r⟩
  · cases e
theorem RP.drop {ρ : Rho} {xs ys : List Value} (h : RP ρ xs ys) (n : Nat) : RP ρ (xs.drop n) (ys.drop n) := by
  intro i v e
  rw [List.getElem?_drop] at e ⊢
  exact h _ v e
theorem RL.append {ρ : Rho} {xs ys us vs : List Value} (h : RL ρ xs ys) (k : RL ρ us vs) : RL ρ (xs ++ us) (ys ++ vs) := by
  refine ⟨by simp [h.1, k.1], fun i v e => ?_⟩
  rw [List.getElem?_append] at e ⊢
  rw [← h.1]
  split at e
  · rename_i hi; rw [if_pos hi]; exact h.2 i v e
  · rename_i hi; rw [if_neg hi]; exact k.2 _ v e
theorem RL.appendP {ρ : Rho} {xs ys us vs : List Value} (h : RL ρ xs ys) (k : RP ρ us vs) : RP ρ (xs ++ us) (ys ++ vs) := by
  intro i v e
  rw [List.getElem?_append] at e ⊢
  rw [← h.1]
  split at e
  · rename_i hi; rw [if_pos hi]; exact h.2 i v e
  · rename_i hi; rw [if_neg hi]; exact k _ v e
theorem RL.getD {ρ : Rho} {xs ys : List Value} (h : RL ρ xs ys) {d d' : Value} (hd : R ρ d d') (i : Nat) : R ρ (xs.getD i d) (ys.getD i d') := by
  rw [List.getD_eq_getElem?_getD, List.getD_eq_getElem?_getD]
  cases e : xs[i]? with
  | some v => obtain ⟨v', e', r⟩ := h.2 i v e; rw [e']; exact r
  | none =>
    have : ys[i]? = none := by
      rw [List.getElem?_eq_none_iff] at e ⊢; rw [← h.1]; exact e
    rw [this]; exact hd
theorem RL.set {ρ : Rho} {xs ys : List Value} (h : RL ρ xs ys) {v v' : Value} (hv : R ρ v v') (i : Nat) : RL ρ (xs.set i v) (ys.set i v') := by
  refine ⟨by simp [h.1], fun j u e => ?_⟩
  rw [List.getElem?_set] at e ⊢
  split at e
  · rename_i hij
    rw [if_pos hij]
    split at e
    · rename_i hl; rw [if_pos (by rw [← h.1]; exact hl)]; cases e; exact ⟨v', rfl, hv⟩
    · cases e
  · rename_i hij; rw [if_neg hij]; exact h.2 j u e
theorem RL.replicate {ρ : Rho} {v v' : Value} (hv : R ρ v v') (n : Nat) : RL ρ (List.replicate n v) (List.replicate n v') := by
  refine ⟨by simp, fun i u e => ?_⟩
  rw [List.getElem?_replicate] at e ⊢
  split at e
  · rename_i hi; rw [if_pos hi]; cases e; exact ⟨v', rfl, hv⟩
  · cases e
theorem RL.of_array {ρ : Rho} {xs ys : Array Value} (hs : xs.size = ys.size) (h : ∀ i (h1 : i < xs.size) (h2 : i < ys.size), R ρ xs[i] ys[i]) : RL ρ xs.toList ys.toList := by
  refine ⟨by simpa using hs, fun i v e => ?_⟩
  rw [Array.getElem?_toList] at e
  obtain ⟨h1, he⟩ := Array.getElem?_eq_some_iff.1 e
  refine ⟨ys[i]'(hs ▸ h1), ?_, ?_⟩
  · rw [Array.getElem?_toList]; exact Array.getElem?_eq_some_iff.2 ⟨hs ▸ h1, rfl⟩
  · rw [← he]; exact h i h1 (hs ▸ h1)
theorem RL.to_array {ρ : Rho} {xs ys : List Value} (h : RL ρ xs ys) : ∀ i (h1 : i < xs.toArray.size) (h2 : i < ys.toArray.size), R ρ xs.toArray[i] ys.toArray[i] := by
  intro i h1 h2
  obtain ⟨v', e, r⟩ := h.2 i (xs[i]'(by simpa using h1)) (List.getElem?_eq_some_iff.2 ⟨by simpa using h1, rfl⟩)
  obtain ⟨h3, e⟩ := List.getElem?_eq_some_iff.1 e
  simp only [List.getElem_toArray]
  rw [e]; exact r
theorem R.agg_of {ρ : Rho} {xs ys : List Value} (h : RL ρ xs ys) : R ρ (.agg xs.toArray) (.agg ys.toArray) := .agg _ _ (by simpa using h.1) h.to_array
theorem R.tuple_of {ρ : Rho} {xs ys : List Value} (h : RL ρ xs ys) : R ρ (.tuple xs.toArray) (.tuple ys.toArray) := .tuple _ _ (by simpa using h.1) h.to_array
theorem R.agg_inv {ρ : Rho} {xs : Array Value} {v' : Value} (h : R ρ (.agg xs) v') : ∃ ys, v' = .agg ys ∧ RL ρ xs.toList ys.toList := by
  cases h with | agg _ ys hs h => exact ⟨ys, rfl, .of_array hs h⟩
theorem R.tuple_inv {ρ : Rho} {xs : Array Value} {v' : Value} (hn : 1 < xs.size) (h : R ρ (.tuple xs) v') : ∃ ys, v' = .tuple ys ∧ RL ρ xs.toList ys.toList := by
  generalize e : Value.tuple xs = v at h
  cases h with
  | tuple us ys hs h => cases e; exact ⟨ys, rfl, .of_array hs h⟩
  | any v' => cases e; simp at hn
  | _ => cases e
theorem R.undef (ρ : Rho) : R ρ undef undef := .tuple #[] #[] rfl (fun i h => by simp at h)
def okCell : Value → Bool
  | .tuple _ => false
  | _ => true
theorem R.cells {ρ : Rho} {v v' : Value} (h : R ρ v v') (hk : okCell v = true) : RL ρ v.cells.toList v'.cells.toList := by
  cases h with
  | agg xs ys hs h => exact .of_array hs h
  | bool b => exact RL.cons (.bool b) (.nil _)
  | int k n => exact RL.cons (.int k n) (.nil _)
  | string s => exact RL.cons (.string s) (.nil _)
  | nilPtr => exact RL.cons .nilPtr (.nil _)
  | ptr off h => exact RL.cons (.ptr off h) (.nil _)
  | nilSlice n c => exact RL.cons (.nilSlice n c) (.nil _)
  | slice off n c c' h hc hf hz => exact RL.cons (.slice off n c c' h hc hf hz) (.nil _)
  | slice0 y c' => exact RL.cons (.slice0 y c') (.nil _)
  | slice1 y c' => exact RL.cons (.slice1 y c') (.nil _)
  | slice00 a off x => exact RL.cons (.slice00 a off x) (.nil _)
  | nilMap => exact RL.cons .nilMap (.nil _)
  | map h => exact RL.cons (.map h) (.nil _)
  | func fn xs ys us vs hs h ht k => exact RL.cons (.func fn xs ys us vs hs h ht k) (.nil _)
  | yield h => exact RL.cons (.yield h) (.nil _)
  | nilFunc => exact RL.cons .nilFunc (.nil _)
  | iface t h => exact RL.cons (.iface t h) (.nil _)
  | nilIface => exact RL.cons .nilIface (.nil _)
  | tuple xs ys hs h => cases hk
  | any v' => cases hk
theorem R.oneCell {ρ : Rho} {v v' : Value} (h : R ρ v v') (h1 : v.oneCell' = true) : v'.oneCell' = true := by cases h <;> first | rfl | cases h1
def plain1 : Value → Bool
  | .bool _ | .int _ _ | .string _ | .pointer none | .slice none _ _ | .map none | .nilFunc | .nilIface => true
  | .func (.func _) xs us => xs.isEmpty && us.isEmpty
  | _ => false
def plain : Value → Bool
  | .agg cs => cs.toList.all plain1
  | .tuple _ => false
  | .iface _ v => plain1 v
  | v => plain1 v
theorem R.of_plain1 {ρ : Rho} {v : Value} (h : plain1 v = true) : R ρ v v := by
  cases v with
  | bool b => exact .bool b
  | int k n => exact .int k n
  | string s => exact .string s
  | pointer a => cases a with
    | none => exact .nilPtr
    | some a => simp [plain1] at h
  | slice a n c => cases a with
    | none => exact .nilSlice n c
    | some a => simp [plain1] at h
  | map r => cases r with
    | none => exact .nilMap
    | some a => simp [plain1] at h
  | nilFunc => exact .nilFunc
  | nilIface => exact .nilIface
  | func fn xs us =>
    cases fn with
    | func fn =>
      simp [plain1] at h
      obtain ⟨rfl, rfl⟩ := h
      exact .func fn _ _ _ _ rfl (fun i h => by simp at h) rfl (fun i h => by simp at h)
    | _ => simp [plain1] at h
  | _ => simp [plain1] at h
theorem RL.of_plain1 {ρ : Rho} {xs : List Value} (h : xs.all plain1 = true) : RL ρ xs xs :=
  ⟨rfl, fun i v e => ⟨v, e, .of_plain1 (List.all_eq_true.1 h v (List.mem_of_getElem? e))⟩⟩
theorem plain_ok {z : Value} (h : plain z = true) : okCell z = true := by cases z <;> first | rfl | cases h
theorem R.of_plain {ρ : Rho} {v : Value} (h : plain v = true) : R ρ v v := by
  cases v with
  | agg cs => exact .agg cs cs rfl (fun _ _ _ => .of_plain1 (List.all_eq_true.1 h _ (by simp)))
  | tuple cs => cases h
  | iface t v => exact .iface t (.of_plain1 h)
  | _ => exact .of_plain1 h
inductive LSt where
  | ready
  | busy
  | done (c : Code)
  | gone
inductive AObj where
  | cells (c : List Value) (elem : TypeId) (rw : Bool)
  | map (es : List (Value × Value × Nat)) (clock : Nat)
  | loop (ts : List Value) (ps : Array Tmp) (as_ bd : Code) (st : LSt)
  | mach (m : MSt)
  | pmap (old : List MapEntry) (k : Value) (v : Option Value)
structure AH where
  next : Nat
  clock : Nat
  blk : List (Nat × Nat × AObj)
def find (a : Nat) : List (Nat × Nat × AObj) → Option (Nat × AObj)
  | [] => none
  | (n, s, o) :: r => match Nat.beq n a with
    | true => some (s, o)
    | false => find a r
def replace (a s : Nat) (o : AObj) : List (Nat × Nat × AObj) → List (Nat × Nat × AObj)
  | [] => []
  | (n, s', o') :: r => match Nat.beq n a with
    | true => (n, s, o) :: r
    | false => (n, s', o') :: replace a s o r
def remove (a : Nat) : List (Nat × Nat × AObj) → List (Nat × Nat × AObj)
  | [] => []
  | (n, s', o') :: r => match Nat.beq n a with
    | true => remove a r
    | false => (n, s', o') :: remove a r
def AH.find (h : AH) (a : Nat) : Option (Nat × AObj) := Eng.find a h.blk
def AH.get (h : AH) (a : Nat) : Option AObj := (h.find a).map (·.2)
def AH.put (h : AH) (a : Nat) (o : AObj) : AH := ⟨h.next, h.clock + 1, replace a h.clock o h.blk⟩
def AH.new (h : AH) (o : AObj) : AH := ⟨h.next + 1, h.clock + 1, (h.next, h.clock, o) :: h.blk⟩
def AH.drop (h : AH) (a : Nat) : AH := ⟨h.next, h.clock, remove a h.blk⟩
theorem beq_true {n a : Nat} (h : Nat.beq n a = true) : n = a := Nat.eq_of_beq_eq_true h
theorem beq_false {n a : Nat} (h : Nat.beq n a = false) : n ≠ a := Nat.ne_of_beq_eq_false h
theorem beq_self (a : Nat) : Nat.beq a a = true := by simp
theorem beq_ne {n a : Nat} (h : n ≠ a) : Nat.beq n a = false := by
  cases e : Nat.beq n a with
  | false => rfl
  | true => exact absurd (beq_true e) h
theorem find_replace_same (a s : Nat) (o : AObj) : ∀ l : List (Nat × Nat × AObj), find a (replace a s o l) = (find a l).map fun _ => (s, o)
  | [] => rfl
  | (n, s', o') :: r => by
    simp only [replace, find]
    cases e : Nat.beq n a with
    | true => simp [find, e]
    | false => simp [find, e, find_replace_same a s o r]
theorem find_replace_ne (a b s : Nat) (o : AObj) (hne : b ≠ a) : ∀ l : List (Nat × Nat × AObj), find b (replace a s o l) = find b l
  | [] => rfl
  | (n, s', o') :: r => by
    simp only [replace]
    cases e : Nat.beq n a with
    | true =>
      have := beq_true e; subst this
      simp [find, beq_ne (Ne.symm hne)]
    | false => simp only [find]; rw [find_replace_ne a b s o hne r]
theorem find_remove_same (a : Nat) : ∀ l : List (Nat × Nat × AObj), find a (remove a l) = none
  | [] => rfl
  | (n, s', o') :: r => by
    simp only [remove]
    cases e : Nat.beq n a with
    | true => exact find_remove_same a r
    | false => simp [find, e, find_remove_same a r]
theorem find_remove_ne (a b : Nat) (hne : b ≠ a) : ∀ l : List (Nat × Nat × AObj), find b (remove a l) = find b l
  | [] => rfl
  | (n, s', o') :: r => by
    simp only [remove]
    cases e : Nat.beq n a with
    | true =>
      have := beq_true e; subst this
      simp only [find, beq_ne (Ne.symm hne)]
      exact find_remove_ne n b hne r
    | false => simp only [find]; rw [find_remove_ne a b hne r]
theorem AH.find_put_same {h : AH} {a : Nat} {o : AObj} : (h.put a o).find a = (h.find a).map fun _ => (h.clock, o) := find_replace_same a h.clock o h.blk
theorem AH.find_put_ne {h : AH} {a b : Nat} {o : AObj} (hne : b ≠ a) : (h.put a o).find b = h.find b := find_replace_ne a b h.clock o hne h.blk
theorem AH.find_new_same {h : AH} {o : AObj} : (h.new o).find h.next = some (h.clock, o) := by simp [AH.new, AH.find, Eng.find]
theorem AH.find_new_ne {h : AH} {a : Nat} {o : AObj} (hne : a ≠ h.next) : (h.new o).find a = h.find a := by
  simp [AH.new, AH.find, Eng.find, beq_ne (Ne.symm hne)]
theorem AH.find_drop_same {h : AH} {a : Nat} : (h.drop a).find a = none := find_remove_same a h.blk
theorem AH.find_drop_ne {h : AH} {a b : Nat} (hne : b ≠ a) : (h.drop a).find b = h.find b := find_remove_ne a b hne h.blk
theorem AH.get_put_same {h : AH} {a : Nat} {o o' : AObj} (hg : h.get a = some o') : (h.put a o).get a = some o := by
  unfold AH.get at *; rw [AH.find_put_same]
  cases e : h.find a with
  | none => simp [e] at hg
  | some p => simp
theorem AH.get_put_ne {h : AH} {a b : Nat} {o : AObj} (hne : b ≠ a) : (h.put a o).get b = h.get b := by unfold AH.get; rw [AH.find_put_ne hne]
theorem AH.get_new_same {h : AH} {o : AObj} : (h.new o).get h.next = some o := by unfold AH.get; rw [AH.find_new_same]; rfl
theorem AH.get_new_ne {h : AH} {a : Nat} {o : AObj} (hne : a ≠ h.next) : (h.new o).get a = h.get a := by unfold AH.get; rw [AH.find_new_ne hne]
theorem AH.get_drop_same {h : AH} {a : Nat} : (h.drop a).get a = none := by unfold AH.get; rw [AH.find_drop_same]; rfl
theorem AH.get_drop_ne {h : AH} {a b : Nat} (hne : b ≠ a) : (h.drop a).get b = h.get b := by unfold AH.get; rw [AH.find_drop_ne hne]
def AObj.rw : AObj → Bool
  | .cells _ _ rw => rw
  | .map _ _ => true
  | .loop _ _ _ _ _ => true
  | .mach _ => true
  | .pmap _ _ _ => true
def AObj.wr : AObj → Bool
  | .mach _ => false
  | o => o.rw
theorem AObj.wr_mach {o : AObj} (h : o.wr = true) : ∀ m, o ≠ .mach m := by intro m e; subst e; cases h
def nd : Obj → Prop
  | .deferred _ => False
  | _ => True
def LSt.is : LSt → LoopState → Option Code → Prop
  | .ready, s, p => s = .ready ∧ p = none
  | .busy, s, p => s = .busy ∧ p = none
  | .done c, s, p => s = .done ∧ p = some c
  | .gone, s, p => s = .exhausted
def keyEq : Value → Value → Option Bool
  | .int k a, .int k' b => if k = k' then some (a == b) else none
  | .string a, .string b => some (a == b)
  | .bool a, .bool b => some (a == b)
  | _, _ => none
def PRel (ρ : Rho) (old : List MapEntry) (k : Value) (v : Option Value) (es : List MapEntry) : Prop :=
  (∀ e ∈ old, keyEq k e.key = some false) ∧ (match v with
    | none => es = old
    | some x => ∃ pre post m, es = pre ++ m :: post ∧ old = pre ++ post ∧ m.key = k ∧ R ρ x m.val)
theorem PRel.mono {ρ ρ' : Rho} (hle : ρ.le ρ') {old : List MapEntry} {k : Value} {v : Option Value} {es : List MapEntry} (h : PRel ρ old k v es) : PRel ρ' old k v es := by
  refine ⟨h.1, ?_⟩
  cases v with
  | none => exact h.2
  | some x =>
    obtain ⟨pre, post, m, h1, h2, h3, h4⟩ := h.2
    exact ⟨pre, post, m, h1, h2, h3, h4.mono hle⟩
def RObj (P : Program) (ρ : Rho) (l : Nat) : AObj → Obj → Prop
  | .cells c e rw, .cells c' e' fr => e' = e ∧ RP ρ c c'.toList ∧ l * P.cellsOf e ≤ c'.size ∧ (rw = true → fr = (0, 0))
  | .map es k, .map es' k' => k' = k ∧ es'.size = es.length ∧
      ∀ (i : Nat) (e : Value × Value × Nat), es[i]? = some e → ∃ m : MapEntry, es'[i]? = some m ∧ plain1 e.1 = true ∧ m.key = e.1 ∧ m.born = e.2.2 ∧ R ρ e.2.1 m.val
  | .loop ts ps as_ bd st, .loop r => RL ρ ts r.tmps.toList ∧ r.params = ps ∧ r.assign = as_ ∧ r.body = bd ∧ st.is r.state r.pending
  | .mach _, o' => nd o'
  | .pmap old k v, .map es' _ => PRel ρ old k v es'.toList
  | _, _ => False
theorem RObj.mono {P : Program} {ρ ρ' : Rho} (hle : ρ.le ρ') {l : Nat} {o : AObj} {o' : Obj} (h : RObj P ρ l o o') : RObj P ρ' l o o' := by
  cases o with
  | mach m => exact h
  | pmap old k v =>
    cases o' <;> simp only [RObj] at h ⊢
    exact h.mono hle
  | cells c e rw =>
    cases o' <;> simp only [RObj] at h ⊢
    exact ⟨h.1, h.2.1.mono hle, h.2.2⟩
  | map es k =>
    cases o' <;> simp only [RObj] at h ⊢
    refine ⟨h.1, h.2.1, fun i e he => ?_⟩
    obtain ⟨m, h1, h2, h3, h4, h5⟩ := h.2.2 i e he
    exact ⟨m, h1, h2, h3, h4, h5.mono hle⟩
  | loop ts ps a b st =>
    cases o' <;> simp only [RObj] at h ⊢
    exact ⟨h.1.mono hle, h.2⟩
theorem RObj.nd {P : Program} {ρ : Rho} {l : Nat} {o : AObj} {o' : Obj} (h : RObj P ρ l o o') : nd o' := by
  cases o' with
  | deferred x => cases o <;> exact h
  | _ => trivial
def Wr (g : Nat → Option AObj) (a : Nat) : Prop := ∃ o, g a = some o ∧ o.rw = true
structure Own (P : Program) [ObjSem P] (ρ : Rho) (g : Nat → Option AObj) (w : World) : Prop where
  sep : ∀ a a' x, g a ≠ none → g a' ≠ none → ρ.φ a x → (ρ.φ a' x ∨ ∃ l, ρ a' = some (x, l)) → a = a'
  own : ∀ a o b l, g a = some o → o.rw = true → ρ a = some (b, l) → ρ.φ a b
  ro : ∀ a o x, g a = some o → o.rw = false → ¬ ρ.φ a x
  lt : ∀ a x, g a ≠ none → ρ.φ a x → ∃ o', w.heap[x]? = some o' ∧ nd o'
  mach : ∀ a m b l, g a = some (.mach m) → ρ a = some (b, l) → ObjSem.At P m w b (ρ.φ a)
structure Sim (P : Program) [ObjSem P] (ρ : Rho) (h : AH) (w : World) : Prop where
  blk : ∀ a o, h.get a = some o → ∃ b l o', ρ a = some (b, l) ∧ w.heap[b]? = some o' ∧ RObj P ρ l o o'
  lt : ∀ a b l, ρ a = some (b, l) → a < h.next ∧ b < w.heap.size
  ow : Own P ρ h.get w
  glob : ∀ g, g < P.globals.size → ∃ l, ρ g = some (g, l)
section
variable {P : Program} [ObjSem P]
theorem Own.inj {ρ : Rho} {g : Nat → Option AObj} {w : World} (s : Own P ρ g w) (a a' b l l' : Nat) (h1 : Wr g a) (h2 : g a' ≠ none) (h3 : ρ a = some (b, l)) (h4 : ρ a' = some (b, l')) : a = a' := by
  obtain ⟨o, ho, hw⟩ := h1
  exact s.sep a a' b (by rw [ho]; simp) h2 (s.own a o b l ho hw h3) (.inr ⟨l', h4⟩)
theorem Own.size {ρ : Rho} {g : Nat → Option AObj} {w : World} (s : Own P ρ g w) {a x : Nat} (h1 : g a ≠ none) (h2 : ρ.φ a x) : x < w.heap.size := by
  obtain ⟨o', h, _⟩ := s.lt a x h1 h2
  exact (Array.getElem?_eq_some_iff.1 h).1
theorem Own.congr {ρ : Rho} {g g' : Nat → Option AObj} {w : World} (s : Own P ρ g w) (h : ∀ a, g' a = g a) : Own P ρ g' w := by
  have : g' = g := funext h
  rw [this]; exact s
theorem Own.sub {ρ : Rho} {g g' : Nat → Option AObj} {w : World} (s : Own P ρ g w) (h : ∀ a o, g' a = some o → g a = some o) : Own P ρ g' w := by
  have hl : ∀ a, g' a ≠ none → g a ≠ none := fun a hn => by
    obtain ⟨o, ho⟩ := Option.ne_none_iff_exists'.1 hn
    rw [h a o ho]; simp
  exact ⟨fun a a' x h1 h2 => s.sep a a' x (hl a h1) (hl a' h2), fun a o b l h1 => s.own a o b l (h a o h1), fun a o x h1 => s.ro a o x (h a o h1), fun a x h1 => s.lt a x (hl a h1), fun a m b l h1 => s.mach a m b l (h a _ h1)⟩
theorem Own.grown {ρ : Rho} {g : Nat → Option AObj} {w w' : World} (s : Own P ρ g w) (hsz : w.heap.size ≤ w'.heap.size) (hk : ∀ a x, g a ≠ none → ρ.φ a x → w'.heap[x]? = w.heap[x]?) : Own P ρ g w' :=
  ⟨s.sep, s.own, s.ro, fun a x h1 h2 => by rw [hk a x h1 h2]; exact s.lt a x h1 h2, fun a m b l h1 h2 => ObjSem.loc m w w' b _ (s.mach a m b l h1 h2) hsz fun x hx => hk a x (by rw [h1]; simp) hx⟩
theorem Own.none (ρ : Rho) (g : Nat → Option AObj) (w : World) (h : ∀ a o, g a = some o → o.rw = false) (hφ : ∀ a x, ¬ ρ.φ a x) : Own P ρ g w :=
  ⟨fun a a' x _ _ h1 => absurd h1 (hφ a x), fun a o b l h1 h2 => (by rw [h a o h1] at h2; cases h2), fun a o x _ _ => hφ a x, fun a x _ h1 => absurd h1 (hφ a x), fun a m b l h1 => (by have := h a _ h1; cases this)⟩
theorem Own.alloc {ρ : Rho} {g : Nat → Option AObj} {w : World} (s : Own P ρ g w) (nm : Nat) (hlt : ∀ a b l, ρ a = some (b, l) → b < w.heap.size) (o : AObj) (hm : ∀ m, o ≠ .mach m) (o' : Obj) (hnd : nd o') (l : Nat) :
    Own P (ρ.add nm w.heap.size l o.rw) (fun a => if a = nm then some o else g a) (w.alloc o') := by
  have hold : ∀ x, x < w.heap.size → (w.alloc o').heap[x]? = w.heap[x]? := fun x hx => by
    show (w.heap.push o')[x]? = _
    rw [Array.getElem?_push, if_neg (by omega)]
  refine ⟨fun a a' x h1 h2 h3 h4 => ?_, fun a q b m h1 h2 h3 => ?_, fun a q x h1 h2 h3 => ?_, fun a x h1 h2 => ?_, fun a m b k h1 h2 => ?_⟩
  · rw [Rho.add_φ] at h3 h4
    simp only [Rho.add_f] at h4
    by_cases ha : a = nm <;> by_cases ha' : a' = nm
    · rw [ha, ha']
    · simp only [ha, ha', if_true, if_false] at h2 h3 h4
      rcases h4 with h4 | ⟨m, h4⟩
      · have := s.size h2 h4; omega
      · have := hlt a' x m h4; omega
    · simp only [ha, ha', if_true, if_false] at h1 h3 h4
      have := s.size h1 h3
      rcases h4 with h4 | ⟨m, h4⟩
      · omega
      · simp at h4; omega
    · simp only [ha, ha', if_false] at h1 h2 h3 h4
      exact s.sep a a' x h1 h2 h3 h4
  · rw [Rho.add_φ]
    rw [Rho.add_f] at h3
    by_cases ha : a = nm
    · simp only [ha, if_true] at h1 h3 ⊢
      cases h1; cases h3; exact ⟨h2, rfl⟩
    · simp only [ha, if_false] at h1 h3 ⊢
      exact s.own a q b m h1 h2 h3
  · rw [Rho.add_φ] at h3
    by_cases ha : a = nm
    · simp only [ha, if_true] at h1 h3
      cases h1; rw [h2] at h3; cases h3.1
    · simp only [ha, if_false] at h1 h3
      exact s.ro a q x h1 h2 h3
  · rw [Rho.add_φ] at h2
    by_cases ha : a = nm
    · simp only [ha, if_true] at h2
      refine ⟨o', ?_, hnd⟩
      rw [h2.2]
      show (w.heap.push o')[w.heap.size]? = some o'
      simp
    · simp only [ha, if_false] at h1 h2
      rw [hold x (s.size h1 h2)]
      exact s.lt a x h1 h2
  · rw [Rho.add_f] at h2
    by_cases ha : a = nm
    · simp only [ha, if_true] at h1
      cases h1; exact absurd rfl (hm m)
    · simp only [ha, if_false] at h1 h2
      have hφ : (ρ.add nm w.heap.size l o.rw).φ a = ρ.φ a := by
        funext x; exact propext (by rw [Rho.add_φ, if_neg ha])
      rw [hφ]
      exact ObjSem.loc m w _ b _ (s.mach a m b k h1 h2) (by show _ ≤ (w.heap.push o').size; simp) fun x hx => hold x (s.size (by rw [h1]; simp) hx)
theorem Own.write {ρ : Rho} {g : Nat → Option AObj} {w w' : World} (s : Own P ρ g w) {a b l : Nat} {o0 o : AObj} (hg : g a = some o0) (hrw : o0.rw = true) (hra : ρ a = some (b, l)) (hm : ∀ m, o ≠ .mach m) (hrw' : o.rw = true)
    (hb : ∃ o', w'.heap[b]? = some o' ∧ nd o') (hot : ∀ k, k ≠ b → w'.heap[k]? = w.heap[k]?) (hsz : w'.heap.size = w.heap.size) : Own P ρ (fun k => if k = a then some o else g k) w' := by
  have hl : ∀ k, (fun k => if k = a then some o else g k) k ≠ Option.none → g k ≠ Option.none := fun k hk => by
    by_cases e : k = a
    · subst e; rw [hg]; simp
    · simpa [e] using hk
  have hφb := s.own a o0 b l hg hrw hra
  refine ⟨fun k k' x h1 h2 => s.sep k k' x (hl k h1) (hl k' h2), fun k q x m h1 h2 h3 => ?_, fun k q x h1 h2 => ?_, fun k x h1 h2 => ?_, fun k m x n h1 h2 => ?_⟩
  · by_cases e : k = a
    · subst e; exact s.own k o0 x m hg hrw h3
    · simp only [e, if_false] at h1; exact s.own k q x m h1 h2 h3
  · by_cases e : k = a
    · subst e; simp only [if_true] at h1; cases h1; rw [hrw'] at h2; cases h2
    · simp only [e, if_false] at h1; exact s.ro k q x h1 h2
  · by_cases e : x = b
    · subst e; exact hb
    · rw [hot x e]; exact s.lt k x (hl k h1) h2
  · by_cases e : k = a
    · subst e; simp only [if_true] at h1; cases h1; exact absurd rfl (hm m)
    · simp only [e, if_false] at h1
      refine ObjSem.loc m w w' x _ (s.mach k m x n h1 h2) (Nat.le_of_eq hsz.symm) fun y hy => hot y ?_
      intro e2; subst e2
      exact e (s.sep k a y (by rw [h1]; simp) (by rw [hg]; simp) hy (.inl hφb))
end
section
variable {P : Program} [ObjSem P]
theorem Sim.inj {ρ : Rho} {h : AH} {w : World} (s : Sim P ρ h w) : ∀ a a' b l l', Wr h.get a → h.get a' ≠ none → ρ a = some (b, l) → ρ a' = some (b, l') → a = a' := s.ow.inj
end
structure Grow (h h' : AH) : Prop where
  next : h.next ≤ h'.next
  clock : h.clock ≤ h'.clock
  nm : ∀ a, h'.get a ≠ none → h.get a ≠ none ∨ (h.next ≤ a ∧ a < h'.next)
  stamp : ∀ a s o, h'.find a = some (s, o) → s < h.clock → h.find a = some (s, o)
  ro : ∀ a o, a < h.next → h'.get a = some o → o.rw = false → h.get a = some o
theorem Grow.refl (h : AH) : Grow h h := ⟨Nat.le_refl _, Nat.le_refl _, fun _ k => .inl k, fun _ _ _ k _ => k, fun _ _ _ k _ => k⟩
theorem Grow.trans {h h1 h2 : AH} (k : Grow h h1) (m : Grow h1 h2) : Grow h h2 :=
  ⟨Nat.le_trans k.next m.next, Nat.le_trans k.clock m.clock, (fun a hn => by
    have h1 := k.next
    have h2 := m.next
    rcases m.nm a hn with h3 | h3
    · rcases k.nm a h3 with h4 | h4
      · exact .inl h4
      · exact .inr ⟨h4.1, by omega⟩
    · exact .inr ⟨by omega, h3.2⟩),
   fun a s o hf hs => k.stamp a s o (m.stamp a s o hf (Nat.lt_of_lt_of_le hs k.clock)) hs,
   fun a o ha hg hr => k.ro a o ha (m.ro a o (Nat.lt_of_lt_of_le ha k.next) hg hr) hr⟩
section
variable {P : Program} [ObjSem P]
structure Step (P : Program) [ObjSem P] (ρ : Rho) (h : AH) (w : World) (ρ' : Rho) (h' : AH) (w' : World) : Prop where
  ext : ρ.le ρ'
  sim : Sim P ρ' h' w'
  grow : Grow h h'
  os : w'.os = w.os
  tape : w'.tape = w.tape
  output : w'.output = w.output
  size : w.heap.size ≤ w'.heap.size
  keep : ∀ b, b < w.heap.size → (∀ a, h.get a ≠ none → ¬ ρ.φ a b) → w'.heap[b]? = w.heap[b]?
  img : ∀ a o b l, h'.get a = some o → ρ' a = some (b, l) → b < w.heap.size → ∃ a0 o0 l0, h.get a0 = some o0 ∧ ρ a0 = some (b, l0) ∧ (o.rw = true → o0.rw = true)
  imf : ∀ a b, h'.get a ≠ none → ρ'.φ a b → b < w.heap.size → ∃ a0, h.get a0 ≠ none ∧ ρ.φ a0 b
theorem Step.refl {ρ : Rho} {h : AH} {w : World} (s : Sim P ρ h w) : Step P ρ h w ρ h w :=
  ⟨Rho.le.refl _, s, Grow.refl h, rfl, rfl, rfl, Nat.le_refl _, fun _ _ _ => rfl, fun a o b l hg hr _ => ⟨a, o, l, hg, hr, id⟩, fun a b hg hr _ => ⟨a, hg, hr⟩⟩
theorem Step.trans {ρ ρ1 ρ2 : Rho} {h h1 h2 : AH} {w w1 w2 : World} (s : Step P ρ h w ρ1 h1 w1) (t : Step P ρ1 h1 w1 ρ2 h2 w2) : Step P ρ h w ρ2 h2 w2 where
  ext := s.ext.trans t.ext
  sim := t.sim
  grow := s.grow.trans t.grow
  os := t.os.trans s.os
  tape := t.tape.trans s.tape
  output := t.output.trans s.output
  size := Nat.le_trans s.size t.size
  keep := fun b hb hk => by
    rw [t.keep b (Nat.lt_of_lt_of_le hb s.size) ?_, s.keep b hb hk]
    intro a hg hr
    obtain ⟨a0, hg0, hr0⟩ := s.imf a b hg hr hb
    exact hk a0 hg0 hr0
  img := fun a o b l hg hr hb => by
    obtain ⟨a1, o1, l1, hg1, hr1, hw1⟩ := t.img a o b l hg hr (Nat.lt_of_lt_of_le hb s.size)
    obtain ⟨a0, o0, l0, hg0, hr0, hw0⟩ := s.img a1 o1 b l1 hg1 hr1 hb
    exact ⟨a0, o0, l0, hg0, hr0, fun hw => hw0 (hw1 hw)⟩
  imf := fun a b hg hr hb => by
    obtain ⟨a1, hg1, hr1⟩ := t.imf a b hg hr (Nat.lt_of_lt_of_le hb s.size)
    exact s.imf a1 b hg1 hr1 hb
theorem heapOld (w : World) (o : Obj) (k : Nat) (h : k < w.heap.size) : (w.alloc o).heap[k]? = w.heap[k]? := by
  show (w.heap.push o)[k]? = _
  rw [Array.getElem?_push, if_neg (by omega)]
theorem heapNew (w : World) (o : Obj) : (w.alloc o).heap[w.heap.size]? = some o := by
  show (w.heap.push o)[w.heap.size]? = some o
  simp
theorem Sim.draw {ρ : Rho} {h : AH} {w w' : World} (s : Sim P ρ h w) (hh : w'.heap = w.heap) : Sim P ρ h w' :=
  ⟨fun a o hg => by rw [hh]; exact s.blk a o hg, fun a b l hr => by rw [hh]; exact s.lt a b l hr, s.ow.grown (by rw [hh]; exact Nat.le_refl _) (fun a x _ _ => by rw [hh]), s.glob⟩
theorem Step.drawL {ρ ρ' : Rho} {h h' : AH} {w w' w'' : World} (s : Step P ρ h w ρ' h' w') (hh : w.heap = w''.heap) (ho : w.os = w''.os) (ht : w.tape = w''.tape) (hu : w.output = w''.output) : Step P ρ h w'' ρ' h' w' :=
  ⟨s.ext, s.sim, s.grow, s.os.trans ho, s.tape.trans ht, s.output.trans hu, by rw [← hh]; exact s.size, fun b hb hk => by rw [s.keep b (by rw [hh]; exact hb) hk, hh], fun a o b l hg hr hb => s.img a o b l hg hr (by rw [hh]; exact hb), fun a b hg hr hb => s.imf a b hg hr (by rw [hh]; exact hb)⟩
theorem Sim.live_lt {ρ : Rho} {h : AH} {w : World} (s : Sim P ρ h w) {a : Nat} {o : AObj} (hg : h.get a = some o) : a < h.next := by
  obtain ⟨b, l, o', hr, _, _⟩ := s.blk a o hg
  exact (s.lt a b l hr).1
theorem Step.of_grown {ρ : Rho} {h : AH} {w w' : World} (s : Sim P ρ h w) (hos : w'.os = w.os) (htp : w'.tape = w.tape) (hou : w'.output = w.output) (hsz : w.heap.size ≤ w'.heap.size)
    (hk : ∀ b, b < w.heap.size → w'.heap[b]? = w.heap[b]?) : Step P ρ h w ρ h w' :=
  ⟨Rho.le.refl _, ⟨fun a o hg => by
      obtain ⟨b, l, o', h1, h2, h3⟩ := s.blk a o hg
      exact ⟨b, l, o', h1, by rw [hk b (s.lt a b l h1).2]; exact h2, h3⟩,
    fun a b l hr => ⟨(s.lt a b l hr).1, Nat.lt_of_lt_of_le (s.lt a b l hr).2 hsz⟩, s.ow.grown hsz (fun a x h1 h2 => hk x (s.ow.size h1 h2)), s.glob⟩, Grow.refl h, hos, htp, hou, hsz, fun b hb _ => hk b hb, fun a o b l hg hr _ => ⟨a, o, l, hg, hr, id⟩, fun a b hg hr _ => ⟨a, hg, hr⟩⟩
theorem Sim.fresh {ρ : Rho} {h : AH} {w : World} (s : Sim P ρ h w) : ρ h.next = none := by
  cases e : ρ h.next with
  | none => rfl
  | some p => exact absurd (s.lt h.next p.1 p.2 e).1 (Nat.lt_irrefl _)
theorem Sim.dead {ρ : Rho} {h : AH} {w : World} (s : Sim P ρ h w) : h.get h.next = none := by
  cases e : h.get h.next with
  | none => rfl
  | some q => exact absurd (s.live_lt e) (Nat.lt_irrefl _)
theorem Step.alloc {ρ : Rho} {h : AH} {w : World} (s : Sim P ρ h w) (o : AObj) (o' : Obj) (l : Nat) (hr : RObj P ρ l o o') (hm : ∀ m, o ≠ .mach m := by intro m hm; cases hm) :
    Step P ρ h w (ρ.add h.next w.heap.size l o.rw) (h.new o) (w.alloc o') := by
  have hnone := s.fresh
  have hle : ρ.le (ρ.add h.next w.heap.size l o.rw) := Rho.add_le hnone
  have hgn : ∀ a, a ≠ h.next → (h.new o).get a = h.get a := fun a hn => AH.get_new_ne hn
  have hz := s.dead
  refine ⟨hle, ⟨?_, ?_, ?_, ?_⟩, ⟨Nat.le_succ _, Nat.le_succ _, ?_, ?_, ?_⟩, rfl, rfl, rfl, by simp, ?_, ?_, ?_⟩
  · intro a q hg
    rw [Rho.add_f]
    by_cases ha : a = h.next
    · subst ha
      rw [AH.get_new_same] at hg
      cases hg
      exact ⟨w.heap.size, l, o', by simp, heapNew _ _, hr.mono hle⟩
    · rw [hgn a ha] at hg
      obtain ⟨b, m, q', h1, h2, h3⟩ := s.blk a q hg
      refine ⟨b, m, q', by simp [ha, h1], ?_, h3.mono hle⟩
      have hb := (s.lt a b m h1).2
      rw [heapOld _ _ _ hb]; exact h2
  · intro a b m hr'
    rw [Rho.add_f] at hr'
    by_cases ha : a = h.next
    · subst ha
      simp at hr'
      obtain ⟨rfl, rfl⟩ := hr'
      exact ⟨Nat.lt_succ_self _, by simp⟩
    · simp [ha] at hr'
      have := s.lt a b m hr'
      exact ⟨Nat.lt_succ_of_lt this.1, by simp; omega⟩
  · refine (s.ow.alloc h.next (fun a b l hr => (s.lt a b l hr).2) o hm o' hr.nd l).congr fun a => ?_
    by_cases ha : a = h.next
    · subst ha; rw [AH.get_new_same, if_pos rfl]
    · rw [hgn a ha, if_neg ha]
  · intro g hg
    obtain ⟨m, hm⟩ := s.glob g hg
    exact ⟨m, hle g _ hm⟩
  · intro a hn
    by_cases ha : a = h.next
    · subst ha; exact .inr ⟨Nat.le_refl _, Nat.lt_succ_self _⟩
    · rw [hgn a ha] at hn; exact .inl hn
  · intro a st q hf hs
    by_cases ha : a = h.next
    · subst ha; rw [AH.find_new_same] at hf; cases hf; omega
    · rw [AH.find_new_ne ha] at hf; exact hf
  · intro a q ha hg _; rw [hgn a (by omega)] at hg; exact hg
  · intro b hb _; exact heapOld _ _ _ hb
  · intro a q b m hg hr' hb
    rw [Rho.add_f] at hr'
    by_cases ha : a = h.next
    · subst ha; simp at hr'; omega
    · simp [ha] at hr'; rw [hgn a ha] at hg
      exact ⟨a, q, m, hg, hr', id⟩
  · intro a b hg hr' hb
    rw [Rho.add_φ] at hr'
    by_cases ha : a = h.next
    · subst ha; simp at hr'; omega
    · simp only [ha, if_false] at hr'; rw [hgn a ha] at hg
      exact ⟨a, hg, hr'⟩
theorem Step.write {ρ : Rho} {h : AH} {w : World} (s : Sim P ρ h w) {a b l : Nat} {o0 : AObj} (hg0 : h.get a = some o0) (hrw : o0.rw = true) (hra : ρ a = some (b, l))
    (o : AObj) (hrw' : o.rw = true) (o' : Obj) (hr : RObj P ρ l o o') (w' : World) (hb : w'.heap[b]? = some o') (hot : ∀ k, k ≠ b → w'.heap[k]? = w.heap[k]?)
    (hsz : w'.heap.size = w.heap.size) (hos : w'.os = w.os) (htp : w'.tape = w.tape) (hou : w'.output = w.output) (hm : ∀ m, o ≠ .mach m := by intro m hm; cases hm) :
    Step P ρ h w ρ (h.put a o) w' := by
  have hga : (h.put a o).get a = some o := AH.get_put_same hg0
  have hgn : ∀ k, k ≠ a → (h.put a o).get k = h.get k := fun k hk => AH.get_put_ne hk
  have hlive : ∀ k, (h.put a o).get k ≠ none → h.get k ≠ none := fun k hk => by
    by_cases e : k = a
    · subst e; rw [hg0]; simp
    · rw [hgn k e] at hk; exact hk
  refine ⟨Rho.le.refl _, ⟨?_, ?_, ?_, s.glob⟩, ⟨Nat.le_refl _, Nat.le_succ _, fun k hk => .inl (hlive k hk), ?_, ?_⟩, hos, htp, hou, Nat.le_of_eq hsz.symm, ?_, ?_, ?_⟩
  · intro k q hg
    by_cases e : k = a
    · subst e; rw [hga] at hg; cases hg; exact ⟨b, l, o', hra, hb, hr⟩
    · rw [hgn k e] at hg
      obtain ⟨b2, m, q', h1, h2, h3⟩ := s.blk k q hg
      refine ⟨b2, m, q', h1, ?_, h3⟩
      rw [hot b2 ?_]; exact h2
      intro hbb; subst hbb
      exact e (s.inj a k b2 l m ⟨o0, hg0, hrw⟩ (by rw [hg]; simp) hra h1).symm
  · intro k b2 m hk; rw [hsz]; exact s.lt k b2 m hk
  · refine (s.ow.write hg0 hrw hra hm hrw' ⟨o', hb, hr.nd⟩ hot hsz).congr fun k => ?_
    by_cases e : k = a
    · subst e; rw [hga, if_pos rfl]
    · rw [hgn k e, if_neg e]
  · intro k st q hf hs
    by_cases e : k = a
    · subst e
      rw [AH.find_put_same] at hf
      cases e2 : h.find k with
      | none => rw [e2] at hf; cases hf
      | some p => rw [e2] at hf; simp at hf; omega
    · rw [AH.find_put_ne e] at hf; exact hf
  · intro k q _ hg hq
    by_cases e : k = a
    · subst e; rw [hga] at hg; cases hg; rw [hrw'] at hq; cases hq
    · rw [hgn k e] at hg; exact hg
  · intro k hk hno; refine hot k ?_; intro e; subst e; exact hno a (by rw [hg0]; simp) (s.ow.own a o0 k l hg0 hrw hra)
  · intro k q b2 m hg hk _
    by_cases e : k = a
    · subst e; exact ⟨k, o0, m, hg0, hk, fun _ => hrw⟩
    · rw [hgn k e] at hg; exact ⟨k, q, m, hg, hk, id⟩
  · intro k b2 hg hk _; exact ⟨k, hlive k hg, hk⟩
theorem Step.drop {ρ : Rho} {h : AH} {w : World} (s : Sim P ρ h w) (a : Nat) : Step P ρ h w ρ (h.drop a) w := by
  have hsub : ∀ k o, (h.drop a).get k = some o → h.get k = some o := fun k o hg => by
    by_cases e : k = a
    · subst e; rw [AH.get_drop_same] at hg; cases hg
    · rw [AH.get_drop_ne e] at hg; exact hg
  have hlive : ∀ k, (h.drop a).get k ≠ none → h.get k ≠ none := fun k hk => by
    cases e : (h.drop a).get k with
    | none => exact absurd e hk
    | some o => rw [hsub k o e]; simp
  refine ⟨Rho.le.refl _, ⟨fun k o hg => s.blk k o (hsub k o hg), s.lt, s.ow.sub hsub, s.glob⟩,
    ⟨Nat.le_refl _, Nat.le_refl _, fun k hk => .inl (hlive k hk), ?_, fun k o _ hg _ => hsub k o hg⟩, rfl, rfl, rfl, Nat.le_refl _, fun _ _ _ => rfl, fun k o b m hg hr _ => ⟨k, o, m, hsub k o hg, hr, id⟩, fun k b hg hr _ => ⟨k, hlive k hg, hr⟩⟩
  intro k st q hf _
  by_cases e : k = a
  · subst e; rw [AH.find_drop_same] at hf; cases hf
  · rw [AH.find_drop_ne e] at hf; exact hf
def markD (D : Nat) : Deferred := { target := .collected D, args := #[] }
def Marks (n0 : Nat) (ρ : Rho) (h : AH) (w : World) (ds : List Deferred) : Prop :=
  n0 ≤ w.heap.size ∧ ∃ Ds : List Nat, ds = Ds.map markD ∧ Ds.Nodup ∧ ∀ D ∈ Ds, n0 ≤ D ∧ w.heap[D]? = some (.deferred (some [])) ∧ ∀ a, h.get a ≠ none → ¬ ρ.φ a D
theorem Marks.nil {n0 : Nat} {w : World} (hn : n0 ≤ w.heap.size) (ρ : Rho) (h : AH) : Marks n0 ρ h w [] := ⟨hn, [], rfl, .nil, fun D hD => by cases hD⟩
theorem Marks.step {n0 : Nat} {ρ ρ' : Rho} {h h' : AH} {w w' : World} {ds : List Deferred} (m : Marks n0 ρ h w ds) (s : Step P ρ h w ρ' h' w') : Marks n0 ρ' h' w' ds := by
  obtain ⟨hs, Ds, rfl, hn, hd⟩ := m
  refine ⟨Nat.le_trans hs s.size, Ds, rfl, hn, fun D hD => ?_⟩
  obtain ⟨h0, h1, h2⟩ := hd D hD
  have hlt : D < w.heap.size := (Array.getElem?_eq_some_iff.1 h1).1
  refine ⟨h0, by rw [s.keep D hlt h2]; exact h1, fun a hg hr => ?_⟩
  obtain ⟨a0, g0, r0⟩ := s.imf a D hg hr hlt
  exact h2 a0 g0 r0
theorem Sim.shut {ρ : Rho} {h : AH} {w : World} (s : Sim P ρ h w) {D : Nat} {x : Option (List Deferred)} (hD : w.heap[D]? = some (.deferred x)) (o : Obj) : Sim P ρ h (w.putObj D o) :=
  ⟨fun a q hg => by
    obtain ⟨b, l, o', h1, h2, h3⟩ := s.blk a q hg
    have hne : b ≠ D := by
      intro e; subst e; rw [hD] at h2; cases h2
      exact h3.nd
    exact ⟨b, l, o', h1, by rw [World.putObj_heap_other hne]; exact h2, h3⟩,
   fun a b l hr => by rw [World.putObj_size]; exact s.lt a b l hr, s.ow.grown (by rw [World.putObj_size]; exact Nat.le_refl _) (fun a x h1 h2 => by
     refine World.putObj_heap_other ?_
     intro e; subst e
     obtain ⟨o', h3, h4⟩ := s.ow.lt a x h1 h2
     rw [hD] at h3; cases h3; exact h4), s.glob⟩
theorem Step.shut {ρ ρ' : Rho} {h h' : AH} {w w' : World} (s : Step P ρ h w ρ' h' w') {D : Nat} {x : Option (List Deferred)} (hD : w'.heap[D]? = some (.deferred x)) (hn : w.heap.size ≤ D) (o : Obj) : Step P ρ h w ρ' h' (w'.putObj D o) :=
  ⟨s.ext, s.sim.shut hD o, s.grow, s.os, s.tape, s.output, by rw [World.putObj_size]; exact s.size,
   fun b hb hk => by rw [World.putObj_heap_other (by omega)]; exact s.keep b hb hk, s.img, s.imf⟩
end
end Go.Eng
namespace Go.Eng
set_option linter.unusedVariables false
set_option linter.unusedSimpArgs false
open Go
structure Cfg where
  eqT : List Nat
structure Cfg.ok (P : Program) (C : Cfg) : Prop where
  eq : ∀ t ∈ C.eqT, P.stoodInHeld t = false ∧ P.eqGuardType P.depth t = false
inductive LRes where
  | val (v : Value)
  | ptr (o : AObj)
  | sl (o : AObj) (n c : Nat)
  | mp (o : AObj)
section
variable (P : Program) (C : Cfg)
def zeroV (t : TypeId) : Option Value := (P.info? t).bind fun i => i.zero.bind fun z => bif plain z then some z else none
def isAggT (t : TypeId) : Option Bool := (P.underlying t).map fun
  | .struct _ | .array _ _ => true
  | _ => false
def partV (t : TypeId) (cs : List Value) (off : Nat) : Option Value :=
  match isAggT P t with
  | none => none
  | some true => some (.agg ((cs.drop off).take (P.cellsOf t)).toArray)
  | some false => cs[off]?
def loadV (t : TypeId) (x : Value) (rd : Nat → Option AObj) : Option Value :=
  match x with
  | .pointer (some ⟨a, off, none⟩) => match rd a with
    | some (.cells c _ _) => match isAggT P t with
      | none => none
      | some true => bif Nat.ble (off + P.cellsOf t) c.length then some (.agg ((c.drop off).take (P.cellsOf t)).toArray) else none
      | some false => c[off]?
    | _ => none
  | _ => none
def intV (op : BinOp) (k : IntKind) (a b : Int) : Option Value :=
  match op with
  | .add => some (.int k (k.wrap (a + b)))
  | .sub => some (.int k (k.wrap (a - b)))
  | .mul => some (.int k (k.wrap (a * b)))
  | .quo => if b = 0 then none else some (.int k (k.wrap (a.tdiv b)))
  | .rem => if b = 0 then none else some (.int k (a.tmod b))
  | .and => some (.int k (bits .and k a b))
  | .or => some (.int k (bits .or k a b))
  | .xor => some (.int k (bits .xor k a b))
  | .andNot => some (.int k (bits .andNot k a b))
  | .eql => some (.bool (a == b))
  | .neq => some (.bool (a != b))
  | .lss => some (.bool (decide (a < b)))
  | .leq => some (.bool (decide (a ≤ b)))
  | .gtr => some (.bool (decide (a > b)))
  | .geq => some (.bool (decide (a ≥ b)))
  | _ => none
def shiftV (op : BinOp) (k : IntKind) (x y : Int) : Option Value :=
  if y < 0 then none else
  match op with
  | .shl => some (.int k (k.wrap (x * 2 ^ (min y.toNat k.bits))))
  | .shr => some (.int k (x.fdiv (2 ^ (min y.toNat k.bits))))
  | _ => none
def strV (op : BinOp) (x y : ByteArray) : Option Value :=
  match op with
  | .add => if ((x.size + y.size : Nat) : Int) > 4294967296 then none else some (.string (x ++ y))
  | .eql => some (.bool (x.toList == y.toList))
  | .neq => some (.bool (!(x.toList == y.toList)))
  | .lss => some (.bool (Op.bytesLess x.toList y.toList))
  | .leq => some (.bool (Op.bytesLess x.toList y.toList || x.toList == y.toList))
  | .gtr => some (.bool (!(Op.bytesLess x.toList y.toList || x.toList == y.toList)))
  | .geq => some (.bool (!Op.bytesLess x.toList y.toList))
  | _ => none
def eqFs (eq : TypeId → Value → Value → Option Bool) (xs ys : List Value) : List Field → Option Bool
  | [] => some true
  | f :: fs => if f.name = "_" then eqFs eq xs ys fs else
    match partV P f.type xs f.offset, partV P f.type ys f.offset with
    | some a, some b => match eq f.type a b with
      | some true => eqFs eq xs ys fs
      | some false => some false
      | none => none
    | _, _ => none
def eqV : Nat → TypeId → Value → Value → Option Bool
  | 0, _, _, _ => none
  | n + 1, t, x, y => match P.underlying t, x, y with
    | some .bool, .bool a, .bool b => some (a == b)
    | some (.int _), .int k a, .int k' b => if k = k' then some (a == b) else none
    | some .string, .string a, .string b => some (a.toList == b.toList)
    | some (.pointer _), .pointer none, .pointer b => some b.isNone
    | some (.pointer _), .pointer (some _), .pointer none => some false
    | some (.interface _), .nilIface, .nilIface => some true
    | some (.interface _), .nilIface, .iface _ _ => some false
    | some (.interface _), .iface _ _, .nilIface => some false
    | some (.interface _), .iface tx vx, .iface ty vy =>
      if tx ≠ ty then some false else match P.info? tx with
        | some i => if i.comparable then eqV n tx vx vy else none
        | none => none
    | some (.struct fs), .agg xs, .agg ys => bif C.eqT.contains t then eqFs P (eqV n) xs.toList ys.toList fs.toList else none
    | some (.slice _), .slice none _ _, .slice none _ _ => some true
    | some (.slice _), .slice (some _) (n + 1) _, .slice none _ _ => some false
    | some (.slice _), .slice none _ _, .slice (some _) (n + 1) _ => some false
    | some (.slice _), .slice (some ⟨_, _, some 1⟩) 0 _, .slice none _ _ => some false
    | some (.map _ _), .map none, .map b => some b.isNone
    | some (.map _ _), .map (some _), .map none => some false
    | some (.func _ _ _), .nilFunc, .nilFunc => some true
    | some (.func _ _ _), .nilFunc, .func (.func _) _ _ => some false
    | some (.func _ _ _), .func (.func _) _ _, .nilFunc => some false
    | _, _, _ => none
def isConstX : Operand → Bool
  | .const _ => true
  | _ => false
def binV (op : BinOp) (t : TypeId) (x y : Operand) (u v : Value) : Option Value :=
  match u, v with
  | .int k a, .int k' b => match op with
    | .shl => shiftV .shl k a b
    | .shr => shiftV .shr k a b
    | op => if k = k' then intV op k a b else none
  | .string a, .string b => strV op a b
  | .nilIface, .nilIface => bif isConstX x || isConstX y then (match op with
    | .eql => (eqV P C 12 t u v).map .bool
    | .neq => (eqV P C 12 t u v).map fun b => .bool (!b)
    | _ => none) else none
  | .agg _, .agg _ => bif C.eqT.contains t then (match op with
    | .eql => (eqV P C 12 t u v).map .bool
    | .neq => (eqV P C 12 t u v).map fun b => .bool (!b)
    | _ => none) else none
  | .int _ _, _ => none
  | _, .int _ _ => none
  | .tuple _, _ => none
  | _, .tuple _ => none
  | u, v => match op with
    | .eql => (eqV P C 12 t u v).map .bool
    | .neq => (eqV P C 12 t u v).map fun b => .bool (!b)
    | _ => none
def unV (op : UnOp) (x : Value) : Option Value :=
  match op, x with
  | .neg, .int k n => intV .sub k 0 n
  | .xor, .int k n => intV .xor k (if k.signed then -1 else k.max) n
  | .not, .bool b => some (.bool !b)
  | _, _ => none
def bytesOfCells : List Value → Option (List UInt8)
  | [] => some []
  | .int .u8 n :: r => (bytesOfCells r).map (UInt8.ofNat n.toNat :: ·)
  | _ :: _ => none
def convV (s d : TypeId) (x : Value) (rd : Nat → Option AObj) : Option Value :=
  match P.underlying s, P.underlying d, x with
  | some _, some (.int k), .int _ n => some (.int k (k.wrap n))
  | some _, some .string, .string b => some (.string b)
  | some (.slice e), some .string, .slice none _ _ => match P.underlying e with
    | some (.int .u8) => some (.string ByteArray.empty)
    | _ => none
  | some (.slice e), some .string, .slice (some _) 0 _ => match P.underlying e with
    | some (.int .u8) => some (.string ByteArray.empty)
    | _ => none
  | some (.slice e), some .string, .slice (some ⟨a, off, none⟩) n _ => match P.underlying e, rd a with
    | some (.int .u8), some (.cells c _ _) =>
      bif Nat.ble (off + n) c.length then (bytesOfCells ((c.drop off).take n)).map fun l => .string ⟨l.toArray⟩ else none
    | _, _ => none
  | _, _, _ => none
def splice (cs : List Value) (off : Nat) (vs : List Value) : List Value := cs.take off ++ vs ++ cs.drop (off + vs.length)
def fillL (place : Nat → Option (Nat × Nat)) : List Value → List (Nat × Value) → Option (List Value)
  | cs, [] => some cs
  | cs, (i, v) :: rest => match place i with
    | none => none
    | some (off, size) => if okCell v = true ∧ v.cells.toList.length = size ∧ off + size ≤ cs.length then fillL place (splice cs off v.cells.toList) rest else none
def placesL : List Field → Option (List (Nat × Nat))
  | [] => some []
  | f :: fs => match P.info? f.type, placesL fs with
    | some i, some r => some ((f.offset, i.size) :: r)
    | _, _ => none
def buildV (t : TypeId) (parts : List (Nat × Value)) : Option Value :=
  match zeroV P t, P.underlying t with
  | some z, some (.struct fs) => match placesL P fs.toList with
    | some ps => (fillL (ps[·]?) z.cells.toList parts).map fun l => .agg l.toArray
    | none => none
  | some z, some (.array _ e) => match P.info? e with
    | some i => (fillL (fun k => some (k * i.size, i.size)) z.cells.toList parts).map fun l => .agg l.toArray
    | none => none
  | _, _ => none
def repL : Nat → List Value → List Value
  | 0, _ => []
  | n + 1, z => z ++ repL n z
def buildSliceV (t : TypeId) (len : Nat) (parts : List (Nat × Value)) : Option LRes :=
  match P.underlying t with
  | some (.slice e) => match P.info? e, zeroV P e with
    | some i, some z => if len * i.size ≤ 16777216 ∧ z.cells.toList.length = i.size ∧ 0 < i.size then
        (fillL (fun k => some (k * i.size, i.size)) (repL len z.cells.toList) parts).map fun l => .sl (.cells l e true) len len else none
    | _, _ => none
  | _ => none
def makeV (t : TypeId) (l c : Value) : Option LRes :=
  match P.underlying t, l, c with
  | some (.slice e), .int _ l, .int _ c => match P.info? e, zeroV P e with
    | some i, some z => if 0 ≤ l ∧ l ≤ c ∧ (i.bytes : Int) * c ≤ 1099511627776 ∧ c ≤ 1099511627776 ∧ z.cells.toList.length = i.size ∧ 0 < i.size then
        some (.sl (.cells (repL c.toNat z.cells.toList) e true) l.toNat c.toNat) else none
    | _, _ => none
  | _, _, _ => none
def boundV (x : Value) (y : Nat) : Option Nat :=
  match x with
  | .int _ i => if 0 ≤ i ∧ i ≤ y then some i.toNat else none
  | _ => none
def boundsV (len cap : Nat) (lo hi mx : Option Value) : Option (Nat × Nat × Nat) :=
  match (match mx with | some v => boundV v cap | none => some cap) with
  | none => none
  | some m => match (match hi, mx with | some v, _ => boundV v m | none, none => some len | none, some _ => none) with
    | none => none
    | some h => match (match lo with | some v => boundV v h | none => some 0) with
      | none => none
      | some l => some (l, h, m)
theorem boundsV_fit {len cap l h m : Nat} {hi : Option Value} (hb : boundsV len cap none hi none = some (l, h, m)) : l = 0 ∧ m = cap := by
  unfold boundsV at hb
  simp only at hb
  split at hb
  · cases hb
  · cases hb; exact ⟨rfl, rfl⟩
def zeroS (mx : Option Value) (a : Nat) : Value := match mx with
  | some _ => .slice (some ⟨a, 0, none⟩) 0 0
  | none => .slice (some ⟨0, 0, some 0⟩) 0 0
def fitS (lo mx : Option Value) : Bool := lo.isNone && mx.isNone
def sliceV (t : TypeId) (x : Value) (lo hi mx : Option Value) : Option Value :=
  match P.underlying t, x with
  | some .string, .string s => match mx with
    | some _ => none
    | none => match boundsV s.size s.size lo hi none with
      | some (l, h, _) => some (.string (s.extract l h))
      | none => none
  | some (.slice e), .slice a len cap => match P.info? e, boundsV len cap lo hi mx with
    | some i, some (l, h, m) => if ¬ (l ≤ h ∧ h ≤ m) then none else (match a with
      | none => some (.slice none (h - l) (m - l))
      | some ⟨a, off, none⟩ => bif fitS lo mx then some (.slice (some ⟨a, off, none⟩) h m) else if m = l then some (zeroS mx a) else some (.slice (some ⟨a, off + l * i.size, none⟩) (h - l) (m - l))
      | some ⟨_, _, some _⟩ => if m = l then some (zeroS mx 0) else none)
    | _, _ => none
  | some (.array n e), .pointer (some ⟨a, off, none⟩) => match P.info? e, boundsV n n lo hi mx with
    | some i, some (l, h, m) => if m = l then some (.slice (some ⟨a, off, none⟩) (h - l) (m - l)) else some (.slice (some ⟨a, off + l * i.size, none⟩) (h - l) (m - l))
    | _, _ => none
  | _, _ => none
def fieldAddrV (s : TypeId) (x : Value) (f : Nat) : Option Value :=
  match P.underlying s, x with
  | some (.struct fs), .pointer (some ⟨a, off, none⟩) => match fs.toList[f]? with
    | some fd => match P.info? fd.type with
      | some i => if i.size = 0 then none else some (.pointer (some ⟨a, off + fd.offset, none⟩))
      | none => none
    | none => none
  | _, _ => none
def fieldV (t : TypeId) (x : Value) (f : Nat) : Option Value :=
  match P.underlying t, x with
  | some (.struct fs), .agg cs => match fs.toList[f]? with
    | some fd => partV P fd.type cs.toList fd.offset
    | none => none
  | _, _ => none
def indexAddrV (t : TypeId) (x i : Value) : Option Value :=
  match P.underlying t, x, i with
  | some (.array n e), .pointer (some ⟨a, off, none⟩), .int _ i => match P.info? e with
    | some ie => if 0 ≤ i ∧ i < n then some (.pointer (some ⟨a, off + i.toNat * ie.size, none⟩)) else none
    | none => none
  | some (.slice e), .slice (some ⟨a, off, none⟩) n _, .int _ i => match P.info? e with
    | some ie => if 0 ≤ i ∧ i < n then some (.pointer (some ⟨a, off + i.toNat * ie.size, none⟩)) else none
    | none => none
  | _, _, _ => none
def indexV (t : TypeId) (x i : Value) : Option Value :=
  match P.underlying t, x, i with
  | some (.array n e), .agg cs, .int _ i => match P.info? e with
    | some ie => if 0 ≤ i ∧ i < n then partV P e cs.toList (i.toNat * ie.size) else none
    | none => none
  | some .string, .string s, .int _ i => if 0 ≤ i then (match s.data.toList[i.toNat]? with
    | some b => some (.int .u8 b.toNat)
    | none => none) else none
  | _, _, _ => none
def keyB : Value → Value → Bool
  | .int k a, .int k' b => (match decide (k = k') with
    | true => a == b
    | false => false)
  | _, _ => false
def lookE (k : Value) : List (Value × Value × Nat) → Nat → Option (Option (Nat × Value))
  | [], _ => some none
  | (k', v, _) :: r, i => match keyEq k k' with
    | some true => some (some (i, v))
    | some false => lookE k r (i + 1)
    | none => none
def keyT (t : TypeId) : Bool := match P.underlying t with
  | some (.int _) | some .string | some .bool => true
  | _ => false
def keyFits (t : TypeId) (k : Value) : Bool := match P.underlying t, k with
  | some (.int _), .int _ _ | some .string, .string _ | some .bool, .bool _ => true
  | _, _ => false
def lookM (k m : Value) (rd : Nat → Option AObj) : Option (Option Value) :=
  match m with
  | .map none => some none
  | .map (some r) => match rd r with
    | some (.map es _) => (match lookE k es 0 with
      | some (some (_, v)) => some (some v)
      | some none => some none
      | none => none)
    | some (.pmap _ k0 v) => (match keyB k k0 with
      | true => some v
      | false => none)
    | _ => none
  | _ => none
def lookupV (t : TypeId) (m k : Value) (ok : Bool) (rd : Nat → Option AObj) : Option Value :=
  match P.underlying t with
  | some (.map kt et) => bif keyFits P kt k then (match zeroV P et, lookM k m rd with
    | some _, some (some v) => some (bif ok then .tuple #[v, .bool true] else v)
    | some z, some none => some (bif ok then .tuple #[z, .bool false] else z)
    | _, _ => none) else none
  | _ => none
def lenV (t : TypeId) (x : Value) (rd : Nat → Option AObj) : Option Value :=
  match P.underlying t, x with
  | some .string, .string s => some (.int .i64 s.size)
  | some (.array n _), _ => some (.int .i64 n)
  | some (.slice _), .slice _ n _ => some (.int .i64 n)
  | some (.map _ _), .map none => some (.int .i64 0)
  | some (.map _ _), .map (some r) => match rd r with
    | some (.map es _) => some (.int .i64 es.length)
    | _ => none
  | _, _ => none
def minV : Value → List Value → Option Value
  | v, [] => some v
  | .int k x, .int _ y :: r => minV (.int k (if y < x then y else x)) r
  | _, _ => none
def maxV : Value → List Value → Option Value
  | v, [] => some v
  | .int k x, .int _ y :: r => maxV (.int k (if y > x then y else x)) r
  | _, _ => none
def evL (o : Oper) (e : Operand → Value) (rd : Nat → Option AObj) : Option LRes :=
  match o.op with
  | .move x => some (.val (e x))
  | .assign x => some (.val (e x))
  | .pick c a b => match e c with
    | .bool t => some (.val (match t with | true => e a | false => e b))
    | _ => none
  | .alloc t => match zeroV P t with
    | some z => some (.ptr (.cells z.cells.toList t true))
    | none => none
  | .box t x => bif okCell (e x) then some (.ptr (.cells (e x).cells.toList t true)) else none
  | .build t parts => match buildV P t (parts.toList.map fun p => (p.1, e p.2)) with
    | some v => some (.val v)
    | none => none
  | .buildSlice t len parts => buildSliceV P t len (parts.toList.map fun p => (p.1, e p.2))
  | .load t a => match loadV P t (e a) rd with
    | some v => some (.val v)
    | none => none
  | .nilCheck x => match e x with
    | .pointer (some a) => some (.val (.pointer (some a)))
    | .iface t v => some (.val (.iface t v))
    | .func (.func f) a b => some (.val (.func (.func f) a b))
    | .func (.yield l) a b => bif a.isEmpty && b.isEmpty then some (.val (.func (.yield l) #[] #[])) else none
    | _ => none
  | .binOp op t x y _ => match binV P C op t x y (e x) (e y) with
    | some v => some (.val v)
    | none => none
  | .unOp op _ x => match unV op (e x) with
    | some v => some (.val v)
    | none => none
  | .convert s d x => match convV P s d (e x) rd with
    | some v => some (.val v)
    | none => none
  | .makeInterface t x => match P.underlying t with
    | none => none
    | some (.interface _) => none
    | some _ => some (.val (.iface t (e x)))
  | .makeFunc fn first cap => match fn with
    | .func fn => some (.val (.func (.func fn) (first.toList.map e).toArray (cap.toList.map e).toArray))
    | _ => none
  | .makeMap _ none => some (.mp (.map [] 0))
  | .makeMap t (some x) => match P.underlying t, e x with
    | some (.map _ _), .int _ _ => some (.mp (.map [] 0))
    | _, _ => none
  | .makeSlice t l c => makeV P t (e l) (e c)
  | .slice t x lo hi mx => match sliceV P t (e x) (lo.map e) (hi.map e) (mx.map e) with
    | some v => some (.val v)
    | none => none
  | .fieldAddr s x f => match fieldAddrV P s (e x) f with
    | some v => some (.val v)
    | none => none
  | .field t x f => match fieldV P t (e x) f with
    | some v => some (.val v)
    | none => none
  | .indexAddr t x i => match indexAddrV P t (e x) (e i) with
    | some v => some (.val v)
    | none => none
  | .index t x i => match indexV P t (e x) (e i) with
    | some v => some (.val v)
    | none => none
  | .lookup t m k ok => match lookupV P t (e m) (e k) ok rd with
    | some v => some (.val v)
    | none => none
  | .extract t i => match e t with
    | .tuple vs => bif Nat.blt 1 vs.size then (match vs.toList[i]? with
      | some v => some (.val v)
      | none => none) else none
    | _ => none
  | .call ⟨.builtin .len, args, ts⟩ => match args.toList, ts.toList with
    | [x], [t] => match lenV P t (e x) rd with
      | some v => some (.val v)
      | none => none
    | _, _ => none
  | .call ⟨.builtin .min, args, _⟩ => match args.toList.map e with
    | x :: r => match minV x r with
      | some v => some (.val v)
      | none => none
    | [] => none
  | .call ⟨.builtin .max, args, _⟩ => match args.toList.map e with
    | x :: r => match maxV x r with
      | some v => some (.val v)
      | none => none
    | [] => none
  | _ => none
end
def LRes.name : LRes → Nat → Value
  | .val v, _ => v
  | .ptr _, n => .pointer (some ⟨n, 0, none⟩)
  | .sl _ l c, n => .slice (some ⟨n, 0, none⟩) l c
  | .mp _, n => .map (some n)
def LRes.obj : LRes → Option AObj
  | .val _ => none
  | .ptr o => some o
  | .sl o _ _ => some o
  | .mp o => some o
end Go.Eng
namespace Go.Eng
set_option linter.unusedVariables false
set_option linter.unusedSimpArgs false
open Go
set_option linter.unusedVariables false
def Reads (P : Program) (ρ : Rho) (rd : Nat → Option AObj) (w : World) : Prop :=
  ∀ a o, rd a = some o → ∃ b l o', ρ a = some (b, l) ∧ w.heap[b]? = some o' ∧ RObj P ρ l o o'
theorem Sim.reads {P : Program} [ObjSem P] {ρ : Rho} {h : AH} {w : World} (s : Sim P ρ h w) : Reads P ρ h.get w := s.blk
section
variable {P : Program} {C : Cfg} {ρ : Rho} {w : World}
theorem run_info {t : TypeId} {i : TypeInfo} (h : P.info? t = some i) : (typeInfo t).run P w = .ok i w := by simp [typeInfo, h]
theorem run_size {t : TypeId} {i : TypeInfo} (h : P.info? t = some i) : (sizeOf t).run P w = .ok i.size w := by simp [sizeOf, typeInfo, h]
theorem cellsOf_info {t : TypeId} {i : TypeInfo} (h : P.info? t = some i) : P.cellsOf t = i.size := by simp [Program.cellsOf, h]
theorem info_of_und {t : TypeId} {d : TypeDesc} (h : P.underlying t = some d) : ∃ i, P.info? t = some i := by
  unfold Program.underlying at h
  cases e : P.info? t with
  | none => rw [e] at h; cases h
  | some i => exact ⟨i, rfl⟩
theorem run_isAgg {t : TypeId} {b : Bool} (h : isAggT P t = some b) : (isAgg t).run P w = .ok b w := by
  unfold isAggT at h
  cases hu : P.underlying t with
  | none => simp [hu] at h
  | some d =>
    simp [hu] at h
    unfold isAgg
    rw [Sem.run_bind, run_underlying hu]
    subst h
    cases d <;> simp
theorem isAgg_info {t : TypeId} {b : Bool} (h : isAggT P t = some b) : ∃ i, P.info? t = some i := by
  unfold isAggT at h
  cases hu : P.underlying t with
  | none => simp [hu] at h
  | some d => exact info_of_und hu
theorem run_zero {t : TypeId} {z : Value} (h : zeroV P t = some z) : (zeroValue t).run P w = .ok z w ∧ plain z = true := by
  unfold zeroV at h
  cases hi : P.info? t with
  | none => simp [hi] at h
  | some i =>
    cases hz : i.zero with
    | none => simp [hi, hz] at h
    | some z' =>
      simp [hi, hz] at h
      cases hp : plain z' with
      | false => simp [hp] at h
      | true =>
        simp [hp] at h; subst h
        refine ⟨?_, hp⟩
        simp [zeroValue, typeInfo, hi, hz]
theorem extract_toList (cs : Array Value) (off n : Nat) : cs.extract off (off + n) = ((cs.toList.drop off).take n).toArray := by
  apply Array.toList_inj.1
  simp [Array.toList_extract]
theorem run_partV {t : TypeId} {cs : List Value} {cs' : Array Value} {off : Nat} {v : Value} (h : partV P t cs off = some v) (hc : RL ρ cs cs'.toList) :
    ∃ v', (part t cs' off).run P w = .ok v' w ∧ R ρ v v' := by
  unfold partV at h
  split at h
  · cases h
  · rename_i ha
    cases h
    obtain ⟨i, hi⟩ := isAgg_info ha
    refine ⟨_, ?_, R.agg_of (ys := (cs'.toList.drop off).take i.size) ?_⟩
    · unfold part
      simp only [Sem.run_bind, run_isAgg ha, Result.andThen_ok, if_true, run_size hi, Sem.run_pure, extract_toList]
    · rw [cellsOf_info hi]
      have hd := hc.rp.drop off
      refine ⟨?_, fun k u e => ?_⟩
      · simp [hc.1]
      · rw [List.getElem?_take] at e ⊢
        split at e
        · rename_i hk
          obtain ⟨v', e', r⟩ := hd k u e
          exact ⟨v', by rw [if_pos hk]; exact e', r⟩
        · cases e
  · rename_i ha
    obtain ⟨v', e', r⟩ := hc.2 off v h
    refine ⟨v', ?_, r⟩
    unfold part
    rw [Array.getElem?_toList] at e'
    simp [Sem.run_bind, run_isAgg ha, e']
theorem add_at0 (b off j : Nat) : (⟨b, off, none⟩ : Addr).add j = ⟨b, off + j, none⟩ := by unfold Addr.add; split <;> simp_all
theorem run_loadV {t : TypeId} {x x' v : Value} {rd : Nat → Option AObj} (h : loadV P t x rd = some v) (hx : R ρ x x') (hr : Reads P ρ rd w) :
    ∃ v', (Instr.loadAt t x').run P w = .ok v' w ∧ R ρ v v' := by
  unfold loadV at h
  split at h
  · rename_i a off
    cases hx with | ptr _ hρ =>
    rename_i b l
    split at h
    · rename_i c e rw hg
      obtain ⟨b2, l2, o', hρ2, hw, ho⟩ := hr a _ hg
      rw [hρ] at hρ2; cases hρ2
      cases o' with
      | cells c' e' fr =>
        obtain ⟨rfl, hp, _, _⟩ := ho
        have hcell : ∀ j u, c'.toList[j]? = some u → w.cell? ⟨b, j, none⟩ = some u := fun j u hu => by
          rw [cell_of_row w b j c' _ fr hw]; simpa using hu
        split at h
        · cases h
        · rename_i ha
          obtain ⟨i, hi⟩ := isAgg_info ha
          rw [cellsOf_info hi] at h
          cases hle : Nat.ble (off + i.size) c.length with
          | false => rw [hle] at h; cases h
          | true =>
            rw [hle] at h
            cases h
            have hle := Nat.le_of_ble_eq_true hle
            have hln : i.size ≤ (c.drop off).length := by simp; omega
            have hrl := (hp.drop off).take i.size hln
            refine ⟨_, ?_, R.agg_of hrl⟩
            have hl := run_loadCells_list (P := P) w ⟨b, off, none⟩ ((c'.toList.drop off).take i.size) (fun j u hu => by
              rw [add_at0]
              rw [List.getElem?_take] at hu
              split at hu
              · rw [List.getElem?_drop] at hu; exact hcell _ _ hu
              · cases hu)
            have hlen : ((c'.toList.drop off).take i.size).length = i.size := by have := hrl.1; simp at this hln ⊢; omega
            rw [hlen] at hl
            simp [Instr.loadAt, Instr.sureAddr, loadVar, Sem.run_bind, run_isAgg ha, run_size hi, hl]
        · rename_i ha
          obtain ⟨v', e', r⟩ := hp off v h
          refine ⟨v', ?_, r⟩
          simp [Instr.loadAt, Instr.sureAddr, loadVar, Sem.run_bind, run_isAgg ha, run_load, hcell off v' e']
      | _ => simp [RObj] at ho
    · cases h
  · cases h
theorem intV_run {op : BinOp} {k : IntKind} {a b : Int} {v : Value} {t : TypeId} (h : intV op k a b = some v) : (binOp op t (.int k a) (.int k b)).run P w = .ok v w := by
  cases op <;> simp [intV] at h <;> first
    | (obtain ⟨hb, rfl⟩ := h; simp [binOp, Op.intDiv, hb])
    | (subst h; simp [binOp, Op.intArith, Op.intCmp, intBits_and, intBits_or, intBits_xor, intBits_andNot])
theorem intV_plain {op : BinOp} {k : IntKind} {a b : Int} {v : Value} (h : intV op k a b = some v) : plain1 v = true := by
  cases op <;> simp [intV] at h <;> first | (obtain ⟨hb, rfl⟩ := h; rfl) | (subst h; rfl)
theorem shiftV_run {op : BinOp} {k yk : IntKind} {a b : Int} {v : Value} {t : TypeId} (h : shiftV op k a b = some v) : (binOp op t (.int k a) (.int yk b)).run P w = .ok v w ∧ plain1 v = true := by
  unfold shiftV at h
  split at h
  · cases h
  · rename_i hb
    cases op <;> simp at h <;> subst h <;> simp [binOp, Op.shift, hb, plain1]
theorem strV_run {op : BinOp} {a b : ByteArray} {v : Value} {t : TypeId} (h : strV op a b = some v) : (binOp op t (.string a) (.string b)).run P w = .ok v w ∧ plain1 v = true := by
  cases op <;> simp [strV] at h <;> first
    | (obtain ⟨hb, rfl⟩ := h; refine ⟨?_, rfl⟩; simp [binOp, Op.stringOp]; omega)
    | (subst h; refine ⟨?_, rfl⟩; simp [binOp, Op.stringOp])
theorem eqFs_run {n d : Nat} (ih : ∀ (t : TypeId) (x y x' y' : Value) (b : Bool), eqV P C n t x y = some b → R ρ x x' → R ρ y y' → (Op.equalIn d t x' y').run P w = .ok b w)
    {xs ys : List Value} {xs' ys' : Array Value} (hx : RL ρ xs xs'.toList) (hy : RL ρ ys ys'.toList) :
    ∀ (fs : List Field) (b : Bool), eqFs P (eqV P C n) xs ys fs = some b → (Op.eqFields d xs' ys' fs).run P w = .ok b w := by
  intro fs
  induction fs with
  | nil => intro b h; simp [eqFs] at h; subst h; simp [Op.eqFields]
  | cons f fs ihf =>
    intro b h
    simp only [eqFs] at h
    split at h
    · rename_i hn
      rw [Op.eqFields, if_neg (by simpa using hn)]
      exact ihf b h
    · rename_i hn
      rw [Op.eqFields, if_pos hn]
      split at h
      · rename_i a c ha hc
        obtain ⟨a', ra, ea⟩ := run_partV (P := P) (w := w) ha hx
        obtain ⟨c', rc, ec⟩ := run_partV (P := P) (w := w) hc hy
        split at h
        · rename_i he
          have := ih _ _ _ _ _ _ he ea ec
          simp only [Sem.run_bind, ra, rc, Result.andThen_ok, this]
          simpa using ihf b h
        · rename_i he
          cases h
          have := ih _ _ _ _ _ _ he ea ec
          simp only [Sem.run_bind, ra, rc, Result.andThen_ok, this]
          simp
        · cases h
      · cases h
set_option maxHeartbeats 4000000 in
theorem eqV_run (hC : C.ok P) : ∀ (n d : Nat), n ≤ d → ∀ (t : TypeId) (x y x' y' : Value) (b : Bool), eqV P C n t x y = some b → R ρ x x' → R ρ y y' → (Op.equalIn d t x' y').run P w = .ok b w := by
  intro n
  induction n with
  | zero => intro d _ t x y x' y' b h; simp [eqV] at h
  | succ n ih =>
    intro d hd t x y x' y' b h hx hy
    obtain ⟨d, rfl⟩ : ∃ m, d = m + 1 := ⟨d - 1, by omega⟩
    simp only [eqV] at h
    split at h
    · rename_i hu; cases hx; cases hy; cases h; simp [Op.equalIn, run_underlying hu]
    · rename_i hu; cases hx; cases hy
      split at h
      · rename_i hk; subst hk; cases h; simp [Op.equalIn, run_underlying hu]
      · cases h
    · rename_i hu; cases hx; cases hy; cases h; simp [Op.equalIn, run_underlying hu, beq_toListBytes]
    · rename_i hu; cases hx; cases h; cases hy <;> simp [Op.equalIn, run_underlying hu]
    · rename_i hu; cases hy; cases h; cases hx; simp [Op.equalIn, run_underlying hu]
    · rename_i hu; cases hx; cases hy; cases h; simp [Op.equalIn, run_underlying hu]
    · rename_i hu; cases hx; cases hy; cases h; simp [Op.equalIn, run_underlying hu]
    · rename_i hu; cases hx; cases hy; cases h; simp [Op.equalIn, run_underlying hu]
    · rename_i hu
      cases hx with | iface _ hx => cases hy with | iface _ hy =>
      split at h
      · rename_i hne; cases h; simp [Op.equalIn, run_underlying hu, hne]
      · rename_i hne
        split at h
        · rename_i i hi
          split at h
          · rename_i hcm
            have hne' := Classical.not_not.1 hne
            subst hne'
            have := ih d (by omega) _ _ _ _ _ _ h hx hy
            simp [Op.equalIn, run_underlying hu, run_info hi, hcm, this]
          · cases h
        · cases h
    · rename_i fs xs ys hu
      obtain ⟨xs', rfl, kx⟩ := hx.agg_inv
      obtain ⟨ys', rfl, ky⟩ := hy.agg_inv
      cases hc : C.eqT.contains t with
      | false => rw [hc] at h; cases h
      | true =>
        rw [hc] at h
        have hc' : t ∈ C.eqT := by simpa using hc
        have hst := (hC.eq t hc').1
        have hf : P.fieldsOf t = fs := by simp [Program.fieldsOf, hu]
        rw [run_equalIn_struct (P := P) w d t xs' ys' (by rw [hf]; exact hu) hst, hf]
        exact eqFs_run (fun t x y x' y' b h hx hy => ih d (by omega) t x y x' y' b h hx hy) kx ky _ _ h
    · rename_i hu; cases hx; cases hy; cases h; simp [Op.equalIn, run_underlying hu]
    · rename_i hu; cases hx; cases hy; cases h; simp [Op.equalIn, run_underlying hu]
    · rename_i hu; cases hx; cases hy; cases h; simp [Op.equalIn, run_underlying hu]
    · rename_i hu; cases hx; cases hy; cases h; simp [Op.equalIn, run_underlying hu]
    · rename_i hu; cases hx; cases h; cases hy <;> simp [Op.equalIn, run_underlying hu]
    · rename_i hu; cases hy; cases h; cases hx; simp [Op.equalIn, run_underlying hu]
    · rename_i hu; cases hx; cases hy; cases h; simp [Op.equalIn, run_underlying hu]
    · rename_i hu; cases hx; cases hy; cases h; simp [Op.equalIn, run_underlying hu]
    · rename_i hu; cases hx; cases hy; cases h; simp [Op.equalIn, run_underlying hu]
    · cases h
set_option maxHeartbeats 4000000 in
theorem binV_run (hC : C.ok P) {op : BinOp} {t : TypeId} {x y : Operand} {u v u' v' r : Value} (h : binV P C op t x y u v = some r) (hu : R ρ u u') (hv : R ρ v v') :
    ∃ r', (do eqGuard op t x y u' v'; binOp op t u' v' : Sem Value).run P w = .ok r' w ∧ R ρ r r' := by
  have heq : ∀ (b : Bool), eqV P C 12 t u v = some b → (Op.equal t u' v').run P w = .ok b w := fun b hb => eqV_run hC 12 10000 (by decide) t u v u' v' b hb hu hv
  unfold binV at h
  split at h
  · rename_i k a k' b
    cases hu; cases hv
    have hg : eqGuard op t x y (.int k a) (.int k' b) = pure () := eqGuard_at_int ..
    split at h
    · obtain ⟨h1, h2⟩ := shiftV_run (P := P) (w := w) (t := t) (yk := k') h
      exact ⟨r, by rw [hg]; simpa using h1, .of_plain1 h2⟩
    · obtain ⟨h1, h2⟩ := shiftV_run (P := P) (w := w) (t := t) (yk := k') h
      exact ⟨r, by rw [hg]; simpa using h1, .of_plain1 h2⟩
    · split at h
      · rename_i hk; subst hk
        exact ⟨r, by rw [hg]; simpa using intV_run (P := P) (w := w) (t := t) h, .of_plain1 (intV_plain h)⟩
      · cases h
  · rename_i a b
    cases hu; cases hv
    have hg : eqGuard op t x y (.string a) (.string b) = pure () := eqGuard_at_string ..
    obtain ⟨h1, h2⟩ := strV_run (P := P) (w := w) (t := t) h
    exact ⟨r, by rw [hg]; simpa using h1, .of_plain1 h2⟩
  · cases hu; cases hv
    cases hcx : (isConstX x || isConstX y) with
    | false => rw [hcx] at h; cases h
    | true =>
      rw [hcx] at h
      have hg : eqGuard op t x y .nilIface .nilIface = pure () := by
        cases x <;> cases y <;> simp [isConstX] at hcx <;> first | exact eqGuard_nil_constL .. | exact eqGuard_nil_constR ..
      rw [hg]
      simp only [cond_true] at h
      split at h
      · cases hb : eqV P C 12 t .nilIface .nilIface with
        | none => rw [hb] at h; cases h
        | some b => rw [hb] at h; cases h; exact ⟨.bool b, by simp [binOp, heq b hb], .bool b⟩
      · cases hb : eqV P C 12 t .nilIface .nilIface with
        | none => rw [hb] at h; cases h
        | some b => rw [hb] at h; cases h; exact ⟨.bool (!b), by simp [binOp, heq b hb], .bool _⟩
      · cases h
  · rename_i xs ys
    obtain ⟨xs', rfl, hx⟩ := hu.agg_inv
    obtain ⟨ys', rfl, hy⟩ := hv.agg_inv
    cases hc : C.eqT.contains t with
    | false => rw [hc] at h; cases h
    | true =>
      rw [hc] at h
      have hg := run_eqGuard_agg (P := P) w op t x y xs' ys' (hC.eq t (by simpa using hc)).2
      simp only [cond_true] at h
      split at h
      · cases hb : eqV P C 12 t (.agg xs) (.agg ys) with
        | none => rw [hb] at h; cases h
        | some b => rw [hb] at h; cases h; exact ⟨.bool b, by simp [hg, binOp, heq b hb], .bool b⟩
      · cases hb : eqV P C 12 t (.agg xs) (.agg ys) with
        | none => rw [hb] at h; cases h
        | some b => rw [hb] at h; cases h; exact ⟨.bool (!b), by simp [hg, binOp, heq b hb], .bool _⟩
      · cases h
  · cases h
  · cases h
  · cases h
  · cases h
  · rename_i h1 h2 h3 h4 h5 h6 h7 h8
    have hg : eqGuard op t x y u' v' = pure () := by
      cases hu <;> first
        | exact eqGuard_at_bool .. | exact eqGuard_at_pointer .. | exact eqGuard_at_slice .. | exact eqGuard_at_map .. | exact eqGuard_at_func .. | exact eqGuard_at_nilFunc .. | exact eqGuard_at_iface .. | (exfalso; exact h2 _ rfl) | exact eqGuard_at_int .. | exact eqGuard_at_string ..
        | (cases hv <;> first | (cases op <;> rfl) | (exfalso; first | exact h4 _ rfl | exact h7 rfl rfl | exact h8 _ _ rfl rfl))
    rw [hg]
    split at h
    · cases hb : eqV P C 12 t u v with
      | none => rw [hb] at h; cases h
      | some b =>
        rw [hb] at h; cases h
        refine ⟨.bool b, ?_, .bool b⟩
        have e : (binOp .eql t u' v' : Sem Value) = (do pure (.bool (← Op.equal t u' v'))) := by
          cases hu <;> cases hv <;> first | rfl | (exfalso; first | exact h2 _ rfl | exact h4 _ rfl | exact h1 _ _ rfl | exact h3 _ _ rfl | exact h6 _ _ rfl rfl | exact h7 rfl rfl | exact h8 _ _ rfl rfl)
        rw [e]; simp [heq b hb]
    · cases hb : eqV P C 12 t u v with
      | none => rw [hb] at h; cases h
      | some b =>
        rw [hb] at h; cases h
        refine ⟨.bool (!b), ?_, .bool _⟩
        have e : (binOp .neq t u' v' : Sem Value) = (do pure (.bool (!(← Op.equal t u' v')))) := by
          cases hu <;> cases hv <;> first | rfl | (exfalso; first | exact h2 _ rfl | exact h4 _ rfl | exact h1 _ _ rfl | exact h3 _ _ rfl | exact h6 _ _ rfl rfl | exact h7 rfl rfl | exact h8 _ _ rfl rfl)
        rw [e]; simp [heq b hb]
    · cases h
end
end Go.Eng
namespace Go.Eng
set_option linter.unusedVariables false
set_option linter.unusedSimpArgs false
open Go
set_option linter.unusedVariables false
section
variable {P : Program} {C : Cfg} {ρ : Rho} {w : World}
theorem unV_run {op : UnOp} {x x' v : Value} (h : unV op x = some v) (hx : R ρ x x') : (Op.unary op x').run P w = .ok v w ∧ plain1 v = true := by
  unfold unV at h
  split at h
  · cases hx; simp [intV] at h; subst h; simp [Op.unary, Op.intArith, plain1]
  · cases hx; simp [intV] at h; subst h; simp [Op.unary, intBits_xor, plain1]
  · cases hx; cases h; simp [Op.unary, plain1]
  · cases h
theorem bytesOfCells_spec : ∀ (cs : List Value) (bs : List UInt8), bytesOfCells cs = some bs → ∃ ns : List Int, cs = ns.map (Value.int .u8) ∧ bs = ns.map fun n => UInt8.ofNat n.toNat
  | [], bs, h => by simp [bytesOfCells] at h; subst h; exact ⟨[], rfl, rfl⟩
  | v :: r, bs, h => by
    unfold bytesOfCells at h
    split at h
    · rename_i e; cases e
    · rename_i n r' e
      cases e
      cases hr : bytesOfCells r with
      | none => rw [hr] at h; cases h
      | some l =>
        rw [hr] at h; cases h
        obtain ⟨ns, rfl, rfl⟩ := bytesOfCells_spec r l hr
        exact ⟨n :: ns, rfl, rfl⟩
    · cases h
theorem RL.ints {k : IntKind} : ∀ {ns : List Int} {ys : List Value}, RL ρ (ns.map (Value.int k)) ys → ys = ns.map (Value.int k)
  | [], ys, h => h.nil_inv
  | n :: ns, ys, h => by
    obtain ⟨v', ys', rfl, hr, hk⟩ := h.uncons
    cases hr
    rw [RL.ints hk]; rfl
theorem foldl_push (ns : List Int) : ∀ (b : ByteArray), ns.foldl (fun r n => r.push (UInt8.ofNat n.toNat)) b = ⟨(b.data.toList ++ ns.map fun n => UInt8.ofNat n.toNat).toArray⟩ := by
  induction ns with
  | nil => intro b; simp
  | cons n ns ih =>
    intro b
    rw [List.foldl_cons, ih]
    congr 1
    apply Array.toList_inj.1
    simp [ByteArray.push]
theorem convV_run {s d : TypeId} {x x' v : Value} {rd : Nat → Option AObj} (h : convV P s d x rd = some v) (hx : R ρ x x') (hr : Reads P ρ rd w) :
    (convert s d x').run P w = .ok v w ∧ plain1 v = true := by
  unfold convV at h
  split at h
  · rename_i hs hd; cases hx; cases h
    refine ⟨?_, rfl⟩
    simp [convert, run_underlying hs, run_underlying hd, Conv.intToInt]
  · rename_i hs hd; cases hx; cases h
    refine ⟨?_, rfl⟩
    rename_i dd _
    cases dd <;> simp [convert, run_underlying hs, run_underlying hd]
  · rename_i e n c hs hd
    cases hx
    split at h
    · rename_i he
      cases h
      refine ⟨?_, rfl⟩
      simp [convert, run_underlying hs, run_underlying hd, run_underlying he, Conv.bytesToString]
    · cases h
  · rename_i e a c hs hd
    split at h
    · rename_i he
      cases h
      refine ⟨?_, rfl⟩
      cases hx with
      | slice _ _ _ c2 hρ hc hf hz =>
        simp [convert, run_underlying hs, run_underlying hd, run_underlying he, Conv.bytesToString, loadCells, loadCellsFrom]
      | slice0 c2 y =>
        cases y with
        | none => simp [convert, run_underlying hs, run_underlying hd, run_underlying he, Conv.bytesToString]
        | some ad =>
          simp [convert, run_underlying hs, run_underlying hd, run_underlying he, Conv.bytesToString, loadCells, loadCellsFrom]
      | slice1 c2 ad => simp [convert, run_underlying hs, run_underlying hd, run_underlying he, Conv.bytesToString, loadCells, loadCellsFrom]
      | slice00 _ _ x =>
        cases x with
        | none => simp [convert, run_underlying hs, run_underlying hd, run_underlying he, Conv.bytesToString]
        | some ad =>
          simp [convert, run_underlying hs, run_underlying hd, run_underlying he, Conv.bytesToString, loadCells, loadCellsFrom]
    · cases h
  · rename_i e a off n c hn0 hs hd
    split at h
    · rename_i c0 e0 rw0 he hg
      obtain ⟨b2, l2, o', hρ2, hw, ho⟩ := hr a _ hg
      cases o' with
      | cells c' e' fr =>
        obtain ⟨rfl, hp, _, _⟩ := ho
        cases hle : Nat.ble (off + n) c0.length with
        | false => rw [hle] at h; cases h
        | true =>
          rw [hle] at h
          have hle := Nat.le_of_ble_eq_true hle
          cases hb : bytesOfCells ((c0.drop off).take n) with
          | none => rw [hb] at h; cases h
          | some bs =>
            rw [hb] at h; cases h
            refine ⟨?_, rfl⟩
            obtain ⟨ns, hns, rfl⟩ := bytesOfCells_spec _ _ hb
            have hrl := (hp.drop off).take n (by simp; omega)
            rw [hns] at hrl
            have hys := RL.ints hrl
            have hnn : ns.length = n := by have := congrArg List.length hns; simp at this; omega
            cases hx with
            | slice _ _ _ c2 hρ hc hf hz =>
              rename_i b l
              rw [hρ] at hρ2; cases hρ2
              have hl := run_loadCells_list (P := P) w ⟨b2, off, none⟩ (ns.map (Value.int .u8)) (fun j u hu => by
                rw [add_at0, cell_of_row w b2 _ c' _ fr hw]
                rw [← hys, List.getElem?_take] at hu
                split at hu
                · rw [List.getElem?_drop] at hu; simpa using hu
                · cases hu)
              rw [List.length_map, hnn] at hl
              have := run_bytesToString (P := P) w ⟨b2, off, none⟩ n c2 ns hl
              simp [convert, run_underlying hs, run_underlying hd, run_underlying he, this, foldl_push]
            | slice00 _ _ x => exact (hn0 rfl).elim
      | _ => simp [RObj] at ho
    · cases h
  · cases h
theorem set_foldl (off : Nat) : ∀ (vs : List Value) (k : Nat) (cs : Array Value), off + k + vs.length ≤ cs.size →
    ((vs.zipIdx k).foldl (fun cs (p : Value × Nat) => cs.setIfInBounds (off + p.2) p.1) cs).toList = cs.toList.take (off + k) ++ vs ++ cs.toList.drop (off + k + vs.length)
  | [], k, cs, _ => by simp
  | v :: vs, k, cs, h => by
    rw [List.zipIdx_cons, List.foldl_cons]
    have hl : off + k < cs.toList.length := by simp at h ⊢; omega
    rw [set_foldl off vs (k + 1) _ (by simp at h ⊢; omega)]
    have e := list_seg_step cs.toList (off + k) v vs (by simp at h ⊢; omega)
    simp only [Array.toList_setIfInBounds]
    simpa [Nat.add_assoc] using e
theorem fill_run (place : Nat → Option (Nat × Nat)) : ∀ (parts parts' : List (Nat × Value)) (cs : List Value) (cs' : Array Value) (out : List Value),
    fillL place cs parts = some out → RL ρ cs cs'.toList → parts.map (·.1) = parts'.map (·.1) → (∀ (i : Nat) p p', parts[i]? = some p → parts'[i]? = some p' → R ρ p.2 p'.2) →
    ∃ out', Instr.fill place cs' parts' = some out' ∧ RL ρ out out'.toList
  | [], parts', cs, cs', out, h, hc, hm, _ => by
    simp [fillL] at h; subst h
    have : parts' = [] := by simpa using hm.symm
    subst this
    exact ⟨cs', by simp [Instr.fill], hc⟩
  | (i, v) :: rest, parts', cs, cs', out, h, hc, hm, hr => by
    cases parts' with
    | nil => simp at hm
    | cons q rest' =>
      obtain ⟨i', v'⟩ := q
      simp at hm
      obtain ⟨rfl, hm⟩ := hm
      have hv : R ρ v v' := hr 0 (i, v) (i, v') (by simp) (by simp)
      simp only [fillL] at h
      cases hp : place i with
      | none => simp [hp] at h
      | some os =>
        obtain ⟨off, size⟩ := os
        simp only [hp] at h
        split at h
        · rename_i hcond
          obtain ⟨h0, h1, h2⟩ := hcond
          have hvl := hv.cells h0
          have hsz : v'.cells.size = size := by have := hvl.1; simp at this h1; omega
          have hcs : cs'.size = cs.length := by have := hc.1; simp at this; omega
          have hfold : (v'.cells.zipIdx.foldl (fun cs (p : Value × Nat) => cs.setIfInBounds (off + p.2) p.1) cs') = (splice cs'.toList off v'.cells.toList).toArray := by
            apply Array.toList_inj.1
            rw [← Array.foldl_toList, Array.toList_zipIdx]
            have := set_foldl off v'.cells.toList 0 cs' (by simp; omega)
            simpa [splice] using this
          have hrl : RL ρ (splice cs off v.cells.toList) (splice cs'.toList off v'.cells.toList).toArray.toList := by
            simp only [splice]
            refine ((hc.rp.take off (by omega)).append hvl).append ?_
            refine ⟨?_, ?_⟩
            · have := hvl.1; have := hc.1; simp at *; omega
            · rw [show v'.cells.toList.length = v.cells.toList.length from hvl.1.symm]
              exact hc.rp.drop _
          obtain ⟨out', ho, hro⟩ := fill_run place rest rest' _ _ out h hrl hm (fun k p p' e e' => hr (k + 1) p p' (by simpa using e) (by simpa using e'))
          refine ⟨out', ?_, hro⟩
          simp only [Instr.fill, hp]
          rw [if_neg (by simp; omega)]
          rw [← hfold] at ho
          exact ho
        · cases h
theorem placesL_eq : ∀ (fs : List Field) (ps : List (Nat × Nat)), placesL P fs = some ps → fs.mapM (fun f => (P.info? f.type).map fun i => (f.offset, i.size)) = some ps
  | [], ps, h => by simp [placesL] at h; subst h; simp
  | f :: fs, ps, h => by
    simp only [placesL] at h
    split at h
    · rename_i i r hi hr
      cases h
      simp [List.mapM_cons, hi, placesL_eq fs r hr]
    · cases h
theorem parts_rel {e e' : Operand → Value} {parts : Array (Nat × Operand)} (he : ∀ p ∈ parts.toList, R ρ (e p.2) (e' p.2)) :
    (parts.toList.map fun p => (p.1, e p.2)).map (·.1) = ((parts.map fun (p : Nat × Operand) => (p.1, e' p.2)).toList).map (·.1) ∧
    ∀ (i : Nat) p p', (parts.toList.map fun p => (p.1, e p.2))[i]? = some p → ((parts.map fun (p : Nat × Operand) => (p.1, e' p.2)).toList)[i]? = some p' → R ρ p.2 p'.2 := by
  refine ⟨by simp, fun i p p' h h' => ?_⟩
  simp only [List.getElem?_map, Array.toList_map] at h h'
  cases hq : parts.toList[i]? with
  | none => rw [hq] at h; cases h
  | some q => rw [hq] at h h'; cases h; cases h'; exact he q (List.mem_of_getElem? hq)
theorem zeroV_info {t : TypeId} {z : Value} (h : zeroV P t = some z) : ∃ i, P.info? t = some i ∧ i.zero = some z ∧ plain z = true := by
  have hp := (run_zero (P := P) (w := default) h).2
  unfold zeroV at h
  cases hi : P.info? t with
  | none => simp [hi] at h
  | some i =>
    cases hz : i.zero with
    | none => simp [hi, hz] at h
    | some z' =>
      simp [hi, hz] at h
      cases hpz : plain z' with
      | false => simp [hpz] at h
      | true => simp [hpz] at h; subst h; exact ⟨i, rfl, hz, hp⟩
theorem buildV_run {t : TypeId} {parts : List (Nat × Value)} {parts' : Array (Nat × Value)} {v : Value} (h : buildV P t parts = some v)
    (hm : parts.map (·.1) = parts'.toList.map (·.1)) (hr : ∀ (i : Nat) p p', parts[i]? = some p → parts'.toList[i]? = some p' → R ρ p.2 p'.2) :
    ∃ v', (Instr.build t parts').run P w = .ok v' w ∧ R ρ v v' := by
  unfold buildV at h
  split at h
  · rename_i z fs hz hu
    obtain ⟨i, hi, hzi, hp⟩ := zeroV_info hz
    split at h
    · rename_i ps hps
      cases hf : fillL (ps[·]?) z.cells.toList parts with
      | none => rw [hf] at h; cases h
      | some out =>
        rw [hf] at h; cases h
        obtain ⟨out', ho, hro⟩ := fill_run (ρ := ρ) _ parts parts'.toList z.cells.toList z.cells out hf ((R.of_plain hp).cells (plain_ok hp)) hm hr
        refine ⟨.agg out', run_build w t parts' out' ?_, R.agg_of hro⟩
        simp only [Program.built, hi, hu, hzi, placesL_eq _ _ hps]
        simpa using ho
    · cases h
  · rename_i z n e hz hu
    obtain ⟨i, hi, hzi, hp⟩ := zeroV_info hz
    split at h
    · rename_i ie hie
      cases hf : fillL (fun k => some (k * ie.size, ie.size)) z.cells.toList parts with
      | none => rw [hf] at h; cases h
      | some out =>
        rw [hf] at h; cases h
        obtain ⟨out', ho, hro⟩ := fill_run (ρ := ρ) _ parts parts'.toList z.cells.toList z.cells out hf ((R.of_plain hp).cells (plain_ok hp)) hm hr
        refine ⟨.agg out', run_build w t parts' out' ?_, R.agg_of hro⟩
        simp only [Program.built, hi, hu, hzi, hie]
        exact ho
    · cases h
  · cases h
theorem repL_length (z : List Value) : ∀ n, (repL n z).length = n * z.length
  | 0 => by simp [repL]
  | n + 1 => by simp [repL, repL_length z n, Nat.add_mul]; omega
theorem repL_get (z : List Value) (hz : 0 < z.length) : ∀ (n i : Nat), i < n * z.length → (repL n z)[i]? = z[i % z.length]?
  | 0, i, h => by simp at h
  | n + 1, i, h => by
    simp only [repL]
    rw [List.getElem?_append]
    split
    · rename_i hi; rw [Nat.mod_eq_of_lt hi]
    · rename_i hi
      have hle : z.length ≤ i := by omega
      rw [repL_get z hz n (i - z.length) (by rw [Nat.add_mul, Nat.one_mul] at h; omega)]
      congr 1
      exact (Nat.mod_eq_sub_mod hle).symm
theorem made_repL (z : Array Value) (n : Nat) (hz : 0 < z.size) : ((Array.range (n * z.size)).map (z[· % z.size]!)).toList = repL n z.toList := by
  apply List.ext_getElem?
  intro i
  by_cases hi : i < n * z.size
  · have h1 := repL_get z.toList (by simpa using hz) n i (by simpa using hi)
    rw [h1]
    have hm : i % z.size < z.size := Nat.mod_lt _ hz
    simp [hi, hm]
  · have h1 : (repL n z.toList).length ≤ i := by rw [repL_length]; simp; omega
    rw [List.getElem?_eq_none h1]
    simp; omega
theorem plain_repL {z : Value} (hp : plain z = true) (n : Nat) : RL ρ (repL n z.cells.toList) (repL n z.cells.toList) := by
  induction n with
  | zero => exact .nil _
  | succ n ih => exact (((R.of_plain hp).cells (plain_ok hp))).append ih
theorem buildSliceV_run {t : TypeId} {len : Nat} {parts : List (Nat × Value)} {parts' : Array (Nat × Value)} {r : LRes} (h : buildSliceV P t len parts = some r)
    (hm : parts.map (·.1) = parts'.toList.map (·.1)) (hr : ∀ (i : Nat) p p', parts[i]? = some p → parts'.toList[i]? = some p' → R ρ p.2 p'.2) :
    ∃ l e c', r = .sl (.cells l e true) len len ∧ (Instr.buildSlice t len parts').run P w = .ok (.slice (some ⟨w.heap.size, 0, none⟩) len len) (w.alloc (.cells c' e)) ∧ RL ρ l c'.toList := by
  unfold buildSliceV at h
  split at h
  · rename_i e hu
    split at h
    · rename_i i z hi hz
      obtain ⟨i', hi', hzi, hp⟩ := zeroV_info hz
      rw [hi] at hi'; cases hi'
      split at h
      · rename_i hcond
        obtain ⟨h1, h2, h3⟩ := hcond
        cases hf : fillL (fun k => some (k * i.size, i.size)) (repL len z.cells.toList) parts with
        | none => rw [hf] at h; cases h
        | some out =>
          rw [hf] at h; cases h
          have hzs : z.cells.size = i.size := by simpa using h2
          have hrep : RL ρ (repL len z.cells.toList) ((Array.range (len * i.size)).map (z.cells[· % z.cells.size]!)).toList := by
            rw [← hzs, made_repL z.cells len (by omega)]; exact plain_repL hp len
          obtain ⟨out', ho, hro⟩ := fill_run (ρ := ρ) _ parts parts'.toList _ _ out hf hrep hm hr
          refine ⟨out, e, out', rfl, ?_, hro⟩
          have hz' : (zeroValue e).run P w = .ok z w := (run_zero hz).1
          by_cases h0 : len * i.size = 0
          · have hl0 : len = 0 := by rcases Nat.mul_eq_zero.1 h0 with h | h <;> omega
            subst hl0
            simp [Instr.buildSlice, run_underlying hu, run_size hi, newRow, Array.range_zero'] at ho ⊢
            simp [ho]
          · have hgt : ¬ (16777216 < len * i.size) := by omega
            simp [Instr.buildSlice, run_underlying hu, run_size hi, newRow, h0, hgt, hz', ho]
      · cases h
    · cases h
  · cases h
theorem makeV_run {t : TypeId} {l c l' c' : Value} {r : LRes} (h : makeV P t l c = some r) (hl : R ρ l l') (hc : R ρ c c') :
    ∃ cs e n k co, r = .sl (.cells cs e true) n k ∧ (Instr.makeSlice t l' c').run P w = .ok (.slice (some ⟨w.heap.size, 0, none⟩) n k) (w.alloc (.cells co e)) ∧ RL ρ cs co.toList := by
  unfold makeV at h
  split at h
  · rename_i e kl l kc c hu
    cases hl; cases hc
    split at h
    · rename_i i z hi hz
      obtain ⟨i', hi', hzi, hp⟩ := zeroV_info hz
      rw [hi] at hi'; cases hi'
      split at h
      · rename_i hcond
        obtain ⟨h0, h1, h2, h3, h4, h5⟩ := hcond
        cases h
        have hzs : z.cells.size = i.size := by simpa using h4
        refine ⟨_, e, _, _, madeCells z.cells (c.toNat * i.size), rfl, run_make w t e i z hu hi hzi kl kc l c h0 h1 (by omega) (by omega), ?_⟩
        unfold madeCells
        rw [← hzs, made_repL z.cells _ (by omega)]
        exact plain_repL hp _
      · cases h
    · cases h
  · cases h
theorem boundV_run {x x' : Value} {y y' n : Nat} {code : BoundsCode} (h : boundV x y = some n) (hx : R ρ x x') (hy : y ≤ y') : (Instr.sliceBound x' y' code).run P w = .ok n w ∧ n ≤ y := by
  unfold boundV at h
  split at h
  · cases hx
    split at h
    · rename_i hb
      cases h
      exact ⟨run_sliceBound w _ _ _ _ hb.1 (by omega), by omega⟩
    · cases h
  · cases h
theorem boundsV_run {b : Bool} {len cap cap' l h m : Nat} {lo hi mx lo' hi' mx' : Option Value} (hb : boundsV len cap lo hi mx = some (l, h, m)) (hcap : cap ≤ cap')
    (hlo : ∀ v, lo = some v → ∃ v', lo' = some v' ∧ R ρ v v') (hlo0 : lo = none → lo' = none)
    (hhi : ∀ v, hi = some v → ∃ v', hi' = some v' ∧ R ρ v v') (hhi0 : hi = none → hi' = none)
    (hmx : ∀ v, mx = some v → ∃ v', mx' = some v' ∧ R ρ v v') (hmx0 : mx = none → mx' = none) :
    ∃ m', (Instr.sliceBounds b len cap' lo' hi' mx').run P w = .ok (l, h, m') w ∧ m ≤ cap ∧ ((mx = none ∧ m = cap ∧ m' = cap') ∨ ((∃ v, mx = some v) ∧ m' = m)) ∧ l ≤ h ∧ (hi ≠ none → h ≤ m) := by
  unfold boundsV at hb
  cases mx with
  | none =>
    have := hmx0 rfl; subst this
    simp only at hb
    cases hi with
    | none =>
      have := hhi0 rfl; subst this
      simp only at hb
      cases lo with
      | none =>
        have := hlo0 rfl; subst this
        simp only [Option.some.injEq, Prod.mk.injEq] at hb
        obtain ⟨rfl, rfl, rfl⟩ := hb
        exact ⟨cap', by simp [Instr.sliceBounds], Nat.le_refl _, .inl ⟨rfl, rfl, rfl⟩, Nat.zero_le _, fun e => absurd rfl e⟩
      | some v =>
        obtain ⟨v', rfl, hv⟩ := hlo v rfl
        simp only at hb
        cases hl : boundV v len with
        | none => rw [hl] at hb; cases hb
        | some n =>
          rw [hl] at hb
          simp only [Option.some.injEq, Prod.mk.injEq] at hb
          obtain ⟨rfl, rfl, rfl⟩ := hb
          obtain ⟨h1, h2⟩ := boundV_run (P := P) (w := w) (code := .sliceB) hl hv (Nat.le_refl _)
          exact ⟨cap', by simp [Instr.sliceBounds, h1], Nat.le_refl _, .inl ⟨rfl, rfl, rfl⟩, h2, fun e => absurd rfl e⟩
    | some v =>
      obtain ⟨v', rfl, hv⟩ := hhi v rfl
      simp only at hb
      cases hh : boundV v cap with
      | none => rw [hh] at hb; cases hb
      | some n =>
        rw [hh] at hb
        obtain ⟨h1, h2⟩ := boundV_run (P := P) (w := w) (code := if b then .sliceAcap else .sliceAlen) hh hv hcap
        simp only at hb
        cases lo with
        | none =>
          have := hlo0 rfl; subst this
          simp only [Option.some.injEq, Prod.mk.injEq] at hb
          obtain ⟨rfl, rfl, rfl⟩ := hb
          exact ⟨cap', by simp [Instr.sliceBounds, h1], Nat.le_refl _, .inl ⟨rfl, rfl, rfl⟩, Nat.zero_le _, fun _ => h2⟩
        | some u =>
          obtain ⟨u', rfl, hu⟩ := hlo u rfl
          simp only at hb
          cases hl : boundV u n with
          | none => rw [hl] at hb; cases hb
          | some k =>
            rw [hl] at hb
            simp only [Option.some.injEq, Prod.mk.injEq] at hb
            obtain ⟨rfl, rfl, rfl⟩ := hb
            obtain ⟨h3, h4⟩ := boundV_run (P := P) (w := w) (code := .sliceB) hl hu (Nat.le_refl _)
            exact ⟨cap', by simp [Instr.sliceBounds, h1, h3], Nat.le_refl _, .inl ⟨rfl, rfl, rfl⟩, h4, fun _ => h2⟩
  | some mv =>
    obtain ⟨mv', rfl, hmv⟩ := hmx mv rfl
    simp only at hb
    cases hm : boundV mv cap with
    | none => rw [hm] at hb; cases hb
    | some m0 =>
      rw [hm] at hb
      obtain ⟨k1, k2⟩ := boundV_run (P := P) (w := w) (code := if b then .slice3Acap else .slice3Alen) hm hmv hcap
      simp only at hb
      cases hi with
      | none => simp at hb
      | some v =>
        obtain ⟨v', rfl, hv⟩ := hhi v rfl
        simp only at hb
        cases hh : boundV v m0 with
        | none => rw [hh] at hb; cases hb
        | some n =>
          rw [hh] at hb
          obtain ⟨h1, h2⟩ := boundV_run (P := P) (w := w) (code := .slice3B) hh hv (Nat.le_refl _)
          simp only at hb
          cases lo with
          | none =>
            have := hlo0 rfl; subst this
            simp only [Option.some.injEq, Prod.mk.injEq] at hb
            obtain ⟨rfl, rfl, rfl⟩ := hb
            exact ⟨m0, by simp [Instr.sliceBounds, k1, h1], k2, .inr ⟨⟨mv, rfl⟩, rfl⟩, Nat.zero_le _, fun _ => h2⟩
          | some u =>
            obtain ⟨u', rfl, hu⟩ := hlo u rfl
            simp only at hb
            cases hl : boundV u n with
            | none => rw [hl] at hb; cases hb
            | some k =>
              rw [hl] at hb
              simp only [Option.some.injEq, Prod.mk.injEq] at hb
              obtain ⟨rfl, rfl, rfl⟩ := hb
              obtain ⟨h3, h4⟩ := boundV_run (P := P) (w := w) (code := .slice3C) hl hu (Nat.le_refl _)
              exact ⟨m0, by simp [Instr.sliceBounds, k1, h1, h3], k2, .inr ⟨⟨mv, rfl⟩, rfl⟩, h4, fun _ => h2⟩
theorem opt_rel {e e' : Operand → Value} {x : Option Operand} (h : ∀ y, x = some y → R ρ (e y) (e' y)) :
    (∀ v, x.map e = some v → ∃ v', x.map e' = some v' ∧ R ρ v v') ∧ (x.map e = none → x.map e' = none) := by
  cases x with
  | none => exact ⟨(fun v hv => by cases hv), fun _ => rfl⟩
  | some y => exact ⟨(fun v hv => by cases hv; exact ⟨_, rfl, h y rfl⟩), (fun hv => by cases hv)⟩
theorem add_mul (b off j : Nat) : (⟨b, off, none⟩ : Addr).add j = ⟨b, off + j, none⟩ := add_at0 b off j
theorem zeroS_r {mx : Option Value} {a c : Nat} (h : mx.isSome = true → c = 0) (y : Option Addr) : R ρ (zeroS mx a) (.slice y 0 c) := by
  cases mx with
  | none => exact .slice0 _ _
  | some v =>
    have := h rfl
    subst this
    exact .slice00 _ _ _
theorem sliceV_run {t : TypeId} {x x' v : Value} {lo hi mx : Option Operand} {e e' : Operand → Value} (h : sliceV P t x (lo.map e) (hi.map e) (mx.map e) = some v) (hx : R ρ x x')
    (hlo : ∀ y, lo = some y → R ρ (e y) (e' y)) (hhi : ∀ y, hi = some y → R ρ (e y) (e' y)) (hmx : ∀ y, mx = some y → R ρ (e y) (e' y)) :
    ∃ v', (Instr.sliceAt t x' (lo.map e') (hi.map e') (mx.map e')).run P w = .ok v' w ∧ R ρ v v' := by
  unfold sliceV at h
  split at h
  · rename_i s hu
    cases hx
    cases hm : mx with
    | some y => rw [hm] at h; simp at h
    | none =>
      rw [hm] at h
      simp only [Option.map_none] at h ⊢
      split at h
      · rename_i l hh m hb
        cases h
        obtain ⟨m', hr, -⟩ := boundsV_run (P := P) (w := w) (ρ := ρ) (b := false) (mx' := none) hb (Nat.le_refl _) (opt_rel hlo).1 (opt_rel hlo).2 (opt_rel hhi).1 (opt_rel hhi).2 (fun v hv => by cases hv) (fun _ => rfl)
        refine ⟨_, ?_, .string (s.extract l hh)⟩
        simp [Instr.sliceAt, Instr.slice, run_underlying hu, hr]
      · cases h
  · rename_i el a len cap hu
    split at h
    · rename_i i l hh m hinf hb
      split at h
      · cases h
      · rename_i hlhm
        have hlhm := Classical.not_not.1 hlhm
        obtain ⟨hlh, hhm⟩ := hlhm
        have key : ∀ cap', cap ≤ cap' → ∃ m', (Instr.sliceBounds true len cap' (lo.map e') (hi.map e') (mx.map e')).run P w = .ok (l, hh, m') w ∧ m ≤ cap ∧ ((m = cap ∧ m' = cap') ∨ m' = m) ∧ ((mx.map e).isSome = true → m' = m) := fun cap' hc => by
          obtain ⟨m', h1, h2, h3, h4, h5⟩ := boundsV_run (P := P) (w := w) (ρ := ρ) (b := true) hb hc (opt_rel hlo).1 (opt_rel hlo).2 (opt_rel hhi).1 (opt_rel hhi).2 (opt_rel hmx).1 (opt_rel hmx).2
          exact ⟨m', h1, h2, h3.imp (fun k => k.2) (fun k => k.2), fun hsm => by
            rcases h3 with ⟨h6, _⟩ | ⟨_, h6⟩
            · rw [h6] at hsm; cases hsm
            · exact h6⟩
        cases a with
        | none =>
          cases hx
          obtain ⟨m', hr, _, hm', hsm⟩ := key cap (Nat.le_refl _)
          have hmm : m' = m := by rcases hm' with ⟨h1, h2⟩ | h1 <;> omega
          subst hmm
          cases h
          refine ⟨.slice none (hh - l) (m' - l), ?_, .nilSlice _ _⟩
          simp [Instr.sliceAt, Instr.slice, run_underlying hu, hr, run_size hinf]
        | some ad =>
          obtain ⟨a, off, spot⟩ := ad
          cases spot with
          | some sp =>
            simp only at h
            cases hx with
            | slice0 c2 y =>
              obtain ⟨m', hr, hle, hm', hsm⟩ := key c2 (Nat.zero_le _)
              have hm0 : m = 0 := by omega
              have hl0 : l = 0 := by omega
              have hh0 : hh = 0 := by omega
              subst hm0 hl0 hh0
              rw [if_pos rfl] at h
              have hz := zeroS_r (ρ := ρ) (a := 0) hsm
              cases h
              cases y with
              | none =>
                refine ⟨.slice none 0 m', ?_, hz _⟩
                simp [Instr.sliceAt, Instr.slice, run_underlying hu, hr, run_size hinf]
              | some ad =>
                by_cases hml' : m' = 0
                · refine ⟨.slice (some ad) 0 m', ?_, hz _⟩
                  simp [Instr.sliceAt, Instr.slice, run_underlying hu, hr, run_size hinf, hml']
                · refine ⟨.slice (some (ad.add (0 * i.size))) 0 m', ?_, hz _⟩
                  simp [Instr.sliceAt, Instr.slice, run_underlying hu, hr, run_size hinf, hml']
            | slice1 c2 ad =>
              obtain ⟨m', hr, hle, hm', hsm⟩ := key c2 (Nat.zero_le _)
              have hm0 : m = 0 := by omega
              have hl0 : l = 0 := by omega
              have hh0 : hh = 0 := by omega
              subst hm0 hl0 hh0
              rw [if_pos rfl] at h
              have hz := zeroS_r (ρ := ρ) (a := 0) hsm
              cases h
              by_cases hml' : m' = 0
              · refine ⟨.slice (some ad) 0 m', ?_, hz _⟩
                simp [Instr.sliceAt, Instr.slice, run_underlying hu, hr, run_size hinf, hml']
              · refine ⟨.slice (some (ad.add (0 * i.size))) 0 m', ?_, hz _⟩
                simp [Instr.sliceAt, Instr.slice, run_underlying hu, hr, run_size hinf, hml']
          | none =>
            simp only at h
            cases hx with
            | slice _ _ _ c2 hρ hc hf hz =>
              rename_i b lim
              obtain ⟨m', hr, hle, hm', hsm⟩ := key c2 hc
              cases hft : fitS (lo.map e) (mx.map e) with
              | true =>
                rw [hft] at h
                simp only [fitS, Bool.and_eq_true, Option.isNone_iff_eq_none, Option.map_eq_none_iff] at hft
                obtain ⟨hlo0, hmx0⟩ := hft
                subst hlo0 hmx0
                obtain ⟨hl0, hmc⟩ := boundsV_fit hb
                subst hl0 hmc
                cases h
                simp only [Option.map_none] at hr
                have hR : R ρ (.slice (some ⟨a, off, none⟩) hh m) (.slice (some ⟨b, off, none⟩) hh m') := by
                  rcases hm' with ⟨_, h2⟩ | h2
                  · subst h2; exact .slice _ _ _ _ hρ hc hf hz
                  · subst h2; exact .slice _ _ _ _ hρ (Nat.le_refl _) (fun _ => .inl rfl) (.inr rfl)
                by_cases hml' : m' = 0
                · refine ⟨.slice (some ⟨b, off, none⟩) hh m', ?_, hR⟩
                  simp [Instr.sliceAt, Instr.slice, run_underlying hu, hr, run_size hinf, hml']
                · refine ⟨.slice (some ⟨b, off, none⟩) hh m', ?_, hR⟩
                  simp [Instr.sliceAt, Instr.slice, run_underlying hu, hr, run_size hinf, hml', add_at0]
              | false =>
              rw [hft] at h
              simp only [cond_false] at h
              by_cases hml : m = l
              · rw [if_pos hml] at h
                have hz := zeroS_r (ρ := ρ) (a := a) (c := m' - l) (fun hs => by have := hsm hs; omega)
                cases h
                have hhl : hh - l = 0 := by omega
                by_cases hml' : m' = l
                · refine ⟨.slice (some ⟨b, off, none⟩) 0 (m' - l), ?_, hz _⟩
                  simp [Instr.sliceAt, Instr.slice, run_underlying hu, hr, run_size hinf, hml', hhl]
                · refine ⟨.slice (some ⟨b, off + l * i.size, none⟩) 0 (m' - l), ?_, hz _⟩
                  simp [Instr.sliceAt, Instr.slice, run_underlying hu, hr, run_size hinf, hml', add_at0, hhl]
              · rw [if_neg hml] at h; cases h
                have hml' : m' ≠ l := by rcases hm' with ⟨h1, h2⟩ | h1 <;> omega
                refine ⟨.slice (some ⟨b, off + l * i.size, none⟩) (hh - l) (m' - l), ?_, ?_⟩
                · simp [Instr.sliceAt, Instr.slice, run_underlying hu, hr, run_size hinf, hml', add_at0]
                · refine .slice _ _ _ _ hρ (by rcases hm' with ⟨h1, h2⟩ | h1 <;> omega) ?_ (.inl (by omega))
                  intro h0
                  have := hf (by omega)
                  rcases hm' with ⟨h1, h2⟩ | h1
                  · rcases this with h3 | h3
                    · left; omega
                    · right; omega
                  · left; omega
            | slice00 _ _ x =>
              obtain ⟨m', hr, hle, hm', hsm⟩ := key 0 (Nat.le_refl _)
              have hm0 : m = 0 := by omega
              have hl0 : l = 0 := by omega
              have hh0 : hh = 0 := by omega
              have hmm : m' = 0 := by rcases hm' with ⟨_, h2⟩ | h1 <;> omega
              subst hm0 hl0 hh0 hmm
              rw [if_pos rfl] at h
              have hz := zeroS_r (ρ := ρ) (a := a) (c := 0) (mx := mx.map e) (fun _ => rfl)
              have hv : R ρ v (.slice x 0 0) := by
                cases hft : fitS (lo.map e) (mx.map e) with
                | true => rw [hft] at h; cases h; exact .slice00 _ _ _
                | false => rw [hft] at h; cases h; exact hz _
              refine ⟨.slice x 0 0, ?_, hv⟩
              simp [Instr.sliceAt, Instr.slice, run_underlying hu, hr, run_size hinf]
    · cases h
  · rename_i n el a off hu
    cases hx with | ptr _ hρ =>
    rename_i b lim
    split at h
    · rename_i i l hh m hinf hb
      obtain ⟨m', hr, h2, h3, h4, h5⟩ := boundsV_run (P := P) (w := w) (ρ := ρ) (b := false) hb (Nat.le_refl _) (opt_rel hlo).1 (opt_rel hlo).2 (opt_rel hhi).1 (opt_rel hhi).2 (opt_rel hmx).1 (opt_rel hmx).2
      have hmm : m' = m := by rcases h3 with ⟨_, h1, h2⟩ | ⟨_, h1⟩ <;> omega
      subst hmm
      split at h
      · rename_i hml
        cases h
        refine ⟨.slice (some ⟨b, off, none⟩) (hh - l) (m' - l), ?_, .slice _ _ _ _ hρ (Nat.le_refl _) (fun _ => .inl rfl) (.inr rfl)⟩
        simp [Instr.sliceAt, Instr.sureAddr, run_underlying hu, hr, run_size hinf, hml]
      · rename_i hml
        cases h
        refine ⟨.slice (some ⟨b, off + l * i.size, none⟩) (hh - l) (m' - l), ?_, .slice _ _ _ _ hρ (Nat.le_refl _) (fun _ => .inl rfl) (.inr rfl)⟩
        simp [Instr.sliceAt, Instr.sureAddr, run_underlying hu, hr, run_size hinf, hml, add_at0]
    · cases h
  · cases h
end
end Go.Eng
namespace Go.Eng
set_option linter.unusedVariables false
set_option linter.unusedSimpArgs false
open Go
set_option linter.unusedVariables false
set_option linter.unusedSimpArgs false
section
variable {P : Program} {C : Cfg} {ρ : Rho} {w : World}
theorem fieldAddrV_run {s : TypeId} {x x' v : Value} {f : Nat} (h : fieldAddrV P s x f = some v) (hx : R ρ x x') : ∃ v', (Instr.fieldAt s x' f).run P w = .ok v' w ∧ R ρ v v' := by
  unfold fieldAddrV at h
  split at h
  · rename_i fs a off hu
    cases hx with | ptr _ hρ =>
    rename_i b l
    split at h
    · rename_i fd hf
      split at h
      · rename_i i hi
        split at h
        · cases h
        · rename_i hz
          cases h
          refine ⟨_, ?_, .ptr _ hρ⟩
          rw [Array.getElem?_toList] at hf
          simp [Instr.fieldAt, run_underlying hu, hf, Instr.sureAddr, fieldPlace, run_size hi, hz, add_at0]
      · cases h
    · cases h
  · cases h
theorem fieldV_run {t : TypeId} {x x' v : Value} {f : Nat} (h : fieldV P t x f = some v) (hx : R ρ x x') : ∃ v', (Instr.field t x' f).run P w = .ok v' w ∧ R ρ v v' := by
  unfold fieldV at h
  split at h
  · rename_i fs cs hu
    obtain ⟨ys, rfl, hy⟩ := hx.agg_inv
    split at h
    · rename_i fd hf
      obtain ⟨v', h1, h2⟩ := run_partV (P := P) (w := w) h hy
      refine ⟨v', ?_, h2⟩
      rw [Array.getElem?_toList] at hf
      simp [Instr.field, run_underlying hu, hf, asAgg, h1]
    · cases h
  · cases h
theorem indexAddrV_run {t : TypeId} {x x' i i' v : Value} (h : indexAddrV P t x i = some v) (hx : R ρ x x') (hi : R ρ i i') : ∃ v', (Instr.indexAt t x' i').run P w = .ok v' w ∧ R ρ v v' := by
  unfold indexAddrV at h
  split at h
  · rename_i n e a off k i hu
    cases hi
    cases hx with | ptr _ hρ =>
    rename_i b l
    split at h
    · rename_i ie hie
      split at h
      · rename_i hb
        cases h
        refine ⟨_, ?_, .ptr _ hρ⟩
        by_cases h1 : n ≤ 1
        · simp [Instr.indexAt, run_underlying hu, asIntOf, Instr.sureAddr, run_size hie, hb, add_at0, h1]
        · simp [Instr.indexAt, run_underlying hu, asIntOf, Instr.sureAddr, run_size hie, hb, add_at0, h1]
      · cases h
    · cases h
  · rename_i e a off n c k i hu
    cases hi
    split at h
    · rename_i ie hie
      split at h
      · rename_i hb
        cases h
        cases hx with
        | slice _ _ _ c2 hρ hc hf hz =>
          rename_i b l
          refine ⟨_, ?_, .ptr _ hρ⟩
          by_cases h1 : n ≤ 1
          · simp [Instr.indexAt, run_underlying hu, asIntOf, run_size hie, hb, add_at0, h1]
          · simp [Instr.indexAt, run_underlying hu, asIntOf, run_size hie, hb, add_at0, h1]
        | slice00 _ _ x => exfalso; omega
      · cases h
    · cases h
  · cases h
theorem indexV_run {t : TypeId} {x x' i i' v : Value} (h : indexV P t x i = some v) (hx : R ρ x x') (hi : R ρ i i') : ∃ v', (Instr.index t x' i').run P w = .ok v' w ∧ R ρ v v' := by
  unfold indexV at h
  split at h
  · rename_i n e cs k i hu
    cases hi
    obtain ⟨ys, rfl, hy⟩ := hx.agg_inv
    split at h
    · rename_i ie hie
      split at h
      · rename_i hb
        obtain ⟨v', h1, h2⟩ := run_partV (P := P) (w := w) h hy
        refine ⟨v', ?_, h2⟩
        simp [Instr.index, asIntOf, run_underlying hu, hb, run_size hie, h1]
      · cases h
    · cases h
  · rename_i s k i hu
    cases hi; cases hx
    split at h
    · rename_i hb
      split at h
      · rename_i b hbb
        cases h
        refine ⟨_, ?_, .int .u8 b.toNat⟩
        have : s[i.toNat]? = some b := by
          rw [Array.getElem?_toList] at hbb
          obtain ⟨h1, h2⟩ := Array.getElem?_eq_some_iff.1 hbb
          have h1' : i.toNat < s.size := h1
          rw [getElem?_pos s i.toNat h1']
          congr 1
        simp [Instr.index, asIntOf, run_underlying hu, hb, this]
      · cases h
    · cases h
  · cases h
theorem run_getMap {r : Nat} {es : Array MapEntry} {clk : Nat} (h : w.heap[r]? = some (.map es clk)) : (getObj r).run P w = .ok (.map es clk) w := by simp [getObj, Sem.run, h]
theorem bytes_eq {a b : ByteArray} (h : (a == b) = true) : a = b := by
  rw [beq_toListBytes] at h
  have h := eq_of_beq h
  rw [ByteArray.toList_eq, ByteArray.toList_eq] at h
  obtain ⟨⟨x⟩⟩ := a
  obtain ⟨⟨y⟩⟩ := b
  simp at h
  subst h; rfl
def KeyD : TypeDesc → Value → Prop
  | .int _, .int _ _ => True
  | .string, .string _ => True
  | .bool, .bool _ => True
  | _, _ => False
theorem lookE_find {kt : TypeDesc} {k : Value} (hk : KeyD kt k) :
    ∀ (es : List (Value × Value × Nat)) (es' : List MapEntry) (j : Nat) (r : Option (Nat × Value)), lookE k es j = some r →
    es'.length = es.length → (∀ (i : Nat) (e : Value × Value × Nat), es[i]? = some e → ∃ m : MapEntry, es'[i]? = some m ∧ plain1 e.1 = true ∧ m.key = e.1 ∧ m.born = e.2.2 ∧ R ρ e.2.1 m.val) →
    ∃ r', Instr.findNow kt k es' j = some r' ∧ (match r, r' with
      | none, none => True
      | some (i, v), some (i', v') => i' = i ∧ R ρ v v' ∧ j ≤ i ∧ i < j + es.length ∧ ∃ e, es[i - j]? = some e ∧ e.1 = k
      | _, _ => False)
  | [], es', j, r, h, hl, _ => by
    have : es' = [] := List.eq_nil_of_length_eq_zero (by simpa using hl)
    subst this
    simp [lookE] at h; subst h
    exact ⟨none, by simp [Instr.findNow], trivial⟩
  | (k', v, bn) :: es, es', j, r, h, hl, hr => by
    cases es' with
    | nil => simp at hl
    | cons m es' =>
      obtain ⟨m', e1, _, e2, e3, e4⟩ := hr 0 (k', v, bn) (by simp)
      simp at e1; subst e1
      have hs : Instr.sameNow kt k m.key = keyEq k k' := by
        rw [e2]
        cases kt <;> cases k <;> first | (exact hk.elim) | (cases k' <;> rfl)
      simp only [lookE] at h
      simp only [Instr.findNow, hs]
      cases hq : keyEq k k' with
      | none => rw [hq] at h; cases h
      | some b =>
        rw [hq] at h
        cases b with
        | true =>
          simp at h; subst h
          refine ⟨some (j, m.val), rfl, rfl, e4, Nat.le_refl _, by simp, (k', v, bn), by simp, ?_⟩
          cases k <;> cases k' <;> simp [keyEq] at hq <;> first | (obtain ⟨rfl, rfl⟩ := hq; rfl) | (subst hq; rfl) | (have := bytes_eq hq; subst this; rfl)
        | false =>
          simp at h
          obtain ⟨r', hr1, hr2⟩ := lookE_find hk es es' (j + 1) r h (by simpa using hl) (fun i e he => by
            obtain ⟨mm, q1, q2⟩ := hr (i + 1) e (by simpa using he)
            exact ⟨mm, by simpa using q1, q2⟩)
          refine ⟨r', hr1, ?_⟩
          cases r with
          | none => cases r' with
            | none => trivial
            | some q => exact hr2
          | some p => cases r' with
            | none => exact hr2
            | some q =>
              obtain ⟨i, v⟩ := p
              obtain ⟨i', v'⟩ := q
              obtain ⟨h1, h2, h3, h4, e, h5, h6⟩ := hr2
              refine ⟨h1, h2, by omega, by simp; omega, e, ?_, h6⟩
              have : i - j = (i - (j + 1)) + 1 := by omega
              rw [this]; simpa using h5
theorem checkKey_plain {empty : Bool} {n : Nat} {t : TypeId} {k : Value} (h : keyFits P t k = true) : (Instr.checkKey empty (n + 1) t k).run P w = .ok () w := by
  unfold keyFits at h
  split at h <;> first | (cases h; done) | (rename_i hu; simp [Instr.checkKey, run_underlying hu])
theorem keyFits_desc {t : TypeId} {k : Value} (h : keyFits P t k = true) : ∃ d, P.underlying t = some d ∧ KeyD d k := by
  unfold keyFits at h
  split at h <;> first | (cases h; done) | (rename_i hu; exact ⟨_, hu, trivial⟩)
theorem keyFits_eq {t : TypeId} {k k' : Value} (h : keyFits P t k = true) (hk : R ρ k k') : k' = k := by
  unfold keyFits at h
  split at h <;> first | (cases h; done) | (cases hk; rfl)
theorem keyFits_plain {t : TypeId} {k : Value} (h : keyFits P t k = true) : plain1 k = true := by
  unfold keyFits at h
  split at h <;> first | (cases h; done) | rfl
theorem same_key {kt : TypeDesc} {k : Value} (hk : KeyD kt k) (k' : Value) : Instr.sameNow kt k k' = keyEq k k' := by
  cases kt <;> cases k <;> first | (exact hk.elim) | (cases k' <;> rfl)
theorem find_pre {kt : TypeDesc} {k : Value} (hk : KeyD kt k) : ∀ (pre r : List MapEntry) (j : Nat), (∀ e ∈ pre, keyEq k e.key = some false) → Instr.findNow kt k (pre ++ r) j = Instr.findNow kt k r (j + pre.length)
  | [], r, j, _ => by simp
  | e :: pre, r, j, h => by
    rw [List.cons_append, Instr.findNow, same_key hk, h e List.mem_cons_self]
    simp only
    rw [find_pre hk pre r (j + 1) (fun e he => h e (List.mem_cons_of_mem _ he)), List.length_cons]
    congr 1; omega
theorem keyB_eq {k k0 : Value} (h : keyB k k0 = true) : k0 = k ∧ keyEq k k = some true := by
  cases k <;> cases k0 <;> first | (cases h; done) | skip
  rename_i kd a kd' b
  simp only [keyB] at h
  split at h
  · rename_i hd
    have h1 := of_decide_eq_true hd
    have h2 : a = b := by simpa using h
    subst h1; subst h2
    exact ⟨rfl, by simp [keyEq]⟩
  · cases h
theorem PRel.find {kt : TypeDesc} {k k0 : Value} (hk : KeyD kt k) (hb : keyB k k0 = true) {old : List MapEntry} {v : Option Value} {es : List MapEntry} (h : PRel ρ old k0 v es) :
    (match (generalizing := false) v with
      | none => Instr.findNow kt k es 0 = some none ∧ es = old
      | some x => ∃ pre post m, es = pre ++ m :: post ∧ old = pre ++ post ∧ m.key = k ∧ R ρ x m.val ∧ Instr.findNow kt k es 0 = some (some (pre.length, m.val))) := by
  obtain ⟨rfl, hkk⟩ := keyB_eq hb
  obtain ⟨h1, h2⟩ := h
  cases v with
  | none =>
    simp only at h2 ⊢
    subst h2
    have := find_pre hk es [] 0 h1
    rw [List.append_nil] at this
    exact ⟨by rw [this]; simp [Instr.findNow], rfl⟩
  | some x =>
    obtain ⟨pre, post, m, rfl, rfl, h5, h6⟩ := h2
    refine ⟨pre, post, m, rfl, rfl, h5, h6, ?_⟩
    rw [find_pre hk pre _ 0 (fun e he => h1 e (List.mem_append_left _ he)), Instr.findNow, same_key hk, h5, hkk, Nat.zero_add]
theorem lookM_run {kt : TypeDesc} {m m' k : Value} {rd : Nat → Option AObj} (hk : KeyD kt k) {q : Option Value} (h : lookM k m rd = some q) (hm : R ρ m m') (hr : Reads P ρ rd w) :
    ∃ es : Array MapEntry, ((m' = .map none ∧ es = #[]) ∨ ∃ b clk, m' = .map (some b) ∧ w.heap[b]? = some (.map es clk)) ∧ (match (generalizing := false) q with
      | none => Instr.findNow kt k es.toList 0 = some none
      | some v => ∃ i v', Instr.findNow kt k es.toList 0 = some (some (i, v')) ∧ R ρ v v') := by
  unfold lookM at h
  split at h
  · cases h; cases hm
    exact ⟨#[], .inl ⟨rfl, rfl⟩, by simp [Instr.findNow]⟩
  · cases hm with | map hρ =>
    rename_i r b l
    try simp only at h
    split at h
    · rename_i es clk hg
      obtain ⟨b2, l2, o', hρ2, hw, ho⟩ := hr _ _ hg
      rw [hρ] at hρ2; cases hρ2
      cases o' with
      | map es' clk' =>
        obtain ⟨rfl, hl, hrel⟩ := ho
        refine ⟨es', .inr ⟨_, _, rfl, hw⟩, ?_⟩
        have key : ∀ p, lookE k es 0 = some p → _ := fun p hp => lookE_find (ρ := ρ) hk es es'.toList 0 p hp (by simpa using hl) (fun i e he => by
          obtain ⟨mm, q1, q2⟩ := hrel i e he
          exact ⟨mm, by simpa using q1, q2⟩)
        split at h
        · rename_i i v hle
          cases h
          obtain ⟨r', hf, hmatch⟩ := key _ hle
          cases r' with
          | none => exact hmatch.elim
          | some q' => exact ⟨q'.1, q'.2, hf, hmatch.2.1⟩
        · rename_i hle
          cases h
          obtain ⟨r', hf, hmatch⟩ := key _ hle
          cases r' with
          | none => exact hf
          | some q' => exact hmatch.elim
        · cases h
      | _ => simp [RObj] at ho
    · rename_i old k0 v hg
      obtain ⟨b2, l2, o', hρ2, hw, ho⟩ := hr _ _ hg
      rw [hρ] at hρ2; cases hρ2
      cases o' with
      | map es' clk' =>
        split at h
        · rename_i hb
          cases h
          have hf := PRel.find hk hb ho
          refine ⟨es', .inr ⟨_, _, rfl, hw⟩, ?_⟩
          cases q with
          | none => exact hf.1
          | some x =>
            obtain ⟨pre, post, m, _, _, _, h4, h5⟩ := hf
            exact ⟨_, _, h5, h4⟩
        · cases h
      | _ => simp [RObj] at ho
    · cases h
  · cases h
theorem lookupV_run {t : TypeId} {m m' k k' v : Value} {ok : Bool} {rd : Nat → Option AObj} (h : lookupV P t m k ok rd = some v) (hm : R ρ m m') (hk : R ρ k k') (hr : Reads P ρ rd w) :
    ∃ v', (Instr.lookup t m' k' ok).run P w = .ok v' w ∧ R ρ v v' := by
  unfold lookupV at h
  split at h
  · rename_i kt et hu
    cases hkf : keyFits P kt k with
    | false => rw [hkf] at h; cases h
    | true =>
      rw [hkf] at h
      have := keyFits_eq hkf hk; subst this
      obtain ⟨d, hd, hdk⟩ := keyFits_desc hkf
      simp only [cond_true] at h
      have fk : ∀ (es : Array MapEntry) r, Instr.findNow d k' es.toList 0 = some r → (Instr.findKey kt k' es.toList).run P w = .ok r w := fun es r hf => by simp [Instr.findKey, run_underlying hd, hf]
      split at h
      · rename_i z v0 hz hq
        obtain ⟨es, h1, i, v', h2, h3⟩ := lookM_run hdk hq hm hr
        have hck := checkKey_plain (P := P) (w := w) (empty := es.isEmpty) (n := 9999) hkf
        have hfk := fk _ _ h2
        cases ok with
        | true =>
          cases h
          refine ⟨.tuple #[v', .bool true], ?_, R.tuple_of (xs := [v0, .bool true]) (RL.cons h3 (RL.cons (.bool true) (.nil _)))⟩
          rcases h1 with ⟨rfl, rfl⟩ | ⟨b, clk, rfl, hw⟩
          · simp [Instr.findNow] at h2
          · simp [Instr.lookup, run_underlying hu, run_getMap hw, hck, hfk]
        | false =>
          cases h
          refine ⟨v', ?_, h3⟩
          rcases h1 with ⟨rfl, rfl⟩ | ⟨b, clk, rfl, hw⟩
          · simp [Instr.findNow] at h2
          · simp [Instr.lookup, run_underlying hu, run_getMap hw, hck, hfk]
      · rename_i z hz hq
        obtain ⟨hzr, hzp⟩ := run_zero (P := P) (w := w) hz
        obtain ⟨es, h1, h2⟩ := lookM_run hdk hq hm hr
        have hck := checkKey_plain (P := P) (w := w) (empty := es.isEmpty) (n := 9999) hkf
        have hfk := fk _ _ h2
        cases ok with
        | true =>
          cases h
          refine ⟨.tuple #[z, .bool false], ?_, R.tuple_of (xs := [z, .bool false]) (RL.cons (.of_plain hzp) (RL.cons (.bool false) (.nil _)))⟩
          rcases h1 with ⟨rfl, rfl⟩ | ⟨b, clk, rfl, hw⟩
          · simp at hck hfk; simp [Instr.lookup, run_underlying hu, hck, hfk, hzr]
          · simp [Instr.lookup, run_underlying hu, run_getMap hw, hck, hfk, hzr]
        | false =>
          cases h
          refine ⟨z, ?_, .of_plain hzp⟩
          rcases h1 with ⟨rfl, rfl⟩ | ⟨b, clk, rfl, hw⟩
          · simp at hck hfk; simp [Instr.lookup, run_underlying hu, hck, hfk, hzr]
          · simp [Instr.lookup, run_underlying hu, run_getMap hw, hck, hfk, hzr]
      · cases h
  · cases h
theorem lenV_run {t ty : TypeId} {x x' v : Value} {rd : Nat → Option AObj} (h : lenV P t x rd = some v) (hx : R ρ x x') (hr : Reads P ρ rd w) :
    (Builtin.len_ #[t] ty #[x']).run P w = .ok v w ∧ plain1 v = true := by
  unfold lenV at h
  split at h
  · rename_i hu; cases hx; cases h; exact ⟨by simp [Builtin.len_, run_underlying hu, goInt], rfl⟩
  · rename_i hu; cases h; exact ⟨by simp [Builtin.len_, run_underlying hu, goInt], rfl⟩
  · rename_i hu; cases h; cases hx <;> exact ⟨by simp [Builtin.len_, run_underlying hu, goInt], rfl⟩
  · rename_i hu; cases hx; cases h; exact ⟨by simp [Builtin.len_, run_underlying hu, goInt], rfl⟩
  · rename_i hu
    cases hx with | map hρ =>
    split at h
    · rename_i es clk hg
      cases h
      obtain ⟨b2, l2, o', hρ2, hw, ho⟩ := hr _ _ hg
      rw [hρ] at hρ2; cases hρ2
      cases o' with
      | map es' clk' =>
        obtain ⟨rfl, hl, hrel⟩ := ho
        exact ⟨by simp [Builtin.len_, run_underlying hu, goInt, run_getMap hw, hl], rfl⟩
      | _ => simp [RObj] at ho
    · cases h
  · cases h
theorem minV_run {w : World} : ∀ (xs : List Value) (x x' v : Value) (xs' : List Value), minV x xs = some v → R ρ x x' → RL ρ xs xs' → ∃ v', (xs'.foldlM Builtin.min2 x').run P w = .ok v' w ∧ R ρ v v'
  | [], x, x', v, xs', h, hx, hxs => by
    have := hxs.nil_inv; subst this
    simp [minV] at h; subst h
    exact ⟨x', by simp, hx⟩
  | y :: xs, x, x', v, xs', h, hx, hxs => by
    obtain ⟨y', ys, rfl, hy, hys⟩ := hxs.uncons
    cases x <;> cases y <;> simp [minV] at h
    cases hx; cases hy
    rename_i k a k2 b
    obtain ⟨v', h1, h2⟩ := minV_run xs _ _ v ys h (.int k _) hys
    exact ⟨v', by simpa [List.foldlM_cons, Builtin.min2] using h1, h2⟩
theorem maxV_run {w : World} : ∀ (xs : List Value) (x x' v : Value) (xs' : List Value), maxV x xs = some v → R ρ x x' → RL ρ xs xs' → ∃ v', (xs'.foldlM Builtin.max2 x').run P w = .ok v' w ∧ R ρ v v'
  | [], x, x', v, xs', h, hx, hxs => by
    have := hxs.nil_inv; subst this
    simp [maxV] at h; subst h
    exact ⟨x', by simp, hx⟩
  | y :: xs, x, x', v, xs', h, hx, hxs => by
    obtain ⟨y', ys, rfl, hy, hys⟩ := hxs.uncons
    cases x <;> cases y <;> simp [maxV] at h
    cases hx; cases hy
    rename_i k a k2 b
    obtain ⟨v', h1, h2⟩ := maxV_run xs _ _ v ys h (.int k _) hys
    exact ⟨v', by simpa [List.foldlM_cons, Builtin.max2] using h1, h2⟩
theorem RL.map {e e' : Operand → Value} {xs : List Operand} (h : ∀ x ∈ xs, R ρ (e x) (e' x)) : RL ρ (xs.map e) (xs.map e') := by
  refine ⟨by simp, fun i v hv => ?_⟩
  simp only [List.getElem?_map] at hv ⊢
  cases hq : xs[i]? with
  | none => rw [hq] at hv; cases hv
  | some q => rw [hq] at hv; cases hv; exact ⟨e' q, rfl, h q (List.mem_of_getElem? hq)⟩
def LOk (P : Program) (ρ : Rho) (w : World) (s : Sem Next) (r : LRes) : Prop :=
  match r.obj with
  | none => ∃ v', s.run P w = .ok (.value v') w ∧ R ρ (r.name 0) v'
  | some ob => ∃ o' l, s.run P w = .ok (.value (r.name w.heap.size)) (w.alloc o') ∧ RObj P ρ l ob o' ∧ ob.wr = true ∧
      ∀ (ρ' : Rho) (n : Nat), ρ' n = some (w.heap.size, l) → R ρ' (r.name n) (r.name w.heap.size)
theorem LOk.val {s : Sem Value} {v v' : Value} (h : s.run P w = .ok v' w) (hr : R ρ v v') : LOk P ρ w (do pure (.value (← s))) (.val v) :=
  ⟨v', by simp [h], hr⟩
theorem RObj.row {l : Nat} {cs : List Value} {c' : Array Value} {e : TypeId} (h : RL ρ cs c'.toList) : RObj P ρ 0 (.cells cs e true) (.cells c' e) :=
  ⟨rfl, h.rp, by simp, fun _ => rfl⟩
set_option maxHeartbeats 4000000 in
theorem evL_sound (hC : C.ok P) {o : Oper} {e e' : Operand → Value} {rd : Nat → Option AObj} {r : LRes} (h : evL P C o e rd = some r)
    (he : ∀ x ∈ o.op.operands.toList, R ρ (e x) (e' x)) (hr : Reads P ρ rd w) : LOk P ρ w (execOp e' o) r := by
  obtain ⟨dst, op, type, pos, after, guard⟩ := o
  unfold evL at h
  simp only at h he
  unfold execOp
  cases op <;> simp only [Op.operands] at he <;> simp only at h ⊢
  case move x => cases h; exact ⟨e' x, by simp, he x (by simp)⟩
  case assign x => cases h; exact ⟨e' x, by simp, he x (by simp)⟩
  case pick c a b =>
    have hc := he c (by simp)
    split at h
    · rename_i t ht
      rw [ht] at hc
      generalize hq : e' c = q at hc
      cases hc
      cases h
      cases t with
      | true => exact ⟨e' a, by simp [hq, asBool], he a (by simp)⟩
      | false => exact ⟨e' b, by simp [hq, asBool], he b (by simp)⟩
    · cases h
  case alloc t =>
    split at h
    · rename_i z hz
      cases h
      obtain ⟨h1, h2⟩ := run_zero (P := P) (w := w) hz
      exact ⟨.cells z.cells t, 0, by simp [Instr.alloc, h1, newVar, newRow]; rfl, RObj.row (l := 0) ((R.of_plain h2).cells (plain_ok h2)), rfl, fun ρ' n hn => .ptr 0 hn⟩
    · cases h
  case box t x =>
    cases hk : okCell (e x) with
    | false => rw [hk] at h; cases h
    | true =>
      rw [hk] at h; cases h
      exact ⟨.cells (e' x).cells t, 0, by simp [Instr.box, newVar, newRow]; rfl, RObj.row (l := 0) ((he x (by simp)).cells hk), rfl, fun ρ' n hn => .ptr 0 hn⟩
  case build t parts =>
    split at h
    · rename_i v hv
      cases h
      obtain ⟨k1, k2⟩ := parts_rel (ρ := ρ) (e := e) (e' := e') (parts := parts) (fun p hp => he p.2 (by simpa using ⟨p.1, by simpa using hp⟩))
      obtain ⟨v', h1, h2⟩ := buildV_run (P := P) (w := w) hv k1 k2
      exact .val h1 h2
    · cases h
  case buildSlice t len parts =>
    obtain ⟨k1, k2⟩ := parts_rel (ρ := ρ) (e := e) (e' := e') (parts := parts) (fun p hp => he p.2 (by simpa using ⟨p.1, by simpa using hp⟩))
    obtain ⟨l, el, c', rfl, h1, h2⟩ := buildSliceV_run (P := P) (w := w) h k1 k2
    exact ⟨.cells c' el, 0, by rw [Sem.run_bind, h1]; rfl, RObj.row (l := 0) h2, rfl, fun ρ' n hn => .slice 0 _ _ _ hn (Nat.le_refl _) (fun _ => .inl rfl) (.inr rfl)⟩
  case load t a =>
    split at h
    · rename_i v hv
      cases h
      obtain ⟨v', h1, h2⟩ := run_loadV (P := P) (w := w) hv (he a (by simp)) hr
      exact .val h1 h2
    · cases h
  case nilCheck x =>
    have hx := he x (by simp)
    split at h
    · rename_i a ha
      cases h
      rw [ha] at hx
      generalize hq : e' x = q at hx
      cases hx with | ptr off hρ => exact ⟨_, by simp, .ptr off hρ⟩
    · rename_i t v hv
      cases h
      rw [hv] at hx
      generalize hq : e' x = q at hx
      cases hx with | iface _ hi => exact ⟨_, by simp, .iface t hi⟩
    · rename_i f a b hv
      cases h
      rw [hv] at hx
      generalize hq : e' x = q at hx
      cases hx with | func _ _ ys _ vs hs h ht k => exact ⟨_, by simp, .func _ _ _ _ _ hs h ht k⟩
    · rename_i l a b hv
      cases hab : a.isEmpty && b.isEmpty with
      | false => rw [hab] at h; cases h
      | true =>
        rw [hab] at h
        cases h
        rw [hv] at hx
        generalize hq : e' x = q at hx
        cases hx with | yield hρ => exact ⟨_, by simp, .yield hρ⟩
    · cases h
  case binOp op t x y yt =>
    split at h
    · rename_i v hv
      cases h
      obtain ⟨v', h1, h2⟩ := binV_run (w := w) hC hv (he x (by simp)) (he y (by simp))
      exact .val h1 h2
    · cases h
  case unOp op t x =>
    split at h
    · rename_i v hv
      cases h
      obtain ⟨h1, h2⟩ := unV_run (P := P) (w := w) hv (he x (by simp))
      exact .val h1 (.of_plain1 h2)
    · cases h
  case convert s d x =>
    split at h
    · rename_i v hv
      cases h
      obtain ⟨h1, h2⟩ := convV_run (P := P) (w := w) hv (he x (by simp)) hr
      exact .val h1 (.of_plain1 h2)
    · cases h
  case makeInterface t x =>
    split at h
    · cases h
    · cases h
    · rename_i d hd hu
      cases h
      refine .val (v' := .iface t (e' x)) ?_ (.iface t (he x (by simp)))
      cases d <;> first | (simp [Instr.makeInterface, run_underlying hu]; done) | (exact absurd rfl (hd _))
  case makeFunc fn first cap =>
    cases fn with
    | func fn =>
    cases h
    have h1 := RL.map (ρ := ρ) (e := e) (e' := e') (xs := first.toList) (fun x hx => he x (by simp at hx ⊢; exact .inl hx))
    have h2 := RL.map (ρ := ρ) (e := e) (e' := e') (xs := cap.toList) (fun x hx => he x (by simp at hx ⊢; exact .inr hx))
    have q1 : first.map e' = (first.toList.map e').toArray := by apply Array.toList_inj.1; rw [Array.toList_map]
    have q2 : cap.map e' = (cap.toList.map e').toArray := by apply Array.toList_inj.1; rw [Array.toList_map]
    refine .val (v' := .func (.func fn) (first.map e') (cap.map e')) (by simp [Instr.makeFunc]) ?_
    rw [q1, q2]
    exact .func fn _ _ _ _ (by simp) h1.to_array (by simp) h2.to_array
    | _ => cases h
  case makeMap t r0 =>
    cases r0 with
    | none =>
      simp only at h
      cases h
      exact ⟨.map #[] 0, 0, by simp [Instr.makeMap, newObj, Sem.run, LRes.name], ⟨rfl, rfl, fun i e he => by simp at he⟩, rfl, fun ρ' n hn => .map hn⟩
    | some x =>
      simp only at h
      split at h
      · rename_i kt et k n hu hx
        cases h
        have hx' := he x (by simp)
        rw [hx] at hx'
        generalize hq : e' x = q at hx'
        cases hx'
        exact ⟨.map #[] 0, 0, by simp [Instr.makeMap, newObj, Sem.run, LRes.name, run_underlying hu, hq, asInt, asIntOf], ⟨rfl, rfl, fun i e he => by simp at he⟩, rfl, fun ρ' n hn => .map hn⟩
      · cases h
  case makeSlice t l c =>
    obtain ⟨cs, el, n, k, co, rfl, h1, h2⟩ := makeV_run (P := P) (w := w) h (he l (by simp)) (he c (by simp))
    exact ⟨.cells co el, 0, by rw [Sem.run_bind, h1]; rfl, RObj.row (l := 0) h2, rfl, fun ρ' n hn => .slice 0 _ _ _ hn (Nat.le_refl _) (fun _ => .inl rfl) (.inr rfl)⟩
  case slice t x lo hi mx =>
    split at h
    · rename_i v hv
      cases h
      obtain ⟨v', h1, h2⟩ := sliceV_run (P := P) (w := w) (e' := e') hv (he x (by simp)) (fun y hy => he y (by simp [hy])) (fun y hy => he y (by simp [hy])) (fun y hy => he y (by simp [hy]))
      exact .val h1 h2
    · cases h
  case fieldAddr s x f =>
    split at h
    · rename_i v hv
      cases h
      obtain ⟨v', h1, h2⟩ := fieldAddrV_run (P := P) (w := w) hv (he x (by simp))
      exact .val h1 h2
    · cases h
  case field t x f =>
    split at h
    · rename_i v hv
      cases h
      obtain ⟨v', h1, h2⟩ := fieldV_run (P := P) (w := w) hv (he x (by simp))
      exact .val h1 h2
    · cases h
  case indexAddr t x i =>
    split at h
    · rename_i v hv
      cases h
      obtain ⟨v', h1, h2⟩ := indexAddrV_run (P := P) (w := w) hv (he x (by simp)) (he i (by simp))
      exact .val h1 h2
    · cases h
  case index t x i =>
    split at h
    · rename_i v hv
      cases h
      obtain ⟨v', h1, h2⟩ := indexV_run (P := P) (w := w) hv (he x (by simp)) (he i (by simp))
      exact .val h1 h2
    · cases h
  case lookup t m k ok =>
    split at h
    · rename_i v hv
      cases h
      obtain ⟨v', h1, h2⟩ := lookupV_run (P := P) (w := w) hv (he m (by simp)) (he k (by simp)) hr
      exact .val h1 h2
    · cases h
  case extract t i =>
    split at h
    · rename_i vs hvs
      cases hvb : Nat.blt 1 vs.size with
      | false => rw [hvb] at h; cases h
      | true =>
      rw [hvb] at h
      dsimp only [cond] at h
      split at h
      · rename_i v hv
        cases h
        have hx := he t (by simp)
        rw [hvs] at hx
        have hvsz : 1 < vs.size := by simpa [Nat.blt_eq] using hvb
        obtain ⟨ys, hy, hrl⟩ := hx.tuple_inv hvsz
        obtain ⟨v', h1, h2⟩ := hrl.2 i v hv
        rw [Array.getElem?_toList] at h1
        exact .val (v' := v') (by simp [hy, Instr.extract, h1]) h2
      · cases h
    · cases h
  case call c =>
    obtain ⟨callee, args, ts⟩ := c
    simp only [Call.operands] at he
    cases callee with
    | value f => simp at h
    | invoke rv m => simp at h
    | builtin b =>
      cases b <;> simp only at h <;> first | cases h | skip
      case len =>
        split at h
        · rename_i x t hx ht
          split at h
          · rename_i v hv
            cases h
            have ha : args = #[x] := Array.toList_inj.1 (by simpa using hx)
            have htt : ts = #[t] := Array.toList_inj.1 (by simpa using ht)
            subst ha htt
            obtain ⟨h1, h2⟩ := lenV_run (P := P) (w := w) (ty := type) hv (he x (by simp)) hr
            exact ⟨v, by simp [resolve, invoke, builtin, h1], .of_plain1 h2⟩
          · cases h
        · cases h
      case min =>
        split at h
        · rename_i x r0 hx
          split at h
          · rename_i v hv
            cases h
            have hrl := RL.map (ρ := ρ) (e := e) (e' := e') (xs := args.toList) (fun y hy => he y (by simpa using hy))
            rw [hx] at hrl
            obtain ⟨x', xs', hl, hxx, hxs⟩ := hrl.uncons
            obtain ⟨v', h1, h2⟩ := minV_run (P := P) (w := w) r0 x x' v xs' hv hxx hxs
            exact ⟨v', by simp [resolve, invoke, builtin, Builtin.min_, hl, h1], h2⟩
          · cases h
        · cases h
      case max =>
        split at h
        · rename_i x r0 hx
          split at h
          · rename_i v hv
            cases h
            have hrl := RL.map (ρ := ρ) (e := e) (e' := e') (xs := args.toList) (fun y hy => he y (by simpa using hy))
            rw [hx] at hrl
            obtain ⟨x', xs', hl, hxx, hxs⟩ := hrl.uncons
            obtain ⟨v', h1, h2⟩ := maxV_run (P := P) (w := w) r0 x x' v xs' hv hxx hxs
            exact ⟨v', by simp [resolve, invoke, builtin, Builtin.max_, hl, h1], h2⟩
          · cases h
        · cases h
  all_goals cases h
end
end Go.Eng
namespace Go.Eng
set_option linter.unusedVariables false
set_option linter.unusedSimpArgs false
set_option linter.unusedSectionVars false
open Go
set_option linter.unusedVariables false
set_option linter.unusedSimpArgs false
section
variable (P : Program)
def storeV (t : TypeId) (x v : Value) (h : AH) : Option AH :=
  match x with
  | .pointer (some ⟨a, off, none⟩) => match h.get a, P.info? t with
    | some (.cells c e true), some i =>
      bif Nat.beq v.cells.toList.length i.size && Nat.ble (off + i.size) c.length && v.cells.toList.all Value.oneCell' then some (h.put a (.cells (splice c off v.cells.toList) e true)) else none
    | _, _ => none
  | _ => none
def setE (es : List (Value × Value × Nat)) (i : Nat) (k v : Value) : List (Value × Value × Nat) :=
  match es, i with
  | [], _ => []
  | (_, _, b) :: r, 0 => (k, v, b) :: r
  | e :: r, i + 1 => e :: setE r i k v
def mapUpdV (t : TypeId) (m k v : Value) (h : AH) : Option AH :=
  match P.underlying t, m with
  | some (.map kt _), .map (some r) => match h.get r with
    | some (.map es clk) => bif keyFits P kt k then (match lookE k es 0 with
      | some (some (i, _)) => some (h.put r (.map (setE es i k v) clk))
      | some none => some (h.put r (.map (es ++ [(k, v, clk)]) (clk + 1)))
      | none => none) else none
    | some (.pmap old k0 _) => bif keyFits P kt k then (match keyB k k0 with
      | true => some (h.put r (.pmap old k (some v)))
      | false => none) else none
    | _ => none
  | _, _ => none
def mapDelV (t : TypeId) (m k : Value) (h : AH) : Option AH :=
  match P.underlying t, m with
  | some (.map kt _), .map (some r) => match h.get r with
    | some (.map es clk) => bif keyFits P kt k then (match lookE k es 0 with
      | some (some (i, _)) => some (h.put r (.map (es.eraseIdx i) clk))
      | some none => some (h.put r (.map es clk))
      | none => none) else none
    | some (.pmap old k0 _) => bif keyFits P kt k then (match keyB k k0 with
      | true => some (h.put r (.pmap old k none))
      | false => none) else none
    | _ => none
  | _, _ => none
def newsV (x : Value) (size m : Nat) (h : AH) : Option (List Value) :=
  match x with
  | .slice (some ⟨a, off, none⟩) _ _ => match h.get a with
    | some (.cells c _ _) => bif Nat.ble (off + m * size) c.length then some ((c.drop off).take (m * size)) else none
    | _ => none
  | .string s => bif Nat.beq size 1 && Nat.beq m s.size then some (s.data.toList.map fun (b : UInt8) => Value.int .u8 (b.toNat : Int)) else none
  | _ => none
def appendV (t : TypeId) (s x : Value) (h : AH) : Option (Value × AH) :=
  match P.underlying t, s, x with
  | some (.slice e), .slice base n c, .slice xb m xc => match P.info? e, zeroV P e with
    | some i, some z =>
      bif Nat.beq m 0 then (bif Nat.ble n c then some (.slice base n c, h) else none) else
      match newsV (.slice xb m xc) i.size m h with
      | none => none
      | some vs =>
        if ¬ (0 < i.size ∧ z.cells.toList.length = i.size ∧ vs.all Value.oneCell' = true ∧ (n + m) * (i.bytes + 1) ≤ 1099511627776) then none else
        bif Nat.ble (n + m) c then (match base with
          | some ⟨a, off, none⟩ => match h.get a with
            | some (.cells cs e' true) => bif Nat.ble (off + (n + m) * i.size) cs.length then
                some (.slice (some ⟨a, off, none⟩) (n + m) c, h.put a (.cells (splice cs (off + n * i.size) vs) e' true)) else none
            | _ => none
          | _ => none)
        else (match base with
          | none => bif Nat.beq n 0 && Nat.beq c 0 then some (.slice (some ⟨h.next, 0, none⟩) m m, h.new (.cells vs e true)) else none
          | some ⟨a, 0, none⟩ => bif Nat.beq n 0 && Nat.beq c 0 then some (.slice (some ⟨h.next, 0, none⟩) m m, h.new (.cells vs e true)) else (match h.get a with
            | some (.cells cs e' true) => bif Nat.ble (n * i.size) cs.length && Nat.beq e' e && Nat.ble 1 c then
                some (.slice (some ⟨h.next, 0, none⟩) (n + m) (n + m), (h.drop a).new (.cells (cs.take (n * i.size) ++ vs) e true)) else none
            | _ => none)
          | _ => none)
    | _, _ => none
  | _, _, _ => none
def copyV (t : TypeId) (d x : Value) (h : AH) : Option (Value × AH) :=
  match P.underlying t, d with
  | some (.slice e), .slice base n _ => match P.info? e, (match x with | .slice _ m _ => some m | .string s => some s.size | _ => none) with
    | some i, some m =>
      bif Nat.beq i.size 1 then
      (bif Nat.beq (min m n) 0 then some (.int .i64 0, h) else
      match base with
      | some ⟨a, off, none⟩ => match h.get a with
        | some (.cells cs e' true) => match (match x with
            | .slice _ _ _ => newsV x 1 (min m n) h
            | .string s => some ((s.data.toList.take n).map fun (b : UInt8) => Value.int .u8 (b.toNat : Int))
            | _ => none) with
          | some vs => bif Nat.ble (off + vs.length) cs.length && vs.all Value.oneCell' && Nat.beq vs.length (min m n) then some (.int .i64 vs.length, h.put a (.cells (splice cs off vs) e' true)) else none
          | none => none
        | _ => none
      | _ => none)
      else none
    | _, _ => none
  | _, _ => none
def evW (o : Oper) (e : Operand → Value) (h : AH) : Option (Value × AH) :=
  match o.op with
  | .store t a x => match storeV P t (e a) (e x) h with
    | some h' => some (undef, h')
    | none => none
  | .mapUpdate t m k x => match mapUpdV P t (e m) (e k) (e x) h with
    | some h' => some (undef, h')
    | none => none
  | .call ⟨.builtin .append, args, ts⟩ => match args.toList, ts.toList with
    | [s, x], [t, t'] => bif Nat.beq t t' then appendV P t (e s) (e x) h else none
    | _, _ => none
  | .call ⟨.builtin .copy, args, ts⟩ => match args.toList, ts.toList with
    | [s, x], [t, _] => copyV P t (e s) (e x) h
    | _, _ => none
  | .call ⟨.builtin .delete, args, ts⟩ => match args.toList, ts.toList with
    | [m, k], t :: _ => match mapDelV P t (e m) (e k) h with
      | some h' => some (.tuple #[], h')
      | none => none
    | _, _ => none
  | _ => none
end
section
variable {P : Program} [ObjSem P] {C : Cfg} {ρ : Rho} {w : World}
theorem splice_rel {c vs vs' : List Value} {c' : List Value} {off : Nat} (hc : RP ρ c c') (hv : RL ρ vs vs') (hl : off + vs.length ≤ c.length) :
    RP ρ (splice c off vs) (splice c' off vs') := by
  unfold splice
  have h1 := hc.take off (by omega)
  have h2 := h1.append hv
  rw [show vs'.length = vs.length from hv.1.symm]
  exact h2.appendP (hc.drop _)
theorem splice_length {c vs : List Value} {off : Nat} (hl : off + vs.length ≤ c.length) : (splice c off vs).length = c.length := by
  unfold splice; simp; omega
theorem oneCell_rel {vs vs' : List Value} (hv : RL ρ vs vs') (h : vs.all Value.oneCell' = true) : ∀ v ∈ vs', v.oneCell' = true := by
  intro v hm
  obtain ⟨i, hi⟩ := List.mem_iff_getElem?.1 hm
  have hlt : i < vs.length := by rw [hv.1]; exact (List.getElem?_eq_some_iff.1 hi).1
  obtain ⟨v', e', r⟩ := hv.2 i vs[i] (by simp [hlt])
  rw [hi] at e'; cases e'
  rw [r.oneCell]
  exact List.all_eq_true.1 h _ (by simp)
theorem write_cells {a b l : Nat} {c : List Value} {e : TypeId} {off : Nat} {vs vs' : List Value} {h : AH} (s : Sim P ρ h w) (hg : h.get a = some (.cells c e true)) (hρ : ρ a = some (b, l))
    (hv : RL ρ vs vs') (hl : off + vs.length ≤ c.length) (h1 : vs.all Value.oneCell' = true) :
    ∃ w', (storeCells ⟨b, off, none⟩ vs').run P w = .ok () w' ∧ Step P ρ h w ρ (h.put a (.cells (splice c off vs) e true)) w' := by
  obtain ⟨b2, l2, o', hρ2, hw, ho⟩ := s.blk a _ hg
  rw [hρ] at hρ2; cases hρ2
  cases o' with
  | cells c' e' fr =>
    obtain ⟨rfl, hp, hlim, hfr⟩ := ho
    have hfr := hfr rfl; subst hfr
    have hcl := hp.length
    have hvl := hv.1
    have hst := run_storeCells_at P b off e' vs' 0 c' w hw (by simp at hcl; omega) (oneCell_rel hv h1)
    refine ⟨_, hst, Step.write s hg rfl hρ _ rfl (.cells (splice c'.toList off vs').toArray e' (0, 0)) ?_ _ ?_ ?_ (size_setRow _ _ _) rfl rfl rfl⟩
    · refine ⟨rfl, ?_, ?_, fun _ => rfl⟩
      · simpa using splice_rel hp hv hl
      · have : (splice c'.toList off vs').length = c'.toList.length := splice_length (by simp at hcl ⊢; omega)
        simp at this ⊢; omega
    · have := setRow_heap w b c' (splice c'.toList off vs').toArray e' (0, 0) hw
      simpa [splice] using this
    · intro k hk
      exact setRow_other w b k _ (by omega)
  | _ => simp [RObj] at ho
theorem storeV_run {t : TypeId} {x x' v v' : Value} {h h' : AH} (hs : storeV P t x v h = some h') (hx : R ρ x x') (hv : R ρ v v') (s : Sim P ρ h w) :
    ∃ w', (Instr.storeAt t x' v').run P w = .ok () w' ∧ Step P ρ h w ρ h' w' := by
  unfold storeV at hs
  split at hs
  · rename_i a off
    cases hx with | ptr _ hρ =>
    rename_i b l
    split at hs
    · rename_i c e i hg hi
      cases hc : (Nat.beq v.cells.toList.length i.size && Nat.ble (off + i.size) c.length && v.cells.toList.all Value.oneCell') with
      | false => rw [hc] at hs; cases hs
      | true =>
        rw [hc] at hs; cases hs
        rw [Bool.and_eq_true, Bool.and_eq_true] at hc
        obtain ⟨⟨h1, h2⟩, h3⟩ := hc
        have h1 := beq_true h1
        have h2 := Nat.le_of_ble_eq_true h2
        have hvk : okCell v = true := by cases v <;> first | rfl | (simp [Value.cells, Value.oneCell'] at h3)
        obtain ⟨w', hr, st⟩ := write_cells (off := off) s hg hρ (hv.cells hvk) (by omega) h3
        refine ⟨w', ?_, st⟩
        have hsz : v'.cells.size = i.size := by have := (hv.cells hvk).1; simp at this h1; omega
        simp [Instr.storeAt, Instr.sureAddr, storeVar, run_size hi, hsz, hr]
    · cases hs
  · cases hs
theorem setBlock_map {r : Nat} {es : Array MapEntry} {clk : Nat} (o : Obj) (hw : w.heap[r]? = some (.map es clk)) : (setObj r o).run P w = .ok () { w with heap := w.heap.setIfInBounds r o } := by
  simp [setObj, Sem.run, hw]
theorem sameBits_plain {k : Value} {kt : TypeId} (h : keyFits P kt k = true) : Instr.sameBits 10000 k k = true := by
  unfold keyFits at h
  split at h <;> first | (cases h; done) | (simp [Instr.sameBits]; done) | (simp only [Instr.sameBits]; rw [beq_toListBytes]; simp)
theorem setE_get : ∀ (es : List (Value × Value × Nat)) (i j : Nat) (k v : Value), (setE es i k v)[j]? = if j = i then (es[i]?).map (fun e => (k, v, e.2.2)) else es[j]?
  | [], i, j, k, v => by simp [setE]
  | (a, b, c) :: r, 0, j, k, v => by cases j <;> simp [setE]
  | e :: r, i + 1, j, k, v => by
    cases j with
    | zero => simp [setE]
    | succ j => simp [setE, setE_get r i j k v]
theorem setE_length : ∀ (es : List (Value × Value × Nat)) (i : Nat) (k v : Value), (setE es i k v).length = es.length
  | [], i, k, v => by simp [setE]
  | e :: r, 0, k, v => by simp [setE]
  | e :: r, i + 1, k, v => by simp [setE, setE_length r i k v]
def ERel (ρ : Rho) (es : List (Value × Value × Nat)) (es' : Array MapEntry) : Prop :=
  es'.size = es.length ∧ ∀ (i : Nat) (e : Value × Value × Nat), es[i]? = some e → ∃ m : MapEntry, es'[i]? = some m ∧ plain1 e.1 = true ∧ m.key = e.1 ∧ m.born = e.2.2 ∧ R ρ e.2.1 m.val
theorem write_map {r b l : Nat} {es : List (Value × Value × Nat)} {clk : Nat} {es' : Array MapEntry} {h : AH} (s : Sim P ρ h w) (hg : h.get r = some (.map es clk)) (hρ : ρ r = some (b, l))
    (hw : w.heap[b]? = some (.map es' clk)) (es2 : List (Value × Value × Nat)) (es2' : Array MapEntry) (clk2 : Nat) (hr : ERel ρ es2 es2') :
    Step P ρ h w ρ (h.put r (.map es2 clk2)) { w with heap := w.heap.setIfInBounds b (.map es2' clk2) } := by
  have hb := (s.lt r b l hρ).2
  refine Step.write s hg rfl hρ (.map es2 clk2) rfl (.map es2' clk2) ⟨rfl, hr.1, hr.2⟩ _ ?_ ?_ ?_ rfl rfl rfl
  · simp [hb]
  · intro k hk
    simp only [Array.getElem?_setIfInBounds]
    rw [if_neg (by omega)]
  · simp
theorem modify_at {α : Type} (f : α → α) : ∀ (pre : List α) (m : α) (post : List α), (pre ++ m :: post).modify pre.length f = pre ++ f m :: post
  | [], m, post => by simp
  | x :: pre, m, post => by simp [modify_at f pre m post]
theorem write_pmap {r b l : Nat} {old : List MapEntry} {k0 : Value} {v0 : Option Value} {es' : Array MapEntry} {clk : Nat} {h : AH} (s : Sim P ρ h w) (hg : h.get r = some (.pmap old k0 v0)) (hρ : ρ r = some (b, l))
    (hw : w.heap[b]? = some (.map es' clk)) (v : Option Value) (es2' : Array MapEntry) (clk2 : Nat) (hr : PRel ρ old k0 v es2'.toList) :
    Step P ρ h w ρ (h.put r (.pmap old k0 v)) { w with heap := w.heap.setIfInBounds b (.map es2' clk2) } := by
  have hb := (s.lt r b l hρ).2
  refine Step.write s hg rfl hρ (.pmap old k0 v) rfl (.map es2' clk2) hr _ ?_ ?_ ?_ rfl rfl rfl
  · simp [hb]
  · intro k hk
    simp only [Array.getElem?_setIfInBounds]
    rw [if_neg (by omega)]
  · simp
theorem mapUpdV_run {t : TypeId} {m m' k k' v v' : Value} {h h' : AH} (hs : mapUpdV P t m k v h = some h') (hm : R ρ m m') (hk : R ρ k k') (hv : R ρ v v') (s : Sim P ρ h w) :
    ∃ w', (Instr.mapUpdate t m' k' v').run P w = .ok () w' ∧ Step P ρ h w ρ h' w' := by
  unfold mapUpdV at hs
  split at hs
  · rename_i kt et r hu
    cases hm with | map hρ =>
    rename_i b l
    split at hs
    · rename_i es clk hg
      cases hkf : keyFits P kt k with
      | false => rw [hkf] at hs; cases hs
      | true =>
        rw [hkf] at hs
        have := keyFits_eq hkf hk; subst this
        obtain ⟨d, hd, hdk⟩ := keyFits_desc hkf
        simp only [cond_true] at hs
        obtain ⟨b2, l2, o', hρ2, hw, ho⟩ := s.blk _ _ hg
        rw [hρ] at hρ2; cases hρ2
        cases o' with
        | map es' clk' =>
          obtain ⟨rfl, hl, hrel⟩ := ho
          have hck := checkKey_plain (P := P) (w := w) (empty := false) (n := 9999) hkf
          cases hle : lookE k' es 0 with
          | none => rw [hle] at hs; cases hs
          | some q =>
            rw [hle] at hs
            obtain ⟨r', hf, hmatch⟩ := lookE_find (ρ := ρ) hdk es es'.toList 0 q hle (by simpa using hl) (fun i e he => by
              obtain ⟨mm, q1, q2⟩ := hrel i e he
              exact ⟨mm, by simpa using q1, q2⟩)
            have hfk : (Instr.findKey kt k' es'.toList).run P w = .ok r' w := by simp [Instr.findKey, run_underlying hd, hf]
            cases q with
            | none =>
              cases r' with
              | some q => exact hmatch.elim
              | none =>
                cases hs
                refine ⟨_, ?_, write_map s hg hρ hw _ (es'.push { key := k', val := v', born := clk' }) _ ?_⟩
                · simp [Instr.mapUpdate, run_underlying hu, run_getMap hw, hck, hfk, setBlock_map _ hw]
                · refine ⟨by simp [hl], fun i e he => ?_⟩
                  rw [List.getElem?_append] at he
                  split at he
                  · rename_i hi
                    obtain ⟨mm, q1, q2⟩ := hrel i e he
                    refine ⟨mm, ?_, q2⟩
                    rw [Array.getElem?_push, if_neg (by omega)]; exact q1
                  · rename_i hi
                    have hi2 : i = es.length := by
                      rcases Nat.lt_or_ge i (es.length + 1) with h3 | h3
                      · omega
                      · rw [List.getElem?_eq_none (by simp; omega)] at he; cases he
                    subst hi2
                    simp at he; subst he
                    refine ⟨{ key := k', val := v', born := clk' }, ?_, keyFits_plain hkf, rfl, rfl, hv⟩
                    rw [Array.getElem?_push, if_pos hl.symm]
            | some p =>
              obtain ⟨i, vv⟩ := p
              cases r' with
              | none => exact hmatch.elim
              | some q' =>
                obtain ⟨i', vv'⟩ := q'
                obtain ⟨hii, hvv, _, hilt, e0, he0, hek⟩ := hmatch
                subst hii
                cases hs
                simp only [Nat.sub_zero] at he0
                obtain ⟨m0, hm0, _, hm0k, hm0b, _⟩ := hrel i' e0 he0
                have hstay : (Instr.keyThatStays (((es'[i']?).map (·.key)).getD k') k').run P w = .ok k' w := by
                  rw [hm0]
                  simp only [Option.map_some, Option.getD_some, hm0k, hek]
                  simp [Instr.keyThatStays, sameBits_plain hkf]
                refine ⟨_, ?_, write_map s hg hρ hw _ (es'.modify i' fun e => { e with key := k', val := v' }) _ ?_⟩
                · simp only [Instr.mapUpdate, Sem.run_bind, run_underlying hu, Result.andThen_ok, run_getMap hw, hck, hfk, hstay, setBlock_map _ hw]
                · refine ⟨by simp [hl, setE_length], fun j e he => ?_⟩
                  rw [setE_get] at he
                  rw [Array.getElem?_modify]
                  split at he
                  · rename_i hj
                    subst hj
                    rw [he0] at he; simp at he; subst he
                    rw [if_pos rfl, hm0]
                    exact ⟨_, rfl, keyFits_plain hkf, rfl, hm0b, hv⟩
                  · rename_i hj
                    rw [if_neg (by omega)]
                    exact hrel j e he
        | _ => simp [RObj] at ho
    · rename_i old k0 v0 hg
      cases hkf : keyFits P kt k with
      | false => rw [hkf] at hs; cases hs
      | true =>
        rw [hkf] at hs
        have := keyFits_eq hkf hk; subst this
        obtain ⟨d, hd, hdk⟩ := keyFits_desc hkf
        simp only [cond_true] at hs
        obtain ⟨b2, l2, o', hρ2, hw, ho⟩ := s.blk _ _ hg
        rw [hρ] at hρ2; cases hρ2
        split at hs
        case h_2 => cases hs
        rename_i hb
        cases hs
        cases o' with
        | map es' clk' =>
          have hck := checkKey_plain (P := P) (w := w) (empty := false) (n := 9999) hkf
          have hfnd := PRel.find hdk hb ho
          have hold := ho.1
          have hkk := (keyB_eq hb).1; subst hkk
          cases v0 with
          | none =>
            obtain ⟨hf, hes⟩ := hfnd
            have hfk : (Instr.findKey kt k0 es'.toList).run P w = .ok none w := by simp [Instr.findKey, run_underlying hd, hf]
            refine ⟨_, ?_, write_pmap s hg hρ hw (some v) (es'.push { key := k0, val := v', born := clk' }) (clk' + 1) ⟨hold, old, [], { key := k0, val := v', born := clk' }, by simp [hes], by simp, rfl, hv⟩⟩
            simp [Instr.mapUpdate, run_underlying hu, run_getMap hw, hck, hfk, setBlock_map _ hw]
          | some x =>
            obtain ⟨pre, post, m0, h1, h2, h3, h4, h5⟩ := hfnd
            have hfk : (Instr.findKey kt k0 es'.toList).run P w = .ok (some (pre.length, m0.val)) w := by simp [Instr.findKey, run_underlying hd, h5]
            have hat : es'[pre.length]? = some m0 := by rw [← Array.getElem?_toList, h1]; simp
            have hstay : (Instr.keyThatStays (((es'[pre.length]?).map (·.key)).getD k0) k0).run P w = .ok k0 w := by
              rw [hat]
              simp only [Option.map_some, Option.getD_some, h3]
              simp [Instr.keyThatStays, sameBits_plain hkf]
            refine ⟨_, ?_, write_pmap s hg hρ hw (some v) (es'.modify pre.length fun e => { e with key := k0, val := v' }) clk' ⟨hold, pre, post, { m0 with key := k0, val := v' }, ?_, h2, rfl, hv⟩⟩
            · simp only [Instr.mapUpdate, Sem.run_bind, run_underlying hu, Result.andThen_ok, run_getMap hw, hck, hfk, hstay, setBlock_map _ hw]
            · rw [Array.toList_modify, h1]
              exact modify_at _ pre m0 post
        | _ => simp [RObj] at ho
    · cases hs
  · cases hs
theorem mapDelV_run {t : TypeId} {ts : List TypeId} {ty : TypeId} {m m' k k' : Value} {h h' : AH} (hs : mapDelV P t m k h = some h') (hm : R ρ m m') (hk : R ρ k k') (s : Sim P ρ h w) :
    ∃ w', (Builtin.delete_ (t :: ts).toArray ty #[m', k']).run P w = .ok (.tuple #[]) w' ∧ Step P ρ h w ρ h' w' := by
  unfold mapDelV at hs
  split at hs
  · rename_i kt et r hu
    cases hm with | map hρ =>
    rename_i b l
    split at hs
    · rename_i es clk hg
      cases hkf : keyFits P kt k with
      | false => rw [hkf] at hs; cases hs
      | true =>
        rw [hkf] at hs
        have := keyFits_eq hkf hk; subst this
        obtain ⟨d, hd, hdk⟩ := keyFits_desc hkf
        simp only [cond_true] at hs
        obtain ⟨b2, l2, o', hρ2, hw, ho⟩ := s.blk _ _ hg
        rw [hρ] at hρ2; cases hρ2
        cases o' with
        | map es' clk' =>
          obtain ⟨rfl, hl, hrel⟩ := ho
          have hck := checkKey_plain (P := P) (w := w) (empty := es'.isEmpty) (n := 9999) hkf
          cases hle : lookE k' es 0 with
          | none => rw [hle] at hs; cases hs
          | some q =>
            rw [hle] at hs
            obtain ⟨r', hf, hmatch⟩ := lookE_find (ρ := ρ) hdk es es'.toList 0 q hle (by simpa using hl) (fun i e he => by
              obtain ⟨mm, q1, q2⟩ := hrel i e he
              exact ⟨mm, by simpa using q1, q2⟩)
            have hfk : (Instr.findKey kt k' es'.toList).run P w = .ok r' w := by simp [Instr.findKey, run_underlying hd, hf]
            cases q with
            | none =>
              cases r' with
              | some q => exact hmatch.elim
              | none =>
                cases hs
                refine ⟨_, ?_, write_map s hg hρ hw _ es' _ ⟨hl, hrel⟩⟩
                simp [Builtin.delete_, run_underlying hu, run_getMap hw, hck, hfk, setBlock_map _ hw]
            | some p =>
              obtain ⟨i, vv⟩ := p
              cases r' with
              | none => exact hmatch.elim
              | some q' =>
                obtain ⟨i', vv'⟩ := q'
                obtain ⟨hii, hvv, _, hilt, e0, he0, hek⟩ := hmatch
                subst hii
                cases hs
                simp only [Nat.zero_add] at hilt
                refine ⟨_, ?_, write_map s hg hρ hw _ (es'.eraseIdxIfInBounds i') _ ?_⟩
                · simp [Builtin.delete_, run_underlying hu, run_getMap hw, hck, hfk, setBlock_map _ hw]
                · have hb : i' < es'.size := by omega
                  have hers : (es'.eraseIdxIfInBounds i').toList = es'.toList.eraseIdx i' := by simp [Array.eraseIdxIfInBounds, hb]
                  refine ⟨?_, fun j e he => ?_⟩
                  · have h9 := congrArg List.length hers
                    rw [Array.length_toList, List.length_eraseIdx, if_pos (by simpa using hb), Array.length_toList] at h9
                    rw [h9, List.length_eraseIdx, if_pos hilt]; omega
                  · rw [List.getElem?_eraseIdx] at he
                    rw [← Array.getElem?_toList, hers, List.getElem?_eraseIdx]
                    split at he
                    · rename_i hj
                      rw [if_pos hj, Array.getElem?_toList]; exact hrel j e he
                    · rename_i hj
                      rw [if_neg hj, Array.getElem?_toList]; exact hrel (j + 1) e he
        | _ => simp [RObj] at ho
    · rename_i old k0 v0 hg
      cases hkf : keyFits P kt k with
      | false => rw [hkf] at hs; cases hs
      | true =>
        rw [hkf] at hs
        have := keyFits_eq hkf hk; subst this
        obtain ⟨d, hd, hdk⟩ := keyFits_desc hkf
        simp only [cond_true] at hs
        obtain ⟨b2, l2, o', hρ2, hw, ho⟩ := s.blk _ _ hg
        rw [hρ] at hρ2; cases hρ2
        split at hs
        case h_2 => cases hs
        rename_i hb
        cases hs
        cases o' with
        | map es' clk' =>
          have hck := checkKey_plain (P := P) (w := w) (empty := es'.isEmpty) (n := 9999) hkf
          have hfnd := PRel.find hdk hb ho
          have hold := ho.1
          have hkk := (keyB_eq hb).1; subst hkk
          cases v0 with
          | none =>
            obtain ⟨hf, hes⟩ := hfnd
            have hfk : (Instr.findKey kt k0 es'.toList).run P w = .ok none w := by simp [Instr.findKey, run_underlying hd, hf]
            refine ⟨_, ?_, write_pmap s hg hρ hw none es' clk' ⟨hold, hes⟩⟩
            simp [Builtin.delete_, run_underlying hu, run_getMap hw, hck, hfk, setBlock_map _ hw]
          | some x =>
            obtain ⟨pre, post, m0, h1, h2, h3, h4, h5⟩ := hfnd
            have hfk : (Instr.findKey kt k0 es'.toList).run P w = .ok (some (pre.length, m0.val)) w := by simp [Instr.findKey, run_underlying hd, h5]
            have hlt : pre.length < es'.size := by
              have := congrArg List.length h1
              simp at this; omega
            refine ⟨_, ?_, write_pmap s hg hρ hw none (es'.eraseIdxIfInBounds pre.length) clk' ⟨hold, ?_⟩⟩
            · simp [Builtin.delete_, run_underlying hu, run_getMap hw, hck, hfk, setBlock_map _ hw]
            · have hers : (es'.eraseIdxIfInBounds pre.length).toList = es'.toList.eraseIdx pre.length := by simp [Array.eraseIdxIfInBounds, hlt]
              show (es'.eraseIdxIfInBounds pre.length).toList = old
              rw [hers, h1, h2, List.eraseIdx_append_of_length_le (Nat.le_refl _)]
              simp
        | _ => simp [RObj] at ho
    · cases hs
  · cases hs
theorem newsV_cells {x x' : Value} {size m : Nat} {h : AH} {a : Option Addr} {c : Nat} {vs : List Value} (hx0 : x = .slice a m c) (hn : newsV x size m h = some vs) (hx : R ρ x x') (s : Sim P ρ h w) (hm : 0 < m) :
    ∃ b off c', x' = .slice (some ⟨b, off, none⟩) m c' ∧ vs.length = m * size ∧ ∃ vs', RL ρ vs vs' ∧ ∀ j u, vs'[j]? = some u → w.cell? ((⟨b, off, none⟩ : Addr).add j) = some u := by
  subst hx0
  unfold newsV at hn
  split at hn
  · rename_i a2 off2 n2 c2 heq
    cases heq
    split at hn
    · rename_i cc e rw hg
      cases hc : Nat.ble (off2 + m * size) cc.length with
      | false => rw [hc] at hn; cases hn
      | true =>
        rw [hc] at hn; cases hn
        have hc := Nat.le_of_ble_eq_true hc
        obtain ⟨b, l, o', hρ, hw, ho⟩ := s.blk _ _ hg
        cases o' with
        | cells c' e' fr =>
          obtain ⟨rfl, hp, _, _⟩ := ho
          cases hx with
          | slice _ _ _ c3 hρ2 hcc hf hz =>
            rw [hρ] at hρ2; cases hρ2
            refine ⟨b, off2, c3, rfl, by simp; omega, (c'.toList.drop off2).take (m * size), (hp.drop off2).take _ (by simp; omega), fun j u hu => ?_⟩
            rw [add_at0, cell_of_row w b _ c' _ fr hw]
            rw [List.getElem?_take] at hu
            split at hu
            · rw [List.getElem?_drop] at hu; simpa using hu
            · cases hu
          | slice00 _ _ x => omega
        | _ => simp [RObj] at ho
    · cases hn
  · rename_i heq; cases heq
  · cases hn
def Rho.ren (ρ : Rho) (nm a b l : Nat) : Rho := ⟨fun k => if k = nm then some (b, l) else ρ k, fun k x => if k = nm then ρ.φ a x else ρ.φ k x⟩
theorem Step.adopt {a b l : Nat} {o0 : AObj} {h : AH} (s : Sim P ρ h w) (hg0 : h.get a = some o0) (hrw : o0.rw = true) (hρ : ρ a = some (b, l))
    (o : AObj) (ho : o.rw = true) (hm : ∀ m, o ≠ .mach m) (o' : Obj) (hr : RObj P ρ l o o') (w' : World) (hb : w'.heap[b]? = some o') (hot : ∀ k, k ≠ b → w'.heap[k]? = w.heap[k]?)
    (hsz : w'.heap.size = w.heap.size) (hos : w'.os = w.os) (htp : w'.tape = w.tape) (hou : w'.output = w.output) :
    Step P ρ h w (ρ.ren h.next a b l) ((h.drop a).new o) w' := by
  have hnone := s.fresh
  have hf : ∀ k, (ρ.ren h.next a b l) k = if k = h.next then some (b, l) else ρ k := fun _ => rfl
  have hφ : ∀ k x, (ρ.ren h.next a b l).φ k x ↔ if k = h.next then ρ.φ a x else ρ.φ k x := fun _ _ => Iff.rfl
  have hle : ρ.le (ρ.ren h.next a b l) := fun k p e => by
    have : k ≠ h.next := fun he => by rw [he, hnone] at e; cases e
    rw [hf, if_neg this]; exact e
  have ha : a < h.next := s.live_lt hg0
  have hnx : (h.drop a).next = h.next := rfl
  have hnew : ((h.drop a).new o).get h.next = some o := AH.get_new_same
  have hold : ∀ k q, k ≠ h.next → ((h.drop a).new o).get k = some q → h.get k = some q ∧ k ≠ a := fun k q hk hq => by
    rw [AH.get_new_ne (by rw [hnx]; exact hk)] at hq
    by_cases e : k = a
    · subst e; rw [AH.get_drop_same] at hq; cases hq
    · rw [AH.get_drop_ne e] at hq; exact ⟨hq, e⟩
  have hlive : ∀ k, k ≠ h.next → ((h.drop a).new o).get k ≠ none → h.get k ≠ none ∧ k ≠ a := fun k hk hn => by
    cases e : ((h.drop a).new o).get k with
    | none => exact absurd e hn
    | some q => obtain ⟨h1, h2⟩ := hold k q hk e; exact ⟨by rw [h1]; simp, h2⟩
  have hga : h.get a ≠ none := by rw [hg0]; simp
  have hφb := s.ow.own a o0 b l hg0 hrw hρ
  refine ⟨hle, ⟨?_, ?_, ⟨?_, ?_, ?_, ?_, ?_⟩, ?_⟩, ⟨Nat.le_succ _, Nat.le_succ _, ?_, ?_, ?_⟩, hos, htp, hou, Nat.le_of_eq hsz.symm, ?_, ?_, ?_⟩
  · intro k q hq
    rw [hf]
    by_cases e : k = h.next
    · subst e; rw [hnew] at hq; cases hq
      exact ⟨b, l, o', by simp, hb, hr.mono hle⟩
    · obtain ⟨h1, h2⟩ := hold k q e hq
      obtain ⟨b2, m, q', r1, r2, r3⟩ := s.blk k q h1
      refine ⟨b2, m, q', by simp [e, r1], ?_, r3.mono hle⟩
      rw [hot b2 ?_]; exact r2
      intro hbb; subst hbb
      exact h2 (s.inj a k b2 l m ⟨o0, hg0, hrw⟩ (by rw [h1]; simp) hρ r1).symm
  · intro k b2 m hk
    rw [hf] at hk
    rw [hsz]
    by_cases e : k = h.next
    · subst e; simp at hk; obtain ⟨rfl, rfl⟩ := hk
      exact ⟨Nat.lt_succ_self _, (s.lt a b l hρ).2⟩
    · simp [e] at hk
      have := s.lt k b2 m hk
      exact ⟨Nat.lt_succ_of_lt this.1, this.2⟩
  · intro k k' x h1 h2 h3 h4
    rw [hφ] at h3 h4
    simp only [hf] at h4
    by_cases e : k = h.next <;> by_cases e' : k' = h.next
    · rw [e, e']
    · exfalso
      simp only [e, e', if_true, if_false] at h3 h4
      obtain ⟨g1, g2⟩ := hlive k' e' h2
      exact g2 (s.ow.sep a k' x hga g1 h3 h4).symm
    · exfalso
      simp only [e, e', if_true, if_false] at h3 h4
      obtain ⟨g1, g2⟩ := hlive k e h1
      refine g2 (s.ow.sep k a x g1 hga h3 ?_)
      rcases h4 with h4 | ⟨m, h4⟩
      · exact .inl h4
      · cases h4; exact .inl hφb
    · simp only [e, e', if_false] at h3 h4
      exact s.ow.sep k k' x (hlive k e h1).1 (hlive k' e' h2).1 h3 h4
  · intro k q b2 m h1 h2 h3
    rw [hφ]; rw [hf] at h3
    by_cases e : k = h.next
    · simp only [e, if_true] at h3 ⊢; cases h3; exact hφb
    · simp only [e, if_false] at h3 ⊢; exact s.ow.own k q b2 m (hold k q e h1).1 h2 h3
  · intro k q x h1 h2 h3
    rw [hφ] at h3
    by_cases e : k = h.next
    · subst e; rw [hnew] at h1; cases h1; rw [ho] at h2; cases h2
    · simp only [e, if_false] at h3; exact s.ow.ro k q x (hold k q e h1).1 h2 h3
  · intro k x h1 h2
    rw [hφ] at h2
    have key : ∀ k', h.get k' ≠ none → ρ.φ k' x → ∃ o', w'.heap[x]? = some o' ∧ nd o' := fun k' g1 g2 => by
      by_cases ex : x = b
      · subst ex; exact ⟨o', hb, hr.nd⟩
      · rw [hot x ex]; exact s.ow.lt k' x g1 g2
    by_cases e : k = h.next
    · simp only [e, if_true] at h2; exact key a hga h2
    · simp only [e, if_false] at h2; exact key k (hlive k e h1).1 h2
  · intro k m b2 n h1 h2
    rw [hf] at h2
    by_cases e : k = h.next
    · subst e; rw [hnew] at h1; cases h1; exact absurd rfl (hm m)
    · simp only [e, if_false] at h2
      obtain ⟨g1, g2⟩ := hold k _ e h1
      have hφk : (ρ.ren h.next a b l).φ k = ρ.φ k := by
        funext x; exact propext (by rw [hφ, if_neg e])
      rw [hφk]
      refine ObjSem.loc m w w' b2 _ (s.ow.mach k m b2 n g1 h2) (Nat.le_of_eq hsz.symm) fun y hy => hot y ?_
      intro e2; subst e2
      exact g2 (s.ow.sep k a y (by rw [g1]; simp) hga hy (.inl hφb))
  · intro g hg
    obtain ⟨m, hm⟩ := s.glob g hg
    exact ⟨m, hle g _ hm⟩
  · intro k hn
    by_cases e : k = h.next
    · subst e; exact .inr ⟨Nat.le_refl _, Nat.lt_succ_self _⟩
    · exact .inl (hlive k e hn).1
  · intro k st q hf hs
    by_cases e : k = h.next
    · subst e
      rw [show ((h.drop a).new o).find h.next = some (h.clock, o) from AH.find_new_same] at hf; cases hf; omega
    · rw [AH.find_new_ne (by rw [hnx]; exact e)] at hf
      by_cases e2 : k = a
      · subst e2; rw [AH.find_drop_same] at hf; cases hf
      · rw [AH.find_drop_ne e2] at hf; exact hf
  · intro k q hk hq _; exact (hold k q (by omega) hq).1
  · intro k hk hno; refine hot k ?_; intro e; subst e; exact hno a hga hφb
  · intro k q b2 m hq hk _
    rw [hf] at hk
    by_cases e : k = h.next
    · subst e; simp at hk; obtain ⟨rfl, rfl⟩ := hk
      exact ⟨a, o0, l, hg0, hρ, fun _ => hrw⟩
    · simp [e] at hk; exact ⟨k, q, m, (hold k q e hq).1, hk, id⟩
  · intro k b2 hq hk _
    rw [hφ] at hk
    by_cases e : k = h.next
    · simp only [e, if_true] at hk; exact ⟨a, hga, hk⟩
    · simp only [e, if_false] at hk; exact ⟨k, (hlive k e hq).1, hk⟩
set_option maxHeartbeats 4000000 in
theorem appendV_run {t ty : TypeId} {x x' y y' v : Value} {h h' : AH} (hs : appendV P t x y h = some (v, h')) (hx : R ρ x x') (hy : R ρ y y') (s : Sim P ρ h w) :
    ∃ v' w' ρ', (Builtin.append_ #[t, t] ty #[x', y']).run P w = .ok v' w' ∧ R ρ' v v' ∧ Step P ρ h w ρ' h' w' := by
  unfold appendV at hs
  split at hs
  · rename_i e base n c xb m xc hu
    split at hs
    · rename_i i z hi hz
      obtain ⟨i', hi', hzi, hzp⟩ := zeroV_info hz
      rw [hi] at hi'; cases hi'
      cases hm0 : Nat.beq m 0 with
      | true =>
        rw [hm0] at hs
        simp only [cond_true] at hs
        cases hnc : Nat.ble n c with
        | false => rw [hnc] at hs; cases hs
        | true =>
        rw [hnc] at hs
        simp only [cond_true, Option.some.injEq, Prod.mk.injEq] at hs
        obtain ⟨rfl, rfl⟩ := hs
        have hnc := Nat.le_of_ble_eq_true hnc
        have hm0 := beq_true hm0
        subst hm0
        refine ⟨x', w, ρ, ?_, hx, Step.refl s⟩
        have hlen : (Builtin.lenOf y').run P w = .ok 0 w := by cases hy <;> simp [Builtin.lenOf]
        have hfc : (Builtin.firstCells i.size 0 y').run P w = .ok #[] w := by
          cases hy <;> first | (simp [Builtin.firstCells, loadCells, loadCellsFrom]; done) | (rename_i x; cases x <;> simp [Builtin.firstCells, loadCells, loadCellsFrom])
        have hle : ∀ (n c : Nat) (b : Option Addr), x' = .slice b n c → n ≤ c → (Builtin.append_ #[t, t] ty #[x', y']).run P w = .ok x' w := by
          intro n c b he hle
          subst he
          cases b <;> simp [Builtin.append_, run_underlying hu, run_size hi, hlen, hle, hfc, storeCells]
        cases hx with
        | nilSlice => exact hle _ _ _ rfl hnc
        | slice _ _ _ c2 hρ hc hf2 hz2 => exact hle _ _ _ rfl (by omega)
        | slice0 => exact hle _ _ _ rfl (Nat.zero_le _)
        | slice1 => exact hle _ _ _ rfl (Nat.zero_le _)
        | slice00 => exact hle _ _ _ rfl (Nat.zero_le _)
      | false =>
        rw [hm0] at hs
        have hm0 : 0 < m := by have := beq_false hm0; omega
        simp only [cond_false] at hs
        split at hs
        · cases hs
        · rename_i vs hnews
          split at hs
          · cases hs
          · rename_i hcond
            obtain ⟨hz0, hzs, h1, hbytes⟩ := Classical.not_not.1 hcond
            obtain ⟨yb, yoff, yc, rfl, hvl, vs', hvr, hvc⟩ := newsV_cells (P := P) (w := w) rfl hnews hy s hm0
            have hvl' : vs'.length = m * i.size := by rw [← hvr.1]; exact hvl
            have hf := run_firstCells_some (P := P) w i.size m ⟨yb, yoff, none⟩ m yc vs' hvl' hvc
            have hone := oneCell_rel hvr h1
            have hb0 : (n + m) * (i.bytes + 1) = (n + m) * i.bytes + (n + m) := by rw [Nat.mul_add, Nat.mul_one]
            have hby : (n + m) * i.bytes ≤ 1099511627776 ∧ n + m ≤ 1099511627776 := by omega
            cases hroom : Nat.ble (n + m) c with
            | true =>
              rw [hroom] at hs
              have hroom := Nat.le_of_ble_eq_true hroom
              simp only [cond_true] at hs
              split at hs
              · rename_i a off
                split at hs
                · rename_i cs e' hg
                  cases hfit : Nat.ble (off + (n + m) * i.size) cs.length with
                  | false => rw [hfit] at hs; cases hs
                  | true =>
                    rw [hfit] at hs
                    simp only [cond_true, Option.some.injEq, Prod.mk.injEq] at hs
                    obtain ⟨rfl, rfl⟩ := hs
                    have hfit := Nat.le_of_ble_eq_true hfit
                    have hnm : (n + m) * i.size = n * i.size + m * i.size := Nat.add_mul ..
                    cases hx with
                    | slice _ _ _ c2 hρ hc hf2 hz2 =>
                      rename_i b l
                      obtain ⟨w', hst, st⟩ := write_cells (off := off + n * i.size) s hg hρ hvr (by omega) h1
                      refine ⟨.slice (some ⟨b, off, none⟩) (n + m) c2, w', ρ, ?_, .slice _ _ _ _ hρ hc hf2 hz2, st⟩
                      have hr2 : n + m ≤ c2 := by omega
                      simp [Builtin.append_, run_underlying hu, run_size hi, Builtin.lenOf, hr2, hf, add_at0, hst]
                    | slice00 => omega
                · cases hs
              · cases hs
            | false =>
              rw [hroom] at hs
              have hroom : c < n + m := by
                rcases Nat.lt_or_ge c (n + m) with hh | hh
                · exact hh
                · rw [Nat.ble_eq_true_of_le hh] at hroom; cases hroom
              simp only [cond_false] at hs
              split at hs
              · cases hx
                cases hnc : (Nat.beq n 0 && Nat.beq c 0) with
                | false => rw [hnc] at hs; cases hs
                | true =>
                  rw [hnc] at hs
                  rw [Bool.and_eq_true] at hnc
                  have hn0 := beq_true hnc.1
                  have hc0 := beq_true hnc.2
                  subst hn0 hc0
                  simp only [cond_true, Option.some.injEq, Prod.mk.injEq] at hs
                  obtain ⟨rfl, rfl⟩ := hs
                  simp only [Nat.zero_add] at hby
                  have hr := run_append_nil (P := P) w t ty e i z hu hi hzi ⟨yb, yoff, none⟩ m yc vs' hvl' hvc hm0 (by omega) (by omega)
                  have hge := grownCap_ge w m 0 e
                  have hzs' : z.cells.size = i.size := by simpa using hzs
                  refine ⟨_, _, _, hr, ?_, (Step.alloc (s.draw (w' := w.drew) rfl) (.cells vs e true) _ (grownCap w m 0 e) ?_).drawL rfl rfl rfl rfl⟩
                  · exact .slice (b := w.heap.size) (l := grownCap w m 0 e) 0 m m _ (by simp [Rho.add_f]) hge (fun _ => .inr (Nat.le_refl _)) (.inl hm0)
                  · refine ⟨rfl, ?_, ?_, fun _ => rfl⟩
                    · have := hvr.appendP (us := []) (vs := (Builtin.zeroCells z.cells (grownCap w m 0 e - m)).toList) (fun i v e => by simp at e)
                      simpa using this
                    · rw [cellsOf_info hi]
                      simp only [Array.size_append, List.size_toArray, size_zeroCells, hvl', hzs', ← Nat.add_mul]
                      exact Nat.mul_le_mul_right _ (by omega)
              · rename_i a
                cases hnc : (Nat.beq n 0 && Nat.beq c 0) with
                | true =>
                  rw [hnc] at hs
                  rw [Bool.and_eq_true] at hnc
                  have hn0 := beq_true hnc.1
                  have hc0 := beq_true hnc.2
                  subst hn0 hc0
                  simp only [cond_true, Option.some.injEq, Prod.mk.injEq] at hs
                  obtain ⟨rfl, rfl⟩ := hs
                  simp only [Nat.zero_add] at hby
                  have hr : (Builtin.append_ #[t, t] ty #[x', .slice (some ⟨yb, yoff, none⟩) m yc]).run P w = .ok (.slice (some ⟨w.heap.size, 0, none⟩) m (grownCap w m 0 e)) (w.drew.alloc (.cells (vs'.toArray ++ Builtin.zeroCells z.cells (grownCap w m 0 e - m)) e)) := by
                    have hgo : ∀ b : Addr, (Builtin.append_ #[t, t] ty #[.slice (some b) 0 0, .slice (some ⟨yb, yoff, none⟩) m yc]).run P w = .ok (.slice (some ⟨w.heap.size, 0, none⟩) m (grownCap w m 0 e)) (w.drew.alloc (.cells (vs'.toArray ++ Builtin.zeroCells z.cells (grownCap w m 0 e - m)) e)) := fun b => by
                      have hq := run_append_grow (P := P) w t ty e i z hu hi hzi b 0 0 [] (by simp) (fun j v hj => by simp at hj) ⟨yb, yoff, none⟩ m yc vs' hvl' hvc (by omega) (by omega) (growslice_fits (by omega) (by omega))
                      simpa using hq
                    cases hx with
                    | slice00 _ _ x =>
                      cases x with
                      | none => exact run_append_nil (P := P) w t ty e i z hu hi hzi ⟨yb, yoff, none⟩ m yc vs' hvl' hvc hm0 (by omega) (by omega)
                      | some b => exact hgo b
                    | slice _ _ _ c2 hρ hc hf2 hz2 =>
                      have hc2 : c2 = 0 := by omega
                      subst hc2
                      exact hgo _
                  have hge := grownCap_ge w m 0 e
                  have hzs' : z.cells.size = i.size := by simpa using hzs
                  refine ⟨_, _, _, hr, ?_, (Step.alloc (s.draw (w' := w.drew) rfl) (.cells vs e true) _ (grownCap w m 0 e) ?_).drawL rfl rfl rfl rfl⟩
                  · exact .slice (b := w.heap.size) (l := grownCap w m 0 e) 0 m m _ (by simp [Rho.add_f]) hge (fun _ => .inr (Nat.le_refl _)) (.inl hm0)
                  · refine ⟨rfl, ?_, ?_, fun _ => rfl⟩
                    · have := hvr.appendP (us := []) (vs := (Builtin.zeroCells z.cells (grownCap w m 0 e - m)).toList) (fun i v e => by simp at e)
                      simpa using this
                    · rw [cellsOf_info hi]
                      simp only [Array.size_append, List.size_toArray, size_zeroCells, hvl', hzs', ← Nat.add_mul]
                      exact Nat.mul_le_mul_right _ (by omega)
                | false =>
                rw [hnc] at hs
                simp only [cond_false] at hs
                clear hnc
                split at hs
                · rename_i cs e' hg
                  cases hnc : (Nat.ble (n * i.size) cs.length && Nat.beq e' e && Nat.ble 1 c) with
                  | false => rw [hnc] at hs; cases hs
                  | true =>
                    rw [hnc] at hs
                    rw [Bool.and_eq_true, Bool.and_eq_true] at hnc
                    have hlen := Nat.le_of_ble_eq_true hnc.1.1
                    have hee := beq_true hnc.1.2
                    subst hee
                    have hc1 := Nat.le_of_ble_eq_true hnc.2
                    simp only [cond_true, Option.some.injEq, Prod.mk.injEq] at hs
                    obtain ⟨rfl, rfl⟩ := hs
                    cases hx with
                    | slice00 => omega
                    | slice _ _ _ c2 hρ hc hf2 hz2 =>
                      rename_i b l
                      obtain ⟨b2, l2, o', hρ2, hw, ho⟩ := s.blk _ _ hg
                      rw [hρ] at hρ2; cases hρ2
                      cases o' with
                      | cells c' e2 fr =>
                        obtain ⟨rfl, hp, hlim, hfr⟩ := ho
                        have hfr := hfr rfl; subst hfr
                        have hold := hp.take (n * i.size) hlen
                        have hcl := hp.length
                        have hol : (c'.toList.take (n * i.size)).length = n * i.size := by have := hold.1; simp at this hlen ⊢; omega
                        have hRL := hold.append hvr
                        rw [cellsOf_info hi] at hlim
                        by_cases hin : n + m ≤ c2
                        · have hcl2 : c2 ≤ l := by rcases hf2 rfl with h9 | h9 <;> omega
                          have hfit : (n + m) * i.size ≤ c'.size := Nat.le_trans (Nat.mul_le_mul_right _ (by omega)) hlim
                          have hnm : (n + m) * i.size = n * i.size + m * i.size := Nat.add_mul ..
                          have hr := run_append_room (P := P) w t ty e2 i hu hi b n c2 c' hw ⟨yb, yoff, none⟩ m yc vs' hvl' hvc hone hin (by omega)
                          refine ⟨_, _, _, hr, ?_, Step.adopt s hg rfl hρ _ rfl (by intro m hm; cases hm) (.cells (c'.toList.take (n * i.size) ++ vs' ++ c'.toList.drop (n * i.size + vs'.length)).toArray e2 (0, 0)) ?_ _ ?_ ?_ (size_setRow _ _ _) rfl rfl rfl⟩
                          · exact .slice (b := b) (l := l) 0 (n + m) (n + m) c2 (by simp [Rho.ren]) hin (fun _ => .inr hcl2) (.inl (by omega))
                          · refine ⟨rfl, ?_, ?_, fun _ => rfl⟩
                            · have := hRL.appendP (us := []) (vs := c'.toList.drop (n * i.size + vs'.length)) (fun i v e => by simp at e)
                              simpa using this
                            · rw [cellsOf_info hi]
                              simp at hol ⊢; omega
                          · exact setRow_heap w b c' _ e2 (0, 0) hw
                          · intro k hk; exact setRow_other w b k _ (by omega)
                        · have hcells : ∀ j u, (c'.toList.take (n * i.size))[j]? = some u → w.cell? ((⟨b, 0, none⟩ : Addr).add j) = some u := fun j u hu2 => by
                            rw [add_at0, cell_of_row w b _ c' _ (0, 0) hw]
                            rw [List.getElem?_take] at hu2
                            split at hu2
                            · simpa using hu2
                            · cases hu2
                          have hr := run_append_grow (P := P) w t ty e2 i z hu hi hzi ⟨b, 0, none⟩ n c2 _ hol hcells ⟨yb, yoff, none⟩ m yc vs' hvl' hvc (by omega) (by omega) (growslice_fits (by omega) (by omega))
                          have hge := grownCap_ge w (n + m) c2 e2
                          have hzs' : z.cells.size = i.size := by simpa using hzs
                          refine ⟨_, _, _, hr, ?_, (Step.drop s a).trans ((Step.alloc (h := h.drop a) ((Step.drop s a).sim.draw (w' := w.drew) rfl) (.cells (cs.take (n * i.size) ++ vs) e2 true) _ (grownCap w (n + m) c2 e2) ?_).drawL rfl rfl rfl rfl)⟩
                          · exact .slice (b := w.heap.size) (l := grownCap w (n + m) c2 e2) 0 (n + m) (n + m) _ (by simp [AH.drop, Rho.add_f]) hge (fun _ => .inr (Nat.le_refl _)) (.inl (by omega))
                          · refine ⟨rfl, ?_, ?_, fun _ => rfl⟩
                            · have := hRL.appendP (us := []) (vs := (Builtin.zeroCells z.cells (grownCap w (n + m) c2 e2 - (n + m))).toList) (fun i v e => by simp at e)
                              simpa using this
                            · rw [cellsOf_info hi]
                              simp only [Array.size_append, List.size_toArray, size_zeroCells, hvl', hzs', hol, ← Nat.add_mul]
                              exact Nat.mul_le_mul_right _ (by omega)
                      | _ => simp [RObj] at ho
                · cases hs
              · cases hs
    · cases hs
  · cases hs
theorem take_map_bytes (s : ByteArray) (n : Nat) : ((s.extract 0 n).data.map fun (b : UInt8) => Value.int .u8 (b.toNat : Int)).toList = (s.data.toList.take n).map fun (b : UInt8) => Value.int .u8 (b.toNat : Int) := by
  simp [ByteArray.data_extract]
theorem plain_bytes (bs : List UInt8) : (bs.map fun (b : UInt8) => Value.int .u8 (b.toNat : Int)).all plain1 = true := by
  simp [plain1]
set_option maxHeartbeats 4000000 in
theorem copyV_run {t t2 ty : TypeId} {x x' y y' v : Value} {h h' : AH} (hs : copyV P t x y h = some (v, h')) (hx : R ρ x x') (hy : R ρ y y') (s : Sim P ρ h w) :
    ∃ w', (Builtin.copy_ #[t, t2] ty #[x', y']).run P w = .ok v w' ∧ plain1 v = true ∧ Step P ρ h w ρ h' w' := by
  unfold copyV at hs
  split at hs
  · rename_i e base n c hu
    split at hs
    · rename_i i m hi hm
      cases hi1 : Nat.beq i.size 1 with
      | false => rw [hi1] at hs; cases hs
      | true =>
        rw [hi1] at hs
        have hi1 := beq_true hi1
        simp only [cond_true] at hs
        have hlen : (Builtin.lenOf y').run P w = .ok m w := by
          split at hm
          · cases hm; cases hy <;> simp [Builtin.lenOf]
          · cases hm; cases hy; simp [Builtin.lenOf]
          · cases hm
        have hx2 : ∃ b c', x' = .slice b n c' := by cases hx <;> exact ⟨_, _, rfl⟩
        cases h0 : Nat.beq (min m n) 0 with
        | true =>
          rw [h0] at hs
          simp only [cond_true, Option.some.injEq, Prod.mk.injEq] at hs
          obtain ⟨rfl, rfl⟩ := hs
          have h0 := beq_true h0
          refine ⟨w, ?_, rfl, Step.refl s⟩
          obtain ⟨b, c', rfl⟩ := hx2
          have hfc : (Builtin.firstCells 1 0 y').run P w = .ok #[] w := by
            split at hm
            · cases hy <;> first | (simp [Builtin.firstCells, loadCells, loadCellsFrom]; done) | (rename_i x; cases x <;> simp [Builtin.firstCells, loadCells, loadCellsFrom])
            · cases hy; simp [Builtin.firstCells]
            · cases hm
          have h0' : Nat.min m n = 0 := h0
          cases b <;> simp [Builtin.copy_, run_underlying hu, run_size hi, hi1, hlen, h0', hfc, storeCells, goInt]
        | false =>
          rw [h0] at hs
          have h0 := beq_false h0
          simp only [cond_false] at hs
          split at hs
          · rename_i a off
            split at hs
            · rename_i cs e' hg
              split at hs
              · rename_i vs hvs
                cases hc3 : (Nat.ble (off + vs.length) cs.length && vs.all Value.oneCell' && Nat.beq vs.length (min m n)) with
                | false => rw [hc3] at hs; cases hs
                | true =>
                  rw [hc3] at hs
                  simp only [cond_true, Option.some.injEq, Prod.mk.injEq] at hs
                  obtain ⟨rfl, rfl⟩ := hs
                  rw [Bool.and_eq_true, Bool.and_eq_true] at hc3
                  have hfit := Nat.le_of_ble_eq_true hc3.1.1
                  have hone := hc3.1.2
                  have hvl := beq_true hc3.2
                  have hn0 : 0 < n := by omega
                  have hsrc : ∃ vs', RL ρ vs vs' ∧ (Builtin.firstCells 1 (min m n) y').run P w = .ok vs'.toArray w := by
                    split at hvs
                    · rename_i xb m2 xc
                      simp only [Option.some.injEq] at hm
                      subst hm
                      unfold newsV at hvs
                      split at hvs
                      · rename_i a2 off2 n2 c2 heq
                        cases heq
                        split at hvs
                        · rename_i cc e2 rw2 hg2
                          cases hcc : Nat.ble (off2 + min m2 n * 1) cc.length with
                          | false => rw [hcc] at hvs; cases hvs
                          | true =>
                            rw [hcc] at hvs; cases hvs
                            have hcc := Nat.le_of_ble_eq_true hcc
                            obtain ⟨b, l, o', hρ, hw, ho⟩ := s.blk _ _ hg2
                            cases o' with
                            | cells c' e' fr =>
                              obtain ⟨rfl, hp, _, _⟩ := ho
                              have hrl := (hp.drop off2).take (min m2 n * 1) (by simp; omega)
                              refine ⟨_, hrl, ?_⟩
                              cases hy with
                              | slice _ _ _ c3 hρ2 hcc3 hf hz =>
                                rw [hρ] at hρ2; cases hρ2
                                refine run_firstCells_some (P := P) w 1 (min m2 n) ⟨b, off2, none⟩ m2 c3 _ (by rw [← hrl.1]; simpa using hvl) (fun j u hu2 => ?_)
                                rw [add_at0, cell_of_row w b _ c' _ fr hw]
                                rw [List.getElem?_take] at hu2
                                split at hu2
                                · rw [List.getElem?_drop] at hu2; simpa using hu2
                                · cases hu2
                              | slice00 _ _ x => omega
                            | _ => simp [RObj] at ho
                        · cases hvs
                      · rename_i heq; cases heq
                      · cases hvs
                    · rename_i st
                      simp only [Option.some.injEq] at hm
                      subst hm
                      cases hvs
                      cases hy
                      refine ⟨_, RL.of_plain1 (plain_bytes _), ?_⟩
                      have hmin : st.data.toList.take n = st.data.toList.take (min st.size n) := by
                        have h9 : st.data.toList.length = st.size := by simp
                        rcases Nat.lt_or_ge st.size n with h8 | h8
                        · rw [List.take_of_length_le (by omega), List.take_of_length_le (by omega)]
                        · rw [Nat.min_eq_right h8]
                      simp only [Builtin.firstCells, Sem.run_pure]
                      congr 1
                      apply Array.toList_inj.1
                      rw [take_map_bytes, hmin]
                    · cases hvs
                  obtain ⟨vs', hvr, hfc⟩ := hsrc
                  cases hx with
                  | slice00 => omega
                  | slice _ _ _ c2 hρ hc hf2 hz2 =>
                    rename_i b l
                    obtain ⟨w', hst, st⟩ := write_cells (off := off) s hg hρ hvr hfit hone
                    refine ⟨w', ?_, rfl, st⟩
                    have hmin : Nat.min m n = min m n := rfl
                    simp [Builtin.copy_, run_underlying hu, run_size hi, hi1, hlen, hmin, hfc, hst, goInt, hvl]
              · cases hs
            · cases hs
          · cases hs
    · cases hs
  · cases hs
def WOk (P : Program) [ObjSem P] (ρ : Rho) (h : AH) (w : World) (s : Sem Next) (v : Value) (h' : AH) : Prop :=
  ∃ n v' w' ρ', s.run P w = .ok n w' ∧ (n = .value v' ∨ (n = .skip ∧ v' = undef)) ∧ R ρ' v v' ∧ Step P ρ h w ρ' h' w'
theorem evW_sound {o : Oper} {e e' : Operand → Value} {h h' : AH} {v : Value} (hs : evW P o e h = some (v, h')) (he : ∀ x ∈ o.op.operands.toList, R ρ (e x) (e' x)) (s : Sim P ρ h w) :
    WOk P ρ h w (execOp e' o) v h' := by
  obtain ⟨dst, op, type, pos, after, guard⟩ := o
  unfold evW at hs
  simp only at hs he
  unfold execOp
  cases op <;> simp only [Op.operands] at he <;> simp only at hs ⊢
  case store t a x =>
    split at hs
    · rename_i h2 hst
      cases hs
      obtain ⟨w', hr, st⟩ := storeV_run (w := w) hst (he a (by simp)) (he x (by simp)) s
      exact ⟨.skip, undef, w', ρ, by simp [hr], .inr ⟨rfl, rfl⟩, R.undef _, st⟩
    · cases hs
  case mapUpdate t m k x =>
    split at hs
    · rename_i h2 hst
      cases hs
      obtain ⟨w', hr, st⟩ := mapUpdV_run (w := w) hst (he m (by simp)) (he k (by simp)) (he x (by simp)) s
      exact ⟨.skip, undef, w', ρ, by simp [hr], .inr ⟨rfl, rfl⟩, R.undef _, st⟩
    · cases hs
  case call c =>
    obtain ⟨callee, args, ts⟩ := c
    simp only [Call.operands] at he
    cases callee with
    | value f => simp at hs
    | invoke rv m => simp at hs
    | builtin b =>
      cases b <;> simp only at hs <;> first | cases hs | skip
      case append =>
        split at hs
        · rename_i a x t t' ha ht
          cases htt : Nat.beq t t' with
          | false => rw [htt] at hs; cases hs
          | true =>
            rw [htt] at hs
            have := beq_true htt; subst this
            have ha : args = #[a, x] := Array.toList_inj.1 (by simpa using ha)
            have ht : ts = #[t, t] := Array.toList_inj.1 (by simpa using ht)
            subst ha ht
            obtain ⟨v', w', ρ', hr, hv, st⟩ := appendV_run (w := w) (ty := type) hs (he a (by simp)) (he x (by simp)) s
            exact ⟨.value v', v', w', ρ', by simp [resolve, invoke, builtin, hr], .inl rfl, hv, st⟩
        · cases hs
      case copy =>
        split at hs
        · rename_i a x t t' ha ht
          have ha : args = #[a, x] := Array.toList_inj.1 (by simpa using ha)
          have ht : ts = #[t, t'] := Array.toList_inj.1 (by simpa using ht)
          subst ha ht
          obtain ⟨w', hr, hv, st⟩ := copyV_run (w := w) (ty := type) (t2 := t') hs (he a (by simp)) (he x (by simp)) s
          exact ⟨.value v, v, w', ρ, by simp [resolve, invoke, builtin, hr], .inl rfl, .of_plain1 hv, st⟩
        · cases hs
      case delete =>
        split at hs
        · rename_i a x t ts' ha ht
          split at hs
          · rename_i h2 hd
            cases hs
            have ha : args = #[a, x] := Array.toList_inj.1 (by simpa using ha)
            have ht : ts = (t :: ts').toArray := Array.toList_inj.1 (by simpa using ht)
            subst ha ht
            obtain ⟨w', hr, st⟩ := mapDelV_run (w := w) (ty := type) (ts := ts') hd (he a (by simp)) (he x (by simp)) s
            exact ⟨.value (.tuple #[]), .tuple #[], w', ρ, by simp [resolve, invoke, builtin, hr], .inl rfl, R.undef _, st⟩
          · cases hs
        · cases hs
  all_goals cases hs
end
end Go.Eng
