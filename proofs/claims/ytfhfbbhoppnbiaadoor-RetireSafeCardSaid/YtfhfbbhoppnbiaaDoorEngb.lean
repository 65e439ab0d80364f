/- A checked evaluator for programs, part b. -/
import Derived.Test.YtfhfbbhoppnbiaaDoorEnga
namespace Go.Eng
set_option linter.unusedVariables false
set_option linter.unusedSimpArgs false
open Go
set_option linter.unusedVariables false
structure St where
  ts : List Value
  h : AH
inductive Ex where
  | normal
  | exit (id : Nat)
  | goto (l : Nat)
  | ret
abbrev Calling := FuncId → List Value → AH → Option (Value × AH)
def evalX (ts : List Value) : Operand → Value
  | .tmp t => ts.getD t undef
  | .const v => v
  | .global g => .pointer (some ⟨g, 0, none⟩)
  | .func f => .func (.func f) #[] #[]
def putL (dst : Option Tmp) (v : Value) (ts : List Value) : List Value :=
  match dst with
  | some d => ts.set d v
  | none => ts
def yieldL (ops : List Oper) (ts : List Value) (j : Nat) : Option Bool :=
  match ops[j]? with
  | some o => match o.dst with
    | some d => match ts[d]? with
      | some (.bool b) => some b
      | _ => none
    | none => none
  | none => none
def wantedL (ops : List Oper) (ts : List Value) (o : Oper) : Bool :=
  match o.guard with
  | none => true
  | some (j, want) => match yieldL ops ts j with
    | some b => (match b, want with
      | true, true => true
      | false, false => true
      | _, _ => false)
    | none => false
def isDC : Value → Bool
  | .tuple vs => match vs.toList with
    | [_] => true
    | _ => false
  | _ => false
def knownL (ops : List Oper) (ts : List Value) (o : Oper) : Bool :=
  match o.guard with
  | none => true
  | some (j, _) => match ops[j]? with
    | some q => match q.dst with
      | some d => match ts[d]? with
        | some v => !isDC v
        | none => true
      | none => true
    | none => true
def isC : Op → Bool
  | .store _ _ _ => true
  | .mapUpdate _ _ _ _ => true
  | .call ⟨.builtin b, _, _⟩ => match b with
    | .append => true
    | .copy => true
    | .delete => true
    | _ => false
  | .call _ => true
  | _ => false
def isA : Op → Bool
  | .alloc _ => true
  | .box _ _ => true
  | .buildSlice _ _ _ => true
  | .makeMap _ _ => true
  | .makeSlice _ _ _ => true
  | _ => false
def isRd : Op → Bool
  | .load _ _ => true
  | .lookup _ _ _ _ => true
  | .convert _ _ _ => true
  | .call ⟨.builtin .len, _, _⟩ => true
  | _ => false
section
variable (P : Program) (C : Cfg)
def invokeV (x : Value) (name : String) (args : List Value) : Option (FuncId × List Value) :=
  match x with
  | .iface t v => match P.info? t, P.underlying t with
    | some i, some (.pointer _) => match i.methods.toList.find? (·.name == name) with
      | some m => match m.path.toList, m.func with
        | [], some (f, true) => some (f, v :: args)
        | _, _ => none
      | none => none
    | _, _ => none
  | _ => none
def callOf (o : Oper) (e : Operand → Value) : Option (FuncId × List Value) :=
  match o.op with
  | .call ⟨.value f, args, _⟩ => match e f with
    | .func (.func n) first cap => bif Nat.blt n P.funcs.size then some (n, first.toList ++ args.toList.map e ++ cap.toList) else none
    | .func (.yield a) first cap => bif first.isEmpty && cap.isEmpty then some (P.funcs.size + a, args.toList.map e) else none
    | _ => none
  | .call ⟨.invoke r name, args, _⟩ => match invokeV P (e r) name (args.toList.map e) with
    | some (n, l) => bif Nat.blt n P.funcs.size then some (n, l) else none
    | none => none
  | _ => none
def doC (Γ : Calling) (o : Oper) (e : Operand → Value) (h : AH) : Option (Value × AH) :=
  match o.op with
  | .call ⟨.value _, _, _⟩ => match callOf P o e with
    | some (f, args) => Γ f args h
    | none => none
  | .call ⟨.invoke _ _, _, _⟩ => match callOf P o e with
    | some (f, args) => Γ f args h
    | none => none
  | _ => evW P o e h
def doL (o : Oper) (e : Operand → Value) (h : AH) : Option (Value × AH) :=
  match evL P C o e h.get with
  | some (.val v) => some (v, h)
  | some (.ptr ob) => some (.pointer (some ⟨h.next, 0, none⟩), h.new ob)
  | some (.sl ob n c) => some (.slice (some ⟨h.next, 0, none⟩) n c, h.new ob)
  | some (.mp ob) => some (.map (some h.next), h.new ob)
  | none => none
def doOp (Γ : Calling) (o : Oper) (e : Operand → Value) (h : AH) : Option (Value × AH) :=
  match isC o.op with
  | true => doC P Γ o e h
  | false => doL P C o e h
def evOps (Γ : Calling) (all : List Oper) : List Oper → St → Option St
  | [], s => some s
  | o :: r, s => match knownL all s.ts o with
    | true => (match wantedL all s.ts o with
      | true => (match doOp P C Γ o (evalX s.ts) s.h with
        | some (v, h) => evOps Γ all r ⟨putL o.dst v s.ts, h⟩
        | none => none)
      | false => evOps Γ all r ⟨putL o.dst undef s.ts, s.h⟩)
    | false => none
def bindE (e : Edge) : Bool := Region.binds .any e
def maskOf (acc : List Nat) : List Edge → Nat → Nat
  | [], m => m
  | e :: r, m => maskOf acc r (bif bindE e then m ||| (2 ^ e.on) ||| acc.getD e.on 0 else m)
def masks : List Oper → List Nat → List Nat
  | [], acc => acc
  | o :: r, acc => masks r (acc ++ [maskOf acc o.after.toList 0])
def anc (ms : List Nat) (i j : Nat) : Bool := (ms.getD i 0).testBit j
def readBlk (o : Oper) (e : Operand → Value) : Option Nat :=
  match o.op with
  | .load _ a => match e a with
    | .pointer (some ad) => some ad.block
    | _ => none
  | .lookup _ m _ _ => match e m with
    | .map r => r
    | _ => none
  | .convert _ _ x => match e x with
    | .slice (some ad) (_ + 1) _ => some ad.block
    | _ => none
  | .call ⟨.builtin .len, args, _⟩ => match args.toList with
    | [x] => match e x with
      | .map r => r
      | _ => none
    | _ => none
  | _ => none
def looseAt (ms : List Nat) (ops : List Oper) (i : Nat) : Nat → List Oper → Bool
  | _, [] => false
  | j, o :: r => (isC o.op && !Nat.beq i j && !anc ms i j && !anc ms j i) || looseAt ms ops i (j + 1) r
def lastLoose (ms : List Nat) (ops : List Oper) (i : Nat) : Nat → List Oper → Nat
  | _, [] => 0
  | j, o :: r => Nat.max (bif isC o.op && !Nat.beq i j && !anc ms i j && !anc ms j i then j + 1 else 0) (lastLoose ms ops i (j + 1) r)
def unwritten (c0 : Nat) (h : AH) : List Nat → Bool
  | [] => true
  | b :: r => (match h.find b with
    | some (s, _) => Nat.blt s c0
    | none => false) && unwritten c0 h r
def settle (c0 i : Nat) (h : AH) : List (Nat × Nat) → Option (List (Nat × Nat))
  | [] => some []
  | (b, m) :: r => match Nat.ble m i with
    | true => (match unwritten c0 h [b] with
      | true => settle c0 i h r
      | false => none)
    | false => (match settle c0 i h r with
      | some l => some ((b, m) :: l)
      | none => none)
def evDraw (Γ : Calling) (ms : List Nat) (all : List Oper) (c0 : Nat) : Nat → List Oper → St → List (Nat × Nat) → Option (St × List (Nat × Nat))
  | _, [], s, acc => some (s, acc)
  | i, o :: r, s, acc0 => match settle c0 i s.h acc0 with
    | none => none
    | some acc => match knownL all s.ts o with
    | true => (match wantedL all s.ts o with
      | true => (match doOp P C Γ o (evalX s.ts) s.h with
        | some (v, h) => evDraw Γ ms all c0 (i + 1) r ⟨putL o.dst v s.ts, h⟩ (match isRd o.op && looseAt ms all i 0 all with
          | true => (match readBlk o (evalX s.ts) with
            | some b => (b, Nat.max (i + 1) (lastLoose ms all i 0 all)) :: acc
            | none => acc)
          | false => acc)
        | none => none)
      | false => evDraw Γ ms all c0 (i + 1) r ⟨putL o.dst undef s.ts, s.h⟩ acc)
    | false => none
def evRegion (Γ : Calling) (ops : Array Oper) (draw : Bool) (s : St) : Option St :=
  match draw with
  | false => evOps P C Γ ops.toList ops.toList s
  | true => match evDraw P C Γ (masks ops.toList []) ops.toList s.h.clock 0 ops.toList s [] with
    | some (s', bs) => match unwritten s.h.clock s'.h (bs.map Prod.fst) with
      | true => some s'
      | false => none
    | none => none
def loopN (f : St → Option (Ex × St)) : Nat → St → Option (Ex × St)
  | 0, _ => none
  | n + 1, s => match f s with
    | some (.normal, s') => loopN f n s'
    | r => r
def scopeN (frm : Nat → Option (St → Option (Ex × St))) : Nat → Nat → St → Option (Ex × St)
  | 0, _, _ => none
  | n + 1, l, s => match frm l with
    | none => some (.goto l, s)
    | some f => match f s with
      | some (.goto l', s') => scopeN frm n l' s'
      | r => r
def thenR (r : Option (Ex × St)) (g : St → Option (Ex × St)) : Option (Ex × St) :=
  match r with
  | some (.normal, s') => g s'
  | r => r
def blockR (id : Nat) (r : Option (Ex × St)) : Option (Ex × St) :=
  match r with
  | some (.exit i, s') => match Nat.beq i id with
    | true => some (.normal, s')
    | false => some (.exit i, s')
  | r => r
def scopeR (frm : Nat → Option (St → Option (Ex × St))) (n : Nat) (r : Option (Ex × St)) : Option (Ex × St) :=
  match r with
  | some (.goto l, s') => scopeN frm n l s'
  | r => r
def condR (v : Value) (x y : Option (Ex × St)) : Option (Ex × St) :=
  match v with
  | .bool true => x
  | .bool false => y
  | _ => none
def regR (r : Option St) : Option (Ex × St) :=
  match r with
  | some s' => some (.normal, s')
  | none => none
def rangeL (Γ : Calling) (g : Value) (ps : Array Tmp) (as_ bd : Code) (s : St) : Option (Ex × St) :=
  match g with
  | .func (.func f) first cap => match Nat.blt f P.funcs.size with
    | true => (match Γ f (first.toList ++ [.func (.yield s.h.next) #[] #[]] ++ cap.toList) (s.h.new (.loop s.ts ps as_ bd .ready)) with
      | some (_, h2) => (match h2.get s.h.next with
        | some (.loop t p a b .ready) => some (.normal, ⟨s.ts, (h2.put s.h.next (.loop t p a b .gone)).drop s.h.next⟩)
        | some (.loop t p a b (.done .ret)) => some (.ret, ⟨s.ts, (h2.put s.h.next (.loop t p a b .gone)).drop s.h.next⟩)
        | some (.loop t p a b (.done (.exit i))) => some (.exit i, ⟨s.ts, (h2.put s.h.next (.loop t p a b .gone)).drop s.h.next⟩)
        | some (.loop t p a b (.done (.goto l))) => some (.goto l, ⟨s.ts, (h2.put s.h.next (.loop t p a b .gone)).drop s.h.next⟩)
        | _ => none)
      | none => none)
    | false => none
  | _ => none
mutual
def evC (Γ : Calling) (n : Nat) : Code → St → Option (Ex × St)
  | .skip, s => some (.normal, s)
  | .region _ ops draw, s => regR (evRegion P C Γ ops draw s)
  | .seq a b, s => thenR (evC Γ n a s) fun s' => evC Γ n b s'
  | .cond c x y, s => condR (evalX s.ts c) (evC Γ n x s) (evC Γ n y s)
  | .block id b, s => blockR id (evC Γ n b s)
  | .loop b, s => loopN (fun s => evC Γ n b s) n s
  | .exit id, s => some (.exit id, s)
  | .scope b, s => scopeR (fun l => evF Γ n b l) n (evC Γ n b s)
  | .label _, s => some (.normal, s)
  | .goto l, s => some (.goto l, s)
  | .ret, s => some (.ret, s)
  | .rangeFunc g ps as_ bd, s => rangeL P Γ (evalX s.ts g) ps as_ bd s
  | .refuse _, _ => none
def evF (Γ : Calling) (n : Nat) : Code → Nat → Option (St → Option (Ex × St))
  | .seq a b, l => match evF Γ n a l with
    | some f => some fun s => thenR (f s) fun s' => evC Γ n b s'
    | none => evF Γ n b l
  | .label l', l => match Nat.beq l' l with
    | true => some fun s => some (.normal, s)
    | false => none
  | .skip, _ => none
  | .region _ _ _, _ => none
  | .cond _ _ _, _ => none
  | .block _ _, _ => none
  | .loop _, _ => none
  | .exit _, _ => none
  | .scope _, _ => none
  | .goto _, _ => none
  | .ret, _ => none
  | .rangeFunc _ _ _ _, _ => none
  | .refuse _, _ => none
end
def resL (s : St) : List ResultVar → Option (List Value)
  | [] => some []
  | .tmp t :: r => match resL s r with
    | some l => some (s.ts.getD t undef :: l)
    | none => none
  | .cell a t :: r => match loadV P t (s.ts.getD a undef) s.h.get, resL s r with
    | some v, some l => some (v :: l)
    | _, _ => none
def oneOf : List Value → Value
  | [v] => v
  | l => .tuple l.toArray
end
def okX (ng : Nat) : Operand → Bool
  | .const v => plain v
  | .global g => Nat.blt g ng
  | _ => true
def readsOf (ops : List Oper) (o : Oper) : List Nat :=
  (o.op.operands.toList.filterMap fun
    | .tmp t => some t
    | _ => none) ++ (match o.guard with
    | some (g, _) => (match ops[g]? with
      | some q => q.dst.toList
      | none => [])
    | none => [])
def okOps (ng : Nat) (ops : List Oper) : Bool := ops.all fun o => o.op.operands.toList.all (okX ng)
def okPair (ms : List Nat) (ops : List Oper) (i k : Nat) (o q : Oper) : Bool :=
  Nat.beq i k ||
  ((match o.dst, q.dst with
    | some d, some d' => !Nat.beq d d'
    | _, _ => true) &&
   (match q.dst with
    | some t => !(readsOf ops o).contains t || (bif Nat.blt k i then anc ms i k else anc ms k i)
    | none => true) &&
   (!(isC o.op && isC q.op) || (bif Nat.blt k i then anc ms i k else anc ms k i)) &&
   (!(isA o.op && isC q.op) || Nat.blt k i || anc ms k i))
def okAnc (ms : List Nat) (i n : Nat) (o : Oper) : Bool :=
  o.after.toList.all (fun e => !bindE e || Nat.blt e.on i) &&
  (List.range n).all (fun j => !anc ms i j || o.after.toList.any fun e => bindE e && (Nat.beq e.on j || anc ms e.on j))
def okDraw (ops : List Oper) : Bool :=
  let ms := masks ops []
  let n := ops.length
  (ops.zipIdx.all fun p => okAnc ms p.2 n p.1 && ops.zipIdx.all fun q => okPair ms ops p.2 q.2 p.1 q.1)
def noRange : Code → Bool
  | .seq a b => noRange a && noRange b
  | .cond _ x y => noRange x && noRange y
  | .block _ b => noRange b
  | .loop b => noRange b
  | .scope _ => false
  | .rangeFunc _ _ _ _ => false
  | _ => true
def okCode (ng : Nat) : Code → Bool
  | .skip => true
  | .region _ ops draw => okOps ng ops.toList && (bif draw then okDraw ops.toList else true)
  | .seq a b => okCode ng a && okCode ng b
  | .cond c x y => okX ng c && okCode ng x && okCode ng y
  | .block _ b => okCode ng b
  | .loop b => okCode ng b
  | .exit _ => true
  | .scope b => okCode ng b
  | .label _ => true
  | .goto _ => true
  | .ret => true
  | .rangeFunc g _ a b => okX ng g && okCode ng a && okCode ng b && noRange a && noRange b
  | .refuse _ => false
def setPs : List Value → List Tmp → List Value → List Value
  | ts, p :: ps, v :: vs => setPs (ts.set p v) ps vs
  | ts, _, _ => ts
def roundEnd (a : Nat) (x : Ex) (h : AH) : Option (Value × AH) :=
  match h.get a with
  | some (.loop ts ps as_ bd .busy) => match x with
    | .normal => some (.bool true, h.put a (.loop ts ps as_ bd .ready))
    | .ret => some (.bool false, h.put a (.loop ts ps as_ bd (.done .ret)))
    | .exit i => some (.bool false, h.put a (.loop ts ps as_ bd (.done (.exit i))))
    | .goto l => some (.bool false, h.put a (.loop ts ps as_ bd (.done (.goto l))))
  | _ => none
def runY (P : Program) (C : Cfg) (Γ : Calling) (n : Nat) (a : Nat) (args : List Value) (h : AH) : Option (Value × AH) :=
  match h.get a with
  | some (.loop ts ps as_ bd .ready) =>
    match Nat.beq args.length ps.toList.length && okCode P.globals.size as_ && okCode P.globals.size bd && noRange as_ && noRange bd with
    | true => (match evC P C Γ n as_ ⟨setPs ts ps.toList args, h⟩ with
      | some (.normal, s1) => (match s1.h.get a with
        | some (.loop ts1 ps1 as1 bd1 .ready) => (match evC P C Γ n bd ⟨s1.ts, s1.h.put a (.loop ts1 ps1 as1 bd1 .busy)⟩ with
          | some (x, s2) => roundEnd a x s2.h
          | none => none)
        | _ => none)
      | _ => none)
    | false => none
  | _ => none
end Go.Eng
namespace Go.Eng
set_option linter.unusedVariables false
set_option linter.unusedSimpArgs false
set_option linter.unusedSectionVars false
open Go
set_option linter.unusedVariables false
set_option linter.unusedSimpArgs false
def FnOk (P : Program) (f : FuncId) : Prop := ∃ fn c, P.funcs[f]? = some fn ∧ fn.body = some c ∧ fn.name ≠ "runtime.NumGoroutine"
def Fr (r : Option Nat) : Fence := { Fence.wide with round := r }
theorem callsIn_Fr {r : Option Nat} {n : Nat} {P : Program} [ObjSem P] {f : FuncId} {args : Array Value} {w : World} {R : Ending → World → Prop} : CallsIn (Fr r) n P f args w R ↔ Calls P f args w R := callsIn_wide
theorem wpIn_Fr {n : Nat} {P : Program} [ObjSem P] {c : Code} {Q : Exit → Act → World → Prop} {a : Act} {w : World} : c.wpIn (Fr none) n P Q a w ↔ c.wp P Q a w := wpIn_wide
def DoesC (P : Program) [ObjSem P] (f : FuncId) (args : List Value) (h : AH) (v : Value) (h' : AH) : Prop :=
  ∀ (ρ : Rho) (w : World) (args' : Array Value), RL ρ args args'.toList → Sim P ρ h w →
    Calls P f args' w fun e w' => ∃ ρ' v', e = .returned v' ∧ R ρ' v v' ∧ Step P ρ h w ρ' h' w'
def DoesY (P : Program) [ObjSem P] (a : Nat) (args : List Value) (h : AH) (v : Value) (h' : AH) : Prop :=
  ∀ (ρ : Rho) (w : World) (args' : Array Value) (b l : Nat), ρ a = some (b, l) → RL ρ args args'.toList → Sim P ρ h w →
    YieldAt (Fr none) 0 P b args' w fun e w' => ∃ ρ' v', e = .returned v' ∧ R ρ' v v' ∧ Step P ρ h w ρ' h' w'
def SoundC (P : Program) [ObjSem P] (Γ : Calling) : Prop :=
  ∀ f args h v h', Γ f args h = some (v, h') → Grow h h' ∧ ((FnOk P f ∧ DoesC P f args h v h') ∨ ∃ a, f = P.funcs.size + a ∧ DoesY P a args h v h')
theorem FnOk.lt {P : Program} [ObjSem P] {f : FuncId} (h : FnOk P f) : f < P.funcs.size := by
  obtain ⟨fn, c, h, _⟩ := h
  exact (Array.getElem?_eq_some_iff.1 h).1
theorem Grow.new (h : AH) (o : AObj) : Grow h (h.new o) :=
  ⟨Nat.le_succ _, Nat.le_succ _, (fun a hn => by
     by_cases e : a = h.next
     · subst e; exact .inr ⟨Nat.le_refl _, Nat.lt_succ_self _⟩
     · rw [AH.get_new_ne e] at hn; exact .inl hn),
   fun a s q hf hs => by
     by_cases e : a = h.next
     · subst e; rw [AH.find_new_same] at hf; cases hf; omega
     · rw [AH.find_new_ne e] at hf; exact hf,
   fun a q ha hg _ => by rw [AH.get_new_ne (by omega)] at hg; exact hg⟩
theorem Grow.drop (h : AH) (a : Nat) : Grow h (h.drop a) :=
  ⟨Nat.le_refl _, Nat.le_refl _,
   (fun k hn => .inl (by
     by_cases e : k = a
     · subst e; rw [AH.get_drop_same] at hn; exact absurd rfl hn
     · rw [AH.get_drop_ne e] at hn; exact hn)),
   fun k s q hf _ => by
     by_cases e : k = a
     · subst e; rw [AH.find_drop_same] at hf; cases hf
     · rw [AH.find_drop_ne e] at hf; exact hf,
   fun k q _ hg _ => by
     by_cases e : k = a
     · subst e; rw [AH.get_drop_same] at hg; cases hg
     · rw [AH.get_drop_ne e] at hg; exact hg⟩
theorem Grow.put (h : AH) (a : Nat) (o : AObj) (ho : o.rw = true) : Grow h (h.put a o) :=
  ⟨Nat.le_refl _, Nat.le_succ _,
   (fun k hn => .inl (by
     by_cases e : k = a
     · subst e
       intro hz
       apply hn
       unfold AH.get at hz ⊢
       rw [AH.find_put_same]
       cases e2 : h.find k with
       | none => rfl
       | some p => rw [e2] at hz; cases hz
     · rw [AH.get_put_ne e] at hn; exact hn)),
   fun k s q hf hs => by
     by_cases e : k = a
     · subst e
       rw [AH.find_put_same] at hf
       cases e2 : h.find k with
       | none => rw [e2] at hf; cases hf
       | some p => rw [e2] at hf; simp at hf; omega
     · rw [AH.find_put_ne e] at hf; exact hf,
   fun k q _ hg hq => by
     by_cases e : k = a
     · subst e
       cases e2 : h.get k with
       | none =>
         unfold AH.get at e2 hg
         rw [AH.find_put_same] at hg
         cases e3 : h.find k with
         | none => rw [e3] at hg; cases hg
         | some p => rw [e3] at e2; cases e2
       | some q0 => rw [AH.get_put_same e2] at hg; cases hg; rw [ho] at hq; cases hq
     · rw [AH.get_put_ne e] at hg; exact hg⟩
section
variable {P : Program} [ObjSem P] {C : Cfg}
theorem storeV_grow {t : TypeId} {x v : Value} {h h' : AH} (hs : storeV P t x v h = some h') : Grow h h' := by
  unfold storeV at hs
  split at hs
  · split at hs
    · generalize (Nat.beq _ _ && _ && _) = b at hs
      cases b with
      | false => cases hs
      | true => cases hs; exact .put _ _ _ rfl
    · cases hs
  · cases hs
theorem mapUpdV_grow {t : TypeId} {m k v : Value} {h h' : AH} (hs : mapUpdV P t m k v h = some h') : Grow h h' := by
  unfold mapUpdV at hs
  split at hs
  · split at hs
    · generalize keyFits _ _ _ = b at hs
      cases b with
      | false => cases hs
      | true =>
        simp only [cond_true] at hs
        split at hs <;> first | (cases hs; exact .put _ _ _ rfl) | cases hs
    · generalize keyFits _ _ _ = b at hs
      cases b with
      | false => cases hs
      | true =>
        simp only [cond_true] at hs
        split at hs <;> first | (cases hs; exact .put _ _ _ rfl) | cases hs
    · cases hs
  · cases hs
theorem mapDelV_grow {t : TypeId} {m k : Value} {h h' : AH} (hs : mapDelV P t m k h = some h') : Grow h h' := by
  unfold mapDelV at hs
  split at hs
  · split at hs
    · generalize keyFits _ _ _ = b at hs
      cases b with
      | false => cases hs
      | true =>
        simp only [cond_true] at hs
        split at hs <;> first | (cases hs; exact .put _ _ _ rfl) | cases hs
    · generalize keyFits _ _ _ = b at hs
      cases b with
      | false => cases hs
      | true =>
        simp only [cond_true] at hs
        split at hs <;> first | (cases hs; exact .put _ _ _ rfl) | cases hs
    · cases hs
  · cases hs
theorem appendV_grow {t : TypeId} {x y v : Value} {h h' : AH} (hs : appendV P t x y h = some (v, h')) : Grow h h' := by
  unfold appendV at hs
  split at hs
  · split at hs
    · generalize Nat.beq _ 0 = b at hs
      cases b with
      | true =>
        simp only [cond_true] at hs
        generalize Nat.ble _ _ = b2 at hs
        cases b2 with
        | true => cases hs; exact .refl _
        | false => cases hs
      | false =>
        simp only [cond_false] at hs
        split at hs
        · cases hs
        · split at hs
          · cases hs
          · generalize Nat.ble (_ + _) _ = b2 at hs
            cases b2 with
            | true =>
              simp only [cond_true] at hs
              split at hs
              · split at hs
                · generalize Nat.ble _ _ = b3 at hs
                  cases b3 with
                  | true => cases hs; exact .put _ _ _ rfl
                  | false => cases hs
                · cases hs
              · cases hs
            | false =>
              simp only [cond_false] at hs
              split at hs
              · generalize (Nat.beq _ _ && Nat.beq _ _) = b3 at hs
                cases b3 with
                | true => cases hs; exact .new _ _
                | false => cases hs
              · generalize (Nat.beq _ _ && Nat.beq _ _) = b4 at hs
                cases b4 with
                | true => cases hs; exact .new _ _
                | false =>
                simp only [cond_false] at hs
                split at hs
                · generalize (Nat.ble _ _ && Nat.beq _ _ && Nat.ble _ _) = b3 at hs
                  cases b3 with
                  | true => cases hs; exact (Grow.drop _ _).trans (.new _ _)
                  | false => cases hs
                · cases hs
              · cases hs
    · cases hs
  · cases hs
theorem copyV_grow {t : TypeId} {x y v : Value} {h h' : AH} (hs : copyV P t x y h = some (v, h')) : Grow h h' := by
  unfold copyV at hs
  split at hs
  · split at hs
    · generalize Nat.beq _ 1 = b at hs
      cases b with
      | false => cases hs
      | true =>
        simp only [cond_true] at hs
        generalize Nat.beq _ 0 = b2 at hs
        cases b2 with
        | true => cases hs; exact .refl _
        | false =>
          simp only [cond_false] at hs
          split at hs
          · split at hs
            · split at hs
              · generalize (Nat.ble _ _ && _ && _) = b3 at hs
                cases b3 with
                | true => cases hs; exact .put _ _ _ rfl
                | false => cases hs
              · cases hs
            · cases hs
          · cases hs
    · cases hs
  · cases hs
theorem evW_grow {o : Oper} {e : Operand → Value} {h h' : AH} {v : Value} (hs : evW P o e h = some (v, h')) : Grow h h' := by
  unfold evW at hs
  split at hs
  · split at hs
    · rename_i hh; cases hs; exact storeV_grow hh
    · cases hs
  · split at hs
    · rename_i hh; cases hs; exact mapUpdV_grow hh
    · cases hs
  · split at hs
    · generalize Nat.beq _ _ = b at hs
      cases b with
      | true => exact appendV_grow hs
      | false => cases hs
    · cases hs
  · split at hs
    · exact copyV_grow hs
    · cases hs
  · split at hs
    · split at hs
      · rename_i hh; cases hs; exact mapDelV_grow hh
      · cases hs
    · cases hs
  · cases hs
theorem doC_cases {Γ : Calling} {o : Oper} {e : Operand → Value} {h h' : AH} {v : Value} (hs : doC P Γ o e h = some (v, h')) :
    evW P o e h = some (v, h') ∨ ∃ f args, callOf P o e = some (f, args) ∧ Γ f args h = some (v, h') := by
  unfold doC at hs
  split at hs
  · split at hs
    · rename_i f args hc; exact .inr ⟨f, args, hc, hs⟩
    · cases hs
  · split at hs
    · rename_i f args hc; exact .inr ⟨f, args, hc, hs⟩
    · cases hs
  · exact .inl hs
theorem doC_grow {Γ : Calling} (hΓ : SoundC P Γ) {o : Oper} {e : Operand → Value} {h h' : AH} {v : Value} (hs : doC P Γ o e h = some (v, h')) : Grow h h' := by
  rcases doC_cases hs with hw | ⟨f, args, _, hg⟩
  · exact evW_grow hw
  · exact (hΓ f args h v h' hg).1
theorem doL_cases {o : Oper} {e : Operand → Value} {h h' : AH} {v : Value} (hs : doL P C o e h = some (v, h')) :
    ∃ r, evL P C o e h.get = some r ∧ v = r.name h.next ∧ ((r.obj = none ∧ h' = h) ∨ ∃ ob, r.obj = some ob ∧ h' = h.new ob) := by
  unfold doL at hs
  split at hs
  · rename_i v2 hv; cases hs; exact ⟨_, hv, rfl, .inl ⟨rfl, rfl⟩⟩
  · rename_i ob hv; cases hs; exact ⟨_, hv, rfl, .inr ⟨ob, rfl, rfl⟩⟩
  · rename_i ob n c hv; cases hs; exact ⟨_, hv, rfl, .inr ⟨ob, rfl, rfl⟩⟩
  · rename_i ob hv; cases hs; exact ⟨_, hv, rfl, .inr ⟨ob, rfl, rfl⟩⟩
  · cases hs
theorem doL_grow {o : Oper} {e : Operand → Value} {h h' : AH} {v : Value} (hs : doL P C o e h = some (v, h')) : Grow h h' := by
  obtain ⟨r, _, _, h1 | ⟨ob, _, h1⟩⟩ := doL_cases hs
  · rw [h1.2]; exact .refl _
  · rw [h1]; exact .new _ _
theorem doOp_grow {Γ : Calling} (hΓ : SoundC P Γ) {o : Oper} {e : Operand → Value} {h h' : AH} {v : Value} (hs : doOp P C Γ o e h = some (v, h')) : Grow h h' := by
  unfold doOp at hs
  split at hs
  · exact doC_grow hΓ hs
  · exact doL_grow hs
theorem callFunc_ok {f : FuncId} (hf : FnOk P f) (args : Array Value) (w : World) : (callFunc f args).run P w = .ok (.enter f args) w := by
  obtain ⟨fn, c, h1, h2, h3⟩ := hf
  simp [callFunc, program, Sem.run, h1, h2, h3]
theorem method_ok {ρ : Rho} {w : World} {t : TypeId} {v' : Value} {name : String} {i : TypeInfo} {m : Method} {f : FuncId} {el : TypeId} (fuel : Nat) (hi : P.info? t = some i) (hu : P.underlying t = some (.pointer el))
    (hm : i.methods.toList.find? (·.name == name) = some m) (hp : m.path.toList = []) (hf : m.func = some (f, true)) :
    (method (fuel + 1) t v' name).run P w = .ok (f, v') w := by
  have hm' : i.methods.find? (·.name == name) = some m := by rw [← Array.find?_toList]; exact hm
  have hp' : m.path = #[] := Array.toList_inj.1 (by simpa using hp)
  simp [method, run_info hi, hm', hp', follow, hf, receiverAt, run_underlying hu, Place.get]
theorem call_run {ρ : Rho} {w : World} {o : Oper} {e e' : Operand → Value} {f : FuncId} {args : List Value} (hc : callOf P o e = some (f, args)) (hf : FnOk P f)
    (he : ∀ x ∈ o.op.operands.toList, R ρ (e x) (e' x)) : ∃ args' : Array Value, (execOp e' o).run P w = .ok (.enter f args') w ∧ RL ρ args args'.toList := by
  obtain ⟨dst, op, type, pos, after, guard⟩ := o
  unfold callOf at hc
  simp only at hc he
  split at hc
  · rename_i fo as ts
    have hfo := he fo (by simp [Op.operands, Call.operands])
    split at hc
    · rename_i n first cap hef
      cases hb : Nat.blt n P.funcs.size with
      | false => rw [hb] at hc; cases hc
      | true =>
      rw [hb] at hc
      cases hc
      rw [hef] at hfo
      generalize hq : e' fo = q at hfo
      cases hfo with
      | func _ _ ys _ us hs h ht k =>
        have h1 : RL ρ first.toList ys.toList := .of_array hs h
        have h2 : RL ρ cap.toList us.toList := .of_array ht k
        have h3 := RL.map (ρ := ρ) (e := e) (e' := e') (xs := as.toList) (fun x hx => he x (by simp [Op.operands, Call.operands] at hx ⊢; exact .inr hx))
        refine ⟨ys ++ as.map e' ++ us, ?_, ?_⟩
        · simp only [execOp, resolve, hq, Deferred.ofValue, invoke, Sem.run_bind, Sem.run_pure, Result.andThen_ok]
          exact callFunc_ok hf _ _
        · have := (h1.append h3).append h2
          simpa using this
    · rename_i a first cap hef
      cases hb : first.isEmpty && cap.isEmpty with
      | false => rw [hb] at hc; cases hc
      | true =>
        rw [hb] at hc
        cases hc
        exact absurd hf.lt (Nat.not_lt_of_le (Nat.le_add_right _ _))
    · cases hc
  · rename_i r name as ts
    have hr := he r (by simp [Op.operands, Call.operands])
    have h3 := RL.map (ρ := ρ) (e := e) (e' := e') (xs := as.toList) (fun x hx => he x (by simp [Op.operands, Call.operands] at hx ⊢; exact .inr hx))
    split at hc
    case h_2 => cases hc
    rename_i n0 l0 hc0
    cases hb : Nat.blt n0 P.funcs.size with
    | false => rw [hb] at hc; cases hc
    | true =>
    rw [hb] at hc
    cases hc
    have hc := hc0
    unfold invokeV at hc
    split at hc
    · rename_i t v hv
      rw [hv] at hr
      generalize hq : e' r = q at hr
      cases hr with
      | iface _ hi =>
        rename_i v'
        split at hc
        · rename_i i el hinf hu
          split at hc
          · rename_i m hm
            split at hc
            · rename_i f2 hp hfn
              cases hc
              refine ⟨#[v'] ++ as.map e', ?_, ?_⟩
              · have hmm := method_ok (P := P) (ρ := ρ) (w := w) (v' := v') (P.types.size + Made.depth - 1) hinf hu hm hp hfn
                have hfu : P.types.size + Made.depth - 1 + 1 = P.types.size + Made.depth := by
                  have : 0 < Made.depth := by decide
                  omega
                rw [hfu] at hmm
                have hext : (#[Value.iface t v'] ++ as.map e').extract 1 (#[Value.iface t v'] ++ as.map e').size = as.map e' := by
                  apply Array.toList_inj.1
                  simp [Array.toList_extract]
                  rw [List.take_of_length_le (by simp)]
                simp only [execOp, resolve, hq, invoke, Sem.run_bind, Sem.run_pure, Result.andThen_ok]
                have h0 : (#[Value.iface t v'] ++ as.map e')[0]? = some (Value.iface t v') := by rw [← Array.getElem?_toList, Array.toList_append]; rfl
                simp only [h0, hext, callMethod, Sem.run_bind, run_program, Result.andThen_ok, hmm]
                exact callFunc_ok hf _ _
              · have := RL.cons hi h3
                simpa using this
            · cases hc
          · cases hc
        · cases hc
    · cases hc
  · cases hc
theorem yieldCall_run {ρ : Rho} {w : World} {o : Oper} {e e' : Operand → Value} {a : Nat} {args : List Value} (hc : callOf P o e = some (P.funcs.size + a, args))
    (he : ∀ x ∈ o.op.operands.toList, R ρ (e x) (e' x)) : ∃ (b l : Nat) (args' : Array Value), ρ a = some (b, l) ∧ (execOp e' o).run P w = (Instr.yield b args').run P w ∧ RL ρ args args'.toList := by
  obtain ⟨dst, op, type, pos, after, guard⟩ := o
  unfold callOf at hc
  simp only at hc he
  split at hc
  · rename_i fo as ts
    have hfo := he fo (by simp [Op.operands, Call.operands])
    split at hc
    · rename_i n first cap hef
      cases hb : Nat.blt n P.funcs.size with
      | false => rw [hb] at hc; cases hc
      | true =>
        rw [hb] at hc
        simp only [cond_true, Option.some.injEq, Prod.mk.injEq] at hc
        rw [Nat.blt_eq] at hb
        rw [hc.1] at hb
        exact absurd hb (Nat.not_lt_of_le (Nat.le_add_right _ _))
    · rename_i a2 first cap hef
      cases hb : first.isEmpty && cap.isEmpty with
      | false => rw [hb] at hc; cases hc
      | true =>
        rw [hb] at hc
        simp only [cond_true, Option.some.injEq, Prod.mk.injEq] at hc
        obtain ⟨h1, h2⟩ := hc
        have : a2 = a := Nat.add_left_cancel h1
        subst this
        subst h2
        simp only [Bool.and_eq_true, Array.isEmpty_iff] at hb
        obtain ⟨rfl, rfl⟩ := hb
        rw [hef] at hfo
        generalize hq : e' fo = q at hfo
        cases hfo with
        | yield hρ =>
          rename_i b l
          have h3 := RL.map (ρ := ρ) (e := e) (e' := e') (xs := as.toList) (fun x hx => he x (by simp [Op.operands, Call.operands] at hx ⊢; exact .inr hx))
          refine ⟨b, l, as.map e', hρ, ?_, by simpa using h3⟩
          simp only [execOp, resolve, hq, Deferred.ofValue, invoke, Sem.run_bind, Sem.run_pure, Result.andThen_ok]
          simp
    · cases hc
  · rename_i r name as ts
    split at hc
    case h_2 => cases hc
    rename_i n0 l0 hc0
    cases hb : Nat.blt n0 P.funcs.size with
    | false => rw [hb] at hc; cases hc
    | true =>
      rw [hb] at hc
      simp only [cond_true, Option.some.injEq, Prod.mk.injEq] at hc
      rw [Nat.blt_eq] at hb
      rw [hc.1] at hb
      exact absurd hb (Nat.not_lt_of_le (Nat.le_add_right _ _))
  · cases hc
def Puts (P : Program) [ObjSem P] (ρ : Rho) (h : AH) (w : World) (o : Oper) (a : Act) (v : Value) (h' : AH) (K : Act → World → Prop) : Prop :=
  ∀ v' w' ρ', R ρ' v v' → Step P ρ h w ρ' h' w' → K (a.put o.dst v') w'
theorem LOk.step {ρ : Rho} {w : World} {s : Sem Next} {r : LRes} {h : AH} (hl : LOk P ρ w s r) (hs : Sim P ρ h w) :
    ∃ v' w' ρ', s.run P w = .ok (.value v') w' ∧ R ρ' (r.name h.next) v' ∧ Step P ρ h w ρ' (match r.obj with | none => h | some ob => h.new ob) w' := by
  unfold LOk at hl
  cases ho : r.obj with
  | none =>
    rw [ho] at hl
    obtain ⟨v', h1, h2⟩ := hl
    refine ⟨v', w, ρ, h1, ?_, .refl hs⟩
    cases r <;> simp [LRes.obj] at ho
    exact h2
  | some ob =>
    rw [ho] at hl
    obtain ⟨o', l, h1, h2, h3, h4⟩ := hl
    exact ⟨_, _, _, h1, h4 _ _ (by simp [Rho.add_f]), .alloc hs ob o' l h2 (AObj.wr_mach h3)⟩
theorem doOp_nodefer {Γ : Calling} {o : Oper} {e : Operand → Value} {h h' : AH} {v : Value} (hs : doOp P C Γ o e h = some (v, h')) : ∀ c, o.op ≠ .defer c := by
  intro c hc
  obtain ⟨dst, op, type, pos, after, guard⟩ := o
  simp only at hc; subst hc
  simp [doOp, isC, doL, evL] at hs
theorem doOp_wp (hC : C.ok P) {Γ : Calling} (hΓ : SoundC P Γ) {r : Option Nat} {ρ : Rho} {w : World} {o : Oper} {e : Operand → Value} {a : Act} {h h' : AH} {v : Value} (hs : doOp P C Γ o e h = some (v, h'))
    (he : ∀ x ∈ o.op.operands.toList, R ρ (e x) (a.eval x)) (s : Sim P ρ h w) {K : Act → World → Prop} {Q : Exit → Act → World → Prop} (hK : Puts P ρ h w o a v h' K) : o.wpIn (Fr r) 0 P a w K Q := by
  have hnd := doOp_nodefer hs
  refine ⟨fun _ _ => trivial, ?_⟩
  rw [Oper.semAt_eq _ _ _ hnd]
  unfold doOp at hs
  split at hs
  · rcases doC_cases hs with hw | ⟨f, args, hc, hg⟩
    · obtain ⟨n, v', w', ρ', hr, hn, hv, st⟩ := evW_sound hw he s
      rw [hr]
      rcases hn with rfl | ⟨rfl, rfl⟩
      · exact hK v' w' ρ' hv st
      · exact hK undef w' ρ' hv st
    · obtain ⟨_, ⟨hf, hcall⟩ | ⟨y, rfl, hcall⟩⟩ := hΓ f args h v h' hg
      · obtain ⟨args', hr, hra⟩ := call_run (P := P) (ρ := ρ) (w := w) hc hf he
        rw [hr]
        refine ⟨fun h => by simp [Fr, Fence.wide] at h, callsIn_Fr.2 ((hcall ρ w args' hra s).mono fun e2 w' hp => ?_)⟩
        obtain ⟨ρ', v', rfl, hv, st⟩ := hp
        exact hK v' w' ρ' hv st
      · obtain ⟨b, l, args', hρ, hr, hra⟩ := yieldCall_run (P := P) (ρ := ρ) (w := w) hc he
        rw [hr]
        obtain ⟨fn, tmps, asg, bd, hy, hround⟩ := hcall ρ w args' b l hρ hra s
        rw [hy]
        refine ⟨fun h => by simp [Fr, Fence.wide] at h, ?_⟩
        refine RoundIn.mono (F := Fr r) (show RoundIn (Fr r) 0 P b fn tmps asg bd w _ from hround) fun e2 w' hp => ?_
        obtain ⟨ρ', v', rfl, hv, st⟩ := hp
        exact hK v' w' ρ' hv st
  · obtain ⟨r, hr, rfl, hobj⟩ := doL_cases hs
    obtain ⟨v', w', ρ', h1, h2, h3⟩ := (evL_sound (w := w) hC hr he s.reads).step s
    rw [h1]
    refine hK v' w' ρ' h2 ?_
    rcases hobj with ⟨ho, rfl⟩ | ⟨ob, ho, rfl⟩
    · rw [ho] at h3; exact h3
    · rw [ho] at h3; exact h3
structure RT (ρ : Rho) (ts : List Value) (a : Act) : Prop where
  size : a.tmps.size = ts.length
  at_ : ∀ t, R ρ (ts.getD t undef) (a.tmps.getD t undef)
theorem RT.mono {ρ ρ' : Rho} (hle : ρ.le ρ') {ts : List Value} {a : Act} (h : RT ρ ts a) : RT ρ' ts a := ⟨h.size, fun t => (h.at_ t).mono hle⟩
theorem RT.put {ρ : Rho} {ts : List Value} {a : Act} (h : RT ρ ts a) {v v' : Value} (hv : R ρ v v') (dst : Option Tmp) : RT ρ (putL dst v ts) (a.put dst v') := by
  cases dst with
  | none => exact h
  | some d =>
    refine ⟨by simp [putL, Act.put, h.size], fun t => ?_⟩
    have ht := h.at_ t
    simp only [putL, Act.put, List.getD_eq_getElem?_getD, Array.getD_eq_getD_getElem?] at ht ⊢
    by_cases e : d = t
    · subst e
      by_cases hl : d < ts.length
      · have hl' : d < a.tmps.size := by rw [h.size]; exact hl
        simpa [hl, hl'] using hv
      · have hl' : ¬ d < a.tmps.size := by rw [h.size]; exact hl
        simpa [hl, hl'] using R.undef ρ
    · simpa [e] using ht
theorem RT.eval {P : Program} [ObjSem P] {ρ : Rho} {h : AH} {w : World} (s : Sim P ρ h w) {ts : List Value} {a : Act} (hr : RT ρ ts a) {x : Operand} (hx : okX P.globals.size x = true) :
    R ρ (evalX ts x) (a.eval x) := by
  cases x with
  | tmp t => exact hr.at_ t
  | const v => exact .of_plain hx
  | global g =>
    obtain ⟨l, hl⟩ := s.glob g (by simpa [okX] using hx)
    exact .ptr 0 hl
  | func f => exact .func _ _ _ _ _ rfl (fun i h1 => by simp at h1) rfl (fun i h1 => by simp at h1)
structure Is (P : Program) [ObjSem P] (ρ : Rho) (h : AH) (w : World) (a0 : Nat) (s' : St) (a : Act) (w' : World) (ρ' : Rho) : Prop where
  rt : RT ρ' s'.ts a
  st : Step P ρ h w ρ' s'.h w'
  df : Marks a0 ρ' s'.h w' a.defers
theorem yield_rt {ρ : Rho} {ts : List Value} {a : Act} (hr : RT ρ ts a) (ops : Array Oper) (j : Nat) : ∀ b, yieldL ops.toList ts j = some b → yielded ops a.tmps j = some b := by
  intro b h
  unfold yieldL at h
  unfold yielded
  rw [Array.getElem?_toList] at h
  cases ho : ops[j]? with
  | none => rw [ho] at h; cases h
  | some o =>
    rw [ho] at h
    simp only [Option.bind_some] at h ⊢
    cases hd : o.dst with
    | none => rw [hd] at h; cases h
    | some d =>
      rw [hd] at h
      simp only [Option.bind_some] at h ⊢
      have ht := hr.at_ d
      cases hv : ts[d]? with
      | none => rw [hv] at h; cases h
      | some v =>
        rw [hv] at h
        cases v with
        | bool c =>
          cases h
          have hd : d < ts.length := (List.getElem?_eq_some_iff.1 hv).1
          have hd' : d < a.tmps.size := by rw [hr.size]; exact hd
          simp only [List.getD_eq_getElem?_getD, hv, Option.getD_some, Array.getD_eq_getD_getElem?] at ht
          have : a.tmps[d]? = some a.tmps[d] := by simp [hd']
          rw [this] at ht ⊢
          simp only [Option.getD_some] at ht
          generalize a.tmps[d] = q at ht
          cases ht
          rfl
        | _ => cases h
theorem yield_rt_none {ρ : Rho} {ts : List Value} {a : Act} (hr : RT ρ ts a) (ops : Array Oper) (j : Nat) (h : yieldL ops.toList ts j = none) (hk : ∀ q d v, ops[j]? = some q → q.dst = some d → ts[d]? = some v → isDC v = false) : yielded ops a.tmps j = none := by
  cases hy : yielded ops a.tmps j with
  | none => rfl
  | some b =>
    exfalso
    unfold yieldL at h
    unfold yielded at hy
    rw [Array.getElem?_toList] at h
    cases ho : ops[j]? with
    | none => rw [ho] at hy; cases hy
    | some o =>
      rw [ho] at h hy
      simp only [Option.bind_some] at h hy
      cases hd : o.dst with
      | none => rw [hd] at hy; cases hy
      | some d =>
        rw [hd] at h hy
        simp only [Option.bind_some] at h hy
        have ht := hr.at_ d
        simp only [List.getD_eq_getElem?_getD, Array.getD_eq_getD_getElem?] at ht
        cases hq : a.tmps[d]? with
        | none => rw [hq] at hy; cases hy
        | some q =>
          rw [hq] at hy ht
          cases q with
          | bool c =>
            simp only [Option.getD_some] at ht
            cases hv : ts[d]? with
            | none =>
              rw [hv] at ht
              simp only [Option.getD_none, undef] at ht
              cases ht
            | some v =>
              have hkk := hk o d v ho hd hv
              rw [hv] at ht h
              simp only [Option.getD_some] at ht
              cases ht
              · cases h
              · cases hkk
          | _ => cases hy
theorem wanted_rt {ρ : Rho} {ts : List Value} {a : Act} (hr : RT ρ ts a) (ops : Array Oper) (o : Oper) (hk : knownL ops.toList ts o = true) : Region.wanted o (yielded ops a.tmps) = wantedL ops.toList ts o := by
  unfold Region.wanted wantedL
  cases hg : o.guard with
  | none => rfl
  | some p =>
    obtain ⟨j, want⟩ := p
    simp only
    cases hy : yieldL ops.toList ts j with
    | none =>
      rw [yield_rt_none hr ops j hy ?_]; rfl
      intro q d v h1 h2 h3
      unfold knownL at hk
      rw [hg] at hk
      simp only [Array.getElem?_toList, h1, h2, h3] at hk
      simpa using hk
    | some b => rw [yield_rt hr ops j b hy]; cases b <;> cases want <;> rfl
theorem evOps_wp (hC : C.ok P) {Γ : Calling} (hΓ : SoundC P Γ) {r : Option Nat} (ops : Array Oper) (hok : okOps P.globals.size ops.toList = true) {a0 : Nat} {ρ0 : Rho} {h0 : AH} {w0 : World} {Q : Exit → Act → World → Prop} :
    ∀ (k : Nat) (s s' : St) (a : Act) (w : World) (ρ : Rho), evOps P C Γ ops.toList (ops.toList.drop k) s = some s' → Is P ρ0 h0 w0 a0 s a w ρ →
      (∀ a' w' ρ', Is P ρ0 h0 w0 a0 s' a' w' ρ' → Q .normal a' w') → wpOpsIn (Fr r) 0 P ops Q (List.range' k (ops.size - k)) a w := by
  intro k
  generalize hn : ops.size - k = n
  induction n generalizing k with
  | zero =>
    intro s s' a w ρ hs hi hQ
    have : ops.toList.drop k = [] := by simp; omega
    rw [this] at hs
    simp only [evOps, Option.some.injEq] at hs; subst hs
    simpa [wpOpsIn] using hQ a w ρ hi
  | succ n ih =>
    intro s s' a w ρ hs hi hQ
    have hk : k < ops.size := by omega
    have hd : ops.toList.drop k = ops[k] :: ops.toList.drop (k + 1) := by
      rw [List.drop_eq_getElem_cons (by simpa using hk)]; simp
    rw [hd] at hs
    rw [List.range'_succ, wpOpsIn_cons]
    unfold wpOpIn
    have ho : ops[k]? = some ops[k] := by simp [hk]
    simp only [ho]
    simp only [evOps] at hs
    cases hkn : knownL ops.toList s.ts ops[k] with
    | false => rw [hkn] at hs; cases hs
    | true =>
    rw [hkn] at hs
    dsimp only at hs
    rw [wanted_rt hi.rt ops _ hkn]
    cases hw : wantedL ops.toList s.ts ops[k] with
    | true =>
      rw [hw] at hs
      simp only [if_true]
      dsimp only at hs
      split at hs
      · rename_i v h' hdo
        refine doOp_wp hC hΓ hdo ?_ hi.st.sim ?_
        · intro x hx
          have := List.all_eq_true.1 (List.all_eq_true.1 hok ops[k] (by simp)) x hx
          exact hi.rt.eval hi.st.sim this
        · intro v' w' ρ' hv st
          exact ih (k + 1) (by omega) _ s' _ w' ρ' hs ⟨(hi.rt.mono st.ext).put hv _, hi.st.trans st, by cases hdst : ops[k].dst <;> exact hi.df.step st⟩ hQ
      · cases hs
    | false =>
      rw [hw] at hs
      simp only [Bool.false_eq_true, if_false]
      exact ⟨fun _ _ => trivial, ih (k + 1) (by omega) _ s' _ w ρ hs ⟨hi.rt.put (R.undef _) _, hi.st, by cases hdst : ops[k].dst <;> exact hi.df⟩ hQ⟩
theorem evRegion_plain (hC : C.ok P) {Γ : Calling} (hΓ : SoundC P Γ) {r : Option Nat} {id : Nat} (ops : Array Oper) (hok : okOps P.globals.size ops.toList = true) {a0 : Nat} {ρ0 : Rho} {h0 : AH} {w0 : World} {Q : Exit → Act → World → Prop}
    {s s' : St} {a : Act} {w : World} {ρ : Rho} (hs : evOps P C Γ ops.toList ops.toList s = some s') (hi : Is P ρ0 h0 w0 a0 s a w ρ)
    (hQ : ∀ a' w' ρ', Is P ρ0 h0 w0 a0 s' a' w' ρ' → Q .normal a' w') : (Code.region id ops false).wpIn (Fr r) 0 P Q a w := by
  refine wpIn_region ?_
  have := evOps_wp (r := r) hC hΓ ops hok 0 s s' a w ρ (by simpa using hs) hi hQ
  rw [List.range_eq_range']
  simpa using this
end
end Go.Eng
namespace Go.Eng
set_option linter.unusedVariables false
set_option linter.unusedSimpArgs false
set_option linter.unusedSectionVars false
open Go
set_option linter.unusedVariables false
set_option linter.unusedSimpArgs false
structure SimG (P : Program) [ObjSem P] (ρ : Rho) (g : Nat → Option AObj) (nx : Nat) (w : World) : Prop where
  blk : ∀ a o, g a = some o → ∃ b l o', ρ a = some (b, l) ∧ w.heap[b]? = some o' ∧ RObj P ρ l o o'
  lt : ∀ a b l, ρ a = some (b, l) → a < nx ∧ b < w.heap.size
  ow : Own P ρ g w
  glob : ∀ i, i < P.globals.size → ∃ l, ρ i = some (i, l)
theorem Sim.toG {P : Program} [ObjSem P] {ρ : Rho} {h : AH} {w : World} (s : Sim P ρ h w) : SimG P ρ h.get h.next w := ⟨s.blk, s.lt, s.ow, s.glob⟩
theorem SimG.toSim {P : Program} [ObjSem P] {ρ : Rho} {h : AH} {w : World} (s : SimG P ρ h.get h.next w) : Sim P ρ h w := ⟨s.blk, s.lt, s.ow, s.glob⟩
theorem SimG.weaken {P : Program} [ObjSem P] {ρ : Rho} {g : Nat → Option AObj} {nx nx' : Nat} {w : World} (s : SimG P ρ g nx w) (h : nx ≤ nx') : SimG P ρ g nx' w :=
  ⟨s.blk, fun a b l hr => ⟨Nat.lt_of_lt_of_le (s.lt a b l hr).1 h, (s.lt a b l hr).2⟩, s.ow, s.glob⟩
structure StepG (ρ : Rho) (g : Nat → Option AObj) (w : World) (ρ' : Rho) (g' : Nat → Option AObj) (w' : World) : Prop where
  ext : ρ.le ρ'
  os : w'.os = w.os
  tape : w'.tape = w.tape
  output : w'.output = w.output
  size : w.heap.size ≤ w'.heap.size
  keep : ∀ b, b < w.heap.size → (∀ a, g a ≠ none → ¬ ρ.φ a b) → w'.heap[b]? = w.heap[b]?
  img : ∀ a o b l, g' a = some o → ρ' a = some (b, l) → b < w.heap.size → ∃ a0 o0 l0, g a0 = some o0 ∧ ρ a0 = some (b, l0) ∧ (o.rw = true → o0.rw = true)
  imf : ∀ a b, g' a ≠ none → ρ'.φ a b → b < w.heap.size → ∃ a0, g a0 ≠ none ∧ ρ.φ a0 b
theorem Step.toG {P : Program} [ObjSem P] {ρ ρ' : Rho} {h h' : AH} {w w' : World} (s : Step P ρ h w ρ' h' w') : StepG ρ h.get w ρ' h'.get w' :=
  ⟨s.ext, s.os, s.tape, s.output, s.size, s.keep, s.img, s.imf⟩
theorem StepG.refl (ρ : Rho) (g : Nat → Option AObj) (w : World) : StepG ρ g w ρ g w :=
  ⟨Rho.le.refl _, rfl, rfl, rfl, Nat.le_refl _, fun _ _ _ => rfl, fun a o b l hg hr _ => ⟨a, o, l, hg, hr, id⟩, fun a b hg hr _ => ⟨a, hg, hr⟩⟩
theorem StepG.trans {ρ ρ1 ρ2 : Rho} {h h1 h2 : Nat → Option AObj} {w w1 w2 : World} (s : StepG ρ h w ρ1 h1 w1) (t : StepG ρ1 h1 w1 ρ2 h2 w2) : StepG ρ h w ρ2 h2 w2 where
  ext := s.ext.trans t.ext
  os := t.os.trans s.os
  tape := t.tape.trans s.tape
  output := t.output.trans s.output
  size := Nat.le_trans s.size t.size
  keep := fun b hb hk => by
    rw [t.keep b (Nat.lt_of_lt_of_le hb s.size) ?_, s.keep b hb hk]
    intro a hg hr
    obtain ⟨a0, hg0, hr0⟩ := s.imf a b hg hr hb
    exact hk a0 hg0 hr0
  img := fun a o b l hg hr hb => by
    obtain ⟨a1, o1, l1, hg1, hr1, hw1⟩ := t.img a o b l hg hr (Nat.lt_of_lt_of_le hb s.size)
    obtain ⟨a0, o0, l0, hg0, hr0, hw0⟩ := s.img a1 o1 b l1 hg1 hr1 hb
    exact ⟨a0, o0, l0, hg0, hr0, fun hw => hw0 (hw1 hw)⟩
  imf := fun a b hg hr hb => by
    obtain ⟨a1, hg1, hr1⟩ := t.imf a b hg hr (Nat.lt_of_lt_of_le hb s.size)
    exact s.imf a1 b hg1 hr1 hb
theorem SimG.alloc {P : Program} [ObjSem P] {ρ : Rho} {g : Nat → Option AObj} {nx : Nat} {w : World} (s : SimG P ρ g nx w) (nm : Nat) (hnm : nm < nx) (hρ : ρ nm = none) (hg : g nm = none) (o : AObj) (o' : Obj) (l : Nat) (hr : RObj P ρ l o o') (hm : ∀ m, o ≠ .mach m := by intro m hm; cases hm) :
    SimG P (ρ.add nm w.heap.size l o.rw) (fun a => if a = nm then some o else g a) nx (w.alloc o') ∧
    StepG ρ g w (ρ.add nm w.heap.size l o.rw) (fun a => if a = nm then some o else g a) (w.alloc o') := by
  have hle : ρ.le (ρ.add nm w.heap.size l o.rw) := Rho.add_le hρ
  refine ⟨⟨?_, ?_, s.ow.alloc nm (fun a b l hr => (s.lt a b l hr).2) o hm o' hr.nd l, ?_⟩, hle, rfl, rfl, rfl, by simp, fun b hb _ => heapOld _ _ _ hb, ?_, ?_⟩
  · intro a q hq
    rw [Rho.add_f]
    by_cases ha : a = nm
    · simp [ha] at hq; subst hq
      exact ⟨w.heap.size, l, o', by simp [ha], heapNew _ _, hr.mono hle⟩
    · simp [ha] at hq
      obtain ⟨b, m, q', h1, h2, h3⟩ := s.blk a q hq
      refine ⟨b, m, q', by simp [ha, h1], ?_, h3.mono hle⟩
      rw [heapOld _ _ _ (s.lt a b m h1).2]; exact h2
  · intro a b m hk
    rw [Rho.add_f] at hk
    by_cases ha : a = nm
    · simp [ha] at hk; obtain ⟨rfl, rfl⟩ := hk; exact ⟨by omega, by simp⟩
    · simp [ha] at hk; have := s.lt a b m hk; exact ⟨this.1, by simp; omega⟩
  · intro i hi
    obtain ⟨m, hm⟩ := s.glob i hi
    exact ⟨m, hle i _ hm⟩
  · intro a q b m hq hk hb
    rw [Rho.add_f] at hk
    by_cases ha : a = nm
    · simp [ha] at hk; omega
    · simp [ha] at hk hq; exact ⟨a, q, m, hq, hk, id⟩
  · intro a b hq hk hb
    rw [Rho.add_φ] at hk
    by_cases ha : a = nm
    · simp [ha] at hk; omega
    · simp only [ha, if_false] at hk hq; exact ⟨a, hq, hk⟩
theorem SimG.more {P : Program} [ObjSem P] {ρ : Rho} {g : Nat → Option AObj} {nx : Nat} {w : World} (s : SimG P ρ g nx w) (o' : Obj) : SimG P ρ g nx (w.alloc o') := by
  refine ⟨fun a o hg => ?_, fun a b l hr => ⟨(s.lt a b l hr).1, ?_⟩, s.ow.grown (by simp) fun a x h1 h2 => heapOld _ _ _ (s.ow.size h1 h2), s.glob⟩
  · obtain ⟨b, l, q, h1, h2, h3⟩ := s.blk a o hg
    exact ⟨b, l, q, h1, by rw [heapOld _ _ _ (s.lt a b l h1).2]; exact h2, h3⟩
  · have := (s.lt a b l hr).2
    simp; omega
theorem StepG.more {ρ ρ' : Rho} {g g' : Nat → Option AObj} {w w' : World} (s : StepG ρ g w ρ' g' w') (o' : Obj) : StepG ρ g w ρ' g' (w'.alloc o') :=
  ⟨s.ext, s.os, s.tape, s.output, Nat.le_trans s.size (by simp), fun b hb hk => by rw [heapOld _ _ _ (Nat.lt_of_lt_of_le hb s.size)]; exact s.keep b hb hk, s.img, s.imf⟩
theorem Own.adopt {P : Program} [ObjSem P] {ρ : Rho} {g : Nat → Option AObj} {w : World} (s : Own P ρ g w) (nm b : Nat) (hf : ∀ a l', g a ≠ Option.none → ρ a ≠ some (b, l')) (hφ : ∀ a, g a ≠ Option.none → ¬ ρ.φ a b) (o : AObj) (hm : ∀ m, o ≠ .mach m) (o' : Obj) (hb : w.heap[b]? = some o') (hnd : nd o') (l : Nat) :
    Own P (ρ.add nm b l o.rw) (fun a => if a = nm then some o else g a) w := by
  refine ⟨fun a a' x h1 h2 h3 h4 => ?_, fun a q b' m h1 h2 h3 => ?_, fun a q x h1 h2 h3 => ?_, fun a x h1 h2 => ?_, fun a m b' k h1 h2 => ?_⟩
  · rw [Rho.add_φ] at h3 h4
    simp only [Rho.add_f] at h4
    by_cases ha : a = nm <;> by_cases ha' : a' = nm
    · rw [ha, ha']
    · simp only [ha, ha', if_true, if_false] at h2 h3 h4
      rcases h4 with h4 | ⟨m, h4⟩
      · rw [h3.2] at h4; exact absurd h4 (hφ a' h2)
      · rw [h3.2] at h4; exact absurd h4 (hf a' m h2)
    · simp only [ha, ha', if_true, if_false] at h1 h3 h4
      rcases h4 with h4 | ⟨m, h4⟩
      · rw [h4.2] at h3; exact absurd h3 (hφ a h1)
      · simp at h4; rw [← h4.1] at h3; exact absurd h3 (hφ a h1)
    · simp only [ha, ha', if_false] at h1 h2 h3 h4
      exact s.sep a a' x h1 h2 h3 h4
  · rw [Rho.add_φ]
    rw [Rho.add_f] at h3
    by_cases ha : a = nm
    · simp only [ha, if_true] at h1 h3 ⊢
      cases h1; cases h3; exact ⟨h2, rfl⟩
    · simp only [ha, if_false] at h1 h3 ⊢
      exact s.own a q b' m h1 h2 h3
  · rw [Rho.add_φ] at h3
    by_cases ha : a = nm
    · simp only [ha, if_true] at h1 h3
      cases h1; rw [h2] at h3; cases h3.1
    · simp only [ha, if_false] at h1 h3
      exact s.ro a q x h1 h2 h3
  · rw [Rho.add_φ] at h2
    by_cases ha : a = nm
    · simp only [ha, if_true] at h2
      exact ⟨o', by rw [h2.2]; exact hb, hnd⟩
    · simp only [ha, if_false] at h1 h2
      exact s.lt a x h1 h2
  · rw [Rho.add_f] at h2
    by_cases ha : a = nm
    · simp only [ha, if_true] at h1
      cases h1; exact absurd rfl (hm m)
    · simp only [ha, if_false] at h1 h2
      have hφ' : (ρ.add nm b l o.rw).φ a = ρ.φ a := by
        funext x; exact propext (by rw [Rho.add_φ, if_neg ha])
      rw [hφ']
      exact s.mach a m b' k h1 h2
theorem SimG.adopt {P : Program} [ObjSem P] {ρ : Rho} {g : Nat → Option AObj} {nx : Nat} {w : World} (s : SimG P ρ g nx w) (nm b : Nat) (hnm : nm < nx) (hρ : ρ nm = none) (hf : ∀ a l', g a ≠ none → ρ a ≠ some (b, l')) (hφ : ∀ a, g a ≠ none → ¬ ρ.φ a b) (o : AObj) (hm : ∀ m, o ≠ .mach m) (o' : Obj) (hb : w.heap[b]? = some o') (l : Nat) (hr : RObj P ρ l o o') :
    SimG P (ρ.add nm b l o.rw) (fun a => if a = nm then some o else g a) nx w := by
  have hle : ρ.le (ρ.add nm b l o.rw) := Rho.add_le hρ
  refine ⟨?_, ?_, s.ow.adopt nm b hf hφ o hm o' hb hr.nd l, ?_⟩
  · intro a q hq
    rw [Rho.add_f]
    by_cases ha : a = nm
    · simp [ha] at hq; subst hq
      exact ⟨b, l, o', by simp [ha], hb, hr.mono hle⟩
    · simp [ha] at hq
      obtain ⟨b', m, q', h1, h2, h3⟩ := s.blk a q hq
      exact ⟨b', m, q', by simp [ha, h1], h2, h3.mono hle⟩
  · intro a b' m hk
    rw [Rho.add_f] at hk
    by_cases ha : a = nm
    · simp [ha] at hk; obtain ⟨rfl, rfl⟩ := hk; exact ⟨by omega, (Array.getElem?_eq_some_iff.1 hb).1⟩
    · simp [ha] at hk; exact s.lt a b' m hk
  · intro i hi
    obtain ⟨m, hm⟩ := s.glob i hi
    exact ⟨m, hle i _ hm⟩
theorem StepG.adopt {ρ ρ' : Rho} {g g' : Nat → Option AObj} {w w' : World} (s : StepG ρ g w ρ' g' w') (nm b l : Nat) (o : AObj) (hb : w.heap.size ≤ b) (hρ : ρ' nm = none) :
    StepG ρ g w (ρ'.add nm b l o.rw) (fun a => if a = nm then some o else g' a) w' := by
  refine ⟨s.ext.trans (Rho.add_le hρ), s.os, s.tape, s.output, s.size, s.keep, fun a q b' m h1 h2 h3 => ?_, fun a x h1 h2 h3 => ?_⟩
  · rw [Rho.add_f] at h2
    by_cases ha : a = nm
    · simp [ha] at h2; omega
    · simp [ha] at h1 h2; exact s.img a q b' m h1 h2 h3
  · rw [Rho.add_φ] at h2
    by_cases ha : a = nm
    · simp [ha] at h2; omega
    · simp only [ha, if_false] at h1 h2; exact s.imf a x h1 h2 h3
theorem loadV_congr {P : Program} [ObjSem P] {t : TypeId} {x : Value} {rd rd' : Nat → Option AObj} (h : ∀ ad, x = .pointer (some ad) → rd ad.block = rd' ad.block) : loadV P t x rd = loadV P t x rd' := by
  unfold loadV
  split
  · rename_i a off; rw [h _ rfl]
  · rfl
theorem lookupV_congr {P : Program} [ObjSem P] {t : TypeId} {m k : Value} {ok : Bool} {rd rd' : Nat → Option AObj} (h : ∀ r, m = .map (some r) → rd r = rd' r) : lookupV P t m k ok rd = lookupV P t m k ok rd' := by
  unfold lookupV lookM
  cases m <;> try rfl
  rename_i r
  cases r with
  | none => rfl
  | some r => simp only [h r rfl]
theorem convV_congr {P : Program} [ObjSem P] {s d : TypeId} {x : Value} {rd rd' : Nat → Option AObj} (h : ∀ ad n c, x = .slice (some ad) (n + 1) c → rd ad.block = rd' ad.block) : convV P s d x rd = convV P s d x rd' := by
  unfold convV
  split <;> try rfl
  rename_i a off n c hn _ _
  cases n with
  | zero => exact (hn rfl).elim
  | succ n => rw [h _ _ _ rfl]
theorem lenV_congr {P : Program} [ObjSem P] {t : TypeId} {m : Value} {rd rd' : Nat → Option AObj} (h : ∀ r, m = .map (some r) → rd r = rd' r) : lenV P t m rd = lenV P t m rd' := by
  unfold lenV
  split <;> try rfl
  rw [h _ rfl]
theorem evL_congr {P : Program} [ObjSem P] {C : Cfg} (o : Oper) (e : Operand → Value) (rd rd' : Nat → Option AObj) (h : ∀ a, readBlk o e = some a → rd a = rd' a) : evL P C o e rd = evL P C o e rd' := by
  obtain ⟨dst, op, type, pos, after, guard⟩ := o
  unfold evL
  unfold readBlk at h
  cases op <;> try rfl
  case makeMap t r => cases r <;> rfl
  case load t x =>
    simp only at h ⊢
    rw [loadV_congr (rd' := rd') fun ad hx => h _ (by rw [hx])]
  case lookup t m k ok =>
    simp only at h ⊢
    rw [lookupV_congr (rd' := rd') fun r hx => h _ (by rw [hx])]
  case convert s d x =>
    simp only at h ⊢
    rw [convV_congr (rd' := rd') fun ad n c hx => h _ (by rw [hx])]
  case call c =>
    obtain ⟨callee, args, ts⟩ := c
    cases callee with
    | value f => rfl
    | invoke r m => rfl
    | builtin b =>
      cases b <;> try rfl
      simp only at h ⊢
      split
      · rename_i x t hx ht
        rw [hx] at h
        simp only at h
        rw [lenV_congr (rd' := rd') fun r hx => h _ (by rw [hx])]
      · rfl
open Classical in
theorem evL_rd {P : Program} [ObjSem P] {C : Cfg} (o : Oper) (e : Operand → Value) (rd : Nat → Option AObj) : evL P C o e rd = evL P C o e (fun a => if readBlk o e = some a then rd a else none) :=
  evL_congr o e _ _ fun a ha => by simp [ha]
theorem readBlk_isRd {o : Oper} {e : Operand → Value} {a : Nat} (h : readBlk o e = some a) : isRd o.op = true := by
  unfold readBlk at h
  split at h
  · rename_i ho; rw [ho]; rfl
  · rename_i ho; rw [ho]; rfl
  · rename_i ho; rw [ho]; rfl
  · rename_i ho; rw [ho]; rfl
  · cases h
theorem readBlk_rho {ρ : Rho} {o : Oper} {e e' : Operand → Value} {a : Nat} (h : readBlk o e = some a) (he : ∀ x ∈ o.op.operands.toList, R ρ (e x) (e' x)) : ∃ b l, ρ a = some (b, l) := by
  unfold readBlk at h
  split at h
  · rename_i t x ho
    have hx := he x (by rw [ho]; simp [Op.operands])
    split at h
    · rename_i ad hq
      rw [hq] at hx
      generalize e' x = q at hx
      cases hx with | ptr off hρ => cases h; exact ⟨_, _, hρ⟩
    · cases h
  · rename_i t m k ok ho
    have hx := he m (by rw [ho]; simp [Op.operands])
    split at h
    · rename_i r hq
      rw [hq] at hx; subst h
      generalize e' m = q at hx
      cases hx with | map hρ => exact ⟨_, _, hρ⟩
    · cases h
  · rename_i s d x ho
    have hx := he x (by rw [ho]; simp [Op.operands])
    split at h
    · rename_i ad n c hq
      rw [hq] at hx
      generalize e' x = q at hx
      cases hx with
      | slice _ _ _ _ hρ => cases h; exact ⟨_, _, hρ⟩
    · cases h
  · rename_i args ts ho
    split at h
    · rename_i x hx0
      have hx := he x (by rw [ho]; simp [Op.operands, Call.operands, hx0])
      split at h
      · rename_i r hq
        rw [hq] at hx; subst h
        generalize e' x = q at hx
        cases hx with | map hρ => exact ⟨_, _, hρ⟩
      · cases h
    · cases h
  · cases h
theorem evL_isA {P : Program} [ObjSem P] {C : Cfg} {o : Oper} {e : Operand → Value} {rd : Nat → Option AObj} {r : LRes} {ob : AObj} (h : evL P C o e rd = some r) (ho : r.obj = some ob) : isA o.op = true ∧ isRd o.op = false := by
  obtain ⟨dst, op, type, pos, after, guard⟩ := o
  unfold evL at h
  cases op <;> simp only at h <;> try (first | (cases h; done) | exact ⟨rfl, rfl⟩ | (cases h; cases ho; done) | (split at h <;> cases h <;> cases ho; done))
  case extract =>
    split at h
    · rename_i vs hvs
      cases hvb : Nat.blt 1 vs.size with
      | false => rw [hvb] at h; cases h
      | true => rw [hvb] at h; dsimp only [cond] at h; split at h <;> cases h <;> cases ho
    · cases h
  case nilCheck =>
    split at h
    · cases h; cases ho
    · cases h; cases ho
    · cases h; cases ho
    · rename_i l a b hv
      cases hab : a.isEmpty && b.isEmpty with
      | false => rw [hab] at h; cases h
      | true => rw [hab] at h; cases h; cases ho
    · cases h
  case call c =>
    obtain ⟨callee, args, ts⟩ := c
    cases callee with
    | value f => cases h
    | invoke r m => cases h
    | builtin b =>
      cases b <;> simp only at h <;> try (cases h; done)
      all_goals (split at h <;> (try (split at h)) <;> cases h <;> cases ho)
section
variable {P : Program} [ObjSem P] {C : Cfg} {Γ : Calling}
structure Trace (P : Program) (C : Cfg) (Γ : Calling) (ops : Array Oper) (ms : List Nat) (s0 : St) (bs : Nat) (T : Nat → St) (V : Nat → Value) : Prop where
  start : T 0 = s0
  step : ∀ i (hi : i < ops.size),
    ((wantedL ops.toList (T i).ts ops[i] = true ∧ doOp P C Γ ops[i] (evalX (T i).ts) (T i).h = some (V i, (T (i + 1)).h)) ∨
     (wantedL ops.toList (T i).ts ops[i] = false ∧ V i = undef ∧ (T (i + 1)).h = (T i).h)) ∧ (T (i + 1)).ts = putL ops[i].dst (V i) (T i).ts
  known : ∀ i (hi : i < ops.size), knownL ops.toList (T i).ts ops[i] = true
  loose : ∀ i (hi : i < ops.size), wantedL ops.toList (T i).ts ops[i] = true → isRd ops[i].op = true → looseAt ms ops.toList i 0 ops.toList = true → ∀ b, readBlk ops[i] (evalX (T i).ts) = some b →
    ∃ M, i ≤ M ∧ M ≤ ops.size ∧ (lastLoose ms ops.toList i 0 ops.toList ≤ M ∨ M = ops.size) ∧ unwritten bs (T M).h [b] = true
def nextS (P : Program) (C : Cfg) (Γ : Calling) (ops : Array Oper) (i : Nat) (s : St) : St × Value :=
  match ops[i]? with
  | none => (s, undef)
  | some o => match wantedL ops.toList s.ts o with
    | true => match doOp P C Γ o (evalX s.ts) s.h with
      | some (v, h) => (⟨putL o.dst v s.ts, h⟩, v)
      | none => (s, undef)
    | false => (⟨putL o.dst undef s.ts, s.h⟩, undef)
def trT (P : Program) (C : Cfg) (Γ : Calling) (ops : Array Oper) (s0 : St) : Nat → St
  | 0 => s0
  | i + 1 => (nextS P C Γ ops i (trT P C Γ ops s0 i)).1
def trV (P : Program) (C : Cfg) (Γ : Calling) (ops : Array Oper) (s0 : St) (i : Nat) : Value := (nextS P C Γ ops i (trT P C Γ ops s0 i)).2
theorem settle_ok {c0 i : Nat} {h : AH} : ∀ (acc acc' : List (Nat × Nat)), settle c0 i h acc = some acc' → ∀ b m, (b, m) ∈ acc → (m ≤ i ∧ unwritten c0 h [b] = true) ∨ (b, m) ∈ acc'
  | [], acc', hs, b, m, hb => by cases hb
  | (x, y) :: r, acc', hs, b, m, hb => by
    simp only [settle] at hs
    cases hxy : Nat.ble y i with
    | true =>
      rw [hxy] at hs
      dsimp only at hs
      cases hu : unwritten c0 h [x] with
      | false => rw [hu] at hs; cases hs
      | true =>
        rw [hu] at hs
        dsimp only at hs
        rcases List.mem_cons.1 hb with he | hb
        · cases he; exact .inl ⟨Nat.le_of_ble_eq_true hxy, hu⟩
        · exact settle_ok r acc' hs b m hb
    | false =>
      rw [hxy] at hs
      dsimp only at hs
      cases hq : settle c0 i h r with
      | none => rw [hq] at hs; cases hs
      | some l =>
        rw [hq] at hs
        cases hs
        rcases List.mem_cons.1 hb with he | hb
        · cases he; exact .inr (List.mem_cons_self ..)
        · rcases settle_ok r l hq b m hb with h1 | h1
          · exact .inl h1
          · exact .inr (List.mem_cons_of_mem _ h1)
theorem unwritten_one {c0 : Nat} {h : AH} : ∀ (bs : List Nat), unwritten c0 h bs = true → ∀ b ∈ bs, unwritten c0 h [b] = true
  | [], _, b, hb => by cases hb
  | x :: r, hu, b, hb => by
    simp only [unwritten, Bool.and_eq_true] at hu
    rcases List.mem_cons.1 hb with rfl | hb
    · simp only [unwritten, Bool.and_eq_true]; exact ⟨hu.1, trivial⟩
    · exact unwritten_one r hu.2 b hb
theorem evDraw_go (ops : Array Oper) (ms : List Nat) (s0 : St) (c0 : Nat) : ∀ (n i : Nat) (acc : List (Nat × Nat)) (s' : St) (bs : List (Nat × Nat)), ops.size - i = n → i ≤ ops.size →
    evDraw P C Γ ms ops.toList c0 i (ops.toList.drop i) (trT P C Γ ops s0 i) acc = some (s', bs) → unwritten c0 s'.h (bs.map Prod.fst) = true →
    trT P C Γ ops s0 ops.size = s' ∧ (∀ b m, (b, m) ∈ acc → ∃ M, i ≤ M ∧ M ≤ ops.size ∧ (m ≤ M ∨ M = ops.size) ∧ unwritten c0 (trT P C Γ ops s0 M).h [b] = true) ∧ ∀ j (hj : j < ops.size), i ≤ j →
      (((wantedL ops.toList (trT P C Γ ops s0 j).ts ops[j] = true ∧ doOp P C Γ ops[j] (evalX (trT P C Γ ops s0 j).ts) (trT P C Γ ops s0 j).h = some (trV P C Γ ops s0 j, (trT P C Γ ops s0 (j + 1)).h)) ∨
        (wantedL ops.toList (trT P C Γ ops s0 j).ts ops[j] = false ∧ trV P C Γ ops s0 j = undef ∧ (trT P C Γ ops s0 (j + 1)).h = (trT P C Γ ops s0 j).h)) ∧
        (trT P C Γ ops s0 (j + 1)).ts = putL ops[j].dst (trV P C Γ ops s0 j) (trT P C Γ ops s0 j).ts) ∧
      knownL ops.toList (trT P C Γ ops s0 j).ts ops[j] = true ∧
      (wantedL ops.toList (trT P C Γ ops s0 j).ts ops[j] = true → isRd ops[j].op = true → looseAt ms ops.toList j 0 ops.toList = true → ∀ b, readBlk ops[j] (evalX (trT P C Γ ops s0 j).ts) = some b →
        ∃ M, j ≤ M ∧ M ≤ ops.size ∧ (lastLoose ms ops.toList j 0 ops.toList ≤ M ∨ M = ops.size) ∧ unwritten c0 (trT P C Γ ops s0 M).h [b] = true) := by
  intro n
  induction n with
  | zero =>
    intro i acc s' bs hn hi hs hun
    have hi : i = ops.size := by omega
    subst hi
    have : ops.toList.drop ops.size = [] := by simp
    rw [this] at hs
    simp only [evDraw, Option.some.injEq, Prod.mk.injEq] at hs
    obtain ⟨h1, h2⟩ := hs
    refine ⟨h1, fun b m hb => ⟨ops.size, Nat.le_refl _, Nat.le_refl _, .inr rfl, ?_⟩, fun j hj hij => by omega⟩
    rw [h1]
    exact unwritten_one _ hun b (List.mem_map.2 ⟨(b, m), by rw [← h2]; exact hb, rfl⟩)
  | succ n ih =>
    intro i acc0 s' bs hn hi hs hun
    have hk : i < ops.size := by omega
    have hd : ops.toList.drop i = ops[i] :: ops.toList.drop (i + 1) := by
      rw [List.drop_eq_getElem_cons (by simpa using hk)]; simp
    rw [hd] at hs
    have ho : ops[i]? = some ops[i] := by simp [hk]
    simp only [evDraw] at hs
    cases hst : settle c0 i (trT P C Γ ops s0 i).h acc0 with
    | none => rw [hst] at hs; cases hs
    | some acc =>
    rw [hst] at hs
    dsimp only at hs
    have hold : (∀ b m, (b, m) ∈ acc → ∃ M, i + 1 ≤ M ∧ M ≤ ops.size ∧ (m ≤ M ∨ M = ops.size) ∧ unwritten c0 (trT P C Γ ops s0 M).h [b] = true) →
        ∀ b m, (b, m) ∈ acc0 → ∃ M, i ≤ M ∧ M ≤ ops.size ∧ (m ≤ M ∨ M = ops.size) ∧ unwritten c0 (trT P C Γ ops s0 M).h [b] = true := by
      intro hrec b m hb
      rcases settle_ok acc0 acc hst b m hb with ⟨h1, h2⟩ | h1
      · exact ⟨i, Nat.le_refl _, by omega, .inl h1, h2⟩
      · obtain ⟨M, h2, h3, h4, h5⟩ := hrec b m h1
        exact ⟨M, by omega, h3, h4, h5⟩
    cases hkn : knownL ops.toList (trT P C Γ ops s0 i).ts ops[i] with
    | false => rw [hkn] at hs; cases hs
    | true =>
    rw [hkn] at hs
    dsimp only at hs
    cases hw : wantedL ops.toList (trT P C Γ ops s0 i).ts ops[i] with
    | true =>
      rw [hw] at hs
      dsimp only at hs
      split at hs
      · rename_i v h hdo
        have hT : trT P C Γ ops s0 (i + 1) = ⟨putL ops[i].dst v (trT P C Γ ops s0 i).ts, h⟩ := by simp [trT, nextS, ho, hw, hdo]
        have hV : trV P C Γ ops s0 i = v := by simp [trV, nextS, ho, hw, hdo]
        rw [← hT] at hs
        obtain ⟨h1, h2, h3⟩ := ih (i + 1) _ s' bs (by omega) (by omega) hs hun
        refine ⟨h1, hold ?_, ?_⟩
        · intro b m hb
          refine h2 b m ?_
          split
          · split
            · exact List.mem_cons_of_mem _ hb
            · exact hb
          · exact hb
        · intro j hj hij
          by_cases e : j = i
          · subst e
            refine ⟨⟨.inl ⟨hw, by rw [hdo, hV, hT]⟩, by rw [hT, hV]⟩, hkn, ?_⟩
            intro _ hrd hlo b hb
            obtain ⟨M, g1, g2, g3, g4⟩ := h2 b (Nat.max (j + 1) (lastLoose ms ops.toList j 0 ops.toList)) (by
              rw [hrd, hlo]
              simp [hb])
            refine ⟨M, by omega, g2, ?_, g4⟩
            rcases g3 with g3 | g3
            · exact .inl (Nat.le_trans (Nat.le_max_right _ _) g3)
            · exact .inr g3
          · exact h3 j hj (by omega)
      · cases hs
    | false =>
      rw [hw] at hs
      dsimp only at hs
      have hT : trT P C Γ ops s0 (i + 1) = ⟨putL ops[i].dst undef (trT P C Γ ops s0 i).ts, (trT P C Γ ops s0 i).h⟩ := by simp [trT, nextS, ho, hw]
      have hV : trV P C Γ ops s0 i = undef := by simp [trV, nextS, ho, hw]
      rw [← hT] at hs
      obtain ⟨h1, h2, h3⟩ := ih (i + 1) acc s' bs (by omega) (by omega) hs hun
      refine ⟨h1, hold h2, ?_⟩
      intro j hj hij
      by_cases e : j = i
      · subst e
        refine ⟨⟨.inr ⟨hw, hV, by rw [hT]⟩, by rw [hT, hV]⟩, hkn, ?_⟩
        intro hw2; rw [hw] at hw2; cases hw2
      · exact h3 j hj (by omega)
theorem evDraw_trace {ops : Array Oper} {ms : List Nat} {s0 s' : St} {c0 : Nat} {bs : List (Nat × Nat)} (hs : evDraw P C Γ ms ops.toList c0 0 ops.toList s0 [] = some (s', bs)) (hun : unwritten c0 s'.h (bs.map Prod.fst) = true) :
    ∃ T V, Trace P C Γ ops ms s0 c0 T V ∧ T ops.size = s' := by
  obtain ⟨h1, _, h3⟩ := evDraw_go (P := P) (C := C) (Γ := Γ) ops ms s0 c0 ops.size 0 [] s' bs rfl (Nat.zero_le _) (by simpa [trT] using hs) hun
  exact ⟨trT P C Γ ops s0, trV P C Γ ops s0, ⟨rfl, fun i hi => (h3 i hi (Nat.zero_le _)).1, fun i hi => (h3 i hi (Nat.zero_le _)).2.1, fun i hi => (h3 i hi (Nat.zero_le _)).2.2⟩, h1⟩
structure Ok (ops : Array Oper) (ms : List Nat) : Prop where
  back : ∀ i (hi : i < ops.size), ∀ e ∈ ops[i].after.toList, bindE e = true → e.on < i
  ancE : ∀ i (hi : i < ops.size) j, j < ops.size → anc ms i j = true → ∃ e ∈ ops[i].after.toList, bindE e = true ∧ (e.on = j ∨ anc ms e.on j = true)
  dst : ∀ i k (hi : i < ops.size) (hk : k < ops.size), i ≠ k → ∀ d, ops[i].dst = some d → ops[k].dst ≠ some d
  rdw : ∀ i k (hi : i < ops.size) (hk : k < ops.size), i ≠ k → ∀ t, ops[k].dst = some t → t ∈ readsOf ops.toList ops[i] → (k < i → anc ms i k = true) ∧ (i < k → anc ms k i = true)
  cc : ∀ i k (hi : i < ops.size) (hk : k < ops.size), i ≠ k → isC ops[i].op = true → isC ops[k].op = true → (k < i → anc ms i k = true) ∧ (i < k → anc ms k i = true)
  ac : ∀ i k (hi : i < ops.size) (hk : k < ops.size), i ≠ k → isA ops[i].op = true → isC ops[k].op = true → i < k → anc ms k i = true
theorem rel_of {ms : List Nat} {i k : Nat} (hne : i ≠ k) (h : (bif Nat.blt k i then anc ms i k else anc ms k i) = true) : (k < i → anc ms i k = true) ∧ (i < k → anc ms k i = true) := by
  cases hb : Nat.blt k i with
  | true =>
    rw [hb] at h
    have : k < i := by simpa using hb
    exact ⟨fun _ => h, fun h2 => by omega⟩
  | false =>
    rw [hb] at h
    have : ¬ k < i := fun hlt => by rw [show Nat.blt k i = true by simpa using hlt] at hb; cases hb
    exact ⟨fun h2 => absurd h2 this, fun _ => h⟩
theorem okDraw_ok {ops : Array Oper} (h : okDraw ops.toList = true) : Ok ops (masks ops.toList []) := by
  unfold okDraw at h
  simp only at h
  have h := List.all_eq_true.1 h
  have hz : ∀ i (hi : i < ops.size), (ops[i], i) ∈ ops.toList.zipIdx := fun i hi => by
    rw [List.mem_iff_getElem?]
    exact ⟨i, by simp [List.getElem?_zipIdx, hi]⟩
  have h1 : ∀ i (hi : i < ops.size), okAnc (masks ops.toList []) i ops.toList.length ops[i] = true := fun i hi => by
    have := h _ (hz i hi)
    rw [Bool.and_eq_true] at this
    exact this.1
  have h2 : ∀ i k (hi : i < ops.size) (hk : k < ops.size), okPair (masks ops.toList []) ops.toList i k ops[i] ops[k] = true := fun i k hi hk => by
    have := h _ (hz i hi)
    rw [Bool.and_eq_true] at this
    exact List.all_eq_true.1 this.2 _ (hz k hk)
  have h3 : ∀ i k (hi : i < ops.size) (hk : k < ops.size), i ≠ k →
      ((match ops[i].dst, ops[k].dst with | some d, some d' => !Nat.beq d d' | _, _ => true) = true ∧
       (match ops[k].dst with | some t => !(readsOf ops.toList ops[i]).contains t || (bif Nat.blt k i then anc (masks ops.toList []) i k else anc (masks ops.toList []) k i) | none => true) = true) ∧
       (!(isC ops[i].op && isC ops[k].op) || (bif Nat.blt k i then anc (masks ops.toList []) i k else anc (masks ops.toList []) k i)) = true ∧
       (!(isA ops[i].op && isC ops[k].op) || Nat.blt k i || anc (masks ops.toList []) k i) = true := fun i k hi hk hne => by
    have := h2 i k hi hk
    unfold okPair at this
    rw [Bool.or_eq_true] at this
    rcases this with h | h
    · exact absurd (beq_true h) hne
    · rw [Bool.and_eq_true, Bool.and_eq_true, Bool.and_eq_true] at h
      exact ⟨⟨h.1.1.1, h.1.1.2⟩, h.1.2, h.2⟩
  refine ⟨?_, ?_, ?_, ?_, ?_, ?_⟩
  · intro i hi e he hb
    have := h1 i hi
    unfold okAnc at this
    rw [Bool.and_eq_true] at this
    have := List.all_eq_true.1 this.1 e he
    rw [hb] at this
    simpa using this
  · intro i hi j hj ha
    have := h1 i hi
    unfold okAnc at this
    rw [Bool.and_eq_true] at this
    have := List.all_eq_true.1 this.2 j (by simpa using hj)
    rw [ha] at this
    simp only [Bool.not_true, Bool.false_or] at this
    obtain ⟨e, he, hb⟩ := List.any_eq_true.1 this
    rw [Bool.and_eq_true, Bool.or_eq_true] at hb
    exact ⟨e, he, hb.1, hb.2.imp beq_true id⟩
  · intro i k hi hk hne d hd hd'
    have := (h3 i k hi hk hne).1.1
    rw [hd, hd'] at this
    simp at this
  · intro i k hi hk hne t ht hm
    have := (h3 i k hi hk hne).1.2
    rw [ht] at this
    simp only at this
    rw [Bool.or_eq_true] at this
    rcases this with h | h
    · have hc : (readsOf ops.toList ops[i]).contains t = true := by simpa using hm
      rw [hc] at h; cases h
    · exact rel_of hne h
  · intro i k hi hk hne hc1 hc2
    have := (h3 i k hi hk hne).2.1
    rw [hc1, hc2] at this
    exact rel_of hne (by simpa using this)
  · intro i k hi hk hne hc1 hc2
    have := (h3 i k hi hk hne).2.2
    rw [hc1, hc2] at this
    intro hlt
    have hb : Nat.blt k i = false := by
      cases hb : Nat.blt k i with
      | false => rfl
      | true => have : k < i := by simpa using hb
                omega
    rw [hb] at this
    simpa using this
theorem Ok.anc_lt {ops : Array Oper} {ms : List Nat} (k : Ok ops ms) : ∀ (i : Nat) (hi : i < ops.size) (j : Nat), j < ops.size → anc ms i j = true → j < i := by
  intro i
  induction i using Nat.strongRecOn with
  | _ i ih =>
    intro hi j hj ha
    obtain ⟨e, he, hb, hor⟩ := k.ancE i hi j hj ha
    have hlt := k.back i hi e he hb
    rcases hor with h | h
    · omega
    · have := ih e.on hlt (by omega) j hj h; omega
def Closed (ops : Array Oper) (X : Nat → Prop) : Prop := ∀ i (hi : i < ops.size), X i → ∀ e ∈ ops[i].after.toList, bindE e = true → X e.on
theorem Closed.anc {ops : Array Oper} {ms : List Nat} (k : Ok ops ms) {X : Nat → Prop} (hX : Closed ops X) : ∀ (i : Nat) (hi : i < ops.size) (j : Nat), j < ops.size → X i → anc ms i j = true → X j := by
  intro i
  induction i using Nat.strongRecOn with
  | _ i ih =>
    intro hi j hj hx ha
    obtain ⟨e, he, hb, hor⟩ := k.ancE i hi j hj ha
    have hlt := k.back i hi e he hb
    have hxe := hX i hi hx e he hb
    rcases hor with h | h
    · rw [← h]; exact hxe
    · exact ih e.on hlt (by omega) j hj hxe h
theorem Closed.ready {ops : Array Oper} {ms : List Nat} (k : Ok ops ms) {X : Nat → Prop} (hX : Closed ops X) {i : Nat} (hi : i < ops.size) (hr : ∀ e ∈ ops[i].after.toList, bindE e = true → X e.on)
    {j : Nat} (hj : j < ops.size) (ha : Eng.anc ms i j = true) : X j := by
  obtain ⟨e, he, hb, hor⟩ := k.ancE i hi j hj ha
  have hxe := hr e he hb
  have hlt := k.back i hi e he hb
  rcases hor with h | h
  · rw [← h]; exact hxe
  · exact hX.anc k e.on (by omega) j hj hxe h
theorem looseAt_false {ms : List Nat} {ops : List Oper} {i : Nat} : ∀ (l : List Oper) (j : Nat), looseAt ms ops i j l = false → ∀ k (o : Oper), l[k]? = some o → isC o.op = true → i = j + k ∨ anc ms i (j + k) = true ∨ anc ms (j + k) i = true
  | [], j, h, k, o, ho, _ => by simp at ho
  | q :: l, j, h, k, o, ho, hc => by
    simp only [looseAt, Bool.or_eq_false_iff] at h
    cases k with
    | zero =>
      simp at ho; subst ho
      have h1 := h.1
      rw [hc] at h1
      simp only [Bool.true_and, Bool.and_eq_false_iff, Bool.not_eq_false'] at h1
      rcases h1 with (h1 | h1) | h1
      · exact .inl (by have := beq_true h1; omega)
      · exact .inr (.inl h1)
      · exact .inr (.inr h1)
    | succ k =>
      have := looseAt_false l (j + 1) h.2 k o (by simpa using ho) hc
      rw [show j + (k + 1) = j + 1 + k by omega]
      exact this
theorem lastLoose_le {ms : List Nat} {ops : List Oper} {i M : Nat} : ∀ (l : List Oper) (j : Nat), lastLoose ms ops i j l ≤ M → ∀ k (o : Oper), l[k]? = some o → isC o.op = true → M ≤ j + k → i = j + k ∨ anc ms i (j + k) = true ∨ anc ms (j + k) i = true
  | [], j, h, k, o, ho, _, _ => by simp at ho
  | q :: l, j, h, k, o, ho, hc, hM => by
    simp only [lastLoose] at h
    cases k with
    | zero =>
      simp at ho; subst ho
      have h1 := Nat.le_trans (Nat.le_max_left _ _) h
      cases hb : (isC q.op && !Nat.beq i j && !anc ms i j && !anc ms j i) with
      | true => rw [hb] at h1; simp at h1; omega
      | false =>
        rw [hc] at hb
        simp only [Bool.true_and, Bool.and_eq_false_iff, Bool.not_eq_false'] at hb
        rcases hb with (h1 | h1) | h1
        · exact .inl (by have := beq_true h1; omega)
        · exact .inr (.inl h1)
        · exact .inr (.inr h1)
    | succ k =>
      have := lastLoose_le l (j + 1) (Nat.le_trans (Nat.le_max_right _ _) h) k o (by simpa using ho) hc (by omega)
      rw [show j + (k + 1) = j + 1 + k by omega]
      exact this
theorem unwritten_mem {c0 : Nat} {h : AH} : ∀ (bs : List Nat), unwritten c0 h bs = true → ∀ b ∈ bs, ∃ s o, h.find b = some (s, o) ∧ s < c0
  | [], _, b, hb => by cases hb
  | x :: r, hu, b, hb => by
    simp only [unwritten, Bool.and_eq_true] at hu
    rcases List.mem_cons.1 hb with rfl | hb
    · have h1 := hu.1
      split at h1
      · rename_i s o hf; exact ⟨s, o, hf, by simpa using h1⟩
      · cases h1
    · exact unwritten_mem r hu.2 b hb
end
end Go.Eng
namespace Go.Eng
set_option linter.unusedVariables false
set_option linter.unusedSimpArgs false
set_option linter.unusedSectionVars false
open Go
set_option linter.unusedVariables false
set_option linter.unusedSimpArgs false
section
variable {P : Program} [ObjSem P] {C : Cfg} {Γ : Calling} {ops : Array Oper} {ms : List Nat} {s0 : St} {bs : Nat} {T : Nat → St} {V : Nat → Value}
def AL (ops : Array Oper) (T : Nat → St) (j : Nat) : Prop := ∃ (hj : j < ops.size) (ob : AObj), (T (j + 1)).h = (T j).h.new ob ∧ isA ops[j].op = true ∧ isC ops[j].op = false
theorem Trace.grow (hΓ : SoundC P Γ) (tr : Trace P C Γ ops ms s0 bs T V) (i : Nat) (hi : i < ops.size) : Grow (T i).h (T (i + 1)).h := by
  rcases (tr.step i hi).1 with ⟨_, h⟩ | ⟨_, _, h⟩
  · exact doOp_grow hΓ h
  · rw [h]; exact .refl _
theorem Trace.grows (hΓ : SoundC P Γ) (tr : Trace P C Γ ops ms s0 bs T V) (i : Nat) : ∀ p, i ≤ p → p ≤ ops.size → Grow (T i).h (T p).h := by
  intro p hip
  induction p with
  | zero => intro _; have : i = 0 := by omega
            subst this; exact .refl _
  | succ p ih =>
    intro hp
    by_cases e : i = p + 1
    · subst e; exact .refl _
    · exact (ih (by omega) (by omega)).trans (tr.grow hΓ p (by omega))
theorem Trace.loc (tr : Trace P C Γ ops ms s0 bs T V) (i : Nat) (hi : i < ops.size) (hc : isC ops[i].op = false) : (T (i + 1)).h = (T i).h ∨ AL ops T i := by
  rcases (tr.step i hi).1 with ⟨_, h⟩ | ⟨_, _, h⟩
  · unfold doOp at h
    rw [hc] at h
    obtain ⟨r, hr, _, hor⟩ := doL_cases h
    rcases hor with ⟨_, h1⟩ | ⟨ob, ho, h1⟩
    · exact .inl h1
    · exact .inr ⟨hi, ob, h1, (evL_isA hr ho).1, hc⟩
  · exact .inl h
theorem new_next {h : AH} {o : AObj} : (h.new o).next = h.next + 1 := rfl
theorem Trace.seg (hΓ : SoundC P Γ) (tr : Trace P C Γ ops ms s0 bs T V) (i : Nat) : ∀ p, i ≤ p → p ≤ ops.size → (∀ k (hk : k < ops.size), i ≤ k → k < p → isC ops[k].op = false) →
    ∀ a, (∀ j, i ≤ j → j < p → AL ops T j → a ≠ (T j).h.next) → (T p).h.get a = (T i).h.get a := by
  intro p hip
  induction p with
  | zero => intro _ _ a _; have : i = 0 := by omega
            subst this; rfl
  | succ p ih =>
    intro hp hno a ha
    by_cases e : i = p + 1
    · subst e; rfl
    · rw [← ih (by omega) (by omega) (fun k hk h1 h2 => hno k hk h1 (by omega)) a (fun j h1 h2 => ha j h1 (by omega))]
      rcases tr.loc p (by omega) (hno p (by omega) (by omega) (by omega)) with h | h
      · rw [h]
      · have hal := h
        obtain ⟨_, ob, h1, _, _⟩ := h
        rw [h1]
        exact AH.get_new_ne (ha p (by omega) (by omega) hal)
theorem AL.lt (hΓ : SoundC P Γ) (tr : Trace P C Γ ops ms s0 bs T V) {i j : Nat} (hi : AL ops T i) (hij : i < j) (hj : j ≤ ops.size) : (T i).h.next < (T j).h.next := by
  obtain ⟨h1, ob, h2, _, _⟩ := hi
  have := (tr.grows hΓ (i + 1) j (by omega) hj).next
  rw [h2, new_next] at this
  omega
theorem AL.inj (hΓ : SoundC P Γ) (tr : Trace P C Γ ops ms s0 bs T V) {i j : Nat} (hi : AL ops T i) (hj : AL ops T j) (h : (T i).h.next = (T j).h.next) : i = j := by
  rcases Nat.lt_trichotomy i j with h1 | h1 | h1
  · have := AL.lt hΓ tr hi h1 (Nat.le_of_lt hj.1); omega
  · exact h1
  · have := AL.lt hΓ tr hj h1 (Nat.le_of_lt hi.1); omega
theorem Trace.len (tr : Trace P C Γ ops ms s0 bs T V) : ∀ i, i ≤ ops.size → (T i).ts.length = s0.ts.length
  | 0, _ => by rw [tr.start]
  | i + 1, hi => by
    rw [(tr.step i (by omega)).2, ← tr.len i (by omega)]
    unfold putL
    split <;> simp
theorem Trace.at_ (k : Ok ops ms) (tr : Trace P C Γ ops ms s0 bs T V) : ∀ i, i ≤ ops.size → ∀ t,
    (∀ j (hj : j < ops.size), j < i → ops[j].dst = some t → t < s0.ts.length → (T i).ts.getD t undef = V j) ∧
    ((∀ j (hj : j < ops.size), j < i → ops[j].dst ≠ some t) → (T i).ts.getD t undef = s0.ts.getD t undef)
  | 0, _, t => ⟨fun j hj h => absurd h (Nat.not_lt_zero _), fun _ => by rw [tr.start]⟩
  | i + 1, hi, t => by
    obtain ⟨h1, h2⟩ := tr.at_ k i (by omega) t
    have hts := (tr.step i (by omega)).2
    have hlen := tr.len i (by omega)
    refine ⟨fun j hj hlt hd htl => ?_, fun hno => ?_⟩
    · by_cases e : j = i
      · subst e
        rw [hts, hd]
        simp only [putL, List.getD_eq_getElem?_getD]
        have htl' : t < (T j).ts.length := by rw [hlen]; exact htl
        rw [List.getElem?_set, if_pos rfl, if_pos htl']; rfl
      · have hji : j < i := by omega
        have hii : i < ops.size := by omega
        rw [← h1 j hj hji hd htl, hts]
        unfold putL
        split
        · rename_i d hdi
          have : d ≠ t := fun he => k.dst i j hii hj (Ne.symm e) d hdi (by rw [hd, he])
          simp only [List.getD_eq_getElem?_getD]
          rw [List.getElem?_set, if_neg this]
        · rfl
    · rw [← h2 (fun j hj hlt => hno j hj (by omega)), hts]
      unfold putL
      split
      · rename_i d hdi
        have : d ≠ t := fun he => hno i (by omega) (Nat.lt_succ_self _) (by rw [hdi, he])
        simp only [List.getD_eq_getElem?_getD]
        rw [List.getElem?_set, if_neg this]
      · rfl
open Classical in
noncomputable def gX (ops : Array Oper) (T : Nat → St) (X : Nat → Prop) (p : Nat) (a : Nat) : Option AObj :=
  if ∃ j, j < p ∧ AL ops T j ∧ ¬ X j ∧ a = (T j).h.next then none else (T p).h.get a
open Classical in
noncomputable def tsX (ops : Array Oper) (s0 : St) (V : Nat → Value) (X : Nat → Prop) : List Value :=
  (List.range s0.ts.length).map fun t => if h : ∃ j, ∃ hj : j < ops.size, X j ∧ ops[j].dst = some t then V h.choose else s0.ts.getD t undef
def up (ρ : Rho) (e : Nat → Option (Nat × Nat)) (n : Nat) : Rho := ⟨fun a => if a < n then (match ρ a with
  | some q => some q
  | none => e a) else none, ρ.φ⟩
theorem up_f (ρ : Rho) (e : Nat → Option (Nat × Nat)) (n a : Nat) : (up ρ e n) a = if a < n then (match ρ a with
  | some q => some q
  | none => e a) else none := rfl
theorem up_le {ρ ρ' : Rho} {e e' : Nat → Option (Nat × Nat)} {n n' : Nat} (hn : n ≤ n') (h1 : ∀ a q, ρ a = some q → ρ' a = some q) (h2 : ∀ a q, ρ a = none → e a = some q → ρ' a = some q ∨ (ρ' a = none ∧ e' a = some q)) : (up ρ e n).le (up ρ' e' n') := by
  intro a q h
  rw [up_f] at h ⊢
  by_cases ha : a < n
  · rw [if_pos ha] at h
    rw [if_pos (by omega)]
    cases hρ : ρ a with
    | some x => rw [hρ] at h; rw [h1 a x hρ]; exact h
    | none =>
      rw [hρ] at h
      rcases h2 a q hρ h with h3 | ⟨h3, h4⟩
      · rw [h3]
      · rw [h3]; exact h4
  · rw [if_neg ha] at h; cases h
theorem up_mono {ρ : Rho} {e : Nat → Option (Nat × Nat)} {n n' : Nat} (hn : n ≤ n') : (up ρ e n).le (up ρ e n') :=
  up_le hn (fun _ _ h => h) fun a q h1 h2 => .inr ⟨h1, h2⟩
theorem le_up {ρ : Rho} {e : Nat → Option (Nat × Nat)} {n : Nat} (h : ∀ a q, ρ a = some q → a < n) : ρ.le (up ρ e n) := fun a q hq => by
  rw [up_f, if_pos (h a q hq), hq]
theorem le_of_up {ρ ρ' : Rho} {e : Nat → Option (Nat × Nat)} {n : Nat} (hρ : ρ.le ρ') (h : ∀ a q, e a = some q → n ≤ a) : (up ρ e n).le ρ' := fun a q hq => by
  rw [up_f] at hq
  by_cases ha : a < n
  · rw [if_pos ha] at hq
    cases h1 : ρ a with
    | some x => rw [h1] at hq; cases hq; exact hρ a _ h1
    | none => rw [h1] at hq; have := h a q hq; omega
  · rw [if_neg ha] at hq; cases hq
theorem up_none {ρ : Rho} {e : Nat → Option (Nat × Nat)} {n a : Nat} (h1 : ρ a = none) (h2 : e a = none) : (up ρ e n) a = none := by
  rw [up_f, h1]
  by_cases ha : a < n
  · rw [if_pos ha]; exact h2
  · rw [if_neg ha]
structure DI (P : Program) [ObjSem P] (ops : Array Oper) (s0 : St) (T : Nat → St) (V : Nat → Value) (a0 : Act) (ρ0 : Rho) (w0 : World) (X : Nat → Prop) (a : Act) (w : World) (p : Nat) (ρ : Rho) (e : Nat → Option (Nat × Nat)) : Prop where
  cl : Closed ops X
  sz : a.tmps.size = s0.ts.length
  rb : ∀ n t, p ≤ n → n ≤ ops.size → (∀ j (hj : j < ops.size), X j → ops[j].dst = some t → j < n) → R (up ρ e (T n).h.next) ((tsX ops s0 V X).getD t undef) (a.tmps.getD t undef)
  df : a.defers = a0.defers
  hp : p ≤ ops.size
  cp : ∀ k (hk : k < ops.size), isC ops[k].op = true → (X k ↔ k < p)
  sim : SimG P ρ (gX ops T X p) (T p).h.next w
  st : StepG ρ0 s0.h.get w0 ρ (gX ops T X p) w
  fresh : ∀ j, AL ops T j → ¬ X j → ρ (T j).h.next = none ∧ e (T j).h.next = none
  en : ∀ x q, e x = some q → ∃ j, p ≤ j ∧ AL ops T j ∧ X j ∧ x = (T j).h.next
  xo : ∀ j, p ≤ j → AL ops T j → X j → ∃ ob b l o', (T (j + 1)).h = (T j).h.new ob ∧ ob.wr = true ∧ e (T j).h.next = some (b, l) ∧ w0.heap.size ≤ b ∧ b < w.heap.size ∧ w.heap[b]? = some o' ∧
    RObj P (up ρ e (T j).h.next) l ob o' ∧ (∀ x l', gX ops T X p x ≠ none → ρ x ≠ some (b, l')) ∧ (∀ x, gX ops T X p x ≠ none → ¬ ρ.φ x b)
  ei : ∀ x x' b l l', e x = some (b, l) → e x' = some (b, l') → x = x'
theorem tsX_length {X : Nat → Prop} : (tsX ops s0 V X).length = s0.ts.length := by simp [tsX]
theorem tsX_done (k : Ok ops ms) {X : Nat → Prop} {j : Nat} (hj : j < ops.size) (hx : X j) {t : Nat} (hd : ops[j].dst = some t) (ht : t < s0.ts.length) : (tsX ops s0 V X).getD t undef = V j := by
  have hex : ∃ j, ∃ hj : j < ops.size, X j ∧ ops[j].dst = some t := ⟨j, hj, hx, hd⟩
  have : (tsX ops s0 V X)[t]? = some (V j) := by
    simp only [tsX, List.getElem?_map, List.getElem?_range ht, Option.map_some]
    rw [dif_pos hex]
    obtain ⟨hj2, hx2, hd2⟩ := hex.choose_spec
    have : hex.choose = j := by
      by_cases e : hex.choose = j
      · exact e
      · exact absurd hd2 (k.dst j hex.choose hj hj2 (Ne.symm e) t hd)
    rw [this]
  simp [List.getD_eq_getElem?_getD, this]
theorem tsX_idle {X : Nat → Prop} {t : Nat} (hno : ∀ j (hj : j < ops.size), X j → ops[j].dst ≠ some t) : (tsX ops s0 V X).getD t undef = s0.ts.getD t undef := by
  by_cases ht : t < s0.ts.length
  · have : (tsX ops s0 V X)[t]? = some (s0.ts.getD t undef) := by
      simp only [tsX, List.getElem?_map, List.getElem?_range ht, Option.map_some]
      rw [dif_neg]
      rintro ⟨j, hj, hx, hd⟩
      exact hno j hj hx hd
    simp [List.getD_eq_getElem?_getD, this]
  · have h1 : (tsX ops s0 V X)[t]? = none := by rw [List.getElem?_eq_none]; rw [tsX_length]; omega
    have h2 : s0.ts[t]? = none := by rw [List.getElem?_eq_none]; omega
    simp [List.getD_eq_getElem?_getD, h1, h2]
theorem tsX_put (k : Ok ops ms) {X X' : Nat → Prop} {i : Nat} (hi : i < ops.size) (hni : ¬ X i) (hX : ∀ j, X' j ↔ (X j ∨ j = i)) : tsX ops s0 V X' = putL ops[i].dst (V i) (tsX ops s0 V X) := by
  have hl1 : (tsX ops s0 V X').length = s0.ts.length := tsX_length
  have hl2 : (putL ops[i].dst (V i) (tsX ops s0 V X)).length = s0.ts.length := by unfold putL; split <;> simp [tsX_length]
  apply List.ext_getElem?
  intro t
  by_cases ht : t < s0.ts.length
  · have key : (tsX ops s0 V X').getD t undef = (putL ops[i].dst (V i) (tsX ops s0 V X)).getD t undef := by
      by_cases hd : ops[i].dst = some t
      · rw [tsX_done k hi ((hX i).2 (.inr rfl)) hd ht, hd]
        simp only [putL, List.getD_eq_getElem?_getD]
        rw [List.getElem?_set, if_pos rfl, if_pos (by rw [tsX_length]; exact ht)]; rfl
      · have h2 : (putL ops[i].dst (V i) (tsX ops s0 V X)).getD t undef = (tsX ops s0 V X).getD t undef := by
          unfold putL
          split
          · rename_i d hdi
            have : d ≠ t := fun he => hd (by rw [hdi, he])
            simp only [List.getD_eq_getElem?_getD]
            rw [List.getElem?_set, if_neg this]
          · rfl
        rw [h2]
        by_cases hex : ∃ j, ∃ hj : j < ops.size, X j ∧ ops[j].dst = some t
        · obtain ⟨j, hj, hx, hdj⟩ := hex
          rw [tsX_done k hj ((hX j).2 (.inl hx)) hdj ht, tsX_done k hj hx hdj ht]
        · rw [tsX_idle, tsX_idle]
          · intro j hj hx hdj; exact hex ⟨j, hj, hx, hdj⟩
          · intro j hj hx hdj
            rcases (hX j).1 hx with h | h
            · exact hex ⟨j, hj, h, hdj⟩
            · subst h; exact hd hdj
    have e1 : (tsX ops s0 V X')[t]? = some ((tsX ops s0 V X').getD t undef) := by
      rw [List.getElem?_eq_getElem (by omega), List.getD_eq_getElem?_getD, List.getElem?_eq_getElem (by omega)]; rfl
    have e2 : (putL ops[i].dst (V i) (tsX ops s0 V X))[t]? = some ((putL ops[i].dst (V i) (tsX ops s0 V X)).getD t undef) := by
      rw [List.getElem?_eq_getElem (by omega), List.getD_eq_getElem?_getD, List.getElem?_eq_getElem (by omega)]; rfl
    rw [e1, e2, key]
  · rw [List.getElem?_eq_none (by omega), List.getElem?_eq_none (by omega)]
theorem tsX_reads (k : Ok ops ms) (tr : Trace P C Γ ops ms s0 bs T V) {X : Nat → Prop} (hcl : Closed ops X) {i : Nat} (hi : i < ops.size) (hni : ¬ X i)
    (hr : ∀ e ∈ ops[i].after.toList, bindE e = true → X e.on) {t : Nat} (ht : t ∈ readsOf ops.toList ops[i]) : (tsX ops s0 V X).getD t undef = (T i).ts.getD t undef := by
  obtain ⟨h1, h2⟩ := tr.at_ k i (by omega) t
  by_cases htl : t < s0.ts.length
  · by_cases hex : ∃ j, ∃ hj : j < ops.size, j < i ∧ ops[j].dst = some t
    · obtain ⟨j, hj, hlt, hd⟩ := hex
      have hx : X j := hcl.ready k hi hr hj ((k.rdw i j hi hj (by omega) t hd ht).1 hlt)
      rw [tsX_done k hj hx hd htl, h1 j hj hlt hd htl]
    · rw [h2 (fun j hj hlt hd => hex ⟨j, hj, hlt, hd⟩)]
      refine tsX_idle fun j hj hx hd => ?_
      rcases Nat.lt_trichotomy j i with hlt | he | hgt
      · exact hex ⟨j, hj, hlt, hd⟩
      · subst he; exact hni hx
      · exact hni (hcl.anc k j hj i hi hx ((k.rdw i j hi hj (by omega) t hd ht).2 hgt))
  · have e1 : (tsX ops s0 V X)[t]? = none := by rw [List.getElem?_eq_none]; rw [tsX_length]; omega
    have e2 : (T i).ts[t]? = none := by rw [List.getElem?_eq_none]; rw [tr.len i (by omega)]; omega
    simp [List.getD_eq_getElem?_getD, e1, e2]
theorem wantedL_congr {all : List Oper} {ts ts' : List Value} {o : Oper} (hl : ts.length = ts'.length) (h : ∀ t ∈ readsOf all o, ts.getD t undef = ts'.getD t undef) : wantedL all ts o = wantedL all ts' o := by
  unfold wantedL
  cases hg : o.guard with
  | none => rfl
  | some p =>
    obtain ⟨j, want⟩ := p
    simp only
    have : yieldL all ts j = yieldL all ts' j := by
      unfold yieldL
      cases ho : all[j]? with
      | none => rfl
      | some q =>
        simp only
        cases hd : q.dst with
        | none => rfl
        | some d =>
          simp only
          have hm : d ∈ readsOf all o := by
            unfold readsOf
            rw [hg]
            simp only [ho, hd]
            exact List.mem_append_right _ (by simp)
          have e := h d hm
          have : ts[d]? = ts'[d]? := by
            by_cases hlt : d < ts.length
            · have hlt' : d < ts'.length := hl ▸ hlt
              rw [List.getD_eq_getElem?_getD, List.getD_eq_getElem?_getD, List.getElem?_eq_getElem hlt, List.getElem?_eq_getElem hlt'] at e
              rw [List.getElem?_eq_getElem hlt, List.getElem?_eq_getElem hlt']
              simpa using e
            · have h1 : ts.length ≤ d := Nat.le_of_not_lt hlt
              have h2 : ts'.length ≤ d := hl ▸ h1
              rw [List.getElem?_eq_none h1, List.getElem?_eq_none h2]
          rw [this]
    rw [this]
theorem knownL_congr {all : List Oper} {ts ts' : List Value} {o : Oper} (hl : ts.length = ts'.length) (h : ∀ t ∈ readsOf all o, ts.getD t undef = ts'.getD t undef) : knownL all ts o = knownL all ts' o := by
  unfold knownL
  cases hg : o.guard with
  | none => rfl
  | some p =>
    obtain ⟨j, want⟩ := p
    simp only
    cases ho : all[j]? with
    | none => rfl
    | some q =>
      simp only
      cases hd : q.dst with
      | none => rfl
      | some d =>
        simp only
        have hm : d ∈ readsOf all o := by
          unfold readsOf
          rw [hg]
          simp only [ho, hd]
          exact List.mem_append_right _ (by simp)
        have e := h d hm
        have : ts[d]? = ts'[d]? := by
          by_cases hlt : d < ts.length
          · have hlt' : d < ts'.length := hl ▸ hlt
            rw [List.getD_eq_getElem?_getD, List.getD_eq_getElem?_getD, List.getElem?_eq_getElem hlt, List.getElem?_eq_getElem hlt'] at e
            rw [List.getElem?_eq_getElem hlt, List.getElem?_eq_getElem hlt']
            simpa using e
          · have h1 : ts.length ≤ d := Nat.le_of_not_lt hlt
            have h2 : ts'.length ≤ d := hl ▸ h1
            rw [List.getElem?_eq_none h1, List.getElem?_eq_none h2]
        rw [this]
theorem ops_rel {P : Program} {ρ : Rho} (hgl : ∀ i, i < P.globals.size → ∃ l, ρ i = some (i, l)) {all : List Oper} {ts ts' : List Value} {a : Act} {o : Oper} (hr : ∀ t ∈ readsOf all o, R ρ (ts.getD t undef) (a.tmps.getD t undef))
    (hok : o.op.operands.toList.all (okX P.globals.size) = true) (h : ∀ t ∈ readsOf all o, ts.getD t undef = ts'.getD t undef) : ∀ x ∈ o.op.operands.toList, R ρ (evalX ts' x) (a.eval x) := by
  intro x hx
  have hox := List.all_eq_true.1 hok x hx
  cases x with
  | tmp t =>
    have hm : t ∈ readsOf all o := by
      unfold readsOf
      exact List.mem_append_left _ (List.mem_filterMap.2 ⟨.tmp t, hx, rfl⟩)
    show R ρ (ts'.getD t undef) _
    rw [← h t hm]
    exact hr t hm
  | const v => exact .of_plain hox
  | global g =>
    obtain ⟨l, hl⟩ := hgl g (by simpa [okX] using hox)
    exact .ptr 0 hl
  | func f => exact .func _ _ _ _ _ rfl (fun i h1 => by simp at h1) rfl (fun i h1 => by simp at h1)
theorem nextC (ops : Array Oper) : ∀ (d i : Nat), ops.size - i = d → i ≤ ops.size → ∃ p, i ≤ p ∧ p ≤ ops.size ∧ (∀ h : p < ops.size, isC ops[p].op = true) ∧ ∀ k (hk : k < ops.size), i ≤ k → k < p → isC ops[k].op = false
  | 0, i, hd, hi => ⟨i, Nat.le_refl _, hi, fun h => by omega, fun k hk h1 h2 => by omega⟩
  | d + 1, i, hd, hi => by
    by_cases hc : isC (ops[i]'(by omega)).op = true
    · exact ⟨i, Nat.le_refl _, hi, fun _ => hc, fun k hk h1 h2 => by omega⟩
    · obtain ⟨p, h1, h2, h3, h4⟩ := nextC ops d (i + 1) (by omega) (by omega)
      refine ⟨p, by omega, h2, h3, fun k hk k1 k2 => ?_⟩
      by_cases e : k = i
      · subst e; simpa using hc
      · exact h4 k hk (by omega) k2
end
end Go.Eng
namespace Go.Eng
set_option linter.unusedVariables false
set_option linter.unusedSimpArgs false
set_option linter.unusedSectionVars false
open Go
set_option linter.unusedVariables false
set_option linter.unusedSimpArgs false
section
variable {P : Program} [ObjSem P] {C : Cfg} {Γ : Calling} {ops : Array Oper} {ms : List Nat} {s0 : St} {bs : Nat} {T : Nat → St} {V : Nat → Value}
variable {a0 : Act} {ρ0 ρ : Rho} {w0 w : World} {X : Nat → Prop} {a : Act} {p : Nat} {e : Nat → Option (Nat × Nat)}
theorem DI.ready (k : Ok ops ms) (di : DI P ops s0 T V a0 ρ0 w0 X a w p ρ e) {i : Nat} (hi : i < ops.size) (hr : ∀ e ∈ ops[i].after.toList, bindE e = true → X e.on) {j : Nat} (hj : j < ops.size) (ha : anc ms i j = true) : X j :=
  di.cl.ready k hi hr hj ha
theorem DI.back (k : Ok ops ms) (di : DI P ops s0 T V a0 ρ0 w0 X a w p ρ e) {i j : Nat} (hi : i < ops.size) (hj : j < ops.size) (hni : ¬ X i) (ha : anc ms j i = true) : ¬ X j :=
  fun hx => hni (di.cl.anc k j hj i hi hx ha)
theorem closed_put (k : Ok ops ms) (hcl : Closed ops X) {i : Nat} (hi : i < ops.size) (hr : ∀ e ∈ ops[i].after.toList, bindE e = true → X e.on) : Closed ops (fun j => X j ∨ j = i) := by
  intro j hj hx e he hb
  rcases hx with hx | hx
  · exact .inl (hcl j hj hx e he hb)
  · subst hx; exact .inl (hr e he hb)
theorem put_at {ρ : Rho} {ts : List Value} {a : Act} (hs : a.tmps.size = ts.length) {v v' : Value} {dst : Option Tmp} {t : Nat} (h1 : dst = some t → R ρ v v') (h2 : dst ≠ some t → R ρ (ts.getD t undef) (a.tmps.getD t undef)) :
    R ρ ((putL dst v ts).getD t undef) ((a.put dst v').tmps.getD t undef) := by
  cases dst with
  | none => exact h2 (by simp)
  | some d =>
    simp only [putL, Act.put, List.getD_eq_getElem?_getD, Array.getD_eq_getD_getElem?] at h2 ⊢
    by_cases e : d = t
    · subst e
      have hv := h1 rfl
      by_cases hl : d < ts.length
      · have hl' : d < a.tmps.size := by rw [hs]; exact hl
        simpa [hl, hl'] using hv
      · have hl' : ¬ d < a.tmps.size := by rw [hs]; exact hl
        simpa [hl, hl'] using R.undef ρ
    · have ht := h2 (by simpa using e)
      simpa [e] using ht
theorem put_size {a : Act} {n : Nat} (hs : a.tmps.size = n) (dst : Option Tmp) (v' : Value) : (a.put dst v').tmps.size = n := by
  cases dst <;> simp [Act.put, hs]
theorem DI.elt (hΓ : SoundC P Γ) (tr : Trace P C Γ ops ms s0 bs T V) (di : DI P ops s0 T V a0 ρ0 w0 X a w p ρ e) : ∀ x q, e x = some q → (T p).h.next ≤ x := by
  intro x q hx
  obtain ⟨j, h1, h2, _, rfl⟩ := di.en x q hx
  exact (tr.grows hΓ p j h1 (Nat.le_of_lt h2.1)).next
theorem DI.rlt (di : DI P ops s0 T V a0 ρ0 w0 X a w p ρ e) : ∀ x q, ρ x = some q → x < (T p).h.next := fun x q hx => (di.sim.lt x q.1 q.2 hx).1
theorem DI.up_to (hΓ : SoundC P Γ) (tr : Trace P C Γ ops ms s0 bs T V) (di : DI P ops s0 T V a0 ρ0 w0 X a w p ρ e) : (up ρ e (T p).h.next).le ρ := le_of_up (.refl _) (di.elt hΓ tr)
theorem DI.to_up (hΓ : SoundC P Γ) (tr : Trace P C Γ ops ms s0 bs T V) (di : DI P ops s0 T V a0 ρ0 w0 X a w p ρ e) {n : Nat} (hn : p ≤ n) (hn' : n ≤ ops.size) : ρ.le (up ρ e (T n).h.next) :=
  le_up fun x q hx => Nat.lt_of_lt_of_le (di.rlt x q hx) (tr.grows hΓ p n hn hn').next
theorem Trace.next_le (hΓ : SoundC P Γ) (tr : Trace P C Γ ops ms s0 bs T V) {i j : Nat} (h : i ≤ j) (hj : j ≤ ops.size) : (T i).h.next ≤ (T j).h.next := (tr.grows hΓ i j h hj).next
theorem DI.rt (hΓ : SoundC P Γ) (tr : Trace P C Γ ops ms s0 bs T V) (di : DI P ops s0 T V a0 ρ0 w0 X a w p ρ e) : RT (up ρ e (T ops.size).h.next) (tsX ops s0 V X) a :=
  ⟨by rw [tsX_length]; exact di.sz, fun t => di.rb ops.size t di.hp (Nat.le_refl _) fun j hj _ _ => hj⟩
theorem DI.atC (k : Ok ops ms) (di : DI P ops s0 T V a0 ρ0 w0 X a w p ρ e) (hpc : ∀ hlt : p < ops.size, isC ops[p].op = true) {i : Nat} (hi : i < ops.size) (hni : ¬ X i) (hr : ∀ e ∈ ops[i].after.toList, bindE e = true → X e.on) (hc : isC ops[i].op = true) :
    p = i ∧ gX ops T X p = (T i).h.get := by
  have hpi : p = i := by
    have h1 : p ≤ i := by
      rcases Nat.lt_or_ge i p with h | h
      · exact absurd ((di.cp i hi hc).2 h) hni
      · exact h
    rcases Nat.lt_or_ge p i with h | h
    · exfalso
      have hp : p < ops.size := by omega
      have hcp := hpc hp
      have := di.ready k hi hr hp ((k.cc i p hi hp (by omega) hc hcp).1 h)
      have := (di.cp p hp hcp).1 this
      omega
    · omega
  refine ⟨hpi, ?_⟩
  subst hpi
  funext q
  unfold gX
  rw [if_neg]
  rintro ⟨j, hj, hal, hnx, _⟩
  obtain ⟨hjs, ob, _, hA, _⟩ := hal
  have hne : j ≠ p := by omega
  exact hnx (di.ready k hi hr hjs (k.ac j p hjs hi hne hA hc hj))
theorem DI.adopt (hΓ : SoundC P Γ) (tr : Trace P C Γ ops ms s0 bs T V) (di : DI P ops s0 T V a0 ρ0 w0 X a w p ρ e) (hp : p < ops.size) (hc : isC ops[p].op = false) :
    ∃ ρ1 e1, DI P ops s0 T V a0 ρ0 w0 X a w (p + 1) ρ1 e1 := by
  have hcp : ∀ k (hk : k < ops.size), isC ops[k].op = true → (X k ↔ k < p + 1) := by
    intro j hj hcj
    have hne : j ≠ p := by intro e; subst e; rw [hc] at hcj; cases hcj
    rw [di.cp j hj hcj]; omega
  by_cases hal : AL ops T p
  · obtain ⟨_, ob, hob, hA, _⟩ := id hal
    have hnx1 : (T (p + 1)).h.next = (T p).h.next + 1 := by rw [hob, new_next]
    have hρn : ρ (T p).h.next = none := by
      cases hq : ρ (T p).h.next with
      | none => rfl
      | some q => have := di.rlt _ q hq; omega
    have hgn : gX ops T X p (T p).h.next = none := by
      cases hq : gX ops T X p (T p).h.next with
      | none => rfl
      | some o => obtain ⟨b, l, o', h1, _⟩ := di.sim.blk _ o hq; rw [hρn] at h1; cases h1
    by_cases hx : X p
    · obtain ⟨ob2, b, l, o', h1, hwr, he, hb0, hbs, hbh, hro, hnf, hnφ⟩ := di.xo p (Nat.le_refl _) hal hx
      have : ob2 = ob := by
        have h2 : (T (p + 1)).h.get (T p).h.next = some ob2 := by rw [h1]; exact AH.get_new_same
        have h3 : (T (p + 1)).h.get (T p).h.next = some ob := by rw [hob]; exact AH.get_new_same
        rw [h2] at h3; cases h3; rfl
      subst this
      have hle : (up ρ e (T p).h.next).le ρ := di.up_to hΓ tr
      have hg' : gX ops T X (p + 1) = fun q => if q = (T p).h.next then some ob2 else gX ops T X p q := by
        funext q
        by_cases hq : q = (T p).h.next
        · simp only [hq, if_true]
          unfold gX
          rw [if_neg, hob]
          · exact AH.get_new_same
          · rintro ⟨j, g1, g2, g3, g4⟩
            exact g3 (AL.inj hΓ tr hal g2 g4 ▸ hx)
        · simp only [hq, if_false]
          unfold gX
          have : (∃ j, j < p + 1 ∧ AL ops T j ∧ ¬ X j ∧ q = (T j).h.next) ↔ (∃ j, j < p ∧ AL ops T j ∧ ¬ X j ∧ q = (T j).h.next) := by
            constructor
            · rintro ⟨j, g1, g2, g3, g4⟩
              refine ⟨j, ?_, g2, g3, g4⟩
              have : j ≠ p := fun e => g3 (e ▸ hx)
              omega
            · rintro ⟨j, g1, g2, g3, g4⟩; exact ⟨j, by omega, g2, g3, g4⟩
          have hgt : (T (p + 1)).h.get q = (T p).h.get q := by rw [hob]; exact AH.get_new_ne hq
          by_cases hex : ∃ j, j < p ∧ AL ops T j ∧ ¬ X j ∧ q = (T j).h.next
          · rw [if_pos (this.2 hex), if_pos hex]
          · rw [if_neg (fun h => hex (this.1 h)), if_neg hex, hgt]
      have huple : ∀ n, (up ρ e n).le (up (ρ.add (T p).h.next b l ob2.rw) (fun x => if x = (T p).h.next then none else e x) n) := fun n =>
        up_le (Nat.le_refl _) (fun x q hxq => Rho.add_le hρn x q hxq) fun x q g1 g2 => by
          by_cases hxn : x = (T p).h.next
          · left; rw [Rho.add_f, if_pos hxn]; rw [hxn, he] at g2; exact g2
          · right; rw [Rho.add_f, if_neg hxn, if_neg hxn]; exact ⟨g1, g2⟩
      have hei : ∀ x bb ll, e x = some (bb, ll) → bb = b → x = (T p).h.next := fun x bb ll g1 g2 => by
        rw [g2] at g1; exact di.ei x _ b ll l g1 he
      refine ⟨ρ.add (T p).h.next b l ob2.rw, fun x => if x = (T p).h.next then none else e x, di.cl, di.sz, ?_, di.df, hp, hcp, ?_, ?_, ?_, ?_, ?_, ?_⟩
      · intro n t g1 g2 g3
        exact (di.rb n t (by omega) g2 g3).mono (huple _)
      · rw [hg', hnx1]
        exact (di.sim.weaken (Nat.le_succ _)).adopt _ b (Nat.lt_succ_self _) hρn (fun x l' hx => hnf x l' hx) (fun x hx => hnφ x hx) ob2 (AObj.wr_mach hwr) o' hbh l (hro.mono hle)
      · rw [hg']
        exact di.st.adopt _ b l ob2 hb0 hρn
      · intro j halj hnx
        have hne : (T j).h.next ≠ (T p).h.next := fun he => hnx (AL.inj hΓ tr halj hal he ▸ hx)
        rw [Rho.add_f, if_neg hne, if_neg hne]
        exact di.fresh j halj hnx
      · intro x q hxq
        by_cases hxn : x = (T p).h.next
        · rw [if_pos hxn] at hxq; cases hxq
        · rw [if_neg hxn] at hxq
          obtain ⟨j, g1, g2, g3, g4⟩ := di.en x q hxq
          refine ⟨j, ?_, g2, g3, g4⟩
          have : j ≠ p := fun e => hxn (by rw [g4, e])
          omega
      · intro j g1 halj hxj
        obtain ⟨ob3, b3, l3, o3, k1, k2, k3, k4, k5, k6, k7, k8, k9⟩ := di.xo j (by omega) halj hxj
        have hne : (T j).h.next ≠ (T p).h.next := fun he => by have := AL.inj hΓ tr halj hal he; omega
        have hbb : b3 ≠ b := fun hb => hne (hei _ b3 l3 k3 hb)
        refine ⟨ob3, b3, l3, o3, k1, k2, by rw [if_neg hne]; exact k3, k4, k5, k6, k7.mono (huple _), fun x l' hgx => ?_, fun x hgx => ?_⟩
        · rw [hg'] at hgx
          rw [Rho.add_f]
          by_cases hxn : x = (T p).h.next
          · rw [if_pos hxn]; intro h; cases h; exact hbb rfl
          · rw [if_neg hxn]; simp only [hxn, if_false] at hgx; exact k8 x l' hgx
        · rw [hg'] at hgx
          rw [Rho.add_φ]
          by_cases hxn : x = (T p).h.next
          · rw [if_pos hxn]; intro h; exact hbb h.2
          · rw [if_neg hxn]; simp only [hxn, if_false] at hgx; exact k9 x hgx
      · intro x x' bb l1 l2 g1 g2
        by_cases hxn : x = (T p).h.next
        · rw [if_pos hxn] at g1; cases g1
        · by_cases hxn' : x' = (T p).h.next
          · rw [if_pos hxn'] at g2; cases g2
          · rw [if_neg hxn] at g1; rw [if_neg hxn'] at g2; exact di.ei x x' bb l1 l2 g1 g2
    · have hg' : gX ops T X (p + 1) = gX ops T X p := by
        funext q
        by_cases hq : q = (T p).h.next
        · rw [hq, hgn]
          unfold gX
          rw [if_pos ⟨p, Nat.lt_succ_self _, hal, hx, rfl⟩]
        · unfold gX
          have : (∃ j, j < p + 1 ∧ AL ops T j ∧ ¬ X j ∧ q = (T j).h.next) ↔ (∃ j, j < p ∧ AL ops T j ∧ ¬ X j ∧ q = (T j).h.next) := by
            constructor
            · rintro ⟨j, g1, g2, g3, g4⟩
              refine ⟨j, ?_, g2, g3, g4⟩
              have : j ≠ p := fun e => hq (by rw [g4, e])
              omega
            · rintro ⟨j, g1, g2, g3, g4⟩; exact ⟨j, by omega, g2, g3, g4⟩
          have hgt : (T (p + 1)).h.get q = (T p).h.get q := by rw [hob]; exact AH.get_new_ne hq
          by_cases hex : ∃ j, j < p ∧ AL ops T j ∧ ¬ X j ∧ q = (T j).h.next
          · rw [if_pos (this.2 hex), if_pos hex]
          · rw [if_neg (fun h => hex (this.1 h)), if_neg hex, hgt]
      refine ⟨ρ, e, di.cl, di.sz, fun n t g1 g2 g3 => di.rb n t (by omega) g2 g3, di.df, hp, hcp, ?_, ?_, di.fresh, ?_, ?_, di.ei⟩
      · rw [hg']; exact di.sim.weaken (by omega)
      · rw [hg']; exact di.st
      · intro x q hxq
        obtain ⟨j, g1, g2, g3, g4⟩ := di.en x q hxq
        refine ⟨j, ?_, g2, g3, g4⟩
        have : j ≠ p := fun e => hx (e ▸ g3)
        omega
      · rw [hg']; exact fun j g1 => di.xo j (by omega)
  · have hh : (T (p + 1)).h = (T p).h := by
      rcases tr.loc p hp hc with h | h
      · exact h
      · exact absurd h hal
    have hg' : gX ops T X (p + 1) = gX ops T X p := by
      funext q
      unfold gX
      have : (∃ j, j < p + 1 ∧ AL ops T j ∧ ¬ X j ∧ q = (T j).h.next) ↔ (∃ j, j < p ∧ AL ops T j ∧ ¬ X j ∧ q = (T j).h.next) := by
        constructor
        · rintro ⟨j, g1, g2, g3, g4⟩
          refine ⟨j, ?_, g2, g3, g4⟩
          have : j ≠ p := fun e => hal (e ▸ g2)
          omega
        · rintro ⟨j, g1, g2, g3, g4⟩; exact ⟨j, by omega, g2, g3, g4⟩
      rw [hh]
      by_cases hex : ∃ j, j < p ∧ AL ops T j ∧ ¬ X j ∧ q = (T j).h.next
      · rw [if_pos (this.2 hex), if_pos hex]
      · rw [if_neg (fun h => hex (this.1 h)), if_neg hex]
    refine ⟨ρ, e, di.cl, di.sz, fun n t g1 g2 g3 => di.rb n t (by omega) g2 g3, di.df, hp, hcp, ?_, ?_, di.fresh, ?_, ?_, di.ei⟩
    · rw [hg', hh]; exact di.sim
    · rw [hg']; exact di.st
    · intro x q hxq
      obtain ⟨j, g1, g2, g3, g4⟩ := di.en x q hxq
      refine ⟨j, ?_, g2, g3, g4⟩
      have : j ≠ p := fun e => hal (e ▸ g2)
      omega
    · rw [hg']; exact fun j g1 => di.xo j (by omega)
theorem DI.run (hΓ : SoundC P Γ) (tr : Trace P C Γ ops ms s0 bs T V) : ∀ (d p : Nat) (ρ : Rho) (e : Nat → Option (Nat × Nat)), DI P ops s0 T V a0 ρ0 w0 X a w p ρ e → p + d ≤ ops.size → (∀ k (hk : k < ops.size), p ≤ k → k < p + d → isC ops[k].op = false) →
    ∃ ρ1 e1, DI P ops s0 T V a0 ρ0 w0 X a w (p + d) ρ1 e1
  | 0, p, ρ, e, di, _, _ => ⟨ρ, e, di⟩
  | d + 1, p, ρ, e, di, hd, hno => by
    obtain ⟨ρ1, e1, d1⟩ := di.adopt hΓ tr (by omega) (hno p (by omega) (Nat.le_refl _) (by omega))
    obtain ⟨ρ2, e2, d2⟩ := DI.run hΓ tr d (p + 1) ρ1 e1 d1 (by omega) fun j hj h1 h2 => hno j hj (by omega) (by omega)
    exact ⟨ρ2, e2, by rw [show p + (d + 1) = p + 1 + d by omega]; exact d2⟩
theorem DI.stepC (hΓ : SoundC P Γ) (k : Ok ops ms) (tr : Trace P C Γ ops ms s0 bs T V) (di : DI P ops s0 T V a0 ρ0 w0 X a w p ρ e) (hpc : ∀ hlt : p < ops.size, isC ops[p].op = true) {i : Nat} (hi : i < ops.size) (hni : ¬ X i)
    (hr : ∀ e ∈ ops[i].after.toList, bindE e = true → X e.on) (hc : isC ops[i].op = true) {v' : Value} {w' : World} {ρ' : Rho} (hv : R ρ' (V i) v') (st : Step P ρ (T i).h w ρ' (T (i + 1)).h w') :
    ∃ p' ρ1 e1, (∀ hlt : p' < ops.size, isC ops[p'].op = true) ∧ DI P ops s0 T V a0 ρ0 w0 (fun j => X j ∨ j = i) (a.put ops[i].dst v') w' p' ρ1 e1 := by
  obtain ⟨rfl, hg⟩ := di.atC k hpc hi hni hr hc
  obtain ⟨p', hp1, hp2, hp3, hp4⟩ := nextC ops (ops.size - (p + 1)) (p + 1) rfl (by omega)
  have hAlt : ∀ j, AL ops T j → ¬ (X j ∨ j = p) → p < j := by
    intro j hal hnx
    have hjs := hal.1
    obtain ⟨_, ob, _, hA, hAc⟩ := hal
    rcases Nat.lt_trichotomy j p with h | h | h
    · exact absurd (.inl (di.ready k hi hr hjs (k.ac j p hjs hi (by omega) hA hc h))) hnx
    · exact absurd (.inr h) hnx
    · exact h
  have hnal : ¬ AL ops T p := fun hal => by
    obtain ⟨_, _, _, _, h⟩ := hal
    rw [hc] at h; cases h
  have hnmlt : ∀ j, AL ops T j → p < j → (T (p + 1)).h.next ≤ (T j).h.next := fun j hal hlt => (tr.grows hΓ (p + 1) j (by omega) (Nat.le_of_lt hal.1)).next
  have hnone : ∀ j, AL ops T j → p < j → ρ' (T j).h.next = none := fun j hal hlt => by
    cases h : ρ' (T j).h.next with
    | none => rfl
    | some q =>
      have h1 := (st.sim.lt _ q.1 q.2 h).1
      have h2 := hnmlt j hal hlt
      omega
  have hg' : gX ops T (fun j => X j ∨ j = p) (p + 1) = (T (p + 1)).h.get := by
    funext q
    unfold gX
    rw [if_neg]
    rintro ⟨j, hj, hal, hnx, rfl⟩
    have := hAlt j hal hnx
    omega
  have hup : ∀ n, (up ρ e n).le (up ρ' e n) := fun n => up_le (Nat.le_refl _) st.ext fun x q g1 g2 => by
    obtain ⟨j, h1, h2, h3, rfl⟩ := di.en x q g2
    have : j ≠ p := fun e => hnal (e ▸ h2)
    exact .inr ⟨hnone j h2 (by omega), g2⟩
  have hd1 : DI P ops s0 T V a0 ρ0 w0 (fun j => X j ∨ j = p) (a.put ops[p].dst v') w' (p + 1) ρ' e := by
    refine ⟨closed_put k di.cl hi hr, put_size di.sz _ _, ?_, ?_, by omega, ?_, ?_, ?_, ?_, ?_, ?_, di.ei⟩
    · intro n t h1 h2 h3
      rw [tsX_put k hi hni (fun j => Iff.rfl)]
      refine put_at (by rw [tsX_length]; exact di.sz) (fun _ => ?_) fun _ => ?_
      · refine hv.mono (le_up fun x q hx => ?_)
        have g1 := (st.sim.lt x q.1 q.2 hx).1
        have g2 := tr.next_le hΓ h1 h2
        omega
      · exact (di.rb n t (by omega) h2 fun j hj hx hd => h3 j hj (.inl hx) hd).mono (hup _)
    · cases hd : ops[p].dst <;> exact di.df
    · intro j hj hcj
      constructor
      · rintro (hx | rfl)
        · have := (di.cp j hj hcj).1 hx; omega
        · omega
      · intro hlt
        rcases Nat.lt_trichotomy j p with h | h | h
        · exact .inl ((di.cp j hj hcj).2 h)
        · exact .inr h
        · omega
    · rw [hg']; exact st.sim.toG
    · rw [hg']
      have h1 := di.st
      rw [hg] at h1
      exact h1.trans st.toG
    · intro j hal hnx
      exact ⟨hnone j hal (hAlt j hal hnx), (di.fresh j hal fun hx => hnx (.inl hx)).2⟩
    · intro x q hx
      obtain ⟨j, h1, h2, h3, h4⟩ := di.en x q hx
      have : j ≠ p := fun e => hnal (e ▸ h2)
      exact ⟨j, by omega, h2, .inl h3, h4⟩
    · intro j h1 hal hx
      have hxj : X j := by
        rcases hx with hx | hx
        · exact hx
        · omega
      obtain ⟨ob, b, l, o', k1, k2, k3, k4, k5, k6, k7, k8, k9⟩ := di.xo j (by omega) hal hxj
      rw [hg] at k8 k9
      refine ⟨ob, b, l, o', k1, k2, k3, k4, Nat.lt_of_lt_of_le k5 st.size, by rw [st.keep b k5 k9]; exact k6, k7.mono (hup _), fun x l' hgx h => ?_, fun x hgx h => ?_⟩
      · rw [hg'] at hgx
        obtain ⟨o, ho⟩ := Option.ne_none_iff_exists'.1 hgx
        obtain ⟨y, o0, l0, g1, g2, _⟩ := st.img x o b l' ho h k5
        exact k8 y l0 (by rw [g1]; simp) g2
      · rw [hg'] at hgx
        obtain ⟨y, g1, g2⟩ := st.imf x b hgx h k5
        exact k9 y g1 g2
  obtain ⟨ρ1, e1, hd2⟩ := hd1.run hΓ tr (p' - (p + 1)) (p + 1) ρ' e (by omega) fun j hj h1 h2 => hp4 j hj h1 (by omega)
  rw [show p + 1 + (p' - (p + 1)) = p' by omega] at hd2
  exact ⟨p', ρ1, e1, hp3, hd2⟩
theorem DI.stepV (hΓ : SoundC P Γ) (k : Ok ops ms) (tr : Trace P C Γ ops ms s0 bs T V) (di : DI P ops s0 T V a0 ρ0 w0 X a w p ρ e) {i : Nat} (hi : i < ops.size) (hni : ¬ X i)
    (hr : ∀ e ∈ ops[i].after.toList, bindE e = true → X e.on) (hc : isC ops[i].op = false) (hh : (T (i + 1)).h = (T i).h) {v' : Value} {m : Nat} (hm : m = i ∨ m = p) (hv : R (up ρ e (T m).h.next) (V i) v') :
    DI P ops s0 T V a0 ρ0 w0 (fun j => X j ∨ j = i) (a.put ops[i].dst v') w p ρ e := by
  have hnal : ¬ AL ops T i := by
    rintro ⟨_, ob, h1, _, _⟩
    rw [hh] at h1
    have := congrArg AH.next h1
    rw [new_next] at this
    omega
  have hg' : gX ops T (fun j => X j ∨ j = i) p = gX ops T X p := by
    funext q
    unfold gX
    have : (∃ j, j < p ∧ AL ops T j ∧ ¬ (X j ∨ j = i) ∧ q = (T j).h.next) ↔ (∃ j, j < p ∧ AL ops T j ∧ ¬ X j ∧ q = (T j).h.next) := by
      constructor
      · rintro ⟨j, h1, h2, h3, h4⟩; exact ⟨j, h1, h2, fun hx => h3 (.inl hx), h4⟩
      · rintro ⟨j, h1, h2, h3, h4⟩
        refine ⟨j, h1, h2, ?_, h4⟩
        rintro (hx | hx)
        · exact h3 hx
        · subst hx; exact hnal h2
    by_cases hx : ∃ j, j < p ∧ AL ops T j ∧ ¬ X j ∧ q = (T j).h.next
    · rw [if_pos (this.2 hx), if_pos hx]
    · rw [if_neg (fun h => hx (this.1 h)), if_neg hx]
  refine ⟨closed_put k di.cl hi hr, put_size di.sz _ _, ?_, ?_, di.hp, ?_, ?_, ?_, ?_, ?_, ?_, di.ei⟩
  · intro n t h1 h2 h3
    rw [tsX_put k hi hni (fun j => Iff.rfl)]
    refine put_at (by rw [tsX_length]; exact di.sz) (fun hd => ?_) fun _ => di.rb n t h1 h2 fun j hj hx hd => h3 j hj (.inl hx) hd
    have hin := h3 i hi (.inr rfl) hd
    exact hv.mono (up_mono (tr.next_le hΓ (by omega) h2))
  · cases hd : ops[i].dst <;> exact di.df
  · intro j hj hcj
    constructor
    · rintro (hx | rfl)
      · exact (di.cp j hj hcj).1 hx
      · rw [hcj] at hc; cases hc
    · intro hlt; exact .inl ((di.cp j hj hcj).2 hlt)
  · rw [hg']; exact di.sim
  · rw [hg']; exact di.st
  · intro j hal hnx; exact di.fresh j hal fun hx => hnx (.inl hx)
  · intro x q hx
    obtain ⟨j, h1, h2, h3, h4⟩ := di.en x q hx
    exact ⟨j, h1, h2, .inl h3, h4⟩
  · intro j h1 hal hx
    rw [hg']
    refine di.xo j h1 hal ?_
    rcases hx with hx | hx
    · exact hx
    · exact absurd (hx ▸ hal) hnal
theorem DI.stepE (hΓ : SoundC P Γ) (k : Ok ops ms) (tr : Trace P C Γ ops ms s0 bs T V) (di : DI P ops s0 T V a0 ρ0 w0 X a w p ρ e) {i : Nat} (hi : i < ops.size) (hni : ¬ X i) (hip : p < i)
    (hr : ∀ e ∈ ops[i].after.toList, bindE e = true → X e.on) (hal : AL ops T i) {ob : AObj} (hob : (T (i + 1)).h = (T i).h.new ob) {o' : Obj} {l : Nat} (hro : RObj P (up ρ e (T i).h.next) l ob o') (hwr : ob.wr = true) {v' : Value}
    (hv : ∀ ρ' : Rho, (up ρ e (T i).h.next).le ρ' → ρ' (T i).h.next = some (w.heap.size, l) → R ρ' (V i) v') :
    DI P ops s0 T V a0 ρ0 w0 (fun j => X j ∨ j = i) (a.put ops[i].dst v') (w.alloc o') p ρ (fun x => if x = (T i).h.next then some (w.heap.size, l) else e x) := by
  have hc : isC ops[i].op = false := by obtain ⟨_, _, _, _, h⟩ := hal; exact h
  obtain ⟨hρn, hen⟩ := di.fresh i hal hni
  have hg' : gX ops T (fun j => X j ∨ j = i) p = gX ops T X p := by
    funext q
    unfold gX
    have : (∃ j, j < p ∧ AL ops T j ∧ ¬ (X j ∨ j = i) ∧ q = (T j).h.next) ↔ (∃ j, j < p ∧ AL ops T j ∧ ¬ X j ∧ q = (T j).h.next) := by
      constructor
      · rintro ⟨j, h1, h2, h3, h4⟩; exact ⟨j, h1, h2, fun hx => h3 (.inl hx), h4⟩
      · rintro ⟨j, h1, h2, h3, h4⟩
        refine ⟨j, h1, h2, ?_, h4⟩
        rintro (hx | hx)
        · exact h3 hx
        · omega
    by_cases hx : ∃ j, j < p ∧ AL ops T j ∧ ¬ X j ∧ q = (T j).h.next
    · rw [if_pos (this.2 hx), if_pos hx]
    · rw [if_neg (fun h => hx (this.1 h)), if_neg hx]
  have hup : ∀ n, (up ρ e n).le (up ρ (fun x => if x = (T i).h.next then some (w.heap.size, l) else e x) n) := fun n => up_le (Nat.le_refl _) (fun _ _ h => h) fun x q g1 g2 => by
    have : x ≠ (T i).h.next := fun h => by rw [h, hen] at g2; cases g2
    exact .inr ⟨g1, by simp only [this, if_false]; exact g2⟩
  have hesz : ∀ x b l, e x = some (b, l) → b < w.heap.size := fun x b l hx => by
    obtain ⟨j, h1, h2, h3, rfl⟩ := di.en x _ hx
    obtain ⟨ob, b2, l2, o2, _, _, k3, _, k5, _⟩ := di.xo j h1 h2 h3
    rw [k3] at hx; cases hx; exact k5
  refine ⟨closed_put k di.cl hi hr, put_size di.sz _ _, ?_, ?_, di.hp, ?_, ?_, ?_, ?_, ?_, ?_, ?_⟩
  · intro n t h1 h2 h3
    rw [tsX_put k hi hni (fun j => Iff.rfl)]
    refine put_at (by rw [tsX_length]; exact di.sz) (fun hd => ?_) fun _ => (di.rb n t h1 h2 fun j hj hx hd => h3 j hj (.inl hx) hd).mono (hup _)
    have hin := h3 i hi (.inr rfl) hd
    have hnn := AL.lt hΓ tr hal hin h2
    refine hv _ ((up_mono (Nat.le_of_lt hnn)).trans (hup _)) ?_
    rw [up_f, if_pos hnn, hρn]
    simp
  · cases hd : ops[i].dst <;> exact di.df
  · intro j hj hcj
    constructor
    · rintro (hx | rfl)
      · exact (di.cp j hj hcj).1 hx
      · rw [hcj] at hc; cases hc
    · intro hlt; exact .inl ((di.cp j hj hcj).2 hlt)
  · rw [hg']; exact di.sim.more o'
  · rw [hg']; exact di.st.more o'
  · intro j halj hnx
    have hne : (T j).h.next ≠ (T i).h.next := fun he => hnx (.inr (AL.inj hΓ tr halj hal he))
    obtain ⟨h1, h2⟩ := di.fresh j halj fun hx => hnx (.inl hx)
    exact ⟨h1, by simp only [hne, if_false]; exact h2⟩
  · intro x q hx
    by_cases hxn : x = (T i).h.next
    · exact ⟨i, Nat.le_of_lt hip, hal, .inr rfl, hxn⟩
    · simp only [hxn, if_false] at hx
      obtain ⟨j, h1, h2, h3, h4⟩ := di.en x q hx
      exact ⟨j, h1, h2, .inl h3, h4⟩
  · intro j h1 halj hx
    rw [hg']
    by_cases hji : j = i
    · subst hji
      refine ⟨ob, w.heap.size, l, o', hob, hwr, by simp, di.st.size, by simp, heapNew _ _, hro.mono (hup _), fun x l' _ h => ?_, fun x hgx h => ?_⟩
      · have := (di.sim.lt x _ _ h).2; omega
      · have := di.sim.ow.size hgx h; omega
    · have hxj : X j := by
        rcases hx with hx | hx
        · exact hx
        · exact absurd hx hji
      obtain ⟨ob2, b, l2, o2, k1, k2, k3, k4, k5, k6, k7, k8, k9⟩ := di.xo j h1 halj hxj
      have hne : (T j).h.next ≠ (T i).h.next := fun he => hji (AL.inj hΓ tr halj hal he)
      exact ⟨ob2, b, l2, o2, k1, k2, by simp only [hne, if_false]; exact k3, k4, by simp; omega, by rw [heapOld _ _ _ k5]; exact k6, k7.mono (hup _), k8, k9⟩
  · intro x x' b l1 l2 h1 h2
    by_cases hx : x = (T i).h.next <;> by_cases hx' : x' = (T i).h.next
    · rw [hx, hx']
    · simp only [hx, hx', if_true, if_false] at h1 h2
      cases h1
      have := hesz x' _ _ h2; omega
    · simp only [hx, hx', if_true, if_false] at h1 h2
      cases h2
      have := hesz x _ _ h1; omega
    · simp only [hx, hx', if_false] at h1 h2
      exact di.ei x x' b l1 l2 h1 h2
theorem DI.stepA (hΓ : SoundC P Γ) (k : Ok ops ms) (tr : Trace P C Γ ops ms s0 bs T V) (di : DI P ops s0 T V a0 ρ0 w0 X a w p ρ e) {i : Nat} (hi : i < ops.size) (hni : ¬ X i) (hip : i < p)
    (hr : ∀ e ∈ ops[i].after.toList, bindE e = true → X e.on) (hal : AL ops T i) {ob : AObj} (hob : (T (i + 1)).h = (T i).h.new ob) {o' : Obj} {l : Nat} (hro : RObj P ρ l ob o') (hwr : ob.wr = true) {v' : Value}
    (hv : ∀ ρ' : Rho, (up ρ e (T p).h.next).le ρ' → ρ' (T i).h.next = some (w.heap.size, l) → R ρ' (V i) v') :
    DI P ops s0 T V a0 ρ0 w0 (fun j => X j ∨ j = i) (a.put ops[i].dst v') (w.alloc o') p (ρ.add (T i).h.next w.heap.size l ob.rw) e := by
  have hA : isA ops[i].op = true := by obtain ⟨_, _, _, h, _⟩ := hal; exact h
  have hc : isC ops[i].op = false := by obtain ⟨_, _, _, _, h⟩ := hal; exact h
  obtain ⟨hρn, hen⟩ := di.fresh i hal hni
  have hno : ∀ j (hj : j < ops.size), i + 1 ≤ j → j < p → isC ops[j].op = false := by
    intro j hj h1 h2
    cases e : isC ops[j].op with
    | false => rfl
    | true =>
      have hx := (di.cp j hj e).2 h2
      exact absurd (di.cl.anc k j hj i hi hx (k.ac i j hi hj (by omega) hA e (by omega))) hni
  have hnm : (T i).h.next < (T p).h.next := by
    have := (tr.grows hΓ (i + 1) p (by omega) di.hp).next
    rw [hob, new_next] at this; omega
  have hgp : (T p).h.get (T i).h.next = some ob := by
    rw [tr.seg hΓ (i + 1) p (by omega) di.hp hno _ ?_, hob]
    · exact AH.get_new_same
    · intro j h1 h2 halj he
      have := AL.lt hΓ tr hal (show i < j by omega) (Nat.le_of_lt halj.1)
      omega
  have hgn : gX ops T X p (T i).h.next = none := by
    unfold gX; rw [if_pos ⟨i, hip, hal, hni, rfl⟩]
  have hg' : gX ops T (fun j => X j ∨ j = i) p = fun q => if q = (T i).h.next then some ob else gX ops T X p q := by
    funext q
    by_cases hq : q = (T i).h.next
    · simp only [hq, if_true]
      unfold gX
      rw [if_neg, hgp]
      rintro ⟨j, h1, h2, h3, h4⟩
      exact h3 (.inr (AL.inj hΓ tr hal h2 h4).symm)
    · simp only [hq, if_false]
      unfold gX
      have : (∃ j, j < p ∧ AL ops T j ∧ ¬ (X j ∨ j = i) ∧ q = (T j).h.next) ↔ (∃ j, j < p ∧ AL ops T j ∧ ¬ X j ∧ q = (T j).h.next) := by
        constructor
        · rintro ⟨j, h1, h2, h3, h4⟩; exact ⟨j, h1, h2, fun hx => h3 (.inl hx), h4⟩
        · rintro ⟨j, h1, h2, h3, h4⟩
          refine ⟨j, h1, h2, ?_, h4⟩
          rintro (hx | hx)
          · exact h3 hx
          · subst hx; exact hq h4
      by_cases hx : ∃ j, j < p ∧ AL ops T j ∧ ¬ X j ∧ q = (T j).h.next
      · rw [if_pos (this.2 hx), if_pos hx]
      · rw [if_neg (fun h => hx (this.1 h)), if_neg hx]
  obtain ⟨h1, h2⟩ := di.sim.alloc (T i).h.next hnm hρn hgn ob o' l hro (AObj.wr_mach hwr)
  have hup : ∀ n, (up ρ e n).le (up (ρ.add (T i).h.next w.heap.size l ob.rw) e n) := fun n => up_le (Nat.le_refl _) (fun x q hx => Rho.add_le hρn x q hx) fun x q g1 g2 => by
    have : x ≠ (T i).h.next := fun h => by rw [h, hen] at g2; cases g2
    exact .inr ⟨by rw [Rho.add_f, if_neg this]; exact g1, g2⟩
  refine ⟨closed_put k di.cl hi hr, put_size di.sz _ _, ?_, ?_, di.hp, ?_, ?_, ?_, ?_, fun x q hx => (di.en x q hx).imp fun j h => ⟨h.1, h.2.1, .inl h.2.2.1, h.2.2.2⟩, ?_, di.ei⟩
  · intro n t g1 g2 g3
    rw [tsX_put k hi hni (fun j => Iff.rfl)]
    refine put_at (by rw [tsX_length]; exact di.sz) (fun hd => ?_) fun _ => (di.rb n t g1 g2 fun j hj hx hd => g3 j hj (.inl hx) hd).mono (hup _)
    have hnn := tr.next_le hΓ g1 g2
    refine hv _ ((up_mono hnn).trans (hup _)) ?_
    rw [up_f, if_pos (by omega), Rho.add_f, if_pos rfl]
  · cases hd : ops[i].dst <;> exact di.df
  · intro j hj hcj
    constructor
    · rintro (hx | rfl)
      · exact (di.cp j hj hcj).1 hx
      · rw [hcj] at hc; cases hc
    · intro hlt; exact .inl ((di.cp j hj hcj).2 hlt)
  · rw [hg']; exact h1
  · rw [hg']; exact di.st.trans h2
  · intro j halj hnx
    have hne : (T j).h.next ≠ (T i).h.next := fun he => hnx (.inr (AL.inj hΓ tr halj hal he))
    rw [Rho.add_f, if_neg hne]
    exact di.fresh j halj fun hx => hnx (.inl hx)
  · intro j g1 halj hx
    have hxj : X j := by
      rcases hx with hx | hx
      · exact hx
      · omega
    obtain ⟨ob2, b, l2, o2, k1, k2, k3, k4, k5, k6, k7, k8, k9⟩ := di.xo j g1 halj hxj
    refine ⟨ob2, b, l2, o2, k1, k2, k3, k4, by simp; omega, by rw [heapOld _ _ _ k5]; exact k6, k7.mono (hup _), fun x l' hgx => ?_, fun x hgx => ?_⟩
    · rw [hg'] at hgx
      rw [Rho.add_f]
      by_cases hxn : x = (T i).h.next
      · rw [if_pos hxn]; intro h; cases h; omega
      · rw [if_neg hxn]; simp only [hxn, if_false] at hgx; exact k8 x l' hgx
    · rw [hg'] at hgx
      rw [Rho.add_φ]
      by_cases hxn : x = (T i).h.next
      · rw [if_pos hxn]; intro h; have := h.2; omega
      · rw [if_neg hxn]; simp only [hxn, if_false] at hgx; exact k9 x hgx
theorem DI.reads (hΓ : SoundC P Γ) (k : Ok ops ms) (tr : Trace P C Γ ops ms s0 bs T V) (hun : bs = s0.h.clock) (hwf : ∀ x, s0.h.get x ≠ none → x < s0.h.next) (di : DI P ops s0 T V a0 ρ0 w0 X a w p ρ e) (hpc : ∀ hlt : p < ops.size, isC ops[p].op = true) {i : Nat} (hi : i < ops.size) (hni : ¬ X i)
    (hr : ∀ e ∈ ops[i].after.toList, bindE e = true → X e.on) (hc : isC ops[i].op = false) (hw : wantedL ops.toList (T i).ts ops[i] = true) {q b l m : Nat} (hq : readBlk ops[i] (evalX (T i).ts) = some q) (hρ : (up ρ e m) q = some (b, l)) {o : AObj}
    (hg : (T i).h.get q = some o) : gX ops T X p q = some o := by
  have hex : ¬ ∃ j, j < p ∧ AL ops T j ∧ ¬ X j ∧ q = (T j).h.next := by
    rintro ⟨j, h1, h2, h3, rfl⟩
    rw [up_none (di.fresh j h2 h3).1 (di.fresh j h2 h3).2] at hρ; cases hρ
  unfold gX
  rw [if_neg hex]
  cases hl : looseAt ms ops.toList i 0 ops.toList with
  | true =>
    obtain ⟨M, hiM, hMs, hMl, hu⟩ := tr.loose i hi hw (readBlk_isRd hq) hl q hq
    obtain ⟨st, o', hf, hlt⟩ := unwritten_mem [q] hu q (List.mem_singleton.2 rfl)
    have key : ∀ j, j ≤ M → (T j).h.find q = some (st, o') := fun j hj => by
      refine (tr.grows hΓ j M hj hMs).stamp q st o' hf ?_
      have := (tr.grows hΓ 0 j (Nat.zero_le _) (by omega)).clock
      rw [tr.start] at this
      omega
    have h1 : (T i).h.get q = some o' := by unfold AH.get; rw [key i hiM]; rfl
    have h0 : (T M).h.get q = some o' := by unfold AH.get; rw [key M (Nat.le_refl _)]; rfl
    have ho : o' = o := by rw [h1] at hg; cases hg; rfl
    subst ho
    rcases Nat.lt_or_ge M p with hpM | hpM
    · -- behind M there is none that is loose: those that are done up to p come ahead of i, or behind
      have hno : ∀ j (hj : j < ops.size), M ≤ j → j < p → isC ops[j].op = false := by
        intro j hj h1 h2
        cases e' : isC ops[j].op with
        | false => rfl
        | true =>
          exfalso
          have hxj := (di.cp j hj e').2 h2
          rcases hMl with hMl | hMl
          · have := lastLoose_le ops.toList 0 hMl j ops[j] (by simp [hj]) e' (by omega)
            simp only [Nat.zero_add] at this
            rcases this with h | h | h
            · subst h; rw [hc] at e'; cases e'
            · have := k.anc_lt i hi j hj h
              omega
            · exact di.back k hi hj hni h hxj
          · omega
      rw [tr.seg hΓ M p (Nat.le_of_lt hpM) di.hp hno q ?_]
      · exact h0
      · intro j g1 g2 hal he
        have hltq : q < (T M).h.next := by
          have hnm : ∀ j, j ≤ ops.size → ∀ x, (T j).h.get x ≠ none → x < (T j).h.next := by
            intro j hj x hx
            rcases (tr.grows hΓ 0 j (Nat.zero_le _) hj).nm x hx with h | h
            · have h1 := hwf x (by rw [← tr.start]; exact h)
              have h2 := (tr.grows hΓ 0 j (Nat.zero_le _) hj).next
              rw [tr.start] at h2; omega
            · exact h.2
          exact hnm M hMs q (by rw [h0]; simp)
        have := (tr.grows hΓ M j g1 (Nat.le_of_lt hal.1)).next
        omega
    · have h2 : (T p).h.get q = some o' := by unfold AH.get; rw [key p hpM]; rfl
      exact h2
  | false =>
    have hcmp : ∀ j (hj : j < ops.size), isC ops[j].op = true → (X j ↔ j < i) := by
      intro j hj hcj
      have := looseAt_false ops.toList 0 hl j ops[j] (by simp [hj]) hcj
      simp only [Nat.zero_add] at this
      rcases this with h | h | h
      · subst h; rw [hc] at hcj; cases hcj
      · have hlt := k.anc_lt i hi j hj h
        exact ⟨fun _ => hlt, fun _ => di.ready k hi hr hj h⟩
      · have hlt := k.anc_lt j hj i hi h
        exact ⟨fun hx => absurd hx (di.back k hi hj hni h), fun h2 => by omega⟩
    have hip : i ≤ p := by
      rcases Nat.lt_or_ge p i with h | h
      · exfalso
        have hps : p < ops.size := by omega
        have hcp := hpc hps
        have h1 := (hcmp p hps hcp).2 h
        have h2 := (di.cp p hps hcp).1 h1
        omega
      · exact h
    have hno : ∀ j (hj : j < ops.size), i ≤ j → j < p → isC ops[j].op = false := by
      intro j hj h1 h2
      cases e' : isC ops[j].op with
      | false => rfl
      | true =>
        have h3 := (di.cp j hj e').2 h2
        have h4 := (hcmp j hj e').1 h3
        omega
    rw [tr.seg hΓ i p hip di.hp hno q ?_]
    · exact hg
    · intro j h1 h2 hal he
      have hlt : q < (T i).h.next := by
        have hnm : ∀ j, j ≤ ops.size → ∀ x, (T j).h.get x ≠ none → x < (T j).h.next := by
          intro j hj x hx
          rcases (tr.grows hΓ 0 j (Nat.zero_le _) hj).nm x hx with h | h
          · have h1 := hwf x (by rw [← tr.start]; exact h)
            have h2 := (tr.grows hΓ 0 j (Nat.zero_le _) hj).next
            rw [tr.start] at h2; omega
          · exact h.2
        exact hnm i (by omega) q (by rw [hg]; simp)
      have := (tr.grows hΓ i j h1 (Nat.le_of_lt hal.1)).next
      omega
theorem DI.step (hC : C.ok P) (hΓ : SoundC P Γ) {r : Option Nat} (hok : okOps P.globals.size ops.toList = true) (k : Ok ops ms) (tr : Trace P C Γ ops ms s0 bs T V) (hun : bs = s0.h.clock)
    (hwf : ∀ x, s0.h.get x ≠ none → x < s0.h.next) (di : DI P ops s0 T V a0 ρ0 w0 X a w p ρ e) (hpc : ∀ hlt : p < ops.size, isC ops[p].op = true) {i : Nat} (hi : i < ops.size) (hni : ¬ X i)
    (hr : ∀ e ∈ ops[i].after.toList, bindE e = true → X e.on) {K : Act → World → Prop} {Q : Exit → Act → World → Prop}
    (hK : ∀ a' w' p' ρ' e', (∀ hlt : p' < ops.size, isC ops[p'].op = true) → DI P ops s0 T V a0 ρ0 w0 (fun j => X j ∨ j = i) a' w' p' ρ' e' → K a' w') : wpOpIn (Fr r) 0 P ops Q i K a w := by
  have ho : ops[i]? = some ops[i] := by simp [hi]
  unfold wpOpIn
  simp only [ho]
  have hrd := fun t ht => tsX_reads k tr di.cl hi hni hr (t := t) ht
  have hwant : Region.wanted ops[i] (yielded ops a.tmps) = wantedL ops.toList (T i).ts ops[i] := by
    rw [wanted_rt (di.rt hΓ tr) ops _ ((knownL_congr (by rw [tsX_length, tr.len i (by omega)]) hrd).trans (tr.known i hi))]
    exact wantedL_congr (by rw [tsX_length, tr.len i (by omega)]) hrd
  rw [hwant]
  rcases (tr.step i hi).1 with ⟨hw, hdo⟩ | ⟨hw, hV, hh⟩
  · rw [hw, if_pos rfl]
    have hbef : ∀ t ∈ readsOf ops.toList ops[i], ∀ j (hj : j < ops.size), X j → ops[j].dst = some t → j < i := by
      intro t ht j hj hx hd
      rcases Nat.lt_trichotomy j i with h | h | h
      · exact h
      · subst h; exact absurd hx hni
      · exact absurd (di.cl.anc k j hj i hi hx ((k.rdw i j hi hj (by omega) t hd ht).2 h)) hni
    obtain ⟨m, hm, hpm, him, hms⟩ : ∃ m, (m = i ∨ m = p) ∧ p ≤ m ∧ i ≤ m ∧ m ≤ ops.size := by
      rcases Nat.lt_or_ge i p with h | h
      · exact ⟨p, .inr rfl, Nat.le_refl _, by omega, di.hp⟩
      · exact ⟨i, .inl rfl, h, Nat.le_refl _, by omega⟩
    have he : ∀ x ∈ ops[i].op.operands.toList, R (up ρ e (T m).h.next) (evalX (T i).ts x) (a.eval x) :=
      ops_rel (fun g hg => by obtain ⟨l, hl⟩ := di.sim.glob g hg; exact ⟨l, di.to_up hΓ tr hpm hms g _ hl⟩)
        (fun t ht => di.rb m t hpm hms fun j hj hx hd => Nat.lt_of_lt_of_le (hbef t ht j hj hx hd) him) (List.all_eq_true.1 hok ops[i] (by simp)) hrd
    cases hc : isC ops[i].op with
    | true =>
      obtain ⟨rfl, hg⟩ := di.atC k hpc hi hni hr hc
      have hs : Sim P ρ (T p).h w := by have := di.sim; rw [hg] at this; exact this.toSim
      have hmp : m = p := by omega
      subst hmp
      refine doOp_wp hC hΓ hdo (fun x hx => (he x hx).mono (di.up_to hΓ tr)) hs ?_
      intro v' w' ρ' hv st
      obtain ⟨p', ρ1, e1, hpc', hd⟩ := di.stepC hΓ k tr hpc hi hni hr hc hv st
      exact hK _ _ _ _ _ hpc' hd
    | false =>
      unfold doOp at hdo
      rw [hc] at hdo
      obtain ⟨r, hev, hval, hor⟩ := doL_cases hdo
      rw [evL_rd] at hev
      have hreads : Reads P (up ρ e (T m).h.next) (fun q => if readBlk ops[i] (evalX (T i).ts) = some q then (T i).h.get q else none) w := by
        intro q o hq
        simp only at hq
        split at hq
        · rename_i hrb
          obtain ⟨b, l, hρ⟩ := readBlk_rho hrb he
          obtain ⟨b2, l2, o2, g1, g2, g3⟩ := di.sim.blk q o (di.reads hΓ k tr hun hwf hpc hi hni hr hc hw hrb hρ hq)
          exact ⟨b2, l2, o2, di.to_up hΓ tr hpm hms q _ g1, g2, g3.mono (di.to_up hΓ tr hpm hms)⟩
        · cases hq
      have hl := evL_sound (w := w) hC hev he hreads
      have hnd := doOp_nodefer (P := P) (C := C) (Γ := Γ) (o := ops[i]) (e := evalX (T i).ts) (h := (T i).h) (by unfold doOp; rw [hc]; exact hdo)
      refine ⟨fun _ _ => trivial, ?_⟩
      rw [Oper.semAt_eq _ _ _ hnd]
      unfold LOk at hl
      rcases hor with ⟨hobj, hh⟩ | ⟨ob, hobj, hh⟩
      · rw [hobj] at hl
        obtain ⟨v', h1, h2⟩ := hl
        rw [h1]
        refine hK _ _ _ _ _ hpc (di.stepV hΓ k tr hi hni hr hc hh (v' := v') hm ?_)
        rw [hval]
        cases r <;> simp [LRes.obj] at hobj
        exact h2
      · rw [hobj] at hl
        obtain ⟨o', l, h1, h2, h3, h4⟩ := hl
        rw [h1]
        have hal : AL ops T i := ⟨hi, ob, hh, (evL_isA hev hobj).1, hc⟩
        rcases Nat.lt_or_ge i p with hip | hip
        · have hmp : m = p := by omega
          subst hmp
          refine hK _ _ _ _ _ hpc (di.stepA hΓ k tr hi hni hip hr hal hh (h2.mono (di.up_to hΓ tr)) h3 (v' := r.name w.heap.size) ?_)
          intro ρ' _ hn
          rw [hval]
          exact h4 ρ' _ hn
        · have hne : p ≠ i := fun h => by subst h; rw [hpc hi] at hc; cases hc
          have hmi : m = i := by omega
          subst hmi
          refine hK _ _ _ _ _ hpc (di.stepE hΓ k tr hi hni (by omega) hr hal hh h2 h3 (v' := r.name w.heap.size) ?_)
          intro ρ' _ hn
          rw [hval]
          exact h4 ρ' _ hn
  · rw [hw, if_neg (by simp)]
    cases hc : isC ops[i].op with
    | true =>
      obtain ⟨rfl, hg⟩ := di.atC k hpc hi hni hr hc
      have hs : Sim P ρ (T p).h w := by have := di.sim; rw [hg] at this; exact this.toSim
      obtain ⟨p', ρ1, e1, hpc', hd⟩ := di.stepC hΓ k tr hpc hi hni hr hc (v' := undef) (ρ' := ρ) (w' := w) (by rw [hV]; exact R.undef _) (by rw [hh]; exact Step.refl hs)
      exact ⟨fun _ _ => trivial, hK _ _ _ _ _ hpc' hd⟩
    | false =>
      exact ⟨fun _ _ => trivial, hK _ _ _ _ _ hpc (di.stepV hΓ k tr hi hni hr hc hh (.inl rfl) (by rw [hV]; exact R.undef _))⟩
def left (listed : Array Bool) (n : Nat) : Nat := ((List.range n).filter fun i => !listed.getD i true).length
theorem filter_le' {f g : Nat → Bool} : ∀ l : List Nat, (∀ x ∈ l, g x = true → f x = true) → (l.filter g).length ≤ (l.filter f).length
  | [], _ => by simp
  | x :: l, h => by
    have ih := filter_le' l fun y hy => h y (List.mem_cons_of_mem _ hy)
    simp only [List.filter_cons]
    cases hg : g x with
    | true => rw [h x (by simp) hg]; simp; omega
    | false => cases f x <;> simp <;> omega
theorem filter_lt' {f g : Nat → Bool} : ∀ l : List Nat, (∀ x ∈ l, g x = true → f x = true) → (∃ x ∈ l, f x = true ∧ g x = false) → (l.filter g).length < (l.filter f).length
  | [], _, h => by obtain ⟨x, hx, _⟩ := h; cases hx
  | x :: l, h, hex => by
    have hle := filter_le' l fun y hy => h y (List.mem_cons_of_mem _ hy)
    simp only [List.filter_cons]
    obtain ⟨y, hy, h1, h2⟩ := hex
    rcases List.mem_cons.1 hy with rfl | hy
    · rw [h1, h2]; simp; omega
    · have ih := filter_lt' l (fun y hy => h y (List.mem_cons_of_mem _ hy)) ⟨y, hy, h1, h2⟩
      cases hg : g x with
      | true => rw [h x (by simp) hg]; simp; omega
      | false => cases f x <;> simp <;> omega
theorem left_set {listed : Array Bool} {n i : Nat} (hi : i < n) (h : listed.getD i true = false) : left (listed.setIfInBounds i true) n < left listed n := by
  have hlt : i < listed.size := by
    rcases Nat.lt_or_ge i listed.size with h' | h'
    · exact h'
    · simp [h'] at h
  unfold left
  refine filter_lt' _ (fun x _ hx => ?_) ⟨i, by simp [hi], by rw [h]; rfl, ?_⟩
  · by_cases e : x = i
    · subst e
      have h1 : (listed.setIfInBounds x true).getD x true = true := by simp [hlt]
      rw [h1] at hx; cases hx
    · rw [getD_set_ne true (Ne.symm e)] at hx; exact hx
  · have h1 : (listed.setIfInBounds i true).getD i true = true := by simp [hlt]
    rw [h1]; rfl
theorem draw_wp (hC : C.ok P) (hΓ : SoundC P Γ) {r : Option Nat} (hok : okOps P.globals.size ops.toList = true) (k : Ok ops ms) (tr : Trace P C Γ ops ms s0 bs T V) (hun : bs = s0.h.clock)
    (hwf : ∀ x, s0.h.get x ≠ none → x < s0.h.next) {Q : Exit → Act → World → Prop}
    (hQ : ∀ a' w' ρ', RT ρ' (T ops.size).ts a' → a'.defers = a0.defers → Step P ρ0 s0.h w0 ρ' (T ops.size).h w' → Q .normal a' w') :
    ∀ (fuel : Nat) (listed : Array Bool) (a : Act) (w : World) (p : Nat) (ρ : Rho) (e : Nat → Option (Nat × Nat)), (∀ hlt : p < ops.size, isC ops[p].op = true) → left listed ops.size ≤ fuel → listed.size = ops.size →
      DI P ops s0 T V a0 ρ0 w0 (fun i => listed.getD i false = true) a w p ρ e → wpAnyIn (Fr r) 0 P .any ops Q fuel listed a w := by
  have hend : ∀ (listed : Array Bool) (a : Act) (w : World) (p : Nat) (ρ : Rho) (e : Nat → Option (Nat × Nat)), (∀ hlt : p < ops.size, isC ops[p].op = true) → listed.size = ops.size → DI P ops s0 T V a0 ρ0 w0 (fun i => listed.getD i false = true) a w p ρ e → Region.ready .any ops listed = [] → Q .normal a w := by
    intro listed a w p ρ e hpc hsz di hrd
    have hall : ∀ i, i < ops.size → listed.getD i false = true := by
      intro i
      induction i using Nat.strongRecOn with
      | _ i ih =>
        intro hi
        cases e' : listed.getD i false with
        | true => rfl
        | false =>
          exfalso
          have hlt : i < listed.size := by omega
          have : i ∈ Region.ready .any ops listed := by
            rw [mem_ready]
            refine ⟨?_, ops[i], by simp [hi], fun ed hed hb => ih ed.on (k.back i hi ed (by simpa using hed) hb) (by have := k.back i hi ed (by simpa using hed) hb; omega)⟩
            simp [hlt] at e' ⊢; exact e'
          rw [hrd] at this; cases this
    have hp : p = ops.size := by
      rcases Nat.lt_or_ge p ops.size with h | h
      · have := (di.cp p h (hpc h)).1 (hall p h); omega
      · have := di.hp; omega
    subst hp
    have hg : gX ops T (fun i => listed.getD i false = true) ops.size = (T ops.size).h.get := by
      funext q
      unfold gX
      rw [if_neg]
      rintro ⟨j, h1, _, h3, _⟩
      exact h3 (hall j h1)
    have hs := di.sim
    have hst := di.st
    rw [hg] at hs hst
    refine hQ a w ρ ?_ di.df ⟨hst.ext, hs.toSim, ?_, hst.os, hst.tape, hst.output, hst.size, hst.keep, hst.img, hst.imf⟩
    · refine ⟨by rw [di.sz, tr.len _ (Nat.le_refl _)], fun t => ?_⟩
      have hr := ((di.rt hΓ tr).at_ t).mono (di.up_to hΓ tr)
      have : (tsX ops s0 V fun i => listed.getD i false = true).getD t undef = (T ops.size).ts.getD t undef := by
        obtain ⟨h1, h2⟩ := tr.at_ k ops.size (Nat.le_refl _) t
        by_cases htl : t < s0.ts.length
        · by_cases hex : ∃ j, ∃ hj : j < ops.size, ops[j].dst = some t
          · obtain ⟨j, hj, hd⟩ := hex
            rw [h1 j hj hj hd htl, tsX_done k hj (hall j hj) hd htl]
          · rw [h2 (fun j hj _ hd => hex ⟨j, hj, hd⟩), tsX_idle fun j hj _ hd => hex ⟨j, hj, hd⟩]
        · have e1 : (tsX ops s0 V fun i => listed.getD i false = true)[t]? = none := by rw [List.getElem?_eq_none]; rw [tsX_length]; omega
          have e2 : (T ops.size).ts[t]? = none := by rw [List.getElem?_eq_none]; rw [tr.len _ (Nat.le_refl _)]; omega
          rw [List.getD_eq_getElem?_getD, List.getD_eq_getElem?_getD, e1, e2]
      rw [← this]; exact hr
    · have := tr.grows hΓ 0 ops.size (Nat.zero_le _) (Nat.le_refl _)
      rw [tr.start] at this; exact this
  have hstep : ∀ (listed : Array Bool) (a : Act) (w : World) (p : Nat) (ρ : Rho) (e : Nat → Option (Nat × Nat)) (K : Act → World → Prop) (i : Nat), (∀ hlt : p < ops.size, isC ops[p].op = true) → listed.size = ops.size → DI P ops s0 T V a0 ρ0 w0 (fun i => listed.getD i false = true) a w p ρ e →
      i ∈ Region.ready .any ops listed → (∀ a' w' p' ρ' e', (∀ hlt : p' < ops.size, isC ops[p'].op = true) → DI P ops s0 T V a0 ρ0 w0 (fun j => (listed.setIfInBounds i true).getD j false = true) a' w' p' ρ' e' → K a' w') → wpOpIn (Fr r) 0 P ops Q i K a w := by
    intro listed a w p ρ e K i hpc hsz di hrd hK
    obtain ⟨h0, o, ho, hed⟩ := mem_ready.1 hrd
    have hi : i < ops.size := (Array.getElem?_eq_some_iff.1 ho).1
    have hoi : ops[i] = o := (Array.getElem?_eq_some_iff.1 ho).2
    have hlt : i < listed.size := by omega
    have hni : ¬ listed.getD i false = true := by
      simp [hlt] at h0 ⊢; exact h0
    refine di.step hC hΓ hok k tr hun hwf hpc hi hni (fun e he hb => hed e (by rw [hoi] at he; simpa using he) hb) ?_
    intro a' w' p' ρ' e' hpc' hd
    refine hK a' w' p' ρ' e' hpc' ?_
    have : (fun j => (listed.setIfInBounds i true).getD j false = true) = fun j => listed.getD j false = true ∨ j = i := by
      funext j
      by_cases e2 : j = i
      · subst e2; simp [hlt]
      · rw [getD_set_ne false (Ne.symm e2)]; simp [e2]
    rw [this]; exact hd
  intro fuel
  induction fuel with
  | zero =>
    intro listed a w p ρ e hpc hl hsz di
    have hrd : Region.ready .any ops listed = [] := by
      cases hq : Region.ready .any ops listed with
      | nil => rfl
      | cons i r =>
        exfalso
        have hm : i ∈ Region.ready .any ops listed := by rw [hq]; simp
        obtain ⟨h0, o, ho, _⟩ := mem_ready.1 hm
        have hi : i < ops.size := (Array.getElem?_eq_some_iff.1 ho).1
        have := left_set hi h0
        omega
    exact ⟨hrd, hend listed a w p ρ e hpc hsz di hrd⟩
  | succ fuel ih =>
    intro listed a w p ρ e hpc hl hsz di
    refine ⟨hend listed a w p ρ e hpc hsz di, fun i hm => ?_⟩
    refine hstep listed a w p ρ e _ i hpc hsz di hm fun a' w' p' ρ' e' hpc' hd => ?_
    obtain ⟨h0, o, ho, _⟩ := mem_ready.1 hm
    have hi : i < ops.size := (Array.getElem?_eq_some_iff.1 ho).1
    have := left_set hi h0
    exact ih _ a' w' p' ρ' e' hpc' (by omega) (by simpa using hsz) hd
theorem evRegion_draw (hm : P.follows .mixedOrders = true) (hC : C.ok P) (hΓ : SoundC P Γ) {r : Option Nat} {id : Nat} (hok : okOps P.globals.size ops.toList = true) (hdr : okDraw ops.toList = true) {a00 : Nat} {ρ00 : Rho} {h00 : AH} {w00 : World}
    {Q : Exit → Act → World → Prop} {s s' : St} {a : Act} {w : World} {ρ : Rho} (hs : evRegion P C Γ ops true s = some s') (hi : Is P ρ00 h00 w00 a00 s a w ρ)
    (hQ : ∀ a' w' ρ', Is P ρ00 h00 w00 a00 s' a' w' ρ' → Q .normal a' w') : (Code.region id ops true).wpIn (Fr r) 0 P Q a w := by
  unfold evRegion at hs
  dsimp only at hs
  split at hs
  · rename_i s2 bs hev
    cases hu : unwritten s.h.clock s2.h (bs.map Prod.fst) with
    | false => rw [hu] at hs; cases hs
    | true =>
      rw [hu] at hs; cases hs
      obtain ⟨T, V, tr, hT⟩ := evDraw_trace hev hu
      have k := okDraw_ok hdr
      have hsim : Sim P ρ s.h { w with drawn := w.drawn + 1 } := hi.st.sim.draw rfl
      have hwf : ∀ x, s.h.get x ≠ none → x < s.h.next := fun x hx => by
        cases e : s.h.get x with
        | none => exact absurd e hx
        | some o => exact hsim.live_lt e
      obtain ⟨p, hp1, hp2, hp3, hp4⟩ := nextC ops ops.size 0 (by omega) (Nat.zero_le _)
      have hno : ∀ i, ¬ ((Array.replicate ops.size false).getD i false = true) := fun i => by
        by_cases h : i < ops.size <;> simp [h]
      have hg : gX ops T (fun i => (Array.replicate ops.size false).getD i false = true) p = s.h.get := by
        funext q
        unfold gX
        split
        · rename_i hex
          obtain ⟨j, hj, hal, _, rfl⟩ := hex
          cases e : s.h.get (T j).h.next with
          | none => rfl
          | some o =>
            have h1 := hsim.live_lt e
            have h2 := (tr.grows hΓ 0 j (Nat.zero_le _) (Nat.le_of_lt hal.1)).next
            rw [tr.start] at h2; omega
        · rename_i hnex
          have := tr.seg hΓ 0 p (Nat.zero_le _) hp2 hp4 q fun j _ h2 hal hq => hnex ⟨j, h2, hal, hno j, hq⟩
          rw [tr.start] at this; exact this
      refine wpIn_region_any hm (draw_wp (a0 := a) (ρ0 := ρ) (w0 := { w with drawn := w.drawn + 1 }) hC hΓ hok k tr rfl hwf ?_ ops.size _ a _ p ρ (fun _ => none) hp3 ?_ (by simp) ?_)
      · intro a' w' ρ' h1 h2 h3
        rw [hT] at h1 h3
        exact hQ a' w' ρ' ⟨h1, hi.st.trans (h3.drawL rfl rfl rfl rfl), by rw [h2]; exact hi.df.step (h3.drawL rfl rfl rfl rfl)⟩
      · unfold left
        refine Nat.le_trans (List.length_filter_le _ _) (by simp)
      · have h0 : tsX ops s V (fun i => (Array.replicate ops.size false).getD i false = true) = s.ts := by
          apply List.ext_getElem?
          intro t
          have hl : (tsX ops s V fun i => (Array.replicate ops.size false).getD i false = true).length = s.ts.length := tsX_length
          by_cases ht : t < s.ts.length
          · have := tsX_idle (ops := ops) (s0 := s) (V := V) (X := fun i => (Array.replicate ops.size false).getD i false = true) (t := t) fun j _ hx => absurd hx (hno j)
            rw [List.getD_eq_getElem?_getD, List.getD_eq_getElem?_getD, List.getElem?_eq_getElem (by omega), List.getElem?_eq_getElem ht] at this
            rw [List.getElem?_eq_getElem (by omega), List.getElem?_eq_getElem ht]
            simpa using this
          · rw [List.getElem?_eq_none (by omega), List.getElem?_eq_none (by omega)]
        refine ⟨fun i hi hx => absurd hx (hno i), hi.rt.size, fun n t g1 g2 g3 => ?_, rfl, hp2, ?_, ?_, ?_, ?_, fun x q hx => by (cases hx), fun j _ _ hx => absurd hx (hno j), fun x x' b l l' hx => by (cases hx)⟩
        · rw [h0]
          refine (hi.rt.at_ t).mono (le_up fun x q hx => ?_)
          have g4 := (hsim.lt x q.1 q.2 hx).1
          have g5 := (tr.grows hΓ 0 n (Nat.zero_le _) g2).next
          rw [tr.start] at g5; omega
        · intro j hj hc
          constructor
          · intro hx; exact absurd hx (hno j)
          · intro hlt
            have := hp4 j hj (Nat.zero_le _) hlt
            rw [hc] at this; cases this
        · rw [hg]
          have := (tr.grows hΓ 0 p (Nat.zero_le _) hp2).next
          rw [tr.start] at this
          exact hsim.toG.weaken this
        · rw [hg]; exact StepG.refl _ _ _
        · intro j hal _
          refine ⟨?_, rfl⟩
          cases e : ρ (T j).h.next with
          | none => rfl
          | some q =>
            have h1 := (hsim.lt _ q.1 q.2 e).1
            have h2 := (tr.grows hΓ 0 j (Nat.zero_le _) (Nat.le_of_lt hal.1)).next
            rw [tr.start] at h2; omega
  · cases hs
end
end Go.Eng
namespace Go.Eng
set_option linter.unusedVariables false
set_option linter.unusedSimpArgs false
set_option linter.unusedSectionVars false
open Go
set_option linter.unusedVariables false
set_option linter.unusedSimpArgs false
def Ex.real : Ex → Exit
  | .normal => .normal
  | .exit id => .exit id
  | .goto l => .goto l
  | .ret => .ret
section
variable {P : Program} [ObjSem P] {C : Cfg} {Γ : Calling} {r : Option Nat}
def SoundF (P : Program) [ObjSem P] (r : Option Nat) (c : Code) (f : St → Option (Ex × St)) : Prop :=
  ∀ (a00 : Nat) (ρ00 : Rho) (h00 : AH) (w00 : World) (s : St) (x : Ex) (s' : St) (a : Act) (w : World) (ρ : Rho), f s = some (x, s') → Is P ρ00 h00 w00 a00 s a w ρ →
    c.wpIn (Fr r) 0 P (fun e a' w' => e = x.real ∧ ∃ ρ', Is P ρ00 h00 w00 a00 s' a' w' ρ') a w
theorem scope_wp {Q : Exit → Act → World → Prop} {body : Code} (n : Nat)
    (J : Nat → Nat → Act → World → Prop)   -- rounds left, label
    (hJ : ∀ k l a w, J (k + 1) l a w → (findLabel body l = none ∧ Q (.goto l) a w) ∨ ∃ rest, findLabel body l = some rest ∧ rest.wp P (fun e a' w' => match e with | .goto l' => J k l' a' w' | e => Q e a' w') a w)
    (hJ0 : ∀ l a w, ¬ J 0 l a w) {a : Act} {w : World}
    (h : body.wp P (fun e a' w' => match e with | .goto l' => J n l' a' w' | e => Q e a' w') a w) : (Code.scope body).wp P Q a w := by
  intro b k cs
  have key : ∀ m l a w, J m l a w → ∀ m0, (∀ k', gotoIn l (.inScope body :: k) = some k' → Steps P m0 (lone (b.at a k') cs w)) →
      ∃ e a' w', Q e a' w' ∧ Arrives P m0 b k cs e a' w' := by
    intro m
    induction m with
    | zero => intro l a w hj; exact absurd hj (hJ0 l a w)
    | succ m ih =>
      intro l a w hj m0 hm0
      rcases hJ m l a w hj with ⟨hf, hq⟩ | ⟨rest, hf, hwp⟩
      · exact ⟨.goto l, a, w, hq, fun k' hk => hm0 k' (by simp [gotoIn, hf, hk])⟩
      · have hg : gotoIn l (.inScope body :: k) = some (.code rest :: .inScope body :: k) := by simp [gotoIn, hf]
        have h0 := hm0 _ hg
        obtain ⟨e, a₁, w₁, hq, harr⟩ := hwp b (.inScope body :: k) cs
        cases e with
        | normal => exact ⟨.normal, a₁, w₁, hq, h0.trans (Steps.trans harr (.one step_inScope))⟩
        | exit id => exact ⟨.exit id, a₁, w₁, hq, fun k' hk => h0.trans (harr k' (by simp [exitTo, hk]))⟩
        | goto l' => exact ih l' a₁ w₁ hq m0 fun k' hk => h0.trans (harr k' hk)
        | ret => exact ⟨_, a₁, w₁, hq, .of_steps (b := b) (k := k) (cs := cs) (e := .ret) h0 harr⟩
        | panic ch => exact ⟨_, a₁, w₁, hq, .of_steps (b := b) (k := k) (cs := cs) (e := .panic ch) h0 harr⟩
        | outgrown => exact ⟨_, a₁, w₁, hq, .of_steps (b := b) (k := k) (cs := cs) (e := .outgrown) h0 harr⟩
  obtain ⟨e, a₁, w₁, hq, harr⟩ := h b (.inScope body :: k) cs
  have hs : Steps P (lone (b.at a (.code (.scope body) :: k)) cs w) (lone (b.at a (.code body :: .inScope body :: k)) cs w) := .one step_scope
  cases e with
  | normal => exact ⟨.normal, a₁, w₁, hq, hs.trans (Steps.trans harr (.one step_inScope))⟩
  | exit id => exact ⟨.exit id, a₁, w₁, hq, fun k' hk => hs.trans (harr k' (by simp [exitTo, hk]))⟩
  | goto l' => exact key n l' a₁ w₁ hq _ fun k' hk => hs.trans (harr k' hk)
  | ret => exact ⟨_, a₁, w₁, hq, .of_steps (b := b) (k := k) (cs := cs) (e := .ret) hs harr⟩
  | panic ch => exact ⟨_, a₁, w₁, hq, .of_steps (b := b) (k := k) (cs := cs) (e := .panic ch) hs harr⟩
  | outgrown => exact ⟨_, a₁, w₁, hq, .of_steps (b := b) (k := k) (cs := cs) (e := .outgrown) hs harr⟩
theorem SoundF.seq {c d : Code} {f g : St → Option (Ex × St)} (hf : SoundF P r c f) (hg : SoundF P r d g) :
    SoundF P r (.seq c d) fun s => thenR (f s) g := by
  intro a00 ρ00 h00 w00 s x s' a w ρ hs hi
  refine wpIn_seq ?_
  unfold thenR at hs; dsimp only at hs
  split at hs
  · rename_i s1 h1
    refine wpIn_mono (hf a00 ρ00 h00 w00 s _ s1 a w ρ h1 hi) fun e a' w' he => ?_
    obtain ⟨rfl, ρ', hi'⟩ := he
    exact hg a00 ρ00 h00 w00 s1 x s' a' w' ρ' hs hi'
  · rename_i hnn
    refine wpIn_mono (hf a00 ρ00 h00 w00 s x s' a w ρ hs hi) fun e a' w' he => ?_
    obtain ⟨rfl, ρ', hi'⟩ := he
    cases x with
    | normal => exact absurd hs (hnn s')
    | exit id => exact ⟨rfl, ρ', hi'⟩
    | goto l => exact ⟨rfl, ρ', hi'⟩
    | ret => exact ⟨rfl, ρ', hi'⟩
theorem SoundF.loop {c : Code} {f : St → Option (Ex × St)} (hf : SoundF P r c f) (n : Nat) : SoundF P r (.loop c) (loopN f n) := by
  intro a00 ρ00 h00 w00 s x s' a w ρ hs hi
  refine wpIn_loop_rounds n ?_
  induction n generalizing s a w ρ with
  | zero => cases hs
  | succ n ih =>
    rw [roundsIn_succ]
    simp only [loopN] at hs
    split at hs
    · rename_i s1 h1
      refine wpIn_mono (hf a00 ρ00 h00 w00 s _ s1 a w ρ h1 hi) fun e a' w' he => ?_
      obtain ⟨rfl, ρ', hi'⟩ := he
      exact ih s1 a' w' ρ' hs hi'
    · rename_i hnn
      refine wpIn_mono (hf a00 ρ00 h00 w00 s x s' a w ρ hs hi) fun e a' w' he => ?_
      obtain ⟨rfl, ρ', hi'⟩ := he
      cases x with
      | normal => exact absurd hs (hnn s')
      | exit id => exact ⟨rfl, ρ', hi'⟩
      | goto l => exact ⟨rfl, ρ', hi'⟩
      | ret => exact ⟨rfl, ρ', hi'⟩
theorem SoundF.scope {c : Code} {f : St → Option (Ex × St)} {frm : Nat → Option (St → Option (Ex × St))} (n : Nat) (hf : SoundF P none c f)
    (hfrm : ∀ l, (∀ g, frm l = some g → ∃ rest, findLabel c l = some rest ∧ SoundF P none rest g) ∧ (frm l = none → findLabel c l = none)) :
    SoundF P none (.scope c) fun s => scopeR frm n (f s) := by
  intro a00 ρ00 h00 w00 s x s' a w ρ hs hi
  refine wpIn_Fr.2 (scope_wp n (fun k l a w => ∃ s1 ρ1, Is P ρ00 h00 w00 a00 s1 a w ρ1 ∧ scopeN frm k l s1 = some (x, s')) ?_ ?_ ?_)
  · rintro k l a w ⟨s1, ρ1, hi1, hs1⟩
    simp only [scopeN] at hs1
    split at hs1
    · rename_i hn
      cases hs1
      exact .inl ⟨(hfrm l).2 hn, rfl, ρ1, hi1⟩
    · rename_i g hg
      obtain ⟨rest, hr, hsd⟩ := (hfrm l).1 g hg
      refine .inr ⟨rest, hr, ?_⟩
      split at hs1
      · rename_i l' s2 h2
        refine wp_mono (wpIn_Fr.1 <| hsd a00 ρ00 h00 w00 s1 _ s2 a w ρ1 h2 hi1) fun e a' w' he => ?_
        obtain ⟨rfl, ρ', hi'⟩ := he
        exact ⟨s2, ρ', hi', hs1⟩
      · rename_i hnn
        refine wp_mono (wpIn_Fr.1 <| hsd a00 ρ00 h00 w00 s1 x s' a w ρ1 hs1 hi1) fun e a' w' he => ?_
        obtain ⟨rfl, ρ', hi'⟩ := he
        cases x with
        | goto l2 => exact absurd hs1 (hnn l2 s')
        | exit id => exact ⟨rfl, ρ', hi'⟩
        | normal => exact ⟨rfl, ρ', hi'⟩
        | ret => exact ⟨rfl, ρ', hi'⟩
  · rintro l a w ⟨s1, ρ1, _, h⟩; cases h
  · unfold scopeR at hs; dsimp only at hs
    split at hs
    · rename_i l s1 h1
      refine wp_mono (wpIn_Fr.1 <| hf a00 ρ00 h00 w00 s _ s1 a w ρ h1 hi) fun e a' w' he => ?_
      obtain ⟨rfl, ρ', hi'⟩ := he
      exact ⟨s1, ρ', hi', hs⟩
    · rename_i hnn
      refine wp_mono (wpIn_Fr.1 <| hf a00 ρ00 h00 w00 s x s' a w ρ hs hi) fun e a' w' he => ?_
      obtain ⟨rfl, ρ', hi'⟩ := he
      cases x with
      | goto l2 => exact absurd hs (hnn l2 s')
      | exit id => exact ⟨rfl, ρ', hi'⟩
      | normal => exact ⟨rfl, ρ', hi'⟩
      | ret => exact ⟨rfl, ρ', hi'⟩
theorem SoundF.block {c : Code} {f : St → Option (Ex × St)} (id : Nat) (hf : SoundF P r c f) :
    SoundF P r (.block id c) fun s => blockR id (f s) := by
  intro a00 ρ00 h00 w00 s x s' a w ρ hs hi
  refine wpIn_block ?_
  unfold blockR at hs; dsimp only at hs
  split at hs
  · rename_i i s1 h1
    refine wpIn_mono (hf a00 ρ00 h00 w00 s _ s1 a w ρ h1 hi) fun e a' w' he => ?_
    obtain ⟨rfl, ρ', hi'⟩ := he
    show Exit.inBlock id _ (Exit.exit i) a' w'
    simp only [Exit.inBlock]
    cases hb : Nat.beq i id with
    | true =>
      rw [hb] at hs; cases hs
      rw [if_pos (beq_true hb)]
      exact ⟨rfl, ρ', hi'⟩
    | false =>
      rw [hb] at hs; cases hs
      rw [if_neg (beq_false hb)]
      exact ⟨rfl, ρ', hi'⟩
  · rename_i hnn
    refine wpIn_mono (hf a00 ρ00 h00 w00 s x s' a w ρ hs hi) fun e a' w' he => ?_
    obtain ⟨rfl, ρ', hi'⟩ := he
    cases x with
    | exit i => exact absurd hs (hnn i s')
    | normal => exact ⟨rfl, ρ', hi'⟩
    | goto l => exact ⟨rfl, ρ', hi'⟩
    | ret => exact ⟨rfl, ρ', hi'⟩
theorem RT.rl {ρ : Rho} {ts : List Value} {a : Act} (h : RT ρ ts a) : RL ρ ts a.tmps.toList := by
  refine ⟨by have := h.size; simpa using this.symm, fun i v e => ?_⟩
  obtain ⟨hlt, _⟩ := List.getElem?_eq_some_iff.1 e
  have h2 := h.at_ i
  have hl2 : i < a.tmps.size := by rw [h.size]; exact hlt
  rw [List.getD_eq_getElem?_getD, e] at h2
  refine ⟨a.tmps[i], by simp [hl2], ?_⟩
  simpa [Array.getD_eq_getD_getElem?, hl2] using h2
def LSt.jump : LSt → Option Code
  | .done c => some c
  | _ => none
theorem range_sound (hΓ : SoundC P Γ) {g : Operand} {ps : Array Tmp} {asg bd : Code} (hg : okX P.globals.size g = true) {a00 : Nat} {ρ00 : Rho} {h00 : AH} {w00 : World} {s : St} {x : Ex} {s' : St} {a : Act} {w : World} {ρ : Rho}
    (hs : rangeL P Γ (evalX s.ts g) ps asg bd s = some (x, s')) (hi : Is P ρ00 h00 w00 a00 s a w ρ) :
    (Code.rangeFunc g ps asg bd).wpIn (Fr none) 0 P (fun e a' w' => e = x.real ∧ ∃ ρ', Is P ρ00 h00 w00 a00 s' a' w' ρ') a w := by
  unfold rangeL at hs
  split at hs
  case h_2 => cases hs
  rename_i f first cap hv
  split at hs
  case h_2 => cases hs
  rename_i hlt
  have hev := hi.rt.eval hi.st.sim hg
  rw [hv] at hev
  generalize hq : a.eval g = z at hev
  cases hev with
  | func _ _ ys _ vs hys kys hvs kvs =>
  have hfirst : RL ρ first.toList ys.toList := .of_array hys kys
  have hcap : RL ρ cap.toList vs.toList := .of_array hvs kvs
  split at hs
  case h_2 => cases hs
  rename_i v2 h2 hcall
  obtain ⟨_, ⟨hf, hdo⟩ | ⟨y, hy, _⟩⟩ := hΓ _ _ _ _ _ hcall
  case inr =>
    rw [Nat.blt_eq, hy] at hlt
    exact absurd hlt (Nat.not_lt_of_le (Nat.le_add_right _ _))
  refine wpIn_rangeFunc fun fn _ => ?_
  obtain ⟨rec, hrec⟩ : ∃ rec : Loop, rec = { state := .ready, pending := none, fn, tmps := a.tmps, params := ps, assign := asg, body := bd, defers := w.heap.size } := ⟨_, rfl⟩
  obtain ⟨W0, hW0⟩ : ∃ W0, w.alloc (.deferred (some [])) = W0 := ⟨_, rfl⟩
  have hs0 : W0.heap.size = w.heap.size + 1 := by rw [← hW0]; simp
  have hD0 : W0.heap[w.heap.size]? = some (.deferred (some [])) := by rw [← hW0]; exact heapNew _ _
  have st0 : Step P ρ s.h w ρ s.h W0 := by
    refine .of_grown hi.st.sim (by rw [← hW0]; rfl) (by rw [← hW0]; rfl) (by rw [← hW0]; rfl) (by omega) fun b hb => ?_
    rw [← hW0]; exact heapOld _ _ _ hb
  have st1 := Step.alloc (P := P) st0.sim (.loop s.ts ps asg bd .ready) (.loop rec) 0 ⟨by rw [hrec]; exact hi.rt.rl, by rw [hrec], by rw [hrec], by rw [hrec], by rw [hrec]; exact ⟨rfl, rfl⟩⟩
  obtain ⟨ρ1, hρ1⟩ : ∃ ρ1 : Rho, ρ.add s.h.next W0.heap.size 0 (AObj.rw (.loop s.ts ps asg bd .ready)) = ρ1 := ⟨_, rfl⟩
  obtain ⟨W1, hW1⟩ : ∃ W1, W0.alloc (.loop rec) = W1 := ⟨_, rfl⟩
  rw [hρ1, hW1] at st1
  have hn1 : ρ1 s.h.next = some (W0.heap.size, 0) := by rw [← hρ1]; simp [Rho.add_f]
  have henter : (Instr.enterLoop fn a.tmps ps asg bd none).run P w = .ok (w.heap.size + 1, [markD w.heap.size]) W1 := by
    rw [run_enterLoop_outer, ← hW1, ← hW0, hrec]; rfl
  refine ⟨w.heap.size + 1, [markD w.heap.size], W1, { target := .fn (.func f) vs, args := ys ++ #[.func (.yield (w.heap.size + 1)) #[] #[]] }, W1, f, ys ++ #[.func (.yield (w.heap.size + 1)) #[] #[]] ++ vs, W1, henter, ?_, fun _ _ => trivial, ?_, fun h => by simp [Fr, Fence.wide] at h, ?_⟩
  · simp only [resolve, hq, Deferred.ofValue]
    simp [go_sem]
  · simp [invoke]
    exact callFunc_ok hf _ _
  have hargs : RL ρ1 (first.toList ++ [Value.func (.yield s.h.next) #[] #[]] ++ cap.toList) (ys ++ #[Value.func (.yield (w.heap.size + 1)) #[] #[]] ++ vs).toList := by
    have hle : ρ.le ρ1 := st1.ext
    have := ((hfirst.mono hle).append (RL.cons (R.yield (ρ := ρ1) (b := w.heap.size + 1) (l := 0) (by rw [hn1, hs0])) (.nil _))).append (hcap.mono hle)
    simpa using this
  have m1 : Marks a00 ρ1 (s.h.new (.loop s.ts ps asg bd .ready)) W1 (markD w.heap.size :: a.defers) := by
    obtain ⟨hsz, Ds, hds, hnd, hall⟩ := (hi.df.step st0).step st1
    refine ⟨hsz, w.heap.size :: Ds, by rw [hds]; rfl, List.nodup_cons.2 ⟨fun hmem => ?_, hnd⟩, fun D hD => ?_⟩
    · obtain ⟨_, Ds', hds', _, hall'⟩ := hi.df
      have : Ds = Ds' := by
        have h := hds.symm.trans hds'
        exact List.map_inj_right (fun a b h => by simpa [markD] using h) |>.1 h
      subst this
      have := (Array.getElem?_eq_some_iff.1 (hall' _ hmem).2.1).1
      omega
    · rcases List.mem_cons.1 hD with rfl | hD
      · refine ⟨hi.df.1, ?_, fun b hg hr => ?_⟩
        · rw [← hW1, heapOld _ _ _ (by omega)]; exact hD0
        · rw [← hρ1, Rho.add_φ] at hr
          split at hr
          · omega
          · rename_i hne
            rw [AH.get_new_ne hne] at hg
            have := hi.st.sim.ow.size hg hr; omega
      · exact hall D hD
  refine callsIn_Fr.2 ((hdo ρ1 W1 _ hargs st1.sim).mono ?_)
  rintro e W2 ⟨ρ2, v', rfl, hR2, st2⟩
  have hn2 : ρ2 s.h.next = some (w.heap.size + 1, 0) := by rw [← hs0]; exact st2.ext _ _ hn1
  have fin : ∀ (t : List Value) (p : Array Tmp) (ca cb : Code) (st : LSt), h2.get s.h.next = some (.loop t p ca cb st) → (st = .ready ∨ ∃ c, st = .done c) →
      ∃ W3, (Instr.endLoop (w.heap.size + 1)).run P W2 = .ok st.jump W3 ∧
        Is P ρ00 h00 w00 a00 ⟨s.ts, (h2.put s.h.next (.loop t p ca cb .gone)).drop s.h.next⟩ { a with defers := [markD w.heap.size] ++ a.defers } W3 ρ2 := by
    intro t p ca cb st hg hst
    obtain ⟨b, l, o', h3, h4, h5⟩ := st2.sim.blk _ _ hg
    rw [hn2] at h3; cases h3
    cases o' with
    | loop r =>
      obtain ⟨q1, q2, q3, q4, q5⟩ := h5
      have hbusy : r.state ≠ .busy := by
        rcases hst with rfl | ⟨c, rfl⟩
        · rw [q5.1]; simp
        · rw [q5.1]; simp
      have hpend : r.pending = st.jump := by
        rcases hst with rfl | ⟨c, rfl⟩
        · exact q5.2
        · exact q5.2
      have hlt2 : w.heap.size + 1 < W2.heap.size := (Array.getElem?_eq_some_iff.1 h4).1
      refine ⟨_, by rw [← hpend]; exact run_endLoop h4 hbusy, ?_⟩
      have st3 := Step.write (P := P) st2.sim hg rfl hn2 (.loop t p ca cb .gone) rfl (.loop { r with state := .exhausted }) ⟨q1, q2, q3, q4, rfl⟩ (W2.putObj (w.heap.size + 1) (.loop { r with state := .exhausted }))
        (World.putObj_heap_same hlt2) (fun k hk => World.putObj_heap_other hk) (by simp) rfl rfl rfl
      have st4 := Step.drop (P := P) st3.sim s.h.next
      have stA := (((st0.trans st1).trans st2).trans st3).trans st4
      exact ⟨⟨(hi.rt.mono stA.ext).size, (hi.rt.mono stA.ext).at_⟩, hi.st.trans stA, (((m1.step st2).step st3).step st4 :)⟩
    | _ => exact h5.elim
  split at hs
  · rename_i t p ca cb hg
    cases hs
    obtain ⟨W3, hr, hI⟩ := fin _ _ _ _ _ hg (.inl rfl)
    exact ⟨none, W3, hr, rfl, ρ2, hI⟩
  · rename_i t p ca cb hg
    cases hs
    obtain ⟨W3, hr, hI⟩ := fin _ _ _ _ _ hg (.inr ⟨_, rfl⟩)
    exact ⟨some .ret, W3, hr, wpIn_ret ⟨rfl, ρ2, hI⟩⟩
  · rename_i t p ca cb i hg
    cases hs
    obtain ⟨W3, hr, hI⟩ := fin _ _ _ _ _ hg (.inr ⟨_, rfl⟩)
    exact ⟨some (.exit i), W3, hr, wpIn_exit ⟨rfl, ρ2, hI⟩⟩
  · rename_i t p ca cb l hg
    cases hs
    obtain ⟨W3, hr, hI⟩ := fin _ _ _ _ _ hg (.inr ⟨_, rfl⟩)
    exact ⟨some (.goto l), W3, hr, wpIn_goto ⟨rfl, ρ2, hI⟩⟩
  · cases hs
theorem evC_sound (hm : P.follows .mixedOrders = true) (hC : C.ok P) (hΓ : SoundC P Γ) (n : Nat) : ∀ (c : Code), okCode P.globals.size c = true → (r = none ∨ noRange c = true) →
    SoundF P r c (evC P C Γ n c) ∧ ∀ l, (∀ g, evF P C Γ n c l = some g → ∃ rest, findLabel c l = some rest ∧ SoundF P r rest g) ∧ (evF P C Γ n c l = none → findLabel c l = none) := by
  have hno : ∀ {c : Code}, (∀ l, evF P C Γ n c l = none) → (∀ l, findLabel c l = none) → ∀ l, (∀ g, evF P C Γ n c l = some g → ∃ rest, findLabel c l = some rest ∧ SoundF P r rest g) ∧ (evF P C Γ n c l = none → findLabel c l = none) :=
    fun h1 h2 l => ⟨(fun g hg => by rw [h1 l] at hg; cases hg), fun _ => h2 l⟩
  intro c
  induction c with
  | skip =>
    intro _ _
    refine ⟨?_, hno (fun _ => by simp only [evF]) (fun _ => rfl)⟩
    intro a00 ρ00 h00 w00 s x s' a w ρ hs hi
    simp only [evC] at hs; cases hs
    exact wpIn_skip ⟨rfl, ρ, hi⟩
  | region id ops draw =>
    intro hok _
    refine ⟨?_, hno (fun _ => by simp only [evF]) (fun _ => rfl)⟩
    intro a00 ρ00 h00 w00 s x s' a w ρ hs hi
    simp only [evC] at hs
    simp only [okCode, Bool.and_eq_true] at hok
    unfold regR at hs
    split at hs
    · rename_i s1 h1
      cases hs
      cases draw with
      | false =>
        exact evRegion_plain hC hΓ ops hok.1 (by simpa [evRegion] using h1) hi fun a' w' ρ' h => ⟨rfl, ρ', h⟩
      | true =>
        exact evRegion_draw hm hC hΓ hok.1 (by simpa using hok.2) h1 hi fun a' w' ρ' h => ⟨rfl, ρ', h⟩
    · cases hs
  | seq c d ihc ihd =>
    intro hok hnr
    simp only [okCode, Bool.and_eq_true] at hok
    simp only [noRange, Bool.and_eq_true] at hnr
    obtain ⟨hc1, hc2⟩ := ihc hok.1 (hnr.imp id And.left)
    obtain ⟨hd1, hd2⟩ := ihd hok.2 (hnr.imp id And.right)
    refine ⟨?_, fun l => ?_⟩
    · have := hc1.seq hd1
      intro a00 ρ00 h00 w00 s x s' a w ρ hs hi
      refine this a00 ρ00 h00 w00 s x s' a w ρ ?_ hi
      simpa only [evC] using hs
    · obtain ⟨h1, h2⟩ := hc2 l
      obtain ⟨h3, h4⟩ := hd2 l
      simp only [evF, findLabel]
      cases he : evF P C Γ n c l with
      | none =>
        rw [h2 he]
        exact ⟨h3, h4⟩
      | some f =>
        obtain ⟨rest, hr, hs⟩ := h1 f he
        rw [hr]
        refine ⟨fun g hg => ⟨_, rfl, ?_⟩, fun h => by cases h⟩
        cases hg
        exact hs.seq hd1
  | cond q c d ihc ihd =>
    intro hok hnr
    simp only [okCode, Bool.and_eq_true] at hok
    simp only [noRange, Bool.and_eq_true] at hnr
    obtain ⟨hc1, _⟩ := ihc hok.1.2 (hnr.imp id And.left)
    obtain ⟨hd1, _⟩ := ihd hok.2 (hnr.imp id And.right)
    refine ⟨?_, hno (fun _ => by simp only [evF]) (fun _ => rfl)⟩
    intro a00 ρ00 h00 w00 s x s' a w ρ hs hi
    simp only [evC] at hs
    have he := hi.rt.eval hi.st.sim hok.1.1
    unfold condR at hs
    split at hs
    · rename_i hq
      rw [hq] at he
      generalize hz : a.eval q = z at he
      cases he
      exact wpIn_cond_true hz (hc1 a00 ρ00 h00 w00 s x s' a w ρ hs hi)
    · rename_i hq
      rw [hq] at he
      generalize hz : a.eval q = z at he
      cases he
      exact wpIn_cond_false hz (hd1 a00 ρ00 h00 w00 s x s' a w ρ hs hi)
    · cases hs
  | block id c ih =>
    intro hok hnr
    obtain ⟨hc1, _⟩ := ih hok hnr
    refine ⟨?_, hno (fun _ => by simp only [evF]) (fun _ => rfl)⟩
    have := hc1.block id
    intro a00 ρ00 h00 w00 s x s' a w ρ hs hi
    refine this a00 ρ00 h00 w00 s x s' a w ρ ?_ hi
    simpa only [evC] using hs
  | loop c ih =>
    intro hok hnr
    obtain ⟨hc1, _⟩ := ih hok hnr
    refine ⟨?_, hno (fun _ => by simp only [evF]) (fun _ => rfl)⟩
    have := hc1.loop n
    intro a00 ρ00 h00 w00 s x s' a w ρ hs hi
    refine this a00 ρ00 h00 w00 s x s' a w ρ ?_ hi
    simpa only [evC] using hs
  | rangeFunc g ps asg bd _ _ =>
    intro hok hnr
    have hr0 : r = none := hnr.resolve_right (by simp [noRange])
    subst hr0
    refine ⟨?_, hno (fun _ => by simp only [evF]) (fun _ => rfl)⟩
    simp only [okCode, Bool.and_eq_true] at hok
    intro a00 ρ00 h00 w00 s x s' a w ρ hs hi
    simp only [evC] at hs
    exact range_sound hΓ hok.1.1.1.1 hs hi
  | exit id =>
    intro _ _
    refine ⟨?_, hno (fun _ => by simp only [evF]) (fun _ => rfl)⟩
    intro a00 ρ00 h00 w00 s x s' a w ρ hs hi
    simp only [evC] at hs; cases hs
    exact wpIn_exit ⟨rfl, ρ, hi⟩
  | scope c ih =>
    intro hok hnr
    have hr0 : r = none := hnr.resolve_right (by simp [noRange])
    subst hr0
    obtain ⟨hc1, hc2⟩ := ih hok (.inl rfl)
    refine ⟨?_, hno (fun _ => by simp only [evF]) (fun _ => rfl)⟩
    have := hc1.scope n hc2
    intro a00 ρ00 h00 w00 s x s' a w ρ hs hi
    refine this a00 ρ00 h00 w00 s x s' a w ρ ?_ hi
    simpa only [evC] using hs
  | label l0 =>
    intro _ _
    refine ⟨?_, fun l => ?_⟩
    · intro a00 ρ00 h00 w00 s x s' a w ρ hs hi
      simp only [evC] at hs; cases hs
      exact wpIn_label ⟨rfl, ρ, hi⟩
    · simp only [evF, findLabel]
      cases hb : Nat.beq l0 l with
      | true =>
        have : (l0 == l) = true := by simpa using beq_true hb
        rw [this]
        refine ⟨fun g hg => ⟨.skip, rfl, ?_⟩, fun h => by cases h⟩
        cases hg
        intro a00 ρ00 h00 w00 s x s' a w ρ hs hi
        cases hs
        exact wpIn_skip ⟨rfl, ρ, hi⟩
      | false =>
        have : (l0 == l) = false := by simpa using beq_false hb
        rw [this]
        exact ⟨(fun g hg => by cases hg), fun _ => rfl⟩
  | goto l =>
    intro _ _
    refine ⟨?_, hno (fun _ => by simp only [evF]) (fun _ => rfl)⟩
    intro a00 ρ00 h00 w00 s x s' a w ρ hs hi
    simp only [evC] at hs; cases hs
    exact wpIn_goto ⟨rfl, ρ, hi⟩
  | ret =>
    intro _ _
    refine ⟨?_, hno (fun _ => by simp only [evF]) (fun _ => rfl)⟩
    intro a00 ρ00 h00 w00 s x s' a w ρ hs hi
    simp only [evC] at hs; cases hs
    exact wpIn_ret ⟨rfl, ρ, hi⟩
  | refuse why => intro hok _; cases hok
end
end Go.Eng
namespace Go.Eng
set_option linter.unusedVariables false
set_option linter.unusedSimpArgs false
set_option linter.unusedSectionVars false
open Go
set_option linter.unusedVariables false
set_option linter.unusedSimpArgs false
section
variable (P : Program) (C : Cfg)
def endR (r : Option (Ex × St)) : Option St :=
  match r with
  | some (.normal, s) => some s
  | some (.ret, s) => some s
  | _ => none
def outR (rs : List ResultVar) (r : Option St) : Option (Value × AH) :=
  match r with
  | some s => match resL P s rs with
    | some l => some (oneOf l, s.h)
    | none => none
  | none => none
def firstSt (args : List Value) (n : Nat) (h : AH) : St := ⟨args ++ List.replicate (n - args.length) undef, h⟩
def evFn (Γ : Calling) (n : Nat) (c : Code) (k : Nat) (rs : List ResultVar) (args : List Value) (h : AH) : Option (Value × AH) :=
  outR P rs (endR (evC P C Γ n c (firstSt args k h)))
def okFn (f : FuncId) : Bool :=
  match P.funcs[f]? with
  | some fn => (match fn.body with
    | some c => okCode P.globals.size c
    | none => false) && !(fn.name == "runtime.NumGoroutine")
  | none => false
def run (fs : List FuncId) (ext : Calling) (n : Nat) : Nat → Calling
  | 0 => ext
  | k + 1 => fun f args h => match ext f args h with
    | some r => some r
    | none => match fs.contains f with
      | true => match P.funcs[f]? with
        | some fn => match fn.body with
          | some c => evFn P C (run fs ext n k) n c fn.ntmps fn.results.toList args h
          | none => none
        | none => none
      | false => match Nat.ble P.funcs.size f with
        | true => runY P C (run fs ext n k) n (f - P.funcs.size) args h
        | false => none
end
section
variable {P : Program} [ObjSem P] {C : Cfg} {Γ : Calling}
theorem asAddr_of {x v : Value} {t : TypeId} {rd : Nat → Option AObj} (h : loadV P t x rd = some v) : ∃ a off, x = .pointer (some ⟨a, off, none⟩) := by
  unfold loadV at h
  split at h
  · exact ⟨_, _, rfl⟩
  · cases h
def resRun (tmps : Array Value) (x : ResultVar) : Sem Value :=
  match x with
  | .tmp t => pure (tmps.getD t undef)
  | .cell a t => do loadVar t (← asAddr (tmps.getD a undef))
theorem resL_run {ρ : Rho} {w : World} {s : St} {tmps : Array Value} (hs : Sim P ρ s.h w) (ht : ∀ t, R ρ (s.ts.getD t undef) (tmps.getD t undef)) :
    ∀ (rs : List ResultVar) (l : List Value), resL P s rs = some l → ∃ l', (rs.mapM (resRun tmps)).run P w = .ok l' w ∧ RL ρ l l'
  | [], l, h => by cases h; exact ⟨[], by simp [List.mapM_nil], .nil _⟩
  | .tmp t :: r, l, h => by
    simp only [resL] at h
    split at h
    · rename_i l1 h1
      cases h
      obtain ⟨l', hr, hl⟩ := resL_run hs ht r l1 h1
      exact ⟨_, by simp [List.mapM_cons, resRun, Sem.run_bind, hr], .cons (ht t) hl⟩
    · cases h
  | .cell a t :: r, l, h => by
    simp only [resL] at h
    split at h
    · rename_i v l1 hv h1
      cases h
      obtain ⟨l', hr, hl⟩ := resL_run hs ht r l1 h1
      obtain ⟨v', hv', hR⟩ := run_loadV (w := w) hv (ht a) hs.reads
      obtain ⟨b, off, hb⟩ := asAddr_of hv
      have hta := ht a
      rw [hb] at hta
      generalize he : tmps.getD a undef = z at hta hv'
      cases hta with
      | ptr _ hp =>
        have hv2 := hv'
        simp [Instr.loadAt, Instr.sureAddr] at hv2
        exact ⟨_, by simp [List.mapM_cons, resRun, Sem.run_bind, hr, he, asAddr, hv2], .cons hR hl⟩
    · cases h
theorem results_run {ρ : Rho} {w : World} {s : St} {fn : Func} {tmps : Array Value} (hs : Sim P ρ s.h w) (ht : ∀ t, R ρ (s.ts.getD t undef) (tmps.getD t undef))
    {l : List Value} (h : resL P s fn.results.toList = some l) : ∃ v', (results fn tmps).run P w = .ok v' w ∧ R ρ (oneOf l) v' := by
  obtain ⟨l', hr, hl⟩ := resL_run hs ht _ _ h
  have hm : (results fn tmps) = (do let vs ← Array.mapM (resRun tmps) fn.results; pure (if h : vs.size = 1 then vs[0] else Value.tuple vs)) := rfl
  rw [hm]
  have ha : Array.mapM (resRun tmps) fn.results = List.toArray <$> List.mapM (resRun tmps) fn.results.toList := by
    rw [← List.mapM_toArray]
  rw [ha]
  simp only [Sem.run_bind, Sem.run_map, hr]
  cases l with
  | nil =>
    have := hl.nil_inv; subst this
    exact ⟨_, rfl, R.tuple_of (.nil _)⟩
  | cons v r =>
    obtain ⟨v', r', rfl, hv, hr2⟩ := hl.uncons
    cases r with
    | nil =>
      have := hr2.nil_inv; subst this
      exact ⟨v', by simp, hv⟩
    | cons u q =>
      obtain ⟨u', q', rfl, hu, hq⟩ := hr2.uncons
      exact ⟨_, by simp, R.tuple_of hl⟩
theorem first_rt {ρ : Rho} {args : List Value} {args' : Array Value} (h : RL ρ args args'.toList) (n : Nat) (q : AH) :
    RT ρ (firstSt args n q).ts { tmps := args' ++ Array.replicate (n - args'.size) undef, defers := [] } := by
  have hsz : args'.size = args.length := by have := h.1; simpa using this.symm
  have hl : RL ρ (firstSt args n q).ts (args' ++ Array.replicate (n - args'.size) undef).toList := by
    simp only [firstSt, Array.toList_append, Array.toList_replicate, hsz]
    exact h.append (.replicate (R.undef ρ) _)
  refine ⟨by simpa using hl.1.symm, fun t => ?_⟩
  have := hl.getD (R.undef ρ) t
  simpa [List.getD_eq_getElem?_getD, Array.getD_eq_getD_getElem?, ← Array.getElem?_toList] using this
theorem leaves_marks {ρ ρ' : Rho} {h : AH} {w : World} {s : St} {fn : Func} {tmps : Array Value} {R : Ending → World → Prop} {l : List Value} (ht : ∀ t, Eng.R ρ' (s.ts.getD t undef) (tmps.getD t undef)) (hl : resL P s fn.results.toList = some l)
    (hR : ∀ v' w', Eng.R ρ' (oneOf l) v' → Step P ρ h w ρ' s.h w' → R (.returned v') w') : ∀ (Ds : List Nat) (w' : World), Step P ρ h w ρ' s.h w' → Ds.Nodup → (∀ D ∈ Ds, w.heap.size ≤ D ∧ w'.heap[D]? = some (.deferred (some []))) →
      LeavesInM (Fr none) 0 P fn tmps R (Ds.map markD) .returning w'
  | [], w', st, _, _ => by
    obtain ⟨v', hr, hv⟩ := results_run st.sim ht hl
    exact ⟨v', hr, hR v' w' hv st⟩
  | D :: Ds, w', st, hn, hd => by
    obtain ⟨h0, h1⟩ := hd D List.mem_cons_self
    obtain ⟨hn1, hn2⟩ := List.nodup_cons.1 hn
    refine ⟨by simp, .inl ⟨D, _, rfl, run_takeDeferred h1, ?_⟩⟩
    refine leaves_marks ht hl hR Ds _ (st.shut h1 h0 _) hn2 fun D' hD' => ?_
    obtain ⟨h2, h3⟩ := hd D' (List.mem_cons_of_mem _ hD')
    exact ⟨h2, by rw [World.putObj_heap_other (fun e => hn1 (by rw [← e]; exact hD'))]; exact h3⟩
theorem evFn_sound (hm : P.follows .mixedOrders = true) (hC : C.ok P) (hΓ : SoundC P Γ) {n : Nat} {f : FuncId} {fn : Func} {c : Code} (hf : P.funcs[f]? = some fn) (hb : fn.body = some c)
    (hok : okCode P.globals.size c = true) {args : List Value} {h : AH} {v : Value} {h' : AH} (hs : evFn P C Γ n c fn.ntmps fn.results.toList args h = some (v, h'))
    {ρ : Rho} {w : World} {args' : Array Value} (ha : RL ρ args args'.toList) (hw : Sim P ρ h w) :
    Calls P f args' w fun e w' => ∃ ρ' v', e = .returned v' ∧ R ρ' v v' ∧ Step P ρ h w ρ' h' w' := by
  refine callsIn_Fr.1 (callsIn_of_wp_marks (F := Fr none) (n := 0) hf hb trivial ?_)
  unfold evFn at hs
  have hi : Is P ρ h w w.heap.size (firstSt args fn.ntmps h)
      { tmps := args' ++ Array.replicate (fn.ntmps - args'.size) undef, defers := [] } w ρ := ⟨first_rt ha _ _, Step.refl hw, .nil (Nat.le_refl _) _ _⟩
  have key : ∀ (x : Ex) (s : St), evC P C Γ n c (firstSt args fn.ntmps h) = some (x, s) → outR P fn.results.toList (some s) = some (v, h') → (x = .normal ∨ x = .ret) →
      c.wpIn (Fr none) 0 P (bodyPostM (Fr none) 0 P fn fun e w' => ∃ ρ' v', e = .returned v' ∧ R ρ' v v' ∧ Step P ρ h w ρ' h' w') { tmps := args' ++ Array.replicate (fn.ntmps - args'.size) undef, defers := [] } w := by
    intro x s hx ho hxx
    refine wpIn_mono ((evC_sound hm hC hΓ n c hok (.inl rfl)).1 _ ρ h w _ _ _ _ _ ρ hx hi) fun e a' w' he => ?_
    obtain ⟨rfl, ρ', hi'⟩ := he
    unfold outR at ho
    simp only at ho
    split at ho
    · rename_i l hl
      cases ho
      obtain ⟨_, Ds, hds, hnd, hall⟩ := hi'.df
      have key2 := leaves_marks (P := P) (fn := fn) (R := fun e w' => ∃ ρ' v', e = .returned v' ∧ Eng.R ρ' (oneOf l) v' ∧ Step P ρ h w ρ' s.h w') hi'.rt.at_ hl (fun v' w' hv st => ⟨ρ', v', rfl, hv, st⟩) Ds w' hi'.st hnd fun D hD => ⟨(hall D hD).1, (hall D hD).2.1⟩
      rw [← hds] at key2
      rcases hxx with rfl | rfl
      · exact key2
      · exact key2
    · cases ho
  generalize hx : evC P C Γ n c (firstSt args fn.ntmps h) = r at hs key
  match r, hs with
  | none, hs => cases hs
  | some (.exit _, _), hs => cases hs
  | some (.goto _, _), hs => cases hs
  | some (.normal, s), hs => exact key .normal s rfl hs (.inl rfl)
  | some (.ret, s), hs => exact key .ret s rfl hs (.inr rfl)
end
section
variable {P : Program} [ObjSem P] {C : Cfg} {Γ : Calling}
def GrowC (Γ : Calling) : Prop := ∀ f args h v h', Γ f args h = some (v, h') → Grow h h'
def GrowF (f : St → Option (Ex × St)) : Prop := ∀ s x s', f s = some (x, s') → Grow s.h s'.h
theorem doOp_growC (hΓ : GrowC Γ) {o : Oper} {e : Operand → Value} {h h' : AH} {v : Value} (hs : doOp P C Γ o e h = some (v, h')) : Grow h h' := by
  unfold doOp at hs
  split at hs
  · rcases doC_cases hs with h2 | ⟨f, args, _, h2⟩
    · exact evW_grow h2
    · exact hΓ _ _ _ _ _ h2
  · exact doL_grow hs
theorem evOps_grow (hΓ : GrowC Γ) (all : List Oper) : ∀ (l : List Oper) (s s' : St), evOps P C Γ all l s = some s' → Grow s.h s'.h
  | [], s, s', h => by cases h; exact Grow.refl _
  | o :: r, s, s', h => by
    simp only [evOps] at h
    split at h
    case h_2 => cases h
    split at h
    · split at h
      · rename_i v q hq
        exact (doOp_growC hΓ hq).trans (evOps_grow hΓ all r _ _ h)
      · cases h
    · exact (evOps_grow hΓ all r ⟨putL o.dst undef s.ts, s.h⟩ s' h :)
theorem evDraw_grow (hΓ : GrowC Γ) (ms : List Nat) (all : List Oper) (c0 : Nat) : ∀ (l : List Oper) (i : Nat) (s s' : St) (acc acc' : List (Nat × Nat)), evDraw P C Γ ms all c0 i l s acc = some (s', acc') → Grow s.h s'.h
  | [], i, s, s', acc, acc', h => by cases h; exact Grow.refl _
  | o :: r, i, s, s', acc, acc', h => by
    simp only [evDraw] at h
    split at h
    case h_1 => cases h
    split at h
    case h_2 => cases h
    split at h
    · split at h
      · rename_i v q hq
        exact (doOp_growC hΓ hq).trans (evDraw_grow hΓ ms all c0 r _ _ _ _ _ h)
      · cases h
    · exact (evDraw_grow hΓ ms all c0 r _ ⟨putL o.dst undef s.ts, s.h⟩ _ _ _ h :)
theorem evRegion_grow (hΓ : GrowC Γ) {ops : Array Oper} {d : Bool} {s s' : St} (h : evRegion P C Γ ops d s = some s') : Grow s.h s'.h := by
  unfold evRegion at h
  split at h
  · exact evOps_grow hΓ _ _ _ _ h
  · split at h
    · rename_i s1 bs h1
      split at h
      · cases h; exact evDraw_grow hΓ _ _ _ _ _ _ _ _ _ h1
      · cases h
    · cases h
theorem GrowF.then {f g : St → Option (Ex × St)} (hf : GrowF f) (hg : GrowF g) : GrowF fun s => thenR (f s) g := by
  intro s x s' h
  dsimp only at h
  unfold thenR at h
  split at h
  · rename_i s1 h1
    exact (hf _ _ _ h1).trans (hg _ _ _ h)
  · exact hf _ _ _ h
theorem GrowF.loop {f : St → Option (Ex × St)} (hf : GrowF f) : ∀ n, GrowF (loopN f n)
  | 0 => fun s x s' h => by cases h
  | n + 1 => fun s x s' h => by
    simp only [loopN] at h
    split at h
    · rename_i s1 h1
      exact (hf _ _ _ h1).trans (GrowF.loop hf n _ _ _ h)
    · exact hf _ _ _ h
theorem scopeN_grow {frm : Nat → Option (St → Option (Ex × St))} (hf : ∀ l g, frm l = some g → GrowF g) : ∀ n l, GrowF (scopeN frm n l)
  | 0, l => fun s x s' h => by cases h
  | n + 1, l => fun s x s' h => by
    simp only [scopeN] at h
    split at h
    · cases h; exact Grow.refl _
    · rename_i g hg
      split at h
      · rename_i l2 s1 h1
        exact (hf l g hg _ _ _ h1).trans (scopeN_grow hf n l2 _ _ _ h)
      · exact hf l g hg _ _ _ h
theorem rangeL_grow (hΓ : GrowC Γ) {g : Value} {ps : Array Tmp} {as_ bd : Code} {s s' : St} {x : Ex} (h : rangeL P Γ g ps as_ bd s = some (x, s')) : Grow s.h s'.h := by
  unfold rangeL at h
  split at h
  case h_2 => cases h
  split at h
  case h_2 => cases h
  split at h
  case h_2 => cases h
  rename_i v2 h2 hc
  have g1 := (Grow.new _ _).trans (hΓ _ _ _ _ _ hc)
  split at h
  · cases h; exact (g1.trans (Grow.put _ _ _ rfl)).trans (Grow.drop _ _)
  · cases h; exact (g1.trans (Grow.put _ _ _ rfl)).trans (Grow.drop _ _)
  · cases h; exact (g1.trans (Grow.put _ _ _ rfl)).trans (Grow.drop _ _)
  · cases h; exact (g1.trans (Grow.put _ _ _ rfl)).trans (Grow.drop _ _)
  · cases h
theorem evC_grow (hΓ : GrowC Γ) (n : Nat) : ∀ (c : Code), GrowF (evC P C Γ n c) ∧ ∀ l g, evF P C Γ n c l = some g → GrowF g := by
  intro c
  induction c with
  | seq c d ihc ihd =>
    refine ⟨fun s x s' h => ihc.1.then ihd.1 s x s' (by simpa only [evC] using h), fun l g h => ?_⟩
    simp only [evF] at h
    split at h
    · rename_i f hf
      cases h
      exact (ihc.2 l f hf).then ihd.1
    · exact ihd.2 l g h
  | region id ops d =>
    refine ⟨fun s x s' h => ?_, fun l g h => by simp only [evF] at h; cases h⟩
    simp only [evC] at h
    unfold regR at h
    split at h
    · rename_i s1 h1
      cases h; exact evRegion_grow hΓ h1
    · cases h
  | cond q c d ihc ihd =>
    refine ⟨fun s x s' h => ?_, fun l g h => by simp only [evF] at h; cases h⟩
    simp only [evC] at h
    unfold condR at h
    split at h
    · exact ihc.1 _ _ _ h
    · exact ihd.1 _ _ _ h
    · cases h
  | block id c ih =>
    refine ⟨fun s x s' h => ?_, fun l g h => by simp only [evF] at h; cases h⟩
    simp only [evC] at h
    unfold blockR at h
    split at h
    · rename_i i s1 h1
      split at h
      · cases h; exact ih.1 _ _ _ h1
      · cases h; exact ih.1 _ _ _ h1
    · exact ih.1 _ _ _ h
  | loop c ih =>
    refine ⟨fun s x s' h => ih.1.loop n s x s' (by simpa only [evC] using h), fun l g h => by simp only [evF] at h; cases h⟩
  | scope c ih =>
    refine ⟨fun s x s' h => ?_, fun l g h => by simp only [evF] at h; cases h⟩
    simp only [evC] at h
    unfold scopeR at h
    split at h
    · rename_i l s1 h1
      exact (ih.1 _ _ _ h1).trans (scopeN_grow ih.2 n l _ _ _ h)
    · exact ih.1 _ _ _ h
  | label l0 =>
    refine ⟨fun s x s' h => by simp only [evC] at h; cases h; exact Grow.refl _, fun l g h => ?_⟩
    simp only [evF] at h
    split at h
    · cases h; intro s x s' h; cases h; exact Grow.refl _
    · cases h
  | skip => exact ⟨fun s x s' h => by simp only [evC] at h; cases h; exact Grow.refl _, fun l g h => by simp only [evF] at h; cases h⟩
  | exit id => exact ⟨fun s x s' h => by simp only [evC] at h; cases h; exact Grow.refl _, fun l g h => by simp only [evF] at h; cases h⟩
  | goto id => exact ⟨fun s x s' h => by simp only [evC] at h; cases h; exact Grow.refl _, fun l g h => by simp only [evF] at h; cases h⟩
  | ret => exact ⟨fun s x s' h => by simp only [evC] at h; cases h; exact Grow.refl _, fun l g h => by simp only [evF] at h; cases h⟩
  | rangeFunc _ _ _ _ _ _ => exact ⟨fun s x s' h => (by simp only [evC] at h; exact rangeL_grow hΓ h), fun l g h => by simp only [evF] at h; cases h⟩
  | refuse _ => exact ⟨fun s x s' h => (by simp only [evC] at h; cases h), fun l g h => by simp only [evF] at h; cases h⟩
theorem evFn_grow (hΓ : GrowC Γ) {n : Nat} {c : Code} {k : Nat} {rs : List ResultVar} {args : List Value} {h h' : AH} {v : Value} (hs : evFn P C Γ n c k rs args h = some (v, h')) : Grow h h' := by
  unfold evFn outR at hs
  split at hs
  · rename_i s hs1
    split at hs
    · cases hs
      unfold endR at hs1
      split at hs1
      · rename_i s1 h1
        cases hs1; exact (evC_grow hΓ n c).1 _ _ _ h1
      · rename_i s1 h1
        cases hs1; exact (evC_grow hΓ n c).1 _ _ _ h1
      · cases hs1
    · cases hs
  · cases hs
theorem roundEnd_grow {a : Nat} {x : Ex} {h h' : AH} {v : Value} (hs : roundEnd a x h = some (v, h')) : Grow h h' := by
  unfold roundEnd at hs
  split at hs
  · split at hs <;> (cases hs; exact Grow.put _ _ _ rfl)
  · cases hs
theorem runY_grow (hΓ : GrowC Γ) {n a : Nat} {args : List Value} {h h' : AH} {v : Value} (hs : runY P C Γ n a args h = some (v, h')) : Grow h h' := by
  unfold runY at hs
  split at hs
  case h_2 => cases hs
  split at hs
  case h_2 => cases hs
  split at hs
  case h_2 => cases hs
  rename_i s1 h1
  split at hs
  case h_2 => cases hs
  split at hs
  case h_2 => cases hs
  rename_i x s2 h2
  exact (((evC_grow hΓ n _).1 _ _ _ h1).trans (Grow.put _ _ _ rfl)).trans (((evC_grow hΓ n _).1 _ _ _ h2).trans (roundEnd_grow hs))
theorem run_grow {fs : List FuncId} {ext : Calling} (hx : GrowC ext) (n : Nat) : ∀ k, GrowC (run P C fs ext n k)
  | 0 => hx
  | k + 1 => by
    intro f args h v h' hr
    simp only [run] at hr
    split at hr
    · rename_i r he
      cases hr
      exact hx f args h v h' he
    · split at hr
      · split at hr
        · split at hr
          · exact evFn_grow (run_grow hx n k) hr
          · cases hr
        · cases hr
      · split at hr
        · exact runY_grow (run_grow hx n k) hr
        · cases hr
end
section
variable {P : Program} [ObjSem P] {C : Cfg}
theorem okFn_spec {f : FuncId} (h : okFn P f = true) : ∃ fn c, P.funcs[f]? = some fn ∧ fn.body = some c ∧ okCode P.globals.size c = true ∧ fn.name ≠ "runtime.NumGoroutine" := by
  unfold okFn at h
  split at h
  · rename_i fn hf
    simp only [Bool.and_eq_true] at h
    obtain ⟨h1, h2⟩ := h
    split at h1
    · rename_i c hc
      exact ⟨fn, c, hf, hc, h1, by simpa using h2⟩
    · cases h1
  · cases h
theorem setPs_rl {ρ : Rho} : ∀ (ps : List Tmp) (ts us : List Value) (args vs : List Value), RL ρ ts us → RL ρ args vs → RL ρ (setPs ts ps args) (setPs us ps vs)
  | [], ts, us, args, vs, h, _ => by cases args <;> cases vs <;> exact h
  | p :: ps, ts, us, [], vs, h, k => by have := k.nil_inv; subst this; exact h
  | p :: ps, ts, us, a :: args, vs, h, k => by
    obtain ⟨v', ys, rfl, hv, k2⟩ := k.uncons
    exact setPs_rl ps _ _ args ys (h.set hv p) k2
theorem setPs_fold : ∀ (ps : List Tmp) (us : Array Value) (vs : List Value), ((ps.zip vs).foldl (fun t (p, v) => t.setIfInBounds p v) us).toList = setPs us.toList ps vs
  | [], us, vs => by cases vs <;> rfl
  | p :: ps, us, [] => rfl
  | p :: ps, us, v :: vs => by
    simp only [List.zip_cons_cons, List.foldl_cons, setPs]
    rw [setPs_fold ps _ vs, Array.toList_setIfInBounds]
theorem RT.of_rl {ρ : Rho} {ts : List Value} {a : Act} (h : RL ρ ts a.tmps.toList) : RT ρ ts a := by
  refine ⟨by have := h.1; simpa using this.symm, fun t => ?_⟩
  have := h.getD (R.undef ρ) t
  simpa [List.getD_eq_getElem?_getD, Array.getD_eq_getD_getElem?, ← Array.getElem?_toList] using this
theorem runY_sound (hm : P.follows .mixedOrders = true) (hC : C.ok P) {Γ : Calling} (hΓ : SoundC P Γ) {n a : Nat} {args : List Value} {h h' : AH} {v : Value} (hs : runY P C Γ n a args h = some (v, h')) : DoesY P a args h v h' := by
  intro ρ w args' b lim hρ hargs hw
  unfold runY at hs
  split at hs
  case h_2 => cases hs
  rename_i ts ps as_ bd hg
  split at hs
  case h_2 => cases hs
  rename_i hchk
  simp only [Bool.and_eq_true] at hchk
  obtain ⟨⟨⟨⟨k1, k2⟩, k3⟩, k4⟩, k5⟩ := hchk
  split at hs
  case h_2 => cases hs
  rename_i s1 hev1
  split at hs
  case h_2 => cases hs
  rename_i ts1 ps1 as1 bd1 hg1
  split at hs
  case h_2 => cases hs
  rename_i x s2 hev2
  obtain ⟨b0, l0, o0, e1, e2, e3⟩ := hw.blk a _ hg
  rw [hρ] at e1; cases e1
  cases o0 with
  | loop r =>
    obtain ⟨q1, q2, q3, q4, q5⟩ := e3
    have hsz : args'.size = r.params.size := by
      have h1 := hargs.1
      have h2 := beq_true k1
      rw [q2]; simp at h1 h2; omega
    refine ⟨_, _, _, _, run_yield e2 hsz, roundIn_of_wpIn (F := Fr none) trivial ?_⟩
    have hrt : RT ρ (setPs ts ps.toList args) { tmps := (r.params.zip args').foldl (fun tmps (t, a) => tmps.setIfInBounds t a) r.tmps, defers := [] } := by
      refine RT.of_rl ?_
      have : ((r.params.zip args').foldl (fun tmps (t, a) => tmps.setIfInBounds t a) r.tmps).toList = setPs r.tmps.toList ps.toList args'.toList := by
        rw [← setPs_fold, q2, ← Array.foldl_toList, Array.toList_zip]
      simp only
      rw [this]
      exact setPs_rl _ _ _ _ _ q1 hargs
    have hi : Is P ρ h w w.heap.size ⟨setPs ts ps.toList args, h⟩ { tmps := (r.params.zip args').foldl (fun tmps (t, a) => tmps.setIfInBounds t a) r.tmps, defers := [] } w ρ :=
      ⟨hrt, Step.refl hw, .nil (Nat.le_refl _) _ _⟩
    rw [q3, q4]
    refine wpIn_mono ((evC_sound (r := some b) hm hC hΓ n as_ k2 (.inr k4)).1 _ ρ h w _ _ _ _ _ ρ hev1 hi) fun e a1 w1 he => ?_
    obtain ⟨rfl, ρ1, hi1⟩ := he
    obtain ⟨b1, l1, o1, f1, f2, f3⟩ := hi1.st.sim.blk a _ hg1
    have hρ1 := hi1.st.ext _ _ hρ
    rw [hρ1] at f1; cases f1
    cases o1 with
    | loop r1 =>
      obtain ⟨p1, p2, p3, p4, p5⟩ := f3
      have hlt1 : b < w1.heap.size := (Array.getElem?_eq_some_iff.1 f2).1
      refine ⟨_, run_beginRound f2 p5.1, ?_⟩
      have st1 := Step.write (P := P) hi1.st.sim hg1 rfl hρ1 (.loop ts1 ps1 as1 bd1 .busy) rfl (.loop { r1 with state := .busy }) ⟨p1, p2, p3, p4, rfl, p5.2⟩ (w1.putObj b (.loop { r1 with state := .busy }))
        (World.putObj_heap_same hlt1) (fun k hk => World.putObj_heap_other hk) (by simp) rfl rfl rfl
      have hi2 : Is P ρ h w w.heap.size ⟨s1.ts, s1.h.put a (.loop ts1 ps1 as1 bd1 .busy)⟩ a1 (w1.putObj b (.loop { r1 with state := .busy })) ρ1 :=
        ⟨hi1.rt, hi1.st.trans st1, hi1.df.step st1⟩
      refine wpIn_mono ((evC_sound (r := some b) hm hC hΓ n bd k3 (.inr k5)).1 _ ρ h w _ _ _ _ _ ρ1 hev2 hi2) fun e a2 w2 he => ?_
      obtain ⟨rfl, ρ2, hi3⟩ := he
      have fin : ∀ (t : List Value) (p : Array Tmp) (ca cb : Code) (jump : Option Code) (st : LSt), s2.h.get a = some (.loop t p ca cb .busy) → (st.is (if jump.isNone then .ready else .done) jump) →
          ∃ w', (Instr.endRound b jump).run P w2 = .ok (.bool jump.isNone) w' ∧ Step P ρ h w ρ2 (s2.h.put a (.loop t p ca cb st)) w' := by
        intro t p ca cb jump st hg2 hst
        obtain ⟨b2, l2, o2, g1, g2, g3⟩ := hi3.st.sim.blk a _ hg2
        have hρ2 := hi3.st.ext _ _ hρ
        rw [hρ2] at g1; cases g1
        cases o2 with
        | loop r2 =>
          obtain ⟨z1, z2, z3, z4, z5⟩ := g3
          have hlt2 : b < w2.heap.size := (Array.getElem?_eq_some_iff.1 g2).1
          refine ⟨_, run_endRound jump g2, hi3.st.trans ?_⟩
          exact Step.write (P := P) hi3.st.sim hg2 rfl hρ2 (.loop t p ca cb st) rfl (.loop { r2 with state := if jump.isNone then .ready else .done, pending := jump }) ⟨z1, z2, z3, z4, hst⟩ _
            (World.putObj_heap_same hlt2) (fun k hk => World.putObj_heap_other hk) (by simp) rfl rfl rfl
        | _ => exact g3.elim
      unfold roundEnd at hs
      split at hs
      case h_2 => cases hs
      rename_i t p ca cb hg2
      cases x with
      | normal =>
        cases hs
        obtain ⟨w', hr, st⟩ := fin t p ca cb none .ready hg2 ⟨rfl, rfl⟩
        exact ⟨_, w', hr, ρ2, _, rfl, .bool true, st⟩
      | ret =>
        cases hs
        obtain ⟨w', hr, st⟩ := fin t p ca cb (some .ret) (.done .ret) hg2 ⟨rfl, rfl⟩
        exact ⟨_, w', hr, ρ2, _, rfl, .bool false, st⟩
      | exit i =>
        cases hs
        obtain ⟨w', hr, st⟩ := fin t p ca cb (some (.exit i)) (.done (.exit i)) hg2 ⟨rfl, rfl⟩
        exact ⟨_, w', hr, ρ2, _, rfl, .bool false, st⟩
      | goto i =>
        cases hs
        obtain ⟨w', hr, st⟩ := fin t p ca cb (some (.goto i)) (.done (.goto i)) hg2 ⟨rfl, rfl⟩
        exact ⟨_, w', hr, ρ2, _, rfl, .bool false, st⟩
    | _ => exact f3.elim
  | _ => exact e3.elim
theorem run_sound (hm : P.follows .mixedOrders = true) (hC : C.ok P) {fs : List FuncId} (hfs : fs.all (okFn P) = true) {ext : Calling} (hx : SoundC P ext) (n : Nat) : ∀ k, SoundC P (run P C fs ext n k)
  | 0 => hx
  | k + 1 => by
    have ih := run_sound hm hC hfs hx n k
    intro f args h v h' hr
    have hgr := run_grow (fun f args h v h' hq => (hx f args h v h' hq).1) n (k + 1) f args h v h' hr
    simp only [run] at hr
    split at hr
    · rename_i r he
      cases hr
      exact hx f args h v h' he
    · split at hr
      · rename_i hmem
        obtain ⟨fn, c, h1, h2, h3, h4⟩ := okFn_spec (List.all_eq_true.1 hfs f (by simpa using hmem))
        rw [h1] at hr
        simp only [h2] at hr
        refine ⟨hgr, .inl ⟨⟨fn, c, h1, h2, h4⟩, fun ρ w args' ha hw => ?_⟩⟩
        exact evFn_sound hm hC ih h1 h2 h3 hr ha hw
      · split at hr
        · rename_i hb
          have hle := Nat.le_of_ble_eq_true hb
          exact ⟨hgr, .inr ⟨f - P.funcs.size, (Nat.add_sub_cancel' hle).symm, runY_sound hm hC ih hr⟩⟩
        · cases hr
end
end Go.Eng
