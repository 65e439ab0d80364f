import Derived.Test.YtfhfbbhoppnbiaaDoorArC
import Derived.WalkKit
import Derived.ProofKit
import Derived.OpenShut
import Derived.ChangeOld
import Derived.Below
import Derived.SizedLaws
namespace Go.Proofs.YtfhfbbhoppnbiaaDoor
open Go.Eng
open Go.ChangeShapes Go.WideShapes Go.ChangeAt Go.RowKit
set_option linter.unusedVariables false
set_option linter.unusedSimpArgs false
set_option maxRecDepth 100000
noncomputable def cfgDo : Cfg := ⟨[32]⟩
noncomputable def fsDo : List FuncId := [14, 27, 29, 30, 31, 32, 33, 34]
theorem fitDo : Fit Tryd.prog cfgDo fsDo := ⟨by kernel_rfl, Cfg.ok_of (by kernel_rfl), by kernel_rfl⟩
structure ActN where
  k : Int
  b : Int
  c : Int
  o : Int
  n : Int
noncomputable def isAct (x : Value) : Bool := match x with
  | .agg ⟨[.int .i64 k, .int .u64 b, .int .i64 c, .int .u64 o, .int .u64 n]⟩ => true
  | _ => false
noncomputable def actOf (x : Value) : ActN := match x with
  | .agg ⟨[.int .i64 k, .int .u64 b, .int .i64 c, .int .u64 o, .int .u64 n]⟩ => ⟨k, b, c, o, n⟩
  | _ => ⟨0, 0, 0, 0, 0⟩
def ActP (k b c o n : Int) : Prop := (k = 1 ∧ 0 ≤ c ∧ o = 0 ∧ n = 0) ∨ (k = 2 ∧ 0 ≤ c ∧ o = 0) ∨ (k = 3 ∧ 0 ≤ c) ∨ (k = 4 ∧ 0 ≤ c ∧ o = 0) ∨ (k = 5 ∧ 1 ≤ c ∧ b = 0 ∧ o = 0 ∧ n = 0) ∨ (k = 6 ∧ c = 0 ∧ o = 0 ∧ n = 0)
instance (k b c o n : Int) : Decidable (ActP k b c o n) := by unfold ActP; infer_instance
def actP (k b c o n : Int) : Bool := decide (ActP k b c o n)
def actG (S : ArSt) (k b c : Int) : Int := bif k == 1 then S.loadV b c else bif k == 3 then S.loadV b c else bif k == 4 then S.loadV b c else bif k == 5 then S.allocV c else 0
def actS (S : ArSt) (k b c o n : Int) : ArSt := bif k == 1 then S.touch b c else bif k == 2 then S.store b c n else bif k == 3 then S.cas b c o n else bif k == 4 then S.add b c n else bif k == 5 then S.alloc c else S.free b
noncomputable abbrev dvRO0 (k b c o n : Int) : KObj := .cells [(.int .i64 k), (.int .u64 b), (.int .i64 c), (.int .u64 o), (.int .u64 n)] 32 true
noncomputable abbrev dvRO1 (e : TypeId) : KObj := .cells [(.int .i64 1), (.int .i64 64), (.int .i64 1), (.int .i64 64)] e false
theorem dvR_t (k b c o n : Int) (e : TypeId) : runK Tryd.prog cfgDo fsDo noT 30 40 29 [(.agg #[(.int .i64 k), (.int .u64 b), (.int .i64 c), (.int .u64 o), (.int .u64 n)])] (mkH [(dvRO1 e)]) bothK =
  bif (k == 0) then
    some ((.bool ((k == 0) && ((b == 0) && ((c == 0) && ((o == 0) && ((n == 0) && true)))))), ⟨2, 2, [(1, 1, (dvRO0 k b c o n)), (0, 0, (dvRO1 e))]⟩)
  else
    bif (k == 5) then
      bif ((k == 5) && ((b == 0) && ((c == c) && ((o == 0) && ((n == 0) && true))))) then
        some ((.bool (decide (c ≥ 1))), ⟨2, 2, [(1, 1, (dvRO0 k b c o n)), (0, 0, (dvRO1 e))]⟩)
      else
        some ((.bool false), ⟨2, 2, [(1, 1, (dvRO0 k b c o n)), (0, 0, (dvRO1 e))]⟩)
    else
      bif (k == 6) then
        some ((.bool ((k == 6) && ((b == b) && ((c == 0) && ((o == 0) && ((n == 0) && true)))))), ⟨2, 2, [(1, 1, (dvRO0 k b c o n)), (0, 0, (dvRO1 e))]⟩)
      else
        bif (k == 1) then
          bif (n != 0) then
            some ((.bool false), ⟨2, 2, [(1, 1, (dvRO0 k b c o n)), (0, 0, (dvRO1 e))]⟩)
          else
            bif (o != 0) then
              some ((.bool false), ⟨2, 2, [(1, 1, (dvRO0 k b c o n)), (0, 0, (dvRO1 e))]⟩)
            else
              some ((.bool (decide (c ≥ 0))), ⟨2, 2, [(1, 1, (dvRO0 k b c o n)), (0, 0, (dvRO1 e))]⟩)
        else
          bif (k == 2) then
            bif (o != 0) then
              some ((.bool false), ⟨2, 2, [(1, 1, (dvRO0 k b c o n)), (0, 0, (dvRO1 e))]⟩)
            else
              some ((.bool (decide (c ≥ 0))), ⟨2, 2, [(1, 1, (dvRO0 k b c o n)), (0, 0, (dvRO1 e))]⟩)
          else
            bif (k == 4) then
              bif (o != 0) then
                some ((.bool false), ⟨2, 2, [(1, 1, (dvRO0 k b c o n)), (0, 0, (dvRO1 e))]⟩)
              else
                some ((.bool (decide (c ≥ 0))), ⟨2, 2, [(1, 1, (dvRO0 k b c o n)), (0, 0, (dvRO1 e))]⟩)
            else
              bif (k == 3) then
                some ((.bool (decide (c ≥ 0))), ⟨2, 2, [(1, 1, (dvRO0 k b c o n)), (0, 0, (dvRO1 e))]⟩)
              else
                some ((.bool false), ⟨2, 2, [(1, 1, (dvRO0 k b c o n)), (0, 0, (dvRO1 e))]⟩) := by kernel_rfl
theorem dvR1 {k b c o n : Int} {e : TypeId} (hk : k = 1) (hc : 0 ≤ c) (ho : o = 0) (hn : n = 0)   : DoesC Tryd.prog 29 [(.agg #[(.int .i64 k), (.int .u64 b), (.int .i64 c), (.int .u64 o), (.int .u64 n)])] (mkH [(dvRO1 e)]).low (.bool (decide (c ≥ 0))) (KH.low ⟨2, 2, [(1, 1, (dvRO0 k b c o n)), (0, 0, (dvRO1 e))]⟩) :=
  tree_does fitDo SoundC.no AgreeT.no (by kernel_rfl) ((dvR_t k b c o n e).trans (by rw [condF (ibeq_f (by (first | omega | ((try simp (disch := omega) only [wrap_i64_id]) <;> omega)))), condF (ibeq_f (by (first | omega | ((try simp (disch := omega) only [wrap_i64_id]) <;> omega)))), condF (ibeq_f (by (first | omega | ((try simp (disch := omega) only [wrap_i64_id]) <;> omega)))), condT (ibeq_t (by (first | omega | ((try simp (disch := omega) only [wrap_i64_id]) <;> omega)))), condF (ibne_f (by (first | omega | ((try simp (disch := omega) only [wrap_i64_id]) <;> omega)))), condF (ibne_f (by (first | omega | ((try simp (disch := omega) only [wrap_i64_id]) <;> omega))))]))
theorem dvR2 {k b c o n : Int} {e : TypeId} (hk : k = 2) (hc : 0 ≤ c) (ho : o = 0)   : DoesC Tryd.prog 29 [(.agg #[(.int .i64 k), (.int .u64 b), (.int .i64 c), (.int .u64 o), (.int .u64 n)])] (mkH [(dvRO1 e)]).low (.bool (decide (c ≥ 0))) (KH.low ⟨2, 2, [(1, 1, (dvRO0 k b c o n)), (0, 0, (dvRO1 e))]⟩) :=
  tree_does fitDo SoundC.no AgreeT.no (by kernel_rfl) ((dvR_t k b c o n e).trans (by rw [condF (ibeq_f (by (first | omega | ((try simp (disch := omega) only [wrap_i64_id]) <;> omega)))), condF (ibeq_f (by (first | omega | ((try simp (disch := omega) only [wrap_i64_id]) <;> omega)))), condF (ibeq_f (by (first | omega | ((try simp (disch := omega) only [wrap_i64_id]) <;> omega)))), condF (ibeq_f (by (first | omega | ((try simp (disch := omega) only [wrap_i64_id]) <;> omega)))), condT (ibeq_t (by (first | omega | ((try simp (disch := omega) only [wrap_i64_id]) <;> omega)))), condF (ibne_f (by (first | omega | ((try simp (disch := omega) only [wrap_i64_id]) <;> omega))))]))
theorem dvR3 {k b c o n : Int} {e : TypeId} (hk : k = 3) (hc : 0 ≤ c)   : DoesC Tryd.prog 29 [(.agg #[(.int .i64 k), (.int .u64 b), (.int .i64 c), (.int .u64 o), (.int .u64 n)])] (mkH [(dvRO1 e)]).low (.bool (decide (c ≥ 0))) (KH.low ⟨2, 2, [(1, 1, (dvRO0 k b c o n)), (0, 0, (dvRO1 e))]⟩) :=
  tree_does fitDo SoundC.no AgreeT.no (by kernel_rfl) ((dvR_t k b c o n e).trans (by rw [condF (ibeq_f (by (first | omega | ((try simp (disch := omega) only [wrap_i64_id]) <;> omega)))), condF (ibeq_f (by (first | omega | ((try simp (disch := omega) only [wrap_i64_id]) <;> omega)))), condF (ibeq_f (by (first | omega | ((try simp (disch := omega) only [wrap_i64_id]) <;> omega)))), condF (ibeq_f (by (first | omega | ((try simp (disch := omega) only [wrap_i64_id]) <;> omega)))), condF (ibeq_f (by (first | omega | ((try simp (disch := omega) only [wrap_i64_id]) <;> omega)))), condF (ibeq_f (by (first | omega | ((try simp (disch := omega) only [wrap_i64_id]) <;> omega)))), condT (ibeq_t (by (first | omega | ((try simp (disch := omega) only [wrap_i64_id]) <;> omega))))]))
theorem dvR4 {k b c o n : Int} {e : TypeId} (hk : k = 4) (hc : 0 ≤ c) (ho : o = 0)   : DoesC Tryd.prog 29 [(.agg #[(.int .i64 k), (.int .u64 b), (.int .i64 c), (.int .u64 o), (.int .u64 n)])] (mkH [(dvRO1 e)]).low (.bool (decide (c ≥ 0))) (KH.low ⟨2, 2, [(1, 1, (dvRO0 k b c o n)), (0, 0, (dvRO1 e))]⟩) :=
  tree_does fitDo SoundC.no AgreeT.no (by kernel_rfl) ((dvR_t k b c o n e).trans (by rw [condF (ibeq_f (by (first | omega | ((try simp (disch := omega) only [wrap_i64_id]) <;> omega)))), condF (ibeq_f (by (first | omega | ((try simp (disch := omega) only [wrap_i64_id]) <;> omega)))), condF (ibeq_f (by (first | omega | ((try simp (disch := omega) only [wrap_i64_id]) <;> omega)))), condF (ibeq_f (by (first | omega | ((try simp (disch := omega) only [wrap_i64_id]) <;> omega)))), condF (ibeq_f (by (first | omega | ((try simp (disch := omega) only [wrap_i64_id]) <;> omega)))), condT (ibeq_t (by (first | omega | ((try simp (disch := omega) only [wrap_i64_id]) <;> omega)))), condF (ibne_f (by (first | omega | ((try simp (disch := omega) only [wrap_i64_id]) <;> omega))))]))
theorem dvR5 {k b c o n : Int} {e : TypeId} (hk : k = 5) (hc : 1 ≤ c) (hb : b = 0) (ho : o = 0) (hn : n = 0)   : DoesC Tryd.prog 29 [(.agg #[(.int .i64 k), (.int .u64 b), (.int .i64 c), (.int .u64 o), (.int .u64 n)])] (mkH [(dvRO1 e)]).low (.bool (decide (c ≥ 1))) (KH.low ⟨2, 2, [(1, 1, (dvRO0 k b c o n)), (0, 0, (dvRO1 e))]⟩) :=
  tree_does fitDo SoundC.no AgreeT.no (by kernel_rfl) ((dvR_t k b c o n e).trans (by rw [condF (ibeq_f (by (first | omega | ((try simp (disch := omega) only [wrap_i64_id]) <;> omega)))), condT (ibeq_t (by (first | omega | ((try simp (disch := omega) only [wrap_i64_id]) <;> omega)))), condT (and_t (ibeq_t (by (first | omega | ((try simp (disch := omega) only [wrap_i64_id]) <;> omega)))) (and_t (ibeq_t (by (first | omega | ((try simp (disch := omega) only [wrap_i64_id]) <;> omega)))) (and_t (beq_self_eq_true _) (and_t (ibeq_t (by (first | omega | ((try simp (disch := omega) only [wrap_i64_id]) <;> omega)))) (and_t (ibeq_t (by (first | omega | ((try simp (disch := omega) only [wrap_i64_id]) <;> omega)))) (rfl))))))]))
theorem dvR6 {k b c o n : Int} {e : TypeId} (hk : k = 6) (hc : c = 0) (ho : o = 0) (hn : n = 0)   : DoesC Tryd.prog 29 [(.agg #[(.int .i64 k), (.int .u64 b), (.int .i64 c), (.int .u64 o), (.int .u64 n)])] (mkH [(dvRO1 e)]).low (.bool ((k == 6) && ((b == b) && ((c == 0) && ((o == 0) && ((n == 0) && true)))))) (KH.low ⟨2, 2, [(1, 1, (dvRO0 k b c o n)), (0, 0, (dvRO1 e))]⟩) :=
  tree_does fitDo SoundC.no AgreeT.no (by kernel_rfl) ((dvR_t k b c o n e).trans (by rw [condF (ibeq_f (by (first | omega | ((try simp (disch := omega) only [wrap_i64_id]) <;> omega)))), condF (ibeq_f (by (first | omega | ((try simp (disch := omega) only [wrap_i64_id]) <;> omega)))), condT (ibeq_t (by (first | omega | ((try simp (disch := omega) only [wrap_i64_id]) <;> omega))))]))
noncomputable def rc_actRight : RC := ⟨[.val], fun avs => match avs with | [.val ax] => ((isAct ax) && (actP (ActN.k (actOf ax)) (ActN.b (actOf ax)) (ActN.c (actOf ax)) (ActN.o (actOf ax)) (ActN.n (actOf ax)))) | _ => false,
  fun N avs => match avs with | [.val ax] => ((.bool true), [], []) | _ => (.bool false, [], [])⟩
theorem rc_actRight_does : RcDoes Tryd.prog varL 29 rc_actRight := by
  intro vb avs args blks hv hs hp
  obtain ⟨e0, rfl⟩ := var1 hv
  cases hs with | val ax hp_ax hs =>
  cases hs
  have hp : (isAct ax && actP (actOf ax).k (actOf ax).b (actOf ax).c (actOf ax).o (actOf ax).n) = true := hp
  rw [Bool.and_eq_true] at hp
  obtain ⟨hq, hp⟩ := hp
  unfold isAct at hq
  split at hq
  case h_2 => cases hq
  rename_i k b c o n _
  have hp : actP k b c o n = true := hp
  rcases of_decide_eq_true hp with ⟨hk, g1, g2, g3⟩ | ⟨hk, g1, g2⟩ | ⟨hk, g1⟩ | ⟨hk, g1, g2⟩ | ⟨hk, g1, g2, g3, g4⟩ | ⟨hk, g1, g2, g3⟩
  · have hd := dvR1 (k := k) (b := b) (c := c) (o := o) (n := n) (e := e0) hk g1 g2 g3
    rw [show ((decide (c ≥ 0))) = true from by first | exact decide_eq_true (by omega) | (rw [hk, g1, g2, g3]; simp)] at hd
    exact DoesC.still hd (fun a o ho => by
      obtain ⟨q, hq, rfl⟩ := mkH_inv ho
      match a, hq with
      | 0, hq => cases hq; rfl) (fun ρ ρ' u h => by cases h; exact .bool _)
  · have hd := dvR2 (k := k) (b := b) (c := c) (o := o) (n := n) (e := e0) hk g1 g2
    rw [show ((decide (c ≥ 0))) = true from by first | exact decide_eq_true (by omega) | (rw [hk, g1, g2]; simp)] at hd
    exact DoesC.still hd (fun a o ho => by
      obtain ⟨q, hq, rfl⟩ := mkH_inv ho
      match a, hq with
      | 0, hq => cases hq; rfl) (fun ρ ρ' u h => by cases h; exact .bool _)
  · have hd := dvR3 (k := k) (b := b) (c := c) (o := o) (n := n) (e := e0) hk g1
    rw [show ((decide (c ≥ 0))) = true from by first | exact decide_eq_true (by omega) | (rw [hk, g1]; simp)] at hd
    exact DoesC.still hd (fun a o ho => by
      obtain ⟨q, hq, rfl⟩ := mkH_inv ho
      match a, hq with
      | 0, hq => cases hq; rfl) (fun ρ ρ' u h => by cases h; exact .bool _)
  · have hd := dvR4 (k := k) (b := b) (c := c) (o := o) (n := n) (e := e0) hk g1 g2
    rw [show ((decide (c ≥ 0))) = true from by first | exact decide_eq_true (by omega) | (rw [hk, g1, g2]; simp)] at hd
    exact DoesC.still hd (fun a o ho => by
      obtain ⟨q, hq, rfl⟩ := mkH_inv ho
      match a, hq with
      | 0, hq => cases hq; rfl) (fun ρ ρ' u h => by cases h; exact .bool _)
  · have hd := dvR5 (k := k) (b := b) (c := c) (o := o) (n := n) (e := e0) hk g1 g2 g3 g4
    rw [show ((decide (c ≥ 1))) = true from by first | exact decide_eq_true (by omega) | (rw [hk, g1, g2, g3, g4]; simp)] at hd
    exact DoesC.still hd (fun a o ho => by
      obtain ⟨q, hq, rfl⟩ := mkH_inv ho
      match a, hq with
      | 0, hq => cases hq; rfl) (fun ρ ρ' u h => by cases h; exact .bool _)
  · have hd := dvR6 (k := k) (b := b) (c := c) (o := o) (n := n) (e := e0) hk g1 g2 g3
    rw [show (((k == 6) && ((b == b) && ((c == 0) && ((o == 0) && ((n == 0) && true)))))) = true from by first | exact decide_eq_true (by omega) | (rw [hk, g1, g2, g3]; simp)] at hd
    exact DoesC.still hd (fun a o ho => by
      obtain ⟨q, hq, rfl⟩ := mkH_inv ho
      match a, hq with
      | 0, hq => cases hq; rfl) (fun ρ ρ' u h => by cases h; exact .bool _)
noncomputable def adoT : RTab := fun f => match f with
  | 29 => some rc_actRight
  | 30 => some rc_arena_Arena_Load
  | 31 => some rc_arena_Arena_Store
  | 32 => some rc_arena_Arena_Cas
  | 33 => some rc_arena_Arena_Add
  | 27 => some rc_arena_Arena_Alloc
  | 34 => some rc_arena_Arena_Free
  | _ => none
def adoDom : List FuncId := [29, 30, 31, 32, 33, 27, 34]
theorem ado_does : ∀ f rc, f ∈ adoDom → adoT f = some rc → RcDoes Tryd.prog varL f rc := by
  intro f rc hf hT
  simp only [adoDom, List.mem_cons, List.not_mem_nil, or_false] at hf
  rcases hf with rfl | rfl | rfl | rfl | rfl | rfl | rfl
  · cases hT; exact rc_actRight_does
  · cases hT; exact rc_arena_Arena_Load_does
  · cases hT; exact rc_arena_Arena_Store_does
  · cases hT; exact rc_arena_Arena_Cas_does
  · cases hT; exact rc_arena_Arena_Add_does
  · cases hT; exact rc_arena_Arena_Alloc_does
  · cases hT; exact rc_arena_Arena_Free_does
theorem ado_fn : ∀ f ∈ adoDom, FnOk Tryd.prog f := fun f hf => fitDo.fnOk f (by
    have h0 : (adoDom.all fun f => fsDo.contains f) = true := by kernel_rfl
    simpa using List.all_eq_true.1 h0 f hf)
theorem ado_sound : SoundC Tryd.prog (conC adoDom (rcE varL adoT)) := rc_sound oneVar ado_fn ado_does
noncomputable def BdvD : Code := bodyOf Tryd.prog 14
theorem BdvD_is : Tryd.f14.body = some BdvD := by kernel_rfl
noncomputable abbrev dvDH (e : TypeId) (S : ArSt) : AH := (KH.low ⟨2, 1, [(0, 0, .cells [(.int .i64 1), (.int .i64 64), (.int .i64 1), (.int .i64 64)] e false), (1, 0, .mach (.arena S))]⟩)
noncomputable abbrev dvDEA (c : Code) (lv p : List Nat) (st : Option (List Nat)) (ws : List Bool) (s : KSt) : Option Rs := evA (evCK Tryd.prog cfgDo (runK Tryd.prog cfgDo fsDo (conTk adoDom (rcK varL adoT)) 14 40) 14) (stopW 2 lv) p c st ws s (finW 2 lv)
theorem dvDfi_ {c_ : Code} {lv_ p_ : List Nat} {ws_ : List Bool} {st_ s' : KSt} {x : Ex} {Q : Ex → St → Prop} {e : TypeId} {S : ArSt} (hE_ : dvDEA c_ lv_ p_ none ws_ st_ = some (.fin x s')) (hq_ : Q x s'.low) (hok_ : okCode Tryd.prog.globals.size c_ = true := by kernel_rfl) : AtW Tryd.prog (dvDH e S) c_ p_ st_ Q := AtW.fin fitDo ado_sound (rc_agree _ _ _) 14 40 hok_ hE_ hq_
section
variable (k b c o n : Int) (e : TypeId) (S : ArSt)
noncomputable abbrev dvDO0 (e : TypeId) : KObj := .cells [(.int .i64 1), (.int .i64 64), (.int .i64 1), (.int .i64 64)] e false
noncomputable def dvDS0 : KSt := (firstK [(.pointer (some ⟨1, 0, none⟩)), (.agg #[(.int .i64 k), (.int .u64 b), (.int .i64 c), (.int .u64 o), (.int .u64 n)])] 77 ⟨2, 1, [(0, 0, (dvDO0 e)), (1, 0, .mach (.arena S))]⟩)
noncomputable def dvDS1 : KSt := ⟨(frameL 77 [(4, (.int .u64 (ArSt.loadV S b c)))]), ⟨2, 1, [(0, 0, (dvDO0 e)), (1, 0, .mach (.arena (ArSt.touch S b c)))]⟩⟩
theorem dvDW1 : dvDEA BdvD [4] [] none [false, false, true] (dvDS0 k b c o n e S) =
  bif (actP k b c o n) then
    bif (k == 1) then
      some (.fin .ret (dvDS1 b c e S))
    else
      none
  else
    none := by kernel_rfl
noncomputable def dvDS2 : KSt := ⟨(frameL 77 [(4, (.int .u64 0))]), ⟨2, 1, [(0, 0, (dvDO0 e)), (1, 0, .mach (.arena (ArSt.store S b c n)))]⟩⟩
theorem dvDW2 : dvDEA BdvD [4] [] none [false, false, false, true] (dvDS0 k b c o n e S) =
  bif (actP k b c o n) then
    bif (k == 1) then
      none
    else
      bif (k == 2) then
        some (.fin .ret (dvDS2 b c n e S))
      else
        none
  else
    none := by kernel_rfl
noncomputable def dvDS3 : KSt := ⟨(frameL 77 [(4, (.int .u64 (ArSt.loadV S b c)))]), ⟨2, 1, [(0, 0, (dvDO0 e)), (1, 0, .mach (.arena (ArSt.cas S b c o n)))]⟩⟩
theorem dvDW3 : dvDEA BdvD [4] [] none [false, false, false, false, true] (dvDS0 k b c o n e S) =
  bif (actP k b c o n) then
    bif (k == 1) then
      none
    else
      bif (k == 2) then
        none
      else
        bif (k == 3) then
          some (.fin .ret (dvDS3 b c o n e S))
        else
          none
  else
    none := by kernel_rfl
noncomputable def dvDS4 : KSt := ⟨(frameL 77 [(4, (.int .u64 (ArSt.loadV S b c)))]), ⟨2, 1, [(0, 0, (dvDO0 e)), (1, 0, .mach (.arena (ArSt.add S b c n)))]⟩⟩
theorem dvDW4 : dvDEA BdvD [4] [] none [false, false, false, false, false, true] (dvDS0 k b c o n e S) =
  bif (actP k b c o n) then
    bif (k == 1) then
      none
    else
      bif (k == 2) then
        none
      else
        bif (k == 3) then
          none
        else
          bif (k == 4) then
            some (.fin .ret (dvDS4 b c n e S))
          else
            none
  else
    none := by kernel_rfl
noncomputable def dvDS5 : KSt := ⟨(frameL 77 [(4, (.int .u64 (ArSt.allocV S c)))]), ⟨2, 1, [(0, 0, (dvDO0 e)), (1, 0, .mach (.arena (ArSt.alloc S c)))]⟩⟩
theorem dvDW5 : dvDEA BdvD [4] [] none [false, false, false, false, false, false, true] (dvDS0 k b c o n e S) =
  bif (actP k b c o n) then
    bif (k == 1) then
      none
    else
      bif (k == 2) then
        none
      else
        bif (k == 3) then
          none
        else
          bif (k == 4) then
            none
          else
            bif (k == 5) then
              some (.fin .ret (dvDS5 c e S))
            else
              none
  else
    none := by kernel_rfl
noncomputable def dvDS6 : KSt := ⟨(frameL 77 [(4, (.int .u64 0))]), ⟨2, 1, [(0, 0, (dvDO0 e)), (1, 0, .mach (.arena (ArSt.free S b)))]⟩⟩
theorem dvDW6 : dvDEA BdvD [4] [] none [false, false, false, false, false, false, false, true] (dvDS0 k b c o n e S) =
  bif (actP k b c o n) then
    bif (k == 1) then
      none
    else
      bif (k == 2) then
        none
      else
        bif (k == 3) then
          none
        else
          bif (k == 4) then
            none
          else
            bif (k == 5) then
              none
            else
              bif (k == 6) then
                some (.fin .ret (dvDS6 b e S))
              else
                none
  else
    none := by kernel_rfl
end
theorem dvDk1 {k b c o n : Int} {e : TypeId} {S : ArSt} (hk : k = 1) (hp : actP k b c o n = true)   {Q : Ex → St → Prop} (hq : Q .ret (KSt.low (dvDS1 b c e S))) : Gets Tryd.prog (dvDH e S) BdvD (KSt.low (dvDS0 k b c o n e S)) Q := by
  refine AtW.gets ?_
  exact dvDfi_ ((dvDW1 ..).trans (by rw [condT (hp), eT])) hq
theorem dvDk2 {k b c o n : Int} {e : TypeId} {S : ArSt} (hk : k = 2) (hp : actP k b c o n = true)   {Q : Ex → St → Prop} (hq : Q .ret (KSt.low (dvDS2 b c n e S))) : Gets Tryd.prog (dvDH e S) BdvD (KSt.low (dvDS0 k b c o n e S)) Q := by
  refine AtW.gets ?_
  exact dvDfi_ ((dvDW2 ..).trans (by rw [condT (hp), eF, eT])) hq
theorem dvDk3 {k b c o n : Int} {e : TypeId} {S : ArSt} (hk : k = 3) (hp : actP k b c o n = true)   {Q : Ex → St → Prop} (hq : Q .ret (KSt.low (dvDS3 b c o n e S))) : Gets Tryd.prog (dvDH e S) BdvD (KSt.low (dvDS0 k b c o n e S)) Q := by
  refine AtW.gets ?_
  exact dvDfi_ ((dvDW3 ..).trans (by rw [condT (hp), eF, eF, eT])) hq
theorem dvDk4 {k b c o n : Int} {e : TypeId} {S : ArSt} (hk : k = 4) (hp : actP k b c o n = true)   {Q : Ex → St → Prop} (hq : Q .ret (KSt.low (dvDS4 b c n e S))) : Gets Tryd.prog (dvDH e S) BdvD (KSt.low (dvDS0 k b c o n e S)) Q := by
  refine AtW.gets ?_
  exact dvDfi_ ((dvDW4 ..).trans (by rw [condT (hp), eF, eF, eF, eT])) hq
theorem dvDk5 {k b c o n : Int} {e : TypeId} {S : ArSt} (hk : k = 5) (hp : actP k b c o n = true)   {Q : Ex → St → Prop} (hq : Q .ret (KSt.low (dvDS5 c e S))) : Gets Tryd.prog (dvDH e S) BdvD (KSt.low (dvDS0 k b c o n e S)) Q := by
  refine AtW.gets ?_
  exact dvDfi_ ((dvDW5 ..).trans (by rw [condT (hp), eF, eF, eF, eF, eT])) hq
theorem dvDk6 {k b c o n : Int} {e : TypeId} {S : ArSt} (hk : k = 6) (hp : actP k b c o n = true)   {Q : Ex → St → Prop} (hq : Q .ret (KSt.low (dvDS6 b e S))) : Gets Tryd.prog (dvDH e S) BdvD (KSt.low (dvDS0 k b c o n e S)) Q := by
  refine AtW.gets ?_
  exact dvDfi_ ((dvDW6 ..).trans (by rw [condT (hp), eF, eF, eF, eF, eF, eT])) hq
theorem actDo_does (e : TypeId) (S : ArSt) (k b c o n : Int) (hp : actP k b c o n = true) : DoesC Tryd.prog 14 [(.pointer (some ⟨1, 0, none⟩)), (.agg #[(.int .i64 k), (.int .u64 b), (.int .i64 c), (.int .u64 o), (.int .u64 n)])] (mkH [.cells [(.int .i64 1), (.int .i64 64), (.int .i64 1), (.int .i64 64)] e false, .mach (.arena S)]).low (.int .u64 (actG S k b c)) (KH.put (mkH [.cells [(.int .i64 1), (.int .i64 64), (.int .i64 1), (.int .i64 64)] e false, .mach (.arena S)]) 1 (.mach (.arena (actS S k b c o n)))).low := by
  rcases of_decide_eq_true hp with ⟨hk, g1, g2, g3⟩ | ⟨hk, g1, g2⟩ | ⟨hk, g1⟩ | ⟨hk, g1, g2⟩ | ⟨hk, g1, g2, g3, g4⟩ | ⟨hk, g1, g2, g3⟩
  · have e1 : actG S k b c = S.loadV b c := by rw [hk]; rfl
    have e2 : actS S k b c o n = S.touch b c := by rw [hk]; rfl
    rw [e1, e2]
    refine EndsK.does Tryd.func14 BdvD_is (by rw [oneVar]; exact Nat.le_add_left _ _) ?_
    exact dvDk1 hk hp (EndsK.ret (l := [.int .u64 (S.loadV b c)]) (by kernel_rfl) rfl (Fits.kh (growPut (Grow.refl _) rfl) rfl ⟨rfl, rfl, trivial⟩))
  · have e1 : actG S k b c = 0 := by rw [hk]; rfl
    have e2 : actS S k b c o n = S.store b c n := by rw [hk]; rfl
    rw [e1, e2]
    refine EndsK.does Tryd.func14 BdvD_is (by rw [oneVar]; exact Nat.le_add_left _ _) ?_
    exact dvDk2 hk hp (EndsK.ret (l := [.int .u64 (0)]) (by kernel_rfl) rfl (Fits.kh (growPut (Grow.refl _) rfl) rfl ⟨rfl, rfl, trivial⟩))
  · have e1 : actG S k b c = S.loadV b c := by rw [hk]; rfl
    have e2 : actS S k b c o n = S.cas b c o n := by rw [hk]; rfl
    rw [e1, e2]
    refine EndsK.does Tryd.func14 BdvD_is (by rw [oneVar]; exact Nat.le_add_left _ _) ?_
    exact dvDk3 hk hp (EndsK.ret (l := [.int .u64 (S.loadV b c)]) (by kernel_rfl) rfl (Fits.kh (growPut (Grow.refl _) rfl) rfl ⟨rfl, rfl, trivial⟩))
  · have e1 : actG S k b c = S.loadV b c := by rw [hk]; rfl
    have e2 : actS S k b c o n = S.add b c n := by rw [hk]; rfl
    rw [e1, e2]
    refine EndsK.does Tryd.func14 BdvD_is (by rw [oneVar]; exact Nat.le_add_left _ _) ?_
    exact dvDk4 hk hp (EndsK.ret (l := [.int .u64 (S.loadV b c)]) (by kernel_rfl) rfl (Fits.kh (growPut (Grow.refl _) rfl) rfl ⟨rfl, rfl, trivial⟩))
  · have e1 : actG S k b c = S.allocV c := by rw [hk]; rfl
    have e2 : actS S k b c o n = S.alloc c := by rw [hk]; rfl
    rw [e1, e2]
    refine EndsK.does Tryd.func14 BdvD_is (by rw [oneVar]; exact Nat.le_add_left _ _) ?_
    exact dvDk5 hk hp (EndsK.ret (l := [.int .u64 (S.allocV c)]) (by kernel_rfl) rfl (Fits.kh (growPut (Grow.refl _) rfl) rfl ⟨rfl, rfl, trivial⟩))
  · have e1 : actG S k b c = 0 := by rw [hk]; rfl
    have e2 : actS S k b c o n = S.free b := by rw [hk]; rfl
    rw [e1, e2]
    refine EndsK.does Tryd.func14 BdvD_is (by rw [oneVar]; exact Nat.le_add_left _ _) ?_
    exact dvDk6 hk hp (EndsK.ret (l := [.int .u64 (0)]) (by kernel_rfl) rfl (Fits.kh (growPut (Grow.refl _) rfl) rfl ⟨rfl, rfl, trivial⟩))
noncomputable def rc_actDo : RC := ⟨[.mach, .val], fun avs => match avs with | [.mach (.arena S), .val ax] => ((isAct ax) && (actP (ActN.k (actOf ax)) (ActN.b (actOf ax)) (ActN.c (actOf ax)) (ActN.o (actOf ax)) (ActN.n (actOf ax)))) | _ => false,
  fun N avs => match avs with | [.mach (.arena S), .val ax] => ((.int .u64 (actG S (ActN.k (actOf ax)) (ActN.b (actOf ax)) (ActN.c (actOf ax)))), [(1, .mach (.arena (actS S (ActN.k (actOf ax)) (ActN.b (actOf ax)) (ActN.c (actOf ax)) (ActN.o (actOf ax)) (ActN.n (actOf ax)))))], []) | _ => (.bool false, [], [])⟩
theorem rc_actDo_does : RcDoes Tryd.prog varL 14 rc_actDo := by
  intro vb avs args blks hv hs hp
  obtain ⟨e0, rfl⟩ := var1 hv
  cases hs with | mach m_S hs =>
  cases m_S with
  | retire _ => cases hp
  | guard _ => cases hp
  | shield _ => cases hp
  | arena S =>
  cases hs with | val ax hp_ax hs =>
  cases hs
  have hp : (isAct ax && actP (actOf ax).k (actOf ax).b (actOf ax).c (actOf ax).o (actOf ax).n) = true := hp
  rw [Bool.and_eq_true] at hp
  obtain ⟨hq, hp⟩ := hp
  unfold isAct at hq
  split at hq
  case h_2 => cases hq
  rename_i k b c o n _
  have hp : actP k b c o n = true := hp
  exact actDo_does e0 S k b c o n hp
end Go.Proofs.YtfhfbbhoppnbiaaDoor
