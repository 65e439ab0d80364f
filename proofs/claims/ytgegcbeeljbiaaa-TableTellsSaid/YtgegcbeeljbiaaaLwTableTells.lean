/- Which tables may be, and which cells any has for what, is as the document says. -/
import Derived.Test.YtgegcbeeljbiaaaTtE
import Derived.WalkKit
import Derived.ProofKit
import Derived.OpenShut
import Derived.ChangeOld
import Derived.Below
import Derived.SizedLaws
namespace Go.Proofs.Ytgegcbeeljbiaaa.tableTells
open Go.Eng
open Go.ChangeShapes Go.WideShapes Go.ChangeAt Go.RowKit
set_option linter.unusedVariables false
set_option linter.unusedSimpArgs false
set_option maxRecDepth 100000
noncomputable def cfgL : Cfg := ⟨[33]⟩
noncomputable def fsL : List FuncId := [4, 5, 8, 9, 10, 11, 12, 13, 14, 15, 16, 17, 18, 19, 20, 21, 22, 27]
theorem fitL : Fit Try.prog cfgL fsL := ⟨by kernel_rfl, Cfg.ok_of (by kernel_rfl), by kernel_rfl⟩
noncomputable def rc_r15_Where : RC := ⟨[.int .i64, .int .i64], fun avs => match avs with | [.int k, .int c] => true | _ => false,
  fun N avs => match avs with | [.int k, .int c] => ((.agg #[(.int .i64 (whP k c)), (.int .i64 (whG k c)), (.int .i64 (whS k c))]), [], []) | _ => (.bool false, [], [])⟩
theorem rc_r15_Where_does : RcDoes Try.prog [] 9 rc_r15_Where := by
  intro vb avs args blks hv hs hp
  cases hv
  cases hs with
  | int k hs =>
    cases hs with
    | int c hs =>
      cases hs
      exact DoesC.of_tells (wr_told k c) rfl
noncomputable def rc_table_Where : RC := ⟨[.int .i64, .int .i64], fun avs => match avs with | [.int k, .int c] => true | _ => false,
  fun N avs => match avs with | [.int k, .int c] => ((.agg #[(.int .i64 (whP k c)), (.int .i64 (whG k c)), (.int .i64 (whS k c))]), [], []) | _ => (.bool false, [], [])⟩
theorem rc_table_Where_does : RcDoes Try.prog [] 8 rc_table_Where := by
  intro vb avs args blks hv hs hp
  cases hv
  cases hs with
  | int k hs =>
    cases hs with
    | int c hs =>
      cases hs
      exact DoesC.of_tells (wp_told k c) rfl
noncomputable def rc_r15_GroupCell : RC := ⟨[.int .i64, .int .i64], fun avs => match avs with | [.int k, .int g] => true | _ => false,
  fun N avs => match avs with | [.int k, .int g] => ((.int .i64 (gcV k g)), [], []) | _ => (.bool false, [], [])⟩
theorem rc_r15_GroupCell_does : RcDoes Try.prog [] 19 rc_r15_GroupCell := by
  intro vb avs args blks hv hs hp
  cases hv
  cases hs with
  | int k hs =>
    cases hs with
    | int g hs =>
      cases hs
      exact DoesC.of_tells (gr_told k g) rfl
noncomputable def rc_table_GroupCell : RC := ⟨[.int .i64, .int .i64], fun avs => match avs with | [.int k, .int g] => true | _ => false,
  fun N avs => match avs with | [.int k, .int g] => ((.int .i64 (gcV k g)), [], []) | _ => (.bool false, [], [])⟩
theorem rc_table_GroupCell_does : RcDoes Try.prog [] 18 rc_table_GroupCell := by
  intro vb avs args blks hv hs hp
  cases hv
  cases hs with
  | int k hs =>
    cases hs with
    | int g hs =>
      cases hs
      exact DoesC.of_tells (gp_told k g) rfl
noncomputable def rc_r15_SlotCell : RC := ⟨[.int .i64, .int .i64, .int .i64], fun avs => match avs with | [.int k, .int g, .int t] => true | _ => false,
  fun N avs => match avs with | [.int k, .int g, .int t] => ((.int .i64 (scV k g t)), [], []) | _ => (.bool false, [], [])⟩
theorem rc_r15_SlotCell_does : RcDoes Try.prog [] 21 rc_r15_SlotCell := by
  intro vb avs args blks hv hs hp
  cases hv
  cases hs with
  | int k hs =>
    cases hs with
    | int g hs =>
      cases hs with
      | int t hs =>
        cases hs
        exact DoesC.of_tells (sr_told k g t) rfl
noncomputable def rc_table_SlotCell : RC := ⟨[.int .i64, .int .i64, .int .i64], fun avs => match avs with | [.int k, .int g, .int t] => true | _ => false,
  fun N avs => match avs with | [.int k, .int g, .int t] => ((.int .i64 (scV k g t)), [], []) | _ => (.bool false, [], [])⟩
theorem rc_table_SlotCell_does : RcDoes Try.prog [] 20 rc_table_SlotCell := by
  intro vb avs args blks hv hs hp
  cases hv
  cases hs with
  | int k hs =>
    cases hs with
    | int g hs =>
      cases hs with
      | int t hs =>
        cases hs
        exact DoesC.of_tells (sp_told k g t) rfl
noncomputable def rc_r15_Size : RC := ⟨[.int .i64], fun avs => match avs with | [.int k] => true | _ => false,
  fun N avs => match avs with | [.int k] => ((.int .i64 (szV k)), [], []) | _ => (.bool false, [], [])⟩
theorem rc_r15_Size_does : RcDoes Try.prog [] 13 rc_r15_Size := by
  intro vb avs args blks hv hs hp
  cases hv
  cases hs with
  | int k hs =>
    cases hs
    exact DoesC.of_tells (zr_told k) rfl
noncomputable def rc_table_Size : RC := ⟨[.int .i64], fun avs => match avs with | [.int k] => true | _ => false,
  fun N avs => match avs with | [.int k] => ((.int .i64 (szV k)), [], []) | _ => (.bool false, [], [])⟩
theorem rc_table_Size_does : RcDoes Try.prog [] 12 rc_table_Size := by
  intro vb avs args blks hv hs hp
  cases hv
  cases hs with
  | int k hs =>
    cases hs
    exact DoesC.of_tells (zp_told k) rfl
noncomputable def rc_r15_Stripe : RC := ⟨[.int .i64], fun avs => match avs with | [.int c] => true | _ => false,
  fun N avs => match avs with | [.int c] => ((.int .i64 (stV c)), [], []) | _ => (.bool false, [], [])⟩
theorem rc_r15_Stripe_does : RcDoes Try.prog [] 17 rc_r15_Stripe := by
  intro vb avs args blks hv hs hp
  cases hv
  cases hs with
  | int c hs =>
    cases hs
    exact DoesC.of_tells (tr_told c) rfl
noncomputable def rc_table_Stripe : RC := ⟨[.int .i64], fun avs => match avs with | [.int c] => true | _ => false,
  fun N avs => match avs with | [.int c] => ((.int .i64 (stV c)), [], []) | _ => (.bool false, [], [])⟩
theorem rc_table_Stripe_does : RcDoes Try.prog [] 16 rc_table_Stripe := by
  intro vb avs args blks hv hs hp
  cases hv
  cases hs with
  | int c hs =>
    cases hs
    exact DoesC.of_tells (tp_told c) rfl
theorem awake_told : Tells Try.prog 22 [] (bare Try.prog) (.bool true) := by
  refine Tells.of_tree (h := (bareK Try.prog)) fitL SoundC.no AgreeT.no (by kernel_rfl) rfl (show Ro (bare Try.prog) from Ro.bare) (n := 40) (d := 40) ?_
  kernel_rfl
noncomputable def rc_sprocketlaw15_awake : RC := ⟨[], fun avs => match avs with | [] => true | _ => false,
  fun N avs => match avs with | [] => ((.bool true), [], []) | _ => (.bool false, [], [])⟩
theorem rc_sprocketlaw15_awake_does : RcDoes Try.prog [] 22 rc_sprocketlaw15_awake := by
  intro vb avs args blks hv hs hp
  cases hv
  cases hs
  exact DoesC.bare noVars rfl awake_told
noncomputable def twlT : RTab := fun f => match f with
  | 5 => some rc_route_Groups
  | 27 => some rc_r13_Groups
  | 9 => some rc_r15_Where
  | 8 => some rc_table_Where
  | 19 => some rc_r15_GroupCell
  | 18 => some rc_table_GroupCell
  | 21 => some rc_r15_SlotCell
  | 20 => some rc_table_SlotCell
  | 13 => some rc_r15_Size
  | 12 => some rc_table_Size
  | 17 => some rc_r15_Stripe
  | 16 => some rc_table_Stripe
  | 22 => some rc_sprocketlaw15_awake
  | _ => none
def twlDom : List FuncId := [5, 27, 9, 8, 19, 18, 21, 20, 13, 12, 17, 16, 22]
theorem twl_does : ∀ f rc, f ∈ twlDom → twlT f = some rc → RcDoes Try.prog [] f rc := by
  intro f rc hf hT
  simp only [twlDom, List.mem_cons, List.not_mem_nil, or_false] at hf
  rcases hf with rfl | rfl | rfl | rfl | rfl | rfl | rfl | rfl | rfl | rfl | rfl | rfl | rfl
  · cases hT; exact rc_route_Groups_does
  · cases hT; exact rc_r13_Groups_does
  · cases hT; exact rc_r15_Where_does
  · cases hT; exact rc_table_Where_does
  · cases hT; exact rc_r15_GroupCell_does
  · cases hT; exact rc_table_GroupCell_does
  · cases hT; exact rc_r15_SlotCell_does
  · cases hT; exact rc_table_SlotCell_does
  · cases hT; exact rc_r15_Size_does
  · cases hT; exact rc_table_Size_does
  · cases hT; exact rc_r15_Stripe_does
  · cases hT; exact rc_table_Stripe_does
  · cases hT; exact rc_sprocketlaw15_awake_does
theorem twl_fn : ∀ f ∈ twlDom, FnOk Try.prog f := fun f hf => fitL.fnOk f (by
    have h0 : (twlDom.all fun f => fsL.contains f) = true := by kernel_rfl
    simpa using List.all_eq_true.1 h0 f hf)
theorem twl_sound : SoundC Try.prog (conC twlDom (rcE [] twlT)) := rc_sound noVars twl_fn twl_does
noncomputable def BL : Code := bodyOf Try.prog 4
theorem BL_is : Try.f4.body = some BL := by kernel_rfl
theorem BL_ok : okCode Try.prog.globals.size BL = true := by kernel_rfl
noncomputable abbrev LEV (c : Code) (s : KSt) (lv : List Nat) : Option (Ex × KSt) := evCK Try.prog cfgL (runK Try.prog cfgL fsL (conTk twlDom (rcK [] twlT)) 40 40) 40 c s (normC 0 lv)
theorem Lgo {lv_ : List Nat} {co_ : Code} {st_ s' : KSt} {x : Ex} {Q : Ex → St → Prop} (hE_ : LEV co_ st_ lv_ = some (x, s')) (hq_ : Q x s'.low) (hok_ : okCode Try.prog.globals.size co_ = true := by kernel_rfl) : Gets Try.prog (KH.low ⟨0, 1, []⟩) co_ st_.low Q := Gets.ofN fitL twl_sound (rc_agree _ _ _) 40 40 hok_ hE_ hq_
theorem LeX {v : Value} {b c : Bool} (h : v = .bool b) (hb : b = c) : v = .bool c := by rw [h, hb]
theorem LC : BL = .seq (codeAt [0] BL) (codeAt [1] BL) := by kernel_rfl
theorem LC1 : (codeAt [1] BL) = .seq (codeAt [1, 0] BL) (codeAt [1, 1] BL) := by kernel_rfl
theorem LC1_1 : (codeAt [1, 1] BL) = .seq (codeAt [1, 1, 0] BL) (codeAt [1, 1, 1] BL) := by kernel_rfl
theorem LC1_1_1 : (codeAt [1, 1, 1] BL) = .seq (codeAt [1, 1, 1, 0] BL) (codeAt [1, 1, 1, 1] BL) := by kernel_rfl
theorem LC1_1_1_0 : (codeAt [1, 1, 1, 0] BL) = .seq (codeAt [1, 1, 1, 0, 0] BL) (codeAt [1, 1, 1, 0, 1] BL) := by kernel_rfl
theorem LC1_1_1_0_1 : (codeAt [1, 1, 1, 0, 1] BL) = .cond (.tmp 35) (codeAt [1, 1, 1, 0, 1, 0] BL) (codeAt [1, 1, 1, 0, 1, 1] BL) := by kernel_rfl
theorem LC1_1_1_1 : (codeAt [1, 1, 1, 1] BL) = .seq (codeAt [1, 1, 1, 1, 0] BL) (codeAt [1, 1, 1, 1, 1] BL) := by kernel_rfl
theorem LC1_1_1_1_1 : (codeAt [1, 1, 1, 1, 1] BL) = .ret := by kernel_rfl
noncomputable def LS0 (b : Int) (k : Int) (g : Int) (t : Int) (c : Int) : KSt := (firstK [(.agg #[(.int .u64 b), (.int .i64 k)]), (.agg #[(.int .i64 g), (.int .i64 t)]), (.int .i64 c)] 99 ⟨0, 1, []⟩)
noncomputable def LS1 (c : Int) (g : Int) (t : Int) (b : Int) (k : Int) : KSt := ⟨(frameL 99 [(2, (.int .i64 c)), (3, (.pointer (some ⟨0, 0, none⟩))), (4, (.pointer (some ⟨1, 0, none⟩)))]), ⟨2, 1, [(1, 0, .cells [(.int .i64 g), (.int .i64 t)] 31 true), (0, 0, .cells [(.int .u64 b), (.int .i64 k)] 30 true)]⟩⟩
theorem LR1 (b : Int) (k : Int) (g : Int) (t : Int) (c : Int) : LEV (codeAt [0] BL) (LS0 b k g t c) [2, 3, 4] =
  some (.normal, (LS1 c g t b k)) := by kernel_rfl
noncomputable def LS2 (c : Int) (k : Int) (g : Int) (t : Int) (b : Int) : KSt := ⟨(frameL 99 [(2, (.int .i64 c)), (3, (.pointer (some ⟨0, 0, none⟩))), (4, (.pointer (some ⟨1, 0, none⟩))), (7, (.pointer (some ⟨2, 0, none⟩)))]), ⟨3, 1, [(2, 0, .cells [(.int .i64 (whP k c)), (.int .i64 (whG k c)), (.int .i64 (whS k c))] 33 true), (1, 0, .cells [(.int .i64 g), (.int .i64 t)] 31 true), (0, 0, .cells [(.int .u64 b), (.int .i64 k)] 30 true)]⟩⟩
theorem LR2 (c : Int) (g : Int) (t : Int) (b : Int) (k : Int) : LEV (codeAt [1, 0] BL) (LS1 c g t b k) [2, 3, 4, 7] =
  some (.normal, (LS2 c k g t b)) := by kernel_rfl
noncomputable def LS3 (c : Int) (k : Int) (g : Int) (t : Int) (b : Int) : KSt := ⟨(frameL 99 [(2, (.int .i64 c)), (3, (.pointer (some ⟨0, 0, none⟩))), (4, (.pointer (some ⟨1, 0, none⟩))), (7, (.pointer (some ⟨2, 0, none⟩))), (8, (.pointer (some ⟨3, 0, none⟩)))]), ⟨4, 1, [(3, 0, .cells [(.int .i64 (whP k c)), (.int .i64 (whG k c)), (.int .i64 (whS k c))] 35 true), (2, 0, .cells [(.int .i64 (whP k c)), (.int .i64 (whG k c)), (.int .i64 (whS k c))] 33 true), (1, 0, .cells [(.int .i64 g), (.int .i64 t)] 31 true), (0, 0, .cells [(.int .u64 b), (.int .i64 k)] 30 true)]⟩⟩
theorem LR3 (c : Int) (k : Int) (g : Int) (t : Int) (b : Int) : LEV (codeAt [1, 1, 0] BL) (LS2 c k g t b) [2, 3, 4, 7, 8] =
  some (.normal, (LS3 c k g t b)) := by kernel_rfl
noncomputable def LS4 (c : Int) (g : Int) (t : Int) (b : Int) (k : Int) : KSt := ⟨(frameL 99 [(2, (.int .i64 c)), (3, (.pointer (some ⟨0, 0, none⟩))), (4, (.pointer (some ⟨1, 0, none⟩))), (35, (.bool true))]), ⟨2, 1, [(1, 0, .cells [(.int .i64 g), (.int .i64 t)] 31 true), (0, 0, .cells [(.int .u64 b), (.int .i64 k)] 30 true)]⟩⟩
noncomputable def LS5 (c : Int) (k : Int) (g : Int) (t : Int) (b : Int) : KSt := ⟨(frameL 99 [(2, (.int .i64 c)), (3, (.pointer (some ⟨0, 0, none⟩))), (4, (.pointer (some ⟨1, 0, none⟩))), (35, (.bool ((whS k c) != (whS k c))))]), ⟨2, 1, [(1, 0, .cells [(.int .i64 g), (.int .i64 t)] 31 true), (0, 0, .cells [(.int .u64 b), (.int .i64 k)] 30 true)]⟩⟩
theorem LR4 (c : Int) (k : Int) (g : Int) (t : Int) (b : Int) : LEV (codeAt [1, 1, 1, 0, 0] BL) (LS3 c k g t b) [2, 3, 4, 35] =
  bif ((whP k c) != (whP k c)) then
    some (.normal, (LS4 c g t b k))
  else
    bif ((whG k c) != (whG k c)) then
      some (.normal, (LS4 c g t b k))
    else
      some (.normal, (LS5 c k g t b)) := by kernel_rfl
theorem LR5 (c : Int) (k : Int) (g : Int) (t : Int) (b : Int) : LEV (codeAt [1, 1, 1, 0, 1, 1] BL) (LS5 c k g t b) [2, 3, 4] =
  some (.normal, (LS1 c g t b k)) := by kernel_rfl
noncomputable def LS6  : KSt := ⟨(frameL 99 [(6, (.bool true))]), ⟨0, 1, []⟩⟩
noncomputable def LS7  : KSt := ⟨(frameL 99 [(6, (.bool false))]), ⟨0, 1, []⟩⟩
theorem LR6 (c : Int) (g : Int) (t : Int) (b : Int) (k : Int) : LEV (codeAt [1, 1, 1, 1, 0] BL) (LS1 c g t b k) [6] =
  bif (b != 0) then
    bif (decide (b > 0)) then
      bif ((decide ((groupsV k) > 0)) == (decide ((groupsV k) > 0))) then
        bif ((szV k) == (szV k)) then
          bif ((IntKind.wrap .i64 (7 * (groupsV k))) == (IntKind.wrap .i64 (7 * (groupsV k)))) then
            bif ((stV c) == (stV c)) then
              bif ((gcV k g) == (gcV k g)) then
                bif ((scV k g t) == (scV k g t)) then
                  some (.normal, LS6)
                else
                  some (.normal, LS7)
              else
                some (.normal, LS7)
            else
              some (.normal, LS7)
          else
            some (.normal, LS7)
        else
          some (.normal, LS7)
      else
        some (.normal, LS7)
    else
      bif ((decide ((groupsV k) > 0)) == false) then
        bif ((szV k) == (szV k)) then
          bif ((IntKind.wrap .i64 (7 * (groupsV k))) == (IntKind.wrap .i64 (7 * (groupsV k)))) then
            bif ((stV c) == (stV c)) then
              bif ((gcV k g) == (gcV k g)) then
                bif ((scV k g t) == (scV k g t)) then
                  some (.normal, LS6)
                else
                  some (.normal, LS7)
              else
                some (.normal, LS7)
            else
              some (.normal, LS7)
          else
            some (.normal, LS7)
        else
          some (.normal, LS7)
      else
        some (.normal, LS7)
  else
    bif (decide (b > 0)) then
      bif (false == (decide ((groupsV k) > 0))) then
        bif ((szV k) == (szV k)) then
          bif ((IntKind.wrap .i64 (7 * (groupsV k))) == (IntKind.wrap .i64 (7 * (groupsV k)))) then
            bif ((stV c) == (stV c)) then
              bif ((gcV k g) == (gcV k g)) then
                bif ((scV k g t) == (scV k g t)) then
                  some (.normal, LS6)
                else
                  some (.normal, LS7)
              else
                some (.normal, LS7)
            else
              some (.normal, LS7)
          else
            some (.normal, LS7)
        else
          some (.normal, LS7)
      else
        some (.normal, LS7)
    else
      bif ((szV k) == (szV k)) then
        bif ((IntKind.wrap .i64 (7 * (groupsV k))) == (IntKind.wrap .i64 (7 * (groupsV k)))) then
          bif ((stV c) == (stV c)) then
            bif ((gcV k g) == (gcV k g)) then
              bif ((scV k g t) == (scV k g t)) then
                some (.normal, LS6)
              else
                some (.normal, LS7)
            else
              some (.normal, LS7)
          else
            some (.normal, LS7)
        else
          some (.normal, LS7)
      else
        some (.normal, LS7) := by kernel_rfl
theorem Lz {b : Int} {k : Int} {g : Int} {t : Int} {c : Int} (hb : b = 0)   {Q : Ex → St → Prop} (hq : Q .ret (KSt.low LS6)) : Gets Try.prog (KH.low ⟨0, 1, []⟩) BL (KSt.low (LS0 b k g t c)) Q := by
  rw [LC]; refine Gets.seq ?_
  refine Lgo (LR1 b k g t c) ?_
  rw [LC1]; refine Gets.seq ?_
  refine Lgo (LR2 c g t b k) ?_
  rw [LC1_1]; refine Gets.seq ?_
  refine Lgo (LR3 c k g t b) ?_
  rw [LC1_1_1]; refine Gets.seq ?_
  rw [LC1_1_1_0]; refine Gets.seq ?_
  refine Lgo (x := .normal) (s' := (LS5 c k g t b)) ((LR4 c k g t b).trans (by rw [condF (ibne_f (by omega)), condF (ibne_f (by omega))])) ?_
  rw [LC1_1_1_0_1]; refine Gets.cond false (by kernel_rfl) (LeX (b := ((whS k c) != (whS k c))) (by kernel_rfl) ((show ((whS k c) != (whS k c)) = false from ibne_f (by omega)))) ?_; show Gets _ _ (codeAt [1, 1, 1, 0, 1, 1] BL) _ _
  refine Lgo (LR5 c k g t b) ?_
  rw [LC1_1_1_1]; refine Gets.seq ?_
  refine Lgo (x := .normal) (s' := LS6) ((LR6 c g t b k).trans (by rw [condF (ibne_f (by omega)), condF (decide_eq_false (by omega)), condT (beq_self_eq_true _), condT (beq_self_eq_true _), condT (beq_self_eq_true _), condT (beq_self_eq_true _), condT (beq_self_eq_true _)])) ?_
  rw [LC1_1_1_1_1]; refine Gets.ev fitL.mix fitL.cfg (fitL.sound twl_sound 40 0) 40 rfl (s' := KSt.low LS6) (x := .ret) rfl ?_
  exact hq
theorem Ln {b : Int} {k : Int} {g : Int} {t : Int} {c : Int} (hb : b ≠ 0) (hb0 : 0 ≤ b) (hg : 1 ≤ groupsV k)   {Q : Ex → St → Prop} (hq : Q .ret (KSt.low LS6)) : Gets Try.prog (KH.low ⟨0, 1, []⟩) BL (KSt.low (LS0 b k g t c)) Q := by
  rw [LC]; refine Gets.seq ?_
  refine Lgo (LR1 b k g t c) ?_
  rw [LC1]; refine Gets.seq ?_
  refine Lgo (LR2 c g t b k) ?_
  rw [LC1_1]; refine Gets.seq ?_
  refine Lgo (LR3 c k g t b) ?_
  rw [LC1_1_1]; refine Gets.seq ?_
  rw [LC1_1_1_0]; refine Gets.seq ?_
  refine Lgo (x := .normal) (s' := (LS5 c k g t b)) ((LR4 c k g t b).trans (by rw [condF (ibne_f (by omega)), condF (ibne_f (by omega))])) ?_
  rw [LC1_1_1_0_1]; refine Gets.cond false (by kernel_rfl) (LeX (b := ((whS k c) != (whS k c))) (by kernel_rfl) ((show ((whS k c) != (whS k c)) = false from ibne_f (by omega)))) ?_; show Gets _ _ (codeAt [1, 1, 1, 0, 1, 1] BL) _ _
  refine Lgo (LR5 c k g t b) ?_
  rw [LC1_1_1_1]; refine Gets.seq ?_
  refine Lgo (x := .normal) (s' := LS6) ((LR6 c g t b k).trans (by rw [condT (ibne_t (by omega)), condT (decide_eq_true (by omega)), condT (beq_self_eq_true _), condT (beq_self_eq_true _), condT (beq_self_eq_true _), condT (beq_self_eq_true _), condT (beq_self_eq_true _), condT (beq_self_eq_true _)])) ?_
  rw [LC1_1_1_1_1]; refine Gets.ev fitL.mix fitL.cfg (fitL.sound twl_sound 40 0) 40 rfl (s' := KSt.low LS6) (x := .ret) rfl ?_
  exact hq
theorem Lg {b : Int} {k : Int} {g : Int} {t : Int} {c : Int} (hb : b ≠ 0) (hb0 : 0 ≤ b) (hg : groupsV k = 0)   {Q : Ex → St → Prop} (hq : Q .ret (KSt.low LS6)) : Gets Try.prog (KH.low ⟨0, 1, []⟩) BL (KSt.low (LS0 b k g t c)) Q := by
  rw [LC]; refine Gets.seq ?_
  refine Lgo (LR1 b k g t c) ?_
  rw [LC1]; refine Gets.seq ?_
  refine Lgo (LR2 c g t b k) ?_
  rw [LC1_1]; refine Gets.seq ?_
  refine Lgo (LR3 c k g t b) ?_
  rw [LC1_1_1]; refine Gets.seq ?_
  rw [LC1_1_1_0]; refine Gets.seq ?_
  refine Lgo (x := .normal) (s' := (LS5 c k g t b)) ((LR4 c k g t b).trans (by rw [condF (ibne_f (by omega)), condF (ibne_f (by omega))])) ?_
  rw [LC1_1_1_0_1]; refine Gets.cond false (by kernel_rfl) (LeX (b := ((whS k c) != (whS k c))) (by kernel_rfl) ((show ((whS k c) != (whS k c)) = false from ibne_f (by omega)))) ?_; show Gets _ _ (codeAt [1, 1, 1, 0, 1, 1] BL) _ _
  refine Lgo (LR5 c k g t b) ?_
  rw [LC1_1_1_1]; refine Gets.seq ?_
  refine Lgo (x := .normal) (s' := LS6) ((LR6 c g t b k).trans (by rw [condT (ibne_t (by omega)), condT (decide_eq_true (by omega)), condT (beq_self_eq_true _), condT (beq_self_eq_true _), condT (beq_self_eq_true _), condT (beq_self_eq_true _), condT (beq_self_eq_true _), condT (beq_self_eq_true _)])) ?_
  rw [LC1_1_1_1_1]; refine Gets.ev fitL.mix fitL.cfg (fitL.sound twl_sound 40 0) 40 rfl (s' := KSt.low LS6) (x := .ret) rfl ?_
  exact hq
theorem told (b k g t c : Int) (hb0 : 0 ≤ b) : Tells Try.prog 4 [(.agg #[(.int .u64 b), (.int .i64 k)]), (.agg #[(.int .i64 g), (.int .i64 t)]), (.int .i64 c)] (mkH []).low (.bool true) := by
  refine Gets.tells Try.func4 BL_is (by rw [noVars]; exact Nat.zero_le _) rfl ?_ (fun a o ho => by cases ho)
  show Gets Try.prog (KH.low ⟨0, 1, []⟩) BL (KSt.low (LS0 b k g t c)) (Eng.Ends Try.prog Try.f4.results.toList fun r _ => r = .bool true)
  have hb := groupsV_bounds k
  by_cases e : b = 0
  · exact Lz e (ends1 (by kernel_rfl))
  · by_cases hg : groupsV k = 0
    · exact Lg e hb0 hg (ends1 (by kernel_rfl))
    · exact Ln e hb0 (by omega) (ends1 (by kernel_rfl))
theorem own : ownKnob Try.prog.godebug = none := by kernel_rfl
theorem lifted (os : Os) (started : os.Started) (H : Type) (enc : TypeId × Value → H) :
    ReturnsInHanded {} Try.checked os 4 .any (Rows.tableTellsSpec.pre6 enc Try.prog Try.f4 Rows.tableTellsRow.domain false) (Rows.tableTellsSpec.post enc Try.prog Try.f4 false true false false) := by
  refine returnsInHanded_of_change_sized (C := Try.checked) own started (by kernel_rfl) Try.func4
    (ChangeSpec.witness6 (enc := enc) (C := Try.checked) false ⟨#[], #[.agg #[.int .u64 0, .int .i64 0], .agg #[.int .i64 0, .int .i64 0], .int .i64 0], []⟩ 8 (by kernel_rfl) (by kernel_rfl) (by kernel_rfl) (by kernel_rfl)) ?_
  intro W base args ds gs before hval0 hW hcnd hsz0 _
  have hval : ∀ (j : Nat) t v, Try.f4.params[j]? = some t → args[j]? = some v → Value.okWide Try.prog W .any base t v := hval0
  have hW' := hW
  obtain ⟨p, q, hA0, hV, rfl, hfz, hnd⟩ := hW
  have hA : DataW.TrodAll enc Try.prog W 0 (fun _ => true) true Try.f4.params.toList args.toList ds p := hA0
  rw [Try.params4] at hA hval
  have hS := hA
  obtain ⟨v0, vs0, d0, ds0, p0, q0, hargs, rfl, rfl, h0, r0⟩ := trodAll_cons hA
  obtain ⟨v1, vs1, d1, ds1, p1, q1, rfl, rfl, rfl, h1, r1⟩ := trodAll_cons r0
  obtain ⟨v2, vs2, d2, ds2, p2, q2, rfl, rfl, rfl, h2, r2⟩ := trodAll_cons r1
  obtain ⟨rfl, rfl, rfl⟩ := trodAll_nil r2
  obtain rfl : args = #[v0, v1, v2] := by cases args; simp_all
  obtain ⟨rfl, rfl⟩ := trodVars_none hV
  suffices hc : Calls Try.prog 4 #[v0, v1, v2] W fun e W' => e = .returned (.bool true) ∧ Below W.heap.size W W' by
    refine hc.mono fun e W' ⟨he, bel⟩ => ?_
    subst he
    exact ⟨_, rfl, _, _, _, [], _, [], hW', trodAll_mk1 (shut_bool Try.underlying4 _), trodAll_stays fineA bel (by decide +kernel) hS, rfl, bel.frame _, fun h => by cases h⟩
  clear hS hW' hfz hnd
  obtain ⟨cs0, rfl, hl0, hc0⟩ := open_agg (ts := [22, 3]) (by kernel_rfl) (by kernel_rfl) (by kernel_rfl) (hval 0 30 v0 rfl rfl)
  obtain ⟨x0_0, cs0_0, rfl, hl0_0⟩ := list_succ hl0
  obtain ⟨x0_1, cs0_1, rfl, hl0_1⟩ := list_succ hl0_0
  obtain rfl := list_zero hl0_1
  obtain ⟨a0_0, rfl, w0_0⟩ := cell_int (k := .u64) Try.underlying22 (hc0 0 _ _ rfl rfl)
  obtain ⟨a0_1, rfl, w0_1⟩ := cell_int (k := .i64) Try.underlying3 (hc0 1 _ _ rfl rfl)
  obtain ⟨cs1, rfl, hl1, hc1⟩ := open_agg (ts := [3, 3]) (by kernel_rfl) (by kernel_rfl) (by kernel_rfl) (hval 1 31 v1 rfl rfl)
  obtain ⟨x1_0, cs1_0, rfl, hl1_0⟩ := list_succ hl1
  obtain ⟨x1_1, cs1_1, rfl, hl1_1⟩ := list_succ hl1_0
  obtain rfl := list_zero hl1_1
  obtain ⟨a1_0, rfl, w1_0⟩ := cell_int (k := .i64) Try.underlying3 (hc1 0 _ _ rfl rfl)
  obtain ⟨a1_1, rfl, w1_1⟩ := cell_int (k := .i64) Try.underlying3 (hc1 1 _ _ rfl rfl)
  obtain ⟨a2, rfl, rfl, rfl, w2⟩ := open_int Try.underlying3 (hval 2 3 v2 rfl rfl) h2
  exact told a0_0 a0_1 a1_0 a1_1 a2 (has_u64 w0_0).1 _ W _ (.cons (.of_plain rfl) (.cons (.of_plain rfl) (.cons (.of_plain rfl) (.nil _)))) (Sim.none noVars W _ _)
theorem over : Rows.tableTellsRow.holds Try.pinned (OpenSpec.ofChange Rows.tableTellsSpec) :=
  OpenClaim.holds_of_wide 4 Try.f4 rfl rfl rfl rfl rfl rfl rfl ⟨rfl, rfl, rfl, rfl, rfl⟩ rfl rfl rfl rfl rfl (by kernel_rfl) Try.func4 (by kernel_rfl)
    (of_decide_eq_true (by kernel_rfl)) (by unfold Func.isWrapper; first | (rw [if_pos (by decide +kernel)]; kernel_rfl) | (rw [if_neg (by decide +kernel)]; exact ⟨rfl, rfl⟩))
    (fun os started H enc _ => lifted os started H enc)
end Go.Proofs.Ytgegcbeeljbiaaa.tableTells
namespace Go.Proofs.Ytgegcbeeljbiaaa
/-- The row, under a short name, for the claim. -/
theorem tableTells_holds : Rows.TableTellsSaid := tableTells.over
#print axioms tableTells_holds
end Go.Proofs.Ytgegcbeeljbiaaa
