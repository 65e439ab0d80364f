/- The contract of all; roads through RouteAll. -/
import Derived.Test.YtgegcbeeljbiaaaRtB
import Derived.WalkKit
import Derived.ProofKit
import Derived.OpenShut
import Derived.ChangeOld
import Derived.Below
import Derived.SizedLaws
namespace Go.Proofs.Ytgegcbeeljbiaaa
open Go.Eng
open Go.ChangeShapes Go.WideShapes Go.ChangeAt Go.RowKit
set_option linter.unusedVariables false
set_option linter.unusedSimpArgs false
set_option maxRecDepth 100000
noncomputable def cfgL : Cfg := ⟨[]⟩
noncomputable def fsL : List FuncId := [3, 5, 6, 7, 23, 24, 25, 28, 29]
theorem fitL : Fit Try.prog cfgL fsL := ⟨by kernel_rfl, Cfg.ok_of (by kernel_rfl), by kernel_rfl⟩
def nnK (k : Int) : Nat := (groupsV k).toNat
def stN (h k : Int) : Nat := (h / 128 % groupsV k).toNat
noncomputable def wayK (h k : Int) : List Int := wayN (nnK k) (stN h k) (nnK k)
def allP (h k m : Int) : Bool := decide (0 ≤ h) && (decide (h < 18446744073709551616) && (decide (0 ≤ k) && (decide (k ≤ 9) && decide (m = 600))))
theorem pow_le {j : Nat} (hj : j ≤ 9) : 1 ≤ 2 ^ j ∧ 2 ^ j ≤ 512 := ⟨Nat.one_le_two_pow, Nat.pow_le_pow_right (by decide) hj⟩
theorem groups_pow {k : Int} (k0 : 0 ≤ k) (k9 : k ≤ 9) : groupsV k = ((2 ^ k.toNat : Nat) : Int) := by
  unfold groupsV
  rw [if_neg (by omega)]; push_cast; rfl
theorem wrapm {j : Nat} (hj : j ≤ 9) : IntKind.wrap .i64 (((2 ^ j : Nat) : Int) - 1) = 2 ^ j - 1 := by
  have h := pow_le hj
  rw [wrap_i64_id (by omega) (by omega)]; push_cast; rfl
theorem start_ok {h : Int} {j : Nat} (hj : j ≤ 9) (h0 : 0 ≤ h) : (IntKind.wrap .i64 (bits .and .u64 (Int.fdiv h (2 ^ 7)) (IntKind.wrap .u64 (if 0 > (IntKind.wrap .i64 (((2 ^ j : Nat) : Int) - 1)) then 0 else (IntKind.wrap .i64 (((2 ^ j : Nat) : Int) - 1)))))) = (((h / 128 % ((2 ^ j : Nat) : Int)).toNat : Nat) : Int) := by
  have hp := pow_le hj
  have hc : ((2 : Int) ^ j) = ((2 ^ j : Nat) : Int) := by push_cast; rfl
  rw [wrapm hj, if_neg (by rw [hc]; omega), wrap_u64_id (by rw [hc]; omega) (by rw [hc]; omega), and_mask_u64 _ j (by omega), hc]
  have hf : Int.fdiv h (2 ^ 7) = h / 128 := by rw [Int.fdiv_eq_ediv_of_nonneg h (by decide)]; rfl
  rw [hf]
  have h1 : 0 ≤ h / 128 % ((2 ^ j : Nat) : Int) := Int.emod_nonneg _ (by omega)
  have h2 : h / 128 % ((2 ^ j : Nat) : Int) < ((2 ^ j : Nat) : Int) := Int.emod_lt_of_pos _ (by omega)
  rw [wrap_i64_id (by omega) (by omega)]; omega
theorem next_ok {j a b : Nat} (hj : j ≤ 9) (ha : a ≤ 512) (hb : b ≤ 512) : (bits .and .i64 (IntKind.wrap .i64 (((a : Nat) : Int) + ((b : Nat) : Int))) (IntKind.wrap .i64 (((2 ^ j : Nat) : Int) - 1))) = ((((a + b) % 2 ^ j : Nat)) : Int) := by
  rw [wrapm hj, and_mask_i64 _ j (by omega), wrap_i64_id (by omega) (by omega)]
  push_cast; rfl
theorem next_ok0 {j a : Nat} (hj : j ≤ 9) (ha : a ≤ 512) : (bits .and .i64 (IntKind.wrap .i64 (((a : Nat) : Int) + 0)) (IntKind.wrap .i64 (((2 ^ j : Nat) : Int) - 1))) = (((a % 2 ^ j : Nat)) : Int) := by
  have := next_ok (b := 0) hj ha (by decide)
  rw [Nat.add_zero] at this
  exact this
theorem allk_does {h k : Int} (h0 : 0 ≤ h) (k0 : 0 ≤ k) (k9 : k ≤ 9) : DoesC Try.prog 6 [(.int .u64 h), (.int .i64 k), (.int .i64 600)] (mkH []).low (.slice (some ⟨0, 0, none⟩) (nnK k) (nnK k)) (effK (mkH []) [] [.ints .i64 (wayK h k) 3 true]).low := by
  have hj : k.toNat ≤ 9 := by omega
  have hp := pow_le hj
  have hg := groups_pow k0 k9
  have hn : nnK k = 2 ^ k.toNat := by unfold nnK; rw [hg]; rfl
  have hs : stN h k = (h / 128 % ((2 ^ k.toNat : Nat) : Int)).toNat := by unfold stN; rw [hg]
  have hsl : stN h k ≤ 512 := by
    rw [hs]
    have h2 : h / 128 % ((2 ^ k.toNat : Nat) : Int) < ((2 ^ k.toNat : Nat) : Int) := Int.emod_lt_of_pos _ (by omega)
    omega
  unfold wayK
  rw [hn]
  refine all_does h k (2 ^ k.toNat) (stN h k) hg (by rw [start_ok hj h0, hs]) hp.1 hp.2 (next_ok0 hj hsl) (fun i h1 h2 => ?_)
  have hlt := gN_lt (n := 2 ^ k.toNat) (by omega) (stN h k) (i - 1)
  rw [next_ok hj (by omega) (by omega)]
  obtain ⟨i', rfl⟩ : ∃ i', i = i' + 1 := ⟨i - 1, by omega⟩
  rfl
theorem end_eq {h : Int} {nn : Nat} (h0 : 0 ≤ h) (hh : h < 18446744073709551616) (h1 : 1 ≤ nn) (h2 : nn ≤ 512) : IntKind.wrap .u64 (h / 128 % ((nn : Nat) : Int)) = Int.tmod (IntKind.wrap .u64 (Int.tdiv h 128)) (IntKind.wrap .u64 ((nn : Nat) : Int)) := by
  have a1 : 0 ≤ h / 128 % ((nn : Nat) : Int) := Int.emod_nonneg _ (by omega)
  have a2 : h / 128 % ((nn : Nat) : Int) < ((nn : Nat) : Int) := Int.emod_lt_of_pos _ (by omega)
  rw [Int.tdiv_eq_ediv_of_nonneg h0, wrap_u64_id (n := h / 128) (by omega) (by omega), wrap_u64_id (n := ((nn : Nat) : Int)) (by omega) (by omega), wrap_u64_id (by omega) (by omega), Int.tmod_eq_emod_of_nonneg (by omega)]
theorem awake_told : Tells Try.prog 7 [] (bare Try.prog) (.bool true) := by
  refine Tells.of_tree (h := (bareK Try.prog)) fitL SoundC.no AgreeT.no (by kernel_rfl) rfl (show Ro (bare Try.prog) from Ro.bare) (n := 70) (d := 40) ?_
  kernel_rfl
noncomputable def rc_sprocketlaw13_all : RC := ⟨[.int .u64, .int .i64, .int .i64], fun avs => match avs with | [.int h, .int k, .int m] => (allP h k m) | _ => false,
  fun N avs => match avs with | [.int h, .int k, .int m] => ((.slice (some ⟨N, 0, none⟩) (nnK k) (nnK k)), [], [.ints .i64 (wayK h k) 3 true]) | _ => (.bool false, [], [])⟩
noncomputable def rc_sprocketlaw13_awake : RC := ⟨[], fun avs => match avs with | [] => true | _ => false,
  fun N avs => match avs with | [] => ((.bool true), [], []) | _ => (.bool false, [], [])⟩
theorem rc_sprocketlaw13_awake_does : RcDoes Try.prog [] 7 rc_sprocketlaw13_awake := by
  intro vb avs args blks hv hs hp
  cases hv
  cases hs
  exact DoesC.bare noVars rfl awake_told
theorem rc_sprocketlaw13_all_does : RcDoes Try.prog [] 6 rc_sprocketlaw13_all := by
  intro vb avs args blks hv hs hp
  cases hv
  cases hs with
  | int h hs =>
    cases hs with
    | int k hs =>
      cases hs with
      | int m hs =>
        cases hs
        have hp : allP h k m = true := hp
        unfold allP at hp
        simp only [Bool.and_eq_true, decide_eq_true_eq] at hp
        obtain ⟨h0, _, k0, k9, rfl⟩ := hp
        exact allk_does h0 k0 k9
noncomputable def lwT : RTab := fun f => match f with
  | 5 => some rc_route_Groups
  | 6 => some rc_sprocketlaw13_all
  | 7 => some rc_sprocketlaw13_awake
  | _ => none
def lwDom : List FuncId := [5, 6, 7]
theorem lw_does : ∀ f rc, f ∈ lwDom → lwT f = some rc → RcDoes Try.prog [] f rc := by
  intro f rc hf hT
  simp only [lwDom, List.mem_cons, List.not_mem_nil, or_false] at hf
  rcases hf with rfl | rfl | rfl
  · cases hT; exact rc_route_Groups_does
  · cases hT; exact rc_sprocketlaw13_all_does
  · cases hT; exact rc_sprocketlaw13_awake_does
theorem lw_fn : ∀ f ∈ lwDom, FnOk Try.prog f := fun f hf => fitL.fnOk f (by
    have h0 : (lwDom.all fun f => fsL.contains f) = true := by kernel_rfl
    simpa using List.all_eq_true.1 h0 f hf)
theorem lw_sound : SoundC Try.prog (conC lwDom (rcE [] lwT)) := rc_sound noVars lw_fn lw_does
noncomputable def BL : Code := bodyOf Try.prog 3
theorem BL_is : Try.f3.body = some BL := by kernel_rfl
theorem BL_ok : okCode Try.prog.globals.size BL = true := by kernel_rfl
noncomputable abbrev LEV (c : Code) (s : KSt) (lv : List Nat) : Option (Ex × KSt) := evCK Try.prog cfgL (runK Try.prog cfgL fsL (conTk lwDom (rcK [] lwT)) 40 40) 40 c s (normC 0 lv)
theorem Lgo {lv_ : List Nat} {co_ : Code} {st_ s' : KSt} {x : Ex} {Q : Ex → St → Prop} (hE_ : LEV co_ st_ lv_ = some (x, s')) (hq_ : Q x s'.low) (hok_ : okCode Try.prog.globals.size co_ = true := by kernel_rfl) : Gets Try.prog (KH.low ⟨0, 1, []⟩) co_ st_.low Q := Gets.ofN fitL lw_sound (rc_agree _ _ _) 40 40 hok_ hE_ hq_
theorem LeX {v : Value} {b c : Bool} (h : v = .bool b) (hb : b = c) : v = .bool c := by rw [h, hb]
theorem LC : BL = .seq (codeAt [0] BL) (codeAt [1] BL) := by kernel_rfl
theorem LC1 : (codeAt [1] BL) = .seq (codeAt [1, 0] BL) (codeAt [1, 1] BL) := by kernel_rfl
theorem LC1_1 : (codeAt [1, 1] BL) = .seq (codeAt [1, 1, 0] BL) (codeAt [1, 1, 1] BL) := by kernel_rfl
theorem LC1_1_1 : (codeAt [1, 1, 1] BL) = .seq (codeAt [1, 1, 1, 0] BL) (codeAt [1, 1, 1, 1] BL) := by kernel_rfl
theorem LC1_1_1_1 : (codeAt [1, 1, 1, 1] BL) = .seq (codeAt [1, 1, 1, 1, 0] BL) (codeAt [1, 1, 1, 1, 1] BL) := by kernel_rfl
theorem LC1_1_1_1_0 : (codeAt [1, 1, 1, 1, 0] BL) = .seq (codeAt [1, 1, 1, 1, 0, 0] BL) (codeAt [1, 1, 1, 1, 0, 1] BL) := by kernel_rfl
theorem LC1_1_1_1_0_1 : (codeAt [1, 1, 1, 1, 0, 1] BL) = .cond (.tmp 25) (codeAt [1, 1, 1, 1, 0, 1, 0] BL) (codeAt [1, 1, 1, 1, 0, 1, 1] BL) := by kernel_rfl
theorem LC1_1_1_1_1 : (codeAt [1, 1, 1, 1, 1] BL) = .seq (codeAt [1, 1, 1, 1, 1, 0] BL) (codeAt [1, 1, 1, 1, 1, 1] BL) := by kernel_rfl
theorem LC1_1_1_1_1_1 : (codeAt [1, 1, 1, 1, 1, 1] BL) = .seq (codeAt [1, 1, 1, 1, 1, 1, 0] BL) (codeAt [1, 1, 1, 1, 1, 1, 1] BL) := by kernel_rfl
theorem LC1_1_1_1_1_1_0 : (codeAt [1, 1, 1, 1, 1, 1, 0] BL) = .seq (codeAt [1, 1, 1, 1, 1, 1, 0, 0] BL) (codeAt [1, 1, 1, 1, 1, 1, 0, 1] BL) := by kernel_rfl
theorem LC1_1_1_1_1_1_0_1_0_0 : (codeAt [1, 1, 1, 1, 1, 1, 0, 1, 0, 0] BL) = .seq (codeAt [1, 1, 1, 1, 1, 1, 0, 1, 0, 0, 0] BL) (codeAt [1, 1, 1, 1, 1, 1, 0, 1, 0, 0, 1] BL) := by kernel_rfl
theorem LC1_1_1_1_1_1_0_1_0_0_0 : (codeAt [1, 1, 1, 1, 1, 1, 0, 1, 0, 0, 0] BL) = .seq (codeAt [1, 1, 1, 1, 1, 1, 0, 1, 0, 0, 0, 0] BL) (codeAt [1, 1, 1, 1, 1, 1, 0, 1, 0, 0, 0, 1] BL) := by kernel_rfl
theorem LC1_1_1_1_1_1_0_1_0_0_0_1 : (codeAt [1, 1, 1, 1, 1, 1, 0, 1, 0, 0, 0, 1] BL) = .cond (.tmp 31) (codeAt [1, 1, 1, 1, 1, 1, 0, 1, 0, 0, 0, 1, 0] BL) (codeAt [1, 1, 1, 1, 1, 1, 0, 1, 0, 0, 0, 1, 1] BL) := by kernel_rfl
theorem LC1_1_1_1_1_1_0_1_0_0_1 : (codeAt [1, 1, 1, 1, 1, 1, 0, 1, 0, 0, 1] BL) = .seq (codeAt [1, 1, 1, 1, 1, 1, 0, 1, 0, 0, 1, 0] BL) (codeAt [1, 1, 1, 1, 1, 1, 0, 1, 0, 0, 1, 1] BL) := by kernel_rfl
theorem LC1_1_1_1_1_1_0_1_0_0_1_0 : (codeAt [1, 1, 1, 1, 1, 1, 0, 1, 0, 0, 1, 0] BL) = .block 1 (codeAt [1, 1, 1, 1, 1, 1, 0, 1, 0, 0, 1, 0, 0] BL) := by kernel_rfl
theorem LC1_1_1_1_1_1_0_1_0_0_1_0_0 : (codeAt [1, 1, 1, 1, 1, 1, 0, 1, 0, 0, 1, 0, 0] BL) = .seq (codeAt [1, 1, 1, 1, 1, 1, 0, 1, 0, 0, 1, 0, 0, 0] BL) (codeAt [1, 1, 1, 1, 1, 1, 0, 1, 0, 0, 1, 0, 0, 1] BL) := by kernel_rfl
theorem LC1_1_1_1_1_1_0_1_0_0_1_0_0_0 : (codeAt [1, 1, 1, 1, 1, 1, 0, 1, 0, 0, 1, 0, 0, 0] BL) = .seq (codeAt [1, 1, 1, 1, 1, 1, 0, 1, 0, 0, 1, 0, 0, 0, 0] BL) (codeAt [1, 1, 1, 1, 1, 1, 0, 1, 0, 0, 1, 0, 0, 0, 1] BL) := by kernel_rfl
theorem LC1_1_1_1_1_1_0_1_0_0_1_0_0_0_1 : (codeAt [1, 1, 1, 1, 1, 1, 0, 1, 0, 0, 1, 0, 0, 0, 1] BL) = .cond (.tmp 55) (codeAt [1, 1, 1, 1, 1, 1, 0, 1, 0, 0, 1, 0, 0, 0, 1, 0] BL) (codeAt [1, 1, 1, 1, 1, 1, 0, 1, 0, 0, 1, 0, 0, 0, 1, 1] BL) := by kernel_rfl
theorem LC1_1_1_1_1_1_0_1_0_0_0_1_1 : (codeAt [1, 1, 1, 1, 1, 1, 0, 1, 0, 0, 0, 1, 1] BL) = .exit 0 := by kernel_rfl
theorem LC1_1_1_1_1_1_1 : (codeAt [1, 1, 1, 1, 1, 1, 1] BL) = .seq (codeAt [1, 1, 1, 1, 1, 1, 1, 0] BL) (codeAt [1, 1, 1, 1, 1, 1, 1, 1] BL) := by kernel_rfl
theorem LC1_1_1_1_1_1_1_1 : (codeAt [1, 1, 1, 1, 1, 1, 1, 1] BL) = .ret := by kernel_rfl
theorem LC1_1_1_1_1_1_0_1 : (codeAt [1, 1, 1, 1, 1, 1, 0, 1] BL) = .block 0 (codeAt [1, 1, 1, 1, 1, 1, 0, 1, 0] BL) := by kernel_rfl
theorem LC1_1_1_1_1_1_0_1_0 : (codeAt [1, 1, 1, 1, 1, 1, 0, 1, 0] BL) = .loop (codeAt [1, 1, 1, 1, 1, 1, 0, 1, 0, 0] BL) := by kernel_rfl
noncomputable def LS0 (h : Int) (x : Int) : KSt := (firstK [(.int .u64 h), (.int .u8 x)] 75 ⟨0, 1, []⟩)
noncomputable def LS1 (h : Int) (x : Int) : KSt := ⟨(frameL 75 [(0, (.int .u64 h)), (1, (.int .u8 x))]), ⟨0, 1, []⟩⟩
theorem LR1 (h : Int) (x : Int) : LEV (codeAt [0] BL) (LS0 h x) [0, 1] =
  some (.normal, (LS1 h x)) := by kernel_rfl
noncomputable def LS2 (h : Int) (x : Int) : KSt := ⟨(frameL 75 [(0, (.int .u64 h)), (5, (.int .i64 (Int.tmod (IntKind.wrap .i64 x) 10)))]), ⟨0, 1, []⟩⟩
theorem LR2 (h : Int) (x : Int) : LEV (codeAt [1, 0] BL) (LS1 h x) [0, 5] =
  some (.normal, (LS2 h x)) := by kernel_rfl
noncomputable def LS3 (h : Int) (k : Int) : KSt := ⟨(frameL 75 [(0, (.int .u64 h)), (5, (.int .i64 k))]), ⟨0, 1, []⟩⟩
noncomputable def LS4 (h : Int) (k : Int) : KSt := ⟨(frameL 75 [(0, (.int .u64 h)), (5, (.int .i64 k)), (6, (.int .i64 (groupsV k)))]), ⟨0, 1, []⟩⟩
theorem LR3 (h : Int) (k : Int) : LEV (codeAt [1, 1, 0] BL) (LS3 h k) [0, 5, 6] =
  some (.normal, (LS4 h k)) := by kernel_rfl
noncomputable def LS5 (h : Int) (k : Int) (nn : Nat) : KSt := ⟨(frameL 75 [(0, (.int .u64 h)), (5, (.int .i64 k)), (6, (.int .i64 ((nn : Nat) : Int)))]), ⟨0, 1, []⟩⟩
noncomputable def LS6 (h : Int) (nn : Nat) (k : Int) : KSt := ⟨(frameL 75 [(0, (.int .u64 h)), (6, (.int .i64 ((nn : Nat) : Int))), (7, (.slice (some ⟨0, 0, none⟩) (nnK k) (nnK k)))]), ⟨1, 1, [(0, 0, .ints .i64 (wayK h k) 3 true)]⟩⟩
theorem LR4 (h : Int) (k : Int) (nn : Nat) : LEV (codeAt [1, 1, 1, 0] BL) (LS5 h k nn) [0, 6, 7] =
  bif (allP h k 600) then
    some (.normal, (LS6 h nn k))
  else
    none := by kernel_rfl
noncomputable def LS7 (h : Int) (nn : Nat) (w : List Int) : KSt := ⟨(frameL 75 [(0, (.int .u64 h)), (6, (.int .i64 ((nn : Nat) : Int))), (7, (.slice (some ⟨0, 0, none⟩) nn nn))]), ⟨1, 1, [(0, 0, .ints .i64 w 3 true)]⟩⟩
noncomputable def LS8 (h : Int) (nn : Nat) (w : List Int) : KSt := ⟨(frameL 75 [(0, (.int .u64 h)), (6, (.int .i64 ((nn : Nat) : Int))), (7, (.slice (some ⟨0, 0, none⟩) nn nn)), (25, (.bool true))]), ⟨1, 1, [(0, 0, .ints .i64 w 3 true)]⟩⟩
noncomputable def LS9 (h : Int) (nn : Nat) (w : List Int) : KSt := ⟨(frameL 75 [(0, (.int .u64 h)), (6, (.int .i64 ((nn : Nat) : Int))), (7, (.slice (some ⟨0, 0, none⟩) nn nn)), (25, (.bool (decide (((nn : Nat) : Int) < 1))))]), ⟨1, 1, [(0, 0, .ints .i64 w 3 true)]⟩⟩
theorem LR5 (h : Int) (nn : Nat) (w : List Int) : LEV (codeAt [1, 1, 1, 1, 0, 0] BL) (LS7 h nn w) [0, 6, 7, 25] =
  bif (((nn : Nat) : Int) != ((nn : Nat) : Int)) then
    some (.normal, (LS8 h nn w))
  else
    some (.normal, (LS9 h nn w)) := by kernel_rfl
theorem LR6 (h : Int) (nn : Nat) (w : List Int) : LEV (codeAt [1, 1, 1, 1, 0, 1, 1] BL) (LS9 h nn w) [0, 6, 7] =
  some (.normal, (LS7 h nn w)) := by kernel_rfl
noncomputable def LS10 (h : Int) (nn : Nat) (w : List Int) : KSt := ⟨(frameL 75 [(0, (.int .u64 h)), (6, (.int .i64 ((nn : Nat) : Int))), (7, (.slice (some ⟨0, 0, none⟩) nn nn)), (8, (.slice (some ⟨1, 0, none⟩) (Int.toNat ((nn : Nat) : Int)) (Int.toNat ((nn : Nat) : Int))))]), ⟨2, 1, [(1, 0, .bools (List.replicate (Int.toNat ((nn : Nat) : Int)) false) 4 true), (0, 0, .ints .i64 w 3 true)]⟩⟩
theorem LR7 (h : Int) (nn : Nat) (w : List Int) : LEV (codeAt [1, 1, 1, 1, 1, 0] BL) (LS7 h nn w) [0, 6, 7, 8] =
  if 0 ≤ ((nn : Nat) : Int) ∧ ((nn : Nat) : Int) ≤ ((nn : Nat) : Int) ∧ ((1 : Int) * ((nn : Nat) : Int)) ≤ 1099511627776 ∧ ((nn : Nat) : Int) ≤ 1099511627776 then
    some (.normal, (LS10 h nn w))
  else
    none := by kernel_rfl
noncomputable def LS11 (h : Int) (nn : Nat) (w : List Int) : KSt := ⟨(frameL 75 [(0, (.int .u64 h)), (6, (.int .i64 ((nn : Nat) : Int))), (7, (.slice (some ⟨0, 0, none⟩) nn nn)), (8, (.slice (some ⟨1, 0, none⟩) nn nn))]), ⟨2, 1, [(1, 0, .bools (List.replicate nn false) 4 true), (0, 0, .ints .i64 w 3 true)]⟩⟩
noncomputable def LS12 (h : Int) (nn : Nat) (w : List Int) : KSt := ⟨(frameL 75 [(0, (.int .u64 h)), (6, (.int .i64 ((nn : Nat) : Int))), (7, (.slice (some ⟨0, 0, none⟩) nn nn)), (8, (.slice (some ⟨1, 0, none⟩) nn nn)), (9, (.int .i64 0))]), ⟨2, 1, [(1, 0, .bools (List.replicate nn false) 4 true), (0, 0, .ints .i64 w 3 true)]⟩⟩
theorem LR8 (h : Int) (nn : Nat) (w : List Int) : LEV (codeAt [1, 1, 1, 1, 1, 1, 0, 0] BL) (LS11 h nn w) [0, 6, 7, 8, 9] =
  some (.normal, (LS12 h nn w)) := by kernel_rfl
noncomputable def LS13 (h : Int) (nn : Nat) (i : Nat) (q : List Bool) (w : List Int) : KSt := ⟨(frameL 75 [(0, (.int .u64 h)), (6, (.int .i64 ((nn : Nat) : Int))), (7, (.slice (some ⟨0, 0, none⟩) nn nn)), (8, (.slice (some ⟨1, 0, none⟩) nn nn)), (9, (.int .i64 ((i : Nat) : Int)))]), ⟨2, 1, [(1, 0, .bools q 4 true), (0, 0, .ints .i64 w 3 true)]⟩⟩
noncomputable def LS14 (h : Int) (nn : Nat) (i : Nat) (q : List Bool) (w : List Int) : KSt := ⟨(frameL 75 [(0, (.int .u64 h)), (6, (.int .i64 ((nn : Nat) : Int))), (7, (.slice (some ⟨0, 0, none⟩) nn nn)), (8, (.slice (some ⟨1, 0, none⟩) nn nn)), (9, (.int .i64 ((i : Nat) : Int))), (31, (.bool (decide (((i : Nat) : Int) < ((nn : Nat) : Int)))))]), ⟨2, 1, [(1, 0, .bools q 4 true), (0, 0, .ints .i64 w 3 true)]⟩⟩
theorem LR9 (h : Int) (nn : Nat) (i : Nat) (q : List Bool) (w : List Int) : LEV (codeAt [1, 1, 1, 1, 1, 1, 0, 1, 0, 0, 0, 0] BL) (LS13 h nn i q w) [0, 6, 7, 8, 9, 31] =
  some (.normal, (LS14 h nn i q w)) := by kernel_rfl
theorem LR10 (h : Int) (nn : Nat) (i : Nat) (q : List Bool) (w : List Int) : LEV (codeAt [1, 1, 1, 1, 1, 1, 0, 1, 0, 0, 0, 1, 0] BL) (LS14 h nn i q w) [0, 6, 7, 8, 9] =
  some (.normal, (LS13 h nn i q w)) := by kernel_rfl
noncomputable def LS15 (h : Int) (nn : Nat) (i : Nat) (q : List Bool) (w : List Int) : KSt := ⟨(frameL 75 [(0, (.int .u64 h)), (6, (.int .i64 ((nn : Nat) : Int))), (7, (.slice (some ⟨0, 0, none⟩) nn nn)), (8, (.slice (some ⟨1, 0, none⟩) nn nn)), (9, (.int .i64 ((i : Nat) : Int))), (55, (.bool true))]), ⟨2, 1, [(1, 0, .bools q 4 true), (0, 0, .ints .i64 w 3 true)]⟩⟩
noncomputable def LS16 (h : Int) (nn : Nat) (i : Nat) (c4 : Bool) (q : List Bool) (w : List Int) : KSt := ⟨(frameL 75 [(0, (.int .u64 h)), (6, (.int .i64 ((nn : Nat) : Int))), (7, (.slice (some ⟨0, 0, none⟩) nn nn)), (8, (.slice (some ⟨1, 0, none⟩) nn nn)), (9, (.int .i64 ((i : Nat) : Int))), (55, (.bool c4))]), ⟨2, 1, [(1, 0, .bools q 4 true), (0, 0, .ints .i64 w 3 true)]⟩⟩
theorem LR11 (h : Int) (nn : Nat) (i : Nat) (q : List Bool) (w : List Int) : LEV (codeAt [1, 1, 1, 1, 1, 1, 0, 1, 0, 0, 1, 0, 0, 0, 0] BL) (LS13 h nn i q w) [0, 6, 7, 8, 9, 55] =
  if 0 ≤ ((i : Nat) : Int) ∧ ((i : Nat) : Int) < ((nn : Nat) : Int) then
    obind (w[(0 + ((Int.toNat ((i : Nat) : Int)) * 1))]?) fun n1 =>
      bif (decide (n1 < 0)) then
        some (.normal, (LS15 h nn i q w))
      else
        if 0 ≤ ((i : Nat) : Int) ∧ ((i : Nat) : Int) < ((nn : Nat) : Int) then
          obind (w[(0 + ((Int.toNat ((i : Nat) : Int)) * 1))]?) fun n2 =>
            bif (decide (n2 ≥ ((nn : Nat) : Int))) then
              some (.normal, (LS15 h nn i q w))
            else
              if 0 ≤ ((i : Nat) : Int) ∧ ((i : Nat) : Int) < ((nn : Nat) : Int) then
                obind (w[(0 + ((Int.toNat ((i : Nat) : Int)) * 1))]?) fun n3 =>
                  if 0 ≤ n3 ∧ n3 < ((nn : Nat) : Int) then
                    obind (q[(0 + ((Int.toNat n3) * 1))]?) fun c4 =>
                      some (.normal, (LS16 h nn i c4 q w))
                  else
                    none
              else
                none
        else
          none
  else
    none := by kernel_rfl
noncomputable def LS17 (h : Int) (nn : Nat) (i : Nat) (q : List Bool) (b : Nat) (w : List Int) : KSt := ⟨(frameL 75 [(0, (.int .u64 h)), (6, (.int .i64 ((nn : Nat) : Int))), (7, (.slice (some ⟨0, 0, none⟩) nn nn)), (8, (.slice (some ⟨1, 0, none⟩) nn nn)), (9, (.int .i64 ((i : Nat) : Int))), (55, (.bool (q.getD (0 + b) false)))]), ⟨2, 1, [(1, 0, .bools q 4 true), (0, 0, .ints .i64 w 3 true)]⟩⟩
noncomputable def LS18 (h : Int) (nn : Nat) (i : Nat) (q : List Bool) (w : List Int) : KSt := ⟨(frameL 75 [(0, (.int .u64 h)), (6, (.int .i64 ((nn : Nat) : Int))), (7, (.slice (some ⟨0, 0, none⟩) nn nn)), (8, (.slice (some ⟨1, 0, none⟩) nn nn)), (9, (.int .i64 ((i : Nat) : Int))), (55, (.bool (q.getD (0 + ((Int.toNat (w.getD (0 + ((Int.toNat ((i : Nat) : Int)) * 1)) 0)) * 1)) false)))]), ⟨2, 1, [(1, 0, .bools q 4 true), (0, 0, .ints .i64 w 3 true)]⟩⟩
theorem LR12 (h : Int) (nn : Nat) (i : Nat) (q : List Bool) (b : Nat) (w : List Int) : LEV (codeAt [1, 1, 1, 1, 1, 1, 0, 1, 0, 0, 1, 0, 0, 0, 1, 1] BL) (LS17 h nn i q b w) [0, 6, 7, 8, 9] =
  some (.normal, (LS13 h nn i q w)) := by kernel_rfl
noncomputable def LS19 (h : Int) (nn : Nat) (i : Nat) (q : List Bool) (n1 : Int) (w : List Int) : KSt := ⟨(frameL 75 [(0, (.int .u64 h)), (6, (.int .i64 ((nn : Nat) : Int))), (7, (.slice (some ⟨0, 0, none⟩) nn nn)), (8, (.slice (some ⟨1, 0, none⟩) nn nn)), (9, (.int .i64 ((i : Nat) : Int)))]), ⟨2, 1, [(1, 0, .bools (List.set q (0 + ((Int.toNat n1) * 1)) true) 4 true), (0, 0, .ints .i64 w 3 true)]⟩⟩
theorem LR13 (h : Int) (nn : Nat) (i : Nat) (q : List Bool) (w : List Int) : LEV (codeAt [1, 1, 1, 1, 1, 1, 0, 1, 0, 0, 1, 0, 0, 1] BL) (LS13 h nn i q w) [0, 6, 7, 8, 9] =
  if 0 ≤ ((i : Nat) : Int) ∧ ((i : Nat) : Int) < ((nn : Nat) : Int) then
    obind (w[(0 + ((Int.toNat ((i : Nat) : Int)) * 1))]?) fun n1 =>
      if 0 ≤ n1 ∧ n1 < ((nn : Nat) : Int) then
        bif (Nat.ble ((0 + ((Int.toNat n1) * 1)) + 1) (List.length q)) then
          some (.normal, (LS19 h nn i q n1 w))
        else
          none
      else
        none
  else
    none := by kernel_rfl
noncomputable def LS20 (h : Int) (nn : Nat) (i : Nat) (q : List Bool) (b : Nat) (w : List Int) : KSt := ⟨(frameL 75 [(0, (.int .u64 h)), (6, (.int .i64 ((nn : Nat) : Int))), (7, (.slice (some ⟨0, 0, none⟩) nn nn)), (8, (.slice (some ⟨1, 0, none⟩) nn nn)), (9, (.int .i64 ((i : Nat) : Int)))]), ⟨2, 1, [(1, 0, .bools (List.set q (0 + b) true) 4 true), (0, 0, .ints .i64 w 3 true)]⟩⟩
noncomputable def LS21 (h : Int) (nn : Nat) (i : Nat) (q : List Bool) (w : List Int) : KSt := ⟨(frameL 75 [(0, (.int .u64 h)), (6, (.int .i64 ((nn : Nat) : Int))), (7, (.slice (some ⟨0, 0, none⟩) nn nn)), (8, (.slice (some ⟨1, 0, none⟩) nn nn)), (9, (.int .i64 ((i : Nat) : Int)))]), ⟨2, 1, [(1, 0, .bools (List.set q (0 + ((Int.toNat (w.getD (0 + ((Int.toNat ((i : Nat) : Int)) * 1)) 0)) * 1)) true) 4 true), (0, 0, .ints .i64 w 3 true)]⟩⟩
noncomputable def LS22 (h : Int) (nn : Nat) (i : Nat) (q : List Bool) (b : Nat) (w : List Int) : KSt := ⟨(frameL 75 [(0, (.int .u64 h)), (6, (.int .i64 ((nn : Nat) : Int))), (7, (.slice (some ⟨0, 0, none⟩) nn nn)), (8, (.slice (some ⟨1, 0, none⟩) nn nn)), (9, (.int .i64 (IntKind.wrap .i64 (((i : Nat) : Int) + 1))))]), ⟨2, 1, [(1, 0, .bools (List.set q (0 + b) true) 4 true), (0, 0, .ints .i64 w 3 true)]⟩⟩
theorem LR14 (h : Int) (nn : Nat) (i : Nat) (q : List Bool) (b : Nat) (w : List Int) : LEV (codeAt [1, 1, 1, 1, 1, 1, 0, 1, 0, 0, 1, 1] BL) (LS20 h nn i q b w) [0, 6, 7, 8, 9] =
  some (.normal, (LS22 h nn i q b w)) := by kernel_rfl
noncomputable def LS23 (h : Int) (nn : Nat) (i : Nat) (q : List Bool) (b : Nat) (w : List Int) : KSt := ⟨(frameL 75 [(0, (.int .u64 h)), (6, (.int .i64 ((nn : Nat) : Int))), (7, (.slice (some ⟨0, 0, none⟩) nn nn)), (8, (.slice (some ⟨1, 0, none⟩) nn nn)), (9, (.int .i64 (((i : Nat) : Int) + 1)))]), ⟨2, 1, [(1, 0, .bools (List.set q (0 + b) true) 4 true), (0, 0, .ints .i64 w 3 true)]⟩⟩
noncomputable def LS24  : KSt := ⟨(frameL 75 [(4, (.bool true))]), ⟨0, 1, []⟩⟩
noncomputable def LS25  : KSt := ⟨(frameL 75 [(4, (.bool false))]), ⟨0, 1, []⟩⟩
theorem LR15 (h : Int) (nn : Nat) (i : Nat) (q : List Bool) (w : List Int) : LEV (codeAt [1, 1, 1, 1, 1, 1, 1, 0] BL) (LS14 h nn i q w) [4] =
  if (0 : Int) ≤ 0 ∧ 0 < ((nn : Nat) : Int) then
    obind (w[0]?) fun n1 =>
      bif (decide ((IntKind.wrap .u64 ((nn : Nat) : Int)) = 0)) then
        none
      else
        bif ((IntKind.wrap .u64 n1) == (Int.tmod (IntKind.wrap .u64 (Int.tdiv h 128)) (IntKind.wrap .u64 ((nn : Nat) : Int)))) then
          some (.normal, LS24)
        else
          some (.normal, LS25)
  else
    none := by kernel_rfl
theorem Lin {x : Int} {k : Int} {nn : Nat} {h : Int} {w : List Int} (hk : (Int.tmod (IntKind.wrap .i64 x) 10) = k) (hg : groupsV k = ((nn : Nat) : Int)) (hn : nnK k = nn) (hw : wayK h k = w) (hp : allP h k 600 = true) (h1 : 1 ≤ nn) (h2 : nn ≤ 512)   {Q : Ex → St → Prop} (hq : Gets Try.prog (KH.low ⟨0, 1, []⟩) (codeAt [1, 1, 1, 1, 1, 1, 0, 1] BL) (KSt.low (LS12 h nn w)) (onN (fun s => Gets Try.prog (KH.low ⟨0, 1, []⟩) (codeAt [1, 1, 1, 1, 1, 1, 1] BL) s (Q)) (Q))) : Gets Try.prog (KH.low ⟨0, 1, []⟩) BL (KSt.low (LS0 h x)) Q := by
  rw [LC]; refine Gets.seq ?_
  refine Lgo (LR1 h x) ?_
  rw [LC1]; refine Gets.seq ?_
  refine Lgo (x := .normal) (s' := (LS3 h k)) ((LR2 h x).trans (by (show some (Ex.normal, (LS2 h x)) = some (Ex.normal, (LS3 h k)); unfold LS2 LS3; rw [(show (Int.tmod (IntKind.wrap .i64 x) 10) = k from hk)]))) ?_
  rw [LC1_1]; refine Gets.seq ?_
  refine Lgo (x := .normal) (s' := (LS5 h k nn)) ((LR3 h k).trans (by (show some (Ex.normal, (LS4 h k)) = some (Ex.normal, (LS5 h k nn)); unfold LS4 LS5; rw [(show (groupsV k) = ((nn : Nat) : Int) from hg)]))) ?_
  rw [LC1_1_1]; refine Gets.seq ?_
  refine Lgo (x := .normal) (s' := (LS7 h nn w)) ((LR4 h k nn).trans (by rw [condT (hp)] <;> (show some (Ex.normal, (LS6 h nn k)) = some (Ex.normal, (LS7 h nn w)); unfold LS6 LS7; rw [(show (nnK k) = nn from hn), (show (wayK h k) = w from hw)]))) ?_
  rw [LC1_1_1_1]; refine Gets.seq ?_
  rw [LC1_1_1_1_0]; refine Gets.seq ?_
  refine Lgo (x := .normal) (s' := (LS9 h nn w)) ((LR5 h nn w).trans (by rw [condF (ibne_f (by omega))])) ?_
  rw [LC1_1_1_1_0_1]; refine Gets.cond false (by kernel_rfl) (LeX (b := (decide (((nn : Nat) : Int) < 1))) (by kernel_rfl) ((show (decide (((nn : Nat) : Int) < 1)) = false from decide_eq_false (by omega)))) ?_; show Gets _ _ (codeAt [1, 1, 1, 1, 0, 1, 1] BL) _ _
  refine Lgo (LR6 h nn w) ?_
  rw [LC1_1_1_1_1]; refine Gets.seq ?_
  refine Lgo (x := .normal) (s' := (LS11 h nn w)) ((LR7 h nn w).trans (by rw [if_pos (by refine ⟨?_, ?_, ?_, ?_⟩ <;> (first | omega | ((try simp (disch := omega) only [wrap_i64_id]) <;> omega)))] <;> (show some (Ex.normal, (LS10 h nn w)) = some (Ex.normal, (LS11 h nn w)); unfold LS10 LS11; rw [(show (Int.toNat ((nn : Nat) : Int)) = nn from rfl)]))) ?_
  rw [LC1_1_1_1_1_1]; refine Gets.seq ?_
  rw [LC1_1_1_1_1_1_0]; refine Gets.seq ?_
  refine Lgo (LR8 h nn w) ?_
  exact hq
theorem Lr1 {w : List Int} {nn : Nat} {q : List Bool} {i : Nat} {b : Nat} {h : Int} (hl : w.length = nn) (hq : q.length = nn) (h2 : nn ≤ 512) (hi : i < nn) (hb : w.getD i 0 = ((b : Nat) : Int)) (hbn : b < nn) (hf : q.getD b false = false)   {Q : Ex → St → Prop} (hq : Q .normal (KSt.low (LS23 h nn i q b w))) : Gets Try.prog (KH.low ⟨0, 1, []⟩) (codeAt [1, 1, 1, 1, 1, 1, 0, 1, 0, 0] BL) (KSt.low (LS13 h nn i q w)) Q := by
  rw [LC1_1_1_1_1_1_0_1_0_0]; refine Gets.seq ?_
  rw [LC1_1_1_1_1_1_0_1_0_0_0]; refine Gets.seq ?_
  refine Lgo (LR9 h nn i q w) ?_
  rw [LC1_1_1_1_1_1_0_1_0_0_0_1]; refine Gets.cond true (by kernel_rfl) (LeX (b := (decide (((i : Nat) : Int) < ((nn : Nat) : Int)))) (by kernel_rfl) ((show (decide (((i : Nat) : Int) < ((nn : Nat) : Int))) = true from decide_eq_true (by (first | (omega) | (simp only [Nat.mul_one, Nat.zero_add, Int.toNat_natCast, hb] at *; omega) | ((try simp (disch := omega) only [wrap_i64_id]) <;> omega)))))) ?_; show Gets _ _ (codeAt [1, 1, 1, 1, 1, 1, 0, 1, 0, 0, 0, 1, 0] BL) _ _
  refine Lgo (LR10 h nn i q w) ?_
  rw [LC1_1_1_1_1_1_0_1_0_0_1]; refine Gets.seq ?_
  rw [LC1_1_1_1_1_1_0_1_0_0_1_0]; refine Gets.block ?_
  rw [LC1_1_1_1_1_1_0_1_0_0_1_0_0]; refine Gets.seq ?_
  rw [LC1_1_1_1_1_1_0_1_0_0_1_0_0_0]; refine Gets.seq ?_
  refine Lgo (x := .normal) (s' := (LS17 h nn i q b w)) ((LR11 h nn i q w).trans (by rw [if_pos (⟨by (first | (omega) | (simp only [Nat.mul_one, Nat.zero_add, Int.toNat_natCast, hb] at *; omega) | ((try simp (disch := omega) only [wrap_i64_id]) <;> omega)), by (first | (omega) | (simp only [Nat.mul_one, Nat.zero_add, Int.toNat_natCast, hb] at *; omega) | ((try simp (disch := omega) only [wrap_i64_id]) <;> omega))⟩), obind_at (k := 0 + ((Int.toNat ((i : Nat) : Int)) * 1)) (by (first | (omega) | (simp only [Nat.mul_one, Nat.zero_add, Int.toNat_natCast, hb] at *; omega) | ((try simp (disch := omega) only [wrap_i64_id]) <;> omega))) (by (first | (omega) | (simp only [Nat.mul_one, Nat.zero_add, Int.toNat_natCast, hb] at *; omega) | ((try simp (disch := omega) only [wrap_i64_id]) <;> omega))), condF (decide_eq_false (by (first | (omega) | (simp only [Nat.mul_one, Nat.zero_add, Int.toNat_natCast, hb] at *; omega) | ((try simp (disch := omega) only [wrap_i64_id]) <;> omega)))), if_pos (⟨by (first | (omega) | (simp only [Nat.mul_one, Nat.zero_add, Int.toNat_natCast, hb] at *; omega) | ((try simp (disch := omega) only [wrap_i64_id]) <;> omega)), by (first | (omega) | (simp only [Nat.mul_one, Nat.zero_add, Int.toNat_natCast, hb] at *; omega) | ((try simp (disch := omega) only [wrap_i64_id]) <;> omega))⟩), obind_at (k := 0 + ((Int.toNat ((i : Nat) : Int)) * 1)) (by (first | (omega) | (simp only [Nat.mul_one, Nat.zero_add, Int.toNat_natCast, hb] at *; omega) | ((try simp (disch := omega) only [wrap_i64_id]) <;> omega))) (by (first | (omega) | (simp only [Nat.mul_one, Nat.zero_add, Int.toNat_natCast, hb] at *; omega) | ((try simp (disch := omega) only [wrap_i64_id]) <;> omega))), condF (decide_eq_false (by (first | (omega) | (simp only [Nat.mul_one, Nat.zero_add, Int.toNat_natCast, hb] at *; omega) | ((try simp (disch := omega) only [wrap_i64_id]) <;> omega)))), if_pos (⟨by (first | (omega) | (simp only [Nat.mul_one, Nat.zero_add, Int.toNat_natCast, hb] at *; omega) | ((try simp (disch := omega) only [wrap_i64_id]) <;> omega)), by (first | (omega) | (simp only [Nat.mul_one, Nat.zero_add, Int.toNat_natCast, hb] at *; omega) | ((try simp (disch := omega) only [wrap_i64_id]) <;> omega))⟩), obind_at (k := 0 + ((Int.toNat ((i : Nat) : Int)) * 1)) (by (first | (omega) | (simp only [Nat.mul_one, Nat.zero_add, Int.toNat_natCast, hb] at *; omega) | ((try simp (disch := omega) only [wrap_i64_id]) <;> omega))) (by (first | (omega) | (simp only [Nat.mul_one, Nat.zero_add, Int.toNat_natCast, hb] at *; omega) | ((try simp (disch := omega) only [wrap_i64_id]) <;> omega))), if_pos (⟨by (first | (omega) | (simp only [Nat.mul_one, Nat.zero_add, Int.toNat_natCast, hb] at *; omega) | ((try simp (disch := omega) only [wrap_i64_id]) <;> omega)), by (first | (omega) | (simp only [Nat.mul_one, Nat.zero_add, Int.toNat_natCast, hb] at *; omega) | ((try simp (disch := omega) only [wrap_i64_id]) <;> omega))⟩), obind_atB (k := 0 + ((Int.toNat (w.getD (0 + ((Int.toNat ((i : Nat) : Int)) * 1)) 0)) * 1)) (by (first | (omega) | (simp only [Nat.mul_one, Nat.zero_add, Int.toNat_natCast, hb] at *; omega) | ((try simp (disch := omega) only [wrap_i64_id]) <;> omega))) (by (first | (omega) | (simp only [Nat.mul_one, Nat.zero_add, Int.toNat_natCast, hb] at *; omega) | ((try simp (disch := omega) only [wrap_i64_id]) <;> omega)))] <;> (show some (Ex.normal, (LS18 h nn i q w)) = some (Ex.normal, (LS17 h nn i q b w)); unfold LS18 LS17; rw [(show ((Int.toNat ((i : Nat) : Int)) * 1) = i from by rw [Nat.mul_one]; rfl), (show (w.getD (0 + i) 0) = ((b : Nat) : Int) from (by rw [Nat.zero_add]; exact hb)), (show ((Int.toNat ((b : Nat) : Int)) * 1) = b from by rw [Nat.mul_one]; rfl)]))) ?_
  rw [LC1_1_1_1_1_1_0_1_0_0_1_0_0_0_1]; refine Gets.cond false (by kernel_rfl) (LeX (b := (q.getD (0 + b) false)) (by kernel_rfl) ((show (q.getD (0 + b) false) = false from (by rw [Nat.zero_add]; exact hf)))) ?_; show Gets _ _ (codeAt [1, 1, 1, 1, 1, 1, 0, 1, 0, 0, 1, 0, 0, 0, 1, 1] BL) _ _
  refine Lgo (LR12 h nn i q b w) ?_
  refine Lgo (x := .normal) (s' := (LS20 h nn i q b w)) ((LR13 h nn i q w).trans (by rw [if_pos (⟨by (first | (omega) | (simp only [Nat.mul_one, Nat.zero_add, Int.toNat_natCast, hb] at *; omega) | ((try simp (disch := omega) only [wrap_i64_id]) <;> omega)), by (first | (omega) | (simp only [Nat.mul_one, Nat.zero_add, Int.toNat_natCast, hb] at *; omega) | ((try simp (disch := omega) only [wrap_i64_id]) <;> omega))⟩), obind_at (k := 0 + ((Int.toNat ((i : Nat) : Int)) * 1)) (by (first | (omega) | (simp only [Nat.mul_one, Nat.zero_add, Int.toNat_natCast, hb] at *; omega) | ((try simp (disch := omega) only [wrap_i64_id]) <;> omega))) (by (first | (omega) | (simp only [Nat.mul_one, Nat.zero_add, Int.toNat_natCast, hb] at *; omega) | ((try simp (disch := omega) only [wrap_i64_id]) <;> omega))), if_pos (⟨by (first | (omega) | (simp only [Nat.mul_one, Nat.zero_add, Int.toNat_natCast, hb] at *; omega) | ((try simp (disch := omega) only [wrap_i64_id]) <;> omega)), by (first | (omega) | (simp only [Nat.mul_one, Nat.zero_add, Int.toNat_natCast, hb] at *; omega) | ((try simp (disch := omega) only [wrap_i64_id]) <;> omega))⟩), condT (ble_t (by (first | (omega) | (simp only [Nat.mul_one, Nat.zero_add, Int.toNat_natCast, hb] at *; omega) | ((try simp (disch := omega) only [wrap_i64_id]) <;> omega))))] <;> (show some (Ex.normal, (LS21 h nn i q w)) = some (Ex.normal, (LS20 h nn i q b w)); unfold LS21 LS20; rw [(show ((Int.toNat ((i : Nat) : Int)) * 1) = i from by rw [Nat.mul_one]; rfl), (show (w.getD (0 + i) 0) = ((b : Nat) : Int) from (by rw [Nat.zero_add]; exact hb)), (show ((Int.toNat ((b : Nat) : Int)) * 1) = b from by rw [Nat.mul_one]; rfl)]))) ?_
  refine Lgo (x := .normal) (s' := (LS23 h nn i q b w)) ((LR14 h nn i q b w).trans (by (show some (Ex.normal, (LS22 h nn i q b w)) = some (Ex.normal, (LS23 h nn i q b w)); unfold LS22 LS23; rw [(show (IntKind.wrap .i64 (((i : Nat) : Int) + 1)) = (((i : Nat) : Int) + 1) from wrap_i64_id (by omega) (by omega))]))) ?_
  exact hq
theorem Lrx {nn : Nat} {i : Nat} {h : Int} {q : List Bool} {w : List Int} (hi : nn ≤ i)   {Q : Ex → St → Prop} (hq : Q (.exit 0) (KSt.low (LS14 h nn i q w))) : Gets Try.prog (KH.low ⟨0, 1, []⟩) (codeAt [1, 1, 1, 1, 1, 1, 0, 1, 0, 0] BL) (KSt.low (LS13 h nn i q w)) Q := by
  rw [LC1_1_1_1_1_1_0_1_0_0]; refine Gets.seq ?_
  rw [LC1_1_1_1_1_1_0_1_0_0_0]; refine Gets.seq ?_
  refine Lgo (LR9 h nn i q w) ?_
  rw [LC1_1_1_1_1_1_0_1_0_0_0_1]; refine Gets.cond false (by kernel_rfl) (LeX (b := (decide (((i : Nat) : Int) < ((nn : Nat) : Int)))) (by kernel_rfl) ((show (decide (((i : Nat) : Int) < ((nn : Nat) : Int))) = false from decide_eq_false (by omega)))) ?_; show Gets _ _ (codeAt [1, 1, 1, 1, 1, 1, 0, 1, 0, 0, 0, 1, 1] BL) _ _
  rw [LC1_1_1_1_1_1_0_1_0_0_0_1_1]; refine Gets.ev fitL.mix fitL.cfg (fitL.sound lw_sound 40 0) 40 rfl (s' := KSt.low (LS14 h nn i q w)) (x := (.exit 0)) rfl ?_
  exact hq
theorem Lend {h : Int} {nn : Nat} {w : List Int} {i : Nat} {q : List Bool} (h0 : 0 ≤ h) (hh : h < 18446744073709551616) (h1 : 1 ≤ nn) (h2 : nn ≤ 512) (hl : w.length = nn) (hb : w.getD 0 0 = h / 128 % ((nn : Nat) : Int))   {Q : Ex → St → Prop} (hq : Q .ret (KSt.low LS24)) : Gets Try.prog (KH.low ⟨0, 1, []⟩) (codeAt [1, 1, 1, 1, 1, 1, 1] BL) (KSt.low (LS14 h nn i q w)) Q := by
  rw [LC1_1_1_1_1_1_1]; refine Gets.seq ?_
  refine Lgo (x := .normal) (s' := LS24) ((LR15 h nn i q w).trans (by rw [if_pos (⟨by (first | (omega) | (rw [wrap_u64_id (by omega) (by omega)]; omega) | (rw [hb]; exact end_eq h0 hh h1 h2) | (rw [Nat.zero_mul, hb]; exact end_eq h0 hh h1 h2)), by (first | (omega) | (rw [wrap_u64_id (by omega) (by omega)]; omega) | (rw [hb]; exact end_eq h0 hh h1 h2) | (rw [Nat.zero_mul, hb]; exact end_eq h0 hh h1 h2))⟩), obind_at (k := 0) (by (first | (omega) | (rw [wrap_u64_id (by omega) (by omega)]; omega) | (rw [hb]; exact end_eq h0 hh h1 h2) | (rw [Nat.zero_mul, hb]; exact end_eq h0 hh h1 h2))) (by (first | (omega) | (rw [wrap_u64_id (by omega) (by omega)]; omega) | (rw [hb]; exact end_eq h0 hh h1 h2) | (rw [Nat.zero_mul, hb]; exact end_eq h0 hh h1 h2))), condF (decide_eq_false (by (first | (omega) | (rw [wrap_u64_id (by omega) (by omega)]; omega) | (rw [hb]; exact end_eq h0 hh h1 h2) | (rw [Nat.zero_mul, hb]; exact end_eq h0 hh h1 h2)))), condT (ibeq_t (by (first | (omega) | (rw [wrap_u64_id (by omega) (by omega)]; omega) | (rw [hb]; exact end_eq h0 hh h1 h2) | (rw [Nat.zero_mul, hb]; exact end_eq h0 hh h1 h2))))] <;> rfl)) ?_
  rw [LC1_1_1_1_1_1_1_1]; refine Gets.ev fitL.mix fitL.cfg (fitL.sound lw_sound 40 0) 40 rfl (s' := KSt.low LS24) (x := .ret) rfl ?_
  exact hq

end Go.Proofs.Ytgegcbeeljbiaaa
