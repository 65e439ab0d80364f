/- The shield as a whole. -/
import Derived.Test.YtgnndimefmcfoaaDoorGdM
import Derived.WalkKit
import Derived.ProofKit
import Derived.OpenShut
import Derived.ChangeOld
import Derived.Below
import Derived.SizedLaws
namespace Go.Proofs.YtgnndimefmcfoaaDoor
open Go.Eng
open Go.ChangeShapes Go.WideShapes Go.ChangeAt Go.RowKit
set_option linter.unusedVariables false
set_option linter.unusedSimpArgs false
set_option maxRecDepth 100000
noncomputable def cfgJ : Cfg := ⟨[]⟩
noncomputable def fsJ : List FuncId := [21, 22, 38, 39, 44]
theorem fitJ : Fit Tryd.prog cfgJ fsJ := ⟨by kernel_rfl, Cfg.ok_of (by kernel_rfl), by kernel_rfl⟩
def tagB (w : Int) : Int :=
  (Int.fdiv w (2 ^ 3))
theorem tagB_tree (w : Int) (e : TypeId) : runK Tryd.prog cfgJ fsJ noT 70 40 22 [.int .u64 w] (varH .i64 [1, 64, 1, 64] e) valK =
  some (.int .u64 (Int.fdiv w (2 ^ 3))) := by kernel_rfl
theorem tagB_told (w : Int) (e : TypeId) : Tells Tryd.prog 22 [.int .u64 w] (varH .i64 [1, 64, 1, 64] e).low (.int .u64 (tagB w)) :=
  Tells.of_tree (h := varH .i64 [1, 64, 1, 64] e) fitJ SoundC.no AgreeT.no (by kernel_rfl) rfl (show Ro (varH .i64 [1, 64, 1, 64] e).low from Ro.varH) (n := 70) (d := 40) (by rw [tagB_tree]; (try simp only [cond_bool, cond_int]); rfl)
def tagF (w : Int) : Bool :=
  (bif ((Int.fdiv w (2 ^ 3)) != 0) then
    (bif (decide ((IntKind.wrap .i64 (bits .and .u64 w 7)) > 0)) then
      (bif (decide ((IntKind.wrap .i64 (bits .and .u64 w 7)) ≤ 4)) then
        (bif ((IntKind.wrap .i64 (bits .and .u64 w 7)) == 1) then
          true
        else
          ((IntKind.wrap .i64 (bits .and .u64 w 7)) == 2))
      else
        false)
    else
      false)
  else
    false)
theorem tagF_tree (w : Int) (e : TypeId) : runK Tryd.prog cfgJ fsJ noT 70 40 21 [.int .u64 w] (varH .i64 [1, 64, 1, 64] e) valK =
  bif ((Int.fdiv w (2 ^ 3)) != 0) then
    bif (decide ((IntKind.wrap .i64 (bits .and .u64 w 7)) > 0)) then
      bif (decide ((IntKind.wrap .i64 (bits .and .u64 w 7)) ≤ 4)) then
        bif ((IntKind.wrap .i64 (bits .and .u64 w 7)) == 1) then
          some (.bool true)
        else
          some (.bool ((IntKind.wrap .i64 (bits .and .u64 w 7)) == 2))
      else
        some (.bool false)
    else
      some (.bool false)
  else
    some (.bool false) := by kernel_rfl
theorem tagF_told (w : Int) (e : TypeId) : Tells Tryd.prog 21 [.int .u64 w] (varH .i64 [1, 64, 1, 64] e).low (.bool (tagF w)) :=
  Tells.of_tree (h := varH .i64 [1, 64, 1, 64] e) fitJ SoundC.no AgreeT.no (by kernel_rfl) rfl (show Ro (varH .i64 [1, 64, 1, 64] e).low from Ro.varH) (n := 70) (d := 40) (by rw [tagF_tree]; (try simp only [cond_bool, cond_int]); rfl)
noncomputable def rc_tag_Block : RC := ⟨[.int .u64], fun avs => match avs with | [.int w] => true | _ => false,
  fun N avs => match avs with | [.int w] => ((.int .u64 (tagB w)), [], []) | _ => (.bool false, [], [])⟩
theorem rc_tag_Block_does : RcDoes Tryd.prog varL 22 rc_tag_Block := by
  intro vb avs args blks hv hs hp
  obtain ⟨e0, rfl⟩ := var1 hv
  cases hs with | int w hs =>
  cases hs
  exact DoesC.of_tells (tagB_told w e0) rfl
noncomputable def rc_tag_Fresh : RC := ⟨[.int .u64], fun avs => match avs with | [.int w] => true | _ => false,
  fun N avs => match avs with | [.int w] => ((.bool (tagF w)), [], []) | _ => (.bool false, [], [])⟩
theorem rc_tag_Fresh_does : RcDoes Tryd.prog varL 21 rc_tag_Fresh := by
  intro vb avs args blks hv hs hp
  obtain ⟨e0, rfl⟩ := var1 hv
  cases hs with | int w hs =>
  cases hs
  exact DoesC.of_tells (tagF_told w e0) rfl
noncomputable def tgT : RTab := fun f => match f with
  | 22 => some rc_tag_Block
  | 21 => some rc_tag_Fresh
  | _ => none
def tgDom : List FuncId := [22, 21]
theorem tg_does : ∀ f rc, f ∈ tgDom → tgT f = some rc → RcDoes Tryd.prog varL f rc := by
  intro f rc hf hT
  simp only [tgDom, List.mem_cons, List.not_mem_nil, or_false] at hf
  rcases hf with rfl | rfl
  · cases hT; exact rc_tag_Block_does
  · cases hT; exact rc_tag_Fresh_does
theorem tg_fn : ∀ f ∈ tgDom, FnOk Tryd.prog f := fun f hf => fitJ.fnOk f (by
    have h0 : (tgDom.all fun f => fsJ.contains f) = true := by kernel_rfl
    simpa using List.all_eq_true.1 h0 f hf)
theorem tg_sound : SoundC Tryd.prog (conC tgDom (rcE varL tgT)) := rc_sound oneVar tg_fn tg_does
noncomputable def cfgS : Cfg := ⟨[]⟩
noncomputable def fsS : List FuncId := [18, 19, 20, 21, 22, 26, 27, 35, 36, 37, 38, 39, 42, 43, 44]
theorem fitS : Fit Tryd.prog cfgS fsS := ⟨by kernel_rfl, Cfg.ok_of (by kernel_rfl), by kernel_rfl⟩
theorem SA_t (e : TypeId) (dk : Int) (th : Int) (ts : Int) (kp : Int) (sd : Int) (b : Int) (c : Int) (w : Int) (st : Int) : runK Tryd.prog cfgS fsS (conTk tgDom (rcK varL tgT)) 30 40 36 [(.pointer (some ⟨1, 0, none⟩))] (mkH [.cells [(.int .i64 1), (.int .i64 64), (.int .i64 1), (.int .i64 64)] e false, .cells [(.int .u64 dk), (.int .i64 th), (.int .i64 ts), (.int .i64 kp), (.int .u64 sd), (.int .u64 b), (.int .i64 c), (.int .u64 w), (.int .i64 st)] 77 true]) bothK =
  bif (st == 1) then
    bif (decide (th < 0)) then
      some ((.tuple #[(.agg #[(.int .i64 2), (.int .u64 dk), (.int .i64 (-1)), (.int .u64 0), (.int .u64 (tagB w))]), (.bool true)]), ⟨4, 5, [(3, 3, .cells [(.int .i64 2), (.int .u64 dk), (.int .i64 (-1)), (.int .u64 0), (.int .u64 (tagB w))] 37 true), (2, 4, .cells [(.int .i64 2), (.int .u64 dk), (.int .i64 (-1)), (.int .u64 0), (.int .u64 (tagB w))] 37 true), (0, 0, .cells [(.int .i64 1), (.int .i64 64), (.int .i64 1), (.int .i64 64)] e false), (1, 0, .cells [(.int .u64 dk), (.int .i64 th), (.int .i64 ts), (.int .i64 kp), (.int .u64 sd), (.int .u64 b), (.int .i64 c), (.int .u64 w), (.int .i64 st)] 77 true)]⟩)
    else
      bif (decide (th ≥ 64)) then
        some ((.tuple #[(.agg #[(.int .i64 2), (.int .u64 dk), (.int .i64 (-1)), (.int .u64 0), (.int .u64 (tagB w))]), (.bool true)]), ⟨4, 5, [(3, 3, .cells [(.int .i64 2), (.int .u64 dk), (.int .i64 (-1)), (.int .u64 0), (.int .u64 (tagB w))] 37 true), (2, 4, .cells [(.int .i64 2), (.int .u64 dk), (.int .i64 (-1)), (.int .u64 0), (.int .u64 (tagB w))] 37 true), (0, 0, .cells [(.int .i64 1), (.int .i64 64), (.int .i64 1), (.int .i64 64)] e false), (1, 0, .cells [(.int .u64 dk), (.int .i64 th), (.int .i64 ts), (.int .i64 kp), (.int .u64 sd), (.int .u64 b), (.int .i64 c), (.int .u64 w), (.int .i64 st)] 77 true)]⟩)
      else
        some ((.tuple #[(.agg #[(.int .i64 2), (.int .u64 dk), (.int .i64 (IntKind.wrap .i64 ((IntKind.wrap .i64 (2 + (IntKind.wrap .i64 (2 * th)))) + 1))), (.int .u64 0), (.int .u64 (tagB w))]), (.bool true)]), ⟨4, 5, [(3, 3, .cells [(.int .i64 2), (.int .u64 dk), (.int .i64 (IntKind.wrap .i64 ((IntKind.wrap .i64 (2 + (IntKind.wrap .i64 (2 * th)))) + 1))), (.int .u64 0), (.int .u64 (tagB w))] 37 true), (2, 4, .cells [(.int .i64 2), (.int .u64 dk), (.int .i64 (IntKind.wrap .i64 ((IntKind.wrap .i64 (2 + (IntKind.wrap .i64 (2 * th)))) + 1))), (.int .u64 0), (.int .u64 (tagB w))] 37 true), (0, 0, .cells [(.int .i64 1), (.int .i64 64), (.int .i64 1), (.int .i64 64)] e false), (1, 0, .cells [(.int .u64 dk), (.int .i64 th), (.int .i64 ts), (.int .i64 kp), (.int .u64 sd), (.int .u64 b), (.int .i64 c), (.int .u64 w), (.int .i64 st)] 77 true)]⟩)
  else
    bif (st == 2) then
      some ((.tuple #[(.agg #[(.int .i64 1), (.int .u64 b), (.int .i64 c), (.int .u64 0), (.int .u64 0)]), (.bool true)]), ⟨4, 5, [(3, 3, .cells [(.int .i64 1), (.int .u64 b), (.int .i64 c), (.int .u64 0), (.int .u64 0)] 37 true), (2, 4, .cells [(.int .i64 1), (.int .u64 b), (.int .i64 c), (.int .u64 0), (.int .u64 0)] 37 true), (0, 0, .cells [(.int .i64 1), (.int .i64 64), (.int .i64 1), (.int .i64 64)] e false), (1, 0, .cells [(.int .u64 dk), (.int .i64 th), (.int .i64 ts), (.int .i64 kp), (.int .u64 sd), (.int .u64 b), (.int .i64 c), (.int .u64 w), (.int .i64 st)] 77 true)]⟩)
    else
      some ((.tuple #[(.agg #[(.int .i64 0), (.int .u64 0), (.int .i64 0), (.int .u64 0), (.int .u64 0)]), (.bool false)]), ⟨3, 3, [(2, 2, .cells [(.int .i64 0), (.int .u64 0), (.int .i64 0), (.int .u64 0), (.int .u64 0)] 37 true), (0, 0, .cells [(.int .i64 1), (.int .i64 64), (.int .i64 1), (.int .i64 64)] e false), (1, 0, .cells [(.int .u64 dk), (.int .i64 th), (.int .i64 ts), (.int .i64 kp), (.int .u64 sd), (.int .u64 b), (.int .i64 c), (.int .u64 w), (.int .i64 st)] 77 true)]⟩) := by kernel_rfl
theorem SA1 {e : TypeId} {dk : Int} {th : Int} {ts : Int} {kp : Int} {sd : Int} {b : Int} {c : Int} {w : Int} {st : Int} (hs : st = 1) (h0 : 0 ≤ th) (h1 : th ≤ 63)   : DoesC Tryd.prog 36 [(.pointer (some ⟨1, 0, none⟩))] (mkH [.cells [(.int .i64 1), (.int .i64 64), (.int .i64 1), (.int .i64 64)] e false, .cells [(.int .u64 dk), (.int .i64 th), (.int .i64 ts), (.int .i64 kp), (.int .u64 sd), (.int .u64 b), (.int .i64 c), (.int .u64 w), (.int .i64 st)] 77 true]).low (.tuple #[(.agg #[(.int .i64 2), (.int .u64 dk), (.int .i64 (IntKind.wrap .i64 ((IntKind.wrap .i64 (2 + (IntKind.wrap .i64 (2 * th)))) + 1))), (.int .u64 0), (.int .u64 (tagB w))]), (.bool true)]) (KH.low ⟨4, 5, [(3, 3, .cells [(.int .i64 2), (.int .u64 dk), (.int .i64 (IntKind.wrap .i64 ((IntKind.wrap .i64 (2 + (IntKind.wrap .i64 (2 * th)))) + 1))), (.int .u64 0), (.int .u64 (tagB w))] 37 true), (2, 4, .cells [(.int .i64 2), (.int .u64 dk), (.int .i64 (IntKind.wrap .i64 ((IntKind.wrap .i64 (2 + (IntKind.wrap .i64 (2 * th)))) + 1))), (.int .u64 0), (.int .u64 (tagB w))] 37 true), (0, 0, .cells [(.int .i64 1), (.int .i64 64), (.int .i64 1), (.int .i64 64)] e false), (1, 0, .cells [(.int .u64 dk), (.int .i64 th), (.int .i64 ts), (.int .i64 kp), (.int .u64 sd), (.int .u64 b), (.int .i64 c), (.int .u64 w), (.int .i64 st)] 77 true)]⟩) :=
  tree_does fitS tg_sound (rc_agree _ _ _) (by kernel_rfl) ((SA_t e dk th ts kp sd b c w st).trans (by rw [condT (ibeq_t (by (first | omega | ((try simp (disch := omega) only [wrap_i64_id]) <;> omega)))), condF (decide_eq_false (by (first | omega | ((try simp (disch := omega) only [wrap_i64_id]) <;> omega)))), condF (decide_eq_false (by (first | omega | ((try simp (disch := omega) only [wrap_i64_id]) <;> omega))))]))
theorem SA2 {e : TypeId} {dk : Int} {th : Int} {ts : Int} {kp : Int} {sd : Int} {b : Int} {c : Int} {w : Int} {st : Int} (hs : st = 2)   : DoesC Tryd.prog 36 [(.pointer (some ⟨1, 0, none⟩))] (mkH [.cells [(.int .i64 1), (.int .i64 64), (.int .i64 1), (.int .i64 64)] e false, .cells [(.int .u64 dk), (.int .i64 th), (.int .i64 ts), (.int .i64 kp), (.int .u64 sd), (.int .u64 b), (.int .i64 c), (.int .u64 w), (.int .i64 st)] 77 true]).low (.tuple #[(.agg #[(.int .i64 1), (.int .u64 b), (.int .i64 c), (.int .u64 0), (.int .u64 0)]), (.bool true)]) (KH.low ⟨4, 5, [(3, 3, .cells [(.int .i64 1), (.int .u64 b), (.int .i64 c), (.int .u64 0), (.int .u64 0)] 37 true), (2, 4, .cells [(.int .i64 1), (.int .u64 b), (.int .i64 c), (.int .u64 0), (.int .u64 0)] 37 true), (0, 0, .cells [(.int .i64 1), (.int .i64 64), (.int .i64 1), (.int .i64 64)] e false), (1, 0, .cells [(.int .u64 dk), (.int .i64 th), (.int .i64 ts), (.int .i64 kp), (.int .u64 sd), (.int .u64 b), (.int .i64 c), (.int .u64 w), (.int .i64 st)] 77 true)]⟩) :=
  tree_does fitS tg_sound (rc_agree _ _ _) (by kernel_rfl) ((SA_t e dk th ts kp sd b c w st).trans (by rw [condF (ibeq_f (by (first | omega | ((try simp (disch := omega) only [wrap_i64_id]) <;> omega)))), condT (ibeq_t (by (first | omega | ((try simp (disch := omega) only [wrap_i64_id]) <;> omega))))]))
theorem SAz {e : TypeId} {dk : Int} {th : Int} {ts : Int} {kp : Int} {sd : Int} {b : Int} {c : Int} {w : Int} {st : Int} (ha : ¬ st = 1) (hb : ¬ st = 2)   : DoesC Tryd.prog 36 [(.pointer (some ⟨1, 0, none⟩))] (mkH [.cells [(.int .i64 1), (.int .i64 64), (.int .i64 1), (.int .i64 64)] e false, .cells [(.int .u64 dk), (.int .i64 th), (.int .i64 ts), (.int .i64 kp), (.int .u64 sd), (.int .u64 b), (.int .i64 c), (.int .u64 w), (.int .i64 st)] 77 true]).low (.tuple #[(.agg #[(.int .i64 0), (.int .u64 0), (.int .i64 0), (.int .u64 0), (.int .u64 0)]), (.bool false)]) (KH.low ⟨3, 3, [(2, 2, .cells [(.int .i64 0), (.int .u64 0), (.int .i64 0), (.int .u64 0), (.int .u64 0)] 37 true), (0, 0, .cells [(.int .i64 1), (.int .i64 64), (.int .i64 1), (.int .i64 64)] e false), (1, 0, .cells [(.int .u64 dk), (.int .i64 th), (.int .i64 ts), (.int .i64 kp), (.int .u64 sd), (.int .u64 b), (.int .i64 c), (.int .u64 w), (.int .i64 st)] 77 true)]⟩) :=
  tree_does fitS tg_sound (rc_agree _ _ _) (by kernel_rfl) ((SA_t e dk th ts kp sd b c w st).trans (by rw [condF (ibeq_f (by (first | omega | ((try simp (disch := omega) only [wrap_i64_id]) <;> omega)))), condF (ibeq_f (by (first | omega | ((try simp (disch := omega) only [wrap_i64_id]) <;> omega))))]))
theorem ST_t (g : Int) (e : TypeId) (dk : Int) (th : Int) (ts : Int) (kp : Int) (sd : Int) (b : Int) (c : Int) (w : Int) (st : Int) : runK Tryd.prog cfgS fsS (conTk tgDom (rcK varL tgT)) 30 40 37 [(.pointer (some ⟨1, 0, none⟩)), (.int .u64 g)] (mkH [.cells [(.int .i64 1), (.int .i64 64), (.int .i64 1), (.int .i64 64)] e false, .cells [(.int .u64 dk), (.int .i64 th), (.int .i64 ts), (.int .i64 kp), (.int .u64 sd), (.int .u64 b), (.int .i64 c), (.int .u64 w), (.int .i64 st)] 77 true]) bothK =
  bif (st == 1) then
    some (undef, ⟨2, 2, [(0, 0, .cells [(.int .i64 1), (.int .i64 64), (.int .i64 1), (.int .i64 64)] e false), (1, 1, .cells [(.int .u64 dk), (.int .i64 th), (.int .i64 ts), (.int .i64 kp), (.int .u64 sd), (.int .u64 b), (.int .i64 c), (.int .u64 w), (.int .i64 2)] 77 true)]⟩)
  else
    bif (st == 2) then
      bif (!((tagB g) == (tagB w))) then
        bif (tagF g) then
          some (undef, ⟨2, 4, [(0, 0, .cells [(.int .i64 1), (.int .i64 64), (.int .i64 1), (.int .i64 64)] e false), (1, 3, .cells [(.int .u64 dk), (.int .i64 th), (.int .i64 ts), (.int .i64 kp), (.int .u64 sd), (.int .u64 b), (.int .i64 c), (.int .u64 g), (.int .i64 1)] 77 true)]⟩)
        else
          some (undef, ⟨2, 3, [(0, 0, .cells [(.int .i64 1), (.int .i64 64), (.int .i64 1), (.int .i64 64)] e false), (1, 2, .cells [(.int .u64 dk), (.int .i64 th), (.int .i64 ts), (.int .i64 kp), (.int .u64 sd), (.int .u64 b), (.int .i64 c), (.int .u64 g), (.int .i64 3)] 77 true)]⟩)
      else
        some (undef, ⟨2, 3, [(0, 0, .cells [(.int .i64 1), (.int .i64 64), (.int .i64 1), (.int .i64 64)] e false), (1, 2, .cells [(.int .u64 dk), (.int .i64 th), (.int .i64 ts), (.int .i64 kp), (.int .u64 sd), (.int .u64 b), (.int .i64 c), (.int .u64 g), (.int .i64 3)] 77 true)]⟩)
    else
      some (undef, ⟨2, 1, [(0, 0, .cells [(.int .i64 1), (.int .i64 64), (.int .i64 1), (.int .i64 64)] e false), (1, 0, .cells [(.int .u64 dk), (.int .i64 th), (.int .i64 ts), (.int .i64 kp), (.int .u64 sd), (.int .u64 b), (.int .i64 c), (.int .u64 w), (.int .i64 st)] 77 true)]⟩) := by kernel_rfl
theorem ST1 {g : Int} {e : TypeId} {dk : Int} {th : Int} {ts : Int} {kp : Int} {sd : Int} {b : Int} {c : Int} {w : Int} {st : Int} (hs : st = 1)   : DoesC Tryd.prog 37 [(.pointer (some ⟨1, 0, none⟩)), (.int .u64 g)] (mkH [.cells [(.int .i64 1), (.int .i64 64), (.int .i64 1), (.int .i64 64)] e false, .cells [(.int .u64 dk), (.int .i64 th), (.int .i64 ts), (.int .i64 kp), (.int .u64 sd), (.int .u64 b), (.int .i64 c), (.int .u64 w), (.int .i64 st)] 77 true]).low undef (KH.low ⟨2, 2, [(0, 0, .cells [(.int .i64 1), (.int .i64 64), (.int .i64 1), (.int .i64 64)] e false), (1, 1, .cells [(.int .u64 dk), (.int .i64 th), (.int .i64 ts), (.int .i64 kp), (.int .u64 sd), (.int .u64 b), (.int .i64 c), (.int .u64 w), (.int .i64 2)] 77 true)]⟩) :=
  tree_does fitS tg_sound (rc_agree _ _ _) (by kernel_rfl) ((ST_t g e dk th ts kp sd b c w st).trans (by rw [condT (ibeq_t (by (first | omega | ((try simp (disch := omega) only [wrap_i64_id]) <;> omega))))]))
theorem ST2 {g : Int} {e : TypeId} {dk : Int} {th : Int} {ts : Int} {kp : Int} {sd : Int} {b : Int} {c : Int} {w : Int} {st : Int} (hs : st = 2) (hB : tagB g = tagB w)   : DoesC Tryd.prog 37 [(.pointer (some ⟨1, 0, none⟩)), (.int .u64 g)] (mkH [.cells [(.int .i64 1), (.int .i64 64), (.int .i64 1), (.int .i64 64)] e false, .cells [(.int .u64 dk), (.int .i64 th), (.int .i64 ts), (.int .i64 kp), (.int .u64 sd), (.int .u64 b), (.int .i64 c), (.int .u64 w), (.int .i64 st)] 77 true]).low undef (KH.low ⟨2, 3, [(0, 0, .cells [(.int .i64 1), (.int .i64 64), (.int .i64 1), (.int .i64 64)] e false), (1, 2, .cells [(.int .u64 dk), (.int .i64 th), (.int .i64 ts), (.int .i64 kp), (.int .u64 sd), (.int .u64 b), (.int .i64 c), (.int .u64 g), (.int .i64 3)] 77 true)]⟩) :=
  tree_does fitS tg_sound (rc_agree _ _ _) (by kernel_rfl) ((ST_t g e dk th ts kp sd b c w st).trans (by rw [condF (ibeq_f (by (first | omega | ((try simp (disch := omega) only [wrap_i64_id]) <;> omega)))), condT (ibeq_t (by (first | omega | ((try simp (disch := omega) only [wrap_i64_id]) <;> omega)))), condF (not_f (ibeq_t (by (first | omega | ((try simp (disch := omega) only [wrap_i64_id]) <;> omega)))))]))
theorem ST3 {g : Int} {e : TypeId} {dk : Int} {th : Int} {ts : Int} {kp : Int} {sd : Int} {b : Int} {c : Int} {w : Int} {st : Int} (hs : st = 2) (hB : ¬ tagB g = tagB w) (hF : tagF g = true)   : DoesC Tryd.prog 37 [(.pointer (some ⟨1, 0, none⟩)), (.int .u64 g)] (mkH [.cells [(.int .i64 1), (.int .i64 64), (.int .i64 1), (.int .i64 64)] e false, .cells [(.int .u64 dk), (.int .i64 th), (.int .i64 ts), (.int .i64 kp), (.int .u64 sd), (.int .u64 b), (.int .i64 c), (.int .u64 w), (.int .i64 st)] 77 true]).low undef (KH.low ⟨2, 4, [(0, 0, .cells [(.int .i64 1), (.int .i64 64), (.int .i64 1), (.int .i64 64)] e false), (1, 3, .cells [(.int .u64 dk), (.int .i64 th), (.int .i64 ts), (.int .i64 kp), (.int .u64 sd), (.int .u64 b), (.int .i64 c), (.int .u64 g), (.int .i64 1)] 77 true)]⟩) :=
  tree_does fitS tg_sound (rc_agree _ _ _) (by kernel_rfl) ((ST_t g e dk th ts kp sd b c w st).trans (by rw [condF (ibeq_f (by (first | omega | ((try simp (disch := omega) only [wrap_i64_id]) <;> omega)))), condT (ibeq_t (by (first | omega | ((try simp (disch := omega) only [wrap_i64_id]) <;> omega)))), condT (not_t (ibeq_f (by (first | omega | ((try simp (disch := omega) only [wrap_i64_id]) <;> omega))))), condT (hF)]))
theorem ST4 {g : Int} {e : TypeId} {dk : Int} {th : Int} {ts : Int} {kp : Int} {sd : Int} {b : Int} {c : Int} {w : Int} {st : Int} (hs : st = 2) (hB : ¬ tagB g = tagB w) (hF : tagF g = false)   : DoesC Tryd.prog 37 [(.pointer (some ⟨1, 0, none⟩)), (.int .u64 g)] (mkH [.cells [(.int .i64 1), (.int .i64 64), (.int .i64 1), (.int .i64 64)] e false, .cells [(.int .u64 dk), (.int .i64 th), (.int .i64 ts), (.int .i64 kp), (.int .u64 sd), (.int .u64 b), (.int .i64 c), (.int .u64 w), (.int .i64 st)] 77 true]).low undef (KH.low ⟨2, 3, [(0, 0, .cells [(.int .i64 1), (.int .i64 64), (.int .i64 1), (.int .i64 64)] e false), (1, 2, .cells [(.int .u64 dk), (.int .i64 th), (.int .i64 ts), (.int .i64 kp), (.int .u64 sd), (.int .u64 b), (.int .i64 c), (.int .u64 g), (.int .i64 3)] 77 true)]⟩) :=
  tree_does fitS tg_sound (rc_agree _ _ _) (by kernel_rfl) ((ST_t g e dk th ts kp sd b c w st).trans (by rw [condF (ibeq_f (by (first | omega | ((try simp (disch := omega) only [wrap_i64_id]) <;> omega)))), condT (ibeq_t (by (first | omega | ((try simp (disch := omega) only [wrap_i64_id]) <;> omega)))), condT (not_t (ibeq_f (by (first | omega | ((try simp (disch := omega) only [wrap_i64_id]) <;> omega))))), condF (hF)]))
theorem STz {g : Int} {e : TypeId} {dk : Int} {th : Int} {ts : Int} {kp : Int} {sd : Int} {b : Int} {c : Int} {w : Int} {st : Int} (ha : ¬ st = 1) (hb : ¬ st = 2)   : DoesC Tryd.prog 37 [(.pointer (some ⟨1, 0, none⟩)), (.int .u64 g)] (mkH [.cells [(.int .i64 1), (.int .i64 64), (.int .i64 1), (.int .i64 64)] e false, .cells [(.int .u64 dk), (.int .i64 th), (.int .i64 ts), (.int .i64 kp), (.int .u64 sd), (.int .u64 b), (.int .i64 c), (.int .u64 w), (.int .i64 st)] 77 true]).low undef (KH.low ⟨2, 1, [(0, 0, .cells [(.int .i64 1), (.int .i64 64), (.int .i64 1), (.int .i64 64)] e false), (1, 0, .cells [(.int .u64 dk), (.int .i64 th), (.int .i64 ts), (.int .i64 kp), (.int .u64 sd), (.int .u64 b), (.int .i64 c), (.int .u64 w), (.int .i64 st)] 77 true)]⟩) :=
  tree_does fitS tg_sound (rc_agree _ _ _) (by kernel_rfl) ((ST_t g e dk th ts kp sd b c w st).trans (by rw [condF (ibeq_f (by (first | omega | ((try simp (disch := omega) only [wrap_i64_id]) <;> omega)))), condF (ibeq_f (by (first | omega | ((try simp (disch := omega) only [wrap_i64_id]) <;> omega))))]))
theorem SR_t (e : TypeId) (dk : Int) (th : Int) (ts : Int) (kp : Int) (sd : Int) (b : Int) (c : Int) (w : Int) (st : Int) : runK Tryd.prog cfgS fsS (conTk tgDom (rcK varL tgT)) 30 40 19 [(.pointer (some ⟨1, 0, none⟩))] (mkH [.cells [(.int .i64 1), (.int .i64 64), (.int .i64 1), (.int .i64 64)] e false, .cells [(.int .u64 dk), (.int .i64 th), (.int .i64 ts), (.int .i64 kp), (.int .u64 sd), (.int .u64 b), (.int .i64 c), (.int .u64 w), (.int .i64 st)] 77 true]) bothK =
  bif (st != 3) then
    some ((.tuple #[(.int .u64 0), (.bool false)]), ⟨2, 1, [(0, 0, .cells [(.int .i64 1), (.int .i64 64), (.int .i64 1), (.int .i64 64)] e false), (1, 0, .cells [(.int .u64 dk), (.int .i64 th), (.int .i64 ts), (.int .i64 kp), (.int .u64 sd), (.int .u64 b), (.int .i64 c), (.int .u64 w), (.int .i64 st)] 77 true)]⟩)
  else
    some ((.tuple #[(.int .u64 w), (.bool true)]), ⟨2, 1, [(0, 0, .cells [(.int .i64 1), (.int .i64 64), (.int .i64 1), (.int .i64 64)] e false), (1, 0, .cells [(.int .u64 dk), (.int .i64 th), (.int .i64 ts), (.int .i64 kp), (.int .u64 sd), (.int .u64 b), (.int .i64 c), (.int .u64 w), (.int .i64 st)] 77 true)]⟩) := by kernel_rfl
theorem SR3 {e : TypeId} {dk : Int} {th : Int} {ts : Int} {kp : Int} {sd : Int} {b : Int} {c : Int} {w : Int} {st : Int} (hs : st = 3)   : DoesC Tryd.prog 19 [(.pointer (some ⟨1, 0, none⟩))] (mkH [.cells [(.int .i64 1), (.int .i64 64), (.int .i64 1), (.int .i64 64)] e false, .cells [(.int .u64 dk), (.int .i64 th), (.int .i64 ts), (.int .i64 kp), (.int .u64 sd), (.int .u64 b), (.int .i64 c), (.int .u64 w), (.int .i64 st)] 77 true]).low (.tuple #[(.int .u64 w), (.bool true)]) (KH.low ⟨2, 1, [(0, 0, .cells [(.int .i64 1), (.int .i64 64), (.int .i64 1), (.int .i64 64)] e false), (1, 0, .cells [(.int .u64 dk), (.int .i64 th), (.int .i64 ts), (.int .i64 kp), (.int .u64 sd), (.int .u64 b), (.int .i64 c), (.int .u64 w), (.int .i64 st)] 77 true)]⟩) :=
  tree_does fitS tg_sound (rc_agree _ _ _) (by kernel_rfl) ((SR_t e dk th ts kp sd b c w st).trans (by rw [condF (ibne_f (by (first | omega | ((try simp (disch := omega) only [wrap_i64_id]) <;> omega))))]))
theorem SRz {e : TypeId} {dk : Int} {th : Int} {ts : Int} {kp : Int} {sd : Int} {b : Int} {c : Int} {w : Int} {st : Int} (hs : ¬ st = 3)   : DoesC Tryd.prog 19 [(.pointer (some ⟨1, 0, none⟩))] (mkH [.cells [(.int .i64 1), (.int .i64 64), (.int .i64 1), (.int .i64 64)] e false, .cells [(.int .u64 dk), (.int .i64 th), (.int .i64 ts), (.int .i64 kp), (.int .u64 sd), (.int .u64 b), (.int .i64 c), (.int .u64 w), (.int .i64 st)] 77 true]).low (.tuple #[(.int .u64 0), (.bool false)]) (KH.low ⟨2, 1, [(0, 0, .cells [(.int .i64 1), (.int .i64 64), (.int .i64 1), (.int .i64 64)] e false), (1, 0, .cells [(.int .u64 dk), (.int .i64 th), (.int .i64 ts), (.int .i64 kp), (.int .u64 sd), (.int .u64 b), (.int .i64 c), (.int .u64 w), (.int .i64 st)] 77 true)]⟩) :=
  tree_does fitS tg_sound (rc_agree _ _ _) (by kernel_rfl) ((SR_t e dk th ts kp sd b c w st).trans (by rw [condT (ibne_t (by (first | omega | ((try simp (disch := omega) only [wrap_i64_id]) <;> omega))))]))
theorem SN_t (dk : Int) (th : Int) (ts : Int) (kp : Int) (sd : Int) (b : Int) (c : Int) (w : Int) (e : TypeId) : runK Tryd.prog cfgS fsS (conTk tgDom (rcK varL tgT)) 30 40 18 [(.agg #[(.int .u64 dk), (.int .i64 th), (.int .i64 ts), (.int .i64 kp), (.int .u64 sd)]), (.int .u64 b), (.int .i64 c), (.int .u64 w)] (mkH [.cells [(.int .i64 1), (.int .i64 64), (.int .i64 1), (.int .i64 64)] e false]) bothK =
  bif (dk != 0) then
    bif (decide (ts ≥ 1)) then
      bif (decide (ts ≤ 64)) then
        bif (decide (kp ≥ 1)) then
          bif (decide (kp ≤ 64)) then
            bif (decide (th ≥ 0)) then
              bif (!(decide (th < ts))) then
                some ((.pointer (some ⟨3, 0, none⟩)), ⟨4, 4, [(3, 3, .cells [(.int .u64 0), (.int .i64 0), (.int .i64 0), (.int .i64 0), (.int .u64 0), (.int .u64 0), (.int .i64 0), (.int .u64 0), (.int .i64 0)] 77 true), (2, 2, .cells [(.int .u64 dk), (.int .i64 th), (.int .i64 ts), (.int .i64 kp), (.int .u64 sd)] 24 true), (1, 1, .cells [(.int .u64 dk), (.int .i64 th), (.int .i64 ts), (.int .i64 kp), (.int .u64 sd)] 24 true), (0, 0, .cells [(.int .i64 1), (.int .i64 64), (.int .i64 1), (.int .i64 64)] e false)]⟩)
              else
                bif (decide (c < 0)) then
                  some ((.pointer (some ⟨3, 0, none⟩)), ⟨4, 4, [(3, 3, .cells [(.int .u64 0), (.int .i64 0), (.int .i64 0), (.int .i64 0), (.int .u64 0), (.int .u64 0), (.int .i64 0), (.int .u64 0), (.int .i64 0)] 77 true), (2, 2, .cells [(.int .u64 dk), (.int .i64 th), (.int .i64 ts), (.int .i64 kp), (.int .u64 sd)] 24 true), (1, 1, .cells [(.int .u64 dk), (.int .i64 th), (.int .i64 ts), (.int .i64 kp), (.int .u64 sd)] 24 true), (0, 0, .cells [(.int .i64 1), (.int .i64 64), (.int .i64 1), (.int .i64 64)] e false)]⟩)
                else
                  bif (!(tagF w)) then
                    some ((.pointer (some ⟨3, 0, none⟩)), ⟨4, 5, [(3, 4, .cells [(.int .u64 dk), (.int .i64 th), (.int .i64 ts), (.int .i64 kp), (.int .u64 sd), (.int .u64 b), (.int .i64 c), (.int .u64 w), (.int .i64 3)] 77 true), (2, 2, .cells [(.int .u64 dk), (.int .i64 th), (.int .i64 ts), (.int .i64 kp), (.int .u64 sd)] 24 true), (1, 1, .cells [(.int .u64 dk), (.int .i64 th), (.int .i64 ts), (.int .i64 kp), (.int .u64 sd)] 24 true), (0, 0, .cells [(.int .i64 1), (.int .i64 64), (.int .i64 1), (.int .i64 64)] e false)]⟩)
                  else
                    some ((.pointer (some ⟨3, 0, none⟩)), ⟨4, 4, [(3, 3, .cells [(.int .u64 dk), (.int .i64 th), (.int .i64 ts), (.int .i64 kp), (.int .u64 sd), (.int .u64 b), (.int .i64 c), (.int .u64 w), (.int .i64 1)] 77 true), (2, 2, .cells [(.int .u64 dk), (.int .i64 th), (.int .i64 ts), (.int .i64 kp), (.int .u64 sd)] 24 true), (1, 1, .cells [(.int .u64 dk), (.int .i64 th), (.int .i64 ts), (.int .i64 kp), (.int .u64 sd)] 24 true), (0, 0, .cells [(.int .i64 1), (.int .i64 64), (.int .i64 1), (.int .i64 64)] e false)]⟩)
            else
              some ((.pointer (some ⟨3, 0, none⟩)), ⟨4, 4, [(3, 3, .cells [(.int .u64 0), (.int .i64 0), (.int .i64 0), (.int .i64 0), (.int .u64 0), (.int .u64 0), (.int .i64 0), (.int .u64 0), (.int .i64 0)] 77 true), (2, 2, .cells [(.int .u64 dk), (.int .i64 th), (.int .i64 ts), (.int .i64 kp), (.int .u64 sd)] 24 true), (1, 1, .cells [(.int .u64 dk), (.int .i64 th), (.int .i64 ts), (.int .i64 kp), (.int .u64 sd)] 24 true), (0, 0, .cells [(.int .i64 1), (.int .i64 64), (.int .i64 1), (.int .i64 64)] e false)]⟩)
          else
            some ((.pointer (some ⟨3, 0, none⟩)), ⟨4, 4, [(3, 3, .cells [(.int .u64 0), (.int .i64 0), (.int .i64 0), (.int .i64 0), (.int .u64 0), (.int .u64 0), (.int .i64 0), (.int .u64 0), (.int .i64 0)] 77 true), (2, 2, .cells [(.int .u64 dk), (.int .i64 th), (.int .i64 ts), (.int .i64 kp), (.int .u64 sd)] 24 true), (1, 1, .cells [(.int .u64 dk), (.int .i64 th), (.int .i64 ts), (.int .i64 kp), (.int .u64 sd)] 24 true), (0, 0, .cells [(.int .i64 1), (.int .i64 64), (.int .i64 1), (.int .i64 64)] e false)]⟩)
        else
          some ((.pointer (some ⟨3, 0, none⟩)), ⟨4, 4, [(3, 3, .cells [(.int .u64 0), (.int .i64 0), (.int .i64 0), (.int .i64 0), (.int .u64 0), (.int .u64 0), (.int .i64 0), (.int .u64 0), (.int .i64 0)] 77 true), (2, 2, .cells [(.int .u64 dk), (.int .i64 th), (.int .i64 ts), (.int .i64 kp), (.int .u64 sd)] 24 true), (1, 1, .cells [(.int .u64 dk), (.int .i64 th), (.int .i64 ts), (.int .i64 kp), (.int .u64 sd)] 24 true), (0, 0, .cells [(.int .i64 1), (.int .i64 64), (.int .i64 1), (.int .i64 64)] e false)]⟩)
      else
        some ((.pointer (some ⟨3, 0, none⟩)), ⟨4, 4, [(3, 3, .cells [(.int .u64 0), (.int .i64 0), (.int .i64 0), (.int .i64 0), (.int .u64 0), (.int .u64 0), (.int .i64 0), (.int .u64 0), (.int .i64 0)] 77 true), (2, 2, .cells [(.int .u64 dk), (.int .i64 th), (.int .i64 ts), (.int .i64 kp), (.int .u64 sd)] 24 true), (1, 1, .cells [(.int .u64 dk), (.int .i64 th), (.int .i64 ts), (.int .i64 kp), (.int .u64 sd)] 24 true), (0, 0, .cells [(.int .i64 1), (.int .i64 64), (.int .i64 1), (.int .i64 64)] e false)]⟩)
    else
      some ((.pointer (some ⟨3, 0, none⟩)), ⟨4, 4, [(3, 3, .cells [(.int .u64 0), (.int .i64 0), (.int .i64 0), (.int .i64 0), (.int .u64 0), (.int .u64 0), (.int .i64 0), (.int .u64 0), (.int .i64 0)] 77 true), (2, 2, .cells [(.int .u64 dk), (.int .i64 th), (.int .i64 ts), (.int .i64 kp), (.int .u64 sd)] 24 true), (1, 1, .cells [(.int .u64 dk), (.int .i64 th), (.int .i64 ts), (.int .i64 kp), (.int .u64 sd)] 24 true), (0, 0, .cells [(.int .i64 1), (.int .i64 64), (.int .i64 1), (.int .i64 64)] e false)]⟩)
  else
    some ((.pointer (some ⟨3, 0, none⟩)), ⟨4, 4, [(3, 3, .cells [(.int .u64 0), (.int .i64 0), (.int .i64 0), (.int .i64 0), (.int .u64 0), (.int .u64 0), (.int .i64 0), (.int .u64 0), (.int .i64 0)] 77 true), (2, 2, .cells [(.int .u64 dk), (.int .i64 th), (.int .i64 ts), (.int .i64 kp), (.int .u64 sd)] 24 true), (1, 1, .cells [(.int .u64 dk), (.int .i64 th), (.int .i64 ts), (.int .i64 kp), (.int .u64 sd)] 24 true), (0, 0, .cells [(.int .i64 1), (.int .i64 64), (.int .i64 1), (.int .i64 64)] e false)]⟩) := by kernel_rfl
theorem SNf {dk : Int} {th : Int} {ts : Int} {kp : Int} {sd : Int} {b : Int} {c : Int} {w : Int} {e : TypeId} (hd : ¬ dk = 0) (h1 : 1 ≤ ts) (h2 : ts ≤ 64) (h3 : 1 ≤ kp) (h4 : kp ≤ 64) (h5 : 0 ≤ th) (h6 : th < ts) (hc : 0 ≤ c) (hF : tagF w = true)   : DoesC Tryd.prog 18 [(.agg #[(.int .u64 dk), (.int .i64 th), (.int .i64 ts), (.int .i64 kp), (.int .u64 sd)]), (.int .u64 b), (.int .i64 c), (.int .u64 w)] (mkH [.cells [(.int .i64 1), (.int .i64 64), (.int .i64 1), (.int .i64 64)] e false]).low (.pointer (some ⟨3, 0, none⟩)) (KH.low ⟨4, 4, [(3, 3, .cells [(.int .u64 dk), (.int .i64 th), (.int .i64 ts), (.int .i64 kp), (.int .u64 sd), (.int .u64 b), (.int .i64 c), (.int .u64 w), (.int .i64 1)] 77 true), (2, 2, .cells [(.int .u64 dk), (.int .i64 th), (.int .i64 ts), (.int .i64 kp), (.int .u64 sd)] 24 true), (1, 1, .cells [(.int .u64 dk), (.int .i64 th), (.int .i64 ts), (.int .i64 kp), (.int .u64 sd)] 24 true), (0, 0, .cells [(.int .i64 1), (.int .i64 64), (.int .i64 1), (.int .i64 64)] e false)]⟩) :=
  tree_does fitS tg_sound (rc_agree _ _ _) (by kernel_rfl) ((SN_t dk th ts kp sd b c w e).trans (by rw [condT (ibne_t (by (first | omega | ((try simp (disch := omega) only [wrap_i64_id]) <;> omega)))), condT (decide_eq_true (by (first | omega | ((try simp (disch := omega) only [wrap_i64_id]) <;> omega)))), condT (decide_eq_true (by (first | omega | ((try simp (disch := omega) only [wrap_i64_id]) <;> omega)))), condT (decide_eq_true (by (first | omega | ((try simp (disch := omega) only [wrap_i64_id]) <;> omega)))), condT (decide_eq_true (by (first | omega | ((try simp (disch := omega) only [wrap_i64_id]) <;> omega)))), condT (decide_eq_true (by (first | omega | ((try simp (disch := omega) only [wrap_i64_id]) <;> omega)))), condF (not_f (decide_eq_true (by (first | omega | ((try simp (disch := omega) only [wrap_i64_id]) <;> omega))))), condF (decide_eq_false (by (first | omega | ((try simp (disch := omega) only [wrap_i64_id]) <;> omega)))), condF (not_f (hF))]))
theorem SNn {dk : Int} {th : Int} {ts : Int} {kp : Int} {sd : Int} {b : Int} {c : Int} {w : Int} {e : TypeId} (hd : ¬ dk = 0) (h1 : 1 ≤ ts) (h2 : ts ≤ 64) (h3 : 1 ≤ kp) (h4 : kp ≤ 64) (h5 : 0 ≤ th) (h6 : th < ts) (hc : 0 ≤ c) (hF : tagF w = false)   : DoesC Tryd.prog 18 [(.agg #[(.int .u64 dk), (.int .i64 th), (.int .i64 ts), (.int .i64 kp), (.int .u64 sd)]), (.int .u64 b), (.int .i64 c), (.int .u64 w)] (mkH [.cells [(.int .i64 1), (.int .i64 64), (.int .i64 1), (.int .i64 64)] e false]).low (.pointer (some ⟨3, 0, none⟩)) (KH.low ⟨4, 5, [(3, 4, .cells [(.int .u64 dk), (.int .i64 th), (.int .i64 ts), (.int .i64 kp), (.int .u64 sd), (.int .u64 b), (.int .i64 c), (.int .u64 w), (.int .i64 3)] 77 true), (2, 2, .cells [(.int .u64 dk), (.int .i64 th), (.int .i64 ts), (.int .i64 kp), (.int .u64 sd)] 24 true), (1, 1, .cells [(.int .u64 dk), (.int .i64 th), (.int .i64 ts), (.int .i64 kp), (.int .u64 sd)] 24 true), (0, 0, .cells [(.int .i64 1), (.int .i64 64), (.int .i64 1), (.int .i64 64)] e false)]⟩) :=
  tree_does fitS tg_sound (rc_agree _ _ _) (by kernel_rfl) ((SN_t dk th ts kp sd b c w e).trans (by rw [condT (ibne_t (by (first | omega | ((try simp (disch := omega) only [wrap_i64_id]) <;> omega)))), condT (decide_eq_true (by (first | omega | ((try simp (disch := omega) only [wrap_i64_id]) <;> omega)))), condT (decide_eq_true (by (first | omega | ((try simp (disch := omega) only [wrap_i64_id]) <;> omega)))), condT (decide_eq_true (by (first | omega | ((try simp (disch := omega) only [wrap_i64_id]) <;> omega)))), condT (decide_eq_true (by (first | omega | ((try simp (disch := omega) only [wrap_i64_id]) <;> omega)))), condT (decide_eq_true (by (first | omega | ((try simp (disch := omega) only [wrap_i64_id]) <;> omega)))), condF (not_f (decide_eq_true (by (first | omega | ((try simp (disch := omega) only [wrap_i64_id]) <;> omega))))), condF (decide_eq_false (by (first | omega | ((try simp (disch := omega) only [wrap_i64_id]) <;> omega)))), condT (not_t (hF))]))
theorem isS (x : ShieldSt) : IsM Tryd.prog 1 (.shield x) [.cells [.int .u64 x.site.desk, .int .i64 x.site.thread, .int .i64 x.site.threads, .int .i64 x.site.keep, .int .u64 x.site.seed, .int .u64 x.block, .int .i64 x.cell, .int .u64 x.word, .int .i64 x.state] 77 true] := isM rfl
def shSt (b : Bool) : Int := bif b then 1 else 3
def sEnds (w g : Int) : Bool := tagB g == tagB w || !(tagF g)
noncomputable def sActV (x : ShieldSt) : Value :=
  bif x.state == 1 then .tuple #[.agg #[.int .i64 2, .int .u64 x.site.desk, .int .i64 (3 + (2 * x.site.thread)), .int .u64 0, .int .u64 (tagB x.word)], .bool true]
  else bif x.state == 2 then .tuple #[.agg #[.int .i64 1, .int .u64 x.block, .int .i64 x.cell, .int .u64 0, .int .u64 0], .bool true]
  else .tuple #[.agg #[.int .i64 0, .int .u64 0, .int .i64 0, .int .u64 0, .int .u64 0], .bool false]
def sTakeA (x : ShieldSt) (g : Int) : ShieldSt := bif x.state == 1 then ⟨x.site, x.block, x.cell, x.word, 2⟩ else bif x.state == 2 then ⟨x.site, x.block, x.cell, g, 3⟩ else x
def sTakeB (x : ShieldSt) (g : Int) : ShieldSt := bif x.state == 1 then ⟨x.site, x.block, x.cell, x.word, 2⟩ else bif x.state == 2 then ⟨x.site, x.block, x.cell, g, 1⟩ else x
noncomputable def sResV (x : ShieldSt) : Value := bif x.state == 3 then .tuple #[.int .u64 x.word, .bool true] else .tuple #[.int .u64 0, .bool false]
theorem bcw {th : Int} (h1 : 0 ≤ th) (h2 : th ≤ 63) : IntKind.wrap .i64 (IntKind.wrap .i64 (2 + IntKind.wrap .i64 (2 * th)) + 1) = 3 + (2 * th) := by
  rw [wrap_i64_id (n := 2 * th) (by omega) (by omega), wrap_i64_id (n := 2 + 2 * th) (by omega) (by omega), wrap_i64_id (by omega) (by omega)]; omega
theorem sAct_does (e0 : TypeId) (x : ShieldSt) (h0 : 0 ≤ x.site.thread) (h1 : x.site.thread ≤ 63) : DoesC Tryd.prog 36 [.pointer (some ⟨1, 0, none⟩)] (mkH [.cells (intCells .i64 [1, 64, 1, 64]) e0 false, .mach (.shield x)]).low (sActV x) (effK (mkH [.cells (intCells .i64 [1, 64, 1, 64]) e0 false, .mach (.shield x)]) [(1, .mach (.shield x))] []).low := by
  obtain ⟨⟨dk, th, ts, kp, sd⟩, b, c, w, st⟩ := x
  have h0 : 0 ≤ th := h0
  have h1 : th ≤ 63 := h1
  by_cases a1 : st = 1
  · subst a1
    have := mach_does (vs := varL) (vb := [.cells (intCells .i64 [1, 64, 1, 64]) e0 false]) oneVar (.cons e0 .nil) (isS _) (isS (.mk (.mk dk th ts kp sd) b c w 1)) (SA1 rfl h0 h1) [] (by kernel_rfl)
    rw [bcw h0 h1] at this
    exact this
  by_cases a2 : st = 2
  · subst a2; exact mach_does (vs := varL) (vb := [.cells (intCells .i64 [1, 64, 1, 64]) e0 false]) oneVar (.cons e0 .nil) (isS _) (isS _) (SA2 rfl) [] (by kernel_rfl)
  have hv : sActV ⟨⟨dk, th, ts, kp, sd⟩, b, c, w, st⟩ = .tuple #[.agg #[.int .i64 0, .int .u64 0, .int .i64 0, .int .u64 0, .int .u64 0], .bool false] := by unfold sActV; simp only [ibeq_f a1, ibeq_f a2]; rfl
  rw [hv]
  exact mach_does (vs := varL) (vb := [.cells (intCells .i64 [1, 64, 1, 64]) e0 false]) oneVar (.cons e0 .nil) (isS _) (isS _) (SAz a1 a2) [] (by kernel_rfl)
theorem sTakeA_does (e0 : TypeId) (x : ShieldSt) (g : Int) (hp : (bif x.state == 2 then (sEnds x.word g) else true) = true) : DoesC Tryd.prog 37 [.pointer (some ⟨1, 0, none⟩), .int .u64 g] (mkH [.cells (intCells .i64 [1, 64, 1, 64]) e0 false, .mach (.shield x)]).low (.tuple #[]) (effK (mkH [.cells (intCells .i64 [1, 64, 1, 64]) e0 false, .mach (.shield x)]) [(1, .mach (.shield (sTakeA x g)))] []).low := by
  obtain ⟨⟨dk, th, ts, kp, sd⟩, b, c, w, st⟩ := x
  by_cases a1 : st = 1
  · subst a1; exact mach_does (vs := varL) (vb := [.cells (intCells .i64 [1, 64, 1, 64]) e0 false]) oneVar (.cons e0 .nil) (isS _) (isS _) (ST1 rfl) [] (by kernel_rfl)
  by_cases a2 : st = 2
  · subst a2
    have hp : sEnds w g = true := hp
    by_cases hB : tagB g = tagB w
    · exact mach_does (vs := varL) (vb := [.cells (intCells .i64 [1, 64, 1, 64]) e0 false]) oneVar (.cons e0 .nil) (isS _) (isS _) (ST2 rfl hB) [] (by kernel_rfl)
    · have hF : tagF g = false := by
        unfold sEnds at hp
        rw [ibeq_f hB] at hp
        simpa using hp
      exact mach_does (vs := varL) (vb := [.cells (intCells .i64 [1, 64, 1, 64]) e0 false]) oneVar (.cons e0 .nil) (isS _) (isS _) (ST4 rfl hB hF) [] (by kernel_rfl)
  have hv : sTakeA ⟨⟨dk, th, ts, kp, sd⟩, b, c, w, st⟩ g = ⟨⟨dk, th, ts, kp, sd⟩, b, c, w, st⟩ := by unfold sTakeA; simp only [ibeq_f a1, ibeq_f a2]; rfl
  rw [hv]; exact mach_does (vs := varL) (vb := [.cells (intCells .i64 [1, 64, 1, 64]) e0 false]) oneVar (.cons e0 .nil) (isS _) (isS _) (STz a1 a2) [] (by kernel_rfl)
theorem sTakeB_does (e0 : TypeId) (x : ShieldSt) (g : Int) (hp : (bif x.state == 2 then !(sEnds x.word g) else true) = true) : DoesC Tryd.prog 37 [.pointer (some ⟨1, 0, none⟩), .int .u64 g] (mkH [.cells (intCells .i64 [1, 64, 1, 64]) e0 false, .mach (.shield x)]).low (.tuple #[]) (effK (mkH [.cells (intCells .i64 [1, 64, 1, 64]) e0 false, .mach (.shield x)]) [(1, .mach (.shield (sTakeB x g)))] []).low := by
  obtain ⟨⟨dk, th, ts, kp, sd⟩, b, c, w, st⟩ := x
  by_cases a1 : st = 1
  · subst a1; exact mach_does (vs := varL) (vb := [.cells (intCells .i64 [1, 64, 1, 64]) e0 false]) oneVar (.cons e0 .nil) (isS _) (isS _) (ST1 rfl) [] (by kernel_rfl)
  by_cases a2 : st = 2
  · subst a2
    have hp : (!(sEnds w g)) = true := hp
    by_cases hB : tagB g = tagB w
    · unfold sEnds at hp; rw [ibeq_t hB] at hp; cases hp
    · have hF : tagF g = true := by
        unfold sEnds at hp
        rw [ibeq_f hB] at hp
        simpa using hp
      exact mach_does (vs := varL) (vb := [.cells (intCells .i64 [1, 64, 1, 64]) e0 false]) oneVar (.cons e0 .nil) (isS _) (isS _) (ST3 rfl hB hF) [] (by kernel_rfl)
  have hv : sTakeB ⟨⟨dk, th, ts, kp, sd⟩, b, c, w, st⟩ g = ⟨⟨dk, th, ts, kp, sd⟩, b, c, w, st⟩ := by unfold sTakeB; simp only [ibeq_f a1, ibeq_f a2]; rfl
  rw [hv]; exact mach_does (vs := varL) (vb := [.cells (intCells .i64 [1, 64, 1, 64]) e0 false]) oneVar (.cons e0 .nil) (isS _) (isS _) (STz a1 a2) [] (by kernel_rfl)
theorem sRes_does (e0 : TypeId) (x : ShieldSt) : DoesC Tryd.prog 19 [.pointer (some ⟨1, 0, none⟩)] (mkH [.cells (intCells .i64 [1, 64, 1, 64]) e0 false, .mach (.shield x)]).low (sResV x) (effK (mkH [.cells (intCells .i64 [1, 64, 1, 64]) e0 false, .mach (.shield x)]) [(1, .mach (.shield x))] []).low := by
  obtain ⟨⟨dk, th, ts, kp, sd⟩, b, c, w, st⟩ := x
  by_cases a1 : st = 3
  · subst a1; exact mach_does (vs := varL) (vb := [.cells (intCells .i64 [1, 64, 1, 64]) e0 false]) oneVar (.cons e0 .nil) (isS _) (isS _) (SR3 rfl) [] (by kernel_rfl)
  have hv : sResV ⟨⟨dk, th, ts, kp, sd⟩, b, c, w, st⟩ = .tuple #[.int .u64 0, .bool false] := by unfold sResV; simp only [ibeq_f a1]; rfl
  rw [hv]; exact mach_does (vs := varL) (vb := [.cells (intCells .i64 [1, 64, 1, 64]) e0 false]) oneVar (.cons e0 .nil) (isS _) (isS _) (SRz a1) [] (by kernel_rfl)
theorem sNew_does (e0 : TypeId) (x : Value) (b c w : Int) (h : (siteOk x && decide (0 ≤ c)) = true) : DoesC Tryd.prog 18 [x, .int .u64 b, .int .i64 c, .int .u64 w] (mkH [.cells (intCells .i64 [1, 64, 1, 64]) e0 false]).low (.pointer (some ⟨1, 0, none⟩)) (effK (mkH [.cells (intCells .i64 [1, 64, 1, 64]) e0 false]) [] [.mach (.shield (ShieldSt.mk (siteOf x) b c w (shSt (tagF w))))]).low := by
  simp only [Bool.and_eq_true, decide_eq_true_eq] at h
  obtain ⟨h, hc⟩ := h
  unfold siteOk at h
  split at h
  · rename_i dk th ts kp sd
    unfold siteP at h
    simp only [Bool.and_eq_true, decide_eq_true_eq] at h
    obtain ⟨h0, h1, h2, h3, h4, h5, h6⟩ := h
    cases hF : tagF w with
    | true =>
      exact mach_made (vs := varL) (vb := [.cells (intCells .i64 [1, 64, 1, 64]) e0 false]) (r0 := 3) oneVar (.cons e0 .nil) (isS (.mk (.mk dk th ts kp sd) b c w 1)) (SNf h0 h1 h2 h3 h4 h5 h6 hc hF) [] (by kernel_rfl) (fun a o h => by
        cases a with
        | zero => cases h; rfl
        | succ a => simp at h)
    | false =>
      exact mach_made (vs := varL) (vb := [.cells (intCells .i64 [1, 64, 1, 64]) e0 false]) (r0 := 3) oneVar (.cons e0 .nil) (isS (.mk (.mk dk th ts kp sd) b c w 3)) (SNn h0 h1 h2 h3 h4 h5 h6 hc hF) [] (by kernel_rfl) (fun a o h => by
        cases a with
        | zero => cases h; rfl
        | succ a => simp at h)
  · cases h
noncomputable def rc_shield_Shield_Act : RC := ⟨[.mach], fun avs => match avs with | [.mach (.shield x)] => ((decide (0 ≤ (SiteSt.thread (ShieldSt.site x)))) && (decide ((SiteSt.thread (ShieldSt.site x)) ≤ 63))) | _ => false,
  fun N avs => match avs with | [.mach (.shield x)] => ((sActV x), [(1, .mach (.shield x))], []) | _ => (.bool false, [], [])⟩
theorem rc_shield_Shield_Act_does : RcDoes Tryd.prog varL 36 rc_shield_Shield_Act := by
  intro vb avs args blks hv hs hp
  obtain ⟨e0, rfl⟩ := var1 hv
  cases hs with | mach m_x hs =>
  cases m_x with
  | arena _ => cases hp
  | guard _ => cases hp
  | shield x =>
  cases hs
  have hp : ((decide (0 ≤ x.site.thread)) && (decide (x.site.thread ≤ 63))) = true := hp
  simp only [Bool.and_eq_true, decide_eq_true_eq] at hp
  exact sAct_does e0 x hp.1 hp.2
noncomputable def rc_sTakeA : RC := ⟨[.mach, .int .u64], fun avs => match avs with | [.mach (.shield x), .int g] => (bif x.state == 2 then (sEnds x.word g) else true) | _ => false,
  fun N avs => match avs with | [.mach (.shield x), .int g] => ((.tuple #[]), [(1, .mach (.shield (sTakeA x g)))], []) | _ => (.bool false, [], [])⟩
theorem rc_sTakeA_does : RcDoes Tryd.prog varL 37 rc_sTakeA := by
  intro vb avs args blks hv hs hp
  obtain ⟨e0, rfl⟩ := var1 hv
  cases hs with | mach m_x hs =>
  cases m_x with
  | arena _ => cases hp
  | guard _ => cases hp
  | shield x =>
  cases hs with | int g hs =>
  cases hs
  exact sTakeA_does e0 x g hp
noncomputable def rc_sTakeB : RC := ⟨[.mach, .int .u64], fun avs => match avs with | [.mach (.shield x), .int g] => (bif x.state == 2 then !(sEnds x.word g) else true) | _ => false,
  fun N avs => match avs with | [.mach (.shield x), .int g] => ((.tuple #[]), [(1, .mach (.shield (sTakeB x g)))], []) | _ => (.bool false, [], [])⟩
theorem rc_sTakeB_does : RcDoes Tryd.prog varL 37 rc_sTakeB := by
  intro vb avs args blks hv hs hp
  obtain ⟨e0, rfl⟩ := var1 hv
  cases hs with | mach m_x hs =>
  cases m_x with
  | arena _ => cases hp
  | guard _ => cases hp
  | shield x =>
  cases hs with | int g hs =>
  cases hs
  exact sTakeB_does e0 x g hp
noncomputable def rc_shield_Shield_Result : RC := ⟨[.mach], fun avs => match avs with | [.mach (.shield x)] => true | _ => false,
  fun N avs => match avs with | [.mach (.shield x)] => ((sResV x), [(1, .mach (.shield x))], []) | _ => (.bool false, [], [])⟩
theorem rc_shield_Shield_Result_does : RcDoes Tryd.prog varL 19 rc_shield_Shield_Result := by
  intro vb avs args blks hv hs hp
  obtain ⟨e0, rfl⟩ := var1 hv
  cases hs with | mach m_x hs =>
  cases m_x with
  | arena _ => cases hp
  | guard _ => cases hp
  | shield x =>
  cases hs
  exact sRes_does e0 x
noncomputable def rc_shield_New : RC := ⟨[.val, .int .u64, .int .i64, .int .u64], fun avs => match avs with | [.val x, .int b, .int c, .int w] => (siteOk x && decide (0 ≤ c)) | _ => false,
  fun N avs => match avs with | [.val x, .int b, .int c, .int w] => ((.pointer (some ⟨N, 0, none⟩)), [], [.mach (.shield (ShieldSt.mk (siteOf x) b c w (shSt (tagF w))))]) | _ => (.bool false, [], [])⟩
theorem rc_shield_New_does : RcDoes Tryd.prog varL 18 rc_shield_New := by
  intro vb avs args blks hv hs hp
  obtain ⟨e0, rfl⟩ := var1 hv
  cases hs with | val x hp_x hs =>
  cases hs with | int b hs =>
  cases hs with | int c hs =>
  cases hs with | int w hs =>
  cases hs
  exact sNew_does e0 x b c w hp

end Go.Proofs.YtgnndimefmcfoaaDoor
