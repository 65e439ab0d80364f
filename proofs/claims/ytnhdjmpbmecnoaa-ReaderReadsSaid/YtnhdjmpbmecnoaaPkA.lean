/- How many words bytes need; the table of that. -/
import Derived.Test.YtnhdjmpbmecnoaaLane
import Derived.WalkKit
import Derived.ProofKit
import Derived.OpenShut
import Derived.ChangeOld
import Derived.Below
import Derived.SizedLaws
namespace Go.Proofs.Ytnhdjmpbmecnoaa
open Go.Eng
open Go.ChangeShapes Go.WideShapes Go.ChangeAt Go.RowKit
set_option linter.unusedVariables false
set_option linter.unusedSimpArgs false
set_option maxRecDepth 100000
noncomputable def cfgT : Cfg := ⟨[]⟩
noncomputable def fsT : List FuncId := [11, 17, 18, 48, 49, 50]
theorem fitT : Fit Try.prog cfgT fsT := ⟨by kernel_rfl, Cfg.ok_of (by kernel_rfl), by kernel_rfl⟩
/-- How many words so many bytes need. -/
def manyV (n : Int) : Int := if n ≤ 0 then 0 else (n - 1) / 8 + 1
theorem many_tree (n : Int) : runK Try.prog cfgT fsT noT 5 40 17 [.int .i64 n] (bareK Try.prog) valK =
  bif (decide (n ≤ 0)) then
    some (.int .i64 0)
  else
    some (.int .i64 (IntKind.wrap .i64 ((IntKind.wrap .i64 (Int.tdiv (IntKind.wrap .i64 (n - 1)) 8)) + 1))) := by kernel_rfl
theorem many_told (n : Int) (hn : n ≤ 9223372036854775807) : Tells Try.prog 17 [.int .i64 n] (bare Try.prog) (.int .i64 (manyV n)) := by
  refine Tells.of_tree (h := (bareK Try.prog)) fitT SoundC.no AgreeT.no (by kernel_rfl) rfl (show Ro (bare Try.prog) from Ro.bare) (n := 5) (d := 40) ?_
  rw [many_tree]
  unfold manyV
  by_cases h0 : n ≤ 0
  · rw [condT (decide_eq_true h0), if_pos h0]
  · rw [condF (decide_eq_false h0), if_neg h0, wrap_i64_id (n := n - 1) (by omega) (by omega), Int.tdiv_eq_ediv_of_nonneg (by omega), wrap_i64_id (n := (n - 1) / 8) (by omega) (by omega), wrap_i64_id (by omega) (by omega)]
noncomputable def BM : Code := bodyOf Try.prog 18
theorem BM_is : Try.f18.body = some BM := by kernel_rfl
theorem BM_ok : okCode Try.prog.globals.size BM = true := by kernel_rfl
noncomputable abbrev MEV (c : Code) (s : KSt) (lv : List Nat) : Option (Ex × KSt) := evCK Try.prog cfgT (runK Try.prog cfgT fsT noT 14 40) 14 c s (normC 0 lv)
theorem Mgo {lv_ : List Nat} {co_ : Code} {st_ s' : KSt} {x : Ex} {Q : Ex → St → Prop} (hE_ : MEV co_ st_ lv_ = some (x, s')) (hq_ : Q x s'.low) (hok_ : okCode Try.prog.globals.size co_ = true := by kernel_rfl) : Gets Try.prog (KH.low ⟨0, 1, []⟩) co_ st_.low Q := Gets.ofN fitT SoundC.no AgreeT.no 14 40 hok_ hE_ hq_
theorem MeX {v : Value} {b c : Bool} (h : v = .bool b) (hb : b = c) : v = .bool c := by rw [h, hb]
theorem MC : BM = .seq (codeAt [0] BM) (codeAt [1] BM) := by kernel_rfl
theorem MC1 : (codeAt [1] BM) = .seq (codeAt [1, 0] BM) (codeAt [1, 1] BM) := by kernel_rfl
theorem MC1_1 : (codeAt [1, 1] BM) = .seq (codeAt [1, 1, 0] BM) (codeAt [1, 1, 1] BM) := by kernel_rfl
theorem MC1_1_0_0_0 : (codeAt [1, 1, 0, 0, 0] BM) = .seq (codeAt [1, 1, 0, 0, 0, 0] BM) (codeAt [1, 1, 0, 0, 0, 1] BM) := by kernel_rfl
theorem MC1_1_0_0_0_0 : (codeAt [1, 1, 0, 0, 0, 0] BM) = .seq (codeAt [1, 1, 0, 0, 0, 0, 0] BM) (codeAt [1, 1, 0, 0, 0, 0, 1] BM) := by kernel_rfl
theorem MC1_1_0_0_0_0_1 : (codeAt [1, 1, 0, 0, 0, 0, 1] BM) = .cond (.tmp 5) (codeAt [1, 1, 0, 0, 0, 0, 1, 0] BM) (codeAt [1, 1, 0, 0, 0, 0, 1, 1] BM) := by kernel_rfl
theorem MC1_1_0_0_0_1 : (codeAt [1, 1, 0, 0, 0, 1] BM) = .block 1 (codeAt [1, 1, 0, 0, 0, 1, 0] BM) := by kernel_rfl
theorem MC1_1_0_0_0_1_0 : (codeAt [1, 1, 0, 0, 0, 1, 0] BM) = .seq (codeAt [1, 1, 0, 0, 0, 1, 0, 0] BM) (codeAt [1, 1, 0, 0, 0, 1, 0, 1] BM) := by kernel_rfl
theorem MC1_1_0_0_0_0_1_1 : (codeAt [1, 1, 0, 0, 0, 0, 1, 1] BM) = .exit 0 := by kernel_rfl
theorem MC1_1_1 : (codeAt [1, 1, 1] BM) = .seq (codeAt [1, 1, 1, 0] BM) (codeAt [1, 1, 1, 1] BM) := by kernel_rfl
theorem MC1_1_1_1 : (codeAt [1, 1, 1, 1] BM) = .ret := by kernel_rfl
theorem MC1_1_0 : (codeAt [1, 1, 0] BM) = .block 0 (codeAt [1, 1, 0, 0] BM) := by kernel_rfl
theorem MC1_1_0_0 : (codeAt [1, 1, 0, 0] BM) = .loop (codeAt [1, 1, 0, 0, 0] BM) := by kernel_rfl
noncomputable def MS0 (n : Int) : KSt := (firstK [(.int .i64 n)] 11 ⟨0, 1, []⟩)
noncomputable def MS1 (n : Int) : KSt := ⟨(frameL 11 [(0, (.int .i64 n))]), ⟨0, 1, []⟩⟩
theorem MR1 (n : Int) : MEV (codeAt [0] BM) (MS0 n) [0] =
  some (.normal, (MS1 n)) := by kernel_rfl
noncomputable def MS2 (n : Int) : KSt := ⟨(frameL 11 [(0, (.int .i64 n)), (3, (.int .i64 0))]), ⟨0, 1, []⟩⟩
theorem MR2 (n : Int) : MEV (codeAt [1, 0] BM) (MS1 n) [0, 3] =
  some (.normal, (MS2 n)) := by kernel_rfl
noncomputable def MS3 (n : Int) (k : Int) : KSt := ⟨(frameL 11 [(0, (.int .i64 n)), (3, (.int .i64 k))]), ⟨0, 1, []⟩⟩
noncomputable def MS4 (n : Int) (k : Int) : KSt := ⟨(frameL 11 [(0, (.int .i64 n)), (3, (.int .i64 k)), (5, (.bool (decide (n > 0))))]), ⟨0, 1, []⟩⟩
theorem MR3 (n : Int) (k : Int) : MEV (codeAt [1, 1, 0, 0, 0, 0, 0] BM) (MS3 n k) [0, 3, 5] =
  some (.normal, (MS4 n k)) := by kernel_rfl
theorem MR4 (n : Int) (k : Int) : MEV (codeAt [1, 1, 0, 0, 0, 0, 1, 0] BM) (MS4 n k) [0, 3] =
  some (.normal, (MS3 n k)) := by kernel_rfl
noncomputable def MS5 (n : Int) (k : Int) : KSt := ⟨(frameL 11 [(0, (.int .i64 (IntKind.wrap .i64 (n - 8)))), (3, (.int .i64 k))]), ⟨0, 1, []⟩⟩
theorem MR5 (n : Int) (k : Int) : MEV (codeAt [1, 1, 0, 0, 0, 1, 0, 0] BM) (MS3 n k) [0, 3] =
  some (.normal, (MS5 n k)) := by kernel_rfl
noncomputable def MS6 (n : Int) (k : Int) : KSt := ⟨(frameL 11 [(0, (.int .i64 (IntKind.wrap .i64 (n - 8)))), (3, (.int .i64 (IntKind.wrap .i64 (k + 1))))]), ⟨0, 1, []⟩⟩
theorem MR6 (n : Int) (k : Int) : MEV (codeAt [1, 1, 0, 0, 0, 1, 0, 1] BM) (MS5 n k) [0, 3] =
  some (.normal, (MS6 n k)) := by kernel_rfl
noncomputable def MS7 (k : Int) : KSt := ⟨(frameL 11 [(2, (.int .i64 k))]), ⟨0, 1, []⟩⟩
theorem MR7 (n : Int) (k : Int) : MEV (codeAt [1, 1, 1, 0] BM) (MS4 n k) [2] =
  some (.normal, (MS7 k)) := by kernel_rfl
theorem Mpre {n : Int}   {Q : Ex → St → Prop} (hq : Gets Try.prog (KH.low ⟨0, 1, []⟩) (codeAt [1, 1, 0] BM) (KSt.low (MS2 n)) (onN (fun s => Gets Try.prog (KH.low ⟨0, 1, []⟩) (codeAt [1, 1, 1] BM) s (Q)) (Q))) : Gets Try.prog (KH.low ⟨0, 1, []⟩) BM (KSt.low (MS0 n)) Q := by
  rw [MC]; refine Gets.seq ?_
  refine Mgo (MR1 n) ?_
  rw [MC1]; refine Gets.seq ?_
  refine Mgo (MR2 n) ?_
  rw [MC1_1]; refine Gets.seq ?_
  exact hq
theorem Mrd {n : Int} {k : Int} (hn : 0 < n) (hn2 : n ≤ 100000) (hk : 0 ≤ k) (hk2 : k ≤ 100000)   {Q : Ex → St → Prop} (hq : Q .normal (KSt.low (MS6 n k))) : Gets Try.prog (KH.low ⟨0, 1, []⟩) (codeAt [1, 1, 0, 0, 0] BM) (KSt.low (MS3 n k)) Q := by
  rw [MC1_1_0_0_0]; refine Gets.seq ?_
  rw [MC1_1_0_0_0_0]; refine Gets.seq ?_
  refine Mgo (MR3 n k) ?_
  rw [MC1_1_0_0_0_0_1]; refine Gets.cond true (by kernel_rfl) (MeX (b := (decide (n > 0))) (by kernel_rfl) ((show (decide (n > 0)) = true from decide_eq_true (by omega)))) ?_; show Gets _ _ (codeAt [1, 1, 0, 0, 0, 0, 1, 0] BM) _ _
  refine Mgo (MR4 n k) ?_
  rw [MC1_1_0_0_0_1]; refine Gets.block ?_
  rw [MC1_1_0_0_0_1_0]; refine Gets.seq ?_
  refine Mgo (MR5 n k) ?_
  refine Mgo (MR6 n k) ?_
  exact hq
theorem Mex {n : Int} {k : Int} (hn : n ≤ 0)   {Q : Ex → St → Prop} (hq : Q (.exit 0) (KSt.low (MS4 n k))) : Gets Try.prog (KH.low ⟨0, 1, []⟩) (codeAt [1, 1, 0, 0, 0] BM) (KSt.low (MS3 n k)) Q := by
  rw [MC1_1_0_0_0]; refine Gets.seq ?_
  rw [MC1_1_0_0_0_0]; refine Gets.seq ?_
  refine Mgo (MR3 n k) ?_
  rw [MC1_1_0_0_0_0_1]; refine Gets.cond false (by kernel_rfl) (MeX (b := (decide (n > 0))) (by kernel_rfl) ((show (decide (n > 0)) = false from decide_eq_false (by omega)))) ?_; show Gets _ _ (codeAt [1, 1, 0, 0, 0, 0, 1, 1] BM) _ _
  rw [MC1_1_0_0_0_0_1_1]; refine Gets.ev fitT.mix fitT.cfg (fitT.sound SoundC.no 14 0) 14 rfl (s' := KSt.low (MS4 n k)) (x := (.exit 0)) rfl ?_
  exact hq
theorem Mfi {k : Int} {n : Int}   {Q : Ex → St → Prop} (hq : Q .ret (KSt.low (MS7 k))) : Gets Try.prog (KH.low ⟨0, 1, []⟩) (codeAt [1, 1, 1] BM) (KSt.low (MS4 n k)) Q := by
  rw [MC1_1_1]; refine Gets.seq ?_
  refine Mgo (MR7 n k) ?_
  rw [MC1_1_1_1]; refine Gets.ev fitT.mix fitT.cfg (fitT.sound SoundC.no 14 0) 14 rfl (s' := KSt.low (MS7 k)) (x := .ret) rfl ?_
  exact hq
inductive MInv (v : Int) : Nat → KSt → Prop
  | at_ (n k : Int) (hk : 0 ≤ k) (hk2 : k + n / 8 ≤ 20000) (hn : n ≤ 100000) (hv : v = k + manyV n) : MInv v (n + 100000).toNat (MS3 n k)
theorem loopM (v : Int) (z : Nat) (t : KSt) (hI : MInv v z t) : Gets Try.prog (KH.low ⟨0, 1, []⟩) (codeAt [1, 1, 0] BM) t.low (onN (fun s => Gets Try.prog (KH.low ⟨0, 1, []⟩) (codeAt [1, 1, 1] BM) s ((EndsR Try.prog Try.f18 (.int .i64 v) [] [] []))) ((EndsR Try.prog Try.f18 (.int .i64 v) [] [] []))) := by
  rw [MC1_1_0, MC1_1_0_0]
  refine Gets.loopG (fun z t => MInv v z t) ?_ _ _ hI
  clear hI z t
  intro z t hI
  cases hI with
  | at_ n k hk hk2 hn hv =>
    by_cases h0 : n ≤ 0
    · refine Mex h0 ?_
      refine ⟨fun _ => ?_, fun h => by cases h⟩
      refine Mfi (EndsR.ret (l := [.int .i64 k]) (by kernel_rfl) ?_ (Fits.n0 rfl rfl (Nat.le_refl _)))
      rw [hv]; unfold manyV; rw [if_pos h0, Int.add_zero]; rfl
    · refine Mrd (by omega) hn hk (by omega) ?_
      refine ⟨_, _, ?_, rfl, .at_ _ _ ?_ ?_ ?_ ?_⟩
      all_goals (try rw [wrap_i64_id (n := n - 8) (by omega) (by omega)])
      all_goals (try rw [wrap_i64_id (n := k + 1) (by omega) (by omega)])
      · omega
      · omega
      · omega
      · omega
      · rw [hv]; unfold manyV; split <;> split <;> omega
theorem manyR_does (n : Int) (hn : n ≤ 100000) : DoesC Try.prog 18 [(.int .i64 n)] (mkH []).low (.int .i64 (manyV n)) (effK (mkH []) [] []).low := by
  refine EndsR.does Try.func18 BM_is (by rw [noVars]; exact Nat.zero_le _) ?_
  show Gets Try.prog (KH.low ⟨0, 1, []⟩) BM (KSt.low (MS0 n)) _
  refine Mpre ?_
  exact loopM _ _ _ (.at_ n 0 (by omega) (by omega) hn (by omega))
noncomputable def rc_sprocketlaw04_awake : RC := ⟨[], fun avs => match avs with | [] => true | _ => false,
  fun N avs => match avs with | [] => ((.bool true), [], []) | _ => (.bool false, [], [])⟩
theorem rc_sprocketlaw04_awake_does : RcDoes Try.prog [] 11 rc_sprocketlaw04_awake := by
  intro vb avs args blks hv hs hp
  cases hv
  cases hs
  exact DoesC.bare noVars rfl sprocketlaw04_awake_told
noncomputable def rc_lane_Byte (byteV : Int → Int → Int) : RC := ⟨[.int .u64, .int .i64], fun avs => match avs with | [.int w, .int i] => true | _ => false,
  fun N avs => match avs with | [.int w, .int i] => ((.int .i64 (byteV w i)), [], []) | _ => (.bool false, [], [])⟩
theorem rc_lane_Byte_does : RcDoes Try.prog [] 48 (rc_lane_Byte byteV) := by
  intro vb avs args blks hv hs hp
  cases hv
  cases hs with
  | int w hs =>
    cases hs with
    | int i hs =>
      cases hs
      exact DoesC.bare noVars rfl (byte_told w i)
noncomputable def rc_r02_Byte (byteRV : Int → Int → Int) : RC := ⟨[.int .u64, .int .i64], fun avs => match avs with | [.int w, .int i] => true | _ => false,
  fun N avs => match avs with | [.int w, .int i] => ((.int .i64 (byteRV w i)), [], []) | _ => (.bool false, [], [])⟩
theorem rc_r02_Byte_does : RcDoes Try.prog [] 49 (rc_r02_Byte byteRV) := by
  intro vb avs args blks hv hs hp
  cases hv
  cases hs with
  | int w hs =>
    cases hs with
    | int i hs =>
      cases hs
      exact DoesC.bare noVars rfl (byteR_told w i)
noncomputable def rc_r02_With (withRV : Int → Int → Int → Int) : RC := ⟨[.int .u64, .int .i64, .int .i64], fun avs => match avs with | [.int w, .int i, .int b] => true | _ => false,
  fun N avs => match avs with | [.int w, .int i, .int b] => ((.int .u64 (withRV w i b)), [], []) | _ => (.bool false, [], [])⟩
theorem rc_r02_With_does : RcDoes Try.prog [] 50 (rc_r02_With withRV) := by
  intro vb avs args blks hv hs hp
  cases hv
  cases hs with
  | int w hs =>
    cases hs with
    | int i hs =>
      cases hs with
      | int b hs =>
        cases hs
        exact DoesC.bare noVars rfl (withR_told w i b)
noncomputable def rc_pack_Many (manyV : Int → Int) : RC := ⟨[.int .i64], fun avs => match avs with | [.int n] => (decide (n ≤ 9223372036854775807)) | _ => false,
  fun N avs => match avs with | [.int n] => ((.int .i64 (manyV n)), [], []) | _ => (.bool false, [], [])⟩
theorem rc_pack_Many_does : RcDoes Try.prog [] 17 (rc_pack_Many manyV) := by
  intro vb avs args blks hv hs hp
  cases hv
  cases hs with
  | int n hs =>
    cases hs
    exact DoesC.bare noVars rfl (many_told n (of_decide_eq_true hp))
noncomputable def rc_r04_Many (manyV : Int → Int) : RC := ⟨[.int .i64], fun avs => match avs with | [.int n] => (decide (n ≤ 100000)) | _ => false,
  fun N avs => match avs with | [.int n] => ((.int .i64 (manyV n)), [], []) | _ => (.bool false, [], [])⟩
theorem rc_r04_Many_does : RcDoes Try.prog [] 18 (rc_r04_Many manyV) := by
  intro vb avs args blks hv hs hp
  cases hv
  cases hs with
  | int n hs =>
    cases hs
    exact manyR_does n (of_decide_eq_true hp)
noncomputable def pkaT (byteRV : Int → Int → Int) (byteV : Int → Int → Int) (manyV : Int → Int) (withRV : Int → Int → Int → Int) : RTab := fun f => match f with
  | 11 => some rc_sprocketlaw04_awake
  | 48 => some (rc_lane_Byte byteV)
  | 49 => some (rc_r02_Byte byteRV)
  | 50 => some (rc_r02_With withRV)
  | 17 => some (rc_pack_Many manyV)
  | 18 => some (rc_r04_Many manyV)
  | _ => none
def pkaDom : List FuncId := [11, 48, 49, 50, 17, 18]
theorem pka_does : ∀ f rc, f ∈ pkaDom → (pkaT byteRV byteV manyV withRV) f = some rc → RcDoes Try.prog [] f rc := by
  intro f rc hf hT
  simp only [pkaDom, List.mem_cons, List.not_mem_nil, or_false] at hf
  rcases hf with rfl | rfl | rfl | rfl | rfl | rfl
  · cases hT; exact rc_sprocketlaw04_awake_does
  · cases hT; exact rc_lane_Byte_does
  · cases hT; exact rc_r02_Byte_does
  · cases hT; exact rc_r02_With_does
  · cases hT; exact rc_pack_Many_does
  · cases hT; exact rc_r04_Many_does
theorem pka_fn : ∀ f ∈ pkaDom, FnOk Try.prog f := fun f hf => fitT.fnOk f (by
    have h0 : (pkaDom.all fun f => fsT.contains f) = true := by kernel_rfl
    simpa using List.all_eq_true.1 h0 f hf)
theorem pka_sound : SoundC Try.prog (conC pkaDom (rcE [] (pkaT byteRV byteV manyV withRV))) := rc_sound noVars pka_fn pka_does

end Go.Proofs.Ytnhdjmpbmecnoaa
