/- The roads through all and its closure. -/
import Derived.Test.YtgegcbeeljbiaaaFit
import Derived.WalkKit
import Derived.ProofKit
import Derived.OpenShut
import Derived.ChangeOld
import Derived.Below
import Derived.SizedLaws
namespace Go.Proofs.Ytgegcbeeljbiaaa
open Go.Eng
open Go.ChangeShapes Go.WideShapes Go.ChangeAt Go.RowKit
set_option linter.unusedVariables false
set_option linter.unusedSimpArgs false
set_option maxRecDepth 100000
/-- The group that is told as number i: each is one step further than the last one was. -/
def gN (n s : Nat) : Nat → Nat
  | 0 => s % n
  | i + 1 => (gN n s i + (i + 1)) % n
/-- The way up to m groups. -/
def wayN (n s : Nat) : Nat → List Int
  | 0 => []
  | m + 1 => wayN n s m ++ [((gN n s m : Nat) : Int)]
theorem wayN_length (n s : Nat) : ∀ m, (wayN n s m).length = m
  | 0 => rfl
  | m + 1 => by simp [wayN, wayN_length n s m]
theorem wayN_get (n s : Nat) : ∀ m i, i < m → (wayN n s m).getD i 0 = ((gN n s i : Nat) : Int)
  | 0, i, h => by omega
  | m + 1, i, h => by
    rw [List.getD_eq_getElem?_getD]
    unfold wayN
    by_cases hi : i < m
    · rw [List.getElem?_append_left (by rw [wayN_length]; exact hi), ← List.getD_eq_getElem?_getD]
      exact wayN_get n s m i hi
    · have : i = m := by omega
      subst this
      rw [List.getElem?_append_right (by rw [wayN_length]; exact Nat.le_refl _), wayN_length, Nat.sub_self]; rfl
def triN : Nat → Nat
  | 0 => 0
  | i + 1 => triN i + (i + 1)
theorem triN_two : ∀ i, 2 * triN i = i * (i + 1)
  | 0 => rfl
  | i + 1 => by
    have h := triN_two i
    unfold triN
    rw [Nat.mul_add, h, ← Nat.add_mul, Nat.mul_comm]
theorem gN_tri (n s : Nat) : ∀ i, gN n s i = (s + triN i) % n
  | 0 => rfl
  | i + 1 => by
    unfold gN triN
    rw [gN_tri n s i, Nat.mod_add_mod, Nat.add_assoc]
theorem gN_lt {n : Nat} (hn : 0 < n) (s i : Nat) : gN n s i < n := by rw [gN_tri]; exact Nat.mod_lt _ hn
theorem pow2_odd : ∀ (m a b : Nat), a % 2 = 1 → 2 ^ m ∣ a * b → 2 ^ m ∣ b
  | 0, _, _, _, _ => Nat.one_dvd _
  | m + 1, a, b, ha, h => by
    have h2 : 2 ∣ a * b := Nat.dvd_trans ⟨2 ^ m, by rw [Nat.pow_succ, Nat.mul_comm]⟩ h
    have hb : b % 2 = 0 := by
      have := Nat.mod_eq_zero_of_dvd h2
      rw [Nat.mul_mod, ha, Nat.one_mul, Nat.mod_mod] at this
      exact this
    obtain ⟨c, rfl⟩ := Nat.dvd_of_mod_eq_zero hb
    rw [Nat.pow_succ, Nat.mul_comm (2 ^ m) 2] at h ⊢
    rw [Nat.mul_left_comm] at h
    exact Nat.mul_dvd_mul_left 2 (pow2_odd m a c ha (Nat.dvd_of_mul_dvd_mul_left (by decide) h))
/-- No group is told twice. -/
theorem gN_inj {k : Nat} (s : Nat) {i j : Nat} (hij : i < j) (hj : j < 2 ^ k) : gN (2 ^ k) s i ≠ gN (2 ^ k) s j := by
  intro h
  rw [gN_tri, gN_tri] at h
  have hle : s + triN i ≤ s + triN j := by
    have h1 := triN_two i
    have h2 := triN_two j
    have : i * (i + 1) ≤ j * (j + 1) := Nat.mul_le_mul (by omega) (by omega)
    omega
  have hd : 2 ^ k ∣ (s + triN j) - (s + triN i) := (Nat.dvd_of_mod_eq_zero (Nat.sub_mod_eq_zero_of_mod_eq h.symm))
  obtain ⟨q, hq⟩ := hd
  have key : 2 ^ (k + 1) ∣ (j - i) * (j + i + 1) := by
    refine ⟨q, ?_⟩
    have h1 := triN_two i
    have h2 := triN_two j
    obtain ⟨d, rfl⟩ : ∃ d, j = i + d := ⟨j - i, by omega⟩
    have e : (i + d) * (i + d + 1) = i * (i + 1) + d * (i + d + i + 1) := by
      simp only [Nat.mul_add, Nat.add_mul, Nat.mul_one]
      have := Nat.mul_comm i d
      omega
    rw [Nat.add_sub_cancel_left, Nat.pow_succ, Nat.mul_comm (2 ^ k) 2, Nat.mul_assoc, ← hq]
    omega
  rcases Nat.mod_two_eq_zero_or_one (j - i) with h0 | h1
  · have hodd : (j + i + 1) % 2 = 1 := by omega
    rw [Nat.mul_comm] at key
    have hdv := pow2_odd (k + 1) _ _ hodd key
    have := Nat.le_of_dvd (by omega) hdv
    rw [Nat.pow_succ] at this
    omega
  · have hdv := pow2_odd (k + 1) _ _ h1 key
    have := Nat.le_of_dvd (by omega) hdv
    rw [Nat.pow_succ] at this
    omega
noncomputable def cfgR : Cfg := ⟨[]⟩
noncomputable def fsR : List FuncId := [5, 6, 23, 28, 29]
theorem fitR : Fit Try.prog cfgR fsR := ⟨by kernel_rfl, Cfg.ok_of (by kernel_rfl), by kernel_rfl⟩
/-- How many groups there are. -/
def groupsV (a : Int) : Int := if a < 0 ∨ 9 < a then 0 else 2 ^ a.toNat
theorem small (a : Int) (h0 : ¬ a < 0) (h9 : ¬ 9 < a) : a = 0 ∨ a = 1 ∨ a = 2 ∨ a = 3 ∨ a = 4 ∨ a = 5 ∨ a = 6 ∨ a = 7 ∨ a = 8 ∨ a = 9 := by omega
theorem groups_tree (a : Int) : runK Try.prog cfgR fsR noT 11 40 5 [.int .i64 a] (bareK Try.prog) valK =
  bif (decide (a < 0)) then
    some (.int .i64 0)
  else
    bif (decide (a > 9)) then
      some (.int .i64 0)
    else
      bif (decide (a < 0)) then
        none
      else
        some (.int .i64 (IntKind.wrap .i64 (1 * (2 ^ (min (Int.toNat a) (IntKind.bits .i64)))))) := by kernel_rfl
theorem groups_told (a : Int) : Tells Try.prog 5 [.int .i64 a] (bare Try.prog) (.int .i64 (groupsV a)) := by
  refine Tells.of_tree (h := bareK Try.prog) fitR SoundC.no AgreeT.no (by kernel_rfl) rfl (show Ro (bare Try.prog) from Ro.bare) (n := 11) (d := 40) ?_
  rw [groups_tree]
  unfold groupsV
  by_cases h0 : a < 0
  · rw [if_pos (.inl h0), decide_eq_true h0]; rfl
  · by_cases h9 : 9 < a
    · rw [if_pos (.inr h9), decide_eq_false h0, decide_eq_true (show a > 9 from h9)]; rfl
    · rcases small a h0 h9 with h | h | h | h | h | h | h | h | h | h <;> subst h <;> kernel_rfl
noncomputable def rc_route_Groups : RC := ⟨[.int .i64], fun avs => match avs with | [.int k] => true | _ => false,
  fun N avs => match avs with | [.int k] => ((.int .i64 (groupsV k)), [], []) | _ => (.bool false, [], [])⟩
theorem rc_route_Groups_does : RcDoes Try.prog [] 5 rc_route_Groups := by
  intro vb avs args blks hv hs hp
  cases hv
  cases hs with
  | int k hs =>
    cases hs
    exact DoesC.bare noVars rfl (groups_told k)
noncomputable def rtT : RTab := fun f => match f with
  | 5 => some rc_route_Groups
  | _ => none
def rtDom : List FuncId := [5]
theorem rt_does : ∀ f rc, f ∈ rtDom → rtT f = some rc → RcDoes Try.prog [] f rc := by
  intro f rc hf hT
  simp only [rtDom, List.mem_cons, List.not_mem_nil, or_false] at hf
  subst hf
  cases hT; exact rc_route_Groups_does
theorem rt_fn : ∀ f ∈ rtDom, FnOk Try.prog f := fun f hf => fitR.fnOk f (by
    have h0 : (rtDom.all fun f => fsR.contains f) = true := by kernel_rfl
    simpa using List.all_eq_true.1 h0 f hf)
theorem rt_sound : SoundC Try.prog (conC rtDom (rcE [] rtT)) := rc_sound noVars rt_fn rt_does
noncomputable def BA : Code := bodyOf Try.prog 6
theorem BA_is : Try.f6.body = some BA := by kernel_rfl
theorem BA_ok : okCode Try.prog.globals.size BA = true := by kernel_rfl
noncomputable abbrev AEV (c : Code) (s : KSt) (lv : List Nat) : Option (Ex × KSt) := evCK Try.prog cfgR (runK Try.prog cfgR fsR (conTk rtDom (rcK [] rtT)) 40 40) 40 c s (normC 0 lv)
theorem Ago {lv_ : List Nat} {co_ : Code} {st_ s' : KSt} {x : Ex} {Q : Ex → St → Prop} (hE_ : AEV co_ st_ lv_ = some (x, s')) (hq_ : Q x s'.low) (hok_ : okCode Try.prog.globals.size co_ = true := by kernel_rfl) : Gets Try.prog (KH.low ⟨0, 1, []⟩) co_ st_.low Q := Gets.ofN fitR rt_sound (rc_agree _ _ _) 40 40 hok_ hE_ hq_
theorem AeX {v : Value} {b c : Bool} (h : v = .bool b) (hb : b = c) : v = .bool c := by rw [h, hb]
theorem AC : BA = .seq (codeAt [0] BA) (codeAt [1] BA) := by kernel_rfl
theorem AC1 : (codeAt [1] BA) = .seq (codeAt [1, 0] BA) (codeAt [1, 1] BA) := by kernel_rfl
theorem AC1_1 : (codeAt [1, 1] BA) = .seq (codeAt [1, 1, 0] BA) (codeAt [1, 1, 1] BA) := by kernel_rfl
theorem AC1_1_1 : (codeAt [1, 1, 1] BA) = .seq (codeAt [1, 1, 1, 0] BA) (codeAt [1, 1, 1, 1] BA) := by kernel_rfl
theorem AC1_1_1_0 : (codeAt [1, 1, 1, 0] BA) = .seq (codeAt [1, 1, 1, 0, 0] BA) (codeAt [1, 1, 1, 0, 1] BA) := by kernel_rfl
theorem AC1_1_1_0_1 : (codeAt [1, 1, 1, 0, 1] BA) = .cond (.tmp 15) (codeAt [1, 1, 1, 0, 1, 0] BA) (codeAt [1, 1, 1, 0, 1, 1] BA) := by kernel_rfl
theorem AC1_1_1_1 : (codeAt [1, 1, 1, 1] BA) = .seq (codeAt [1, 1, 1, 1, 0] BA) (codeAt [1, 1, 1, 1, 1] BA) := by kernel_rfl
theorem AC1_1_1_1_0 : (codeAt [1, 1, 1, 1, 0] BA) = .seq (codeAt [1, 1, 1, 1, 0, 0] BA) (codeAt [1, 1, 1, 1, 0, 1] BA) := by kernel_rfl
theorem AC1_1_1_1_0_1 : (codeAt [1, 1, 1, 1, 0, 1] BA) = .block 0 (codeAt [1, 1, 1, 1, 0, 1, 0] BA) := by kernel_rfl
theorem AC1_1_1_1_1 : (codeAt [1, 1, 1, 1, 1] BA) = .seq (codeAt [1, 1, 1, 1, 1, 0] BA) (codeAt [1, 1, 1, 1, 1, 1] BA) := by kernel_rfl
theorem AC1_1_1_1_1_1 : (codeAt [1, 1, 1, 1, 1, 1] BA) = .ret := by kernel_rfl
theorem AC1_1_1_1_0_1_0 : (codeAt [1, 1, 1, 1, 0, 1, 0] BA) = .rangeFunc (.tmp 17) #[18] (codeAt [1, 1, 1, 1, 0, 1, 0, 0] BA) (codeAt [1, 1, 1, 1, 0, 1, 0, 1] BA) := by kernel_rfl
noncomputable def AS0 (h : Int) (k : Int) : KSt := (firstK [(.int .u64 h), (.int .i64 k), (.int .i64 600)] 28 ⟨0, 1, []⟩)
noncomputable def AS1 (h : Int) (k : Int) : KSt := ⟨(frameL 28 [(0, (.int .u64 h)), (1, (.int .i64 k)), (5, (.pointer (some ⟨0, 0, none⟩))), (9, undef), (18, undef)]), ⟨1, 1, [(0, 0, .cells [(.int .i64 600)] 3 true)]⟩⟩
theorem AR1 (h : Int) (k : Int) : AEV (codeAt [0] BA) (AS0 h k) [0, 1, 5, 9, 18] =
  some (.normal, (AS1 h k)) := by kernel_rfl
noncomputable def AS2 (h : Int) (k : Int) : KSt := ⟨(frameL 28 [(0, (.int .u64 h)), (1, (.int .i64 k)), (5, (.pointer (some ⟨0, 0, none⟩))), (7, (.pointer (some ⟨1, 0, none⟩))), (9, undef), (18, undef)]), ⟨3, 1, [(2, 0, .cells [] 3 true), (1, 0, .cells [(.slice (some ⟨2, 0, none⟩) 0 0)] 24 true), (0, 0, .cells [(.int .i64 600)] 3 true)]⟩⟩
theorem AR2 (h : Int) (k : Int) : AEV (codeAt [1, 0] BA) (AS1 h k) [0, 1, 5, 7, 9, 18] =
  some (.normal, (AS2 h k)) := by kernel_rfl
noncomputable def AS3 (h : Int) (k : Int) : KSt := ⟨(frameL 28 [(5, (.pointer (some ⟨0, 0, none⟩))), (7, (.pointer (some ⟨1, 0, none⟩))), (8, (.func (.func 28) #[] #[(.pointer (some ⟨2, 0, none⟩)), (.pointer (some ⟨3, 0, none⟩))])), (9, undef), (18, undef)]), ⟨5, 1, [(4, 0, .cells [] 3 true), (3, 0, .cells [(.int .u64 h)] 22 true), (2, 0, .cells [(.int .i64 k)] 3 true), (1, 0, .cells [(.slice (some ⟨4, 0, none⟩) 0 0)] 24 true), (0, 0, .cells [(.int .i64 600)] 3 true)]⟩⟩
theorem AR3 (h : Int) (k : Int) : AEV (codeAt [1, 1, 0] BA) (AS2 h k) [5, 7, 8, 9, 18] =
  some (.normal, (AS3 h k)) := by kernel_rfl
noncomputable def AS4 (h : Int) (k : Int) : KSt := ⟨(frameL 28 [(5, (.pointer (some ⟨0, 0, none⟩))), (7, (.pointer (some ⟨1, 0, none⟩))), (8, (.func (.func 28) #[] #[(.pointer (some ⟨2, 0, none⟩)), (.pointer (some ⟨3, 0, none⟩))])), (9, undef), (15, (.bool false)), (18, undef)]), ⟨5, 1, [(4, 0, .cells [] 3 true), (3, 0, .cells [(.int .u64 h)] 22 true), (2, 0, .cells [(.int .i64 k)] 3 true), (1, 0, .cells [(.slice (some ⟨4, 0, none⟩) 0 0)] 24 true), (0, 0, .cells [(.int .i64 600)] 3 true)]⟩⟩
theorem AR4 (h : Int) (k : Int) : AEV (codeAt [1, 1, 1, 0, 0] BA) (AS3 h k) [5, 7, 8, 9, 15, 18] =
  some (.normal, (AS4 h k)) := by kernel_rfl
theorem AR5 (h : Int) (k : Int) : AEV (codeAt [1, 1, 1, 0, 1, 1] BA) (AS4 h k) [5, 7, 8, 9, 18] =
  some (.normal, (AS3 h k)) := by kernel_rfl
noncomputable def AS5 (h : Int) (k : Int) : KSt := ⟨(frameL 28 [(5, (.pointer (some ⟨0, 0, none⟩))), (7, (.pointer (some ⟨1, 0, none⟩))), (9, undef), (17, (.func (.func 28) #[] #[(.pointer (some ⟨2, 0, none⟩)), (.pointer (some ⟨3, 0, none⟩))])), (18, undef)]), ⟨5, 1, [(4, 0, .cells [] 3 true), (3, 0, .cells [(.int .u64 h)] 22 true), (2, 0, .cells [(.int .i64 k)] 3 true), (1, 0, .cells [(.slice (some ⟨4, 0, none⟩) 0 0)] 24 true), (0, 0, .cells [(.int .i64 600)] 3 true)]⟩⟩
theorem AR6 (h : Int) (k : Int) : AEV (codeAt [1, 1, 1, 1, 0, 0] BA) (AS3 h k) [5, 7, 9, 17, 18] =
  some (.normal, (AS5 h k)) := by kernel_rfl
noncomputable def AS6 (w : List Int) (h : Int) (k : Int) (nn : Nat) : KSt := ⟨(frameL 28 [(5, (.pointer (some ⟨0, 0, none⟩))), (7, (.pointer (some ⟨1, 0, none⟩))), (9, undef), (17, (.func (.func 28) #[] #[(.pointer (some ⟨2, 0, none⟩)), (.pointer (some ⟨3, 0, none⟩))])), (18, undef)]), ⟨7, 5, [(6, 3, .ints .i64 w 3 true), (4, 0, .cells [] 3 true), (3, 0, .cells [(.int .u64 h)] 22 true), (2, 0, .cells [(.int .i64 k)] 3 true), (1, 2, .cells [(.slice (some ⟨6, 0, none⟩) nn nn)] 24 true), (0, 0, .cells [(.int .i64 600)] 3 true)]⟩⟩
noncomputable def AS7 (nn : Nat) (w : List Int) : KSt := ⟨(frameL 28 [(6, (.slice (some ⟨0, 0, none⟩) nn nn))]), ⟨1, 1, [(0, 0, .ints .i64 w 3 true)]⟩⟩
theorem AR7 (w : List Int) (h : Int) (k : Int) (nn : Nat) : AEV (codeAt [1, 1, 1, 1, 1, 0] BA) (AS6 w h k nn) [6] =
  some (.normal, (AS7 nn w)) := by kernel_rfl
theorem Ain {h : Int} {k : Int}   {Q : Ex → St → Prop} (hq : Gets Try.prog (KH.low ⟨0, 1, []⟩) (codeAt [1, 1, 1, 1, 0, 1, 0] BA) (KSt.low (AS5 h k)) (onB 0 (onN (fun s => Gets Try.prog (KH.low ⟨0, 1, []⟩) (codeAt [1, 1, 1, 1, 1] BA) s (Q)) (Q)))) : Gets Try.prog (KH.low ⟨0, 1, []⟩) BA (KSt.low (AS0 h k)) Q := by
  rw [AC]; refine Gets.seq ?_
  refine Ago (AR1 h k) ?_
  rw [AC1]; refine Gets.seq ?_
  refine Ago (AR2 h k) ?_
  rw [AC1_1]; refine Gets.seq ?_
  refine Ago (AR3 h k) ?_
  rw [AC1_1_1]; refine Gets.seq ?_
  rw [AC1_1_1_0]; refine Gets.seq ?_
  refine Ago (AR4 h k) ?_
  rw [AC1_1_1_0_1]; refine Gets.cond false (by kernel_rfl) (by kernel_rfl) ?_; show Gets _ _ (codeAt [1, 1, 1, 0, 1, 1] BA) _ _
  refine Ago (AR5 h k) ?_
  rw [AC1_1_1_1]; refine Gets.seq ?_
  rw [AC1_1_1_1_0]; refine Gets.seq ?_
  refine Ago (AR6 h k) ?_
  rw [AC1_1_1_1_0_1]; refine Gets.block ?_
  exact hq
theorem Aaft {nn : Nat} {w : List Int} {h : Int} {k : Int} (h1 : 1 ≤ nn) (h2 : nn ≤ 512) (hw : w.length = nn)   {Q : Ex → St → Prop} (hq : Q .ret (KSt.low (AS7 nn w))) : Gets Try.prog (KH.low ⟨0, 1, []⟩) (codeAt [1, 1, 1, 1, 1] BA) (KSt.low (AS6 w h k nn)) Q := by
  rw [AC1_1_1_1_1]; refine Gets.seq ?_
  refine Ago (AR7 w h k nn) ?_
  rw [AC1_1_1_1_1_1]; refine Gets.ev fitR.mix fitR.cfg (fitR.sound rt_sound 40 0) 40 rfl (s' := KSt.low (AS7 nn w)) (x := .ret) rfl ?_
  exact hq
noncomputable def BC : Code := bodyOf Try.prog 28
theorem BC_is : Try.f28.body = some BC := by kernel_rfl
theorem BC_ok : okCode Try.prog.globals.size BC = true := by kernel_rfl
noncomputable abbrev CEV (c : Code) (s : KSt) (lv : List Nat) : Option (Ex × KSt) := evCK Try.prog cfgR (runK Try.prog cfgR fsR (conTk rtDom (rcK [] rtT)) 40 40) 40 c s (normC 6 lv)
theorem Cgo {lv_ : List Nat} {co_ : Code} {st_ s' : KSt} {x : Ex} {Q : Ex → St → Prop} {h : Int} {k : Int} (hE_ : CEV co_ st_ lv_ = some (x, s')) (hq_ : Q x s'.low) (hok_ : okCode Try.prog.globals.size co_ = true := by kernel_rfl) : Gets Try.prog (KH.low ⟨6, 2, [(5, 1, .loop (frameL 28 [(5, (.pointer (some ⟨0, 0, none⟩))), (7, (.pointer (some ⟨1, 0, none⟩))), (9, undef), (17, (.func (.func 28) #[] #[(.pointer (some ⟨2, 0, none⟩)), (.pointer (some ⟨3, 0, none⟩))])), (18, undef)]) #[18] (codeAt [1, 1, 1, 1, 0, 1, 0, 0] BA) (codeAt [1, 1, 1, 1, 0, 1, 0, 1] BA) .ready), (4, 0, .cells [] 3 true), (3, 0, .cells [(.int .u64 h)] 22 true), (2, 0, .cells [(.int .i64 k)] 3 true), (1, 0, .cells [(.slice (some ⟨4, 0, none⟩) 0 0)] 24 true), (0, 0, .cells [(.int .i64 600)] 3 true)]⟩) co_ st_.low Q := Gets.ofN fitR rt_sound (rc_agree _ _ _) 40 40 hok_ hE_ hq_
theorem CeX {v : Value} {b c : Bool} (h : v = .bool b) (hb : b = c) : v = .bool c := by rw [h, hb]
theorem CC : BC = .seq (codeAt [0] BC) (codeAt [1] BC) := by kernel_rfl
theorem CC1 : (codeAt [1] BC) = .seq (codeAt [1, 0] BC) (codeAt [1, 1] BC) := by kernel_rfl
theorem CC1_1 : (codeAt [1, 1] BC) = .seq (codeAt [1, 1, 0] BC) (codeAt [1, 1, 1] BC) := by kernel_rfl
theorem CC1_1_1_0_0 : (codeAt [1, 1, 1, 0, 0] BC) = .seq (codeAt [1, 1, 1, 0, 0, 0] BC) (codeAt [1, 1, 1, 0, 0, 1] BC) := by kernel_rfl
theorem CC1_1_1_0_0_1 : (codeAt [1, 1, 1, 0, 0, 1] BC) = .seq (codeAt [1, 1, 1, 0, 0, 1, 0] BC) (codeAt [1, 1, 1, 0, 0, 1, 1] BC) := by kernel_rfl
theorem CC1_1_1_0_0_1_0 : (codeAt [1, 1, 1, 0, 0, 1, 0] BC) = .cond (.tmp 19) (codeAt [1, 1, 1, 0, 0, 1, 0, 0] BC) (codeAt [1, 1, 1, 0, 0, 1, 0, 1] BC) := by kernel_rfl
theorem CC1_1_1_0_0_1_1 : (codeAt [1, 1, 1, 0, 0, 1, 1] BC) = .seq (codeAt [1, 1, 1, 0, 0, 1, 1, 0] BC) (codeAt [1, 1, 1, 0, 0, 1, 1, 1] BC) := by kernel_rfl
theorem CC1_1_1_0_0_1_1_0 : (codeAt [1, 1, 1, 0, 0, 1, 1, 0] BC) = .block 1 (codeAt [1, 1, 1, 0, 0, 1, 1, 0, 0] BC) := by kernel_rfl
theorem CC1_1_1_0_0_1_1_0_0 : (codeAt [1, 1, 1, 0, 0, 1, 1, 0, 0] BC) = .seq (codeAt [1, 1, 1, 0, 0, 1, 1, 0, 0, 0] BC) (codeAt [1, 1, 1, 0, 0, 1, 1, 0, 0, 1] BC) := by kernel_rfl
theorem CC1_1_1_0_0_1_1_0_0_1 : (codeAt [1, 1, 1, 0, 0, 1, 1, 0, 0, 1] BC) = .seq (codeAt [1, 1, 1, 0, 0, 1, 1, 0, 0, 1, 0] BC) (codeAt [1, 1, 1, 0, 0, 1, 1, 0, 0, 1, 1] BC) := by kernel_rfl
theorem CC1_1_1_0_0_1_1_0_0_1_1 : (codeAt [1, 1, 1, 0, 0, 1, 1, 0, 0, 1, 1] BC) = .seq (codeAt [1, 1, 1, 0, 0, 1, 1, 0, 0, 1, 1, 0] BC) (codeAt [1, 1, 1, 0, 0, 1, 1, 0, 0, 1, 1, 1] BC) := by kernel_rfl
theorem CC1_1_1_0_0_1_1_0_0_1_1_1 : (codeAt [1, 1, 1, 0, 0, 1, 1, 0, 0, 1, 1, 1] BC) = .cond (.tmp 30) (codeAt [1, 1, 1, 0, 0, 1, 1, 0, 0, 1, 1, 1, 0] BC) (codeAt [1, 1, 1, 0, 0, 1, 1, 0, 0, 1, 1, 1, 1] BC) := by kernel_rfl
theorem CC1_1_1_0_0_1_0_1 : (codeAt [1, 1, 1, 0, 0, 1, 0, 1] BC) = .exit 0 := by kernel_rfl
theorem CC1_1_1 : (codeAt [1, 1, 1] BC) = .block 0 (codeAt [1, 1, 1, 0] BC) := by kernel_rfl
theorem CC1_1_1_0 : (codeAt [1, 1, 1, 0] BC) = .loop (codeAt [1, 1, 1, 0, 0] BC) := by kernel_rfl
noncomputable def CS0 (h : Int) (k : Int) : KSt := (firstK [(.func (.yield 5) #[] #[]), (.pointer (some ⟨2, 0, none⟩)), (.pointer (some ⟨3, 0, none⟩))] 32 ⟨6, 2, [(5, 1, .loop (frameL 28 [(5, (.pointer (some ⟨0, 0, none⟩))), (7, (.pointer (some ⟨1, 0, none⟩))), (9, undef), (17, (.func (.func 28) #[] #[(.pointer (some ⟨2, 0, none⟩)), (.pointer (some ⟨3, 0, none⟩))])), (18, undef)]) #[18] (codeAt [1, 1, 1, 1, 0, 1, 0, 0] BA) (codeAt [1, 1, 1, 1, 0, 1, 0, 1] BA) .ready), (4, 0, .cells [] 3 true), (3, 0, .cells [(.int .u64 h)] 22 true), (2, 0, .cells [(.int .i64 k)] 3 true), (1, 0, .cells [(.slice (some ⟨4, 0, none⟩) 0 0)] 24 true), (0, 0, .cells [(.int .i64 600)] 3 true)]⟩)
noncomputable def CS1 (k : Int) (h : Int) : KSt := ⟨(frameL 32 [(0, (.func (.yield 5) #[] #[])), (2, (.pointer (some ⟨3, 0, none⟩))), (4, (.int .i64 (groupsV k)))]), ⟨6, 1, [(5, 0, .loop (frameL 28 [(5, (.pointer (some ⟨0, 0, none⟩))), (7, (.pointer (some ⟨1, 0, none⟩))), (9, undef), (17, (.func (.func 28) #[] #[(.pointer (some ⟨2, 0, none⟩)), (.pointer (some ⟨3, 0, none⟩))])), (18, undef)]) #[18] (codeAt [1, 1, 1, 1, 0, 1, 0, 0] BA) (codeAt [1, 1, 1, 1, 0, 1, 0, 1] BA) .ready), (4, 0, .cells [] 3 true), (3, 0, .cells [(.int .u64 h)] 22 true), (2, 0, .cells [(.int .i64 k)] 3 true), (1, 0, .cells [(.slice (some ⟨4, 0, none⟩) 0 0)] 24 true), (0, 0, .cells [(.int .i64 600)] 3 true)]⟩⟩
theorem CR1 (h : Int) (k : Int) : CEV (codeAt [0] BC) (CS0 h k) [0, 2, 4] =
  some (.normal, (CS1 k h)) := by kernel_rfl
noncomputable def CS2 (nn : Nat) (h : Int) (k : Int) : KSt := ⟨(frameL 32 [(0, (.func (.yield 5) #[] #[])), (2, (.pointer (some ⟨3, 0, none⟩))), (4, (.int .i64 ((nn : Nat) : Int)))]), ⟨6, 1, [(5, 0, .loop (frameL 28 [(5, (.pointer (some ⟨0, 0, none⟩))), (7, (.pointer (some ⟨1, 0, none⟩))), (9, undef), (17, (.func (.func 28) #[] #[(.pointer (some ⟨2, 0, none⟩)), (.pointer (some ⟨3, 0, none⟩))])), (18, undef)]) #[18] (codeAt [1, 1, 1, 1, 0, 1, 0, 0] BA) (codeAt [1, 1, 1, 1, 0, 1, 0, 1] BA) .ready), (4, 0, .cells [] 3 true), (3, 0, .cells [(.int .u64 h)] 22 true), (2, 0, .cells [(.int .i64 k)] 3 true), (1, 0, .cells [(.slice (some ⟨4, 0, none⟩) 0 0)] 24 true), (0, 0, .cells [(.int .i64 600)] 3 true)]⟩⟩
noncomputable def CS3 (nn : Nat) (h : Int) (k : Int) : KSt := ⟨(frameL 32 [(0, (.func (.yield 5) #[] #[])), (4, (.int .i64 ((nn : Nat) : Int))), (5, (.int .i64 (IntKind.wrap .i64 (bits .and .u64 (Int.fdiv h (2 ^ 7)) (IntKind.wrap .u64 (if 0 > (IntKind.wrap .i64 (((nn : Nat) : Int) - 1)) then 0 else (IntKind.wrap .i64 (((nn : Nat) : Int) - 1))))))))]), ⟨6, 1, [(5, 0, .loop (frameL 28 [(5, (.pointer (some ⟨0, 0, none⟩))), (7, (.pointer (some ⟨1, 0, none⟩))), (9, undef), (17, (.func (.func 28) #[] #[(.pointer (some ⟨2, 0, none⟩)), (.pointer (some ⟨3, 0, none⟩))])), (18, undef)]) #[18] (codeAt [1, 1, 1, 1, 0, 1, 0, 0] BA) (codeAt [1, 1, 1, 1, 0, 1, 0, 1] BA) .ready), (4, 0, .cells [] 3 true), (3, 0, .cells [(.int .u64 h)] 22 true), (2, 0, .cells [(.int .i64 k)] 3 true), (1, 0, .cells [(.slice (some ⟨4, 0, none⟩) 0 0)] 24 true), (0, 0, .cells [(.int .i64 600)] 3 true)]⟩⟩
theorem CR2 (nn : Nat) (h : Int) (k : Int) : CEV (codeAt [1, 0] BC) (CS2 nn h k) [0, 4, 5] =
  some (.normal, (CS3 nn h k)) := by kernel_rfl
noncomputable def CS4 (nn : Nat) (s0 : Nat) (h : Int) (k : Int) : KSt := ⟨(frameL 32 [(0, (.func (.yield 5) #[] #[])), (4, (.int .i64 ((nn : Nat) : Int))), (5, (.int .i64 ((s0 : Nat) : Int)))]), ⟨6, 1, [(5, 0, .loop (frameL 28 [(5, (.pointer (some ⟨0, 0, none⟩))), (7, (.pointer (some ⟨1, 0, none⟩))), (9, undef), (17, (.func (.func 28) #[] #[(.pointer (some ⟨2, 0, none⟩)), (.pointer (some ⟨3, 0, none⟩))])), (18, undef)]) #[18] (codeAt [1, 1, 1, 1, 0, 1, 0, 0] BA) (codeAt [1, 1, 1, 1, 0, 1, 0, 1] BA) .ready), (4, 0, .cells [] 3 true), (3, 0, .cells [(.int .u64 h)] 22 true), (2, 0, .cells [(.int .i64 k)] 3 true), (1, 0, .cells [(.slice (some ⟨4, 0, none⟩) 0 0)] 24 true), (0, 0, .cells [(.int .i64 600)] 3 true)]⟩⟩
noncomputable def CS5 (nn : Nat) (s0 : Nat) (h : Int) (k : Int) : KSt := ⟨(frameL 32 [(0, (.func (.yield 5) #[] #[])), (4, (.int .i64 ((nn : Nat) : Int))), (5, (.int .i64 ((s0 : Nat) : Int))), (17, (.int .i64 ((nn : Nat) : Int))), (18, (.int .i64 0))]), ⟨6, 1, [(5, 0, .loop (frameL 28 [(5, (.pointer (some ⟨0, 0, none⟩))), (7, (.pointer (some ⟨1, 0, none⟩))), (9, undef), (17, (.func (.func 28) #[] #[(.pointer (some ⟨2, 0, none⟩)), (.pointer (some ⟨3, 0, none⟩))])), (18, undef)]) #[18] (codeAt [1, 1, 1, 1, 0, 1, 0, 0] BA) (codeAt [1, 1, 1, 1, 0, 1, 0, 1] BA) .ready), (4, 0, .cells [] 3 true), (3, 0, .cells [(.int .u64 h)] 22 true), (2, 0, .cells [(.int .i64 k)] 3 true), (1, 0, .cells [(.slice (some ⟨4, 0, none⟩) 0 0)] 24 true), (0, 0, .cells [(.int .i64 600)] 3 true)]⟩⟩
theorem CR3 (nn : Nat) (s0 : Nat) (h : Int) (k : Int) : CEV (codeAt [1, 1, 0] BC) (CS4 nn s0 h k) [0, 4, 5, 17, 18] =
  some (.normal, (CS5 nn s0 h k)) := by kernel_rfl
noncomputable def CS6 (nn : Nat) (s0 : Nat) (h : Int) (k : Int) : KSt := ⟨(frameL 32 [(0, (.func (.yield 5) #[] #[])), (4, (.int .i64 ((nn : Nat) : Int))), (5, (.int .i64 ((s0 : Nat) : Int))), (17, (.int .i64 ((nn : Nat) : Int))), (18, (.int .i64 0)), (19, (.bool (decide (0 < ((nn : Nat) : Int)))))]), ⟨6, 1, [(5, 0, .loop (frameL 28 [(5, (.pointer (some ⟨0, 0, none⟩))), (7, (.pointer (some ⟨1, 0, none⟩))), (9, undef), (17, (.func (.func 28) #[] #[(.pointer (some ⟨2, 0, none⟩)), (.pointer (some ⟨3, 0, none⟩))])), (18, undef)]) #[18] (codeAt [1, 1, 1, 1, 0, 1, 0, 0] BA) (codeAt [1, 1, 1, 1, 0, 1, 0, 1] BA) .ready), (4, 0, .cells [] 3 true), (3, 0, .cells [(.int .u64 h)] 22 true), (2, 0, .cells [(.int .i64 k)] 3 true), (1, 0, .cells [(.slice (some ⟨4, 0, none⟩) 0 0)] 24 true), (0, 0, .cells [(.int .i64 600)] 3 true)]⟩⟩
theorem CR4 (nn : Nat) (s0 : Nat) (h : Int) (k : Int) : CEV (codeAt [1, 1, 1, 0, 0, 0] BC) (CS5 nn s0 h k) [0, 4, 5, 17, 18, 19] =
  some (.normal, (CS6 nn s0 h k)) := by kernel_rfl
theorem CR5 (nn : Nat) (s0 : Nat) (h : Int) (k : Int) : CEV (codeAt [1, 1, 1, 0, 0, 1, 0, 0] BC) (CS6 nn s0 h k) [0, 4, 5, 17, 18] =
  some (.normal, (CS5 nn s0 h k)) := by kernel_rfl
noncomputable def CS7 (nn : Nat) (s0 : Nat) (h : Int) (k : Int) : KSt := ⟨(frameL 32 [(0, (.func (.yield 5) #[] #[])), (4, (.int .i64 ((nn : Nat) : Int))), (5, (.int .i64 ((s0 : Nat) : Int))), (6, (.int .i64 0)), (17, (.int .i64 ((nn : Nat) : Int))), (18, (.int .i64 0))]), ⟨6, 1, [(5, 0, .loop (frameL 28 [(5, (.pointer (some ⟨0, 0, none⟩))), (7, (.pointer (some ⟨1, 0, none⟩))), (9, undef), (17, (.func (.func 28) #[] #[(.pointer (some ⟨2, 0, none⟩)), (.pointer (some ⟨3, 0, none⟩))])), (18, undef)]) #[18] (codeAt [1, 1, 1, 1, 0, 1, 0, 0] BA) (codeAt [1, 1, 1, 1, 0, 1, 0, 1] BA) .ready), (4, 0, .cells [] 3 true), (3, 0, .cells [(.int .u64 h)] 22 true), (2, 0, .cells [(.int .i64 k)] 3 true), (1, 0, .cells [(.slice (some ⟨4, 0, none⟩) 0 0)] 24 true), (0, 0, .cells [(.int .i64 600)] 3 true)]⟩⟩
theorem CR6 (nn : Nat) (s0 : Nat) (h : Int) (k : Int) : CEV (codeAt [1, 1, 1, 0, 0, 1, 1, 0, 0, 0] BC) (CS5 nn s0 h k) [0, 4, 5, 6, 17, 18] =
  some (.normal, (CS7 nn s0 h k)) := by kernel_rfl
noncomputable def CS8 (nn : Nat) (s0 : Nat) (h : Int) (k : Int) : KSt := ⟨(frameL 32 [(0, (.func (.yield 5) #[] #[])), (4, (.int .i64 ((nn : Nat) : Int))), (5, (.int .i64 (bits .and .i64 (IntKind.wrap .i64 (((s0 : Nat) : Int) + 0)) (IntKind.wrap .i64 (((nn : Nat) : Int) - 1))))), (17, (.int .i64 ((nn : Nat) : Int))), (18, (.int .i64 0))]), ⟨6, 1, [(5, 0, .loop (frameL 28 [(5, (.pointer (some ⟨0, 0, none⟩))), (7, (.pointer (some ⟨1, 0, none⟩))), (9, undef), (17, (.func (.func 28) #[] #[(.pointer (some ⟨2, 0, none⟩)), (.pointer (some ⟨3, 0, none⟩))])), (18, undef)]) #[18] (codeAt [1, 1, 1, 1, 0, 1, 0, 0] BA) (codeAt [1, 1, 1, 1, 0, 1, 0, 1] BA) .ready), (4, 0, .cells [] 3 true), (3, 0, .cells [(.int .u64 h)] 22 true), (2, 0, .cells [(.int .i64 k)] 3 true), (1, 0, .cells [(.slice (some ⟨4, 0, none⟩) 0 0)] 24 true), (0, 0, .cells [(.int .i64 600)] 3 true)]⟩⟩
theorem CR7 (nn : Nat) (s0 : Nat) (h : Int) (k : Int) : CEV (codeAt [1, 1, 1, 0, 0, 1, 1, 0, 0, 1, 0] BC) (CS7 nn s0 h k) [0, 4, 5, 17, 18] =
  some (.normal, (CS8 nn s0 h k)) := by kernel_rfl
noncomputable def CS9 (nn : Nat) (b : Nat) (h : Int) (k : Int) : KSt := ⟨(frameL 32 [(0, (.func (.yield 5) #[] #[])), (4, (.int .i64 ((nn : Nat) : Int))), (5, (.int .i64 ((b : Nat) : Int))), (17, (.int .i64 ((nn : Nat) : Int))), (18, (.int .i64 0))]), ⟨6, 1, [(5, 0, .loop (frameL 28 [(5, (.pointer (some ⟨0, 0, none⟩))), (7, (.pointer (some ⟨1, 0, none⟩))), (9, undef), (17, (.func (.func 28) #[] #[(.pointer (some ⟨2, 0, none⟩)), (.pointer (some ⟨3, 0, none⟩))])), (18, undef)]) #[18] (codeAt [1, 1, 1, 1, 0, 1, 0, 0] BA) (codeAt [1, 1, 1, 1, 0, 1, 0, 1] BA) .ready), (4, 0, .cells [] 3 true), (3, 0, .cells [(.int .u64 h)] 22 true), (2, 0, .cells [(.int .i64 k)] 3 true), (1, 0, .cells [(.slice (some ⟨4, 0, none⟩) 0 0)] 24 true), (0, 0, .cells [(.int .i64 600)] 3 true)]⟩⟩
noncomputable def CS10 (nn : Nat) (b : Nat) (h : Int) (k : Int) : KSt := ⟨(frameL 32 [(0, (.func (.yield 5) #[] #[])), (4, (.int .i64 ((nn : Nat) : Int))), (5, (.int .i64 ((b : Nat) : Int))), (17, (.int .i64 ((nn : Nat) : Int))), (18, (.int .i64 0)), (30, (.bool false))]), ⟨7, 1, [(6, 0, .cells [(.int .i64 ((b : Nat) : Int))] 3 true), (5, 0, .loop (frameL 28 [(5, (.pointer (some ⟨0, 0, none⟩))), (7, (.pointer (some ⟨1, 0, none⟩))), (9, undef), (17, (.func (.func 28) #[] #[(.pointer (some ⟨2, 0, none⟩)), (.pointer (some ⟨3, 0, none⟩))])), (18, undef)]) #[18] (codeAt [1, 1, 1, 1, 0, 1, 0, 0] BA) (codeAt [1, 1, 1, 1, 0, 1, 0, 1] BA) .ready), (4, 0, .cells [] 3 true), (3, 0, .cells [(.int .u64 h)] 22 true), (2, 0, .cells [(.int .i64 k)] 3 true), (1, 0, .cells [(.slice (some ⟨6, 0, none⟩) 1 1)] 24 true), (0, 0, .cells [(.int .i64 600)] 3 true)]⟩⟩
theorem CR8 (nn : Nat) (b : Nat) (h : Int) (k : Int) : CEV (codeAt [1, 1, 1, 0, 0, 1, 1, 0, 0, 1, 1, 0] BC) (CS9 nn b h k) [0, 4, 5, 17, 18, 30] =
  some (.normal, (CS10 nn b h k)) := by kernel_rfl
noncomputable def CS11 (nn : Nat) (b : Nat) (h : Int) (k : Int) : KSt := ⟨(frameL 32 [(0, (.func (.yield 5) #[] #[])), (4, (.int .i64 ((nn : Nat) : Int))), (5, (.int .i64 ((b : Nat) : Int))), (17, (.int .i64 ((nn : Nat) : Int))), (18, (.int .i64 0))]), ⟨7, 1, [(6, 0, .cells [(.int .i64 ((b : Nat) : Int))] 3 true), (5, 0, .loop (frameL 28 [(5, (.pointer (some ⟨0, 0, none⟩))), (7, (.pointer (some ⟨1, 0, none⟩))), (9, undef), (17, (.func (.func 28) #[] #[(.pointer (some ⟨2, 0, none⟩)), (.pointer (some ⟨3, 0, none⟩))])), (18, undef)]) #[18] (codeAt [1, 1, 1, 1, 0, 1, 0, 0] BA) (codeAt [1, 1, 1, 1, 0, 1, 0, 1] BA) .ready), (4, 0, .cells [] 3 true), (3, 0, .cells [(.int .u64 h)] 22 true), (2, 0, .cells [(.int .i64 k)] 3 true), (1, 0, .cells [(.slice (some ⟨6, 0, none⟩) 1 1)] 24 true), (0, 0, .cells [(.int .i64 600)] 3 true)]⟩⟩
theorem CR9 (nn : Nat) (b : Nat) (h : Int) (k : Int) : CEV (codeAt [1, 1, 1, 0, 0, 1, 1, 0, 0, 1, 1, 1, 1] BC) (CS10 nn b h k) [0, 4, 5, 17, 18] =
  some (.normal, (CS11 nn b h k)) := by kernel_rfl
noncomputable def CS12 (nn : Nat) (b : Nat) (h : Int) (k : Int) : KSt := ⟨(frameL 32 [(0, (.func (.yield 5) #[] #[])), (4, (.int .i64 ((nn : Nat) : Int))), (5, (.int .i64 ((b : Nat) : Int))), (17, (.int .i64 ((nn : Nat) : Int))), (18, (.int .i64 1))]), ⟨7, 1, [(6, 0, .cells [(.int .i64 ((b : Nat) : Int))] 3 true), (5, 0, .loop (frameL 28 [(5, (.pointer (some ⟨0, 0, none⟩))), (7, (.pointer (some ⟨1, 0, none⟩))), (9, undef), (17, (.func (.func 28) #[] #[(.pointer (some ⟨2, 0, none⟩)), (.pointer (some ⟨3, 0, none⟩))])), (18, undef)]) #[18] (codeAt [1, 1, 1, 1, 0, 1, 0, 0] BA) (codeAt [1, 1, 1, 1, 0, 1, 0, 1] BA) .ready), (4, 0, .cells [] 3 true), (3, 0, .cells [(.int .u64 h)] 22 true), (2, 0, .cells [(.int .i64 k)] 3 true), (1, 0, .cells [(.slice (some ⟨6, 0, none⟩) 1 1)] 24 true), (0, 0, .cells [(.int .i64 600)] 3 true)]⟩⟩
theorem CR10 (nn : Nat) (b : Nat) (h : Int) (k : Int) : CEV (codeAt [1, 1, 1, 0, 0, 1, 1, 1] BC) (CS11 nn b h k) [0, 4, 5, 17, 18] =
  some (.normal, (CS12 nn b h k)) := by kernel_rfl
noncomputable def CS13 (nn : Nat) (b : Nat) (i : Nat) (w : List Int) (h : Int) (k : Int) : KSt := ⟨(frameL 32 [(0, (.func (.yield 5) #[] #[])), (4, (.int .i64 ((nn : Nat) : Int))), (5, (.int .i64 ((b : Nat) : Int))), (17, (.int .i64 ((nn : Nat) : Int))), (18, (.int .i64 ((i : Nat) : Int)))]), ⟨7, 1, [(6, 0, .ints .i64 w 3 true), (5, 0, .loop (frameL 28 [(5, (.pointer (some ⟨0, 0, none⟩))), (7, (.pointer (some ⟨1, 0, none⟩))), (9, undef), (17, (.func (.func 28) #[] #[(.pointer (some ⟨2, 0, none⟩)), (.pointer (some ⟨3, 0, none⟩))])), (18, undef)]) #[18] (codeAt [1, 1, 1, 1, 0, 1, 0, 0] BA) (codeAt [1, 1, 1, 1, 0, 1, 0, 1] BA) .ready), (4, 0, .cells [] 3 true), (3, 0, .cells [(.int .u64 h)] 22 true), (2, 0, .cells [(.int .i64 k)] 3 true), (1, 0, .cells [(.slice (some ⟨6, 0, none⟩) i i)] 24 true), (0, 0, .cells [(.int .i64 600)] 3 true)]⟩⟩
noncomputable def CS14 (nn : Nat) (b : Nat) (i : Nat) (w : List Int) (h : Int) (k : Int) : KSt := ⟨(frameL 32 [(0, (.func (.yield 5) #[] #[])), (4, (.int .i64 ((nn : Nat) : Int))), (5, (.int .i64 ((b : Nat) : Int))), (17, (.int .i64 ((nn : Nat) : Int))), (18, (.int .i64 ((i : Nat) : Int))), (19, (.bool (decide (((i : Nat) : Int) < ((nn : Nat) : Int)))))]), ⟨7, 1, [(6, 0, .ints .i64 w 3 true), (5, 0, .loop (frameL 28 [(5, (.pointer (some ⟨0, 0, none⟩))), (7, (.pointer (some ⟨1, 0, none⟩))), (9, undef), (17, (.func (.func 28) #[] #[(.pointer (some ⟨2, 0, none⟩)), (.pointer (some ⟨3, 0, none⟩))])), (18, undef)]) #[18] (codeAt [1, 1, 1, 1, 0, 1, 0, 0] BA) (codeAt [1, 1, 1, 1, 0, 1, 0, 1] BA) .ready), (4, 0, .cells [] 3 true), (3, 0, .cells [(.int .u64 h)] 22 true), (2, 0, .cells [(.int .i64 k)] 3 true), (1, 0, .cells [(.slice (some ⟨6, 0, none⟩) i i)] 24 true), (0, 0, .cells [(.int .i64 600)] 3 true)]⟩⟩
theorem CR11 (nn : Nat) (b : Nat) (i : Nat) (w : List Int) (h : Int) (k : Int) : CEV (codeAt [1, 1, 1, 0, 0, 0] BC) (CS13 nn b i w h k) [0, 4, 5, 17, 18, 19] =
  some (.normal, (CS14 nn b i w h k)) := by kernel_rfl
theorem CR12 (nn : Nat) (b : Nat) (i : Nat) (w : List Int) (h : Int) (k : Int) : CEV (codeAt [1, 1, 1, 0, 0, 1, 0, 0] BC) (CS14 nn b i w h k) [0, 4, 5, 17, 18] =
  some (.normal, (CS13 nn b i w h k)) := by kernel_rfl
noncomputable def CS15 (nn : Nat) (b : Nat) (i : Nat) (w : List Int) (h : Int) (k : Int) : KSt := ⟨(frameL 32 [(0, (.func (.yield 5) #[] #[])), (4, (.int .i64 ((nn : Nat) : Int))), (5, (.int .i64 ((b : Nat) : Int))), (6, (.int .i64 ((i : Nat) : Int))), (17, (.int .i64 ((nn : Nat) : Int))), (18, (.int .i64 ((i : Nat) : Int)))]), ⟨7, 1, [(6, 0, .ints .i64 w 3 true), (5, 0, .loop (frameL 28 [(5, (.pointer (some ⟨0, 0, none⟩))), (7, (.pointer (some ⟨1, 0, none⟩))), (9, undef), (17, (.func (.func 28) #[] #[(.pointer (some ⟨2, 0, none⟩)), (.pointer (some ⟨3, 0, none⟩))])), (18, undef)]) #[18] (codeAt [1, 1, 1, 1, 0, 1, 0, 0] BA) (codeAt [1, 1, 1, 1, 0, 1, 0, 1] BA) .ready), (4, 0, .cells [] 3 true), (3, 0, .cells [(.int .u64 h)] 22 true), (2, 0, .cells [(.int .i64 k)] 3 true), (1, 0, .cells [(.slice (some ⟨6, 0, none⟩) i i)] 24 true), (0, 0, .cells [(.int .i64 600)] 3 true)]⟩⟩
theorem CR13 (nn : Nat) (b : Nat) (i : Nat) (w : List Int) (h : Int) (k : Int) : CEV (codeAt [1, 1, 1, 0, 0, 1, 1, 0, 0, 0] BC) (CS13 nn b i w h k) [0, 4, 5, 6, 17, 18] =
  some (.normal, (CS15 nn b i w h k)) := by kernel_rfl
noncomputable def CS16 (nn : Nat) (b : Nat) (i : Nat) (w : List Int) (h : Int) (k : Int) : KSt := ⟨(frameL 32 [(0, (.func (.yield 5) #[] #[])), (4, (.int .i64 ((nn : Nat) : Int))), (5, (.int .i64 (bits .and .i64 (IntKind.wrap .i64 (((b : Nat) : Int) + ((i : Nat) : Int))) (IntKind.wrap .i64 (((nn : Nat) : Int) - 1))))), (17, (.int .i64 ((nn : Nat) : Int))), (18, (.int .i64 ((i : Nat) : Int)))]), ⟨7, 1, [(6, 0, .ints .i64 w 3 true), (5, 0, .loop (frameL 28 [(5, (.pointer (some ⟨0, 0, none⟩))), (7, (.pointer (some ⟨1, 0, none⟩))), (9, undef), (17, (.func (.func 28) #[] #[(.pointer (some ⟨2, 0, none⟩)), (.pointer (some ⟨3, 0, none⟩))])), (18, undef)]) #[18] (codeAt [1, 1, 1, 1, 0, 1, 0, 0] BA) (codeAt [1, 1, 1, 1, 0, 1, 0, 1] BA) .ready), (4, 0, .cells [] 3 true), (3, 0, .cells [(.int .u64 h)] 22 true), (2, 0, .cells [(.int .i64 k)] 3 true), (1, 0, .cells [(.slice (some ⟨6, 0, none⟩) i i)] 24 true), (0, 0, .cells [(.int .i64 600)] 3 true)]⟩⟩
theorem CR14 (nn : Nat) (b : Nat) (i : Nat) (w : List Int) (h : Int) (k : Int) : CEV (codeAt [1, 1, 1, 0, 0, 1, 1, 0, 0, 1, 0] BC) (CS15 nn b i w h k) [0, 4, 5, 17, 18] =
  some (.normal, (CS16 nn b i w h k)) := by kernel_rfl
noncomputable def CS17 (nn : Nat) (b2 : Nat) (i : Nat) (w : List Int) (h : Int) (k : Int) : KSt := ⟨(frameL 32 [(0, (.func (.yield 5) #[] #[])), (4, (.int .i64 ((nn : Nat) : Int))), (5, (.int .i64 ((b2 : Nat) : Int))), (17, (.int .i64 ((nn : Nat) : Int))), (18, (.int .i64 ((i : Nat) : Int)))]), ⟨7, 1, [(6, 0, .ints .i64 w 3 true), (5, 0, .loop (frameL 28 [(5, (.pointer (some ⟨0, 0, none⟩))), (7, (.pointer (some ⟨1, 0, none⟩))), (9, undef), (17, (.func (.func 28) #[] #[(.pointer (some ⟨2, 0, none⟩)), (.pointer (some ⟨3, 0, none⟩))])), (18, undef)]) #[18] (codeAt [1, 1, 1, 1, 0, 1, 0, 0] BA) (codeAt [1, 1, 1, 1, 0, 1, 0, 1] BA) .ready), (4, 0, .cells [] 3 true), (3, 0, .cells [(.int .u64 h)] 22 true), (2, 0, .cells [(.int .i64 k)] 3 true), (1, 0, .cells [(.slice (some ⟨6, 0, none⟩) i i)] 24 true), (0, 0, .cells [(.int .i64 600)] 3 true)]⟩⟩
noncomputable def CS18 (nn : Nat) (b2 : Nat) (i : Nat) (w : List Int) (h : Int) (k : Int) : KSt := ⟨(frameL 32 [(0, (.func (.yield 5) #[] #[])), (4, (.int .i64 ((nn : Nat) : Int))), (5, (.int .i64 ((b2 : Nat) : Int))), (17, (.int .i64 ((nn : Nat) : Int))), (18, (.int .i64 ((i : Nat) : Int))), (30, (.bool true))]), ⟨7, 1, [(6, 0, .ints .i64 w 3 true), (5, 0, .loop (frameL 28 [(5, (.pointer (some ⟨0, 0, none⟩))), (7, (.pointer (some ⟨1, 0, none⟩))), (9, undef), (17, (.func (.func 28) #[] #[(.pointer (some ⟨2, 0, none⟩)), (.pointer (some ⟨3, 0, none⟩))])), (18, undef)]) #[18] (codeAt [1, 1, 1, 1, 0, 1, 0, 0] BA) (codeAt [1, 1, 1, 1, 0, 1, 0, 1] BA) (.done (.exit 0))), (4, 0, .cells [] 3 true), (3, 0, .cells [(.int .u64 h)] 22 true), (2, 0, .cells [(.int .i64 k)] 3 true), (1, 0, .cells [(.slice (some ⟨6, 0, none⟩) i i)] 24 true), (0, 0, .cells [(.int .i64 600)] 3 true)]⟩⟩
noncomputable def CS19 (nn : Nat) (b2 : Nat) (i : Nat) (w : List Int) (h : Int) (k : Int) : KSt := ⟨(frameL 32 [(0, (.func (.yield 5) #[] #[])), (4, (.int .i64 ((nn : Nat) : Int))), (5, (.int .i64 ((b2 : Nat) : Int))), (17, (.int .i64 ((nn : Nat) : Int))), (18, (.int .i64 ((i : Nat) : Int))), (30, (.bool false))]), ⟨7, 1, [(6, 0, .ints .i64 (List.take (0 + i) w ++ [((b2 : Nat) : Int)] ++ List.drop ((0 + i) + (List.length [((b2 : Nat) : Int)])) w) 3 true), (5, 0, .loop (frameL 28 [(5, (.pointer (some ⟨0, 0, none⟩))), (7, (.pointer (some ⟨1, 0, none⟩))), (9, undef), (17, (.func (.func 28) #[] #[(.pointer (some ⟨2, 0, none⟩)), (.pointer (some ⟨3, 0, none⟩))])), (18, undef)]) #[18] (codeAt [1, 1, 1, 1, 0, 1, 0, 0] BA) (codeAt [1, 1, 1, 1, 0, 1, 0, 1] BA) .ready), (4, 0, .cells [] 3 true), (3, 0, .cells [(.int .u64 h)] 22 true), (2, 0, .cells [(.int .i64 k)] 3 true), (1, 0, .cells [(.slice (some ⟨6, 0, none⟩) (i + 1) i)] 24 true), (0, 0, .cells [(.int .i64 600)] 3 true)]⟩⟩
noncomputable def CS20 (nn : Nat) (b2 : Nat) (i : Nat) (h : Int) (k : Int) : KSt := ⟨(frameL 32 [(0, (.func (.yield 5) #[] #[])), (4, (.int .i64 ((nn : Nat) : Int))), (5, (.int .i64 ((b2 : Nat) : Int))), (17, (.int .i64 ((nn : Nat) : Int))), (18, (.int .i64 ((i : Nat) : Int))), (30, (.bool false))]), ⟨7, 1, [(6, 0, .cells [(.int .i64 ((b2 : Nat) : Int))] 3 true), (5, 0, .loop (frameL 28 [(5, (.pointer (some ⟨0, 0, none⟩))), (7, (.pointer (some ⟨1, 0, none⟩))), (9, undef), (17, (.func (.func 28) #[] #[(.pointer (some ⟨2, 0, none⟩)), (.pointer (some ⟨3, 0, none⟩))])), (18, undef)]) #[18] (codeAt [1, 1, 1, 1, 0, 1, 0, 0] BA) (codeAt [1, 1, 1, 1, 0, 1, 0, 1] BA) .ready), (4, 0, .cells [] 3 true), (3, 0, .cells [(.int .u64 h)] 22 true), (2, 0, .cells [(.int .i64 k)] 3 true), (1, 0, .cells [(.slice (some ⟨6, 0, none⟩) 1 1)] 24 true), (0, 0, .cells [(.int .i64 600)] 3 true)]⟩⟩
noncomputable def CS21 (nn : Nat) (b2 : Nat) (i : Nat) (w : List Int) (h : Int) (k : Int) : KSt := ⟨(frameL 32 [(0, (.func (.yield 5) #[] #[])), (4, (.int .i64 ((nn : Nat) : Int))), (5, (.int .i64 ((b2 : Nat) : Int))), (17, (.int .i64 ((nn : Nat) : Int))), (18, (.int .i64 ((i : Nat) : Int))), (30, (.bool false))]), ⟨7, 1, [(6, 0, .ints .i64 (List.take i w ++ [((b2 : Nat) : Int)]) 3 true), (5, 0, .loop (frameL 28 [(5, (.pointer (some ⟨0, 0, none⟩))), (7, (.pointer (some ⟨1, 0, none⟩))), (9, undef), (17, (.func (.func 28) #[] #[(.pointer (some ⟨2, 0, none⟩)), (.pointer (some ⟨3, 0, none⟩))])), (18, undef)]) #[18] (codeAt [1, 1, 1, 1, 0, 1, 0, 0] BA) (codeAt [1, 1, 1, 1, 0, 1, 0, 1] BA) .ready), (4, 0, .cells [] 3 true), (3, 0, .cells [(.int .u64 h)] 22 true), (2, 0, .cells [(.int .i64 k)] 3 true), (1, 0, .cells [(.slice (some ⟨6, 0, none⟩) (i + 1) (i + 1))] 24 true), (0, 0, .cells [(.int .i64 600)] 3 true)]⟩⟩
theorem CR15 (nn : Nat) (b2 : Nat) (i : Nat) (w : List Int) (h : Int) (k : Int) : CEV (codeAt [1, 1, 1, 0, 0, 1, 1, 0, 0, 1, 1, 0] BC) (CS17 nn b2 i w h k) [0, 4, 5, 17, 18, 30] =
  bif (((i : Nat) : Int) == 600) then
    some (.normal, (CS18 nn b2 i w h k))
  else
    bif (Nat.ble ((i + 1) * 9) 1099511627776) then
      bif (Nat.ble (i + 1) i) then
        bif (Nat.ble (0 + (i + 1)) (List.length w)) then
          some (.normal, (CS19 nn b2 i w h k))
        else
          none
      else
        bif ((Nat.beq i 0) && (Nat.beq i 0)) then
          some (.normal, (CS20 nn b2 i h k))
        else
          bif ((Nat.ble i (List.length w)) && (Nat.ble 1 i)) then
            some (.normal, (CS21 nn b2 i w h k))
          else
            none
    else
      none := by kernel_rfl
noncomputable def CS22 (nn : Nat) (b2 : Nat) (i : Nat) (w : List Int) (h : Int) (k : Int) : KSt := ⟨(frameL 32 [(0, (.func (.yield 5) #[] #[])), (4, (.int .i64 ((nn : Nat) : Int))), (5, (.int .i64 ((b2 : Nat) : Int))), (17, (.int .i64 ((nn : Nat) : Int))), (18, (.int .i64 ((i : Nat) : Int)))]), ⟨7, 1, [(6, 0, .ints .i64 (List.take i w ++ [((b2 : Nat) : Int)]) 3 true), (5, 0, .loop (frameL 28 [(5, (.pointer (some ⟨0, 0, none⟩))), (7, (.pointer (some ⟨1, 0, none⟩))), (9, undef), (17, (.func (.func 28) #[] #[(.pointer (some ⟨2, 0, none⟩)), (.pointer (some ⟨3, 0, none⟩))])), (18, undef)]) #[18] (codeAt [1, 1, 1, 1, 0, 1, 0, 0] BA) (codeAt [1, 1, 1, 1, 0, 1, 0, 1] BA) .ready), (4, 0, .cells [] 3 true), (3, 0, .cells [(.int .u64 h)] 22 true), (2, 0, .cells [(.int .i64 k)] 3 true), (1, 0, .cells [(.slice (some ⟨6, 0, none⟩) (i + 1) (i + 1))] 24 true), (0, 0, .cells [(.int .i64 600)] 3 true)]⟩⟩
theorem CR16 (nn : Nat) (b2 : Nat) (i : Nat) (w : List Int) (h : Int) (k : Int) : CEV (codeAt [1, 1, 1, 0, 0, 1, 1, 0, 0, 1, 1, 1, 1] BC) (CS21 nn b2 i w h k) [0, 4, 5, 17, 18] =
  some (.normal, (CS22 nn b2 i w h k)) := by kernel_rfl
noncomputable def CS23 (nn : Nat) (b2 : Nat) (i : Nat) (w : List Int) (h : Int) (k : Int) : KSt := ⟨(frameL 32 [(0, (.func (.yield 5) #[] #[])), (4, (.int .i64 ((nn : Nat) : Int))), (5, (.int .i64 ((b2 : Nat) : Int))), (17, (.int .i64 ((nn : Nat) : Int))), (18, (.int .i64 (IntKind.wrap .i64 (((i : Nat) : Int) + 1))))]), ⟨7, 1, [(6, 0, .ints .i64 (List.take i w ++ [((b2 : Nat) : Int)]) 3 true), (5, 0, .loop (frameL 28 [(5, (.pointer (some ⟨0, 0, none⟩))), (7, (.pointer (some ⟨1, 0, none⟩))), (9, undef), (17, (.func (.func 28) #[] #[(.pointer (some ⟨2, 0, none⟩)), (.pointer (some ⟨3, 0, none⟩))])), (18, undef)]) #[18] (codeAt [1, 1, 1, 1, 0, 1, 0, 0] BA) (codeAt [1, 1, 1, 1, 0, 1, 0, 1] BA) .ready), (4, 0, .cells [] 3 true), (3, 0, .cells [(.int .u64 h)] 22 true), (2, 0, .cells [(.int .i64 k)] 3 true), (1, 0, .cells [(.slice (some ⟨6, 0, none⟩) (i + 1) (i + 1))] 24 true), (0, 0, .cells [(.int .i64 600)] 3 true)]⟩⟩
theorem CR17 (nn : Nat) (b2 : Nat) (i : Nat) (w : List Int) (h : Int) (k : Int) : CEV (codeAt [1, 1, 1, 0, 0, 1, 1, 1] BC) (CS22 nn b2 i w h k) [0, 4, 5, 17, 18] =
  some (.normal, (CS23 nn b2 i w h k)) := by kernel_rfl
noncomputable def CS24 (nn : Nat) (b2 : Nat) (i : Nat) (w : List Int) (h : Int) (k : Int) : KSt := ⟨(frameL 32 [(0, (.func (.yield 5) #[] #[])), (4, (.int .i64 ((nn : Nat) : Int))), (5, (.int .i64 ((b2 : Nat) : Int))), (17, (.int .i64 ((nn : Nat) : Int))), (18, (.int .i64 (((i : Nat) : Int) + 1)))]), ⟨7, 1, [(6, 0, .ints .i64 (List.take i w ++ [((b2 : Nat) : Int)]) 3 true), (5, 0, .loop (frameL 28 [(5, (.pointer (some ⟨0, 0, none⟩))), (7, (.pointer (some ⟨1, 0, none⟩))), (9, undef), (17, (.func (.func 28) #[] #[(.pointer (some ⟨2, 0, none⟩)), (.pointer (some ⟨3, 0, none⟩))])), (18, undef)]) #[18] (codeAt [1, 1, 1, 1, 0, 1, 0, 0] BA) (codeAt [1, 1, 1, 1, 0, 1, 0, 1] BA) .ready), (4, 0, .cells [] 3 true), (3, 0, .cells [(.int .u64 h)] 22 true), (2, 0, .cells [(.int .i64 k)] 3 true), (1, 0, .cells [(.slice (some ⟨6, 0, none⟩) (i + 1) (i + 1))] 24 true), (0, 0, .cells [(.int .i64 600)] 3 true)]⟩⟩
theorem Cin {k : Int} {nn : Nat} {h : Int} {s0 : Nat} (hg : groupsV k = ((nn : Nat) : Int)) (hs0 : (IntKind.wrap .i64 (bits .and .u64 (Int.fdiv h (2 ^ 7)) (IntKind.wrap .u64 (if 0 > (IntKind.wrap .i64 (((nn : Nat) : Int) - 1)) then 0 else (IntKind.wrap .i64 (((nn : Nat) : Int) - 1)))))) = ((s0 : Nat) : Int))   {Q : Ex → St → Prop} (hq : Gets Try.prog (KH.low ⟨6, 2, [(5, 1, .loop (frameL 28 [(5, (.pointer (some ⟨0, 0, none⟩))), (7, (.pointer (some ⟨1, 0, none⟩))), (9, undef), (17, (.func (.func 28) #[] #[(.pointer (some ⟨2, 0, none⟩)), (.pointer (some ⟨3, 0, none⟩))])), (18, undef)]) #[18] (codeAt [1, 1, 1, 1, 0, 1, 0, 0] BA) (codeAt [1, 1, 1, 1, 0, 1, 0, 1] BA) .ready), (4, 0, .cells [] 3 true), (3, 0, .cells [(.int .u64 h)] 22 true), (2, 0, .cells [(.int .i64 k)] 3 true), (1, 0, .cells [(.slice (some ⟨4, 0, none⟩) 0 0)] 24 true), (0, 0, .cells [(.int .i64 600)] 3 true)]⟩) (codeAt [1, 1, 1] BC) (KSt.low (CS5 nn s0 h k)) (Q)) : Gets Try.prog (KH.low ⟨6, 2, [(5, 1, .loop (frameL 28 [(5, (.pointer (some ⟨0, 0, none⟩))), (7, (.pointer (some ⟨1, 0, none⟩))), (9, undef), (17, (.func (.func 28) #[] #[(.pointer (some ⟨2, 0, none⟩)), (.pointer (some ⟨3, 0, none⟩))])), (18, undef)]) #[18] (codeAt [1, 1, 1, 1, 0, 1, 0, 0] BA) (codeAt [1, 1, 1, 1, 0, 1, 0, 1] BA) .ready), (4, 0, .cells [] 3 true), (3, 0, .cells [(.int .u64 h)] 22 true), (2, 0, .cells [(.int .i64 k)] 3 true), (1, 0, .cells [(.slice (some ⟨4, 0, none⟩) 0 0)] 24 true), (0, 0, .cells [(.int .i64 600)] 3 true)]⟩) BC (KSt.low (CS0 h k)) Q := by
  rw [CC]; refine Gets.seq ?_
  refine Cgo (x := .normal) (s' := (CS2 nn h k)) ((CR1 h k).trans (by (show some (Ex.normal, (CS1 k h)) = some (Ex.normal, (CS2 nn h k)); unfold CS1 CS2; rw [(show (groupsV k) = ((nn : Nat) : Int) from hg)]))) ?_
  rw [CC1]; refine Gets.seq ?_
  refine Cgo (x := .normal) (s' := (CS4 nn s0 h k)) ((CR2 nn h k).trans (by (show some (Ex.normal, (CS3 nn h k)) = some (Ex.normal, (CS4 nn s0 h k)); unfold CS3 CS4; rw [(show (IntKind.wrap .i64 (bits .and .u64 (Int.fdiv h (2 ^ 7)) (IntKind.wrap .u64 (if 0 > (IntKind.wrap .i64 (((nn : Nat) : Int) - 1)) then 0 else (IntKind.wrap .i64 (((nn : Nat) : Int) - 1)))))) = ((s0 : Nat) : Int) from hs0)]))) ?_
  rw [CC1_1]; refine Gets.seq ?_
  refine Cgo (CR3 nn s0 h k) ?_
  exact hq
theorem Ca1 {nn : Nat} {s0 : Nat} {b : Nat} {h : Int} {k : Int} (h1 : 1 ≤ nn) (h2 : nn ≤ 512) (hb : (bits .and .i64 (IntKind.wrap .i64 (((s0 : Nat) : Int) + 0)) (IntKind.wrap .i64 (((nn : Nat) : Int) - 1))) = ((b : Nat) : Int))   {Q : Ex → St → Prop} (hq : Q .normal (KSt.low (CS12 nn b h k))) : Gets Try.prog (KH.low ⟨6, 2, [(5, 1, .loop (frameL 28 [(5, (.pointer (some ⟨0, 0, none⟩))), (7, (.pointer (some ⟨1, 0, none⟩))), (9, undef), (17, (.func (.func 28) #[] #[(.pointer (some ⟨2, 0, none⟩)), (.pointer (some ⟨3, 0, none⟩))])), (18, undef)]) #[18] (codeAt [1, 1, 1, 1, 0, 1, 0, 0] BA) (codeAt [1, 1, 1, 1, 0, 1, 0, 1] BA) .ready), (4, 0, .cells [] 3 true), (3, 0, .cells [(.int .u64 h)] 22 true), (2, 0, .cells [(.int .i64 k)] 3 true), (1, 0, .cells [(.slice (some ⟨4, 0, none⟩) 0 0)] 24 true), (0, 0, .cells [(.int .i64 600)] 3 true)]⟩) (codeAt [1, 1, 1, 0, 0] BC) (KSt.low (CS5 nn s0 h k)) Q := by
  rw [CC1_1_1_0_0]; refine Gets.seq ?_
  refine Cgo (CR4 nn s0 h k) ?_
  rw [CC1_1_1_0_0_1]; refine Gets.seq ?_
  rw [CC1_1_1_0_0_1_0]; refine Gets.cond true (by kernel_rfl) (CeX (b := (decide (0 < ((nn : Nat) : Int)))) (by kernel_rfl) ((show (decide (0 < ((nn : Nat) : Int))) = true from decide_eq_true (by omega)))) ?_; show Gets _ _ (codeAt [1, 1, 1, 0, 0, 1, 0, 0] BC) _ _
  refine Cgo (CR5 nn s0 h k) ?_
  rw [CC1_1_1_0_0_1_1]; refine Gets.seq ?_
  rw [CC1_1_1_0_0_1_1_0]; refine Gets.block ?_
  rw [CC1_1_1_0_0_1_1_0_0]; refine Gets.seq ?_
  refine Cgo (CR6 nn s0 h k) ?_
  rw [CC1_1_1_0_0_1_1_0_0_1]; refine Gets.seq ?_
  refine Cgo (x := .normal) (s' := (CS9 nn b h k)) ((CR7 nn s0 h k).trans (by (show some (Ex.normal, (CS8 nn s0 h k)) = some (Ex.normal, (CS9 nn b h k)); unfold CS8 CS9; rw [(show (bits .and .i64 (IntKind.wrap .i64 (((s0 : Nat) : Int) + 0)) (IntKind.wrap .i64 (((nn : Nat) : Int) - 1))) = ((b : Nat) : Int) from hb)]))) ?_
  rw [CC1_1_1_0_0_1_1_0_0_1_1]; refine Gets.seq ?_
  refine Cgo (CR8 nn b h k) ?_
  rw [CC1_1_1_0_0_1_1_0_0_1_1_1]; refine Gets.cond false (by kernel_rfl) (by kernel_rfl) ?_; show Gets _ _ (codeAt [1, 1, 1, 0, 0, 1, 1, 0, 0, 1, 1, 1, 1] BC) _ _
  refine Cgo (CR9 nn b h k) ?_
  refine Cgo (CR10 nn b h k) ?_
  exact hq
theorem Cb1 {nn : Nat} {w : List Int} {i : Nat} {b : Nat} {b2 : Nat} {h : Int} {k : Int} (h1 : 1 ≤ nn) (h2 : nn ≤ 512) (hw : w.length = i) (h3 : 1 ≤ i) (hi : i < nn) (hb : (bits .and .i64 (IntKind.wrap .i64 (((b : Nat) : Int) + ((i : Nat) : Int))) (IntKind.wrap .i64 (((nn : Nat) : Int) - 1))) = ((b2 : Nat) : Int))   {Q : Ex → St → Prop} (hq : Q .normal (KSt.low (CS24 nn b2 i w h k))) : Gets Try.prog (KH.low ⟨6, 2, [(5, 1, .loop (frameL 28 [(5, (.pointer (some ⟨0, 0, none⟩))), (7, (.pointer (some ⟨1, 0, none⟩))), (9, undef), (17, (.func (.func 28) #[] #[(.pointer (some ⟨2, 0, none⟩)), (.pointer (some ⟨3, 0, none⟩))])), (18, undef)]) #[18] (codeAt [1, 1, 1, 1, 0, 1, 0, 0] BA) (codeAt [1, 1, 1, 1, 0, 1, 0, 1] BA) .ready), (4, 0, .cells [] 3 true), (3, 0, .cells [(.int .u64 h)] 22 true), (2, 0, .cells [(.int .i64 k)] 3 true), (1, 0, .cells [(.slice (some ⟨4, 0, none⟩) 0 0)] 24 true), (0, 0, .cells [(.int .i64 600)] 3 true)]⟩) (codeAt [1, 1, 1, 0, 0] BC) (KSt.low (CS13 nn b i w h k)) Q := by
  rw [CC1_1_1_0_0]; refine Gets.seq ?_
  refine Cgo (CR11 nn b i w h k) ?_
  rw [CC1_1_1_0_0_1]; refine Gets.seq ?_
  rw [CC1_1_1_0_0_1_0]; refine Gets.cond true (by kernel_rfl) (CeX (b := (decide (((i : Nat) : Int) < ((nn : Nat) : Int)))) (by kernel_rfl) ((show (decide (((i : Nat) : Int) < ((nn : Nat) : Int))) = true from decide_eq_true (by omega)))) ?_; show Gets _ _ (codeAt [1, 1, 1, 0, 0, 1, 0, 0] BC) _ _
  refine Cgo (CR12 nn b i w h k) ?_
  rw [CC1_1_1_0_0_1_1]; refine Gets.seq ?_
  rw [CC1_1_1_0_0_1_1_0]; refine Gets.block ?_
  rw [CC1_1_1_0_0_1_1_0_0]; refine Gets.seq ?_
  refine Cgo (CR13 nn b i w h k) ?_
  rw [CC1_1_1_0_0_1_1_0_0_1]; refine Gets.seq ?_
  refine Cgo (x := .normal) (s' := (CS17 nn b2 i w h k)) ((CR14 nn b i w h k).trans (by (show some (Ex.normal, (CS16 nn b i w h k)) = some (Ex.normal, (CS17 nn b2 i w h k)); unfold CS16 CS17; rw [(show (bits .and .i64 (IntKind.wrap .i64 (((b : Nat) : Int) + ((i : Nat) : Int))) (IntKind.wrap .i64 (((nn : Nat) : Int) - 1))) = ((b2 : Nat) : Int) from hb)]))) ?_
  rw [CC1_1_1_0_0_1_1_0_0_1_1]; refine Gets.seq ?_
  refine Cgo (x := .normal) (s' := (CS21 nn b2 i w h k)) ((CR15 nn b2 i w h k).trans (by rw [condF (ibeq_f (by omega)), condT (ble_t (by omega)), condF (ble_f (by omega)), condF (and_f1 (nbeq_f (by omega))), condT (and_t (ble_t (by (first | omega | ((try simp (disch := omega) only [wrap_i64_id]) <;> omega)))) (ble_t (by omega)))])) ?_
  rw [CC1_1_1_0_0_1_1_0_0_1_1_1]; refine Gets.cond false (by kernel_rfl) (by kernel_rfl) ?_; show Gets _ _ (codeAt [1, 1, 1, 0, 0, 1, 1, 0, 0, 1, 1, 1, 1] BC) _ _
  refine Cgo (CR16 nn b2 i w h k) ?_
  refine Cgo (x := .normal) (s' := (CS24 nn b2 i w h k)) ((CR17 nn b2 i w h k).trans (by (show some (Ex.normal, (CS23 nn b2 i w h k)) = some (Ex.normal, (CS24 nn b2 i w h k)); unfold CS23 CS24; rw [(show (IntKind.wrap .i64 (((i : Nat) : Int) + 1)) = (((i : Nat) : Int) + 1) from wrap_i64_id (by omega) (by omega))]))) ?_
  exact hq
theorem Cbx {nn : Nat} {i : Nat} {b : Nat} {w : List Int} {h : Int} {k : Int} (hi : nn ≤ i)   {Q : Ex → St → Prop} (hq : Q (.exit 0) (KSt.low (CS14 nn b i w h k))) : Gets Try.prog (KH.low ⟨6, 2, [(5, 1, .loop (frameL 28 [(5, (.pointer (some ⟨0, 0, none⟩))), (7, (.pointer (some ⟨1, 0, none⟩))), (9, undef), (17, (.func (.func 28) #[] #[(.pointer (some ⟨2, 0, none⟩)), (.pointer (some ⟨3, 0, none⟩))])), (18, undef)]) #[18] (codeAt [1, 1, 1, 1, 0, 1, 0, 0] BA) (codeAt [1, 1, 1, 1, 0, 1, 0, 1] BA) .ready), (4, 0, .cells [] 3 true), (3, 0, .cells [(.int .u64 h)] 22 true), (2, 0, .cells [(.int .i64 k)] 3 true), (1, 0, .cells [(.slice (some ⟨4, 0, none⟩) 0 0)] 24 true), (0, 0, .cells [(.int .i64 600)] 3 true)]⟩) (codeAt [1, 1, 1, 0, 0] BC) (KSt.low (CS13 nn b i w h k)) Q := by
  rw [CC1_1_1_0_0]; refine Gets.seq ?_
  refine Cgo (CR11 nn b i w h k) ?_
  rw [CC1_1_1_0_0_1]; refine Gets.seq ?_
  rw [CC1_1_1_0_0_1_0]; refine Gets.cond false (by kernel_rfl) (CeX (b := (decide (((i : Nat) : Int) < ((nn : Nat) : Int)))) (by kernel_rfl) ((show (decide (((i : Nat) : Int) < ((nn : Nat) : Int))) = false from decide_eq_false (by omega)))) ?_; show Gets _ _ (codeAt [1, 1, 1, 0, 0, 1, 0, 1] BC) _ _
  rw [CC1_1_1_0_0_1_0_1]; refine Gets.ev fitR.mix fitR.cfg (fitR.sound rt_sound 40 0) 40 rfl (s' := KSt.low (CS14 nn b i w h k)) (x := (.exit 0)) rfl ?_
  exact hq

end Go.Proofs.Ytgegcbeeljbiaaa
