import Derived.Test.YtfhfbbhoppnbiaaDoorRtA
import Derived.WalkKit
import Derived.ProofKit
import Derived.OpenShut
import Derived.ChangeOld
import Derived.Below
import Derived.SizedLaws
namespace Go.Proofs.YtfhfbbhoppnbiaaDoor
open Go.Eng
open Go.ChangeShapes Go.WideShapes Go.ChangeAt Go.RowKit
set_option linter.unusedVariables false
set_option linter.unusedSimpArgs false
set_option maxRecDepth 100000
def rtMore (x : RetireSt) : Bool := x.looks && (decide (x.thread < x.site.threads) || decide (x.at_ < ((x.waiting.length : Nat) : Int)))
def rtK (x : RetireSt) : Int := bif x.looks then (bif decide (x.thread < x.site.threads) then 1 else bif decide (x.at_ < ((x.waiting.length : Nat) : Int)) then 6 else 0) else 0
def rtB (x : RetireSt) : Int := bif x.looks then (bif decide (x.thread < x.site.threads) then x.site.desk else bif decide (x.at_ < ((x.waiting.length : Nat) : Int)) then x.waiting.getD x.at_.toNat 0 else 0) else 0
def rtC (x : RetireSt) : Int := bif x.looks then (bif decide (x.thread < x.site.threads) then 3 + 2 * x.thread else 0) else 0
def rtFin (x : RetireSt) : Bool := !(rtMore x)
def rtRest (x : RetireSt) : List Int := bif x.same then x.waiting else x.rest
def rtOk (x : RetireSt) : Bool := x.made && (decide (x.waiting.length ≤ 1000) && (decide (x.rest.length ≤ 1000) &&
  (bif x.looks then (!x.waiting.isEmpty && (!x.same && (decide (0 ≤ x.thread) && (decide (x.thread ≤ x.site.threads) && (decide (x.site.threads ≤ 64) && (decide (0 ≤ x.at_) && (decide (x.at_ ≤ ((x.waiting.length : Nat) : Int)) && decide (((x.rest.length : Nat) : Int) ≤ x.at_)))))))) else (x.same || (x.waiting.isEmpty && x.rest.isEmpty)))))
inductive Shp : RetireSt → Prop
  | a (dk th ts kp sd t a : Int) (fr : DictSt) (R : List Int) : Shp ⟨⟨dk, th, ts, kp, sd⟩, true, false, t, [], a, fr, R, true⟩
  | b (dk th ts kp sd t a : Int) (fr : DictSt) : Shp ⟨⟨dk, th, ts, kp, sd⟩, true, false, t, [], a, fr, [], false⟩
  | c (dk th ts kp sd t a : Int) (fr : DictSt) (w : Int) (ws R : List Int) (hl : (w :: ws).length ≤ 1000) : Shp ⟨⟨dk, th, ts, kp, sd⟩, true, false, t, w :: ws, a, fr, R, true⟩
  | d (dk th ts kp sd t a : Int) (fr : DictSt) (w : Int) (ws : List Int) (hl : (w :: ws).length ≤ 1000) (ht : 0 ≤ t) (htt : t ≤ ts) (hts : ts ≤ 64) (ha : 0 ≤ a) (haw : a ≤ (((w :: ws).length : Nat) : Int)) : Shp ⟨⟨dk, th, ts, kp, sd⟩, true, true, t, w :: ws, a, fr, [], false⟩
  | f (dk th ts kp sd t a : Int) (fr : DictSt) (w : Int) (ws : List Int) (r : Int) (rs : List Int) (hl : (w :: ws).length ≤ 1000) (hr : (r :: rs).length ≤ 1000) (ht : 0 ≤ t) (htt : t ≤ ts) (hts : ts ≤ 64) (ha : 0 ≤ a) (haw : a ≤ (((w :: ws).length : Nat) : Int)) (hra : (((r :: rs).length : Nat) : Int) ≤ a) : Shp ⟨⟨dk, th, ts, kp, sd⟩, true, true, t, w :: ws, a, fr, r :: rs, false⟩
theorem rtOk_shp {x : RetireSt} (h : rtOk x = true) : Shp x := by
  obtain ⟨⟨dk, th, ts, kp, sd⟩, md, lk, t, W, a, fr, R, sm⟩ := x
  unfold rtOk at h
  simp only [Bool.and_eq_true, decide_eq_true_eq] at h
  obtain ⟨rfl, h1, h2, h⟩ := h
  cases lk with
  | false =>
    simp only [cond_false, Bool.or_eq_true, Bool.and_eq_true] at h
    cases W with
    | nil =>
      cases sm with
      | true => exact .a ..
      | false =>
        cases R with
        | nil => exact .b ..
        | cons r rs => simp at h
    | cons w ws =>
      cases sm with
      | true => exact .c _ _ _ _ _ _ _ _ _ _ _ h1
      | false => simp at h
  | true =>
    simp only [cond_true, Bool.and_eq_true, decide_eq_true_eq] at h
    obtain ⟨g1, g2, g3, g4, g5, g6, g7, g8⟩ := h
    cases sm with
    | true => simp at g2
    | false =>
      cases W with
      | nil => simp at g1
      | cons w ws =>
        cases R with
        | nil => exact .d _ _ _ _ _ _ _ _ _ _ h1 g3 g4 g5 g6 g7
        | cons r rs => exact .f _ _ _ _ _ _ _ _ _ _ _ _ h1 h2 g3 g4 g5 g6 g7 g8
theorem isRa (dk th ts kp sd t a : Int) (fr : DictSt) (R : List Int) : IsM Tryd.prog 1 (.retire ⟨⟨dk, th, ts, kp, sd⟩, true, false, t, [], a, fr, R, true⟩) [.cells [(.int .u64 dk), (.int .i64 th), (.int .i64 ts), (.int .i64 kp), (.int .u64 sd), (.bool true), (.bool false), (.int .i64 t), (.slice (some ⟨0, 0, none⟩) 0 0), (.int .i64 a), (.map (some 2)), (.slice (some ⟨0, 0, none⟩) 0 0)] 55 true, .dict .u64 .i64 fr] := isM rfl
theorem isRb (dk th ts kp sd t a : Int) (fr : DictSt) (R : List Int) : IsM Tryd.prog 1 (.retire ⟨⟨dk, th, ts, kp, sd⟩, true, false, t, [], a, fr, R, false⟩) [.cells [(.int .u64 dk), (.int .i64 th), (.int .i64 ts), (.int .i64 kp), (.int .u64 sd), (.bool true), (.bool false), (.int .i64 t), (.slice (some ⟨0, 0, none⟩) 0 0), (.int .i64 a), (.map (some 2)), (.slice none 0 0)] 55 true, .dict .u64 .i64 fr] := isM rfl
theorem isRc (dk th ts kp sd t a : Int) (fr : DictSt) (w : Int) (ws : List Int) (R : List Int) : IsM Tryd.prog 1 (.retire ⟨⟨dk, th, ts, kp, sd⟩, true, false, t, (w :: ws), a, fr, R, true⟩) [.cells [(.int .u64 dk), (.int .i64 th), (.int .i64 ts), (.int .i64 kp), (.int .u64 sd), (.bool true), (.bool false), (.int .i64 t), (.slice (some ⟨3, 0, none⟩) (List.length (w :: ws)) (List.length (w :: ws))), (.int .i64 a), (.map (some 2)), (.slice (some ⟨3, 0, none⟩) (List.length (w :: ws)) (List.length (w :: ws)))] 55 true, .dict .u64 .i64 fr, .ints .u64 (w :: ws) 22 true] := isM rfl
theorem isRd (dk th ts kp sd t a : Int) (fr : DictSt) (w : Int) (ws : List Int) : IsM Tryd.prog 1 (.retire ⟨⟨dk, th, ts, kp, sd⟩, true, true, t, (w :: ws), a, fr, [], false⟩) [.cells [(.int .u64 dk), (.int .i64 th), (.int .i64 ts), (.int .i64 kp), (.int .u64 sd), (.bool true), (.bool true), (.int .i64 t), (.slice (some ⟨3, 0, none⟩) (List.length (w :: ws)) (List.length (w :: ws))), (.int .i64 a), (.map (some 2)), (.slice none 0 0)] 55 true, .dict .u64 .i64 fr, .ints .u64 (w :: ws) 22 true] := isM rfl
theorem isRf (dk th ts kp sd t a : Int) (fr : DictSt) (w : Int) (ws : List Int) (r : Int) (rs : List Int) : IsM Tryd.prog 1 (.retire ⟨⟨dk, th, ts, kp, sd⟩, true, true, t, (w :: ws), a, fr, (r :: rs), false⟩) [.cells [(.int .u64 dk), (.int .i64 th), (.int .i64 ts), (.int .i64 kp), (.int .u64 sd), (.bool true), (.bool true), (.int .i64 t), (.slice (some ⟨3, 0, none⟩) (List.length (w :: ws)) (List.length (w :: ws))), (.int .i64 a), (.map (some 2)), (.slice (some ⟨4, 0, none⟩) (List.length (r :: rs)) (List.length (r :: rs)))] 55 true, .dict .u64 .i64 fr, .ints .u64 (w :: ws) 22 true, .ints .u64 (r :: rs) 22 true] := isM rfl
noncomputable abbrev AaO0 (dk th ts kp sd t a : Int) : KObj := .cells [(.int .u64 dk), (.int .i64 th), (.int .i64 ts), (.int .i64 kp), (.int .u64 sd), (.bool true), (.bool false), (.int .i64 t), (.slice (some ⟨0, 0, none⟩) 0 0), (.int .i64 a), (.map (some 2)), (.slice (some ⟨0, 0, none⟩) 0 0)] 55 true
noncomputable abbrev AaO1 (e : TypeId) : KObj := .cells [(.int .i64 1), (.int .i64 64), (.int .i64 1), (.int .i64 64)] e false
theorem Aa_t (e : TypeId) (dk th ts kp sd t a : Int) (fr : DictSt) : runK Tryd.prog cfgR fsR noT 30 40 10 [(.pointer (some ⟨1, 0, none⟩))] (mkH [(AaO1 e), (AaO0 dk th ts kp sd t a), .dict .u64 .i64 fr]) bothK =
  some ((.tuple #[(.agg #[(.int .i64 0), (.int .u64 0), (.int .i64 0), (.int .u64 0), (.int .u64 0)]), (.bool false)]), ⟨4, 3, [(3, 2, .cells [(.int .i64 0), (.int .u64 0), (.int .i64 0), (.int .u64 0), (.int .u64 0)] 32 true), (0, 0, (AaO1 e)), (1, 0, (AaO0 dk th ts kp sd t a)), (2, 0, .dict .u64 .i64 fr)]⟩) := by kernel_rfl
theorem Aan {e : TypeId} {dk th ts kp sd t a : Int} {fr : DictSt}   : DoesC Tryd.prog 10 [(.pointer (some ⟨1, 0, none⟩))] (mkH [(AaO1 e), (AaO0 dk th ts kp sd t a), .dict .u64 .i64 fr]).low (.tuple #[(.agg #[(.int .i64 0), (.int .u64 0), (.int .i64 0), (.int .u64 0), (.int .u64 0)]), (.bool false)]) (KH.low ⟨4, 3, [(3, 2, .cells [(.int .i64 0), (.int .u64 0), (.int .i64 0), (.int .u64 0), (.int .u64 0)] 32 true), (0, 0, (AaO1 e)), (1, 0, (AaO0 dk th ts kp sd t a)), (2, 0, .dict .u64 .i64 fr)]⟩) :=
  tree_does fitR SoundC.no AgreeT.no (by kernel_rfl) (Aa_t e dk th ts kp sd t a fr)
noncomputable abbrev RaO0 (dk th ts kp sd t a : Int) : KObj := .cells [(.int .u64 dk), (.int .i64 th), (.int .i64 ts), (.int .i64 kp), (.int .u64 sd), (.bool true), (.bool false), (.int .i64 t), (.slice (some ⟨0, 0, none⟩) 0 0), (.int .i64 a), (.map (some 2)), (.slice (some ⟨0, 0, none⟩) 0 0)] 55 true
noncomputable abbrev RaO1 : KObj := .cells [(.int .i64 0), (.int .u64 0), (.int .i64 0), (.int .u64 0), (.int .u64 0)] 32 true
noncomputable abbrev RaO2 (e : TypeId) : KObj := .cells [(.int .i64 1), (.int .i64 64), (.int .i64 1), (.int .i64 64)] e false
theorem Ra_t (e : TypeId) (dk th ts kp sd t a : Int) (fr : DictSt) : runK Tryd.prog cfgR fsR (conTk clBDom (rcK varL clBT)) 30 40 11 [(.pointer (some ⟨1, 0, none⟩))] (mkH [(RaO2 e), (RaO0 dk th ts kp sd t a), .dict .u64 .i64 fr]) bothK =
  bif (Nat.beq (List.length ([] : List Int)) 0) then
    some ((.tuple #[(.slice (some ⟨0, 0, none⟩) 0 0), (.bool true)]), ⟨5, 5, [(4, 4, RaO1), (3, 2, RaO1), (0, 0, (RaO2 e)), (1, 0, (RaO0 dk th ts kp sd t a)), (2, 0, .dict .u64 .i64 fr)]⟩)
  else
    none := by kernel_rfl
theorem Ran {e : TypeId} {dk th ts kp sd t a : Int} {fr : DictSt}   : DoesC Tryd.prog 11 [(.pointer (some ⟨1, 0, none⟩))] (mkH [(RaO2 e), (RaO0 dk th ts kp sd t a), .dict .u64 .i64 fr]).low (.tuple #[(.slice (some ⟨0, 0, none⟩) 0 0), (.bool true)]) (KH.low ⟨5, 5, [(4, 4, RaO1), (3, 2, RaO1), (0, 0, (RaO2 e)), (1, 0, (RaO0 dk th ts kp sd t a)), (2, 0, .dict .u64 .i64 fr)]⟩) :=
  tree_does fitR clB_sound (rc_agree _ _ _) (by kernel_rfl) ((Ra_t e dk th ts kp sd t a fr).trans (by rw [condT (show (Nat.beq (List.length ([] : List Int)) 0) = true from rfl)]))
noncomputable abbrev AbO0 (dk th ts kp sd t a : Int) : KObj := .cells [(.int .u64 dk), (.int .i64 th), (.int .i64 ts), (.int .i64 kp), (.int .u64 sd), (.bool true), (.bool false), (.int .i64 t), (.slice (some ⟨0, 0, none⟩) 0 0), (.int .i64 a), (.map (some 2)), (.slice none 0 0)] 55 true
noncomputable abbrev AbO1 (e : TypeId) : KObj := .cells [(.int .i64 1), (.int .i64 64), (.int .i64 1), (.int .i64 64)] e false
theorem Ab_t (e : TypeId) (dk th ts kp sd t a : Int) (fr : DictSt) : runK Tryd.prog cfgR fsR noT 30 40 10 [(.pointer (some ⟨1, 0, none⟩))] (mkH [(AbO1 e), (AbO0 dk th ts kp sd t a), .dict .u64 .i64 fr]) bothK =
  some ((.tuple #[(.agg #[(.int .i64 0), (.int .u64 0), (.int .i64 0), (.int .u64 0), (.int .u64 0)]), (.bool false)]), ⟨4, 3, [(3, 2, .cells [(.int .i64 0), (.int .u64 0), (.int .i64 0), (.int .u64 0), (.int .u64 0)] 32 true), (0, 0, (AbO1 e)), (1, 0, (AbO0 dk th ts kp sd t a)), (2, 0, .dict .u64 .i64 fr)]⟩) := by kernel_rfl
theorem Abn {e : TypeId} {dk th ts kp sd t a : Int} {fr : DictSt}   : DoesC Tryd.prog 10 [(.pointer (some ⟨1, 0, none⟩))] (mkH [(AbO1 e), (AbO0 dk th ts kp sd t a), .dict .u64 .i64 fr]).low (.tuple #[(.agg #[(.int .i64 0), (.int .u64 0), (.int .i64 0), (.int .u64 0), (.int .u64 0)]), (.bool false)]) (KH.low ⟨4, 3, [(3, 2, .cells [(.int .i64 0), (.int .u64 0), (.int .i64 0), (.int .u64 0), (.int .u64 0)] 32 true), (0, 0, (AbO1 e)), (1, 0, (AbO0 dk th ts kp sd t a)), (2, 0, .dict .u64 .i64 fr)]⟩) :=
  tree_does fitR SoundC.no AgreeT.no (by kernel_rfl) (Ab_t e dk th ts kp sd t a fr)
noncomputable abbrev RbO0 (dk th ts kp sd t a : Int) : KObj := .cells [(.int .u64 dk), (.int .i64 th), (.int .i64 ts), (.int .i64 kp), (.int .u64 sd), (.bool true), (.bool false), (.int .i64 t), (.slice (some ⟨0, 0, none⟩) 0 0), (.int .i64 a), (.map (some 2)), (.slice none 0 0)] 55 true
noncomputable abbrev RbO1 : KObj := .cells [(.int .i64 0), (.int .u64 0), (.int .i64 0), (.int .u64 0), (.int .u64 0)] 32 true
noncomputable abbrev RbO2 (e : TypeId) : KObj := .cells [(.int .i64 1), (.int .i64 64), (.int .i64 1), (.int .i64 64)] e false
theorem Rb_t (e : TypeId) (dk th ts kp sd t a : Int) (fr : DictSt) : runK Tryd.prog cfgR fsR (conTk clBDom (rcK varL clBT)) 30 40 11 [(.pointer (some ⟨1, 0, none⟩))] (mkH [(RbO2 e), (RbO0 dk th ts kp sd t a), .dict .u64 .i64 fr]) bothK =
  bif (Nat.beq (List.length ([] : List Int)) 0) then
    some ((.tuple #[(.slice (some ⟨0, 0, none⟩) 0 0), (.bool true)]), ⟨5, 5, [(4, 4, RbO1), (3, 2, RbO1), (0, 0, (RbO2 e)), (1, 0, (RbO0 dk th ts kp sd t a)), (2, 0, .dict .u64 .i64 fr)]⟩)
  else
    none := by kernel_rfl
theorem Rbn {e : TypeId} {dk th ts kp sd t a : Int} {fr : DictSt}   : DoesC Tryd.prog 11 [(.pointer (some ⟨1, 0, none⟩))] (mkH [(RbO2 e), (RbO0 dk th ts kp sd t a), .dict .u64 .i64 fr]).low (.tuple #[(.slice (some ⟨0, 0, none⟩) 0 0), (.bool true)]) (KH.low ⟨5, 5, [(4, 4, RbO1), (3, 2, RbO1), (0, 0, (RbO2 e)), (1, 0, (RbO0 dk th ts kp sd t a)), (2, 0, .dict .u64 .i64 fr)]⟩) :=
  tree_does fitR clB_sound (rc_agree _ _ _) (by kernel_rfl) ((Rb_t e dk th ts kp sd t a fr).trans (by rw [condT (show (Nat.beq (List.length ([] : List Int)) 0) = true from rfl)]))
noncomputable abbrev AcO0 (dk th ts kp sd t : Int) (W : List Int) (a : Int) : KObj := .cells [(.int .u64 dk), (.int .i64 th), (.int .i64 ts), (.int .i64 kp), (.int .u64 sd), (.bool true), (.bool false), (.int .i64 t), (.slice (some ⟨3, 0, none⟩) (List.length W) (List.length W)), (.int .i64 a), (.map (some 2)), (.slice (some ⟨3, 0, none⟩) (List.length W) (List.length W))] 55 true
noncomputable abbrev AcO1 (e : TypeId) : KObj := .cells [(.int .i64 1), (.int .i64 64), (.int .i64 1), (.int .i64 64)] e false
theorem Ac_t (e : TypeId) (dk th ts kp sd t : Int) (W : List Int) (a : Int) (fr : DictSt) : runK Tryd.prog cfgR fsR noT 30 40 10 [(.pointer (some ⟨1, 0, none⟩))] (mkH [(AcO1 e), (AcO0 dk th ts kp sd t W a), .dict .u64 .i64 fr, .ints .u64 W 22 true]) bothK =
  some ((.tuple #[(.agg #[(.int .i64 0), (.int .u64 0), (.int .i64 0), (.int .u64 0), (.int .u64 0)]), (.bool false)]), ⟨5, 3, [(4, 2, .cells [(.int .i64 0), (.int .u64 0), (.int .i64 0), (.int .u64 0), (.int .u64 0)] 32 true), (0, 0, (AcO1 e)), (1, 0, (AcO0 dk th ts kp sd t W a)), (2, 0, .dict .u64 .i64 fr), (3, 0, .ints .u64 W 22 true)]⟩) := by kernel_rfl
theorem Acn {e : TypeId} {dk th ts kp sd t : Int} {W : List Int} {a : Int} {fr : DictSt}   : DoesC Tryd.prog 10 [(.pointer (some ⟨1, 0, none⟩))] (mkH [(AcO1 e), (AcO0 dk th ts kp sd t W a), .dict .u64 .i64 fr, .ints .u64 W 22 true]).low (.tuple #[(.agg #[(.int .i64 0), (.int .u64 0), (.int .i64 0), (.int .u64 0), (.int .u64 0)]), (.bool false)]) (KH.low ⟨5, 3, [(4, 2, .cells [(.int .i64 0), (.int .u64 0), (.int .i64 0), (.int .u64 0), (.int .u64 0)] 32 true), (0, 0, (AcO1 e)), (1, 0, (AcO0 dk th ts kp sd t W a)), (2, 0, .dict .u64 .i64 fr), (3, 0, .ints .u64 W 22 true)]⟩) :=
  tree_does fitR SoundC.no AgreeT.no (by kernel_rfl) (Ac_t e dk th ts kp sd t W a fr)
noncomputable abbrev RcO0 (dk th ts kp sd t : Int) (W : List Int) (a : Int) : KObj := .cells [(.int .u64 dk), (.int .i64 th), (.int .i64 ts), (.int .i64 kp), (.int .u64 sd), (.bool true), (.bool false), (.int .i64 t), (.slice (some ⟨3, 0, none⟩) (List.length W) (List.length W)), (.int .i64 a), (.map (some 2)), (.slice (some ⟨3, 0, none⟩) (List.length W) (List.length W))] 55 true
noncomputable abbrev RcO1 : KObj := .cells [(.int .i64 0), (.int .u64 0), (.int .i64 0), (.int .u64 0), (.int .u64 0)] 32 true
noncomputable abbrev RcO2 (e : TypeId) : KObj := .cells [(.int .i64 1), (.int .i64 64), (.int .i64 1), (.int .i64 64)] e false
theorem Rc_t (e : TypeId) (dk th ts kp sd t : Int) (W : List Int) (a : Int) (fr : DictSt) : runK Tryd.prog cfgR fsR (conTk clADom (rcK varL clAT)) 30 40 11 [(.pointer (some ⟨1, 0, none⟩))] (mkH [(RcO2 e), (RcO0 dk th ts kp sd t W a), .dict .u64 .i64 fr, .ints .u64 W 22 true]) bothK =
  bif (Nat.ble (0 + (List.length W)) (List.length W)) then
    bif ((Nat.ble 1 (List.length (List.take (List.length W) (List.drop 0 W)))) && (Nat.ble (List.length (List.take (List.length W) (List.drop 0 W))) 1000)) then
      some ((.tuple #[(.slice (some ⟨6, 0, none⟩) (List.length (List.take (List.length W) (List.drop 0 W))) (List.length (List.take (List.length W) (List.drop 0 W)))), (.bool true)]), ⟨7, 6, [(6, 5, .ints .u64 (List.take (List.length W) (List.drop 0 W)) 22 true), (5, 4, RcO1), (4, 2, RcO1), (0, 0, (RcO2 e)), (1, 0, (RcO0 dk th ts kp sd t W a)), (2, 0, .dict .u64 .i64 fr), (3, 0, .ints .u64 W 22 true)]⟩)
    else
      none
  else
    none := by kernel_rfl
theorem Rcn {e : TypeId} {dk th ts kp sd t : Int} {W : List Int} {a : Int} {fr : DictSt} (hn : 1 ≤ W.length) (hb : W.length ≤ 1000)   : DoesC Tryd.prog 11 [(.pointer (some ⟨1, 0, none⟩))] (mkH [(RcO2 e), (RcO0 dk th ts kp sd t W a), .dict .u64 .i64 fr, .ints .u64 W 22 true]).low (.tuple #[(.slice (some ⟨6, 0, none⟩) (List.length (List.take (List.length W) (List.drop 0 W))) (List.length (List.take (List.length W) (List.drop 0 W)))), (.bool true)]) (KH.low ⟨7, 6, [(6, 5, .ints .u64 (List.take (List.length W) (List.drop 0 W)) 22 true), (5, 4, RcO1), (4, 2, RcO1), (0, 0, (RcO2 e)), (1, 0, (RcO0 dk th ts kp sd t W a)), (2, 0, .dict .u64 .i64 fr), (3, 0, .ints .u64 W 22 true)]⟩) :=
  tree_does fitR clA_sound (rc_agree _ _ _) (by kernel_rfl) ((Rc_t e dk th ts kp sd t W a fr).trans (by rw [condT (ble_t (by (first | omega | ((try simp (disch := omega) only [wrap_i64_id]) <;> omega)))), condT (and_t (ble_t (by simp only [List.drop_zero, List.take_length]; omega)) (ble_t (by simp only [List.drop_zero, List.take_length]; omega)))]))
noncomputable abbrev AdO0 (dk th ts kp sd t : Int) (W : List Int) (a : Int) : KObj := .cells [(.int .u64 dk), (.int .i64 th), (.int .i64 ts), (.int .i64 kp), (.int .u64 sd), (.bool true), (.bool true), (.int .i64 t), (.slice (some ⟨3, 0, none⟩) (List.length W) (List.length W)), (.int .i64 a), (.map (some 2)), (.slice none 0 0)] 55 true
noncomputable abbrev AdO1 (e : TypeId) : KObj := .cells [(.int .i64 1), (.int .i64 64), (.int .i64 1), (.int .i64 64)] e false
theorem Ad_t (e : TypeId) (dk th ts kp sd t : Int) (W : List Int) (a : Int) (fr : DictSt) : runK Tryd.prog cfgR fsR noT 30 40 10 [(.pointer (some ⟨1, 0, none⟩))] (mkH [(AdO1 e), (AdO0 dk th ts kp sd t W a), .dict .u64 .i64 fr, .ints .u64 W 22 true]) bothK =
  bif (decide (t < ts)) then
    bif (decide (t < 0)) then
      some ((.tuple #[(.agg #[(.int .i64 1), (.int .u64 dk), (.int .i64 (-1)), (.int .u64 0), (.int .u64 0)]), (.bool true)]), ⟨5, 3, [(4, 2, .cells [(.int .i64 1), (.int .u64 dk), (.int .i64 (-1)), (.int .u64 0), (.int .u64 0)] 32 true), (0, 0, (AdO1 e)), (1, 0, (AdO0 dk th ts kp sd t W a)), (2, 0, .dict .u64 .i64 fr), (3, 0, .ints .u64 W 22 true)]⟩)
    else
      bif (decide (t ≥ 64)) then
        some ((.tuple #[(.agg #[(.int .i64 1), (.int .u64 dk), (.int .i64 (-1)), (.int .u64 0), (.int .u64 0)]), (.bool true)]), ⟨5, 3, [(4, 2, .cells [(.int .i64 1), (.int .u64 dk), (.int .i64 (-1)), (.int .u64 0), (.int .u64 0)] 32 true), (0, 0, (AdO1 e)), (1, 0, (AdO0 dk th ts kp sd t W a)), (2, 0, .dict .u64 .i64 fr), (3, 0, .ints .u64 W 22 true)]⟩)
      else
        some ((.tuple #[(.agg #[(.int .i64 1), (.int .u64 dk), (.int .i64 (IntKind.wrap .i64 ((IntKind.wrap .i64 (2 + (IntKind.wrap .i64 (2 * t)))) + 1))), (.int .u64 0), (.int .u64 0)]), (.bool true)]), ⟨5, 3, [(4, 2, .cells [(.int .i64 1), (.int .u64 dk), (.int .i64 (IntKind.wrap .i64 ((IntKind.wrap .i64 (2 + (IntKind.wrap .i64 (2 * t)))) + 1))), (.int .u64 0), (.int .u64 0)] 32 true), (0, 0, (AdO1 e)), (1, 0, (AdO0 dk th ts kp sd t W a)), (2, 0, .dict .u64 .i64 fr), (3, 0, .ints .u64 W 22 true)]⟩)
  else
    bif (decide (a < (((List.length W) : Nat) : Int))) then
      if 0 ≤ a ∧ a < (((List.length W) : Nat) : Int) then
        obind (W[(0 + ((Int.toNat a) * 1))]?) fun n1 =>
          some ((.tuple #[(.agg #[(.int .i64 6), (.int .u64 n1), (.int .i64 0), (.int .u64 0), (.int .u64 0)]), (.bool true)]), ⟨5, 3, [(4, 2, .cells [(.int .i64 6), (.int .u64 n1), (.int .i64 0), (.int .u64 0), (.int .u64 0)] 32 true), (0, 0, (AdO1 e)), (1, 0, (AdO0 dk th ts kp sd t W a)), (2, 0, .dict .u64 .i64 fr), (3, 0, .ints .u64 W 22 true)]⟩)
      else
        none
    else
      some ((.tuple #[(.agg #[(.int .i64 0), (.int .u64 0), (.int .i64 0), (.int .u64 0), (.int .u64 0)]), (.bool false)]), ⟨5, 3, [(4, 2, .cells [(.int .i64 0), (.int .u64 0), (.int .i64 0), (.int .u64 0), (.int .u64 0)] 32 true), (0, 0, (AdO1 e)), (1, 0, (AdO0 dk th ts kp sd t W a)), (2, 0, .dict .u64 .i64 fr), (3, 0, .ints .u64 W 22 true)]⟩) := by kernel_rfl
theorem Adl {e : TypeId} {dk th ts kp sd t : Int} {W : List Int} {a : Int} {fr : DictSt} (ht : t < ts) (h0 : 0 ≤ t) (h1 : t ≤ 63)   : DoesC Tryd.prog 10 [(.pointer (some ⟨1, 0, none⟩))] (mkH [(AdO1 e), (AdO0 dk th ts kp sd t W a), .dict .u64 .i64 fr, .ints .u64 W 22 true]).low (.tuple #[(.agg #[(.int .i64 1), (.int .u64 dk), (.int .i64 (IntKind.wrap .i64 ((IntKind.wrap .i64 (2 + (IntKind.wrap .i64 (2 * t)))) + 1))), (.int .u64 0), (.int .u64 0)]), (.bool true)]) (KH.low ⟨5, 3, [(4, 2, .cells [(.int .i64 1), (.int .u64 dk), (.int .i64 (IntKind.wrap .i64 ((IntKind.wrap .i64 (2 + (IntKind.wrap .i64 (2 * t)))) + 1))), (.int .u64 0), (.int .u64 0)] 32 true), (0, 0, (AdO1 e)), (1, 0, (AdO0 dk th ts kp sd t W a)), (2, 0, .dict .u64 .i64 fr), (3, 0, .ints .u64 W 22 true)]⟩) :=
  tree_does fitR SoundC.no AgreeT.no (by kernel_rfl) ((Ad_t e dk th ts kp sd t W a fr).trans (by rw [condT (decide_eq_true (by (first | omega | ((try simp (disch := omega) only [wrap_i64_id]) <;> omega)))), condF (decide_eq_false (by (first | omega | ((try simp (disch := omega) only [wrap_i64_id]) <;> omega)))), condF (decide_eq_false (by (first | omega | ((try simp (disch := omega) only [wrap_i64_id]) <;> omega))))]))
theorem Adf {e : TypeId} {dk th ts kp sd t : Int} {W : List Int} {a : Int} {fr : DictSt} (ht : ts ≤ t) (ha0 : 0 ≤ a) (ha : a < ((W.length : Nat) : Int))   : DoesC Tryd.prog 10 [(.pointer (some ⟨1, 0, none⟩))] (mkH [(AdO1 e), (AdO0 dk th ts kp sd t W a), .dict .u64 .i64 fr, .ints .u64 W 22 true]).low (.tuple #[(.agg #[(.int .i64 6), (.int .u64 (W.getD (0 + ((Int.toNat a) * 1)) 0)), (.int .i64 0), (.int .u64 0), (.int .u64 0)]), (.bool true)]) (KH.low ⟨5, 3, [(4, 2, .cells [(.int .i64 6), (.int .u64 (W.getD (0 + ((Int.toNat a) * 1)) 0)), (.int .i64 0), (.int .u64 0), (.int .u64 0)] 32 true), (0, 0, (AdO1 e)), (1, 0, (AdO0 dk th ts kp sd t W a)), (2, 0, .dict .u64 .i64 fr), (3, 0, .ints .u64 W 22 true)]⟩) :=
  tree_does fitR SoundC.no AgreeT.no (by kernel_rfl) ((Ad_t e dk th ts kp sd t W a fr).trans (by rw [condF (decide_eq_false (by (first | omega | ((try simp (disch := omega) only [wrap_i64_id]) <;> omega)))), condT (decide_eq_true (by (first | omega | ((try simp (disch := omega) only [wrap_i64_id]) <;> omega)))), if_pos (⟨by (first | omega | ((try simp (disch := omega) only [wrap_i64_id]) <;> omega)), by (first | omega | ((try simp (disch := omega) only [wrap_i64_id]) <;> omega))⟩), obind_at (k := 0 + ((Int.toNat a) * 1)) (by omega) (by omega)]))
theorem Adz {e : TypeId} {dk th ts kp sd t : Int} {W : List Int} {a : Int} {fr : DictSt} (ht : ts ≤ t) (ha : ((W.length : Nat) : Int) ≤ a)   : DoesC Tryd.prog 10 [(.pointer (some ⟨1, 0, none⟩))] (mkH [(AdO1 e), (AdO0 dk th ts kp sd t W a), .dict .u64 .i64 fr, .ints .u64 W 22 true]).low (.tuple #[(.agg #[(.int .i64 0), (.int .u64 0), (.int .i64 0), (.int .u64 0), (.int .u64 0)]), (.bool false)]) (KH.low ⟨5, 3, [(4, 2, .cells [(.int .i64 0), (.int .u64 0), (.int .i64 0), (.int .u64 0), (.int .u64 0)] 32 true), (0, 0, (AdO1 e)), (1, 0, (AdO0 dk th ts kp sd t W a)), (2, 0, .dict .u64 .i64 fr), (3, 0, .ints .u64 W 22 true)]⟩) :=
  tree_does fitR SoundC.no AgreeT.no (by kernel_rfl) ((Ad_t e dk th ts kp sd t W a fr).trans (by rw [condF (decide_eq_false (by (first | omega | ((try simp (disch := omega) only [wrap_i64_id]) <;> omega)))), condF (decide_eq_false (by (first | omega | ((try simp (disch := omega) only [wrap_i64_id]) <;> omega))))]))
noncomputable abbrev RdO0 (dk th ts kp sd t : Int) (W : List Int) (a : Int) : KObj := .cells [(.int .u64 dk), (.int .i64 th), (.int .i64 ts), (.int .i64 kp), (.int .u64 sd), (.bool true), (.bool true), (.int .i64 t), (.slice (some ⟨3, 0, none⟩) (List.length W) (List.length W)), (.int .i64 a), (.map (some 2)), (.slice none 0 0)] 55 true
noncomputable abbrev RdO1 (dk t : Int) : KObj := .cells [(.int .i64 1), (.int .u64 dk), (.int .i64 (IntKind.wrap .i64 ((IntKind.wrap .i64 (2 + (IntKind.wrap .i64 (2 * t)))) + 1))), (.int .u64 0), (.int .u64 0)] 32 true
noncomputable abbrev RdO2 (dk : Int) : KObj := .cells [(.int .i64 1), (.int .u64 dk), (.int .i64 (-1)), (.int .u64 0), (.int .u64 0)] 32 true
noncomputable abbrev RdO3 : KObj := .cells [(.int .i64 0), (.int .u64 0), (.int .i64 0), (.int .u64 0), (.int .u64 0)] 32 true
noncomputable abbrev RdO4 (e : TypeId) : KObj := .cells [(.int .i64 1), (.int .i64 64), (.int .i64 1), (.int .i64 64)] e false
theorem Rd_t (e : TypeId) (dk th ts kp sd t : Int) (W : List Int) (a : Int) (fr : DictSt) : runK Tryd.prog cfgR fsR (conTk clBDom (rcK varL clBT)) 30 40 11 [(.pointer (some ⟨1, 0, none⟩))] (mkH [(RdO4 e), (RdO0 dk th ts kp sd t W a), .dict .u64 .i64 fr, .ints .u64 W 22 true]) bothK =
  bif (decide (t < ts)) then
    bif (decide (t < 0)) then
      some ((.tuple #[(.slice none 0 0), (.bool false)]), ⟨6, 5, [(5, 4, (RdO2 dk)), (4, 2, (RdO2 dk)), (0, 0, (RdO4 e)), (1, 0, (RdO0 dk th ts kp sd t W a)), (2, 0, .dict .u64 .i64 fr), (3, 0, .ints .u64 W 22 true)]⟩)
    else
      bif (decide (t ≥ 64)) then
        some ((.tuple #[(.slice none 0 0), (.bool false)]), ⟨6, 5, [(5, 4, (RdO2 dk)), (4, 2, (RdO2 dk)), (0, 0, (RdO4 e)), (1, 0, (RdO0 dk th ts kp sd t W a)), (2, 0, .dict .u64 .i64 fr), (3, 0, .ints .u64 W 22 true)]⟩)
      else
        some ((.tuple #[(.slice none 0 0), (.bool false)]), ⟨6, 5, [(5, 4, (RdO1 dk t)), (4, 2, (RdO1 dk t)), (0, 0, (RdO4 e)), (1, 0, (RdO0 dk th ts kp sd t W a)), (2, 0, .dict .u64 .i64 fr), (3, 0, .ints .u64 W 22 true)]⟩)
  else
    bif (decide (a < (((List.length W) : Nat) : Int))) then
      if 0 ≤ a ∧ a < (((List.length W) : Nat) : Int) then
        obind (W[(0 + ((Int.toNat a) * 1))]?) fun n1 =>
          some ((.tuple #[(.slice none 0 0), (.bool false)]), ⟨6, 5, [(5, 4, .cells [(.int .i64 6), (.int .u64 n1), (.int .i64 0), (.int .u64 0), (.int .u64 0)] 32 true), (4, 2, .cells [(.int .i64 6), (.int .u64 n1), (.int .i64 0), (.int .u64 0), (.int .u64 0)] 32 true), (0, 0, (RdO4 e)), (1, 0, (RdO0 dk th ts kp sd t W a)), (2, 0, .dict .u64 .i64 fr), (3, 0, .ints .u64 W 22 true)]⟩)
      else
        none
    else
      bif (Nat.beq (List.length ([] : List Int)) 0) then
        some ((.tuple #[(.slice (some ⟨0, 0, none⟩) 0 0), (.bool true)]), ⟨6, 5, [(5, 4, RdO3), (4, 2, RdO3), (0, 0, (RdO4 e)), (1, 0, (RdO0 dk th ts kp sd t W a)), (2, 0, .dict .u64 .i64 fr), (3, 0, .ints .u64 W 22 true)]⟩)
      else
        none := by kernel_rfl
theorem Rdl {e : TypeId} {dk th ts kp sd t : Int} {W : List Int} {a : Int} {fr : DictSt} (ht : t < ts) (h0 : 0 ≤ t) (h1 : t ≤ 63)   : DoesC Tryd.prog 11 [(.pointer (some ⟨1, 0, none⟩))] (mkH [(RdO4 e), (RdO0 dk th ts kp sd t W a), .dict .u64 .i64 fr, .ints .u64 W 22 true]).low (.tuple #[(.slice none 0 0), (.bool false)]) (KH.low ⟨6, 5, [(5, 4, (RdO1 dk t)), (4, 2, (RdO1 dk t)), (0, 0, (RdO4 e)), (1, 0, (RdO0 dk th ts kp sd t W a)), (2, 0, .dict .u64 .i64 fr), (3, 0, .ints .u64 W 22 true)]⟩) :=
  tree_does fitR clB_sound (rc_agree _ _ _) (by kernel_rfl) ((Rd_t e dk th ts kp sd t W a fr).trans (by rw [condT (decide_eq_true (by (first | omega | ((try simp (disch := omega) only [wrap_i64_id]) <;> omega)))), condF (decide_eq_false (by (first | omega | ((try simp (disch := omega) only [wrap_i64_id]) <;> omega)))), condF (decide_eq_false (by (first | omega | ((try simp (disch := omega) only [wrap_i64_id]) <;> omega))))]))
theorem Rdf {e : TypeId} {dk th ts kp sd t : Int} {W : List Int} {a : Int} {fr : DictSt} (ht : ts ≤ t) (ha0 : 0 ≤ a) (ha : a < ((W.length : Nat) : Int))   : DoesC Tryd.prog 11 [(.pointer (some ⟨1, 0, none⟩))] (mkH [(RdO4 e), (RdO0 dk th ts kp sd t W a), .dict .u64 .i64 fr, .ints .u64 W 22 true]).low (.tuple #[(.slice none 0 0), (.bool false)]) (KH.low ⟨6, 5, [(5, 4, .cells [(.int .i64 6), (.int .u64 (W.getD (0 + ((Int.toNat a) * 1)) 0)), (.int .i64 0), (.int .u64 0), (.int .u64 0)] 32 true), (4, 2, .cells [(.int .i64 6), (.int .u64 (W.getD (0 + ((Int.toNat a) * 1)) 0)), (.int .i64 0), (.int .u64 0), (.int .u64 0)] 32 true), (0, 0, (RdO4 e)), (1, 0, (RdO0 dk th ts kp sd t W a)), (2, 0, .dict .u64 .i64 fr), (3, 0, .ints .u64 W 22 true)]⟩) :=
  tree_does fitR clB_sound (rc_agree _ _ _) (by kernel_rfl) ((Rd_t e dk th ts kp sd t W a fr).trans (by rw [condF (decide_eq_false (by (first | omega | ((try simp (disch := omega) only [wrap_i64_id]) <;> omega)))), condT (decide_eq_true (by (first | omega | ((try simp (disch := omega) only [wrap_i64_id]) <;> omega)))), if_pos (⟨by (first | omega | ((try simp (disch := omega) only [wrap_i64_id]) <;> omega)), by (first | omega | ((try simp (disch := omega) only [wrap_i64_id]) <;> omega))⟩), obind_at (k := 0 + ((Int.toNat a) * 1)) (by omega) (by omega)]))
theorem Rdz {e : TypeId} {dk th ts kp sd t : Int} {W : List Int} {a : Int} {fr : DictSt} (ht : ts ≤ t) (ha : ((W.length : Nat) : Int) ≤ a)   : DoesC Tryd.prog 11 [(.pointer (some ⟨1, 0, none⟩))] (mkH [(RdO4 e), (RdO0 dk th ts kp sd t W a), .dict .u64 .i64 fr, .ints .u64 W 22 true]).low (.tuple #[(.slice (some ⟨0, 0, none⟩) 0 0), (.bool true)]) (KH.low ⟨6, 5, [(5, 4, RdO3), (4, 2, RdO3), (0, 0, (RdO4 e)), (1, 0, (RdO0 dk th ts kp sd t W a)), (2, 0, .dict .u64 .i64 fr), (3, 0, .ints .u64 W 22 true)]⟩) :=
  tree_does fitR clB_sound (rc_agree _ _ _) (by kernel_rfl) ((Rd_t e dk th ts kp sd t W a fr).trans (by rw [condF (decide_eq_false (by (first | omega | ((try simp (disch := omega) only [wrap_i64_id]) <;> omega)))), condF (decide_eq_false (by (first | omega | ((try simp (disch := omega) only [wrap_i64_id]) <;> omega)))), condT (show (Nat.beq (List.length ([] : List Int)) 0) = true from rfl)]))
noncomputable abbrev AfO0 (dk th ts kp sd t : Int) (W : List Int) (a : Int) (R : List Int) : KObj := .cells [(.int .u64 dk), (.int .i64 th), (.int .i64 ts), (.int .i64 kp), (.int .u64 sd), (.bool true), (.bool true), (.int .i64 t), (.slice (some ⟨3, 0, none⟩) (List.length W) (List.length W)), (.int .i64 a), (.map (some 2)), (.slice (some ⟨4, 0, none⟩) (List.length R) (List.length R))] 55 true
noncomputable abbrev AfO1 (e : TypeId) : KObj := .cells [(.int .i64 1), (.int .i64 64), (.int .i64 1), (.int .i64 64)] e false
theorem Af_t (e : TypeId) (dk th ts kp sd t : Int) (W : List Int) (a : Int) (R : List Int) (fr : DictSt) : runK Tryd.prog cfgR fsR noT 30 40 10 [(.pointer (some ⟨1, 0, none⟩))] (mkH [(AfO1 e), (AfO0 dk th ts kp sd t W a R), .dict .u64 .i64 fr, .ints .u64 W 22 true, .ints .u64 R 22 true]) bothK =
  bif (decide (t < ts)) then
    bif (decide (t < 0)) then
      some ((.tuple #[(.agg #[(.int .i64 1), (.int .u64 dk), (.int .i64 (-1)), (.int .u64 0), (.int .u64 0)]), (.bool true)]), ⟨6, 3, [(5, 2, .cells [(.int .i64 1), (.int .u64 dk), (.int .i64 (-1)), (.int .u64 0), (.int .u64 0)] 32 true), (0, 0, (AfO1 e)), (1, 0, (AfO0 dk th ts kp sd t W a R)), (2, 0, .dict .u64 .i64 fr), (3, 0, .ints .u64 W 22 true), (4, 0, .ints .u64 R 22 true)]⟩)
    else
      bif (decide (t ≥ 64)) then
        some ((.tuple #[(.agg #[(.int .i64 1), (.int .u64 dk), (.int .i64 (-1)), (.int .u64 0), (.int .u64 0)]), (.bool true)]), ⟨6, 3, [(5, 2, .cells [(.int .i64 1), (.int .u64 dk), (.int .i64 (-1)), (.int .u64 0), (.int .u64 0)] 32 true), (0, 0, (AfO1 e)), (1, 0, (AfO0 dk th ts kp sd t W a R)), (2, 0, .dict .u64 .i64 fr), (3, 0, .ints .u64 W 22 true), (4, 0, .ints .u64 R 22 true)]⟩)
      else
        some ((.tuple #[(.agg #[(.int .i64 1), (.int .u64 dk), (.int .i64 (IntKind.wrap .i64 ((IntKind.wrap .i64 (2 + (IntKind.wrap .i64 (2 * t)))) + 1))), (.int .u64 0), (.int .u64 0)]), (.bool true)]), ⟨6, 3, [(5, 2, .cells [(.int .i64 1), (.int .u64 dk), (.int .i64 (IntKind.wrap .i64 ((IntKind.wrap .i64 (2 + (IntKind.wrap .i64 (2 * t)))) + 1))), (.int .u64 0), (.int .u64 0)] 32 true), (0, 0, (AfO1 e)), (1, 0, (AfO0 dk th ts kp sd t W a R)), (2, 0, .dict .u64 .i64 fr), (3, 0, .ints .u64 W 22 true), (4, 0, .ints .u64 R 22 true)]⟩)
  else
    bif (decide (a < (((List.length W) : Nat) : Int))) then
      if 0 ≤ a ∧ a < (((List.length W) : Nat) : Int) then
        obind (W[(0 + ((Int.toNat a) * 1))]?) fun n1 =>
          some ((.tuple #[(.agg #[(.int .i64 6), (.int .u64 n1), (.int .i64 0), (.int .u64 0), (.int .u64 0)]), (.bool true)]), ⟨6, 3, [(5, 2, .cells [(.int .i64 6), (.int .u64 n1), (.int .i64 0), (.int .u64 0), (.int .u64 0)] 32 true), (0, 0, (AfO1 e)), (1, 0, (AfO0 dk th ts kp sd t W a R)), (2, 0, .dict .u64 .i64 fr), (3, 0, .ints .u64 W 22 true), (4, 0, .ints .u64 R 22 true)]⟩)
      else
        none
    else
      some ((.tuple #[(.agg #[(.int .i64 0), (.int .u64 0), (.int .i64 0), (.int .u64 0), (.int .u64 0)]), (.bool false)]), ⟨6, 3, [(5, 2, .cells [(.int .i64 0), (.int .u64 0), (.int .i64 0), (.int .u64 0), (.int .u64 0)] 32 true), (0, 0, (AfO1 e)), (1, 0, (AfO0 dk th ts kp sd t W a R)), (2, 0, .dict .u64 .i64 fr), (3, 0, .ints .u64 W 22 true), (4, 0, .ints .u64 R 22 true)]⟩) := by kernel_rfl
theorem Afl {e : TypeId} {dk th ts kp sd t : Int} {W : List Int} {a : Int} {R : List Int} {fr : DictSt} (ht : t < ts) (h0 : 0 ≤ t) (h1 : t ≤ 63)   : DoesC Tryd.prog 10 [(.pointer (some ⟨1, 0, none⟩))] (mkH [(AfO1 e), (AfO0 dk th ts kp sd t W a R), .dict .u64 .i64 fr, .ints .u64 W 22 true, .ints .u64 R 22 true]).low (.tuple #[(.agg #[(.int .i64 1), (.int .u64 dk), (.int .i64 (IntKind.wrap .i64 ((IntKind.wrap .i64 (2 + (IntKind.wrap .i64 (2 * t)))) + 1))), (.int .u64 0), (.int .u64 0)]), (.bool true)]) (KH.low ⟨6, 3, [(5, 2, .cells [(.int .i64 1), (.int .u64 dk), (.int .i64 (IntKind.wrap .i64 ((IntKind.wrap .i64 (2 + (IntKind.wrap .i64 (2 * t)))) + 1))), (.int .u64 0), (.int .u64 0)] 32 true), (0, 0, (AfO1 e)), (1, 0, (AfO0 dk th ts kp sd t W a R)), (2, 0, .dict .u64 .i64 fr), (3, 0, .ints .u64 W 22 true), (4, 0, .ints .u64 R 22 true)]⟩) :=
  tree_does fitR SoundC.no AgreeT.no (by kernel_rfl) ((Af_t e dk th ts kp sd t W a R fr).trans (by rw [condT (decide_eq_true (by (first | omega | ((try simp (disch := omega) only [wrap_i64_id]) <;> omega)))), condF (decide_eq_false (by (first | omega | ((try simp (disch := omega) only [wrap_i64_id]) <;> omega)))), condF (decide_eq_false (by (first | omega | ((try simp (disch := omega) only [wrap_i64_id]) <;> omega))))]))
theorem Aff {e : TypeId} {dk th ts kp sd t : Int} {W : List Int} {a : Int} {R : List Int} {fr : DictSt} (ht : ts ≤ t) (ha0 : 0 ≤ a) (ha : a < ((W.length : Nat) : Int))   : DoesC Tryd.prog 10 [(.pointer (some ⟨1, 0, none⟩))] (mkH [(AfO1 e), (AfO0 dk th ts kp sd t W a R), .dict .u64 .i64 fr, .ints .u64 W 22 true, .ints .u64 R 22 true]).low (.tuple #[(.agg #[(.int .i64 6), (.int .u64 (W.getD (0 + ((Int.toNat a) * 1)) 0)), (.int .i64 0), (.int .u64 0), (.int .u64 0)]), (.bool true)]) (KH.low ⟨6, 3, [(5, 2, .cells [(.int .i64 6), (.int .u64 (W.getD (0 + ((Int.toNat a) * 1)) 0)), (.int .i64 0), (.int .u64 0), (.int .u64 0)] 32 true), (0, 0, (AfO1 e)), (1, 0, (AfO0 dk th ts kp sd t W a R)), (2, 0, .dict .u64 .i64 fr), (3, 0, .ints .u64 W 22 true), (4, 0, .ints .u64 R 22 true)]⟩) :=
  tree_does fitR SoundC.no AgreeT.no (by kernel_rfl) ((Af_t e dk th ts kp sd t W a R fr).trans (by rw [condF (decide_eq_false (by (first | omega | ((try simp (disch := omega) only [wrap_i64_id]) <;> omega)))), condT (decide_eq_true (by (first | omega | ((try simp (disch := omega) only [wrap_i64_id]) <;> omega)))), if_pos (⟨by (first | omega | ((try simp (disch := omega) only [wrap_i64_id]) <;> omega)), by (first | omega | ((try simp (disch := omega) only [wrap_i64_id]) <;> omega))⟩), obind_at (k := 0 + ((Int.toNat a) * 1)) (by omega) (by omega)]))
theorem Afz {e : TypeId} {dk th ts kp sd t : Int} {W : List Int} {a : Int} {R : List Int} {fr : DictSt} (ht : ts ≤ t) (ha : ((W.length : Nat) : Int) ≤ a)   : DoesC Tryd.prog 10 [(.pointer (some ⟨1, 0, none⟩))] (mkH [(AfO1 e), (AfO0 dk th ts kp sd t W a R), .dict .u64 .i64 fr, .ints .u64 W 22 true, .ints .u64 R 22 true]).low (.tuple #[(.agg #[(.int .i64 0), (.int .u64 0), (.int .i64 0), (.int .u64 0), (.int .u64 0)]), (.bool false)]) (KH.low ⟨6, 3, [(5, 2, .cells [(.int .i64 0), (.int .u64 0), (.int .i64 0), (.int .u64 0), (.int .u64 0)] 32 true), (0, 0, (AfO1 e)), (1, 0, (AfO0 dk th ts kp sd t W a R)), (2, 0, .dict .u64 .i64 fr), (3, 0, .ints .u64 W 22 true), (4, 0, .ints .u64 R 22 true)]⟩) :=
  tree_does fitR SoundC.no AgreeT.no (by kernel_rfl) ((Af_t e dk th ts kp sd t W a R fr).trans (by rw [condF (decide_eq_false (by (first | omega | ((try simp (disch := omega) only [wrap_i64_id]) <;> omega)))), condF (decide_eq_false (by (first | omega | ((try simp (disch := omega) only [wrap_i64_id]) <;> omega))))]))
noncomputable abbrev RfO0 (dk th ts kp sd t : Int) (W : List Int) (a : Int) (R : List Int) : KObj := .cells [(.int .u64 dk), (.int .i64 th), (.int .i64 ts), (.int .i64 kp), (.int .u64 sd), (.bool true), (.bool true), (.int .i64 t), (.slice (some ⟨3, 0, none⟩) (List.length W) (List.length W)), (.int .i64 a), (.map (some 2)), (.slice (some ⟨4, 0, none⟩) (List.length R) (List.length R))] 55 true
noncomputable abbrev RfO1 (dk t : Int) : KObj := .cells [(.int .i64 1), (.int .u64 dk), (.int .i64 (IntKind.wrap .i64 ((IntKind.wrap .i64 (2 + (IntKind.wrap .i64 (2 * t)))) + 1))), (.int .u64 0), (.int .u64 0)] 32 true
noncomputable abbrev RfO2 (dk : Int) : KObj := .cells [(.int .i64 1), (.int .u64 dk), (.int .i64 (-1)), (.int .u64 0), (.int .u64 0)] 32 true
noncomputable abbrev RfO3 : KObj := .cells [(.int .i64 0), (.int .u64 0), (.int .i64 0), (.int .u64 0), (.int .u64 0)] 32 true
noncomputable abbrev RfO4 (e : TypeId) : KObj := .cells [(.int .i64 1), (.int .i64 64), (.int .i64 1), (.int .i64 64)] e false
theorem Rf_t (e : TypeId) (dk th ts kp sd t : Int) (W : List Int) (a : Int) (R : List Int) (fr : DictSt) : runK Tryd.prog cfgR fsR (conTk clADom (rcK varL clAT)) 30 40 11 [(.pointer (some ⟨1, 0, none⟩))] (mkH [(RfO4 e), (RfO0 dk th ts kp sd t W a R), .dict .u64 .i64 fr, .ints .u64 W 22 true, .ints .u64 R 22 true]) bothK =
  bif (decide (t < ts)) then
    bif (decide (t < 0)) then
      some ((.tuple #[(.slice none 0 0), (.bool false)]), ⟨7, 5, [(6, 4, (RfO2 dk)), (5, 2, (RfO2 dk)), (0, 0, (RfO4 e)), (1, 0, (RfO0 dk th ts kp sd t W a R)), (2, 0, .dict .u64 .i64 fr), (3, 0, .ints .u64 W 22 true), (4, 0, .ints .u64 R 22 true)]⟩)
    else
      bif (decide (t ≥ 64)) then
        some ((.tuple #[(.slice none 0 0), (.bool false)]), ⟨7, 5, [(6, 4, (RfO2 dk)), (5, 2, (RfO2 dk)), (0, 0, (RfO4 e)), (1, 0, (RfO0 dk th ts kp sd t W a R)), (2, 0, .dict .u64 .i64 fr), (3, 0, .ints .u64 W 22 true), (4, 0, .ints .u64 R 22 true)]⟩)
      else
        some ((.tuple #[(.slice none 0 0), (.bool false)]), ⟨7, 5, [(6, 4, (RfO1 dk t)), (5, 2, (RfO1 dk t)), (0, 0, (RfO4 e)), (1, 0, (RfO0 dk th ts kp sd t W a R)), (2, 0, .dict .u64 .i64 fr), (3, 0, .ints .u64 W 22 true), (4, 0, .ints .u64 R 22 true)]⟩)
  else
    bif (decide (a < (((List.length W) : Nat) : Int))) then
      if 0 ≤ a ∧ a < (((List.length W) : Nat) : Int) then
        obind (W[(0 + ((Int.toNat a) * 1))]?) fun n1 =>
          some ((.tuple #[(.slice none 0 0), (.bool false)]), ⟨7, 5, [(6, 4, .cells [(.int .i64 6), (.int .u64 n1), (.int .i64 0), (.int .u64 0), (.int .u64 0)] 32 true), (5, 2, .cells [(.int .i64 6), (.int .u64 n1), (.int .i64 0), (.int .u64 0), (.int .u64 0)] 32 true), (0, 0, (RfO4 e)), (1, 0, (RfO0 dk th ts kp sd t W a R)), (2, 0, .dict .u64 .i64 fr), (3, 0, .ints .u64 W 22 true), (4, 0, .ints .u64 R 22 true)]⟩)
      else
        none
    else
      bif (Nat.ble (0 + (List.length R)) (List.length R)) then
        bif ((Nat.ble 1 (List.length (List.take (List.length R) (List.drop 0 R)))) && (Nat.ble (List.length (List.take (List.length R) (List.drop 0 R))) 1000)) then
          some ((.tuple #[(.slice (some ⟨7, 0, none⟩) (List.length (List.take (List.length R) (List.drop 0 R))) (List.length (List.take (List.length R) (List.drop 0 R)))), (.bool true)]), ⟨8, 6, [(7, 5, .ints .u64 (List.take (List.length R) (List.drop 0 R)) 22 true), (6, 4, RfO3), (5, 2, RfO3), (0, 0, (RfO4 e)), (1, 0, (RfO0 dk th ts kp sd t W a R)), (2, 0, .dict .u64 .i64 fr), (3, 0, .ints .u64 W 22 true), (4, 0, .ints .u64 R 22 true)]⟩)
        else
          none
      else
        none := by kernel_rfl
theorem Rfl {e : TypeId} {dk th ts kp sd t : Int} {W : List Int} {a : Int} {R : List Int} {fr : DictSt} (ht : t < ts) (h0 : 0 ≤ t) (h1 : t ≤ 63)   : DoesC Tryd.prog 11 [(.pointer (some ⟨1, 0, none⟩))] (mkH [(RfO4 e), (RfO0 dk th ts kp sd t W a R), .dict .u64 .i64 fr, .ints .u64 W 22 true, .ints .u64 R 22 true]).low (.tuple #[(.slice none 0 0), (.bool false)]) (KH.low ⟨7, 5, [(6, 4, (RfO1 dk t)), (5, 2, (RfO1 dk t)), (0, 0, (RfO4 e)), (1, 0, (RfO0 dk th ts kp sd t W a R)), (2, 0, .dict .u64 .i64 fr), (3, 0, .ints .u64 W 22 true), (4, 0, .ints .u64 R 22 true)]⟩) :=
  tree_does fitR clA_sound (rc_agree _ _ _) (by kernel_rfl) ((Rf_t e dk th ts kp sd t W a R fr).trans (by rw [condT (decide_eq_true (by (first | omega | ((try simp (disch := omega) only [wrap_i64_id]) <;> omega)))), condF (decide_eq_false (by (first | omega | ((try simp (disch := omega) only [wrap_i64_id]) <;> omega)))), condF (decide_eq_false (by (first | omega | ((try simp (disch := omega) only [wrap_i64_id]) <;> omega))))]))
theorem Rff {e : TypeId} {dk th ts kp sd t : Int} {W : List Int} {a : Int} {R : List Int} {fr : DictSt} (ht : ts ≤ t) (ha0 : 0 ≤ a) (ha : a < ((W.length : Nat) : Int))   : DoesC Tryd.prog 11 [(.pointer (some ⟨1, 0, none⟩))] (mkH [(RfO4 e), (RfO0 dk th ts kp sd t W a R), .dict .u64 .i64 fr, .ints .u64 W 22 true, .ints .u64 R 22 true]).low (.tuple #[(.slice none 0 0), (.bool false)]) (KH.low ⟨7, 5, [(6, 4, .cells [(.int .i64 6), (.int .u64 (W.getD (0 + ((Int.toNat a) * 1)) 0)), (.int .i64 0), (.int .u64 0), (.int .u64 0)] 32 true), (5, 2, .cells [(.int .i64 6), (.int .u64 (W.getD (0 + ((Int.toNat a) * 1)) 0)), (.int .i64 0), (.int .u64 0), (.int .u64 0)] 32 true), (0, 0, (RfO4 e)), (1, 0, (RfO0 dk th ts kp sd t W a R)), (2, 0, .dict .u64 .i64 fr), (3, 0, .ints .u64 W 22 true), (4, 0, .ints .u64 R 22 true)]⟩) :=
  tree_does fitR clA_sound (rc_agree _ _ _) (by kernel_rfl) ((Rf_t e dk th ts kp sd t W a R fr).trans (by rw [condF (decide_eq_false (by (first | omega | ((try simp (disch := omega) only [wrap_i64_id]) <;> omega)))), condT (decide_eq_true (by (first | omega | ((try simp (disch := omega) only [wrap_i64_id]) <;> omega)))), if_pos (⟨by (first | omega | ((try simp (disch := omega) only [wrap_i64_id]) <;> omega)), by (first | omega | ((try simp (disch := omega) only [wrap_i64_id]) <;> omega))⟩), obind_at (k := 0 + ((Int.toNat a) * 1)) (by omega) (by omega)]))
theorem Rfz {e : TypeId} {dk th ts kp sd t : Int} {W : List Int} {a : Int} {R : List Int} {fr : DictSt} (ht : ts ≤ t) (ha : ((W.length : Nat) : Int) ≤ a) (hn : 1 ≤ R.length) (hb : R.length ≤ 1000)   : DoesC Tryd.prog 11 [(.pointer (some ⟨1, 0, none⟩))] (mkH [(RfO4 e), (RfO0 dk th ts kp sd t W a R), .dict .u64 .i64 fr, .ints .u64 W 22 true, .ints .u64 R 22 true]).low (.tuple #[(.slice (some ⟨7, 0, none⟩) (List.length (List.take (List.length R) (List.drop 0 R))) (List.length (List.take (List.length R) (List.drop 0 R)))), (.bool true)]) (KH.low ⟨8, 6, [(7, 5, .ints .u64 (List.take (List.length R) (List.drop 0 R)) 22 true), (6, 4, RfO3), (5, 2, RfO3), (0, 0, (RfO4 e)), (1, 0, (RfO0 dk th ts kp sd t W a R)), (2, 0, .dict .u64 .i64 fr), (3, 0, .ints .u64 W 22 true), (4, 0, .ints .u64 R 22 true)]⟩) :=
  tree_does fitR clA_sound (rc_agree _ _ _) (by kernel_rfl) ((Rf_t e dk th ts kp sd t W a R fr).trans (by rw [condF (decide_eq_false (by (first | omega | ((try simp (disch := omega) only [wrap_i64_id]) <;> omega)))), condF (decide_eq_false (by (first | omega | ((try simp (disch := omega) only [wrap_i64_id]) <;> omega)))), condT (ble_t (by (first | omega | ((try simp (disch := omega) only [wrap_i64_id]) <;> omega)))), condT (and_t (ble_t (by simp only [List.drop_zero, List.take_length]; omega)) (ble_t (by simp only [List.drop_zero, List.take_length]; omega)))]))
theorem zeroT_f (ρ ρ' : Rho) (u : Value) (h : R ρ (.tuple #[.slice none 0 0, .bool false]) u) : R ρ' (zeroT false) u := zeroT_nil false ρ ρ' u h
theorem bcell {t : Int} (h0 : 0 ≤ t) (h1 : t ≤ 63) : IntKind.wrap .i64 (IntKind.wrap .i64 (2 + IntKind.wrap .i64 (2 * t)) + 1) = 3 + 2 * t := by
  rw [wrap_i64_id (n := 2 * t) (by omega) (by omega), wrap_i64_id (n := 2 + 2 * t) (by omega) (by omega), wrap_i64_id (by omega) (by omega)]; omega
theorem rtAct_does (e0 : TypeId) (x : RetireSt) (h : rtOk x = true) : DoesC Tryd.prog 10 [.pointer (some ⟨1, 0, none⟩)] (mkH [.cells (intCells .i64 [1, 64, 1, 64]) e0 false, .mach (.retire x)]).low (.tuple #[(.agg #[(.int .i64 (rtK x)), (.int .u64 (rtB x)), (.int .i64 (rtC x)), (.int .u64 0), (.int .u64 0)]), (.bool (rtMore x))]) (effK (mkH [.cells (intCells .i64 [1, 64, 1, 64]) e0 false, .mach (.retire x)]) [(1, .mach (.retire x))] []).low := by
  cases rtOk_shp h with
  | a dk th ts kp sd t a fr R => exact mach_does (vs := varL) (vb := [.cells (intCells .i64 [1, 64, 1, 64]) e0 false]) oneVar (.cons e0 .nil) (isRa dk th ts kp sd t a fr R) (isRa dk th ts kp sd t a fr R) Aan [2] (by kernel_rfl)
  | b dk th ts kp sd t a fr => exact mach_does (vs := varL) (vb := [.cells (intCells .i64 [1, 64, 1, 64]) e0 false]) oneVar (.cons e0 .nil) (isRb dk th ts kp sd t a fr []) (isRb dk th ts kp sd t a fr []) Abn [2] (by kernel_rfl)
  | c dk th ts kp sd t a fr w ws R hl => exact mach_does (vs := varL) (vb := [.cells (intCells .i64 [1, 64, 1, 64]) e0 false]) oneVar (.cons e0 .nil) (isRc dk th ts kp sd t a fr w ws R) (isRc dk th ts kp sd t a fr w ws R) Acn [2, 3] (by kernel_rfl)
  | d dk th ts kp sd t a fr w ws hl ht htt hts ha haw =>
    by_cases h1 : t < ts
    · have hb := bcell ht (show t ≤ 63 by omega)
      have e1 : rtK (RetireSt.mk ⟨dk, th, ts, kp, sd⟩ true true t (w :: ws) a fr [] false) = 1 := by unfold rtK; simp only [cond_true, decide_eq_true h1]
      have e2 : rtB (RetireSt.mk ⟨dk, th, ts, kp, sd⟩ true true t (w :: ws) a fr [] false) = dk := by unfold rtB; simp only [cond_true, decide_eq_true h1]
      have e3 : rtC (RetireSt.mk ⟨dk, th, ts, kp, sd⟩ true true t (w :: ws) a fr [] false) = 3 + 2 * t := by unfold rtC; simp only [cond_true, decide_eq_true h1]
      have e4 : rtMore (RetireSt.mk ⟨dk, th, ts, kp, sd⟩ true true t (w :: ws) a fr [] false) = true := by unfold rtMore; simp only [decide_eq_true h1]; rfl
      have hd := mach_does (vs := varL) (vb := [.cells (intCells .i64 [1, 64, 1, 64]) e0 false]) oneVar (.cons e0 .nil) (isRd dk th ts kp sd t a fr w ws) (isRd dk th ts kp sd t a fr w ws) (Adl (dk := dk) (th := th) (kp := kp) (sd := sd) (a := a) (fr := fr) (W := (w :: ws)) (e := e0) h1 ht (by omega)) [2, 3] (by kernel_rfl)
      rw [hb] at hd
      rw [e1, e2, e3, e4]
      exact hd
    · by_cases h2 : a < ((List.length (w :: ws) : Nat) : Int)
      · have e1 : rtK (RetireSt.mk ⟨dk, th, ts, kp, sd⟩ true true t (w :: ws) a fr [] false) = 6 := by unfold rtK; simp only [cond_true, decide_eq_false h1, decide_eq_true h2, cond_false]
        have e2 : rtB (RetireSt.mk ⟨dk, th, ts, kp, sd⟩ true true t (w :: ws) a fr [] false) = (w :: ws).getD a.toNat 0 := by unfold rtB; simp only [cond_true, decide_eq_false h1, decide_eq_true h2, cond_false]
        have e3 : rtC (RetireSt.mk ⟨dk, th, ts, kp, sd⟩ true true t (w :: ws) a fr [] false) = 0 := by unfold rtC; simp only [cond_true, decide_eq_false h1, cond_false]
        have e4 : rtMore (RetireSt.mk ⟨dk, th, ts, kp, sd⟩ true true t (w :: ws) a fr [] false) = true := by unfold rtMore; simp only [decide_eq_true h2, Bool.or_true]; rfl
        have hd := mach_does (vs := varL) (vb := [.cells (intCells .i64 [1, 64, 1, 64]) e0 false]) oneVar (.cons e0 .nil) (isRd dk th ts kp sd t a fr w ws) (isRd dk th ts kp sd t a fr w ws) (Adf (dk := dk) (th := th) (kp := kp) (sd := sd) (t := t) (fr := fr) (W := (w :: ws)) (e := e0) (by omega) ha h2) [2, 3] (by kernel_rfl)
        rw [show (0 + ((Int.toNat a) * 1)) = a.toNat by rw [Nat.mul_one, Nat.zero_add]] at hd
        rw [e1, e2, e3, e4]
        exact hd
      · have e1 : rtK (RetireSt.mk ⟨dk, th, ts, kp, sd⟩ true true t (w :: ws) a fr [] false) = 0 := by unfold rtK; simp only [cond_true, decide_eq_false h1, decide_eq_false h2, cond_false]
        have e2 : rtB (RetireSt.mk ⟨dk, th, ts, kp, sd⟩ true true t (w :: ws) a fr [] false) = 0 := by unfold rtB; simp only [cond_true, decide_eq_false h1, decide_eq_false h2, cond_false]
        have e3 : rtC (RetireSt.mk ⟨dk, th, ts, kp, sd⟩ true true t (w :: ws) a fr [] false) = 0 := by unfold rtC; simp only [cond_true, decide_eq_false h1, cond_false]
        have e4 : rtMore (RetireSt.mk ⟨dk, th, ts, kp, sd⟩ true true t (w :: ws) a fr [] false) = false := by unfold rtMore; simp only [decide_eq_false h1, decide_eq_false h2]; rfl
        rw [e1, e2, e3, e4]
        exact mach_does (vs := varL) (vb := [.cells (intCells .i64 [1, 64, 1, 64]) e0 false]) oneVar (.cons e0 .nil) (isRd dk th ts kp sd t a fr w ws) (isRd dk th ts kp sd t a fr w ws) (Adz (dk := dk) (th := th) (kp := kp) (sd := sd) (fr := fr) (W := (w :: ws)) (e := e0) (by omega) (by omega)) [2, 3] (by kernel_rfl)
  | f dk th ts kp sd t a fr w ws r rs hl hr ht htt hts ha haw hra =>
    by_cases h1 : t < ts
    · have hb := bcell ht (show t ≤ 63 by omega)
      have e1 : rtK (RetireSt.mk ⟨dk, th, ts, kp, sd⟩ true true t (w :: ws) a fr (r :: rs) false) = 1 := by unfold rtK; simp only [cond_true, decide_eq_true h1]
      have e2 : rtB (RetireSt.mk ⟨dk, th, ts, kp, sd⟩ true true t (w :: ws) a fr (r :: rs) false) = dk := by unfold rtB; simp only [cond_true, decide_eq_true h1]
      have e3 : rtC (RetireSt.mk ⟨dk, th, ts, kp, sd⟩ true true t (w :: ws) a fr (r :: rs) false) = 3 + 2 * t := by unfold rtC; simp only [cond_true, decide_eq_true h1]
      have e4 : rtMore (RetireSt.mk ⟨dk, th, ts, kp, sd⟩ true true t (w :: ws) a fr (r :: rs) false) = true := by unfold rtMore; simp only [decide_eq_true h1]; rfl
      have hd := mach_does (vs := varL) (vb := [.cells (intCells .i64 [1, 64, 1, 64]) e0 false]) oneVar (.cons e0 .nil) (isRf dk th ts kp sd t a fr w ws r rs) (isRf dk th ts kp sd t a fr w ws r rs) (Afl (dk := dk) (th := th) (kp := kp) (sd := sd) (a := a) (fr := fr) (W := (w :: ws)) (R := (r :: rs)) (e := e0) h1 ht (by omega)) [2, 3, 4] (by kernel_rfl)
      rw [hb] at hd
      rw [e1, e2, e3, e4]
      exact hd
    · by_cases h2 : a < ((List.length (w :: ws) : Nat) : Int)
      · have e1 : rtK (RetireSt.mk ⟨dk, th, ts, kp, sd⟩ true true t (w :: ws) a fr (r :: rs) false) = 6 := by unfold rtK; simp only [cond_true, decide_eq_false h1, decide_eq_true h2, cond_false]
        have e2 : rtB (RetireSt.mk ⟨dk, th, ts, kp, sd⟩ true true t (w :: ws) a fr (r :: rs) false) = (w :: ws).getD a.toNat 0 := by unfold rtB; simp only [cond_true, decide_eq_false h1, decide_eq_true h2, cond_false]
        have e3 : rtC (RetireSt.mk ⟨dk, th, ts, kp, sd⟩ true true t (w :: ws) a fr (r :: rs) false) = 0 := by unfold rtC; simp only [cond_true, decide_eq_false h1, cond_false]
        have e4 : rtMore (RetireSt.mk ⟨dk, th, ts, kp, sd⟩ true true t (w :: ws) a fr (r :: rs) false) = true := by unfold rtMore; simp only [decide_eq_true h2, Bool.or_true]; rfl
        have hd := mach_does (vs := varL) (vb := [.cells (intCells .i64 [1, 64, 1, 64]) e0 false]) oneVar (.cons e0 .nil) (isRf dk th ts kp sd t a fr w ws r rs) (isRf dk th ts kp sd t a fr w ws r rs) (Aff (dk := dk) (th := th) (kp := kp) (sd := sd) (t := t) (fr := fr) (W := (w :: ws)) (R := (r :: rs)) (e := e0) (by omega) ha h2) [2, 3, 4] (by kernel_rfl)
        rw [show (0 + ((Int.toNat a) * 1)) = a.toNat by rw [Nat.mul_one, Nat.zero_add]] at hd
        rw [e1, e2, e3, e4]
        exact hd
      · have e1 : rtK (RetireSt.mk ⟨dk, th, ts, kp, sd⟩ true true t (w :: ws) a fr (r :: rs) false) = 0 := by unfold rtK; simp only [cond_true, decide_eq_false h1, decide_eq_false h2, cond_false]
        have e2 : rtB (RetireSt.mk ⟨dk, th, ts, kp, sd⟩ true true t (w :: ws) a fr (r :: rs) false) = 0 := by unfold rtB; simp only [cond_true, decide_eq_false h1, decide_eq_false h2, cond_false]
        have e3 : rtC (RetireSt.mk ⟨dk, th, ts, kp, sd⟩ true true t (w :: ws) a fr (r :: rs) false) = 0 := by unfold rtC; simp only [cond_true, decide_eq_false h1, cond_false]
        have e4 : rtMore (RetireSt.mk ⟨dk, th, ts, kp, sd⟩ true true t (w :: ws) a fr (r :: rs) false) = false := by unfold rtMore; simp only [decide_eq_false h1, decide_eq_false h2]; rfl
        rw [e1, e2, e3, e4]
        exact mach_does (vs := varL) (vb := [.cells (intCells .i64 [1, 64, 1, 64]) e0 false]) oneVar (.cons e0 .nil) (isRf dk th ts kp sd t a fr w ws r rs) (isRf dk th ts kp sd t a fr w ws r rs) (Afz (dk := dk) (th := th) (kp := kp) (sd := sd) (fr := fr) (W := (w :: ws)) (R := (r :: rs)) (e := e0) (by omega) (by omega)) [2, 3, 4] (by kernel_rfl)
theorem rtResA_does (e0 : TypeId) (x : RetireSt) (h : rtOk x = true) (hf : rtFin x = true) (hn : 1 ≤ (rtRest x).length) : DoesC Tryd.prog 11 [.pointer (some ⟨1, 0, none⟩)] (mkH [.cells (intCells .i64 [1, 64, 1, 64]) e0 false, .mach (.retire x)]).low (.tuple #[(.slice (some ⟨2, 0, none⟩) (List.length (rtRest x)) (List.length (rtRest x))), (.bool true)]) (effK (mkH [.cells (intCells .i64 [1, 64, 1, 64]) e0 false, .mach (.retire x)]) [(1, .mach (.retire x))] [.ints .u64 (rtRest x) 22 true]).low := by
  cases rtOk_shp h with
  | a dk th ts kp sd t a fr R => exact absurd hn (show ¬ 1 ≤ ([] : List Int).length by decide)
  | b dk th ts kp sd t a fr => exact absurd hn (show ¬ 1 ≤ ([] : List Int).length by decide)
  | c dk th ts kp sd t a fr w ws R hl =>
    have hT : (List.take (List.length (w :: ws)) (List.drop 0 (w :: ws))) = w :: ws := by rw [List.drop_zero, List.take_length]
    have hd := Rcn (dk := dk) (th := th) (ts := ts) (kp := kp) (sd := sd) (t := t) (a := a) (fr := fr) (W := w :: ws) (e := e0) hn hl
    rw [hT] at hd
    exact mach_news (vs := varL) (vb := [.cells (intCells .i64 [1, 64, 1, 64]) e0 false]) oneVar (.cons e0 .nil) 6 (ob := .ints .u64 (w :: ws) 22 true) (isRc dk th ts kp sd t a fr w ws R) (isRc dk th ts kp sd t a fr w ws R) hd [2, 3] (by kernel_rfl) (by kernel_rfl) (InertO.ints ..) rfl rfl rfl rfl
  | d dk th ts kp sd t a fr w ws hl ht htt hts ha haw => exact absurd hn (show ¬ 1 ≤ ([] : List Int).length by decide)
  | f dk th ts kp sd t a fr w ws r rs hl hr ht htt hts ha haw hra =>
    have hm : rtMore (RetireSt.mk ⟨dk, th, ts, kp, sd⟩ true true t (w :: ws) a fr (r :: rs) false) = false := by simpa [rtFin] using hf
    unfold rtMore at hm
    simp only [Bool.true_and, Bool.or_eq_false_iff, decide_eq_false_iff_not] at hm
    have hT : (List.take (List.length (r :: rs)) (List.drop 0 (r :: rs))) = r :: rs := by rw [List.drop_zero, List.take_length]
    have hd := Rfz (dk := dk) (th := th) (ts := ts) (kp := kp) (sd := sd) (t := t) (a := a) (fr := fr) (W := w :: ws) (R := r :: rs) (e := e0) (by omega) (by omega) hn hr
    rw [hT] at hd
    exact mach_news (vs := varL) (vb := [.cells (intCells .i64 [1, 64, 1, 64]) e0 false]) oneVar (.cons e0 .nil) 7 (ob := .ints .u64 (r :: rs) 22 true) (isRf dk th ts kp sd t a fr w ws r rs) (isRf dk th ts kp sd t a fr w ws r rs) hd [2, 3, 4] (by kernel_rfl) (by kernel_rfl) (InertO.ints ..) rfl rfl rfl rfl
theorem rtResB_does (e0 : TypeId) (x : RetireSt) (h : rtOk x = true) (hf : (rtFin x && Nat.ble 1 (rtRest x).length) = false) : DoesC Tryd.prog 11 [.pointer (some ⟨1, 0, none⟩)] (mkH [.cells (intCells .i64 [1, 64, 1, 64]) e0 false, .mach (.retire x)]).low (.tuple #[(.slice (some ⟨0, 0, none⟩) 0 0), (.bool (rtFin x))]) (effK (mkH [.cells (intCells .i64 [1, 64, 1, 64]) e0 false, .mach (.retire x)]) [(1, .mach (.retire x))] []).low := by
  cases rtOk_shp h with
  | a dk th ts kp sd t a fr R => exact mach_doesI (vs := varL) (vb := [.cells (intCells .i64 [1, 64, 1, 64]) e0 false]) oneVar (.cons e0 .nil) (isRa dk th ts kp sd t a fr R) (isRa dk th ts kp sd t a fr R) Ran [2] (by kernel_rfl) (hv := zeroT_zero 0 true)
  | b dk th ts kp sd t a fr => exact mach_doesI (vs := varL) (vb := [.cells (intCells .i64 [1, 64, 1, 64]) e0 false]) oneVar (.cons e0 .nil) (isRb dk th ts kp sd t a fr []) (isRb dk th ts kp sd t a fr []) Rbn [2] (by kernel_rfl) (hv := zeroT_zero 0 true)
  | c dk th ts kp sd t a fr w ws R hl => cases hf
  | d dk th ts kp sd t a fr w ws hl ht htt hts ha haw =>
    by_cases h1 : t < ts
    · have e4 : rtFin (RetireSt.mk ⟨dk, th, ts, kp, sd⟩ true true t (w :: ws) a fr [] false) = false := by unfold rtFin rtMore; simp only [decide_eq_true h1]; rfl
      rw [e4]
      exact mach_doesI (vs := varL) (vb := [.cells (intCells .i64 [1, 64, 1, 64]) e0 false]) oneVar (.cons e0 .nil) (isRd dk th ts kp sd t a fr w ws) (isRd dk th ts kp sd t a fr w ws) (Rdl (dk := dk) (th := th) (ts := ts) (kp := kp) (sd := sd) (t := t) (a := a) (fr := fr) (W := w :: ws) (e := e0) h1 ht (by omega)) [2, 3] (by kernel_rfl) (hv := zeroT_f)
    · by_cases h2 : a < (((w :: ws).length : Nat) : Int)
      · have e4 : rtFin (RetireSt.mk ⟨dk, th, ts, kp, sd⟩ true true t (w :: ws) a fr [] false) = false := by unfold rtFin rtMore; simp only [decide_eq_true h2, Bool.or_true]; rfl
        rw [e4]
        exact mach_doesI (vs := varL) (vb := [.cells (intCells .i64 [1, 64, 1, 64]) e0 false]) oneVar (.cons e0 .nil) (isRd dk th ts kp sd t a fr w ws) (isRd dk th ts kp sd t a fr w ws) (Rdf (dk := dk) (th := th) (ts := ts) (kp := kp) (sd := sd) (t := t) (a := a) (fr := fr) (W := w :: ws) (e := e0) (by omega) ha h2) [2, 3] (by kernel_rfl) (hv := zeroT_f)
      · have e4 : rtFin (RetireSt.mk ⟨dk, th, ts, kp, sd⟩ true true t (w :: ws) a fr [] false) = true := by unfold rtFin rtMore; simp only [decide_eq_false h1, decide_eq_false h2]; rfl
        rw [e4]
        exact mach_doesI (vs := varL) (vb := [.cells (intCells .i64 [1, 64, 1, 64]) e0 false]) oneVar (.cons e0 .nil) (isRd dk th ts kp sd t a fr w ws) (isRd dk th ts kp sd t a fr w ws) (Rdz (dk := dk) (th := th) (ts := ts) (kp := kp) (sd := sd) (t := t) (a := a) (fr := fr) (W := w :: ws) (e := e0) (by omega) (by omega)) [2, 3] (by kernel_rfl) (hv := zeroT_zero 0 true)
  | f dk th ts kp sd t a fr w ws r rs hl hr ht htt hts ha haw hra =>
    by_cases h1 : t < ts
    · have e4 : rtFin (RetireSt.mk ⟨dk, th, ts, kp, sd⟩ true true t (w :: ws) a fr (r :: rs) false) = false := by unfold rtFin rtMore; simp only [decide_eq_true h1]; rfl
      rw [e4]
      exact mach_doesI (vs := varL) (vb := [.cells (intCells .i64 [1, 64, 1, 64]) e0 false]) oneVar (.cons e0 .nil) (isRf dk th ts kp sd t a fr w ws r rs) (isRf dk th ts kp sd t a fr w ws r rs) (Rfl (dk := dk) (th := th) (ts := ts) (kp := kp) (sd := sd) (t := t) (a := a) (fr := fr) (W := w :: ws) (R := r :: rs) (e := e0) h1 ht (by omega)) [2, 3, 4] (by kernel_rfl) (hv := zeroT_f)
    · by_cases h2 : a < (((w :: ws).length : Nat) : Int)
      · have e4 : rtFin (RetireSt.mk ⟨dk, th, ts, kp, sd⟩ true true t (w :: ws) a fr (r :: rs) false) = false := by unfold rtFin rtMore; simp only [decide_eq_true h2, Bool.or_true]; rfl
        rw [e4]
        exact mach_doesI (vs := varL) (vb := [.cells (intCells .i64 [1, 64, 1, 64]) e0 false]) oneVar (.cons e0 .nil) (isRf dk th ts kp sd t a fr w ws r rs) (isRf dk th ts kp sd t a fr w ws r rs) (Rff (dk := dk) (th := th) (ts := ts) (kp := kp) (sd := sd) (t := t) (a := a) (fr := fr) (W := w :: ws) (R := r :: rs) (e := e0) (by omega) ha h2) [2, 3, 4] (by kernel_rfl) (hv := zeroT_f)
      · have e4 : rtFin (RetireSt.mk ⟨dk, th, ts, kp, sd⟩ true true t (w :: ws) a fr (r :: rs) false) = true := by unfold rtFin rtMore; simp only [decide_eq_false h1, decide_eq_false h2]; rfl
        rw [e4] at hf; cases hf
noncomputable def rc_rtAct : RC := ⟨[.mach], fun avs => match avs with | [.mach (.retire x)] => (rtOk x) | _ => false,
  fun N avs => match avs with | [.mach (.retire x)] => ((.tuple #[(.agg #[(.int .i64 (rtK x)), (.int .u64 (rtB x)), (.int .i64 (rtC x)), (.int .u64 0), (.int .u64 0)]), (.bool (rtMore x))]), [(1, .mach (.retire x))], []) | _ => (.bool false, [], [])⟩
theorem rc_rtAct_does : RcDoes Tryd.prog varL 10 rc_rtAct := by
  intro vb avs args blks hv hs hp
  obtain ⟨e0, rfl⟩ := var1 hv
  cases hs with | mach m_x hs =>
  cases m_x with
  | arena _ => cases hp
  | guard _ => cases hp
  | shield _ => cases hp
  | retire x =>
  cases hs
  exact rtAct_does e0 x hp
noncomputable def rc_rtResA : RC := ⟨[.mach], fun avs => match avs with | [.mach (.retire x)] => ((rtOk x) && ((rtFin x) && (Nat.ble 1 (List.length (rtRest x))))) | _ => false,
  fun N avs => match avs with | [.mach (.retire x)] => ((.tuple #[(.slice (some ⟨N, 0, none⟩) (List.length (rtRest x)) (List.length (rtRest x))), (.bool true)]), [(1, .mach (.retire x))], [.ints .u64 (rtRest x) 22 true]) | _ => (.bool false, [], [])⟩
theorem rc_rtResA_does : RcDoes Tryd.prog varL 11 rc_rtResA := by
  intro vb avs args blks hv hs hp
  obtain ⟨e0, rfl⟩ := var1 hv
  cases hs with | mach m_x hs =>
  cases m_x with
  | arena _ => cases hp
  | guard _ => cases hp
  | shield _ => cases hp
  | retire x =>
  cases hs
  have hp : (rtOk x && (rtFin x && Nat.ble 1 (rtRest x).length)) = true := hp
  simp only [Bool.and_eq_true] at hp
  exact rtResA_does e0 x hp.1 hp.2.1 (Nat.le_of_ble_eq_true hp.2.2)
noncomputable def rc_rtResB : RC := ⟨[.mach], fun avs => match avs with | [.mach (.retire x)] => ((rtOk x) && (!((rtFin x) && (Nat.ble 1 (List.length (rtRest x)))))) | _ => false,
  fun N avs => match avs with | [.mach (.retire x)] => ((.tuple #[(.slice (some ⟨0, 0, none⟩) 0 0), (.bool (rtFin x))]), [(1, .mach (.retire x))], []) | _ => (.bool false, [], [])⟩
theorem rc_rtResB_does : RcDoes Tryd.prog varL 11 rc_rtResB := by
  intro vb avs args blks hv hs hp
  obtain ⟨e0, rfl⟩ := var1 hv
  cases hs with | mach m_x hs =>
  cases m_x with
  | arena _ => cases hp
  | guard _ => cases hp
  | shield _ => cases hp
  | retire x =>
  cases hs
  have hp : (rtOk x && !(rtFin x && Nat.ble 1 (rtRest x).length)) = true := hp
  rw [Bool.and_eq_true] at hp
  exact rtResB_does e0 x hp.1 (by have := hp.2; rw [Bool.not_eq_true'] at this; exact this)
end Go.Proofs.YtfhfbbhoppnbiaaDoor
