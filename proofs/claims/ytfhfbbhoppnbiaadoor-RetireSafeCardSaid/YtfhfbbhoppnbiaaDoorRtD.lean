import Derived.Test.YtfhfbbhoppnbiaaDoorRtC
import Derived.WalkKit
import Derived.ProofKit
import Derived.OpenShut
import Derived.ChangeOld
import Derived.Below
import Derived.SizedLaws
namespace Go.Proofs.YtfhfbbhoppnbiaaDoor
open Go.Eng
open Go.ChangeShapes Go.WideShapes Go.ChangeAt Go.RowKit
set_option linter.unusedVariables false
set_option linter.unusedSimpArgs false
set_option maxRecDepth 100000
theorem Take_same {x : RetireSt} {w : Int} (h : rtMore x = false) : rtTake x w = x := by unfold rtTake; rw [h]; rfl
theorem rtTake_does (e0 : TypeId) (x : RetireSt) (w_ : Int) (h : rtOk x = true) : DoesC Tryd.prog 20 [.pointer (some ⟨1, 0, none⟩), .int .u64 w_] (mkH [.cells (intCells .i64 [1, 64, 1, 64]) e0 false, .mach (.retire x)]).low undef (effK (mkH [.cells (intCells .i64 [1, 64, 1, 64]) e0 false, .mach (.retire x)]) [(1, .mach (.retire (rtTake x w_)))] []).low := by
  cases rtOk_shp h with
  | a dk th ts kp sd t a fr R =>
    rw [Take_same rfl]
    refine mach_does (h' := (mkH [.cells [(.int .i64 1), (.int .i64 64), (.int .i64 1), (.int .i64 64)] e0 false, .cells [(.int .u64 dk), (.int .i64 th), (.int .i64 ts), (.int .i64 kp), (.int .u64 sd), (.bool true), (.bool false), (.int .i64 t), (.slice (some ⟨0, 0, none⟩) 0 0), (.int .i64 a), (.map (some 2)), (.slice (some ⟨0, 0, none⟩) 0 0)] 55 true, .dict .u64 .i64 fr])) (vs := varL) (vb := [.cells (intCells .i64 [1, 64, 1, 64]) e0 false]) oneVar (.cons e0 .nil)  (isRa dk th ts kp sd t a fr R) (isRa dk th ts kp sd t a fr R) ?_ [2] (by kernel_rfl)
    refine EndsK.does Tryd.func20 BTa_is (by rw [oneVar]; exact Nat.le_add_left _ _) ?_
    exact Tan (e := e0) (dk := dk) (th := th) (ts := ts) (kp := kp) (sd := sd) (t := t) (a := a) (fr := fr) (g := w_) (EndsK.ret (l := []) (by kernel_rfl) rfl (Fits.kh (Grow.refl _) rfl ⟨rfl, rfl, rfl, trivial⟩))
  | b dk th ts kp sd t a fr  =>
    rw [Take_same rfl]
    refine mach_does (h' := (mkH [.cells [(.int .i64 1), (.int .i64 64), (.int .i64 1), (.int .i64 64)] e0 false, .cells [(.int .u64 dk), (.int .i64 th), (.int .i64 ts), (.int .i64 kp), (.int .u64 sd), (.bool true), (.bool false), (.int .i64 t), (.slice (some ⟨0, 0, none⟩) 0 0), (.int .i64 a), (.map (some 2)), (.slice none 0 0)] 55 true, .dict .u64 .i64 fr])) (vs := varL) (vb := [.cells (intCells .i64 [1, 64, 1, 64]) e0 false]) oneVar (.cons e0 .nil)  (isRb dk th ts kp sd t a fr []) (isRb dk th ts kp sd t a fr []) ?_ [2] (by kernel_rfl)
    refine EndsK.does Tryd.func20 BTb_is (by rw [oneVar]; exact Nat.le_add_left _ _) ?_
    exact Tbn (e := e0) (dk := dk) (th := th) (ts := ts) (kp := kp) (sd := sd) (t := t) (a := a) (fr := fr) (g := w_) (EndsK.ret (l := []) (by kernel_rfl) rfl (Fits.kh (Grow.refl _) rfl ⟨rfl, rfl, rfl, trivial⟩))
  | c dk th ts kp sd t a fr w ws R hl =>
    rw [Take_same rfl]
    refine mach_does (h' := (mkH [.cells [(.int .i64 1), (.int .i64 64), (.int .i64 1), (.int .i64 64)] e0 false, .cells [(.int .u64 dk), (.int .i64 th), (.int .i64 ts), (.int .i64 kp), (.int .u64 sd), (.bool true), (.bool false), (.int .i64 t), (.slice (some ⟨3, 0, none⟩) (List.length (w :: ws)) (List.length (w :: ws))), (.int .i64 a), (.map (some 2)), (.slice (some ⟨3, 0, none⟩) (List.length (w :: ws)) (List.length (w :: ws)))] 55 true, .dict .u64 .i64 fr, .ints .u64 (w :: ws) 22 true])) (vs := varL) (vb := [.cells (intCells .i64 [1, 64, 1, 64]) e0 false]) oneVar (.cons e0 .nil)  (isRc dk th ts kp sd t a fr w ws R) (isRc dk th ts kp sd t a fr w ws R) ?_ [2, 3] (by kernel_rfl)
    refine EndsK.does Tryd.func20 BTc_is (by rw [oneVar]; exact Nat.le_add_left _ _) ?_
    exact Tcn (e := e0) (dk := dk) (th := th) (ts := ts) (kp := kp) (sd := sd) (t := t) (a := a) (fr := fr) (g := w_) (W := w :: ws) (EndsK.ret (l := []) (by kernel_rfl) rfl (Fits.kh (Grow.refl _) rfl ⟨rfl, rfl, rfl, rfl, trivial⟩))
  | d dk th ts kp sd t a fr w ws hl ht htt hts ha haw =>
    by_cases h1 : t < ts
    · have hm : rtMore (RetireSt.mk ⟨dk, th, ts, kp, sd⟩ true true t (w :: ws) a fr ([]) false) = true := by unfold rtMore; simp only [decide_eq_true h1]; rfl
      by_cases h2 : t + 1 < ts
      · have e : rtTake (RetireSt.mk ⟨dk, th, ts, kp, sd⟩ true true t (w :: ws) a fr ([]) false) w_ = (RetireSt.mk ⟨dk, th, ts, kp, sd⟩ true true (t + 1) (w :: ws) a (fr.del w_) ([]) false) := by
          unfold rtTake; rw [hm]; unfold rtStep; simp only [decide_eq_true h1, cond_true]; unfold rtSkip; simp only [decide_eq_true h2, cond_true]
        rw [e]
        refine mach_does (h' := (KH.put (KH.put (mkH [.cells [(.int .i64 1), (.int .i64 64), (.int .i64 1), (.int .i64 64)] e0 false, .cells [(.int .u64 dk), (.int .i64 th), (.int .i64 ts), (.int .i64 kp), (.int .u64 sd), (.bool true), (.bool true), (.int .i64 t), (.slice (some ⟨3, 0, none⟩) (List.length (w :: ws)) (List.length (w :: ws))), (.int .i64 a), (.map (some 2)), (.slice none 0 0)] 55 true, .dict .u64 .i64 fr, .ints .u64 (w :: ws) 22 true]) 1 (.cells [(.int .u64 dk), (.int .i64 th), (.int .i64 ts), (.int .i64 kp), (.int .u64 sd), (.bool true), (.bool true), (.int .i64 (t + 1)), (.slice (some ⟨3, 0, none⟩) (List.length (w :: ws)) (List.length (w :: ws))), (.int .i64 a), (.map (some 2)), (.slice none 0 0)] 55 true)) 2 (.dict .u64 .i64 (DictSt.del fr w_)))) (vs := varL) (vb := [.cells (intCells .i64 [1, 64, 1, 64]) e0 false]) oneVar (.cons e0 .nil)  (isRd dk th ts kp sd t a fr w ws) (isRd dk th ts kp sd (t + 1) a (fr.del w_) w ws) ?_ [2, 3] (by kernel_rfl)
        refine EndsK.does Tryd.func20 BTd_is (by rw [oneVar]; exact Nat.le_add_left _ _) ?_
        exact Tdl (e := e0) (dk := dk) (th := th) (ts := ts) (kp := kp) (sd := sd) (t := t) (a := a) (fr := fr) (g := w_) (W := w :: ws) h1 h2 ht (by omega) (EndsK.ret (l := []) (by kernel_rfl) rfl (Fits.kh (growPut (growPut (Grow.refl _) rfl) rfl) rfl ⟨rfl, rfl, rfl, rfl, trivial⟩))
      · obtain ⟨k, rfl⟩ : ∃ k : Nat, a = k := ⟨a.toNat, by omega⟩
        have e : rtTake (RetireSt.mk ⟨dk, th, ts, kp, sd⟩ true true t (w :: ws) (k : Int) fr ([]) false) w_ = (RetireSt.mk ⟨dk, th, ts, kp, sd⟩ true true (t + 1) (w :: ws) ((k + (skP (fr.del w_) ((w :: ws).drop k)).length : Nat) : Int) (fr.del w_) ([] ++ skP (fr.del w_) ((w :: ws).drop k)) false) := by
          unfold rtTake; rw [hm]; unfold rtStep; simp only [decide_eq_true h1, cond_true]; unfold rtSkip; simp only [decide_eq_false h2, cond_false, Int.toNat_natCast]; rfl
        rw [e]
        by_cases hk : k ≤ (w :: ws).length
        · by_cases hP : (skP (fr.del w_) ((w :: ws).drop k)) = []
          · rw [show ([] ++ (skP (fr.del w_) ((w :: ws).drop k))) = [] by rw [hP]; rfl]
            refine mach_does (h' := (KH.put (KH.put (mkH [.cells [(.int .i64 1), (.int .i64 64), (.int .i64 1), (.int .i64 64)] e0 false, .cells [(.int .u64 dk), (.int .i64 th), (.int .i64 ts), (.int .i64 kp), (.int .u64 sd), (.bool true), (.bool true), (.int .i64 t), (.slice (some ⟨3, 0, none⟩) (List.length (w :: ws)) (List.length (w :: ws))), (.int .i64 ((k : Nat) : Int)), (.map (some 2)), (.slice none 0 0)] 55 true, .dict .u64 .i64 fr, .ints .u64 (w :: ws) 22 true]) 1 (.cells [(.int .u64 dk), (.int .i64 th), (.int .i64 ts), (.int .i64 kp), (.int .u64 sd), (.bool true), (.bool true), (.int .i64 (t + 1)), (.slice (some ⟨3, 0, none⟩) (List.length (w :: ws)) (List.length (w :: ws))), (.int .i64 (((k + (skP (fr.del w_) ((w :: ws).drop k)).length : Nat)) : Int)), (.map (some 2)), (.slice none 0 0)] 55 true)) 2 (.dict .u64 .i64 (fr.del w_)))) (vs := varL) (vb := [.cells (intCells .i64 [1, 64, 1, 64]) e0 false]) oneVar (.cons e0 .nil)  (isRd dk th ts kp sd t ((k : Nat) : Int) fr w ws) (isRd dk th ts kp sd (t + 1) (((k + (skP (fr.del w_) ((w :: ws).drop k)).length : Nat)) : Int) (fr.del w_) w ws) ?_ [2, 3] (by kernel_rfl)
            refine EndsK.does Tryd.func20 BTd_is (by rw [oneVar]; exact Nat.le_add_left _ _) ?_
            refine Tds (e := e0) (dk := dk) (th := th) (ts := ts) (kp := kp) (sd := sd) (t := t) (a := ((k : Nat) : Int)) (fr := fr) (g := w_) (W := w :: ws) h1 (by omega) ht (by omega) ?_
            refine loopd (e := e0) (W := w :: ws) (t2 := t + 1) (f2 := fr.del w_) (e1 := k + (skP (fr.del w_) ((w :: ws).drop k)).length) (Re := ([] ++ (skP (fr.del w_) ((w :: ws).drop k)))) hl ?_ (fun h => absurd (by rw [hP]; rfl) h) _ _ (.s k hk rfl rfl)
            intro _ ts_
            exact (EndsK.normal (l := []) (by kernel_rfl) rfl (Fits.kh (growPut (growPut (Grow.refl _) rfl) rfl) rfl ⟨rfl, rfl, rfl, rfl, trivial⟩))
          · obtain ⟨r', rs', hRe⟩ : ∃ r' rs', ([] ++ (skP (fr.del w_) ((w :: ws).drop k))) = r' :: rs' := by
              cases hq : ([] ++ (skP (fr.del w_) ((w :: ws).drop k))) with
              | nil => exact absurd (List.append_eq_nil_iff.1 hq).2 hP
              | cons r' rs' => exact ⟨r', rs', rfl⟩
            rw [hRe]
            refine mach_does (h' := (KH.new (KH.put (KH.put (mkH [.cells [(.int .i64 1), (.int .i64 64), (.int .i64 1), (.int .i64 64)] e0 false, .cells [(.int .u64 dk), (.int .i64 th), (.int .i64 ts), (.int .i64 kp), (.int .u64 sd), (.bool true), (.bool true), (.int .i64 t), (.slice (some ⟨3, 0, none⟩) (List.length (w :: ws)) (List.length (w :: ws))), (.int .i64 ((k : Nat) : Int)), (.map (some 2)), (.slice none 0 0)] 55 true, .dict .u64 .i64 fr, .ints .u64 (w :: ws) 22 true]) 1 (.cells [(.int .u64 dk), (.int .i64 th), (.int .i64 ts), (.int .i64 kp), (.int .u64 sd), (.bool true), (.bool true), (.int .i64 (t + 1)), (.slice (some ⟨3, 0, none⟩) (List.length (w :: ws)) (List.length (w :: ws))), (.int .i64 (((k + (skP (fr.del w_) ((w :: ws).drop k)).length : Nat)) : Int)), (.map (some 2)), (.slice (some ⟨4, 0, none⟩) (List.length (r' :: rs')) (List.length (r' :: rs')))] 55 true)) 2 (.dict .u64 .i64 (fr.del w_))) (.ints .u64 (r' :: rs') 22 true))) (vs := varL) (vb := [.cells (intCells .i64 [1, 64, 1, 64]) e0 false]) oneVar (.cons e0 .nil)  (isRd dk th ts kp sd t ((k : Nat) : Int) fr w ws) (isRf dk th ts kp sd (t + 1) (((k + (skP (fr.del w_) ((w :: ws).drop k)).length : Nat)) : Int) (fr.del w_) w ws r' rs') ?_ [2, 3, 4] (by kernel_rfl)
            refine EndsK.does Tryd.func20 BTd_is (by rw [oneVar]; exact Nat.le_add_left _ _) ?_
            refine Tds (e := e0) (dk := dk) (th := th) (ts := ts) (kp := kp) (sd := sd) (t := t) (a := ((k : Nat) : Int)) (fr := fr) (g := w_) (W := w :: ws) h1 (by omega) ht (by omega) ?_
            refine loopd (e := e0) (W := w :: ws) (t2 := t + 1) (f2 := fr.del w_) (e1 := k + (skP (fr.del w_) ((w :: ws).drop k)).length) (Re := ([] ++ (skP (fr.del w_) ((w :: ws).drop k)))) hl (fun h => absurd (by exact (List.append_eq_nil_iff.1 h).2) hP) ?_ _ _ (.s k hk rfl rfl)
            intro _ ts_
            rw [hRe]
            exact (EndsK.normal (l := []) (by kernel_rfl) rfl (Fits.kh (growNew (growPut (growPut (Grow.refl _) rfl) rfl)) rfl ⟨rfl, rfl, rfl, rfl, rfl, trivial⟩))
        · exact absurd (show k ≤ (w :: ws).length by omega) hk
    · by_cases h2 : a < (((w :: ws).length : Nat) : Int)
      · obtain ⟨k, rfl⟩ : ∃ k : Nat, a = k := ⟨a.toNat, by omega⟩
        have hm : rtMore (RetireSt.mk ⟨dk, th, ts, kp, sd⟩ true true t (w :: ws) (k : Int) fr ([]) false) = true := by unfold rtMore; simp only [decide_eq_true h2, Bool.or_true]; rfl
        have e : rtTake (RetireSt.mk ⟨dk, th, ts, kp, sd⟩ true true t (w :: ws) (k : Int) fr ([]) false) w_ = (RetireSt.mk ⟨dk, th, ts, kp, sd⟩ true true t (w :: ws) ((k + 1 + (skP fr ((w :: ws).drop (k + 1))).length : Nat) : Int) fr ([] ++ skP fr ((w :: ws).drop (k + 1))) false) := by
          unfold rtTake; rw [hm]; unfold rtStep; simp only [decide_eq_false h1, cond_true, cond_false]; unfold rtSkip; simp only [decide_eq_false h1, cond_false]; rfl
        rw [e]
        by_cases hP : (skP fr ((w :: ws).drop (k + 1))) = []
        · rw [show ([] ++ (skP fr ((w :: ws).drop (k + 1)))) = [] by rw [hP]; rfl]
          refine mach_does (h' := (KH.put (KH.put (mkH [.cells [(.int .i64 1), (.int .i64 64), (.int .i64 1), (.int .i64 64)] e0 false, .cells [(.int .u64 dk), (.int .i64 th), (.int .i64 ts), (.int .i64 kp), (.int .u64 sd), (.bool true), (.bool true), (.int .i64 t), (.slice (some ⟨3, 0, none⟩) (List.length (w :: ws)) (List.length (w :: ws))), (.int .i64 ((k : Nat) : Int)), (.map (some 2)), (.slice none 0 0)] 55 true, .dict .u64 .i64 fr, .ints .u64 (w :: ws) 22 true]) 1 (.cells [(.int .u64 dk), (.int .i64 th), (.int .i64 ts), (.int .i64 kp), (.int .u64 sd), (.bool true), (.bool true), (.int .i64 t), (.slice (some ⟨3, 0, none⟩) (List.length (w :: ws)) (List.length (w :: ws))), (.int .i64 ((((k + 1) + (skP fr ((w :: ws).drop (k + 1))).length : Nat)) : Int)), (.map (some 2)), (.slice none 0 0)] 55 true)) 2 (.dict .u64 .i64 fr))) (vs := varL) (vb := [.cells (intCells .i64 [1, 64, 1, 64]) e0 false]) oneVar (.cons e0 .nil)  (isRd dk th ts kp sd t ((k : Nat) : Int) fr w ws) (isRd dk th ts kp sd t ((((k + 1) + (skP fr ((w :: ws).drop (k + 1))).length : Nat)) : Int) fr w ws) ?_ [2, 3] (by kernel_rfl)
          refine EndsK.does Tryd.func20 BTd_is (by rw [oneVar]; exact Nat.le_add_left _ _) ?_
          refine Tdt (e := e0) (dk := dk) (th := th) (ts := ts) (kp := kp) (sd := sd) (t := t) (a := ((k : Nat) : Int)) (fr := fr) (g := w_) (W := w :: ws) (by omega) ha h2 hl ?_
          refine loopd (e := e0) (W := w :: ws) (t2 := t) (f2 := fr) (e1 := (k + 1) + (skP fr ((w :: ws).drop (k + 1))).length) (Re := ([] ++ (skP fr ((w :: ws).drop (k + 1))))) hl ?_ (fun h => absurd (by rw [hP]; rfl) h) _ _ (.s (k + 1) (by omega) rfl rfl)
          intro _ ts_
          exact (EndsK.normal (l := []) (by kernel_rfl) rfl (Fits.kh (growPut (growPut (Grow.refl _) rfl) rfl) rfl ⟨rfl, rfl, rfl, rfl, trivial⟩))
        · obtain ⟨r', rs', hRe⟩ : ∃ r' rs', ([] ++ (skP fr ((w :: ws).drop (k + 1)))) = r' :: rs' := by
            cases hq : ([] ++ (skP fr ((w :: ws).drop (k + 1)))) with
            | nil => exact absurd (List.append_eq_nil_iff.1 hq).2 hP
            | cons r' rs' => exact ⟨r', rs', rfl⟩
          rw [hRe]
          refine mach_does (h' := (KH.new (KH.put (KH.put (mkH [.cells [(.int .i64 1), (.int .i64 64), (.int .i64 1), (.int .i64 64)] e0 false, .cells [(.int .u64 dk), (.int .i64 th), (.int .i64 ts), (.int .i64 kp), (.int .u64 sd), (.bool true), (.bool true), (.int .i64 t), (.slice (some ⟨3, 0, none⟩) (List.length (w :: ws)) (List.length (w :: ws))), (.int .i64 ((k : Nat) : Int)), (.map (some 2)), (.slice none 0 0)] 55 true, .dict .u64 .i64 fr, .ints .u64 (w :: ws) 22 true]) 1 (.cells [(.int .u64 dk), (.int .i64 th), (.int .i64 ts), (.int .i64 kp), (.int .u64 sd), (.bool true), (.bool true), (.int .i64 t), (.slice (some ⟨3, 0, none⟩) (List.length (w :: ws)) (List.length (w :: ws))), (.int .i64 ((((k + 1) + (skP fr ((w :: ws).drop (k + 1))).length : Nat)) : Int)), (.map (some 2)), (.slice (some ⟨4, 0, none⟩) (List.length (r' :: rs')) (List.length (r' :: rs')))] 55 true)) 2 (.dict .u64 .i64 fr)) (.ints .u64 (r' :: rs') 22 true))) (vs := varL) (vb := [.cells (intCells .i64 [1, 64, 1, 64]) e0 false]) oneVar (.cons e0 .nil)  (isRd dk th ts kp sd t ((k : Nat) : Int) fr w ws) (isRf dk th ts kp sd t ((((k + 1) + (skP fr ((w :: ws).drop (k + 1))).length : Nat)) : Int) fr w ws r' rs') ?_ [2, 3, 4] (by kernel_rfl)
          refine EndsK.does Tryd.func20 BTd_is (by rw [oneVar]; exact Nat.le_add_left _ _) ?_
          refine Tdt (e := e0) (dk := dk) (th := th) (ts := ts) (kp := kp) (sd := sd) (t := t) (a := ((k : Nat) : Int)) (fr := fr) (g := w_) (W := w :: ws) (by omega) ha h2 hl ?_
          refine loopd (e := e0) (W := w :: ws) (t2 := t) (f2 := fr) (e1 := (k + 1) + (skP fr ((w :: ws).drop (k + 1))).length) (Re := ([] ++ (skP fr ((w :: ws).drop (k + 1))))) hl (fun h => absurd (by exact (List.append_eq_nil_iff.1 h).2) hP) ?_ _ _ (.s (k + 1) (by omega) rfl rfl)
          intro _ ts_
          rw [hRe]
          exact (EndsK.normal (l := []) (by kernel_rfl) rfl (Fits.kh (growNew (growPut (growPut (Grow.refl _) rfl) rfl)) rfl ⟨rfl, rfl, rfl, rfl, rfl, trivial⟩))
      · have hm : rtMore (RetireSt.mk ⟨dk, th, ts, kp, sd⟩ true true t (w :: ws) a fr ([]) false) = false := by unfold rtMore; simp only [decide_eq_false h1, decide_eq_false h2]; rfl
        rw [Take_same hm]
        refine mach_does (h' := (mkH [.cells [(.int .i64 1), (.int .i64 64), (.int .i64 1), (.int .i64 64)] e0 false, .cells [(.int .u64 dk), (.int .i64 th), (.int .i64 ts), (.int .i64 kp), (.int .u64 sd), (.bool true), (.bool true), (.int .i64 t), (.slice (some ⟨3, 0, none⟩) (List.length (w :: ws)) (List.length (w :: ws))), (.int .i64 a), (.map (some 2)), (.slice none 0 0)] 55 true, .dict .u64 .i64 fr, .ints .u64 (w :: ws) 22 true])) (vs := varL) (vb := [.cells (intCells .i64 [1, 64, 1, 64]) e0 false]) oneVar (.cons e0 .nil)  (isRd dk th ts kp sd t a fr w ws) (isRd dk th ts kp sd t a fr w ws) ?_ [2, 3] (by kernel_rfl)
        refine EndsK.does Tryd.func20 BTd_is (by rw [oneVar]; exact Nat.le_add_left _ _) ?_
        exact Tdz (e := e0) (dk := dk) (th := th) (ts := ts) (kp := kp) (sd := sd) (t := t) (a := a) (fr := fr) (g := w_) (W := w :: ws) (by omega) (by omega) (EndsK.ret (l := []) (by kernel_rfl) rfl (Fits.kh (Grow.refl _) rfl ⟨rfl, rfl, rfl, rfl, trivial⟩))
  | f dk th ts kp sd t a fr w ws r rs hl hr ht htt hts ha haw hra =>
    by_cases h1 : t < ts
    · have hm : rtMore (RetireSt.mk ⟨dk, th, ts, kp, sd⟩ true true t (w :: ws) a fr (r :: rs) false) = true := by unfold rtMore; simp only [decide_eq_true h1]; rfl
      by_cases h2 : t + 1 < ts
      · have e : rtTake (RetireSt.mk ⟨dk, th, ts, kp, sd⟩ true true t (w :: ws) a fr (r :: rs) false) w_ = (RetireSt.mk ⟨dk, th, ts, kp, sd⟩ true true (t + 1) (w :: ws) a (fr.del w_) (r :: rs) false) := by
          unfold rtTake; rw [hm]; unfold rtStep; simp only [decide_eq_true h1, cond_true]; unfold rtSkip; simp only [decide_eq_true h2, cond_true]
        rw [e]
        refine mach_does (h' := (KH.put (KH.put (mkH [.cells [(.int .i64 1), (.int .i64 64), (.int .i64 1), (.int .i64 64)] e0 false, .cells [(.int .u64 dk), (.int .i64 th), (.int .i64 ts), (.int .i64 kp), (.int .u64 sd), (.bool true), (.bool true), (.int .i64 t), (.slice (some ⟨3, 0, none⟩) (List.length (w :: ws)) (List.length (w :: ws))), (.int .i64 a), (.map (some 2)), (.slice (some ⟨4, 0, none⟩) (List.length (r :: rs)) (List.length (r :: rs)))] 55 true, .dict .u64 .i64 fr, .ints .u64 (w :: ws) 22 true, .ints .u64 (r :: rs) 22 true]) 1 (.cells [(.int .u64 dk), (.int .i64 th), (.int .i64 ts), (.int .i64 kp), (.int .u64 sd), (.bool true), (.bool true), (.int .i64 (t + 1)), (.slice (some ⟨3, 0, none⟩) (List.length (w :: ws)) (List.length (w :: ws))), (.int .i64 a), (.map (some 2)), (.slice (some ⟨4, 0, none⟩) (List.length (r :: rs)) (List.length (r :: rs)))] 55 true)) 2 (.dict .u64 .i64 (DictSt.del fr w_)))) (vs := varL) (vb := [.cells (intCells .i64 [1, 64, 1, 64]) e0 false]) oneVar (.cons e0 .nil)  (isRf dk th ts kp sd t a fr w ws r rs) (isRf dk th ts kp sd (t + 1) a (fr.del w_) w ws r rs) ?_ [2, 3, 4] (by kernel_rfl)
        refine EndsK.does Tryd.func20 BTf_is (by rw [oneVar]; exact Nat.le_add_left _ _) ?_
        exact Tfl (e := e0) (dk := dk) (th := th) (ts := ts) (kp := kp) (sd := sd) (t := t) (a := a) (fr := fr) (g := w_) (W := w :: ws) (R := r :: rs) h1 h2 ht (by omega) (EndsK.ret (l := []) (by kernel_rfl) rfl (Fits.kh (growPut (growPut (Grow.refl _) rfl) rfl) rfl ⟨rfl, rfl, rfl, rfl, rfl, trivial⟩))
      · obtain ⟨k, rfl⟩ : ∃ k : Nat, a = k := ⟨a.toNat, by omega⟩
        have e : rtTake (RetireSt.mk ⟨dk, th, ts, kp, sd⟩ true true t (w :: ws) (k : Int) fr (r :: rs) false) w_ = (RetireSt.mk ⟨dk, th, ts, kp, sd⟩ true true (t + 1) (w :: ws) ((k + (skP (fr.del w_) ((w :: ws).drop k)).length : Nat) : Int) (fr.del w_) ((r :: rs) ++ skP (fr.del w_) ((w :: ws).drop k)) false) := by
          unfold rtTake; rw [hm]; unfold rtStep; simp only [decide_eq_true h1, cond_true]; unfold rtSkip; simp only [decide_eq_false h2, cond_false, Int.toNat_natCast]; rfl
        rw [e]
        by_cases hk : k ≤ (w :: ws).length
        · by_cases hP : (skP (fr.del w_) ((w :: ws).drop k)) = []
          · rw [show ((r :: rs) ++ (skP (fr.del w_) ((w :: ws).drop k))) = (r :: rs) by rw [hP, List.append_nil]]
            refine mach_does (h' := (KH.put (KH.put (mkH [.cells [(.int .i64 1), (.int .i64 64), (.int .i64 1), (.int .i64 64)] e0 false, .cells [(.int .u64 dk), (.int .i64 th), (.int .i64 ts), (.int .i64 kp), (.int .u64 sd), (.bool true), (.bool true), (.int .i64 t), (.slice (some ⟨3, 0, none⟩) (List.length (w :: ws)) (List.length (w :: ws))), (.int .i64 ((k : Nat) : Int)), (.map (some 2)), (.slice (some ⟨4, 0, none⟩) (List.length (r :: rs)) (List.length (r :: rs)))] 55 true, .dict .u64 .i64 fr, .ints .u64 (w :: ws) 22 true, .ints .u64 (r :: rs) 22 true]) 1 (.cells [(.int .u64 dk), (.int .i64 th), (.int .i64 ts), (.int .i64 kp), (.int .u64 sd), (.bool true), (.bool true), (.int .i64 (t + 1)), (.slice (some ⟨3, 0, none⟩) (List.length (w :: ws)) (List.length (w :: ws))), (.int .i64 (((k + (skP (fr.del w_) ((w :: ws).drop k)).length : Nat)) : Int)), (.map (some 2)), (.slice (some ⟨4, 0, none⟩) (List.length (r :: rs)) (List.length (r :: rs)))] 55 true)) 2 (.dict .u64 .i64 (fr.del w_)))) (vs := varL) (vb := [.cells (intCells .i64 [1, 64, 1, 64]) e0 false]) oneVar (.cons e0 .nil)  (isRf dk th ts kp sd t ((k : Nat) : Int) fr w ws r rs) (isRf dk th ts kp sd (t + 1) (((k + (skP (fr.del w_) ((w :: ws).drop k)).length : Nat)) : Int) (fr.del w_) w ws r rs) ?_ [2, 3, 4] (by kernel_rfl)
            refine EndsK.does Tryd.func20 BTf_is (by rw [oneVar]; exact Nat.le_add_left _ _) ?_
            refine Tfs (e := e0) (dk := dk) (th := th) (ts := ts) (kp := kp) (sd := sd) (t := t) (a := ((k : Nat) : Int)) (fr := fr) (g := w_) (W := w :: ws) (R := r :: rs) h1 (by omega) ht (by omega) ?_
            refine loopf (e := e0) (W := w :: ws) (t2 := t + 1) (f2 := fr.del w_) (R0 := r :: rs) (by simp) hr (e1 := k + (skP (fr.del w_) ((w :: ws).drop k)).length) (Re := ((r :: rs) ++ (skP (fr.del w_) ((w :: ws).drop k)))) hl (by rw [hP, List.append_nil]; exact hr) ?_ (fun h => absurd (by rw [hP, List.append_nil]) h) _ _ (.s k hk rfl rfl)
            intro _ ts_
            exact (EndsK.normal (l := []) (by kernel_rfl) rfl (Fits.kh (growPut (growPut (Grow.refl _) rfl) rfl) rfl ⟨rfl, rfl, rfl, rfl, rfl, trivial⟩))
          · obtain ⟨r', rs', hRe⟩ : ∃ r' rs', ((r :: rs) ++ (skP (fr.del w_) ((w :: ws).drop k))) = r' :: rs' := by
              cases hq : ((r :: rs) ++ (skP (fr.del w_) ((w :: ws).drop k))) with
              | nil => exact absurd (List.append_eq_nil_iff.1 hq).2 hP
              | cons r' rs' => exact ⟨r', rs', rfl⟩
            rw [hRe]
            refine mach_does (h' := (KH.new (KH.drop (KH.put (KH.put (mkH [.cells [(.int .i64 1), (.int .i64 64), (.int .i64 1), (.int .i64 64)] e0 false, .cells [(.int .u64 dk), (.int .i64 th), (.int .i64 ts), (.int .i64 kp), (.int .u64 sd), (.bool true), (.bool true), (.int .i64 t), (.slice (some ⟨3, 0, none⟩) (List.length (w :: ws)) (List.length (w :: ws))), (.int .i64 ((k : Nat) : Int)), (.map (some 2)), (.slice (some ⟨4, 0, none⟩) (List.length (r :: rs)) (List.length (r :: rs)))] 55 true, .dict .u64 .i64 fr, .ints .u64 (w :: ws) 22 true, .ints .u64 (r :: rs) 22 true]) 1 (.cells [(.int .u64 dk), (.int .i64 th), (.int .i64 ts), (.int .i64 kp), (.int .u64 sd), (.bool true), (.bool true), (.int .i64 (t + 1)), (.slice (some ⟨3, 0, none⟩) (List.length (w :: ws)) (List.length (w :: ws))), (.int .i64 (((k + (skP (fr.del w_) ((w :: ws).drop k)).length : Nat)) : Int)), (.map (some 2)), (.slice (some ⟨5, 0, none⟩) (List.length (r' :: rs')) (List.length (r' :: rs')))] 55 true)) 2 (.dict .u64 .i64 (fr.del w_))) 4) (.ints .u64 (r' :: rs') 22 true))) (vs := varL) (vb := [.cells (intCells .i64 [1, 64, 1, 64]) e0 false]) oneVar (.cons e0 .nil)  (isRf dk th ts kp sd t ((k : Nat) : Int) fr w ws r rs) (isRf dk th ts kp sd (t + 1) (((k + (skP (fr.del w_) ((w :: ws).drop k)).length : Nat)) : Int) (fr.del w_) w ws r' rs') ?_ [2, 3, 5] (by kernel_rfl)
            refine EndsK.does Tryd.func20 BTf_is (by rw [oneVar]; exact Nat.le_add_left _ _) ?_
            refine Tfs (e := e0) (dk := dk) (th := th) (ts := ts) (kp := kp) (sd := sd) (t := t) (a := ((k : Nat) : Int)) (fr := fr) (g := w_) (W := w :: ws) (R := r :: rs) h1 (by omega) ht (by omega) ?_
            refine loopf (e := e0) (W := w :: ws) (t2 := t + 1) (f2 := fr.del w_) (R0 := r :: rs) (by simp) hr (e1 := k + (skP (fr.del w_) ((w :: ws).drop k)).length) (Re := ((r :: rs) ++ (skP (fr.del w_) ((w :: ws).drop k)))) hl (by rw [List.length_append]; have := skP_len (fr.del w_) (w :: ws) k; omega) (fun h => absurd (by have h3 := congrArg List.length h; rw [List.length_append] at h3; exact List.eq_nil_of_length_eq_zero (by omega)) hP) ?_ _ _ (.s k hk rfl rfl)
            intro _ ts_
            rw [hRe]
            exact (EndsK.normal (l := []) (by kernel_rfl) rfl (Fits.kh (growNew (growDrop (growPut (growPut (Grow.refl _) rfl) rfl))) rfl ⟨rfl, rfl, rfl, rfl, rfl, trivial⟩))
        · exact absurd (show k ≤ (w :: ws).length by omega) hk
    · by_cases h2 : a < (((w :: ws).length : Nat) : Int)
      · obtain ⟨k, rfl⟩ : ∃ k : Nat, a = k := ⟨a.toNat, by omega⟩
        have hm : rtMore (RetireSt.mk ⟨dk, th, ts, kp, sd⟩ true true t (w :: ws) (k : Int) fr (r :: rs) false) = true := by unfold rtMore; simp only [decide_eq_true h2, Bool.or_true]; rfl
        have e : rtTake (RetireSt.mk ⟨dk, th, ts, kp, sd⟩ true true t (w :: ws) (k : Int) fr (r :: rs) false) w_ = (RetireSt.mk ⟨dk, th, ts, kp, sd⟩ true true t (w :: ws) ((k + 1 + (skP fr ((w :: ws).drop (k + 1))).length : Nat) : Int) fr ((r :: rs) ++ skP fr ((w :: ws).drop (k + 1))) false) := by
          unfold rtTake; rw [hm]; unfold rtStep; simp only [decide_eq_false h1, cond_true, cond_false]; unfold rtSkip; simp only [decide_eq_false h1, cond_false]; rfl
        rw [e]
        by_cases hP : (skP fr ((w :: ws).drop (k + 1))) = []
        · rw [show ((r :: rs) ++ (skP fr ((w :: ws).drop (k + 1)))) = (r :: rs) by rw [hP, List.append_nil]]
          refine mach_does (h' := (KH.put (KH.put (mkH [.cells [(.int .i64 1), (.int .i64 64), (.int .i64 1), (.int .i64 64)] e0 false, .cells [(.int .u64 dk), (.int .i64 th), (.int .i64 ts), (.int .i64 kp), (.int .u64 sd), (.bool true), (.bool true), (.int .i64 t), (.slice (some ⟨3, 0, none⟩) (List.length (w :: ws)) (List.length (w :: ws))), (.int .i64 ((k : Nat) : Int)), (.map (some 2)), (.slice (some ⟨4, 0, none⟩) (List.length (r :: rs)) (List.length (r :: rs)))] 55 true, .dict .u64 .i64 fr, .ints .u64 (w :: ws) 22 true, .ints .u64 (r :: rs) 22 true]) 1 (.cells [(.int .u64 dk), (.int .i64 th), (.int .i64 ts), (.int .i64 kp), (.int .u64 sd), (.bool true), (.bool true), (.int .i64 t), (.slice (some ⟨3, 0, none⟩) (List.length (w :: ws)) (List.length (w :: ws))), (.int .i64 ((((k + 1) + (skP fr ((w :: ws).drop (k + 1))).length : Nat)) : Int)), (.map (some 2)), (.slice (some ⟨4, 0, none⟩) (List.length (r :: rs)) (List.length (r :: rs)))] 55 true)) 2 (.dict .u64 .i64 fr))) (vs := varL) (vb := [.cells (intCells .i64 [1, 64, 1, 64]) e0 false]) oneVar (.cons e0 .nil)  (isRf dk th ts kp sd t ((k : Nat) : Int) fr w ws r rs) (isRf dk th ts kp sd t ((((k + 1) + (skP fr ((w :: ws).drop (k + 1))).length : Nat)) : Int) fr w ws r rs) ?_ [2, 3, 4] (by kernel_rfl)
          refine EndsK.does Tryd.func20 BTf_is (by rw [oneVar]; exact Nat.le_add_left _ _) ?_
          refine Tft (e := e0) (dk := dk) (th := th) (ts := ts) (kp := kp) (sd := sd) (t := t) (a := ((k : Nat) : Int)) (fr := fr) (g := w_) (W := w :: ws) (R := r :: rs) (by omega) ha h2 hl ?_
          refine loopf (e := e0) (W := w :: ws) (t2 := t) (f2 := fr) (R0 := r :: rs) (by simp) hr (e1 := (k + 1) + (skP fr ((w :: ws).drop (k + 1))).length) (Re := ((r :: rs) ++ (skP fr ((w :: ws).drop (k + 1))))) hl (by rw [hP, List.append_nil]; exact hr) ?_ (fun h => absurd (by rw [hP, List.append_nil]) h) _ _ (.s (k + 1) (by omega) rfl rfl)
          intro _ ts_
          exact (EndsK.normal (l := []) (by kernel_rfl) rfl (Fits.kh (growPut (growPut (Grow.refl _) rfl) rfl) rfl ⟨rfl, rfl, rfl, rfl, rfl, trivial⟩))
        · obtain ⟨r', rs', hRe⟩ : ∃ r' rs', ((r :: rs) ++ (skP fr ((w :: ws).drop (k + 1)))) = r' :: rs' := by
            cases hq : ((r :: rs) ++ (skP fr ((w :: ws).drop (k + 1)))) with
            | nil => exact absurd (List.append_eq_nil_iff.1 hq).2 hP
            | cons r' rs' => exact ⟨r', rs', rfl⟩
          rw [hRe]
          refine mach_does (h' := (KH.new (KH.drop (KH.put (KH.put (mkH [.cells [(.int .i64 1), (.int .i64 64), (.int .i64 1), (.int .i64 64)] e0 false, .cells [(.int .u64 dk), (.int .i64 th), (.int .i64 ts), (.int .i64 kp), (.int .u64 sd), (.bool true), (.bool true), (.int .i64 t), (.slice (some ⟨3, 0, none⟩) (List.length (w :: ws)) (List.length (w :: ws))), (.int .i64 ((k : Nat) : Int)), (.map (some 2)), (.slice (some ⟨4, 0, none⟩) (List.length (r :: rs)) (List.length (r :: rs)))] 55 true, .dict .u64 .i64 fr, .ints .u64 (w :: ws) 22 true, .ints .u64 (r :: rs) 22 true]) 1 (.cells [(.int .u64 dk), (.int .i64 th), (.int .i64 ts), (.int .i64 kp), (.int .u64 sd), (.bool true), (.bool true), (.int .i64 t), (.slice (some ⟨3, 0, none⟩) (List.length (w :: ws)) (List.length (w :: ws))), (.int .i64 ((((k + 1) + (skP fr ((w :: ws).drop (k + 1))).length : Nat)) : Int)), (.map (some 2)), (.slice (some ⟨5, 0, none⟩) (List.length (r' :: rs')) (List.length (r' :: rs')))] 55 true)) 2 (.dict .u64 .i64 fr)) 4) (.ints .u64 (r' :: rs') 22 true))) (vs := varL) (vb := [.cells (intCells .i64 [1, 64, 1, 64]) e0 false]) oneVar (.cons e0 .nil)  (isRf dk th ts kp sd t ((k : Nat) : Int) fr w ws r rs) (isRf dk th ts kp sd t ((((k + 1) + (skP fr ((w :: ws).drop (k + 1))).length : Nat)) : Int) fr w ws r' rs') ?_ [2, 3, 5] (by kernel_rfl)
          refine EndsK.does Tryd.func20 BTf_is (by rw [oneVar]; exact Nat.le_add_left _ _) ?_
          refine Tft (e := e0) (dk := dk) (th := th) (ts := ts) (kp := kp) (sd := sd) (t := t) (a := ((k : Nat) : Int)) (fr := fr) (g := w_) (W := w :: ws) (R := r :: rs) (by omega) ha h2 hl ?_
          refine loopf (e := e0) (W := w :: ws) (t2 := t) (f2 := fr) (R0 := r :: rs) (by simp) hr (e1 := (k + 1) + (skP fr ((w :: ws).drop (k + 1))).length) (Re := ((r :: rs) ++ (skP fr ((w :: ws).drop (k + 1))))) hl (by rw [List.length_append]; have := skP_len fr (w :: ws) (k + 1); omega) (fun h => absurd (by have h3 := congrArg List.length h; rw [List.length_append] at h3; exact List.eq_nil_of_length_eq_zero (by omega)) hP) ?_ _ _ (.s (k + 1) (by omega) rfl rfl)
          intro _ ts_
          rw [hRe]
          exact (EndsK.normal (l := []) (by kernel_rfl) rfl (Fits.kh (growNew (growDrop (growPut (growPut (Grow.refl _) rfl) rfl))) rfl ⟨rfl, rfl, rfl, rfl, rfl, trivial⟩))
      · have hm : rtMore (RetireSt.mk ⟨dk, th, ts, kp, sd⟩ true true t (w :: ws) a fr (r :: rs) false) = false := by unfold rtMore; simp only [decide_eq_false h1, decide_eq_false h2]; rfl
        rw [Take_same hm]
        refine mach_does (h' := (mkH [.cells [(.int .i64 1), (.int .i64 64), (.int .i64 1), (.int .i64 64)] e0 false, .cells [(.int .u64 dk), (.int .i64 th), (.int .i64 ts), (.int .i64 kp), (.int .u64 sd), (.bool true), (.bool true), (.int .i64 t), (.slice (some ⟨3, 0, none⟩) (List.length (w :: ws)) (List.length (w :: ws))), (.int .i64 a), (.map (some 2)), (.slice (some ⟨4, 0, none⟩) (List.length (r :: rs)) (List.length (r :: rs)))] 55 true, .dict .u64 .i64 fr, .ints .u64 (w :: ws) 22 true, .ints .u64 (r :: rs) 22 true])) (vs := varL) (vb := [.cells (intCells .i64 [1, 64, 1, 64]) e0 false]) oneVar (.cons e0 .nil)  (isRf dk th ts kp sd t a fr w ws r rs) (isRf dk th ts kp sd t a fr w ws r rs) ?_ [2, 3, 4] (by kernel_rfl)
        refine EndsK.does Tryd.func20 BTf_is (by rw [oneVar]; exact Nat.le_add_left _ _) ?_
        exact Tfz (e := e0) (dk := dk) (th := th) (ts := ts) (kp := kp) (sd := sd) (t := t) (a := a) (fr := fr) (g := w_) (W := w :: ws) (R := r :: rs) (by omega) (by omega) (EndsK.ret (l := []) (by kernel_rfl) rfl (Fits.kh (Grow.refl _) rfl ⟨rfl, rfl, rfl, rfl, rfl, trivial⟩))
noncomputable def rc_rtTake : RC := ⟨[.mach, .int .u64], fun avs => match avs with | [.mach (.retire x), .int w] => (rtOk x) | _ => false,
  fun N avs => match avs with | [.mach (.retire x), .int w] => (undef, [(1, .mach (.retire (rtTake x w)))], []) | _ => (.bool false, [], [])⟩
theorem rc_rtTake_does : RcDoes Tryd.prog varL 20 rc_rtTake := by
  intro vb avs args blks hv hs hp
  obtain ⟨e0, rfl⟩ := var1 hv
  cases hs with | mach m_x hs =>
  cases m_x with
  | arena _ => cases hp
  | guard _ => cases hp
  | shield _ => cases hp
  | retire x =>
  cases hs with | int w hs =>
  cases hs
  exact rtTake_does e0 x w hp
end Go.Proofs.YtfhfbbhoppnbiaaDoor
