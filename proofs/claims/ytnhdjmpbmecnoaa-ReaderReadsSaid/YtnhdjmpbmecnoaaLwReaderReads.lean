/- What was made is read, in as many steps as it has cells, and stays as it is. -/
import Derived.Test.YtnhdjmpbmecnoaaRrB
import Derived.WalkKit
import Derived.ProofKit
import Derived.OpenShut
import Derived.ChangeOld
import Derived.Below
import Derived.SizedLaws
import Derived.ChangeMaps5
namespace Go.Proofs.Ytnhdjmpbmecnoaa.readerReads
open Go.Eng
open Go.ChangeShapes Go.WideShapes Go.ChangeAt Go.RowKit
set_option linter.unusedVariables false
set_option linter.unusedSimpArgs false
set_option maxRecDepth 100000
theorem ro0 : Ro (mkH []).low := fun a o ho => by cases ho
theorem boxW_le {ks vs : ByteArray} (h16 : ks.size ≤ 16) (h24 : vs.size ≤ 24) : (boxW ks vs).length ≤ 6 := by
  rw [boxW_len]; unfold manyN; omega
theorem boxW_pos (ks vs : ByteArray) : 1 ≤ (boxW ks vs).length := by rw [boxW_len]; omega
noncomputable def QR : Ex → St → Prop := Eng.Ends Try.prog Try.f10.results.toList fun r _ => r = .bool true
theorem qR {s : KSt} (h : resL Try.prog s.low Try.f10.results.toList = some [.bool true]) : QR .ret s.low := Ends.of h rfl
theorem eta1 (l : List Int) (h : l.length = 1) : l = [l.getD 0 0] := by
  match l, h with
  | [a0], _ => rfl
theorem sets1 (l : List Int) (h : l.length = 1) : (List.set (List.replicate 1 (0 : Int)) 0 (l.getD 0 0)) = l := by
  match l, h with
  | [a0], _ => rfl
theorem eta2 (l : List Int) (h : l.length = 2) : l = [l.getD 0 0, l.getD 1 0] := by
  match l, h with
  | [a0, a1], _ => rfl
theorem sets2 (l : List Int) (h : l.length = 2) : (List.set (List.set (List.replicate 2 (0 : Int)) 0 (l.getD 0 0)) 1 (l.getD 1 0)) = l := by
  match l, h with
  | [a0, a1], _ => rfl
theorem eta3 (l : List Int) (h : l.length = 3) : l = [l.getD 0 0, l.getD 1 0, l.getD 2 0] := by
  match l, h with
  | [a0, a1, a2], _ => rfl
theorem sets3 (l : List Int) (h : l.length = 3) : (List.set (List.set (List.set (List.replicate 3 (0 : Int)) 0 (l.getD 0 0)) 1 (l.getD 1 0)) 2 (l.getD 2 0)) = l := by
  match l, h with
  | [a0, a1, a2], _ => rfl
theorem eta4 (l : List Int) (h : l.length = 4) : l = [l.getD 0 0, l.getD 1 0, l.getD 2 0, l.getD 3 0] := by
  match l, h with
  | [a0, a1, a2, a3], _ => rfl
theorem sets4 (l : List Int) (h : l.length = 4) : (List.set (List.set (List.set (List.set (List.replicate 4 (0 : Int)) 0 (l.getD 0 0)) 1 (l.getD 1 0)) 2 (l.getD 2 0)) 3 (l.getD 3 0)) = l := by
  match l, h with
  | [a0, a1, a2, a3], _ => rfl
theorem eta5 (l : List Int) (h : l.length = 5) : l = [l.getD 0 0, l.getD 1 0, l.getD 2 0, l.getD 3 0, l.getD 4 0] := by
  match l, h with
  | [a0, a1, a2, a3, a4], _ => rfl
theorem sets5 (l : List Int) (h : l.length = 5) : (List.set (List.set (List.set (List.set (List.set (List.replicate 5 (0 : Int)) 0 (l.getD 0 0)) 1 (l.getD 1 0)) 2 (l.getD 2 0)) 3 (l.getD 3 0)) 4 (l.getD 4 0)) = l := by
  match l, h with
  | [a0, a1, a2, a3, a4], _ => rfl
theorem eta6 (l : List Int) (h : l.length = 6) : l = [l.getD 0 0, l.getD 1 0, l.getD 2 0, l.getD 3 0, l.getD 4 0, l.getD 5 0] := by
  match l, h with
  | [a0, a1, a2, a3, a4, a5], _ => rfl
theorem sets6 (l : List Int) (h : l.length = 6) : (List.set (List.set (List.set (List.set (List.set (List.set (List.replicate 6 (0 : Int)) 0 (l.getD 0 0)) 1 (l.getD 1 0)) 2 (l.getD 2 0)) 3 (l.getD 3 0)) 4 (l.getD 4 0)) 5 (l.getD 5 0)) = l := by
  match l, h with
  | [a0, a1, a2, a3, a4, a5], _ => rfl
/-- What is told of a box's words. -/
structure Told (ks vs : ByteArray) (k : Nat) (W : List Int) : Prop where
  len : W.length = k
  h1 : 1 ≤ k
  h6 : k ≤ 6
  wb : isWb (W.getD 0 0) = true
  sz : sizeN (W.getD 0 0) = ((k : Nat) : Int)
  ws : isWs (List.take k (List.drop 0 W)) = true
  r1 : (textAt (List.take k (List.drop 0 W)) 1 (kLen (List.getD (List.take k (List.drop 0 W)) 0 0))) = ks
  r2 : (textAt (List.take k (List.drop 0 W)) (1 + manyV (kLen (List.getD (List.take k (List.drop 0 W)) 0 0))) (vLen (List.getD (List.take k (List.drop 0 W)) 0 0))) = vs
theorem stepG {V : List Int} {L : List Int} {R : List Int} {m : Nat} {k : Nat} {ks : ByteArray} {vs : ByteArray} {g : Int} (hR : Told ks vs k R) : Gets Try.prog (KH.low ⟨0, 1, []⟩) (codeAt [1, 1, 1, 1, 1, 1, 1, 1, 1, 1, 1, 1, 1, 1] BK) (KSt.low (KS54 V L R m k ks vs g)) QR := Kg hR.len hR.h1 hR.h6 hR.wb hR.sz hR.ws hR.r1 hR.r2 (qR (by kernel_rfl))
theorem stepF {V : List Int} {L : List Int} {m : Nat} {k : Nat} {ks : ByteArray} {vs : ByteArray} {g : Int} (hV : Told ks vs k V) : Gets Try.prog (KH.low ⟨0, 1, []⟩) (codeAt [1, 1, 1, 1, 1, 1, 1, 1, 1, 1, 1, 1, 1] BK) (KSt.low (KS53 V L m k ks vs g)) QR := by
  have h1 := hV.h1
  have h6 := hV.h6
  by_cases e : k = 1
  · subst e
    refine K1f hV.len hV.wb (by rw [hV.sz]; exact beq_self_eq_true _) ?_
    have h := stepG (V := V) (R := V) (ks := ks) (vs := vs) (g := g) (L := L) (m := m) hV
    rw [show (KS54 V L (V) m (1) ks vs g) = (KS54 V L ([V.getD 0 0]) m (1) ks vs g) from congrArg (fun l => (KS54 V L (l) m (1) ks vs g)) (eta1 V hV.len)] at h
    exact h
  by_cases e : k = 2
  · subst e
    refine K2f hV.len hV.wb (by rw [hV.sz]; exact beq_self_eq_true _) ?_
    have h := stepG (V := V) (R := V) (ks := ks) (vs := vs) (g := g) (L := L) (m := m) hV
    rw [show (KS54 V L (V) m (2) ks vs g) = (KS54 V L ([V.getD 0 0, V.getD 1 0]) m (2) ks vs g) from congrArg (fun l => (KS54 V L (l) m (2) ks vs g)) (eta2 V hV.len)] at h
    exact h
  by_cases e : k = 3
  · subst e
    refine K3f hV.len hV.wb (by rw [hV.sz]; exact beq_self_eq_true _) ?_
    have h := stepG (V := V) (R := V) (ks := ks) (vs := vs) (g := g) (L := L) (m := m) hV
    rw [show (KS54 V L (V) m (3) ks vs g) = (KS54 V L ([V.getD 0 0, V.getD 1 0, V.getD 2 0]) m (3) ks vs g) from congrArg (fun l => (KS54 V L (l) m (3) ks vs g)) (eta3 V hV.len)] at h
    exact h
  by_cases e : k = 4
  · subst e
    refine K4f hV.len hV.wb (by rw [hV.sz]; exact beq_self_eq_true _) ?_
    have h := stepG (V := V) (R := V) (ks := ks) (vs := vs) (g := g) (L := L) (m := m) hV
    rw [show (KS54 V L (V) m (4) ks vs g) = (KS54 V L ([V.getD 0 0, V.getD 1 0, V.getD 2 0, V.getD 3 0]) m (4) ks vs g) from congrArg (fun l => (KS54 V L (l) m (4) ks vs g)) (eta4 V hV.len)] at h
    exact h
  by_cases e : k = 5
  · subst e
    refine K5f hV.len hV.wb (by rw [hV.sz]; exact beq_self_eq_true _) ?_
    have h := stepG (V := V) (R := V) (ks := ks) (vs := vs) (g := g) (L := L) (m := m) hV
    rw [show (KS54 V L (V) m (5) ks vs g) = (KS54 V L ([V.getD 0 0, V.getD 1 0, V.getD 2 0, V.getD 3 0, V.getD 4 0]) m (5) ks vs g) from congrArg (fun l => (KS54 V L (l) m (5) ks vs g)) (eta5 V hV.len)] at h
    exact h
  by_cases e : k = 6
  · subst e
    refine K6f hV.len hV.wb (by rw [hV.sz]; exact beq_self_eq_true _) ?_
    have h := stepG (V := V) (R := V) (ks := ks) (vs := vs) (g := g) (L := L) (m := m) hV
    rw [show (KS54 V L (V) m (6) ks vs g) = (KS54 V L ([V.getD 0 0, V.getD 1 0, V.getD 2 0, V.getD 3 0, V.getD 4 0, V.getD 5 0]) m (6) ks vs g) from congrArg (fun l => (KS54 V L (l) m (6) ks vs g)) (eta6 V hV.len)] at h
    exact h
  omega
theorem stepE {ks : ByteArray} {vs : ByteArray} {k : Nat} {V : List Int} {L : List Int} {R : List Int} {m : Nat} {g : Int} (hR : Told ks vs k R) (hV : Told ks vs k V) : Gets Try.prog (KH.low ⟨0, 1, []⟩) (codeAt [1, 1, 1, 1, 1, 1, 1, 1, 1, 1] BK) (KSt.low (KS46 ks vs k V L R m g)) QR := Ke hR.len hR.h1 hR.h6 hR.wb hR.sz hR.ws hR.r1 hR.r2 (stepF hV)
theorem stepD {ks : ByteArray} {vs : ByteArray} {V : List Int} {L : List Int} {m : Nat} {k : Nat} {g : Int} (hV : Told ks vs k V) : Gets Try.prog (KH.low ⟨0, 1, []⟩) (codeAt [1, 1, 1, 1, 1, 1, 1, 1, 1] BK) (KSt.low (KS45 ks vs V L m k g)) QR := by
  have h1 := hV.h1
  have h6 := hV.h6
  by_cases e : k = 1
  · subst e
    refine K1d hV.len hV.wb (by rw [hV.sz]; exact beq_self_eq_true _) ?_
    have h := stepE (V := V) (R := V) (ks := ks) (vs := vs) (g := g) (L := L) (m := m) hV hV
    rw [show (KS46 ks vs (1) V L (V) m g) = (KS46 ks vs (1) V L ([V.getD 0 0]) m g) from congrArg (fun l => (KS46 ks vs (1) V L (l) m g)) (eta1 V hV.len)] at h
    exact h
  by_cases e : k = 2
  · subst e
    refine K2d hV.len hV.wb (by rw [hV.sz]; exact beq_self_eq_true _) ?_
    have h := stepE (V := V) (R := V) (ks := ks) (vs := vs) (g := g) (L := L) (m := m) hV hV
    rw [show (KS46 ks vs (2) V L (V) m g) = (KS46 ks vs (2) V L ([V.getD 0 0, V.getD 1 0]) m g) from congrArg (fun l => (KS46 ks vs (2) V L (l) m g)) (eta2 V hV.len)] at h
    exact h
  by_cases e : k = 3
  · subst e
    refine K3d hV.len hV.wb (by rw [hV.sz]; exact beq_self_eq_true _) ?_
    have h := stepE (V := V) (R := V) (ks := ks) (vs := vs) (g := g) (L := L) (m := m) hV hV
    rw [show (KS46 ks vs (3) V L (V) m g) = (KS46 ks vs (3) V L ([V.getD 0 0, V.getD 1 0, V.getD 2 0]) m g) from congrArg (fun l => (KS46 ks vs (3) V L (l) m g)) (eta3 V hV.len)] at h
    exact h
  by_cases e : k = 4
  · subst e
    refine K4d hV.len hV.wb (by rw [hV.sz]; exact beq_self_eq_true _) ?_
    have h := stepE (V := V) (R := V) (ks := ks) (vs := vs) (g := g) (L := L) (m := m) hV hV
    rw [show (KS46 ks vs (4) V L (V) m g) = (KS46 ks vs (4) V L ([V.getD 0 0, V.getD 1 0, V.getD 2 0, V.getD 3 0]) m g) from congrArg (fun l => (KS46 ks vs (4) V L (l) m g)) (eta4 V hV.len)] at h
    exact h
  by_cases e : k = 5
  · subst e
    refine K5d hV.len hV.wb (by rw [hV.sz]; exact beq_self_eq_true _) ?_
    have h := stepE (V := V) (R := V) (ks := ks) (vs := vs) (g := g) (L := L) (m := m) hV hV
    rw [show (KS46 ks vs (5) V L (V) m g) = (KS46 ks vs (5) V L ([V.getD 0 0, V.getD 1 0, V.getD 2 0, V.getD 3 0, V.getD 4 0]) m g) from congrArg (fun l => (KS46 ks vs (5) V L (l) m g)) (eta5 V hV.len)] at h
    exact h
  by_cases e : k = 6
  · subst e
    refine K6d hV.len hV.wb (by rw [hV.sz]; exact beq_self_eq_true _) ?_
    have h := stepE (V := V) (R := V) (ks := ks) (vs := vs) (g := g) (L := L) (m := m) hV hV
    rw [show (KS46 ks vs (6) V L (V) m g) = (KS46 ks vs (6) V L ([V.getD 0 0, V.getD 1 0, V.getD 2 0, V.getD 3 0, V.getD 4 0, V.getD 5 0]) m g) from congrArg (fun l => (KS46 ks vs (6) V L (l) m g)) (eta6 V hV.len)] at h
    exact h
  omega
theorem stepC {ks : ByteArray} {vs : ByteArray} {V : List Int} {L : List Int} {W : List Int} {m : Nat} {k : Nat} {g : Int} (hV : Told ks vs k V) : Gets Try.prog (KH.low ⟨0, 1, []⟩) (codeAt [1, 1, 1, 1, 1, 1] BK) (KSt.low (KS41 ks vs V L W m k g)) QR := Kc (stepD hV)
theorem stepB {ks : ByteArray} {vs : ByteArray} {L : List Int} {W : List Int} {m : Nat} {k : Nat} {g : Int} (hW : Told ks vs k W) (hg : 1 ≤ g) (hg3 : g ≤ 3) : Gets Try.prog (KH.low ⟨0, 1, []⟩) (codeAt [1, 1, 1, 1, 1] BK) (KSt.low (KS59 ks vs L W m k g)) QR := by
  have h1 := hW.h1
  have h6 := hW.h6
  by_cases e : k = 1
  · subst e
    refine Kb1 hW.len hg hg3 ?_
    have h := stepC (V := W) (W := W) (ks := ks) (vs := vs) (g := IntKind.wrap .i64 (g + 1)) (L := L) (m := m) hW
    rw [show (KS41 ks vs (W) L W m (1) (IntKind.wrap .i64 (g + 1))) = (KS41 ks vs ((List.set (List.replicate 1 (0 : Int)) 0 (W.getD 0 0))) L W m (1) (IntKind.wrap .i64 (g + 1))) from congrArg (fun l => (KS41 ks vs (l) L W m (1) (IntKind.wrap .i64 (g + 1)))) (sets1 W hW.len).symm] at h
    exact h
  by_cases e : k = 2
  · subst e
    refine Kb2 hW.len hg hg3 ?_
    have h := stepC (V := W) (W := W) (ks := ks) (vs := vs) (g := IntKind.wrap .i64 (g + 2)) (L := L) (m := m) hW
    rw [show (KS41 ks vs (W) L W m (2) (IntKind.wrap .i64 (g + 2))) = (KS41 ks vs ((List.set (List.set (List.replicate 2 (0 : Int)) 0 (W.getD 0 0)) 1 (W.getD 1 0))) L W m (2) (IntKind.wrap .i64 (g + 2))) from congrArg (fun l => (KS41 ks vs (l) L W m (2) (IntKind.wrap .i64 (g + 2)))) (sets2 W hW.len).symm] at h
    exact h
  by_cases e : k = 3
  · subst e
    refine Kb3 hW.len hg hg3 ?_
    have h := stepC (V := W) (W := W) (ks := ks) (vs := vs) (g := IntKind.wrap .i64 (g + 3)) (L := L) (m := m) hW
    rw [show (KS41 ks vs (W) L W m (3) (IntKind.wrap .i64 (g + 3))) = (KS41 ks vs ((List.set (List.set (List.set (List.replicate 3 (0 : Int)) 0 (W.getD 0 0)) 1 (W.getD 1 0)) 2 (W.getD 2 0))) L W m (3) (IntKind.wrap .i64 (g + 3))) from congrArg (fun l => (KS41 ks vs (l) L W m (3) (IntKind.wrap .i64 (g + 3)))) (sets3 W hW.len).symm] at h
    exact h
  by_cases e : k = 4
  · subst e
    refine Kb4 hW.len hg hg3 ?_
    have h := stepC (V := W) (W := W) (ks := ks) (vs := vs) (g := IntKind.wrap .i64 (g + 4)) (L := L) (m := m) hW
    rw [show (KS41 ks vs (W) L W m (4) (IntKind.wrap .i64 (g + 4))) = (KS41 ks vs ((List.set (List.set (List.set (List.set (List.replicate 4 (0 : Int)) 0 (W.getD 0 0)) 1 (W.getD 1 0)) 2 (W.getD 2 0)) 3 (W.getD 3 0))) L W m (4) (IntKind.wrap .i64 (g + 4))) from congrArg (fun l => (KS41 ks vs (l) L W m (4) (IntKind.wrap .i64 (g + 4)))) (sets4 W hW.len).symm] at h
    exact h
  by_cases e : k = 5
  · subst e
    refine Kb5 hW.len hg hg3 ?_
    have h := stepC (V := W) (W := W) (ks := ks) (vs := vs) (g := IntKind.wrap .i64 (g + 5)) (L := L) (m := m) hW
    rw [show (KS41 ks vs (W) L W m (5) (IntKind.wrap .i64 (g + 5))) = (KS41 ks vs ((List.set (List.set (List.set (List.set (List.set (List.replicate 5 (0 : Int)) 0 (W.getD 0 0)) 1 (W.getD 1 0)) 2 (W.getD 2 0)) 3 (W.getD 3 0)) 4 (W.getD 4 0))) L W m (5) (IntKind.wrap .i64 (g + 5))) from congrArg (fun l => (KS41 ks vs (l) L W m (5) (IntKind.wrap .i64 (g + 5)))) (sets5 W hW.len).symm] at h
    exact h
  by_cases e : k = 6
  · subst e
    refine Kb6 hW.len hg hg3 ?_
    have h := stepC (V := W) (W := W) (ks := ks) (vs := vs) (g := IntKind.wrap .i64 (g + 6)) (L := L) (m := m) hW
    rw [show (KS41 ks vs (W) L W m (6) (IntKind.wrap .i64 (g + 6))) = (KS41 ks vs ((List.set (List.set (List.set (List.set (List.set (List.set (List.replicate 6 (0 : Int)) 0 (W.getD 0 0)) 1 (W.getD 1 0)) 2 (W.getD 2 0)) 3 (W.getD 3 0)) 4 (W.getD 4 0)) 5 (W.getD 5 0))) L W m (6) (IntKind.wrap .i64 (g + 6))) from congrArg (fun l => (KS41 ks vs (l) L W m (6) (IntKind.wrap .i64 (g + 6)))) (sets6 W hW.len).symm] at h
    exact h
  omega
theorem stepA {ks : ByteArray} {vs : ByteArray} {W : List Int} {X : List Int} {k : Nat} {m : Nat} (hW : Told ks vs k W) (hX : X.length = m) (h1 : 1 ≤ m) (h3 : m ≤ 3) : Gets Try.prog (KH.low ⟨0, 1, []⟩) (codeAt [1, 1, 1, 1] BK) (KSt.low (KS7 ks vs W X k m)) QR := by
  by_cases e : m = 1
  · subst e
    refine Ka1 hX ?_
    exact stepB (ks := ks) (vs := vs) (g := 1) hW (by decide) (by decide)
  by_cases e : m = 2
  · subst e
    refine Ka2 hX ?_
    exact stepB (ks := ks) (vs := vs) (g := 2) hW (by decide) (by decide)
  by_cases e : m = 3
  · subst e
    refine Ka3 hX ?_
    exact stepB (ks := ks) (vs := vs) (g := 3) hW (by decide) (by decide)
  omega
theorem toldR {ks vs : ByteArray} (hk : ks.size ≤ 16) (hv : vs.size ≤ 24) : Told ks vs (boxW ks vs).length (boxW ks vs) := by
  have e : List.take (boxW ks vs).length (List.drop 0 (boxW ks vs)) = boxW ks vs := by rw [List.drop_zero, List.take_length]
  have h0 := boxW_0 ks vs
  refine ⟨rfl, boxW_pos ks vs, boxW_le hk hv, ?_, ?_, ?_, ?_, ?_⟩
  · rw [h0]; exact isWb_of (headN_word ks vs)
  · exact (boxW_size hk hv).symm
  · rw [e]; exact isWs_of (boxW_word ks vs)
  · rw [e, h0, (head_k hk hv).1]; exact read_k ks vs
  · rw [e, h0, (head_k hk hv).1, (head_k hk hv).2]; exact read_v ks vs
theorem told (ks vs os : ByteArray) : Tells Try.prog 10 [(.string ks), (.string vs), (.string os)] (mkH []).low (.bool true) := by
  refine Gets.tells Try.func10 BK_is (by rw [noVars]; exact Nat.zero_le _) rfl ?_ ro0
  show Gets Try.prog (KH.low ⟨0, 1, []⟩) BK (KSt.low (KS0 ks vs os)) QR
  by_cases hk : 16 < ks.size
  · exact Kgk hk (qR (by kernel_rfl))
  by_cases hv : 24 < vs.size
  · exact Kgv (by omega) hv (qR (by kernel_rfl))
  by_cases ho : 16 < os.size
  · exact Kgs (by omega) (by omega) ho (qR (by kernel_rfl))
  have hW := toldR (ks := ks) (vs := vs) (by omega) (by omega)
  have hX1 := boxW_pos os (⟨#[]⟩ : ByteArray)
  have hX3 : (boxW os (⟨#[]⟩ : ByteArray)).length ≤ 3 := by
    rw [boxW_len]
    show 1 + manyN os + manyN (⟨#[]⟩ : ByteArray) ≤ 3
    have : manyN (⟨#[]⟩ : ByteArray) = 0 := rfl
    unfold manyN at *
    omega
  exact Kin (by omega) (by omega) (by omega) rfl rfl rfl rfl hX1 hW.h1 (stepA hW rfl hX1 hX3)
theorem own : ownKnob Try.prog.godebug = none := by kernel_rfl
theorem lifted (os : Os) (started : os.Started) (H : Type) (enc : TypeId × Value → H) :
    ReturnsInHanded {} Try.checked os 10 .any (Rows.readerReadsSpec.pre6 enc Try.prog Try.f10 Rows.readerReadsRow.domain false) (Rows.readerReadsSpec.post enc Try.prog Try.f10 false true false false) := by
  refine returnsInHanded_of_change_sized (C := Try.checked) own started (by kernel_rfl) Try.func10
    (ChangeSpec.witness6 (enc := enc) (C := Try.checked) false ⟨#[], #[.string ⟨#[]⟩, .string ⟨#[]⟩, .string ⟨#[]⟩], []⟩ 8 (by kernel_rfl) (by kernel_rfl) (by kernel_rfl) (by kernel_rfl)) ?_
  intro W base args ds gs before hval0 hW hcnd hsz0 _
  have hval : ∀ (j : Nat) t v, Try.f10.params[j]? = some t → args[j]? = some v → Value.okWide Try.prog W .any base t v := hval0
  have hW' := hW
  obtain ⟨p, q, hA0, hV, rfl, hfz, hnd⟩ := hW
  have hA : DataW.TrodAll enc Try.prog W 0 (fun _ => true) true Try.f10.params.toList args.toList ds p := hA0
  rw [Try.params10] at hA hval
  have hS := hA
  obtain ⟨v0, vs0, d0, ds0, p0, q0, hargs, rfl, rfl, h0, r0⟩ := trodAll_cons hA
  obtain ⟨v1, vs1, d1, ds1, p1, q1, rfl, rfl, rfl, h1, r1⟩ := trodAll_cons r0
  obtain ⟨v2, vs2, d2, ds2, p2, q2, rfl, rfl, rfl, h2, r2⟩ := trodAll_cons r1
  obtain ⟨rfl, rfl, rfl⟩ := trodAll_nil r2
  obtain rfl : args = #[v0, v1, v2] := by cases args; simp_all
  obtain ⟨rfl, rfl⟩ := trodVars_none hV
  suffices hc : Calls Try.prog 10 #[v0, v1, v2] W fun e W' => e = .returned (.bool true) ∧ Below W.heap.size W W' by
    refine hc.mono fun e W' ⟨he, bel⟩ => ?_
    subst he
    exact ⟨_, rfl, _, _, _, [], _, [], hW', trodAll_mk1 (shut_bool Try.underlying4 _), trodAll_stays fineA bel (by decide +kernel) hS, rfl, bel.frame _, fun h => by cases h⟩
  clear hS hW' hfz hnd
  obtain ⟨a0, rfl, rfl, rfl, w0⟩ := Go.ChangeMaps.open_string Try.underlying9 (hval 0 9 v0 rfl rfl) h0
  obtain ⟨a1, rfl, rfl, rfl, w1⟩ := Go.ChangeMaps.open_string Try.underlying9 (hval 1 9 v1 rfl rfl) h1
  obtain ⟨a2, rfl, rfl, rfl, w2⟩ := Go.ChangeMaps.open_string Try.underlying9 (hval 2 9 v2 rfl rfl) h2
  exact told a0 a1 a2 _ W _ (.cons (.of_plain rfl) (.cons (.of_plain rfl) (.cons (.of_plain rfl) (.nil _)))) (Sim.none noVars W _ _)
theorem over : Rows.readerReadsRow.holds Try.pinned (OpenSpec.ofChange Rows.readerReadsSpec) :=
  OpenClaim.holds_of_wide 10 Try.f10 rfl rfl rfl rfl rfl rfl rfl ⟨rfl, rfl, rfl, rfl, rfl⟩ rfl rfl rfl rfl rfl (by kernel_rfl) Try.func10 (by kernel_rfl)
    (of_decide_eq_true (by kernel_rfl)) (by unfold Func.isWrapper; first | (rw [if_pos (by decide +kernel)]; kernel_rfl) | (rw [if_neg (by decide +kernel)]; exact ⟨rfl, rfl⟩))
    (fun os started H enc _ => lifted os started H enc)
end Go.Proofs.Ytnhdjmpbmecnoaa.readerReads
namespace Go.Proofs.Ytnhdjmpbmecnoaa
/-- The row, under a short name, for the claim. -/
theorem readerReads_holds : Rows.ReaderReadsSaid := readerReads.over
#print axioms readerReads_holds
end Go.Proofs.Ytnhdjmpbmecnoaa
