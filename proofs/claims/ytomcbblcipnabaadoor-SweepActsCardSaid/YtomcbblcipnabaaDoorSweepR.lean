/- What the reference sweep does to a tape. -/
import Derived.Test.YtomcbblcipnabaaDoorSweepW1
import Derived.WalkKit
import Derived.ProofKit
import Derived.OpenShut
import Derived.ChangeOld
import Derived.Below
import Derived.SizedLaws
namespace Go.Proofs.YtomcbblcipnabaaDoor.sweepRef
open Go.Eng
open Go.ChangeShapes Go.WideShapes Go.ChangeAt Go.RowKit
set_option linter.unusedVariables false
set_option linter.unusedSimpArgs false
set_option maxRecDepth 100000
/-- How a sweep stands. -/
inductive Sw where
  | p1 (f a : Int) | p2 (o f a : Int) | p3 (o f a : Int) | p4 (o t f a : Int) | p5 (o f a : Int) | p6 (o f a : Int) | p7 (o k f a : Int) | p8 (o k g s f a : Int) | p9 (o k g s x f a : Int) | p10 (o k f a : Int) | p11 (k f a : Int) | p12 (f a : Int)
open Sw
def at4 (ths o t f a : Int) : Sw := if t < ths then .p4 o t f a else .p6 o f a
def at8 (o k g s f a : Int) : Sw := if s < 8 * groupsV g then .p8 o k g s f a else .p10 o k f a
/-- One answer more. -/
def gstep (ths : Int) : Sw → Int → Sw
  | .p1 f a, x => if markR x ≠ 0 ∨ blockR x = 0 then .p12 f (a + 1) else .p2 x f (a + 1)
  | .p2 o f a, x => if x = blockR o then .p12 f (a + 1) else .p3 o f (a + 1)
  | .p3 o f a, x => if x ≠ o then .p12 f (a + 1) else at4 ths o 0 f (a + 1)
  | .p4 o t f a, x => if x = blockR o then .p5 o f (a + 1) else at4 ths o (t + 1) f (a + 1)
  | .p5 _ f a, _ => .p12 f (a + 1)
  | .p6 o f a, x => .p7 o x f (a + 1)
  | .p7 o k f a, x => if 9 < x then .p5 o f (a + 1) else at8 o k (IntKind.wrap .i64 x) 0 f (a + 1)
  | .p8 o k g s f a, x => if holdsR x = true then .p9 o k g s (blockR x) f (a + 1) else at8 o k g (s + 1) f (a + 1)
  | .p9 o k g s _ f a, _ => at8 o k g (s + 1) f (a + 1)
  | .p10 _ k f a, _ => .p11 k f (a + 1)
  | .p11 _ f a, _ => .p1 (f + 1) (a + 1)
  | .p12 f a, _ => .p12 f a
def gst (ths : Int) (l : List Int) : Sw := l.foldl (gstep ths) (.p1 0 0)
def rest (ths : Int) (l : List Int) (k : Int) (G : Sw) : Sw := (l.drop (Int.toNat k)).foldl (gstep ths) G
def gAt : Sw → Int
  | .p1 _ a => a | .p2 _ _ a => a | .p3 _ _ a => a | .p4 _ _ _ a => a | .p5 _ _ a => a | .p6 _ _ a => a | .p7 _ _ _ a => a | .p8 _ _ _ _ _ a => a | .p9 _ _ _ _ _ _ a => a | .p10 _ _ _ a => a | .p11 _ _ a => a | .p12 _ a => a
def gOver : Sw → Bool
  | .p12 _ _ => false
  | _ => true
def gKind : Sw → Int
  | .p12 _ _ => 0 | .p3 _ _ _ => 3 | .p5 _ _ _ => 2 | .p11 _ _ _ => 2 | .p9 _ _ _ _ _ _ _ => 6 | .p10 _ _ _ _ => 6
  | _ => 1
def gBlk (dk : Int) : Sw → Int
  | .p12 _ _ => 0 | .p6 o _ _ => blockR o | .p7 o _ _ _ => blockR o | .p8 o _ _ _ _ _ => blockR o | .p10 o _ _ _ => blockR o | .p9 _ _ _ _ x _ _ => x
  | _ => dk
def gCell : Sw → Int
  | .p1 _ _ => 1 | .p3 _ _ _ => 1 | .p5 _ _ _ => 1 | .p11 _ _ _ => 1 | .p4 _ t _ _ => tabCellV t | .p6 _ _ _ => 1 | .p8 _ _ g s _ _ => slotV g (s / 8) (s % 8)
  | _ => 0
def gOld : Sw → Int
  | .p3 o _ _ => o
  | _ => 0
def gNew : Sw → Int
  | .p3 o _ _ => IntKind.wrap .u64 (o + 1) | .p5 o _ _ => o | .p11 k _ _ => makeR (blockR k) 0
  | _ => 0
def gRes : Sw → Int
  | .p1 f _ => f | .p2 _ f _ => f | .p3 _ f _ => f | .p5 _ f _ => f | .p12 f _ => f
  | .p4 _ _ f _ => f + 1 | .p6 _ f _ => f + 1 | .p7 _ _ f _ => f + 1 | .p8 _ _ _ _ f _ => f + 1 | .p9 _ _ _ _ _ f _ => f + 1 | .p10 _ _ f _ => f + 1 | .p11 _ f _ => f + 1
def gMore (dk : Int) (G : Sw) : List Value := [.int .i64 (gAt G), .bool (gOver G), .int .i64 (gKind G), .int .u64 (gBlk dk G), .int .i64 (gCell G), .int .u64 (gOld G), .int .u64 (gNew G)]
def gZero : List Value := [.int .i64 0, .bool false, .int .i64 0, .int .u64 0, .int .i64 0, .int .u64 0, .int .u64 0]
theorem rest_end {ths : Int} {l : List Int} {k : Int} (h : k = (l.length : Int)) (G : Sw) : rest ths l k G = G := by
  unfold rest; rw [List.drop_of_length_le (by omega)]; rfl
theorem rest_step {ths : Int} {l : List Int} {k : Int} (h0 : 0 ≤ k) (h : k < (l.length : Int)) (G : Sw) : rest ths l k G = rest ths l (k + 1) (gstep ths G (l.getD (Int.toNat k) 0)) := by
  unfold rest
  rw [List.drop_eq_getElem_cons (by omega), show Int.toNat (k + 1) = Int.toNat k + 1 by omega, List.foldl_cons, List.getD_eq_getElem?_getD, List.getElem?_eq_getElem (show k.toNat < l.length by omega)]
  rfl
theorem rest_12 (ths : Int) (l : List Int) (k f a : Int) : rest ths l k (.p12 f a) = .p12 f a := by
  unfold rest
  generalize l.drop (Int.toNat k) = m
  induction m with
  | nil => rfl
  | cons x r ih => exact ih
theorem half {g j : Int} (hj : 0 ≤ j) (hj2 : j < 8) : (8 * g + j) / 8 = g ∧ (8 * g + j) % 8 = j := by omega

noncomputable def MHs (off n c : Nat) (l : List Int) (e0 e eg : TypeId) (M : List Value) : KH := mkH [.cells [.int .i64 1, .int .i64 64, .int .i64 1, .int .i64 64] e0 false, tapeBlkV off n c M e, .tail off .u64 l eg]
noncomputable def QE (dk th ths kp sd : Int) (off n c : Nat) (l : List Int) (e0 e eg : TypeId) : Ex → St → Prop := Eng.Ends Tryd.prog Tryd.f10.results.toList fun v sh => v = .int .i64 (gRes (gst ths l)) ∧ Fits (MHs off n c l e0 e eg gZero).low sh (effK (MHs off n c l e0 e eg gZero) [(1, tapeBlkV off n c (gMore dk (gst ths l)) e)] []).low
theorem qe_end (dk th ths kp sd : Int) (off n c : Nat) (l : List Int) (e0 e eg : TypeId) {s : KSt} {M : List Value} {r : Int} (hM : gMore dk (gst ths l) = M) (hR : gRes (gst ths l) = r) (hr : resL Tryd.prog s.low Tryd.f10.results.toList = some [.int .i64 r])
    (h1 : s.low.h.get 1 = some (tapeBlkV off n c M e).low) (hx : s.low.h.next ≤ 3) : QE dk th ths kp sd off n c l e0 e eg .ret s.low := by
  subst hM hR
  exact Ends.of hr ⟨rfl, tapeV_fits rfl h1 hx⟩
inductive Inv6 (dk th ths kp sd : Int) (off n c : Nat) (l : List Int) (e0 e eg : TypeId) (f o lk lg lw g k0 : Int) : Nat → KSt → Prop
  | go (k j : Int) (hkk : k0 ≤ k) (hk2 : k ≤ (n : Int)) (hj : 0 ≤ j) (hj8 : j ≤ 8) (hG : gst ths l = rest ths l k (at8 o lk lw (8 * g + j) f k)) : Inv6 dk th ths kp sd off n c l e0 e eg f o lk lg lw g k0 (8 - j).toNat (S92 f o lk lg g j dk th ths kp sd e0 off n c k e l eg)
  | ov (k j AK AB AC AO AN : Int) (hj : 0 ≤ j) (hj8 : j ≤ 8) (hM : gMore dk (gst ths l) = [.int .i64 k, .bool true, .int .i64 AK, .int .u64 AB, .int .i64 AC, .int .u64 AO, .int .u64 AN]) (hR : gRes (gst ths l) = f + 1) : Inv6 dk th ths kp sd off n c l e0 e eg f o lk lg lw g k0 (8 - j).toNat (S94 f o lk lg g j dk th ths kp sd e0 off n c k AK AB AC AO AN e l eg)
theorem loop6 (dk th ths kp sd : Int) (off n c : Nat) (l : List Int) (e0 e eg : TypeId) (f o lk lg lw g k0 : Int) (hl : l.length = n) (hn : n ≤ 1000) (hf : 0 ≤ f) (hf2 : f ≤ 1000) (hk0 : 0 ≤ k0) (hlw : IntKind.wrap .i64 lg = lw) (hg : 0 ≤ g) (hg2 : g < groupsV lw) (Q : Ex → St → Prop)
    (h1 : ∀ k j : Int, k0 ≤ k → k ≤ (n : Int) → gst ths l = rest ths l k (at8 o lk lw (8 * (g + 1)) f k) → Q .normal (KSt.low (S93 f o lk lg g j dk th ths kp sd e0 off n c k e l eg)))
    (h2 : ∀ k j AK AB AC AO AN : Int, gMore dk (gst ths l) = [.int .i64 k, .bool true, .int .i64 AK, .int .u64 AB, .int .i64 AC, .int .u64 AO, .int .u64 AN] → gRes (gst ths l) = f + 1 → Q .normal (KSt.low (S95 f o lk lg g j dk th ths kp sd e0 off n c k AK AB AC AO AN e l eg)))
    (m : Nat) (s : KSt) (hI : Inv6 dk th ths kp sd off n c l e0 e eg f o lk lg lw g k0 m s) : Gets Tryd.prog (KH.low ⟨3, 1, [(0, 0, .cells [(.int .i64 1), (.int .i64 64), (.int .i64 1), (.int .i64 64)] e0 false), (1, 0, .cells [(.slice (some ⟨2, off, none⟩) n c), (.int .i64 0), (.bool false), (.int .i64 0), (.int .u64 0), (.int .i64 0), (.int .u64 0), (.int .u64 0)] e true), (2, 0, .tail off .u64 l eg)]⟩) (codeAt [1, 1, 0, 0, 0, 1, 0, 1, 1, 1, 1, 1, 1, 1, 1, 1, 0, 1, 0, 0, 1, 0, 0, 1] B) s.low Q := by
  rw [C1_1_0_0_0_1_0_1_1_1_1_1_1_1_1_1_0_1_0_0_1_0_0_1, C1_1_0_0_0_1_0_1_1_1_1_1_1_1_1_1_0_1_0_0_1_0_0_1_0]
  refine Gets.loopG (fun m s => Inv6 dk th ths kp sd off n c l e0 e eg f o lk lg lw g k0 m s) ?_ _ _ hI
  clear hI m s
  intro m s hI
  cases hI with
  | go k j hkk hk2 hj hj8 hG =>
    have hk : 0 ≤ k := by omega
    by_cases hx : j = 8
    · refine gx dk th ths kp sd f k o 0 lk lg lw g j 0 0 0 0 0 off n c l e0 e eg hx ?_
      refine ⟨fun _ => ?_, fun h => by cases h⟩
      refine h1 k j hkk hk2 (hG.trans ?_)
      rw [hx, show 8 * g + 8 = 8 * (g + 1) by omega]
    have h8 : at8 o lk lw (8 * g + j) f k = .p8 o lk lw (8 * g + j) f k := if_pos (by omega)
    rw [h8] at hG
    obtain ⟨y1, y2⟩ := half (g := g) hj (by omega)
    by_cases hkn : k = (n : Int)
    · rw [rest_end (by omega)] at hG
      refine gn dk th ths kp sd f k o 0 lk lg lw g j 0 0 0 0 0 off n c l e0 e eg hl hn hk hk2 hf hf2 hlw hj (by omega) hkn ?_
      refine ⟨_, _, by omega, rfl, .ov k (j + 1) _ _ _ _ _ (by omega) (by omega) ?_ (by rw [hG]; rfl)⟩
      rw [hG]
      show [Value.int .i64 k, .bool true, .int .i64 1, .int .u64 (blockR o), .int .i64 (slotV lw ((8 * g + j) / 8) ((8 * g + j) % 8)), .int .u64 0, .int .u64 0] = _
      rw [y1, y2]
    rw [rest_step hk (by omega)] at hG
    cases hh : (holdsR (l.getD (Int.toNat k) 0)) with
    | false =>
      refine g0 dk th ths kp sd f k o 0 lk lg lw g j 0 0 0 0 0 off n c l e0 e eg hl hn hk hk2 hf hf2 hlw hj (by omega) (by omega) hh ?_
      refine ⟨_, _, by omega, rfl, .go (k + 1) (j + 1) (by omega) (by omega) (by omega) (by omega) (hG.trans ?_)⟩
      rw [show gstep ths (.p8 o lk lw (8 * g + j) f k) (l.getD (Int.toNat k) 0) = at8 o lk lw (8 * g + j + 1) f (k + 1) from if_neg (by rw [hh]; decide), show 8 * g + j + 1 = 8 * g + (j + 1) by omega]
    | true =>
      rw [show gstep ths (.p8 o lk lw (8 * g + j) f k) (l.getD (Int.toNat k) 0) = .p9 o lk lw (8 * g + j) (blockR (l.getD (Int.toNat k) 0)) f (k + 1) from if_pos hh] at hG
      by_cases hkn2 : k + 1 = (n : Int)
      · rw [rest_end (by omega)] at hG
        refine g1 dk th ths kp sd f k o 0 lk lg lw g j 0 0 0 0 0 off n c l e0 e eg hl hn hk hk2 hf hf2 hlw hj (by omega) hkn2 hh ?_
        exact ⟨_, _, by omega, rfl, .ov (k + 1) (j + 1) _ _ _ _ _ (by omega) (by omega) (by rw [hG]; rfl) (by rw [hG]; rfl)⟩
      · refine g2 dk th ths kp sd f k o 0 lk lg lw g j 0 0 0 0 0 off n c l e0 e eg hl hn hk hk2 hf hf2 hlw hj (by omega) (by omega) hh ?_
        refine ⟨_, _, by omega, rfl, .go (k + 2) (j + 1) (by omega) (by omega) (by omega) (by omega) (hG.trans ?_)⟩
        rw [rest_step (by omega) (by omega)]
        show rest ths l (k + 1 + 1) (at8 o lk lw (8 * g + j + 1) f (k + 1 + 1)) = _
        rw [show k + 1 + 1 = k + 2 by omega, show 8 * g + j + 1 = 8 * g + (j + 1) by omega]
  | ov k j AK AB AC AO AN hj hj8 hM hR =>
    by_cases hx : j = 8
    · refine gvx dk th ths kp sd f k o 0 lk lg lw g j AK AB AC AO AN off n c l e0 e eg hx ?_
      refine ⟨fun _ => ?_, fun h => by cases h⟩
      exact h2 k j AK AB AC AO AN hM hR
    · refine gv dk th ths kp sd f k o 0 lk lg lw g j AK AB AC AO AN off n c l e0 e eg hlw hj (by omega) ?_
      exact ⟨_, _, by omega, rfl, .ov k (j + 1) _ _ _ _ _ (by omega) (by omega) hM hR⟩
inductive Inv4 (dk th ths kp sd : Int) (off n c : Nat) (l : List Int) (e0 e eg : TypeId) (f o lk lg lw k0 : Int) : Nat → KSt → Prop
  | go (k g : Int) (hkk : k0 ≤ k) (hk2 : k ≤ (n : Int)) (hg : 0 ≤ g) (hg2 : g ≤ groupsV lw) (hG : gst ths l = rest ths l k (at8 o lk lw (8 * g) f k)) : Inv4 dk th ths kp sd off n c l e0 e eg f o lk lg lw k0 (groupsV lw - g).toNat (S84 f o lk lg g dk th ths kp sd e0 off n c k e l eg)
  | ov (k g AK AB AC AO AN : Int) (hg : 0 ≤ g) (hg2 : g ≤ groupsV lw) (hM : gMore dk (gst ths l) = [.int .i64 k, .bool true, .int .i64 AK, .int .u64 AB, .int .i64 AC, .int .u64 AO, .int .u64 AN]) (hR : gRes (gst ths l) = f + 1) : Inv4 dk th ths kp sd off n c l e0 e eg f o lk lg lw k0 (groupsV lw - g).toNat (S87 f o lk lg g dk th ths kp sd e0 off n c k AK AB AC AO AN e l eg)
theorem loop4 (dk th ths kp sd : Int) (off n c : Nat) (l : List Int) (e0 e eg : TypeId) (f o lk lg lw k0 : Int) (hl : l.length = n) (hn : n ≤ 1000) (hf : 0 ≤ f) (hf2 : f ≤ 1000) (hk0 : 0 ≤ k0) (hlw : IntKind.wrap .i64 lg = lw) (Q : Ex → St → Prop)
    (h1 : ∀ k g : Int, k0 ≤ k → k ≤ (n : Int) → gst ths l = rest ths l k (.p10 o lk f k) → Q .normal (KSt.low (S86 f o lk lg g lw dk th ths kp sd e0 off n c k e l eg)))
    (h2 : ∀ k g AK AB AC AO AN : Int, gMore dk (gst ths l) = [.int .i64 k, .bool true, .int .i64 AK, .int .u64 AB, .int .i64 AC, .int .u64 AO, .int .u64 AN] → gRes (gst ths l) = f + 1 → Q .normal (KSt.low (S89 f o lk lg g lw dk th ths kp sd e0 off n c k AK AB AC AO AN e l eg)))
    (m : Nat) (s : KSt) (hI : Inv4 dk th ths kp sd off n c l e0 e eg f o lk lg lw k0 m s) : Gets Tryd.prog (KH.low ⟨3, 1, [(0, 0, .cells [(.int .i64 1), (.int .i64 64), (.int .i64 1), (.int .i64 64)] e0 false), (1, 0, .cells [(.slice (some ⟨2, off, none⟩) n c), (.int .i64 0), (.bool false), (.int .i64 0), (.int .u64 0), (.int .i64 0), (.int .u64 0), (.int .u64 0)] e true), (2, 0, .tail off .u64 l eg)]⟩) (codeAt [1, 1, 0, 0, 0, 1, 0, 1, 1, 1, 1, 1, 1, 1, 1, 1, 0, 1] B) s.low Q := by
  obtain ⟨b1, b2⟩ := groupsV_bounds lw
  rw [C1_1_0_0_0_1_0_1_1_1_1_1_1_1_1_1_0_1, C1_1_0_0_0_1_0_1_1_1_1_1_1_1_1_1_0_1_0]
  refine Gets.loopG (fun m s => Inv4 dk th ths kp sd off n c l e0 e eg f o lk lg lw k0 m s) ?_ _ _ hI
  clear hI m s
  intro m s hI
  cases hI with
  | go k g hkk hk2 hg hg2 hG =>
    have hk : 0 ≤ k := by omega
    by_cases hx : groupsV lw ≤ g
    · refine fx dk th ths kp sd f k o 0 lk lg lw g 0 0 0 0 0 0 off n c l e0 e eg hlw hx ?_
      refine ⟨fun _ => ?_, fun h => by cases h⟩
      exact h1 k g hkk hk2 (hG.trans (by rw [show at8 o lk lw (8 * g) f k = .p10 o lk f k from if_neg (by omega)]))
    refine fi dk th ths kp sd f k o 0 lk lg lw g 0 0 0 0 0 0 off n c l e0 e eg hlw hg (by omega) ?_
    refine loop6 dk th ths kp sd off n c l e0 e eg f o lk lg lw g k0 hl hn hf hf2 hk0 hlw hg (by omega) _ ?_ ?_ _ _ (.go k 0 hkk hk2 (by omega) (by omega) (hG.trans (by rw [Int.add_zero])))
    · intro k j hkk hk2 hG
      show Gets _ _ (codeAt [1, 1, 0, 0, 0, 1, 0, 1, 1, 1, 1, 1, 1, 1, 1, 1, 0, 1, 0, 0, 1, 1] B) _ _
      refine fc dk th ths kp sd f k o 0 lk lg lw g j 0 0 0 0 0 off n c l e0 e eg hg (by omega) ?_
      exact ⟨_, _, by omega, rfl, .go k (g + 1) hkk hk2 (by omega) (by omega) hG⟩
    · intro k j AK AB AC AO AN hM hR
      show Gets _ _ (codeAt [1, 1, 0, 0, 0, 1, 0, 1, 1, 1, 1, 1, 1, 1, 1, 1, 0, 1, 0, 0, 1, 1] B) _ _
      refine fvc dk th ths kp sd f k o 0 lk lg lw g j AK AB AC AO AN off n c l e0 e eg hg (by omega) ?_
      exact ⟨_, _, by omega, rfl, .ov k (g + 1) AK AB AC AO AN (by omega) (by omega) hM hR⟩
  | ov k g AK AB AC AO AN hg hg2 hM hR =>
    by_cases hx : groupsV lw ≤ g
    · refine fvx dk th ths kp sd f k o 0 lk lg lw g 0 AK AB AC AO AN off n c l e0 e eg hlw hx ?_
      refine ⟨fun _ => ?_, fun h => by cases h⟩
      exact h2 k g AK AB AC AO AN hM hR
    refine fvi dk th ths kp sd f k o 0 lk lg lw g 0 AK AB AC AO AN off n c l e0 e eg hlw hg (by omega) ?_
    refine loop6 dk th ths kp sd off n c l e0 e eg f o lk lg lw g k0 hl hn hf hf2 hk0 hlw hg (by omega) _ ?_ ?_ _ _ (.ov k 0 AK AB AC AO AN (by omega) (by omega) hM hR)
    · intro k j hkk hk2 hG
      show Gets _ _ (codeAt [1, 1, 0, 0, 0, 1, 0, 1, 1, 1, 1, 1, 1, 1, 1, 1, 0, 1, 0, 0, 1, 1] B) _ _
      refine fc dk th ths kp sd f k o 0 lk lg lw g j 0 0 0 0 0 off n c l e0 e eg hg (by omega) ?_
      exact ⟨_, _, by omega, rfl, .go k (g + 1) hkk hk2 (by omega) (by omega) hG⟩
    · intro k j AK AB AC AO AN hM hR
      show Gets _ _ (codeAt [1, 1, 0, 0, 0, 1, 0, 1, 1, 1, 1, 1, 1, 1, 1, 1, 0, 1, 0, 0, 1, 1] B) _ _
      refine fvc dk th ths kp sd f k o 0 lk lg lw g j AK AB AC AO AN off n c l e0 e eg hg (by omega) ?_
      exact ⟨_, _, by omega, rfl, .ov k (g + 1) AK AB AC AO AN (by omega) (by omega) hM hR⟩
inductive Inv2 (dk th ths kp sd : Int) (off n c : Nat) (l : List Int) (e0 e eg : TypeId) (f o k0 : Int) : Nat → KSt → Prop
  | go (k t : Int) (hkk : k0 ≤ k) (hk2 : k ≤ (n : Int)) (ht : 0 ≤ t) (ht2 : t ≤ ths) (hG : gst ths l = rest ths l k (at4 ths o t f k)) : Inv2 dk th ths kp sd off n c l e0 e eg f o k0 (ths - t).toNat (S34 f o t dk th ths kp sd e0 off n c k e l eg)
  | ov (k t AK AB AC AO AN : Int) (ht : 0 ≤ t) (ht2 : t ≤ ths) (hM : gMore dk (gst ths l) = [.int .i64 k, .bool true, .int .i64 AK, .int .u64 AB, .int .i64 AC, .int .u64 AO, .int .u64 AN]) (hR : gRes (gst ths l) = f + 1) : Inv2 dk th ths kp sd off n c l e0 e eg f o k0 (ths - t).toNat (S51 f o t dk th ths kp sd e0 off n c k AK AB AC AO AN e l eg)
theorem loop2 (dk th ths kp sd : Int) (off n c : Nat) (l : List Int) (e0 e eg : TypeId) (f o k0 : Int) (hl : l.length = n) (hn : n ≤ 1000) (hf : 0 ≤ f) (hf2 : f ≤ 1000) (hk0 : 0 ≤ k0) (hths : ths ≤ 64) (ho0 : o ≠ 0) (hob : blockR o ≠ 0) (Q : Ex → St → Prop)
    (h1 : ∀ k t : Int, k0 ≤ k → k ≤ (n : Int) → gst ths l = rest ths l k (.p6 o f k) → Q .normal (KSt.low (S35 f o t ths dk th kp sd e0 off n c k e l eg)))
    (h2 : ∀ k t AK AB AC AO AN : Int, gMore dk (gst ths l) = [.int .i64 k, .bool true, .int .i64 AK, .int .u64 AB, .int .i64 AC, .int .u64 AO, .int .u64 AN] → gRes (gst ths l) = f + 1 → Q .normal (KSt.low (S52 f o t ths dk th kp sd e0 off n c k AK AB AC AO AN e l eg)))
    (h3 : ∀ s, QE dk th ths kp sd off n c l e0 e eg .ret s → Q .ret s)
    (m : Nat) (s : KSt) (hI : Inv2 dk th ths kp sd off n c l e0 e eg f o k0 m s) : Gets Tryd.prog (KH.low ⟨3, 1, [(0, 0, .cells [(.int .i64 1), (.int .i64 64), (.int .i64 1), (.int .i64 64)] e0 false), (1, 0, .cells [(.slice (some ⟨2, off, none⟩) n c), (.int .i64 0), (.bool false), (.int .i64 0), (.int .u64 0), (.int .i64 0), (.int .u64 0), (.int .u64 0)] e true), (2, 0, .tail off .u64 l eg)]⟩) (codeAt [1, 1, 0, 0, 0, 1, 0, 1, 1, 1, 1, 1, 0, 1] B) s.low Q := by
  rw [C1_1_0_0_0_1_0_1_1_1_1_1_0_1, C1_1_0_0_0_1_0_1_1_1_1_1_0_1_0]
  refine Gets.loopG (fun m s => Inv2 dk th ths kp sd off n c l e0 e eg f o k0 m s) ?_ _ _ hI
  clear hI m s
  intro m s hI
  cases hI with
  | go k t hkk hk2 ht ht2 hG =>
    have hk : 0 ≤ k := by omega
    by_cases hx : t = ths
    · refine dx dk th ths kp sd f k o t 0 0 0 0 0 0 0 0 0 0 off n c l e0 e eg hx ?_
      refine ⟨fun _ => ?_, fun h => by cases h⟩
      exact h1 k t hkk hk2 (hG.trans (by rw [show at4 ths o t f k = .p6 o f k from if_neg (by omega)]))
    rw [show at4 ths o t f k = .p4 o t f k from if_pos (by omega)] at hG
    by_cases hkn : k = (n : Int)
    · rw [rest_end (by omega)] at hG
      refine dn dk th ths kp sd f k o t 0 0 0 0 0 0 0 0 0 0 off n c l e0 e eg hl hn hk hk2 hf hf2 ho0 hob ht (by omega) hths hkn ?_
      exact ⟨_, _, by omega, rfl, .ov k (t + 1) _ _ _ _ _ (by omega) (by omega) (by rw [hG]; rfl) (by rw [hG]; rfl)⟩
    rw [rest_step hk (by omega)] at hG
    cases hb : ((l.getD (Int.toNat k) 0) == (blockR o)) with
    | true =>
      rw [show gstep ths (.p4 o t f k) (l.getD (Int.toNat k) 0) = .p5 o f (k + 1) from if_pos (eq_of_beq hb)] at hG
      by_cases hkn2 : k + 1 = (n : Int)
      · rw [rest_end (by omega)] at hG
        refine db1 dk th ths kp sd f k o t 0 0 0 0 0 0 0 0 0 0 off n c l e0 e eg hl hn hk hk2 hf hf2 ho0 hob ht (by omega) hths hkn2 hb ?_
        exact h3 _ (qe_end dk th ths kp sd off n c l e0 e eg (by rw [hG]) (by rw [hG]) (by kernel_rfl) (by kernel_rfl) (show (3 : Nat) ≤ 3 by decide))
      · rw [rest_step (by omega) (by omega)] at hG
        have hG : gst ths l = .p12 f (k + 1 + 1) := hG.trans (rest_12 _ _ _ _ _)
        rw [show k + 1 + 1 = k + 2 by omega] at hG
        refine db2 dk th ths kp sd f k o t 0 0 0 0 0 0 0 0 0 0 off n c l e0 e eg hl hn hk hk2 hf hf2 ho0 hob ht (by omega) hths (by omega) hb ?_
        exact h3 _ (qe_end dk th ths kp sd off n c l e0 e eg (by rw [hG]) (by rw [hG]) (by kernel_rfl) (by kernel_rfl) (show (3 : Nat) ≤ 3 by decide))
    | false =>
      rw [show gstep ths (.p4 o t f k) (l.getD (Int.toNat k) 0) = at4 ths o (t + 1) f (k + 1) from if_neg (fun h => by rw [h] at hb; simp at hb)] at hG
      refine dc dk th ths kp sd f k o t 0 0 0 0 0 0 0 0 0 0 off n c l e0 e eg hl hn hk hk2 hf hf2 ho0 hob ht (by omega) hths (by omega) hb ?_
      exact ⟨_, _, by omega, rfl, .go (k + 1) (t + 1) (by omega) (by omega) (by omega) (by omega) hG⟩
  | ov k t AK AB AC AO AN ht ht2 hM hR =>
    by_cases hx : t = ths
    · refine dvx dk th ths kp sd f k o t 0 0 0 0 0 AK AB AC AO AN off n c l e0 e eg hx ?_
      refine ⟨fun _ => ?_, fun h => by cases h⟩
      exact h2 k t AK AB AC AO AN hM hR
    · refine dvc dk th ths kp sd f k o t 0 0 0 0 0 AK AB AC AO AN off n c l e0 e eg ho0 hob ht (by omega) hths ?_
      exact ⟨_, _, by omega, rfl, .ov k (t + 1) AK AB AC AO AN (by omega) (by omega) hM hR⟩
theorem part10 (dk th ths kp sd : Int) (off n c : Nat) (l : List Int) (e0 e eg : TypeId) (f o lk lg lw g k : Int) (hl : l.length = n) (hn : n ≤ 1000) (hf : 0 ≤ f) (hk : 0 ≤ k) (hk2 : k ≤ (n : Int)) (hfk : f + 1 ≤ k) (Q : Ex → St → Prop) (hgo : ∀ f2 k2 : Int, k < k2 → k2 ≤ (n : Int) → 0 ≤ f2 → f2 ≤ k2 → gst ths l = rest ths l k2 (.p1 f2 k2) → Q .normal (KSt.low (S6 f2 dk th ths kp sd e0 off n c k2 e l eg)))
    (hov : ∀ f k AK AB AC AO AN : Int, gMore dk (gst ths l) = [.int .i64 k, .bool true, .int .i64 AK, .int .u64 AB, .int .i64 AC, .int .u64 AO, .int .u64 AN] → gRes (gst ths l) = f → Q .normal (KSt.low (S3 f dk th ths kp sd e0 off n c k AK AB AC AO AN e l eg)))
    (hG : gst ths l = rest ths l k (.p10 o lk f k)) :
    Gets Tryd.prog (KH.low ⟨3, 1, [(0, 0, .cells [(.int .i64 1), (.int .i64 64), (.int .i64 1), (.int .i64 64)] e0 false), (1, 0, .cells [(.slice (some ⟨2, off, none⟩) n c), (.int .i64 0), (.bool false), (.int .i64 0), (.int .u64 0), (.int .i64 0), (.int .u64 0), (.int .u64 0)] e true), (2, 0, .tail off .u64 l eg)]⟩) (codeAt [1, 1, 0, 0, 0, 1, 0, 1, 1, 1, 1, 1, 1, 1, 1, 1, 1] B) (KSt.low (S86 f o lk lg g lw dk th ths kp sd e0 off n c k e l eg)) Q := by
  have hf2 : f ≤ 1000 := by omega
  by_cases hkn : k = (n : Int)
  · rw [rest_end (by omega)] at hG
    refine jn dk th ths kp sd f k o 0 lk lg lw g 0 0 0 0 0 0 off n c l e0 e eg hl hn hk hk2 hf hf2 hkn ?_
    exact hov _ k _ _ _ _ _ (by rw [hG]; rfl) (by rw [hG]; rfl)
  rw [rest_step hk (by omega)] at hG
  by_cases hkn2 : k + 1 = (n : Int)
  · rw [rest_end (by omega)] at hG
    refine jm dk th ths kp sd f k o 0 lk lg lw g 0 0 0 0 0 0 off n c l e0 e eg hl hn hk hk2 hf hf2 hkn2 ?_
    exact hov _ (k + 1) _ _ _ _ _ (by rw [hG]; rfl) (by rw [hG]; rfl)
  rw [rest_step (by omega) (by omega)] at hG
  refine jc dk th ths kp sd f k o 0 lk lg lw g 0 0 0 0 0 0 off n c l e0 e eg hl hn hk hk2 hf hf2 (by omega) ?_
  exact hgo (f + 1) (k + 2) (by omega) (by omega) (by omega) (by omega) (hG.trans (by rw [show k + 2 = k + 1 + 1 by omega]; rfl))
theorem part10o (dk th ths kp sd : Int) (off n c : Nat) (l : List Int) (e0 e eg : TypeId) (f o lk lg lw g k AK AB AC AO AN : Int) (hf : 0 ≤ f) (hf2 : f ≤ 1000) (Q : Ex → St → Prop)
    (hov : ∀ f k AK AB AC AO AN : Int, gMore dk (gst ths l) = [.int .i64 k, .bool true, .int .i64 AK, .int .u64 AB, .int .i64 AC, .int .u64 AO, .int .u64 AN] → gRes (gst ths l) = f → Q .normal (KSt.low (S3 f dk th ths kp sd e0 off n c k AK AB AC AO AN e l eg))) (hM : gMore dk (gst ths l) = [.int .i64 k, .bool true, .int .i64 AK, .int .u64 AB, .int .i64 AC, .int .u64 AO, .int .u64 AN]) (hR : gRes (gst ths l) = f + 1) :
    Gets Tryd.prog (KH.low ⟨3, 1, [(0, 0, .cells [(.int .i64 1), (.int .i64 64), (.int .i64 1), (.int .i64 64)] e0 false), (1, 0, .cells [(.slice (some ⟨2, off, none⟩) n c), (.int .i64 0), (.bool false), (.int .i64 0), (.int .u64 0), (.int .i64 0), (.int .u64 0), (.int .u64 0)] e true), (2, 0, .tail off .u64 l eg)]⟩) (codeAt [1, 1, 0, 0, 0, 1, 0, 1, 1, 1, 1, 1, 1, 1, 1, 1, 1] B) (KSt.low (S89 f o lk lg g lw dk th ths kp sd e0 off n c k AK AB AC AO AN e l eg)) Q := by
  refine jv dk th ths kp sd f k o 0 lk lg lw g 0 AK AB AC AO AN off n c l e0 e eg hf hf2 ?_
  exact hov _ k AK AB AC AO AN hM hR
theorem part4 (dk th ths kp sd : Int) (off n c : Nat) (l : List Int) (e0 e eg : TypeId) (f o lk lg lw k : Int) (hl : l.length = n) (hn : n ≤ 1000) (hf : 0 ≤ f) (hk : 0 ≤ k) (hk2 : k ≤ (n : Int)) (hfk : f + 1 ≤ k) (hlw : IntKind.wrap .i64 lg = lw) (Q : Ex → St → Prop) (hgo : ∀ f2 k2 : Int, k < k2 → k2 ≤ (n : Int) → 0 ≤ f2 → f2 ≤ k2 → gst ths l = rest ths l k2 (.p1 f2 k2) → Q .normal (KSt.low (S6 f2 dk th ths kp sd e0 off n c k2 e l eg)))
    (hov : ∀ f k AK AB AC AO AN : Int, gMore dk (gst ths l) = [.int .i64 k, .bool true, .int .i64 AK, .int .u64 AB, .int .i64 AC, .int .u64 AO, .int .u64 AN] → gRes (gst ths l) = f → Q .normal (KSt.low (S3 f dk th ths kp sd e0 off n c k AK AB AC AO AN e l eg)))
    (m : Nat) (s : KSt) (hI : (∃ g, s = (S84 f o lk lg g dk th ths kp sd e0 off n c k e l eg) ∧ m = (groupsV lw - g).toNat ∧ g = 0 ∧ gst ths l = rest ths l k (at8 o lk lw 0 f k)) ∨ (∃ g k AK AB AC AO AN, s = (S87 f o lk lg g dk th ths kp sd e0 off n c k AK AB AC AO AN e l eg) ∧ m = (groupsV lw - g).toNat ∧ g = 0 ∧ gMore dk (gst ths l) = [.int .i64 k, .bool true, .int .i64 AK, .int .u64 AB, .int .i64 AC, .int .u64 AO, .int .u64 AN] ∧ gRes (gst ths l) = f + 1)) :
    Gets Tryd.prog (KH.low ⟨3, 1, [(0, 0, .cells [(.int .i64 1), (.int .i64 64), (.int .i64 1), (.int .i64 64)] e0 false), (1, 0, .cells [(.slice (some ⟨2, off, none⟩) n c), (.int .i64 0), (.bool false), (.int .i64 0), (.int .u64 0), (.int .i64 0), (.int .u64 0), (.int .u64 0)] e true), (2, 0, .tail off .u64 l eg)]⟩) (codeAt [1, 1, 0, 0, 0, 1, 0, 1, 1, 1, 1, 1, 1, 1, 1, 1, 0, 1] B) s.low (onN (fun s => Gets Tryd.prog (KH.low ⟨3, 1, [(0, 0, .cells [(.int .i64 1), (.int .i64 64), (.int .i64 1), (.int .i64 64)] e0 false), (1, 0, .cells [(.slice (some ⟨2, off, none⟩) n c), (.int .i64 0), (.bool false), (.int .i64 0), (.int .u64 0), (.int .i64 0), (.int .u64 0), (.int .u64 0)] e true), (2, 0, .tail off .u64 l eg)]⟩) (codeAt [1, 1, 0, 0, 0, 1, 0, 1, 1, 1, 1, 1, 1, 1, 1, 1, 1] B) s Q) Q) := by
  have hf2 : f ≤ 1000 := by omega
  obtain ⟨b1, b2⟩ := groupsV_bounds lw
  refine loop4 dk th ths kp sd off n c l e0 e eg f o lk lg lw k hl hn hf hf2 hk hlw _ ?_ ?_ m s ?_
  · intro k2 g hk3 hk4 hG
    show Gets _ _ (codeAt [1, 1, 0, 0, 0, 1, 0, 1, 1, 1, 1, 1, 1, 1, 1, 1, 1] B) _ _
    exact part10 dk th ths kp sd off n c l e0 e eg f o lk lg lw g k2 hl hn hf (by omega) hk4 (by omega) Q (fun f2 k3 h => hgo f2 k3 (by omega)) hov hG
  · intro k2 g AK AB AC AO AN hM hR
    show Gets _ _ (codeAt [1, 1, 0, 0, 0, 1, 0, 1, 1, 1, 1, 1, 1, 1, 1, 1, 1] B) _ _
    exact part10o dk th ths kp sd off n c l e0 e eg f o lk lg lw g k2 AK AB AC AO AN hf hf2 Q hov hM hR
  · rcases hI with ⟨g, rfl, rfl, rfl, hG⟩ | ⟨g, k, AK, AB, AC, AO, AN, rfl, rfl, rfl, hM, hR⟩
    · exact .go k 0 (by omega) hk2 (by omega) (by omega) hG
    · exact .ov k 0 AK AB AC AO AN (by omega) (by omega) hM hR
theorem part7o (dk th ths kp sd : Int) (off n c : Nat) (l : List Int) (e0 e eg : TypeId) (f o k t AK AB AC AO AN k0 : Int) (hl : l.length = n) (hn : n ≤ 1000) (hf : 0 ≤ f) (hk0 : 0 ≤ k0) (hk02 : k0 ≤ (n : Int)) (hfk0 : f + 1 ≤ k0) (ho0 : o ≠ 0) (hob : blockR o ≠ 0) (Q : Ex → St → Prop) (hgo : ∀ f2 k2 : Int, k0 < k2 → k2 ≤ (n : Int) → 0 ≤ f2 → f2 ≤ k2 → gst ths l = rest ths l k2 (.p1 f2 k2) → Q .normal (KSt.low (S6 f2 dk th ths kp sd e0 off n c k2 e l eg)))
    (hov : ∀ f k AK AB AC AO AN : Int, gMore dk (gst ths l) = [.int .i64 k, .bool true, .int .i64 AK, .int .u64 AB, .int .i64 AC, .int .u64 AO, .int .u64 AN] → gRes (gst ths l) = f → Q .normal (KSt.low (S3 f dk th ths kp sd e0 off n c k AK AB AC AO AN e l eg)))
    (hM : gMore dk (gst ths l) = [.int .i64 k, .bool true, .int .i64 AK, .int .u64 AB, .int .i64 AC, .int .u64 AO, .int .u64 AN]) (hR : gRes (gst ths l) = f + 1) :
    Gets Tryd.prog (KH.low ⟨3, 1, [(0, 0, .cells [(.int .i64 1), (.int .i64 64), (.int .i64 1), (.int .i64 64)] e0 false), (1, 0, .cells [(.slice (some ⟨2, off, none⟩) n c), (.int .i64 0), (.bool false), (.int .i64 0), (.int .u64 0), (.int .i64 0), (.int .u64 0), (.int .u64 0)] e true), (2, 0, .tail off .u64 l eg)]⟩) (codeAt [1, 1, 0, 0, 0, 1, 0, 1, 1, 1, 1, 1, 1] B) (KSt.low (S52 f o t ths dk th kp sd e0 off n c k AK AB AC AO AN e l eg)) Q := by
  have hf2 : f ≤ 1000 := by omega
  refine ev dk th ths kp sd f k o t 0 0 0 0 0 AK AB AC AO AN off n c l e0 e eg ho0 hob ?_
  exact part4 dk th ths kp sd off n c l e0 e eg f o 0 0 0 k0 hl hn hf hk0 hk02 hfk0 (by decide) Q hgo hov _ _ (.inr ⟨0, k, AK, AB, AC, AO, AN, rfl, rfl, rfl, hM, hR⟩)
theorem part7 (dk th ths kp sd : Int) (off n c : Nat) (l : List Int) (e0 e eg : TypeId) (f o k t : Int) (hl : l.length = n) (hn : n ≤ 1000) (hf : 0 ≤ f) (hk : 0 ≤ k) (hk2 : k ≤ (n : Int)) (hfk : f + 1 ≤ k) (ho0 : o ≠ 0) (hob : blockR o ≠ 0) (Q : Ex → St → Prop) (hgo : ∀ f2 k2 : Int, k < k2 → k2 ≤ (n : Int) → 0 ≤ f2 → f2 ≤ k2 → gst ths l = rest ths l k2 (.p1 f2 k2) → Q .normal (KSt.low (S6 f2 dk th ths kp sd e0 off n c k2 e l eg)))
    (hov : ∀ f k AK AB AC AO AN : Int, gMore dk (gst ths l) = [.int .i64 k, .bool true, .int .i64 AK, .int .u64 AB, .int .i64 AC, .int .u64 AO, .int .u64 AN] → gRes (gst ths l) = f → Q .normal (KSt.low (S3 f dk th ths kp sd e0 off n c k AK AB AC AO AN e l eg)))
    (h3 : ∀ s, QE dk th ths kp sd off n c l e0 e eg .ret s → Q .ret s) (hG : gst ths l = rest ths l k (.p6 o f k)) :
    Gets Tryd.prog (KH.low ⟨3, 1, [(0, 0, .cells [(.int .i64 1), (.int .i64 64), (.int .i64 1), (.int .i64 64)] e0 false), (1, 0, .cells [(.slice (some ⟨2, off, none⟩) n c), (.int .i64 0), (.bool false), (.int .i64 0), (.int .u64 0), (.int .i64 0), (.int .u64 0), (.int .u64 0)] e true), (2, 0, .tail off .u64 l eg)]⟩) (codeAt [1, 1, 0, 0, 0, 1, 0, 1, 1, 1, 1, 1, 1] B) (KSt.low (S35 f o t ths dk th kp sd e0 off n c k e l eg)) Q := by
  have hf2 : f ≤ 1000 := by omega
  by_cases hkn : k = (n : Int)
  · rw [rest_end (by omega)] at hG
    refine en dk th ths kp sd f k o t 0 0 0 0 0 0 0 0 0 0 off n c l e0 e eg hl hn hk hk2 hf hf2 ho0 hob hkn ?_
    exact part4 dk th ths kp sd off n c l e0 e eg f o 0 0 0 k hl hn hf hk hk2 hfk (by decide) Q hgo hov _ _ (.inr ⟨0, k, _, _, _, _, _, rfl, rfl, rfl, by rw [hG]; rfl, by rw [hG]; rfl⟩)
  rw [rest_step hk (by omega)] at hG
  by_cases hkn2 : k + 1 = (n : Int)
  · rw [rest_end (by omega)] at hG
    refine em dk th ths kp sd f k o t 0 0 0 0 0 0 0 0 0 0 off n c l e0 e eg hl hn hk hk2 hf hf2 ho0 hob hkn2 ?_
    exact part4 dk th ths kp sd off n c l e0 e eg f o _ 0 0 k hl hn hf hk hk2 hfk (by decide) Q hgo hov _ _ (.inr ⟨0, k + 1, _, _, _, _, _, rfl, rfl, rfl, by rw [hG]; rfl, by rw [hG]; rfl⟩)
  rw [rest_step (by omega) (by omega)] at hG
  by_cases hg9 : 9 < (l.getD (Int.toNat (k + 1)) 0)
  · rw [show gstep ths (gstep ths (.p6 o f k) (l.getD (Int.toNat k) 0)) (l.getD (Int.toNat (k + 1)) 0) = .p5 o f (k + 1 + 1) from if_pos hg9] at hG
    by_cases hkn3 : k + 2 = (n : Int)
    · rw [rest_end (by omega)] at hG
      refine e91 dk th ths kp sd f k o t 0 0 0 0 0 0 0 0 0 0 off n c l e0 e eg hl hn hk hk2 hf hf2 ho0 hob hkn3 hg9 ?_
      rw [show k + 1 + 1 = k + 2 by omega] at hG
      exact h3 _ (qe_end dk th ths kp sd off n c l e0 e eg (by rw [hG]) (by rw [hG]) (by kernel_rfl) (by kernel_rfl) (show (3 : Nat) ≤ 3 by decide))
    · rw [rest_step (by omega) (by omega)] at hG
      have hG : gst ths l = .p12 f (k + 1 + 1 + 1) := hG.trans (rest_12 _ _ _ _ _)
      rw [show k + 1 + 1 + 1 = k + 3 by omega] at hG
      refine e92 dk th ths kp sd f k o t 0 0 0 0 0 0 0 0 0 0 off n c l e0 e eg hl hn hk hk2 hf hf2 ho0 hob (by omega) hg9 ?_
      exact h3 _ (qe_end dk th ths kp sd off n c l e0 e eg (by rw [hG]) (by rw [hG]) (by kernel_rfl) (by kernel_rfl) (show (3 : Nat) ≤ 3 by decide))
  · rw [show gstep ths (gstep ths (.p6 o f k) (l.getD (Int.toNat k) 0)) (l.getD (Int.toNat (k + 1)) 0) = at8 o (l.getD (Int.toNat k) 0) (IntKind.wrap .i64 (l.getD (Int.toNat (k + 1)) 0)) 0 f (k + 1 + 1) from if_neg hg9] at hG
    refine ec dk th ths kp sd f k o t 0 0 0 0 0 0 0 0 0 0 off n c l e0 e eg hl hn hk hk2 hf hf2 ho0 hob (by omega) (by omega) ?_
    exact part4 dk th ths kp sd off n c l e0 e eg f o (l.getD (Int.toNat k) 0) (l.getD (Int.toNat (k + 1)) 0) (IntKind.wrap .i64 (l.getD (Int.toNat (k + 1)) 0)) (k + 2) hl hn hf (by omega) (by omega) (by omega) rfl Q (fun f2 k3 h => hgo f2 k3 (by omega)) hov _ _ (.inl ⟨0, rfl, rfl, rfl, hG.trans (by rw [show k + 1 + 1 = k + 2 by omega])⟩)
theorem part3b (dk th ths kp sd : Int) (off n c : Nat) (l : List Int) (e0 e eg : TypeId) (f o k : Int) (hths : ths ≤ 64) (hths1 : 0 < ths) (hl : l.length = n) (hn : n ≤ 1000) (hf : 0 ≤ f) (hk : 0 ≤ k) (hk2 : k ≤ (n : Int)) (hfk : f + 1 ≤ k) (ho0 : o ≠ 0) (hob : blockR o ≠ 0) (Q : Ex → St → Prop) (hgo : ∀ f2 k2 : Int, k < k2 → k2 ≤ (n : Int) → 0 ≤ f2 → f2 ≤ k2 → gst ths l = rest ths l k2 (.p1 f2 k2) → Q .normal (KSt.low (S6 f2 dk th ths kp sd e0 off n c k2 e l eg)))
    (hov : ∀ f k AK AB AC AO AN : Int, gMore dk (gst ths l) = [.int .i64 k, .bool true, .int .i64 AK, .int .u64 AB, .int .i64 AC, .int .u64 AO, .int .u64 AN] → gRes (gst ths l) = f → Q .normal (KSt.low (S3 f dk th ths kp sd e0 off n c k AK AB AC AO AN e l eg)))
    (h3 : ∀ s, QE dk th ths kp sd off n c l e0 e eg .ret s → Q .ret s) (hG : gst ths l = rest ths l k (.p3 o f k)) :
    Gets Tryd.prog (KH.low ⟨3, 1, [(0, 0, .cells [(.int .i64 1), (.int .i64 64), (.int .i64 1), (.int .i64 64)] e0 false), (1, 0, .cells [(.slice (some ⟨2, off, none⟩) n c), (.int .i64 0), (.bool false), (.int .i64 0), (.int .u64 0), (.int .i64 0), (.int .u64 0), (.int .u64 0)] e true), (2, 0, .tail off .u64 l eg)]⟩) (codeAt [1, 1, 0, 0, 0, 1, 0, 1, 1, 1, 1] B) (KSt.low (S19 f o dk th ths kp sd e0 off n c k e l eg)) Q := by
  have hf2 : f ≤ 1000 := by omega
  by_cases hkn : k = (n : Int)
  · rw [rest_end (by omega)] at hG
    refine cn dk th ths kp sd f k o 0 0 0 0 0 0 0 0 0 0 0 off n c l e0 e eg hl hn hk hk2 hf hf2 ho0 hob hkn ?_
    exact h3 _ (qe_end dk th ths kp sd off n c l e0 e eg (by rw [hG]) (by rw [hG]) (by kernel_rfl) (by kernel_rfl) (show (3 : Nat) ≤ 3 by decide))
  rw [rest_step hk (by omega)] at hG
  cases hb : ((l.getD (Int.toNat k) 0) != o) with
  | true =>
    rw [show gstep ths (.p3 o f k) (l.getD (Int.toNat k) 0) = .p12 f (k + 1) from if_pos (by simpa using hb), rest_12] at hG
    refine cr dk th ths kp sd f k o 0 0 0 0 0 0 0 0 0 0 0 off n c l e0 e eg hl hn hk hk2 hf hf2 ho0 hob (by omega) hb ?_
    exact h3 _ (qe_end dk th ths kp sd off n c l e0 e eg (by rw [hG]) (by rw [hG]) (by kernel_rfl) (by kernel_rfl) (show (3 : Nat) ≤ 3 by decide))
  | false =>
  rw [show gstep ths (.p3 o f k) (l.getD (Int.toNat k) 0) = at4 ths o 0 f (k + 1) from if_neg (by simpa using hb)] at hG
  refine cc dk th ths kp sd f k o 0 0 0 0 0 0 0 0 0 0 0 off n c l e0 e eg hl hn hk hk2 hf hf2 ho0 hob (by omega) hb ?_
  refine loop2 dk th ths kp sd off n c l e0 e eg f o (k + 1) hl hn hf hf2 (by omega) hths ho0 hob _ ?_ ?_ ?_ _ _ (.go (k + 1) 0 (by omega) (by omega) (by omega) (by omega) hG)
  · intro k2 t hkk hk4 hG
    show Gets _ _ (codeAt [1, 1, 0, 0, 0, 1, 0, 1, 1, 1, 1, 1, 1] B) _ _
    exact part7 dk th ths kp sd off n c l e0 e eg f o k2 t hl hn hf (by omega) hk4 (by omega) ho0 hob Q (fun f2 k3 h => hgo f2 k3 (by omega)) hov h3 hG
  · intro k2 t AK AB AC AO AN hM hR
    show Gets _ _ (codeAt [1, 1, 0, 0, 0, 1, 0, 1, 1, 1, 1, 1, 1] B) _ _
    exact part7o dk th ths kp sd off n c l e0 e eg f o k2 t AK AB AC AO AN k hl hn hf hk hk2 hfk ho0 hob Q hgo hov hM hR
  · exact h3
theorem part3 (dk th ths kp sd : Int) (off n c : Nat) (l : List Int) (e0 e eg : TypeId) (f o k : Int) (hths : ths ≤ 64) (hths1 : 0 < ths) (hl : l.length = n) (hn : n ≤ 1000) (hf : 0 ≤ f) (hk : 0 ≤ k) (hk2 : k ≤ (n : Int)) (hfk : f + 1 ≤ k) (ho0 : o ≠ 0) (hob : blockR o ≠ 0) (Q : Ex → St → Prop) (hgo : ∀ f2 k2 : Int, k < k2 → k2 ≤ (n : Int) → 0 ≤ f2 → f2 ≤ k2 → gst ths l = rest ths l k2 (.p1 f2 k2) → Q .normal (KSt.low (S6 f2 dk th ths kp sd e0 off n c k2 e l eg)))
    (hov : ∀ f k AK AB AC AO AN : Int, gMore dk (gst ths l) = [.int .i64 k, .bool true, .int .i64 AK, .int .u64 AB, .int .i64 AC, .int .u64 AO, .int .u64 AN] → gRes (gst ths l) = f → Q .normal (KSt.low (S3 f dk th ths kp sd e0 off n c k AK AB AC AO AN e l eg)))
    (h3 : ∀ s, QE dk th ths kp sd off n c l e0 e eg .ret s → Q .ret s) (hG : gst ths l = rest ths l k (.p2 o f k)) :
    Gets Tryd.prog (KH.low ⟨3, 1, [(0, 0, .cells [(.int .i64 1), (.int .i64 64), (.int .i64 1), (.int .i64 64)] e0 false), (1, 0, .cells [(.slice (some ⟨2, off, none⟩) n c), (.int .i64 0), (.bool false), (.int .i64 0), (.int .u64 0), (.int .i64 0), (.int .u64 0), (.int .u64 0)] e true), (2, 0, .tail off .u64 l eg)]⟩) (codeAt [1, 1, 0, 0, 0, 1, 0, 1, 1, 1] B) (KSt.low (S19 f o dk th ths kp sd e0 off n c k e l eg)) Q := by
  have hf2 : f ≤ 1000 := by omega
  by_cases hkn : k = (n : Int)
  · rw [rest_end (by omega)] at hG
    refine bn dk th ths kp sd f k o 0 0 0 0 0 0 0 0 0 0 0 off n c l e0 e eg hl hn hk hk2 hf hf2 ho0 hob hkn ?_
    exact h3 _ (qe_end dk th ths kp sd off n c l e0 e eg (by rw [hG]) (by rw [hG]) (by kernel_rfl) (by kernel_rfl) (show (3 : Nat) ≤ 3 by decide))
  rw [rest_step hk (by omega)] at hG
  cases hb : ((l.getD (Int.toNat k) 0) == (blockR o)) with
  | true =>
    rw [show gstep ths (.p2 o f k) (l.getD (Int.toNat k) 0) = .p12 f (k + 1) from if_pos (eq_of_beq hb), rest_12] at hG
    refine br dk th ths kp sd f k o 0 0 0 0 0 0 0 0 0 0 0 off n c l e0 e eg hl hn hk hk2 hf hf2 ho0 hob (by omega) hb ?_
    exact h3 _ (qe_end dk th ths kp sd off n c l e0 e eg (by rw [hG]) (by rw [hG]) (by kernel_rfl) (by kernel_rfl) (show (3 : Nat) ≤ 3 by decide))
  | false =>
  rw [show gstep ths (.p2 o f k) (l.getD (Int.toNat k) 0) = .p3 o f (k + 1) from if_neg (fun h => by rw [h] at hb; simp at hb)] at hG
  refine bc dk th ths kp sd f k o 0 0 0 0 0 0 0 0 0 0 0 off n c l e0 e eg hl hn hk hk2 hf hf2 ho0 hob (by omega) hb ?_
  exact part3b dk th ths kp sd off n c l e0 e eg f o (k + 1) hths hths1 hl hn hf (by omega) (by omega) (by omega) ho0 hob Q (fun f2 k3 h => hgo f2 k3 (by omega)) hov h3 hG
inductive Inv0 (dk th ths kp sd : Int) (off n c : Nat) (l : List Int) (e0 e eg : TypeId) : Nat → KSt → Prop
  | go (k f : Int) (hk : 0 ≤ k) (hk2 : k ≤ (n : Int)) (hf : 0 ≤ f) (hfk : f ≤ k) (hG : gst ths l = rest ths l k (.p1 f k)) : Inv0 dk th ths kp sd off n c l e0 e eg (((n : Int) - k).toNat + 1) (S6 f dk th ths kp sd e0 off n c k e l eg)
  | ov (k f AK AB AC AO AN : Int) (hM : gMore dk (gst ths l) = [.int .i64 k, .bool true, .int .i64 AK, .int .u64 AB, .int .i64 AC, .int .u64 AO, .int .u64 AN]) (hR : gRes (gst ths l) = f) : Inv0 dk th ths kp sd off n c l e0 e eg 0 (S3 f dk th ths kp sd e0 off n c k AK AB AC AO AN e l eg)
theorem loop0 (dk th ths kp sd : Int) (off n c : Nat) (l : List Int) (e0 e eg : TypeId) (hl : l.length = n) (hn : n ≤ 1000) (hths : ths ≤ 64) (hths1 : 0 < ths) (m : Nat) (s : KSt) (hI : Inv0 dk th ths kp sd off n c l e0 e eg m s) :
    Gets Tryd.prog (KH.low ⟨3, 1, [(0, 0, .cells [(.int .i64 1), (.int .i64 64), (.int .i64 1), (.int .i64 64)] e0 false), (1, 0, .cells [(.slice (some ⟨2, off, none⟩) n c), (.int .i64 0), (.bool false), (.int .i64 0), (.int .u64 0), (.int .i64 0), (.int .u64 0), (.int .u64 0)] e true), (2, 0, .tail off .u64 l eg)]⟩) (codeAt [1, 1, 0] B) s.low (onN (fun s => Gets Tryd.prog (KH.low ⟨3, 1, [(0, 0, .cells [(.int .i64 1), (.int .i64 64), (.int .i64 1), (.int .i64 64)] e0 false), (1, 0, .cells [(.slice (some ⟨2, off, none⟩) n c), (.int .i64 0), (.bool false), (.int .i64 0), (.int .u64 0), (.int .i64 0), (.int .u64 0), (.int .u64 0)] e true), (2, 0, .tail off .u64 l eg)]⟩) (codeAt [1, 1, 1] B) s ((QE dk th ths kp sd off n c l e0 e eg))) ((QE dk th ths kp sd off n c l e0 e eg))) := by
  rw [C1_1_0, C1_1_0_0]
  refine Gets.loopG (fun m s => Inv0 dk th ths kp sd off n c l e0 e eg m s) ?_ _ _ hI
  clear hI m s
  intro m s hI
  cases hI with
  | ov k f AK AB AC AO AN hM hR =>
    refine xo dk th ths kp sd f k 0 0 0 0 0 0 0 AK AB AC AO AN off n c l e0 e eg ?_
    refine ⟨fun _ => ?_, fun h => by cases h⟩
    exact fo dk th ths kp sd f k 0 0 0 0 0 0 0 AK AB AC AO AN off n c l e0 e eg (qe_end dk th ths kp sd off n c l e0 e eg (hM) (hR) (by kernel_rfl) (by kernel_rfl) (show (3 : Nat) ≤ 3 by decide))
  | go k f hk hk2 hf hfk hG =>
    have hf2 : f ≤ 1000 := by omega
    by_cases hkn : k = (n : Int)
    · rw [rest_end (by omega)] at hG
      refine an dk th ths kp sd f k 0 0 0 0 0 0 0 0 0 0 0 0 off n c l e0 e eg hl hn hk hk2 hf hf2 hkn ?_
      exact qe_end dk th ths kp sd off n c l e0 e eg (by rw [hG]) (by rw [hG]) (by kernel_rfl) (by kernel_rfl) (show (3 : Nat) ≤ 3 by decide)
    rw [rest_step hk (by omega)] at hG
    cases hm : ((markR (l.getD (Int.toNat k) 0)) != 0) with
    | true =>
      rw [show gstep ths (.p1 f k) (l.getD (Int.toNat k) 0) = .p12 f (k + 1) from if_pos (.inl (by simpa using hm)), rest_12] at hG
      refine am dk th ths kp sd f k 0 0 0 0 0 0 0 0 0 0 0 0 off n c l e0 e eg hl hn hk hk2 hf hf2 (by omega) hm ?_
      exact qe_end dk th ths kp sd off n c l e0 e eg (by rw [hG]) (by rw [hG]) (by kernel_rfl) (by kernel_rfl) (show (3 : Nat) ≤ 3 by decide)
    | false =>
    cases hb : ((blockR (l.getD (Int.toNat k) 0)) == 0) with
    | true =>
      rw [show gstep ths (.p1 f k) (l.getD (Int.toNat k) 0) = .p12 f (k + 1) from if_pos (.inr (eq_of_beq hb)), rest_12] at hG
      refine ab dk th ths kp sd f k 0 0 0 0 0 0 0 0 0 0 0 0 off n c l e0 e eg hl hn hk hk2 hf hf2 (by omega) hm hb ?_
      exact qe_end dk th ths kp sd off n c l e0 e eg (by rw [hG]) (by rw [hG]) (by kernel_rfl) (by kernel_rfl) (show (3 : Nat) ≤ 3 by decide)
    | false =>
    have hob : blockR (l.getD (Int.toNat k) 0) ≠ 0 := fun h => by rw [h] at hb; simp at hb
    have hmz : markR (l.getD (Int.toNat k) 0) = 0 := by simpa using hm
    have ho0 : (l.getD (Int.toNat k) 0) ≠ 0 := fun h => by rw [h] at hob; exact hob (by decide)
    refine ac dk th ths kp sd f k 0 0 0 0 0 0 0 0 0 0 0 0 off n c l e0 e eg hl hn hk hk2 hf hf2 (by omega) hm hb ?_
    rw [show gstep ths (.p1 f k) (l.getD (Int.toNat k) 0) = .p2 (l.getD (Int.toNat k) 0) f (k + 1) from if_neg (fun h => h.elim (fun h => h hmz) hob)] at hG
    refine part3 dk th ths kp sd off n c l e0 e eg f (l.getD (Int.toNat k) 0) (k + 1) hths hths1 hl hn hf (by omega) (by omega) (by omega) ho0 hob _ ?_ ?_ ?_ hG
    · intro f2 k2 h h1 h2 h3 hG
      exact ⟨_, _, by omega, rfl, .go k2 f2 (by omega) h1 h2 h3 hG⟩
    · intro f2 k2 AK AB AC AO AN hM hR
      exact ⟨_, _, by omega, rfl, .ov k2 f2 AK AB AC AO AN hM hR⟩
    · intro s h
      exact h
theorem does (dk th ths kp sd : Int) (off n c : Nat) (l : List Int) (e0 e eg : TypeId) (hl : l.length = n) (hn : n ≤ 1000) (hths : ths ≤ 64) (hths1 : 0 < ths) :
    DoesC Tryd.prog 10 [.pointer (some ⟨1, 0, none⟩), .agg #[.int .u64 dk, .int .i64 th, .int .i64 ths, .int .i64 kp, .int .u64 sd]] (MHs off n c l e0 e eg gZero).low (.int .i64 (gRes (gst ths l))) (effK (MHs off n c l e0 e eg gZero) [(1, tapeBlkV off n c (gMore dk (gst ths l)) e)] []).low := by
  refine Gets.does Tryd.func10 B_is (by rw [oneVar]; exact (show (1 : Nat) ≤ 3 by decide)) ?_
  show Gets Tryd.prog (KH.low ⟨3, 1, [(0, 0, .cells [(.int .i64 1), (.int .i64 64), (.int .i64 1), (.int .i64 64)] e0 false), (1, 0, .cells [(.slice (some ⟨2, off, none⟩) n c), (.int .i64 0), (.bool false), (.int .i64 0), (.int .u64 0), (.int .i64 0), (.int .u64 0), (.int .u64 0)] e true), (2, 0, .tail off .u64 l eg)]⟩) B (KSt.low (S0 dk th ths kp sd e0 off n c e l eg)) (QE dk th ths kp sd off n c l e0 e eg)
  refine pre dk th ths kp sd 0 0 0 0 0 0 0 0 0 0 0 0 0 0 off n c l e0 e eg ?_
  exact loop0 dk th ths kp sd off n c l e0 e eg hl hn hths hths1 _ _ (.go 0 0 (by omega) (by omega) (by omega) (by omega) (by rfl))

end Go.Proofs.YtomcbblcipnabaaDoor.sweepRef
