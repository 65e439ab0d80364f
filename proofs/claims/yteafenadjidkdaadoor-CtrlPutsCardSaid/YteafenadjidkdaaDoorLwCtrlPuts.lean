/- Whatever the word, the place and the claim: CtrlPuts answers true. -/
import Derived.Test.YteafenadjidkdaaDoorCards
import Derived.Test.YteafenadjidkdaaDoorTie
import Derived.Test.YteafenadjidkdaaDoorKeepsP
import Derived.Test.YteafenadjidkdaaDoorPuts
import Derived.WalkKit
import Derived.ProofKit
import Derived.OpenShut
import Derived.ChangeOld
import Derived.Below
import Derived.SizedLaws
namespace Go.Proofs.YteafenadjidkdaaDoor.ctrlPuts
open Go.Eng
open Go.ChangeShapes Go.WideShapes Go.ChangeAt Go.RowKit
set_option linter.unusedVariables false
set_option linter.unusedSimpArgs false
set_option maxRecDepth 100000
open Go.Proofs.YteafenadjidkdaaDoor.ctrls (word class_eq classA classR claimA claimR sealA threeE threeDom three_ok three_fn)
open Go.Proofs.YteafenadjidkdaaDoor.claimed (clL clNone clL_len claimedE claimedK claimed_tells claimed_ok claimed_fn)
open Go.Proofs.YteafenadjidkdaaDoor.keeps (len8 bytes_cat byte_with seal_word seal_byte)
open Go.Proofs.YteafenadjidkdaaDoor.news (plL rcL rcE rc_ok rc_fnok)
open Go.Proofs.YteafenadjidkdaaDoor.puts (fillRL fillRV fillR_told intsE intsK ints_tells ints_ok ints_fnok)
theorem claim_eq {w i c : Int} (hw : word w) : claimA w i c = claimR w i c := by
  unfold claimA claimR
  rw [byteV_eq hw, withV_eq hw]
  by_cases h1 : c ≥ 128
  · rw [condT (decide_eq_true h1), condF (decide_eq_false (show ¬ c < 128 by omega))]
    by_cases h2 : c ≤ 255
    · rw [decide_eq_true h2, condF (decide_eq_false (show ¬ c > 255 by omega))]
      rfl
    · rw [decide_eq_false h2, condT (decide_eq_true (show c > 255 by omega))]
      rfl
  · rw [condF (decide_eq_false h1), condT (decide_eq_true (show c < 128 by omega))]
theorem rc_cl {w : Int} (hw : word w) : ∀ k, rcL w k = clL w k
  | 0 => rfl
  | k + 1 => by
    show rcL w k ++ (if byteRV w (k : Int) ≥ 128 then [(k : Int)] else []) = clL w k ++ (if byteV w (k : Int) < 128 then [] else [(k : Int)])
    rw [rc_cl hw k, byteV_eq hw]
    by_cases h : byteV w (k : Int) < 128
    · rw [if_neg (by omega), if_pos h]
    · rw [if_pos (by omega), if_neg h]
theorem word_with {x k c : Int} (hx : word x) : word (withRV x k c) := by
  rw [withV_eq hx]
  obtain ⟨n, rfl⟩ := Int.eq_ofNat_of_zero_le hx.1
  have hn : n < 18446744073709551616 := by have := hx.2; omega
  by_cases h : (0 ≤ k ∧ k ≤ 7) ∧ (0 ≤ c ∧ c ≤ 255)
  · obtain ⟨j, rfl⟩ := Int.eq_ofNat_of_zero_le h.1.1
    obtain ⟨m, rfl⟩ := Int.eq_ofNat_of_zero_le h.2.1
    have hb := bys_set (bys_bytes8 n) j m (by omega)
    have hlt := cat_lt hb
    rw [List.length_set, len8] at hlt
    have hlt : cat ((bytes8 n).set j m) < 18446744073709551616 := hlt
    rw [with_cat hn (by omega) (by omega)]
    exact ⟨Int.natCast_nonneg _, by omega⟩
  · have : withV (n : Int) k c = n := by unfold withV; rw [if_neg h]
    rw [this]; exact hx
theorem fillRL_word {c : Int} : ∀ (l : List Int) {x : Int}, word x → word (fillRL c x l)
  | [], _, hx => hx
  | k :: r, _, hx => fillRL_word r (word_with (k := k) (c := c) hx)
theorem fillRL_byte {c : Int} (hc : 0 ≤ c ∧ c ≤ 255) : ∀ (l : List Int) {x k : Int}, word x → (0 ≤ k ∧ k ≤ 7) → byteV (fillRL c x l) k = if k ∈ l then c else byteV x k
  | [], x, k, _, _ => by rw [if_neg (by simp)]; rfl
  | j :: r, x, k, hx, hk => by
    show byteV (fillRL c (withRV x j c) r) k = _
    rw [fillRL_byte hc r (word_with hx) hk, withV_eq hx, byte_with hx j c hk]
    by_cases h1 : k ∈ r
    · rw [if_pos h1, if_pos (List.mem_cons_of_mem _ h1)]
    · rw [if_neg h1]
      by_cases h2 : k = j
      · rw [if_pos ⟨h2, hc⟩, if_pos (by rw [h2]; exact List.mem_cons_self)]
      · rw [if_neg (fun q => h2 q.1), if_neg (fun q => (List.mem_cons.1 q).elim h2 h1)]
theorem mem_pl {w b k : Int} : ∀ m : Nat, k ∈ plL w b m ↔ (0 ≤ k ∧ k < (m : Int)) ∧ byteRV w k = b
  | 0 => by
    constructor
    · intro h; cases h
    · rintro ⟨⟨h1, h2⟩, _⟩; omega
  | m + 1 => by
    show k ∈ plL w b m ++ (if byteRV w (m : Int) = b then [(m : Int)] else []) ↔ _
    rw [List.mem_append, mem_pl m]
    constructor
    · rintro (⟨h, h2⟩ | h)
      · exact ⟨⟨h.1, by omega⟩, h2⟩
      · split at h
        · rename_i hb
          rw [List.mem_singleton] at h
          subst h
          exact ⟨⟨by omega, by omega⟩, hb⟩
        · cases h
    · rintro ⟨⟨h1, h2⟩, h3⟩
      by_cases h : k = (m : Int)
      · right
        subst h
        rw [if_pos h3]; exact List.mem_singleton.2 rfl
      · left; exact ⟨⟨h1, by omega⟩, h3⟩
theorem word_ext {u v : Int} (hu : word u) (hv : word v) (h : ∀ k : Int, 0 ≤ k ∧ k ≤ 7 → byteV u k = byteV v k) : u = v := by
  obtain ⟨n, rfl⟩ := Int.eq_ofNat_of_zero_le hu.1
  obtain ⟨m, rfl⟩ := Int.eq_ofNat_of_zero_le hv.1
  have hn : n < 18446744073709551616 := by have := hu.2; omega
  have hm : m < 18446744073709551616 := by have := hv.2; omega
  have e : bytes8 n = bytes8 m := by
    apply List.ext_getElem (by rw [len8, len8])
    intro j h1 h2
    rw [len8] at h1
    have := h (j : Int) ⟨by omega, by omega⟩
    rw [byteV_get n j h1, byteV_get m j h1, List.getD_eq_getElem?_getD, List.getD_eq_getElem?_getD, List.getElem?_eq_getElem (by rw [len8]; exact h1), List.getElem?_eq_getElem (by rw [len8]; exact h1)] at this
    have h5 : (((bytes8 n)[j] : Nat) : Int) = (((bytes8 m)[j] : Nat) : Int) := this
    omega
  rw [← cat_bytes8 hn, ← cat_bytes8 hm, e]
theorem seal_eq {w : Int} (hw : word w) : sealA w = fillRV w 0 1 := by
  refine word_ext (seal_word hw) (fillRL_word _ hw) fun k hk => ?_
  unfold fillRV
  rw [fillRL_byte ⟨by omega, by omega⟩ _ hw hk, seal_byte hw hk]
  by_cases h : byteV w k = 0
  · rw [if_pos h, if_pos ((mem_pl 8).2 ⟨⟨hk.1, by omega⟩, by rw [byteV_eq hw]; exact h⟩)]
  · rw [if_neg h, if_neg (fun q => h (by have := ((mem_pl 8).1 q).2; rw [byteV_eq hw] at this; exact this))]
def same3 (A B : List Int) (n m : Nat) : Bool := Nat.beq n m && (decide (List.take n (List.drop 0 A) = List.take m (List.drop 0 B)) && Nat.ble n 1000)
theorem same3_t {A B : List Int} (h : B = A) (h8 : A.length ≤ 8) : same3 A B A.length B.length = true := by
  subst h
  unfold same3
  rw [Bool.and_eq_true, Bool.and_eq_true]
  exact ⟨Nat.beq_refl _, decide_eq_true rfl, Nat.ble_eq_true_of_le (by omega)⟩
def fillcE : ConE := fun acc f args => match f, args with
  | 22, [.int .u64 w, .int .i64 b, .int .i64 c] => (match acc.cells 0 with
    | some (cs, e, false) => (match isTz tz cs with
      | true => some ⟨[0], [.int .u64 w, .int .i64 b, .int .i64 c], [.cells cs e false], .int .u64 (fillRV w b c), [], []⟩
      | false => none)
    | _ => none)
  | _, _ => none
theorem fillc_ok : ∀ (h : AH) (f : FuncId) (args : List Value) (c : Con), fillcE (accA h) f args = some c → ConOk Tryd.prog f args h c := by
  intro h f args c hE
  unfold fillcE at hE
  split at hE
  · split at hE
    · rename_i cs e hc
      split at hE
      · rename_i hz
        have hcs := isTz_eq hz
        subst hcs
        have hc0 : h.get 0 = some (.cells (intCells .u8 tz) e false) := by
          have hc : cellsA h 0 = _ := hc
          unfold cellsA at hc
          split at hc
          · rename_i hq; cases hc; exact hq
          · cases hc
        cases hE
        exact ConOk.var oneVar rfl rfl (fillR_told _ _ _ _) h hc0
      · cases hE
    · cases hE
  · cases hE
def sixE : ConE := orE threeDom threeE (orE [22] fillcE (orE [33] rcE (orE [32] claimedE intsE)))
def sixK {β : Type} : ConEK β := orK threeDom (plainK threeE) (orK [22] (plainK fillcE) (orK [33] (plainK rcE) (orK [32] claimedK intsK)))
def sixDom : List FuncId := [22, 33, 32, 16] ++ threeDom
theorem six_agree {β : Type} : AgreeT (conC sixDom sixE) (conTk (β := β) sixDom sixK) := conTk_agree (orK_tells (plainK_tells _) (orK_tells (plainK_tells _) (orK_tells (plainK_tells _) (orK_tells claimed_tells ints_tells))))
theorem six_sound : SoundC Tryd.prog (conC sixDom sixE) := by
  refine SoundC.con ?_ ?_
  · intro f hf
    rcases List.mem_append.1 hf with hf | hf
    · simp only [List.mem_cons, List.not_mem_nil, or_false] at hf
      rcases hf with rfl | rfl | rfl | rfl
      · exact Go.Proofs.YteafenadjidkdaaDoor.puts.fitT.fnOk _ (by
          have h0 : Go.Proofs.YteafenadjidkdaaDoor.puts.fsT.contains 22 = true := by kernel_rfl
          simpa using h0)
      · exact rc_fnok
      · exact claimed_fn
      · exact ints_fnok
    · exact three_fn f hf
  · intro h f args c hm hE
    unfold sixE orE at hE
    cases hd : threeDom.contains f with
    | true => rw [hd] at hE; exact three_ok h f args c hE
    | false =>
      rw [hd] at hE
      simp only at hE
      cases hd2 : ([22] : List FuncId).contains f with
      | true => rw [hd2] at hE; exact fillc_ok h f args c hE
      | false =>
        rw [hd2] at hE
        simp only at hE
        cases hd3 : ([33] : List FuncId).contains f with
        | true => rw [hd3] at hE; exact rc_ok h f args c hE
        | false =>
          rw [hd3] at hE
          simp only at hE
          cases hd4 : ([32] : List FuncId).contains f with
          | true => rw [hd4] at hE; exact claimed_ok h f args c hE
          | false => rw [hd4] at hE; exact ints_ok h f args c hE
noncomputable def cfgT : Cfg := ⟨[]⟩
noncomputable def fsT : List FuncId := [7, 31]
theorem fitT : Fit Tryd.prog cfgT fsT := ⟨by kernel_rfl, Cfg.ok_of (by kernel_rfl), by kernel_rfl⟩
noncomputable def B : Code := bodyOf Tryd.prog 7
theorem B_is : Tryd.f7.body = some B := by kernel_rfl
theorem B_ok : okCode Tryd.prog.globals.size B = true := by kernel_rfl
noncomputable def S0 (w : Int) (i : Int) (c : Int) (e0 : TypeId) : KSt := (firstK [(.int .u64 w), (.int .i64 i), (.int .i64 c)] 33 ⟨1, 1, [(0, 0, .cells [(.int .u8 0), (.int .u8 1), (.int .u8 56), (.int .u8 2), (.int .u8 57), (.int .u8 49), (.int .u8 28), (.int .u8 3), (.int .u8 61), (.int .u8 58), (.int .u8 42), (.int .u8 50), (.int .u8 38), (.int .u8 29), (.int .u8 17), (.int .u8 4), (.int .u8 62), (.int .u8 47), (.int .u8 59), (.int .u8 36), (.int .u8 45), (.int .u8 43), (.int .u8 51), (.int .u8 22), (.int .u8 53), (.int .u8 39), (.int .u8 33), (.int .u8 30), (.int .u8 24), (.int .u8 18), (.int .u8 12), (.int .u8 5), (.int .u8 63), (.int .u8 55), (.int .u8 48), (.int .u8 27), (.int .u8 60), (.int .u8 41), (.int .u8 37), (.int .u8 16), (.int .u8 46), (.int .u8 35), (.int .u8 44), (.int .u8 21), (.int .u8 52), (.int .u8 32), (.int .u8 23), (.int .u8 11), (.int .u8 54), (.int .u8 26), (.int .u8 40), (.int .u8 15), (.int .u8 34), (.int .u8 20), (.int .u8 31), (.int .u8 10), (.int .u8 25), (.int .u8 14), (.int .u8 19), (.int .u8 9), (.int .u8 13), (.int .u8 8), (.int .u8 7), (.int .u8 6)] e0 false)]⟩)
theorem C : B = .seq (codeAt [0] B) (codeAt [1] B) := by kernel_rfl
noncomputable def S1 (w : Int) (i : Int) (c : Int) (e0 : TypeId) : KSt := ⟨(frameL 33 [(0, (.int .u64 w)), (1, (.int .i64 i)), (2, (.int .i64 c))]), ⟨1, 1, [(0, 0, .cells [(.int .u8 0), (.int .u8 1), (.int .u8 56), (.int .u8 2), (.int .u8 57), (.int .u8 49), (.int .u8 28), (.int .u8 3), (.int .u8 61), (.int .u8 58), (.int .u8 42), (.int .u8 50), (.int .u8 38), (.int .u8 29), (.int .u8 17), (.int .u8 4), (.int .u8 62), (.int .u8 47), (.int .u8 59), (.int .u8 36), (.int .u8 45), (.int .u8 43), (.int .u8 51), (.int .u8 22), (.int .u8 53), (.int .u8 39), (.int .u8 33), (.int .u8 30), (.int .u8 24), (.int .u8 18), (.int .u8 12), (.int .u8 5), (.int .u8 63), (.int .u8 55), (.int .u8 48), (.int .u8 27), (.int .u8 60), (.int .u8 41), (.int .u8 37), (.int .u8 16), (.int .u8 46), (.int .u8 35), (.int .u8 44), (.int .u8 21), (.int .u8 52), (.int .u8 32), (.int .u8 23), (.int .u8 11), (.int .u8 54), (.int .u8 26), (.int .u8 40), (.int .u8 15), (.int .u8 34), (.int .u8 20), (.int .u8 31), (.int .u8 10), (.int .u8 25), (.int .u8 14), (.int .u8 19), (.int .u8 9), (.int .u8 13), (.int .u8 8), (.int .u8 7), (.int .u8 6)] e0 false)]⟩⟩
theorem R1 (w : Int) (i : Int) (c : Int) (e0 : TypeId) : evCK Tryd.prog cfgT (runK Tryd.prog cfgT fsT (conTk sixDom sixK) 14 40) 14 (codeAt [0] B) (S0 w i c e0) (normC 1 [0, 1, 2]) =
  some (.normal, (S1 w i c e0)) := by kernel_rfl
theorem C1 : (codeAt [1] B) = .seq (codeAt [1, 0] B) (codeAt [1, 1] B) := by kernel_rfl
noncomputable def S2 (e0 : TypeId) : KSt := ⟨(frameL 33 [(6, (.bool true))]), ⟨1, 1, [(0, 0, .cells [(.int .u8 0), (.int .u8 1), (.int .u8 56), (.int .u8 2), (.int .u8 57), (.int .u8 49), (.int .u8 28), (.int .u8 3), (.int .u8 61), (.int .u8 58), (.int .u8 42), (.int .u8 50), (.int .u8 38), (.int .u8 29), (.int .u8 17), (.int .u8 4), (.int .u8 62), (.int .u8 47), (.int .u8 59), (.int .u8 36), (.int .u8 45), (.int .u8 43), (.int .u8 51), (.int .u8 22), (.int .u8 53), (.int .u8 39), (.int .u8 33), (.int .u8 30), (.int .u8 24), (.int .u8 18), (.int .u8 12), (.int .u8 5), (.int .u8 63), (.int .u8 55), (.int .u8 48), (.int .u8 27), (.int .u8 60), (.int .u8 41), (.int .u8 37), (.int .u8 16), (.int .u8 46), (.int .u8 35), (.int .u8 44), (.int .u8 21), (.int .u8 52), (.int .u8 32), (.int .u8 23), (.int .u8 11), (.int .u8 54), (.int .u8 26), (.int .u8 40), (.int .u8 15), (.int .u8 34), (.int .u8 20), (.int .u8 31), (.int .u8 10), (.int .u8 25), (.int .u8 14), (.int .u8 19), (.int .u8 9), (.int .u8 13), (.int .u8 8), (.int .u8 7), (.int .u8 6)] e0 false)]⟩⟩
noncomputable def S3 (e0 : TypeId) : KSt := ⟨(frameL 33 [(6, (.bool false))]), ⟨1, 1, [(0, 0, .cells [(.int .u8 0), (.int .u8 1), (.int .u8 56), (.int .u8 2), (.int .u8 57), (.int .u8 49), (.int .u8 28), (.int .u8 3), (.int .u8 61), (.int .u8 58), (.int .u8 42), (.int .u8 50), (.int .u8 38), (.int .u8 29), (.int .u8 17), (.int .u8 4), (.int .u8 62), (.int .u8 47), (.int .u8 59), (.int .u8 36), (.int .u8 45), (.int .u8 43), (.int .u8 51), (.int .u8 22), (.int .u8 53), (.int .u8 39), (.int .u8 33), (.int .u8 30), (.int .u8 24), (.int .u8 18), (.int .u8 12), (.int .u8 5), (.int .u8 63), (.int .u8 55), (.int .u8 48), (.int .u8 27), (.int .u8 60), (.int .u8 41), (.int .u8 37), (.int .u8 16), (.int .u8 46), (.int .u8 35), (.int .u8 44), (.int .u8 21), (.int .u8 52), (.int .u8 32), (.int .u8 23), (.int .u8 11), (.int .u8 54), (.int .u8 26), (.int .u8 40), (.int .u8 15), (.int .u8 34), (.int .u8 20), (.int .u8 31), (.int .u8 10), (.int .u8 25), (.int .u8 14), (.int .u8 19), (.int .u8 9), (.int .u8 13), (.int .u8 8), (.int .u8 7), (.int .u8 6)] e0 false)]⟩⟩
theorem R2 (w : Int) (i : Int) (c : Int) (e0 : TypeId) : evCK Tryd.prog cfgT (runK Tryd.prog cfgT fsT (conTk sixDom sixK) 14 40) 14 (codeAt [1, 0] B) (S1 w i c e0) (normC 1 [6]) =
  bif ((claimA w i c) == (claimR w i c)) then
    bif ((sealA w) == (fillRV w 0 1)) then
      bif (clNone w) then
        bif (Nat.ble (0 + (List.length (rcL w 8))) (List.length (rcL w 8))) then
          bif (Nat.beq (List.length (rcL w 8)) 0) then
            some (.normal, (S2 e0))
          else
            none
        else
          none
      else
        bif (Nat.ble (0 + (List.length (clL w 8))) (List.length (clL w 8))) then
          bif (Nat.ble (0 + (List.length (rcL w 8))) (List.length (rcL w 8))) then
            bif (same3 (clL w 8) (rcL w 8) (List.length (clL w 8)) (List.length (rcL w 8))) then
              some (.normal, (S2 e0))
            else
              none
          else
            none
        else
          none
    else
      some (.normal, (S3 e0))
  else
    some (.normal, (S3 e0)) := by kernel_rfl
theorem C1_1 : (codeAt [1, 1] B) = .ret := by kernel_rfl
theorem gn (w i c : Int) (e0 : TypeId) (hA : claimA w i c = claimR w i c) (hS : sealA w = fillRV w 0 1) (hL : rcL w 8 = clL w 8) (hn : clNone w = true) (hz : List.length (rcL w 8) = 0)   {Q : Ex → St → Prop} (hq : Q .ret (KSt.low (S2 e0))) : Gets Tryd.prog (varH .u8 tz e0).low B (KSt.low (S0 w i c e0)) Q := by
  rw [C]; refine Gets.seq ?_
  refine Gets.ofN fitT six_sound six_agree 14 40 (by kernel_rfl) (x := .normal) (s' := (S1 w i c e0)) (R1 w i c e0) ?_
  show Gets _ _ (codeAt [1] B) _ _
  rw [C1]; refine Gets.seq ?_
  refine Gets.ofN fitT six_sound six_agree 14 40 (by kernel_rfl) (x := .normal) (s' := (S2 e0)) ((R2 w i c e0).trans (by rw [condT (by rw [hA]; exact beq_self_eq_true _), condT (by rw [hS]; exact beq_self_eq_true _), condT (hn), condT (Nat.ble_eq_true_of_le (by omega)), condT (by rw [hz]; rfl)])) ?_
  show Gets _ _ (codeAt [1, 1] B) _ _
  rw [C1_1]; refine Gets.ev fitT.mix fitT.cfg (fitT.sound six_sound 14 0) 14 rfl (s' := KSt.low (S2 e0)) (x := .ret) rfl ?_
  exact hq
theorem gs (w i c : Int) (e0 : TypeId) (hA : claimA w i c = claimR w i c) (hS : sealA w = fillRV w 0 1) (hL : rcL w 8 = clL w 8) (hn : clNone w = false) (h8 : List.length (clL w 8) ≤ 8)   {Q : Ex → St → Prop} (hq : Q .ret (KSt.low (S2 e0))) : Gets Tryd.prog (varH .u8 tz e0).low B (KSt.low (S0 w i c e0)) Q := by
  rw [C]; refine Gets.seq ?_
  refine Gets.ofN fitT six_sound six_agree 14 40 (by kernel_rfl) (x := .normal) (s' := (S1 w i c e0)) (R1 w i c e0) ?_
  show Gets _ _ (codeAt [1] B) _ _
  rw [C1]; refine Gets.seq ?_
  refine Gets.ofN fitT six_sound six_agree 14 40 (by kernel_rfl) (x := .normal) (s' := (S2 e0)) ((R2 w i c e0).trans (by rw [condT (by rw [hA]; exact beq_self_eq_true _), condT (by rw [hS]; exact beq_self_eq_true _), condF (hn), condT (Nat.ble_eq_true_of_le (by omega)), condT (Nat.ble_eq_true_of_le (by omega)), condT (same3_t hL h8)])) ?_
  show Gets _ _ (codeAt [1, 1] B) _ _
  rw [C1_1]; refine Gets.ev fitT.mix fitT.cfg (fitT.sound six_sound 14 0) 14 rfl (s' := KSt.low (S2 e0)) (x := .ret) rfl ?_
  exact hq
noncomputable def QE : Ex → St → Prop := Eng.Ends Tryd.prog Tryd.f7.results.toList fun r _ => r = .bool true
theorem qe_true {s : KSt} (h : resL Tryd.prog s.low Tryd.f7.results.toList = some [.bool true]) : QE .ret s.low := Ends.of h rfl
theorem told (w i c : Int) (e0 : TypeId) (hw : word w) : Tells Tryd.prog 7 [.int .u64 w, .int .i64 i, .int .i64 c] (varH .u8 tz e0).low (.bool true) := by
  refine Gets.tells Tryd.func7 B_is (by rw [oneVar]; exact Nat.le_refl _) rfl ?_ Ro.varH
  show Gets Tryd.prog (varH .u8 tz e0).low B (KSt.low (S0 w i c e0)) QE
  cases hn : clNone w with
  | true =>
    refine gn w i c e0 (claim_eq hw) (seal_eq hw) (rc_cl hw 8) hn ?_ (qe_true (by kernel_rfl))
    rw [rc_cl hw 8]
    unfold clNone at hn
    rw [List.isEmpty_iff.1 hn]; rfl
  | false => exact gs w i c e0 (claim_eq hw) (seal_eq hw) (rc_cl hw 8) hn (clL_len w 8) (qe_true (by kernel_rfl))
theorem own : ownKnob Tryd.prog.godebug = none := by kernel_rfl
def laidV0 : List (String × DataW Unit) := laidV
/-- The door's own heap meets the condition. -/
theorem door_met (os : Os) (args : Array Value) : laidMetH Tryd.prog laidV ((World.doorLaid Tryd.prog 400 os).forCall (fun _ _ => 0) ⟨#[], args, []⟩).memory :=
  laidMetH_of_parts3 (fuel := 8) (laidMet_of_run' 8 (by kernel_rfl) (by kernel_rfl)) (by kernel_rfl) (by kernel_rfl)
theorem lifted (os : Os) (started : os.Started) (H : Type) (enc : TypeId × Value → H) :
    ReturnsInHanded {} Tryd.checked os 7 .any (fun w args => (Rows.ctrlPutsSpec.pre enc Tryd.prog Tryd.f7 [] false w args ∧ laidMetH Tryd.prog laidV w) ∧ sizedMet enc Tryd.prog Tryd.f7 (OpenSpec.ofChange Rows.ctrlPutsSpec) false w args)
      (Rows.ctrlPutsSpec.post enc Tryd.prog Tryd.f7 false true false false) := by
  refine returnsInHanded_of_change_and (C := Tryd.checked) (X := fun w _ => laidMetH Tryd.prog laidV w) (fun _ _ _ hh h => h.of_heap hh) own started (by kernel_rfl) Tryd.func7
    (ChangeSpec.witness_shaped (enc := enc) (C := Tryd.checked) (os := os) (X := fun w _ => laidMetH Tryd.prog laidV w) false (World.doorLaid Tryd.prog 400 os) #[.int .u64 0, .int .i64 0, .int .i64 0] 8 rfl (World.shaped_of_RefB (by kernel_rfl) (by kernel_rfl)) (by kernel_rfl) (by kernel_rfl) (by kernel_rfl) (door_met os _)) ?_
  intro W base args ds gs before hval0 hW hcnd hsz0 hL _
  have hvar := tz_cells hL
  have hval : ∀ (j : Nat) t v, Tryd.f7.params[j]? = some t → args[j]? = some v → Value.okWide Tryd.prog W .any base t v := hval0
  have hW' := hW
  obtain ⟨p, q, hA0, hV, rfl, hfz, hnd⟩ := hW
  have hA : DataW.TrodAll enc Tryd.prog W 0 (fun _ => true) true Tryd.f7.params.toList args.toList ds p := hA0
  rw [Tryd.params7] at hA hval
  have hS := hA
  obtain ⟨v0, vs0, d0, ds0, p0, q0, hargs, rfl, rfl, h0, r0⟩ := trodAll_cons hA
  obtain ⟨v1, vs1, d1, ds1, p1, q1, rfl, rfl, rfl, h1, r1⟩ := trodAll_cons r0
  obtain ⟨v2, vs2, d2, ds2, p2, q2, rfl, rfl, rfl, h2, r2⟩ := trodAll_cons r1
  obtain ⟨rfl, rfl, rfl⟩ := trodAll_nil r2
  obtain rfl : args = #[v0, v1, v2] := by cases args; simp_all
  obtain ⟨rfl, rfl⟩ := trodVars_none hV
  suffices hc : Calls Tryd.prog 7 #[v0, v1, v2] W fun e W' => e = .returned (.bool true) ∧ Below W.heap.size W W' by
    refine hc.mono fun e W' ⟨he, bel⟩ => ?_
    subst he
    exact ⟨_, rfl, _, _, _, [], _, [], hW', trodAll_mk1 (shut_bool Tryd.underlying4 _), trodAll_stays fineA bel (by decide +kernel) hS, rfl, bel.frame _, fun h => by cases h⟩
  clear hS hW' hfz hnd
  obtain ⟨a0, rfl, rfl, rfl, w0⟩ := open_int Tryd.underlying22 (hval 0 22 v0 rfl rfl) h0
  obtain ⟨a1, rfl, rfl, rfl, w1⟩ := open_int Tryd.underlying3 (hval 1 3 v1 rfl rfl) h1
  obtain ⟨a2, rfl, rfl, rfl, w2⟩ := open_int Tryd.underlying3 (hval 2 3 v2 rfl rfl) h2
  obtain ⟨e, hS⟩ := Sim.var (k := .u8) (zs := tz) oneVar (by decide) hvar
  exact told a0 a1 a2 e (wf_u64 w0) _ W _ (.cons (.int _ _) (.cons (.int _ _) (.cons (.int _ _) (.nil _)))) hS
theorem over : Rows.ctrlPutsRow.holds Tryd.pinned (OpenSpec.ofChange Rows.ctrlPutsSpec) :=
  OpenClaim.holds_of_wide 7 Tryd.f7 rfl rfl rfl rfl rfl rfl rfl ⟨rfl, rfl, rfl, rfl, rfl⟩ rfl rfl rfl rfl rfl (by kernel_rfl) Tryd.func7 (by kernel_rfl)
    (of_decide_eq_true (by kernel_rfl)) (by unfold Func.isWrapper; first | (rw [if_pos (by decide +kernel)]; kernel_rfl) | (rw [if_neg (by decide +kernel)]; exact ⟨rfl, rfl⟩))
    (fun os started H enc _ => lifted os started H enc)
end Go.Proofs.YteafenadjidkdaaDoor.ctrlPuts
namespace Go.Proofs.YteafenadjidkdaaDoor
/-- The tied card, for the claim. -/
theorem ctrlPuts_holds : Rows.CtrlPutsCardSaid :=
  Claim7.holds_tied_plain_at .later [] [.data] true (true, "311be7784f3cdb14a14e5a869a188c3f955b6b6d19542726ab5b5a32b74a7d88") false
    ctrlPuts.over (fun _ h => by cases h) (by kernel_rfl) (fun _ h => by cases h) ctrlPuts_row_tie rfl ⟨rfl, rfl⟩ (by kernel_rfl) rfl
    (fun f fn hf hfn => by
      obtain rfl : f = 7 := Option.some.inj ((show Tryd.prog.funcNamed "sprocket/sprocketlaw12.CtrlPuts" = some 7 by kernel_rfl).symm.trans hf) |>.symm
      obtain rfl : fn = Tryd.f7 := (Option.some.inj (Tryd.func7.symm.trans hfn)).symm
      exact ⟨by kernel_rfl, fun j t ht => by
        rw [Tryd.params7] at ht
        have hm : t ∈ [22, 3, 3] := by simpa using Array.mem_of_getElem? ht
        have hall : ([22, 3, 3].all fun u => !Tryd.prog.wantsStandIn u) = true := by kernel_rfl
        exact (show Tryd.prog.wantsStandIn t = false by simpa using List.all_eq_true.1 hall t hm)⟩)
    (by kernel_rfl)
#print axioms ctrlPuts_holds
end Go.Proofs.YteafenadjidkdaaDoor
