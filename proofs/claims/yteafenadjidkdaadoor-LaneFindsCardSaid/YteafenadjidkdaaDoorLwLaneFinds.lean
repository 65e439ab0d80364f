/- Whatever the word, the place and the numbers: LaneFinds answers true. -/
import Derived.Test.YteafenadjidkdaaDoorCards
import Derived.Test.YteafenadjidkdaaDoorTie
import Derived.Test.YteafenadjidkdaaDoorKeepsP
import Derived.Test.YteafenadjidkdaaDoorPlaces
import Derived.WalkKit
import Derived.ProofKit
import Derived.OpenShut
import Derived.ChangeOld
import Derived.Below
import Derived.SizedLaws
namespace Go.Proofs.YteafenadjidkdaaDoor.laneFinds
open Go.Eng
open Go.ChangeShapes Go.WideShapes Go.ChangeAt Go.RowKit
set_option linter.unusedVariables false
set_option linter.unusedSimpArgs false
set_option maxRecDepth 100000
open Go.Proofs.YteafenadjidkdaaDoor.ctrls (word isWord)
open Go.Proofs.YteafenadjidkdaaDoor.claimed (MH view_var)
open Go.Proofs.YteafenadjidkdaaDoor.news (plL plE pl_ok pl_fnok pl_len)
open Go.Proofs.YteafenadjidkdaaDoor.puts (fillRL fillRV fillR_told intsE intsK ints_tells ints_ok ints_fnok)
open Go.Proofs.YteafenadjidkdaaDoor.finds (firstI firstA_told firstN_told firstB_told)
open Go.Proofs.YteafenadjidkdaaDoor.places (firstP first_told places_does firstP_pl count_pl)
open Go.Proofs.YteafenadjidkdaaDoor.keeps (len8 bytes_cat byte_with)
theorem isWord_t {w : Int} (h : isWord w = true) : word w := by
  unfold isWord at h
  have h2 := of_decide_eq_true h
  exact h2
theorem word_is {w : Int} (h : word w) : isWord w = true := by unfold isWord; exact decide_eq_true h
theorem word_with {x k c : Int} (hx : word x) : word (withRV x k c) := by
  rw [withV_eq hx]
  obtain ⟨n, rfl⟩ := Int.eq_ofNat_of_zero_le hx.1
  have hn : n < 18446744073709551616 := by have := hx.2; omega
  by_cases h : (0 ≤ k ∧ k ≤ 7) ∧ (0 ≤ c ∧ c ≤ 255)
  · obtain ⟨j, rfl⟩ := Int.eq_ofNat_of_zero_le h.1.1
    obtain ⟨m, rfl⟩ := Int.eq_ofNat_of_zero_le h.2.1
    have hb := bys_set (bys_bytes8 n) j m (by omega)
    have hlt := cat_lt hb
    rw [List.length_set, len8] at hlt
    have hlt : cat ((bytes8 n).set j m) < 18446744073709551616 := hlt
    rw [with_cat hn (by omega) (by omega)]
    exact ⟨Int.natCast_nonneg _, by omega⟩
  · have : withV (n : Int) k c = n := by unfold withV; rw [if_neg h]
    rw [this]; exact hx
theorem fillRL_word {c : Int} : ∀ (l : List Int) {x : Int}, word x → word (fillRL c x l)
  | [], _, hx => hx
  | k :: r, _, hx => fillRL_word r (word_with (k := k) (c := c) hx)
theorem fillRL_byte {c : Int} (hc : 0 ≤ c ∧ c ≤ 255) : ∀ (l : List Int) {x k : Int}, word x → (0 ≤ k ∧ k ≤ 7) → byteV (fillRL c x l) k = if k ∈ l then c else byteV x k
  | [], x, k, _, _ => by rw [if_neg (by simp)]; rfl
  | j :: r, x, k, hx, hk => by
    show byteV (fillRL c (withRV x j c) r) k = _
    rw [fillRL_byte hc r (word_with hx) hk, withV_eq hx, byte_with hx j c hk]
    by_cases h1 : k ∈ r
    · rw [if_pos h1, if_pos (List.mem_cons_of_mem _ h1)]
    · rw [if_neg h1]
      by_cases h2 : k = j
      · rw [if_pos ⟨h2, hc⟩, if_pos (by rw [h2]; exact List.mem_cons_self)]
      · rw [if_neg (fun q => h2 q.1), if_neg (fun q => (List.mem_cons.1 q).elim h2 h1)]
theorem mem_pl {w b k : Int} : ∀ m : Nat, k ∈ plL w b m ↔ (0 ≤ k ∧ k < (m : Int)) ∧ byteRV w k = b
  | 0 => by
    constructor
    · intro h; cases h
    · rintro ⟨⟨h1, h2⟩, _⟩; omega
  | m + 1 => by
    show k ∈ plL w b m ++ (if byteRV w (m : Int) = b then [(m : Int)] else []) ↔ _
    rw [List.mem_append, mem_pl m]
    constructor
    · rintro (⟨h, h2⟩ | h)
      · exact ⟨⟨h.1, by omega⟩, h2⟩
      · split at h
        · rename_i hb
          rw [List.mem_singleton] at h
          subst h
          exact ⟨⟨by omega, by omega⟩, hb⟩
        · cases h
    · rintro ⟨⟨h1, h2⟩, h3⟩
      by_cases h : k = (m : Int)
      · right
        subst h
        rw [if_pos h3]; exact List.mem_singleton.2 rfl
      · left; exact ⟨⟨h1, by omega⟩, h3⟩
theorem word_ext {u v : Int} (hu : word u) (hv : word v) (h : ∀ k : Int, 0 ≤ k ∧ k ≤ 7 → byteV u k = byteV v k) : u = v := by
  obtain ⟨n, rfl⟩ := Int.eq_ofNat_of_zero_le hu.1
  obtain ⟨m, rfl⟩ := Int.eq_ofNat_of_zero_le hv.1
  have hn : n < 18446744073709551616 := by have := hu.2; omega
  have hm : m < 18446744073709551616 := by have := hv.2; omega
  have e : bytes8 n = bytes8 m := by
    apply List.ext_getElem (by rw [len8, len8])
    intro j h1 h2
    rw [len8] at h1
    have := h (j : Int) ⟨by omega, by omega⟩
    rw [byteV_get n j h1, byteV_get m j h1, List.getD_eq_getElem?_getD, List.getD_eq_getElem?_getD, List.getElem?_eq_getElem (by rw [len8]; exact h1), List.getElem?_eq_getElem (by rw [len8]; exact h1)] at this
    have h5 : (((bytes8 n)[j] : Nat) : Int) = (((bytes8 m)[j] : Nat) : Int) := this
    omega
  rw [← cat_bytes8 hn, ← cat_bytes8 hm, e]
def same3 (A B : List Int) (n m : Nat) : Bool := Nat.beq n m && (decide (List.take n (List.drop 0 A) = List.take m (List.drop 0 B)) && Nat.ble n 1000)
theorem same3_t {A B : List Int} (h : B = A) (h8 : A.length ≤ 8) : same3 A B A.length B.length = true := by
  subst h
  unfold same3
  rw [Bool.and_eq_true, Bool.and_eq_true]
  exact ⟨Nat.beq_refl _, decide_eq_true rfl, Nat.ble_eq_true_of_le (by omega)⟩

theorem fillRL_out {c : Int} (hc : ¬ (0 ≤ c ∧ c ≤ 255)) : ∀ (l : List Int) {x : Int}, word x → fillRL c x l = x
  | [], _, _ => rfl
  | k :: r, x, hx => by
    show fillRL c (withRV x k c) r = x
    have : withRV x k c = x := by
      rw [withV_eq hx]
      unfold withV; rw [if_neg (fun q => hc q.2)]
    rw [this]; exact fillRL_out hc r hx
theorem fill_word {w a c : Int} (hw : word w) : word (fillV w a c) := by
  by_cases h : (0 ≤ a ∧ a ≤ 255) ∧ (0 ≤ c ∧ c ≤ 255)
  · obtain ⟨n, rfl⟩ := Int.eq_ofNat_of_zero_le hw.1
    obtain ⟨j, rfl⟩ := Int.eq_ofNat_of_zero_le h.1.1
    obtain ⟨m, rfl⟩ := Int.eq_ofNat_of_zero_le h.2.1
    have hn : n < 18446744073709551616 := by have := hw.2; omega
    have hs : bys ((bytes8 n).map (swap j m)) := fun x hx => by
      obtain ⟨y, hy, rfl⟩ := List.mem_map.1 hx
      have := bys_bytes8 n y hy
      unfold swap
      split <;> omega
    have hlt := cat_lt hs
    rw [List.length_map, len8] at hlt
    have hlt : cat ((bytes8 n).map (swap j m)) < 18446744073709551616 := hlt
    have e := fillL (len8 n) (bys_bytes8 n) (a := j) (c := m) (by omega) (by omega)
    rw [cat_bytes8 hn] at e
    rw [e]
    exact ⟨Int.natCast_nonneg _, by omega⟩
  · rw [fillV_out h]; exact hw
theorem fill_byte {w a c k : Int} (hw : word w) (h : (0 ≤ a ∧ a ≤ 255) ∧ (0 ≤ c ∧ c ≤ 255)) (hk : 0 ≤ k ∧ k ≤ 7) : byteV (fillV w a c) k = if byteV w k = a then c else byteV w k := by
  obtain ⟨n, rfl⟩ := Int.eq_ofNat_of_zero_le hw.1
  obtain ⟨i, rfl⟩ := Int.eq_ofNat_of_zero_le h.1.1
  obtain ⟨m, rfl⟩ := Int.eq_ofNat_of_zero_le h.2.1
  obtain ⟨j, rfl⟩ := Int.eq_ofNat_of_zero_le hk.1
  have hn : n < 18446744073709551616 := by have := hw.2; omega
  have hs : bys ((bytes8 n).map (swap i m)) := fun x hx => by
    obtain ⟨y, hy, rfl⟩ := List.mem_map.1 hx
    have := bys_bytes8 n y hy
    unfold swap
    split <;> omega
  have e := fillL (len8 n) (bys_bytes8 n) (a := i) (c := m) (by omega) (by omega)
  rw [cat_bytes8 hn] at e
  have hj : j < 8 := by omega
  rw [e, byteV_get _ j hj, bytes_cat (by simp [bytes8]) hs, byteV_get n j hj]
  rw [List.getD_eq_getElem?_getD, List.getD_eq_getElem?_getD, List.getElem?_map, List.getElem?_eq_getElem (show j < (bytes8 n).length by rw [len8]; exact hj)]
  show ((swap i m (bytes8 n)[j] : Nat) : Int) = if (((bytes8 n)[j] : Nat) : Int) = (i : Int) then (m : Int) else (((bytes8 n)[j] : Nat) : Int)
  unfold swap
  split <;> split <;> omega
theorem fill_eq {w : Int} (hw : word w) (a c : Int) : fillW w a c = fillRV w a c := by
  rw [fillW_eq]
  unfold fillRV
  by_cases hc : 0 ≤ c ∧ c ≤ 255
  · by_cases ha : 0 ≤ a ∧ a ≤ 255
    · refine word_ext (fill_word hw) (fillRL_word _ hw) fun k hk => ?_
      rw [fillRL_byte hc _ hw hk, fill_byte hw ⟨ha, hc⟩ hk]
      by_cases h : byteV w k = a
      · rw [if_pos h, if_pos ((mem_pl 8).2 ⟨⟨hk.1, by omega⟩, by rw [byteV_eq hw]; exact h⟩)]
      · rw [if_neg h, if_neg (fun q => h (by have := ((mem_pl 8).1 q).2; rw [byteV_eq hw] at this; exact this))]
    · rw [fillV_out (fun q => ha q.1)]
      have : plL w a 8 = [] := by
        rw [List.eq_nil_iff_forall_not_mem]
        intro k hk
        obtain ⟨h1, h2⟩ := (mem_pl 8).1 hk
        rw [byteV_eq hw] at h2
        obtain ⟨n, rfl⟩ := Int.eq_ofNat_of_zero_le hw.1
        obtain ⟨j, rfl⟩ := Int.eq_ofNat_of_zero_le h1.1
        rw [byteV_get n j (by omega)] at h2
        have hx : (bytes8 n).getD j 0 < 256 := by
          rw [List.getD_eq_getElem?_getD, List.getElem?_eq_getElem (by rw [len8]; omega)]
          exact bys_bytes8 n _ (List.getElem_mem _)
        omega
      rw [this]; rfl
  · rw [fillV_out (fun q => hc q.2), fillRL_out hc _ hw]
theorem firstI_eq {w : Int} (hw : word w) (fr : Int) (L : List Int) : firstI (byteV w) fr L 8 0 = firstI (byteRV w) fr L 8 0 := by
  rw [show byteRV w = byteV w from funext fun k => byteV_eq hw]
/-- First, with a row or with nothing. -/
def firE : ConE := fun acc f args => match f, args with
  | 14, [.int .u64 w, .int .i64 fr, .slice (some ⟨a, off, none⟩) n c] => (match acc.row .i64 a off n, acc.cells a, acc.cells 0 with
    | some l, some (_, eg, _), some (cs, e0, false) => (match isTz tz cs with
      | true => (match isWord w && Nat.ble n 1000 with
        | true => some ⟨[0, a], [.int .u64 w, .int .i64 fr, .slice (some ⟨1, off, none⟩) n c], [.cells cs e0 false, .tail off .i64 l eg], .int .i64 (firstI (byteV w) fr l 8 0), [], []⟩
        | false => none)
      | false => none)
    | _, _, _ => none)
  | 14, [.int .u64 w, .int .i64 fr, .slice none 0 0] => (match acc.cells 0 with
    | some (cs, e, false) => (match isTz tz cs with
      | true => some ⟨[0], [.int .u64 w, .int .i64 fr, .slice none 0 0], [.cells cs e false], .int .i64 8, [], []⟩
      | false => none)
    | _ => none)
  | 20, [.int .u64 w, .int .i64 fr, .slice (some ⟨a, off, none⟩) n c] => (match acc.row .i64 a off n, acc.cells a, acc.cells 0 with
    | some l, some (_, eg, _), some (cs, e0, false) => (match isTz tz cs with
      | true => (match Nat.ble n 1000 with
        | true => some ⟨[0, a], [.int .u64 w, .int .i64 fr, .slice (some ⟨1, off, none⟩) n c], [.cells cs e0 false, .tail off .i64 l eg], .int .i64 (firstI (byteRV w) fr l 8 0), [], []⟩
        | false => none)
      | false => none)
    | _, _, _ => none)
  | _, _ => none
def firK {β : Type} : ConEK β := fun h f args k => match f, args with
  | 14, [.int .u64 w, .int .i64 fr, .slice (some ⟨a, off, none⟩) n c] => (match cellsK h 0 with
    | some (cs, e0, false) => (match isTz tz cs with
      | true => rowC h .i64 a off n fun l eg => bif (isWord w && Nat.ble n 1000) then k ⟨[0, a], [.int .u64 w, .int .i64 fr, .slice (some ⟨1, off, none⟩) n c], [.cells cs e0 false, .tail off .i64 l eg], .int .i64 (firstI (byteV w) fr l 8 0), [], []⟩ else none
      | false => none)
    | _ => none)
  | 14, [.int .u64 w, .int .i64 fr, .slice none 0 0] => (match cellsK h 0 with
    | some (cs, e, false) => (match isTz tz cs with
      | true => k ⟨[0], [.int .u64 w, .int .i64 fr, .slice none 0 0], [.cells cs e false], .int .i64 8, [], []⟩
      | false => none)
    | _ => none)
  | 20, [.int .u64 w, .int .i64 fr, .slice (some ⟨a, off, none⟩) n c] => (match cellsK h 0 with
    | some (cs, e0, false) => (match isTz tz cs with
      | true => rowC h .i64 a off n fun l eg => bif (Nat.ble n 1000) then k ⟨[0, a], [.int .u64 w, .int .i64 fr, .slice (some ⟨1, off, none⟩) n c], [.cells cs e0 false, .tail off .i64 l eg], .int .i64 (firstI (byteRV w) fr l 8 0), [], []⟩ else none
      | false => none)
    | _ => none)
  | _, _ => none
theorem fir_tells {β : Type} : TellsK firE (firK (β := β)) := by
  intro h f args k r hk
  unfold firK at hk
  unfold firE
  rw [accK_low]
  split at hk
  · split at hk
    · rename_i cs e0 hc
      split at hk
      · rename_i hz
        obtain ⟨l1, c1, e1, w1, a1, a2, hk⟩ := rowC_ok hk
        obtain ⟨hb, hk⟩ := cond_some hk
        have hc' : (accK h).cells 0 = some (cs, e0, false) := hc
        refine ⟨_, ?_, hk⟩
        rw [show (accK h).row .i64 _ _ _ = some l1 from a1, show (accK h).cells _ = some (c1, e1, w1) from a2, hc']
        simp only [hz, hb]
      · cases hk
    · cases hk
  · split at hk
    · rename_i cs e0 hc
      split at hk
      · rename_i hz
        have hc' : (accK h).cells 0 = some (cs, e0, false) := hc
        refine ⟨_, ?_, hk⟩
        rw [hc']
        simp only [hz]
      · cases hk
    · cases hk
  · split at hk
    · rename_i cs e0 hc
      split at hk
      · rename_i hz
        obtain ⟨l1, c1, e1, w1, a1, a2, hk⟩ := rowC_ok hk
        obtain ⟨hb, hk⟩ := cond_some hk
        have hc' : (accK h).cells 0 = some (cs, e0, false) := hc
        refine ⟨_, ?_, hk⟩
        rw [show (accK h).row .i64 _ _ _ = some l1 from a1, show (accK h).cells _ = some (c1, e1, w1) from a2, hc']
        simp only [hz, hb]
      · cases hk
    · cases hk
  · cases hk
theorem row_view2 {h : AH} {g off n : Nat} {l : List Int} {cg : List Value} {eg : TypeId} {rwg : Bool} (hrow : rowA h .i64 g off n = some l) (hcg : cellsA h g = some (cg, eg, rwg)) :
    h.get g = some (.cells cg eg rwg) ∧ off + l.length ≤ cg.length ∧ numsOfK .i64 ((cg.drop off).take l.length) = some l ∧ l.length = n := by
  have hgb : h.get g = some (.cells cg eg rwg) := by
    unfold cellsA at hcg
    split at hcg
    · rename_i hq; cases hcg; exact hq
    · cases hcg
  have hr : off + n ≤ cg.length ∧ numsOfK .i64 ((cg.drop off).take n) = some l := by
    unfold rowA at hrow
    rw [hgb] at hrow
    simp only at hrow
    cases hb : Nat.ble (off + n) cg.length with
    | false => rw [hb] at hrow; cases hrow
    | true => rw [hb] at hrow; exact ⟨Nat.le_of_ble_eq_true hb, hrow⟩
  have hll : l.length = n := by
    have := congrArg List.length (numsOfK_eq hr.2)
    simp at this
    omega
  exact ⟨hgb, by rw [hll]; exact hr.1, by rw [hll]; exact hr.2, hll⟩
theorem cells0 {h : AH} {e : TypeId} (hc : (accA h).cells 0 = some (intCells .u8 tz, e, false)) : h.get 0 = some (.cells (intCells .u8 tz) e false) := by
  have hc : cellsA h 0 = _ := hc
  unfold cellsA at hc
  split at hc
  · rename_i hq; cases hc; exact hq
  · cases hc
theorem con_row {f a off n c : Nat} {h : AH} {w fr v : Int} {l : List Int} {cg : List Value} {e0 eg : TypeId} {rwg : Bool} (hc0 : h.get 0 = some (.cells (intCells .u8 tz) e0 false)) (r1 : (accA h).row .i64 a off n = some l) (q1 : (accA h).cells a = some (cg, eg, rwg))
    (ht : l.length = n → Tells Tryd.prog f [.int .u64 w, .int .i64 fr, .slice (some ⟨1, off, none⟩) n c] (mkH [.cells (intCells .u8 tz) e0 false, .tail off .i64 l eg]).low (.int .i64 v)) :
    ConOk Tryd.prog f [.int .u64 w, .int .i64 fr, .slice (some ⟨a, off, none⟩) n c] h ⟨[0, a], [.int .u64 w, .int .i64 fr, .slice (some ⟨1, off, none⟩) n c], [.cells (intCells .u8 tz) e0 false, .tail off .i64 l eg], .int .i64 v, [], []⟩ := by
  obtain ⟨g1, v1, v2, v3⟩ := row_view2 (h := h) r1 q1
  have hτ1 : nthN [0, a] 1 = a := rfl
  refine ⟨⟨?_, ?_, ?_, ?_, ?_⟩, DoesC.of_tells (ht v3) rfl, ?_, fun p hp => (by cases hp), fun o ho => (by cases ho), .nil⟩
  · exact ⟨VV.plain rfl, VV.plain rfl, VV.slice (show (1:Nat) < 2 by decide) hτ1, trivial⟩
  · intro x
    constructor
    · intro hx
      match x, hx with
      | 0, _ => simp [low_get, mkH_get (bs := [KObj.cells (intCells .u8 tz) e0 false, .tail off .i64 l eg]) (a := 0) rfl]
      | 1, _ => simp [low_get, mkH_get (bs := [KObj.cells (intCells .u8 tz) e0 false, .tail off .i64 l eg]) (a := 1) rfl]
    · intro hx
      obtain ⟨o, ho⟩ := Option.ne_none_iff_exists'.1 hx
      rcases mkH2_get ho with ⟨rfl, _⟩ | ⟨rfl, _⟩
      · exact (show (0:Nat) < 2 by decide)
      · exact (show (1:Nat) < 2 by decide)
  · intro x o ho
    rcases mkH2_get ho with ⟨rfl, rfl⟩ | ⟨rfl, rfl⟩
    · exact ⟨_, hc0, VO.cells (VP.plain (intCells_plain .u8 tz)) id⟩
    · exact ⟨_, g1, VO.tail v1 v2⟩
  · intro g' h'
    have hg := oneVar
    have : g' = 0 := by omega
    subst this
    exact ⟨(show (0:Nat) < 2 by decide), rfl⟩
  · intro x x' hw
    obtain ⟨o, ho, hrw⟩ := hw
    rcases mkH2_get ho with ⟨rfl, rfl⟩ | ⟨rfl, rfl⟩ <;> cases hrw
  · intro x o ho hrw
    rcases mkH2_get ho with ⟨rfl, rfl⟩ | ⟨rfl, rfl⟩ <;> cases hrw
theorem con_nil {f : FuncId} {h : AH} {w fr v : Int} {e0 : TypeId} (hc0 : h.get 0 = some (.cells (intCells .u8 tz) e0 false))
    (ht : Tells Tryd.prog f [.int .u64 w, .int .i64 fr, .slice none 0 0] (varH .u8 tz e0).low (.int .i64 v)) :
    ConOk Tryd.prog f [.int .u64 w, .int .i64 fr, .slice none 0 0] h ⟨[0], [.int .u64 w, .int .i64 fr, .slice none 0 0], [.cells (intCells .u8 tz) e0 false], .int .i64 v, [], []⟩ where
  view :=
    { args := ⟨VV.plain rfl, VV.plain rfl, fun ρ w r => (by cases r; exact .nilSlice _ _), trivial⟩
      full := fun a => by
        constructor
        · intro ha
          have : a = 0 := Nat.lt_one_iff.1 ha
          subst this
          simp [low_get, mkH_get (bs := [KObj.cells (intCells .u8 tz) e0 false]) (a := 0) rfl]
        · intro ha
          obtain ⟨o, ho⟩ := Option.ne_none_iff_exists'.1 ha
          obtain ⟨rfl, _⟩ := mkH1_get ho
          exact (show (0 : Nat) < 1 by decide)
      blk := fun a o ho => by
        obtain ⟨rfl, rfl⟩ := mkH1_get ho
        exact ⟨_, hc0, VO.cells (VP.plain (intCells_plain .u8 tz)) id⟩
      glob := fun g h' => by
        have hg := oneVar
        have : g = 0 := by omega
        subst this
        exact ⟨(show (0 : Nat) < 1 by decide), rfl⟩
      inj := fun a a' hw => by
        obtain ⟨o, ho, hr⟩ := hw
        obtain ⟨_, rfl⟩ := mkH1_get ho
        cases hr }
  does := DoesC.of_tells ht rfl
  rw := fun a o ho hr => by
    obtain ⟨_, rfl⟩ := mkH1_get ho
    cases hr
  put := fun p h => by cases h
  new := fun p h => by cases h
  nd := .nil
theorem fir_ok : ∀ (h : AH) (f : FuncId) (args : List Value) (c : Con), firE (accA h) f args = some c → ConOk Tryd.prog f args h c := by
  intro h f args c hE
  unfold firE at hE
  split at hE
  · split at hE
    case h_2 => cases hE
    rename_i l1 c1 e1 w1 cs e0 r1 q1 q0
    split at hE
    case h_2 => cases hE
    rename_i hz
    split at hE
    case h_2 => cases hE
    rename_i hb
    cases hE
    rw [Bool.and_eq_true] at hb
    have hcs := isTz_eq hz
    subst hcs
    exact con_row (cells0 q0) r1 q1 fun hl => firstA_told _ _ _ _ _ _ _ _ (isWord_t hb.1) hl (Nat.le_of_ble_eq_true hb.2)
  · split at hE
    · rename_i cs e0 q0
      split at hE
      · rename_i hz
        cases hE
        have hcs := isTz_eq hz
        subst hcs
        exact con_nil (cells0 q0) (firstN_told _ _ _)
      · cases hE
    · cases hE
  · split at hE
    case h_2 => cases hE
    rename_i l1 c1 e1 w1 cs e0 r1 q1 q0
    split at hE
    case h_2 => cases hE
    rename_i hz
    split at hE
    case h_2 => cases hE
    rename_i hb
    cases hE
    have hcs := isTz_eq hz
    subst hcs
    exact con_row (cells0 q0) r1 q1 fun hl => firstB_told _ _ _ _ _ _ _ _ hl (Nat.le_of_ble_eq_true hb)
  · cases hE
/-- The law's two helpers. -/
def hlpE : ConE := fun acc f args => match f, args with
  | 17, [.int .u64 w, .int .i64 b] => (match acc.cells 0 with
    | some (cs, e, false) => (match isTz tz cs with
      | true => (match isWord w with
        | true => some ⟨[0], [.int .u64 w, .int .i64 b], [.cells cs e false], .slice (some ⟨1, 0, none⟩) (List.length (plL w b 8)) (List.length (plL w b 8)), [], [.ints .i64 (plL w b 8) 3 true]⟩
        | false => none)
      | false => none)
    | _ => none)
  | 18, [.int .u64 w, .int .i64 b] => (match acc.cells 0 with
    | some (cs, e, false) => (match isTz tz cs with
      | true => (match isWord w with
        | true => some ⟨[0], [.int .u64 w, .int .i64 b], [.cells cs e false], .int .i64 (firstP w b), [], []⟩
        | false => none)
      | false => none)
    | _ => none)
  | _, _ => none
def hlpK {β : Type} : ConEK β := fun h f args k => match f, args with
  | 17, [.int .u64 w, .int .i64 b] => (match (accK h).cells 0 with
    | some (cs, e, false) => (match isTz tz cs with
      | true => bif isWord w then k ⟨[0], [.int .u64 w, .int .i64 b], [.cells cs e false], .slice (some ⟨1, 0, none⟩) (List.length (plL w b 8)) (List.length (plL w b 8)), [], [.ints .i64 (plL w b 8) 3 true]⟩ else none
      | false => none)
    | _ => none)
  | 18, [.int .u64 w, .int .i64 b] => (match (accK h).cells 0 with
    | some (cs, e, false) => (match isTz tz cs with
      | true => bif isWord w then k ⟨[0], [.int .u64 w, .int .i64 b], [.cells cs e false], .int .i64 (firstP w b), [], []⟩ else none
      | false => none)
    | _ => none)
  | _, _ => none
theorem hlp_tells {β : Type} : TellsK hlpE (hlpK (β := β)) := by
  intro h f args k r hk
  unfold hlpK at hk
  unfold hlpE
  rw [accK_low]
  split at hk
  · split at hk
    · rename_i cs e hc
      (try rw [hc])
      split at hk
      · rename_i hz
        (try rw [hz])
        cases hm : isWord _ with
        | true => rw [hm] at hk; exact ⟨_, rfl, hk⟩
        | false => rw [hm] at hk; cases hk
      · cases hk
    · cases hk
  · split at hk
    · rename_i cs e hc
      (try rw [hc])
      split at hk
      · rename_i hz
        (try rw [hz])
        cases hm : isWord _ with
        | true => rw [hm] at hk; exact ⟨_, rfl, hk⟩
        | false => rw [hm] at hk; cases hk
      · cases hk
    · cases hk
  · cases hk
theorem hlp_ok : ∀ (h : AH) (f : FuncId) (args : List Value) (c : Con), hlpE (accA h) f args = some c → ConOk Tryd.prog f args h c := by
  intro h f args c hE
  unfold hlpE at hE
  split at hE
  · split at hE
    · rename_i cs e q0
      split at hE
      · rename_i hz
        have hcs := isTz_eq hz
        subst hcs
        split at hE
        · rename_i hm
          cases hE
          exact ⟨view_var rfl rfl h (cells0 q0), places_does _ _ e (isWord_t hm), fun a o ho hr => (by obtain ⟨_, rfl⟩ := mkH1_get ho; cases hr), fun p hp => (by cases hp), fun o ho => (by
            rcases List.mem_singleton.1 ho with rfl; rfl), .nil⟩
        · cases hE
      · cases hE
    · cases hE
  · split at hE
    · rename_i cs e q0
      split at hE
      · rename_i hz
        have hcs := isTz_eq hz
        subst hcs
        split at hE
        · rename_i hm
          cases hE; exact ConOk.var oneVar rfl rfl (first_told _ _ _ (isWord_t hm)) h (cells0 q0)
        · cases hE
      · cases hE
    · cases hE
  · cases hE
def fillcE : ConE := fun acc f args => match f, args with
  | 22, [.int .u64 w, .int .i64 b, .int .i64 c] => (match acc.cells 0 with
    | some (cs, e, false) => (match isTz tz cs with
      | true => some ⟨[0], [.int .u64 w, .int .i64 b, .int .i64 c], [.cells cs e false], .int .u64 (fillRV w b c), [], []⟩
      | false => none)
    | _ => none)
  | _, _ => none
theorem fillc_ok : ∀ (h : AH) (f : FuncId) (args : List Value) (c : Con), fillcE (accA h) f args = some c → ConOk Tryd.prog f args h c := by
  intro h f args c hE
  unfold fillcE at hE
  split at hE
  · split at hE
    · rename_i cs e hc
      split at hE
      · rename_i hz
        have hcs := isTz_eq hz
        subst hcs
        cases hE
        exact ConOk.var oneVar rfl rfl (fillR_told _ _ _ _) h (cells0 hc)
      · cases hE
    · cases hE
  · cases hE
def finE : ConE := orE laneDom laneE (orE [15] plE (orE [22] fillcE (orE [16] intsE (orE [17, 18] hlpE firE))))
def finK {β : Type} : ConEK β := orK laneDom (plainK laneE) (orK [15] (plainK plE) (orK [22] (plainK fillcE) (orK [16] intsK (orK [17, 18] hlpK firK))))
def finDom : List FuncId := [15, 22, 16, 17, 18, 14, 20] ++ laneDom
theorem fin_agree {β : Type} : AgreeT (conC finDom finE) (conTk (β := β) finDom finK) := conTk_agree (orK_tells (plainK_tells _) (orK_tells (plainK_tells _) (orK_tells (plainK_tells _) (orK_tells ints_tells (orK_tells hlp_tells fir_tells)))))
theorem fin_sound : SoundC Tryd.prog (conC finDom finE) := by
  refine SoundC.con ?_ ?_
  · intro f hf
    rcases List.mem_append.1 hf with hf | hf
    · simp only [List.mem_cons, List.not_mem_nil, or_false] at hf
      rcases hf with rfl | rfl | rfl | rfl | rfl | rfl | rfl
      · exact pl_fnok
      · exact Go.Proofs.YteafenadjidkdaaDoor.puts.fitT.fnOk _ (by
          have h0 : Go.Proofs.YteafenadjidkdaaDoor.puts.fsT.contains 22 = true := by kernel_rfl
          simpa using h0)
      · exact ints_fnok
      · exact Go.Proofs.YteafenadjidkdaaDoor.places.fitT.fnOk _ (by
          have h0 : Go.Proofs.YteafenadjidkdaaDoor.places.fsT.contains 17 = true := by kernel_rfl
          simpa using h0)
      · exact Go.Proofs.YteafenadjidkdaaDoor.places.fitT.fnOk _ (by
          have h0 : Go.Proofs.YteafenadjidkdaaDoor.places.fsT.contains 18 = true := by kernel_rfl
          simpa using h0)
      · exact Go.Proofs.YteafenadjidkdaaDoor.finds.fitT.fnOk _ (by
          have h0 : Go.Proofs.YteafenadjidkdaaDoor.finds.fsT.contains 14 = true := by kernel_rfl
          simpa using h0)
      · exact Go.Proofs.YteafenadjidkdaaDoor.finds.fitT.fnOk _ (by
          have h0 : Go.Proofs.YteafenadjidkdaaDoor.finds.fsT.contains 20 = true := by kernel_rfl
          simpa using h0)
    · exact lane_fn f hf
  · intro h f args c hm hE
    unfold finE orE at hE
    cases hd : laneDom.contains f with
    | true => rw [hd] at hE; exact lane_ok h f args c hE
    | false =>
      rw [hd] at hE
      simp only at hE
      cases hd2 : ([15] : List FuncId).contains f with
      | true => rw [hd2] at hE; exact pl_ok h f args c hE
      | false =>
        rw [hd2] at hE
        simp only at hE
        cases hd3 : ([22] : List FuncId).contains f with
        | true => rw [hd3] at hE; exact fillc_ok h f args c hE
        | false =>
          rw [hd3] at hE
          simp only at hE
          cases hd4 : ([16] : List FuncId).contains f with
          | true => rw [hd4] at hE; exact ints_ok h f args c hE
          | false =>
            rw [hd4] at hE
            simp only at hE
            cases hd5 : ([17, 18] : List FuncId).contains f with
            | true => rw [hd5] at hE; exact hlp_ok h f args c hE
            | false => rw [hd5] at hE; exact fir_ok h f args c hE
noncomputable def cfgT : Cfg := ⟨[]⟩
noncomputable def fsT : List FuncId := [4, 19]
theorem fitT : Fit Tryd.prog cfgT fsT := ⟨by kernel_rfl, Cfg.ok_of (by kernel_rfl), by kernel_rfl⟩
noncomputable def B : Code := bodyOf Tryd.prog 4
theorem B_is : Tryd.f4.body = some B := by kernel_rfl
theorem B_ok : okCode Tryd.prog.globals.size B = true := by kernel_rfl
noncomputable def mS0 (w : Int) (fr : Int) (off : Nat) (n : Nat) (c : Nat) (l : List Int) (e1 : TypeId) (e0 : TypeId) : KSt := (firstK [(.int .u64 w), (.int .i64 fr), (.slice (some ⟨1, off, none⟩) n c)] 100 ⟨2, 1, [(1, 0, .tail off .i64 l e1), (0, 0, .cells [(.int .u8 0), (.int .u8 1), (.int .u8 56), (.int .u8 2), (.int .u8 57), (.int .u8 49), (.int .u8 28), (.int .u8 3), (.int .u8 61), (.int .u8 58), (.int .u8 42), (.int .u8 50), (.int .u8 38), (.int .u8 29), (.int .u8 17), (.int .u8 4), (.int .u8 62), (.int .u8 47), (.int .u8 59), (.int .u8 36), (.int .u8 45), (.int .u8 43), (.int .u8 51), (.int .u8 22), (.int .u8 53), (.int .u8 39), (.int .u8 33), (.int .u8 30), (.int .u8 24), (.int .u8 18), (.int .u8 12), (.int .u8 5), (.int .u8 63), (.int .u8 55), (.int .u8 48), (.int .u8 27), (.int .u8 60), (.int .u8 41), (.int .u8 37), (.int .u8 16), (.int .u8 46), (.int .u8 35), (.int .u8 44), (.int .u8 21), (.int .u8 52), (.int .u8 32), (.int .u8 23), (.int .u8 11), (.int .u8 54), (.int .u8 26), (.int .u8 40), (.int .u8 15), (.int .u8 34), (.int .u8 20), (.int .u8 31), (.int .u8 10), (.int .u8 25), (.int .u8 14), (.int .u8 19), (.int .u8 9), (.int .u8 13), (.int .u8 8), (.int .u8 7), (.int .u8 6)] e0 false)]⟩)
theorem mC : B = .seq (codeAt [0] B) (codeAt [1] B) := by kernel_rfl
noncomputable def mS1 (w : Int) (fr : Int) (off : Nat) (n : Nat) (c : Nat) (l : List Int) (e1 : TypeId) (e0 : TypeId) : KSt := ⟨(frameL 100 [(0, (.int .u64 w)), (1, (.int .i64 fr)), (2, (.slice (some ⟨1, off, none⟩) n c))]), ⟨2, 1, [(1, 0, .tail off .i64 l e1), (0, 0, .cells [(.int .u8 0), (.int .u8 1), (.int .u8 56), (.int .u8 2), (.int .u8 57), (.int .u8 49), (.int .u8 28), (.int .u8 3), (.int .u8 61), (.int .u8 58), (.int .u8 42), (.int .u8 50), (.int .u8 38), (.int .u8 29), (.int .u8 17), (.int .u8 4), (.int .u8 62), (.int .u8 47), (.int .u8 59), (.int .u8 36), (.int .u8 45), (.int .u8 43), (.int .u8 51), (.int .u8 22), (.int .u8 53), (.int .u8 39), (.int .u8 33), (.int .u8 30), (.int .u8 24), (.int .u8 18), (.int .u8 12), (.int .u8 5), (.int .u8 63), (.int .u8 55), (.int .u8 48), (.int .u8 27), (.int .u8 60), (.int .u8 41), (.int .u8 37), (.int .u8 16), (.int .u8 46), (.int .u8 35), (.int .u8 44), (.int .u8 21), (.int .u8 52), (.int .u8 32), (.int .u8 23), (.int .u8 11), (.int .u8 54), (.int .u8 26), (.int .u8 40), (.int .u8 15), (.int .u8 34), (.int .u8 20), (.int .u8 31), (.int .u8 10), (.int .u8 25), (.int .u8 14), (.int .u8 19), (.int .u8 9), (.int .u8 13), (.int .u8 8), (.int .u8 7), (.int .u8 6)] e0 false)]⟩⟩
theorem mR1 (w : Int) (fr : Int) (off : Nat) (n : Nat) (c : Nat) (l : List Int) (e1 : TypeId) (e0 : TypeId) : evCK Tryd.prog cfgT (runK Tryd.prog cfgT fsT (conTk finDom finK) 14 40) 14 (codeAt [0] B) (mS0 w fr off n c l e1 e0) (normC 2 [0, 1, 2]) =
  some (.normal, (mS1 w fr off n c l e1 e0)) := by kernel_rfl
theorem mC1 : (codeAt [1] B) = .seq (codeAt [1, 0] B) (codeAt [1, 1] B) := by kernel_rfl
theorem mC1_0 : (codeAt [1, 0] B) = .seq (codeAt [1, 0, 0] B) (codeAt [1, 0, 1] B) := by kernel_rfl
noncomputable def mS2 (w : Int) (fr : Int) (off : Nat) (n : Nat) (c : Nat) (l : List Int) (e1 : TypeId) (e0 : TypeId) : KSt := ⟨(frameL 100 [(0, (.int .u64 w)), (1, (.int .i64 fr)), (2, (.slice (some ⟨1, off, none⟩) n c)), (16, (.bool true))]), ⟨2, 1, [(1, 0, .tail off .i64 l e1), (0, 0, .cells [(.int .u8 0), (.int .u8 1), (.int .u8 56), (.int .u8 2), (.int .u8 57), (.int .u8 49), (.int .u8 28), (.int .u8 3), (.int .u8 61), (.int .u8 58), (.int .u8 42), (.int .u8 50), (.int .u8 38), (.int .u8 29), (.int .u8 17), (.int .u8 4), (.int .u8 62), (.int .u8 47), (.int .u8 59), (.int .u8 36), (.int .u8 45), (.int .u8 43), (.int .u8 51), (.int .u8 22), (.int .u8 53), (.int .u8 39), (.int .u8 33), (.int .u8 30), (.int .u8 24), (.int .u8 18), (.int .u8 12), (.int .u8 5), (.int .u8 63), (.int .u8 55), (.int .u8 48), (.int .u8 27), (.int .u8 60), (.int .u8 41), (.int .u8 37), (.int .u8 16), (.int .u8 46), (.int .u8 35), (.int .u8 44), (.int .u8 21), (.int .u8 52), (.int .u8 32), (.int .u8 23), (.int .u8 11), (.int .u8 54), (.int .u8 26), (.int .u8 40), (.int .u8 15), (.int .u8 34), (.int .u8 20), (.int .u8 31), (.int .u8 10), (.int .u8 25), (.int .u8 14), (.int .u8 19), (.int .u8 9), (.int .u8 13), (.int .u8 8), (.int .u8 7), (.int .u8 6)] e0 false)]⟩⟩
noncomputable def mS3 (w : Int) (fr : Int) (off : Nat) (n : Nat) (c : Nat) (l : List Int) (e1 : TypeId) (e0 : TypeId) : KSt := ⟨(frameL 100 [(0, (.int .u64 w)), (1, (.int .i64 fr)), (2, (.slice (some ⟨1, off, none⟩) n c)), (16, (.bool (decide (((n : Nat) : Int) > 20))))]), ⟨2, 1, [(1, 0, .tail off .i64 l e1), (0, 0, .cells [(.int .u8 0), (.int .u8 1), (.int .u8 56), (.int .u8 2), (.int .u8 57), (.int .u8 49), (.int .u8 28), (.int .u8 3), (.int .u8 61), (.int .u8 58), (.int .u8 42), (.int .u8 50), (.int .u8 38), (.int .u8 29), (.int .u8 17), (.int .u8 4), (.int .u8 62), (.int .u8 47), (.int .u8 59), (.int .u8 36), (.int .u8 45), (.int .u8 43), (.int .u8 51), (.int .u8 22), (.int .u8 53), (.int .u8 39), (.int .u8 33), (.int .u8 30), (.int .u8 24), (.int .u8 18), (.int .u8 12), (.int .u8 5), (.int .u8 63), (.int .u8 55), (.int .u8 48), (.int .u8 27), (.int .u8 60), (.int .u8 41), (.int .u8 37), (.int .u8 16), (.int .u8 46), (.int .u8 35), (.int .u8 44), (.int .u8 21), (.int .u8 52), (.int .u8 32), (.int .u8 23), (.int .u8 11), (.int .u8 54), (.int .u8 26), (.int .u8 40), (.int .u8 15), (.int .u8 34), (.int .u8 20), (.int .u8 31), (.int .u8 10), (.int .u8 25), (.int .u8 14), (.int .u8 19), (.int .u8 9), (.int .u8 13), (.int .u8 8), (.int .u8 7), (.int .u8 6)] e0 false)]⟩⟩
theorem mR2 (w : Int) (fr : Int) (off : Nat) (n : Nat) (c : Nat) (l : List Int) (e1 : TypeId) (e0 : TypeId) : evCK Tryd.prog cfgT (runK Tryd.prog cfgT fsT (conTk finDom finK) 14 40) 14 (codeAt [1, 0, 0] B) (mS1 w fr off n c l e1 e0) (normC 2 [0, 1, 2, 16]) =
  bif (((n : Nat) : Int) == 0) then
    some (.normal, (mS2 w fr off n c l e1 e0))
  else
    some (.normal, (mS3 w fr off n c l e1 e0)) := by kernel_rfl
theorem mC1_0_1 : (codeAt [1, 0, 1] B) = .cond (.tmp 16) (codeAt [1, 0, 1, 0] B) (codeAt [1, 0, 1, 1] B) := by kernel_rfl
theorem mC1_0_1_0 : (codeAt [1, 0, 1, 0] B) = .seq (codeAt [1, 0, 1, 0, 0] B) (codeAt [1, 0, 1, 0, 1] B) := by kernel_rfl
noncomputable def mS4 (off : Nat) (l : List Int) (e1 : TypeId) (e0 : TypeId) : KSt := ⟨(frameL 100 [(6, (.bool true))]), ⟨2, 1, [(1, 0, .tail off .i64 l e1), (0, 0, .cells [(.int .u8 0), (.int .u8 1), (.int .u8 56), (.int .u8 2), (.int .u8 57), (.int .u8 49), (.int .u8 28), (.int .u8 3), (.int .u8 61), (.int .u8 58), (.int .u8 42), (.int .u8 50), (.int .u8 38), (.int .u8 29), (.int .u8 17), (.int .u8 4), (.int .u8 62), (.int .u8 47), (.int .u8 59), (.int .u8 36), (.int .u8 45), (.int .u8 43), (.int .u8 51), (.int .u8 22), (.int .u8 53), (.int .u8 39), (.int .u8 33), (.int .u8 30), (.int .u8 24), (.int .u8 18), (.int .u8 12), (.int .u8 5), (.int .u8 63), (.int .u8 55), (.int .u8 48), (.int .u8 27), (.int .u8 60), (.int .u8 41), (.int .u8 37), (.int .u8 16), (.int .u8 46), (.int .u8 35), (.int .u8 44), (.int .u8 21), (.int .u8 52), (.int .u8 32), (.int .u8 23), (.int .u8 11), (.int .u8 54), (.int .u8 26), (.int .u8 40), (.int .u8 15), (.int .u8 34), (.int .u8 20), (.int .u8 31), (.int .u8 10), (.int .u8 25), (.int .u8 14), (.int .u8 19), (.int .u8 9), (.int .u8 13), (.int .u8 8), (.int .u8 7), (.int .u8 6)] e0 false)]⟩⟩
theorem mR3 (w : Int) (fr : Int) (off : Nat) (n : Nat) (c : Nat) (l : List Int) (e1 : TypeId) (e0 : TypeId) : evCK Tryd.prog cfgT (runK Tryd.prog cfgT fsT (conTk finDom finK) 14 40) 14 (codeAt [1, 0, 1, 0, 0] B) (mS2 w fr off n c l e1 e0) (normC 2 [6]) =
  some (.normal, (mS4 off l e1 e0)) := by kernel_rfl
theorem mC1_0_1_0_1 : (codeAt [1, 0, 1, 0, 1] B) = .ret := by kernel_rfl
theorem z0 (w fr : Int) (off n c : Nat) (l : List Int) (e0 e1 : TypeId) (hn : n = 0)   {Q : Ex → St → Prop} (hq : Q .ret (KSt.low (mS4 off l e1 e0))) : Gets Tryd.prog (KH.low ⟨2, 1, [(1, 0, .tail off .i64 l e1), (0, 0, .cells [(.int .u8 0), (.int .u8 1), (.int .u8 56), (.int .u8 2), (.int .u8 57), (.int .u8 49), (.int .u8 28), (.int .u8 3), (.int .u8 61), (.int .u8 58), (.int .u8 42), (.int .u8 50), (.int .u8 38), (.int .u8 29), (.int .u8 17), (.int .u8 4), (.int .u8 62), (.int .u8 47), (.int .u8 59), (.int .u8 36), (.int .u8 45), (.int .u8 43), (.int .u8 51), (.int .u8 22), (.int .u8 53), (.int .u8 39), (.int .u8 33), (.int .u8 30), (.int .u8 24), (.int .u8 18), (.int .u8 12), (.int .u8 5), (.int .u8 63), (.int .u8 55), (.int .u8 48), (.int .u8 27), (.int .u8 60), (.int .u8 41), (.int .u8 37), (.int .u8 16), (.int .u8 46), (.int .u8 35), (.int .u8 44), (.int .u8 21), (.int .u8 52), (.int .u8 32), (.int .u8 23), (.int .u8 11), (.int .u8 54), (.int .u8 26), (.int .u8 40), (.int .u8 15), (.int .u8 34), (.int .u8 20), (.int .u8 31), (.int .u8 10), (.int .u8 25), (.int .u8 14), (.int .u8 19), (.int .u8 9), (.int .u8 13), (.int .u8 8), (.int .u8 7), (.int .u8 6)] e0 false)]⟩) B (KSt.low (mS0 w fr off n c l e1 e0)) Q := by
  rw [mC]; refine Gets.seq ?_
  refine Gets.ofN fitT fin_sound fin_agree 14 40 (by kernel_rfl) (x := .normal) (s' := (mS1 w fr off n c l e1 e0)) (mR1 w fr off n c l e1 e0) ?_
  show Gets _ _ (codeAt [1] B) _ _
  rw [mC1]; refine Gets.seq ?_
  rw [mC1_0]; refine Gets.seq ?_
  refine Gets.ofN fitT fin_sound fin_agree 14 40 (by kernel_rfl) (x := .normal) (s' := (mS2 w fr off n c l e1 e0)) ((mR2 w fr off n c l e1 e0).trans (by rw [condT (ibeq_t (by ((try simp (disch := omega) only [wrap_i64_id]) <;> omega)))])) ?_
  show Gets _ _ (codeAt [1, 0, 1] B) _ _
  rw [mC1_0_1]; refine Gets.cond true (by kernel_rfl) (show evalX (KSt.ts (mS2 w fr off n c l e1 e0)) (.tmp 16) = .bool true by kernel_rfl) ?_; show Gets _ _ (codeAt [1, 0, 1, 0] B) _ _
  rw [mC1_0_1_0]; refine Gets.seq ?_
  refine Gets.ofN fitT fin_sound fin_agree 14 40 (by kernel_rfl) (x := .normal) (s' := (mS4 off l e1 e0)) (mR3 w fr off n c l e1 e0) ?_
  show Gets _ _ (codeAt [1, 0, 1, 0, 1] B) _ _
  rw [mC1_0_1_0_1]; refine Gets.ev fitT.mix fitT.cfg (fitT.sound fin_sound 14 0) 14 rfl (s' := KSt.low (mS4 off l e1 e0)) (x := .ret) rfl ?_
  exact hq
theorem mR4 (w : Int) (fr : Int) (off : Nat) (n : Nat) (c : Nat) (l : List Int) (e1 : TypeId) (e0 : TypeId) : evCK Tryd.prog cfgT (runK Tryd.prog cfgT fsT (conTk finDom finK) 14 40) 14 (codeAt [1, 0, 1, 0, 0] B) (mS3 w fr off n c l e1 e0) (normC 2 [6]) =
  some (.normal, (mS4 off l e1 e0)) := by kernel_rfl
theorem z20 (w fr : Int) (off n c : Nat) (l : List Int) (e0 e1 : TypeId) (hn : 20 < n)   {Q : Ex → St → Prop} (hq : Q .ret (KSt.low (mS4 off l e1 e0))) : Gets Tryd.prog (KH.low ⟨2, 1, [(1, 0, .tail off .i64 l e1), (0, 0, .cells [(.int .u8 0), (.int .u8 1), (.int .u8 56), (.int .u8 2), (.int .u8 57), (.int .u8 49), (.int .u8 28), (.int .u8 3), (.int .u8 61), (.int .u8 58), (.int .u8 42), (.int .u8 50), (.int .u8 38), (.int .u8 29), (.int .u8 17), (.int .u8 4), (.int .u8 62), (.int .u8 47), (.int .u8 59), (.int .u8 36), (.int .u8 45), (.int .u8 43), (.int .u8 51), (.int .u8 22), (.int .u8 53), (.int .u8 39), (.int .u8 33), (.int .u8 30), (.int .u8 24), (.int .u8 18), (.int .u8 12), (.int .u8 5), (.int .u8 63), (.int .u8 55), (.int .u8 48), (.int .u8 27), (.int .u8 60), (.int .u8 41), (.int .u8 37), (.int .u8 16), (.int .u8 46), (.int .u8 35), (.int .u8 44), (.int .u8 21), (.int .u8 52), (.int .u8 32), (.int .u8 23), (.int .u8 11), (.int .u8 54), (.int .u8 26), (.int .u8 40), (.int .u8 15), (.int .u8 34), (.int .u8 20), (.int .u8 31), (.int .u8 10), (.int .u8 25), (.int .u8 14), (.int .u8 19), (.int .u8 9), (.int .u8 13), (.int .u8 8), (.int .u8 7), (.int .u8 6)] e0 false)]⟩) B (KSt.low (mS0 w fr off n c l e1 e0)) Q := by
  rw [mC]; refine Gets.seq ?_
  refine Gets.ofN fitT fin_sound fin_agree 14 40 (by kernel_rfl) (x := .normal) (s' := (mS1 w fr off n c l e1 e0)) (mR1 w fr off n c l e1 e0) ?_
  show Gets _ _ (codeAt [1] B) _ _
  rw [mC1]; refine Gets.seq ?_
  rw [mC1_0]; refine Gets.seq ?_
  refine Gets.ofN fitT fin_sound fin_agree 14 40 (by kernel_rfl) (x := .normal) (s' := (mS3 w fr off n c l e1 e0)) ((mR2 w fr off n c l e1 e0).trans (by rw [condF (ibeq_f (by ((try simp (disch := omega) only [wrap_i64_id]) <;> omega)))])) ?_
  show Gets _ _ (codeAt [1, 0, 1] B) _ _
  rw [mC1_0_1]; refine Gets.cond true (by kernel_rfl) ((show evalX (KSt.ts (mS3 w fr off n c l e1 e0)) (.tmp 16) = .bool (decide (((n : Nat) : Int) > 20)) by kernel_rfl).trans (by rw [(show (decide (((n : Nat) : Int) > 20)) = true from decide_eq_true (by ((try simp (disch := omega) only [wrap_i64_id]) <;> omega)))])) ?_; show Gets _ _ (codeAt [1, 0, 1, 0] B) _ _
  rw [mC1_0_1_0]; refine Gets.seq ?_
  refine Gets.ofN fitT fin_sound fin_agree 14 40 (by kernel_rfl) (x := .normal) (s' := (mS4 off l e1 e0)) (mR4 w fr off n c l e1 e0) ?_
  show Gets _ _ (codeAt [1, 0, 1, 0, 1] B) _ _
  rw [mC1_0_1_0_1]; refine Gets.ev fitT.mix fitT.cfg (fitT.sound fin_sound 14 0) 14 rfl (s' := KSt.low (mS4 off l e1 e0)) (x := .ret) rfl ?_
  exact hq
theorem mR5 (w : Int) (fr : Int) (off : Nat) (n : Nat) (c : Nat) (l : List Int) (e1 : TypeId) (e0 : TypeId) : evCK Tryd.prog cfgT (runK Tryd.prog cfgT fsT (conTk finDom finK) 14 40) 14 (codeAt [1, 0, 1, 1] B) (mS3 w fr off n c l e1 e0) (normC 2 [0, 1, 2]) =
  some (.normal, (mS1 w fr off n c l e1 e0)) := by kernel_rfl
theorem mC1_1 : (codeAt [1, 1] B) = .seq (codeAt [1, 1, 0] B) (codeAt [1, 1, 1] B) := by kernel_rfl
noncomputable def mS5 (w : Int) (fr : Int) (off : Nat) (n : Nat) (c : Nat) (n1 : Int) (l : List Int) (e1 : TypeId) (e0 : TypeId) : KSt := ⟨(frameL 100 [(0, (.int .u64 w)), (1, (.int .i64 fr)), (2, (.slice (some ⟨1, off, none⟩) n c)), (7, (.slice (some ⟨2, 0, none⟩) (List.length (plL w n1 8)) (List.length (plL w n1 8))))]), ⟨3, 1, [(2, 0, .ints .i64 ((plL w n1 8)) 3 true), (1, 0, .tail off .i64 l e1), (0, 0, .cells [(.int .u8 0), (.int .u8 1), (.int .u8 56), (.int .u8 2), (.int .u8 57), (.int .u8 49), (.int .u8 28), (.int .u8 3), (.int .u8 61), (.int .u8 58), (.int .u8 42), (.int .u8 50), (.int .u8 38), (.int .u8 29), (.int .u8 17), (.int .u8 4), (.int .u8 62), (.int .u8 47), (.int .u8 59), (.int .u8 36), (.int .u8 45), (.int .u8 43), (.int .u8 51), (.int .u8 22), (.int .u8 53), (.int .u8 39), (.int .u8 33), (.int .u8 30), (.int .u8 24), (.int .u8 18), (.int .u8 12), (.int .u8 5), (.int .u8 63), (.int .u8 55), (.int .u8 48), (.int .u8 27), (.int .u8 60), (.int .u8 41), (.int .u8 37), (.int .u8 16), (.int .u8 46), (.int .u8 35), (.int .u8 44), (.int .u8 21), (.int .u8 52), (.int .u8 32), (.int .u8 23), (.int .u8 11), (.int .u8 54), (.int .u8 26), (.int .u8 40), (.int .u8 15), (.int .u8 34), (.int .u8 20), (.int .u8 31), (.int .u8 10), (.int .u8 25), (.int .u8 14), (.int .u8 19), (.int .u8 9), (.int .u8 13), (.int .u8 8), (.int .u8 7), (.int .u8 6)] e0 false)]⟩⟩
theorem mR6 (w : Int) (fr : Int) (off : Nat) (n : Nat) (c : Nat) (l : List Int) (e1 : TypeId) (e0 : TypeId) : evCK Tryd.prog cfgT (runK Tryd.prog cfgT fsT (conTk finDom finK) 14 40) 14 (codeAt [1, 1, 0] B) (mS1 w fr off n c l e1 e0) (normC 2 [0, 1, 2, 7]) =
  if (0 : Int) ≤ 0 ∧ 0 < ((n : Nat) : Int) then
    bif (Nat.ble off (off + 0)) then
      obind (l[((off + 0) - off)]?) fun n1 =>
        some (.normal, (mS5 w fr off n c n1 l e1 e0))
    else
      none
  else
    none := by kernel_rfl
noncomputable def mS6 (w : Int) (fr : Int) (off : Nat) (n : Nat) (c : Nat) (l : List Int) (e1 : TypeId) (e0 : TypeId) : KSt := ⟨(frameL 100 [(0, (.int .u64 w)), (1, (.int .i64 fr)), (2, (.slice (some ⟨1, off, none⟩) n c)), (7, (.slice (some ⟨2, 0, none⟩) (List.length (plL w (l.getD 0 0) 8)) (List.length (plL w (l.getD 0 0) 8))))]), ⟨3, 1, [(2, 0, .ints .i64 ((plL w (l.getD 0 0) 8)) 3 true), (1, 0, .tail off .i64 l e1), (0, 0, .cells [(.int .u8 0), (.int .u8 1), (.int .u8 56), (.int .u8 2), (.int .u8 57), (.int .u8 49), (.int .u8 28), (.int .u8 3), (.int .u8 61), (.int .u8 58), (.int .u8 42), (.int .u8 50), (.int .u8 38), (.int .u8 29), (.int .u8 17), (.int .u8 4), (.int .u8 62), (.int .u8 47), (.int .u8 59), (.int .u8 36), (.int .u8 45), (.int .u8 43), (.int .u8 51), (.int .u8 22), (.int .u8 53), (.int .u8 39), (.int .u8 33), (.int .u8 30), (.int .u8 24), (.int .u8 18), (.int .u8 12), (.int .u8 5), (.int .u8 63), (.int .u8 55), (.int .u8 48), (.int .u8 27), (.int .u8 60), (.int .u8 41), (.int .u8 37), (.int .u8 16), (.int .u8 46), (.int .u8 35), (.int .u8 44), (.int .u8 21), (.int .u8 52), (.int .u8 32), (.int .u8 23), (.int .u8 11), (.int .u8 54), (.int .u8 26), (.int .u8 40), (.int .u8 15), (.int .u8 34), (.int .u8 20), (.int .u8 31), (.int .u8 10), (.int .u8 25), (.int .u8 14), (.int .u8 19), (.int .u8 9), (.int .u8 13), (.int .u8 8), (.int .u8 7), (.int .u8 6)] e0 false)]⟩⟩
theorem mC1_1_1 : (codeAt [1, 1, 1] B) = .seq (codeAt [1, 1, 1, 0] B) (codeAt [1, 1, 1, 1] B) := by kernel_rfl
noncomputable def mS7 (w : Int) (fr : Int) (off : Nat) (n : Nat) (c : Nat) (l : List Int) (e1 : TypeId) (e0 : TypeId) : KSt := ⟨(frameL 100 [(0, (.int .u64 w)), (1, (.int .i64 fr)), (2, (.slice (some ⟨1, off, none⟩) n c)), (7, (.slice (some ⟨2, 0, none⟩) (List.length (plL w (l.getD 0 0) 8)) (List.length (plL w (l.getD 0 0) 8)))), (8, (.int .i64 (-1)))]), ⟨3, 1, [(2, 0, .ints .i64 ((plL w (l.getD 0 0) 8)) 3 true), (1, 0, .tail off .i64 l e1), (0, 0, .cells [(.int .u8 0), (.int .u8 1), (.int .u8 56), (.int .u8 2), (.int .u8 57), (.int .u8 49), (.int .u8 28), (.int .u8 3), (.int .u8 61), (.int .u8 58), (.int .u8 42), (.int .u8 50), (.int .u8 38), (.int .u8 29), (.int .u8 17), (.int .u8 4), (.int .u8 62), (.int .u8 47), (.int .u8 59), (.int .u8 36), (.int .u8 45), (.int .u8 43), (.int .u8 51), (.int .u8 22), (.int .u8 53), (.int .u8 39), (.int .u8 33), (.int .u8 30), (.int .u8 24), (.int .u8 18), (.int .u8 12), (.int .u8 5), (.int .u8 63), (.int .u8 55), (.int .u8 48), (.int .u8 27), (.int .u8 60), (.int .u8 41), (.int .u8 37), (.int .u8 16), (.int .u8 46), (.int .u8 35), (.int .u8 44), (.int .u8 21), (.int .u8 52), (.int .u8 32), (.int .u8 23), (.int .u8 11), (.int .u8 54), (.int .u8 26), (.int .u8 40), (.int .u8 15), (.int .u8 34), (.int .u8 20), (.int .u8 31), (.int .u8 10), (.int .u8 25), (.int .u8 14), (.int .u8 19), (.int .u8 9), (.int .u8 13), (.int .u8 8), (.int .u8 7), (.int .u8 6)] e0 false)]⟩⟩
theorem mR7 (w : Int) (fr : Int) (off : Nat) (n : Nat) (c : Nat) (l : List Int) (e1 : TypeId) (e0 : TypeId) : evCK Tryd.prog cfgT (runK Tryd.prog cfgT fsT (conTk finDom finK) 14 40) 14 (codeAt [1, 1, 1, 0] B) (mS6 w fr off n c l e1 e0) (normC 2 [0, 1, 2, 7, 8]) =
  some (.normal, (mS7 w fr off n c l e1 e0)) := by kernel_rfl
theorem mC1_1_1_1 : (codeAt [1, 1, 1, 1] B) = .seq (codeAt [1, 1, 1, 1, 0] B) (codeAt [1, 1, 1, 1, 1] B) := by kernel_rfl
theorem mC1_1_1_1_0 : (codeAt [1, 1, 1, 1, 0] B) = .seq (codeAt [1, 1, 1, 1, 0, 0] B) (codeAt [1, 1, 1, 1, 0, 1] B) := by kernel_rfl
noncomputable def mS8 (w : Int) (fr : Int) (off : Nat) (n : Nat) (c : Nat) (l : List Int) (e1 : TypeId) (e0 : TypeId) : KSt := ⟨(frameL 100 [(0, (.int .u64 w)), (1, (.int .i64 fr)), (2, (.slice (some ⟨1, off, none⟩) n c)), (7, (.slice (some ⟨2, 0, none⟩) (List.length (plL w (l.getD 0 0) 8)) (List.length (plL w (l.getD 0 0) 8)))), (8, (.int .i64 (-1))), (31, (.bool (decide ((((List.length (plL w (l.getD 0 0) 8)) : Nat) : Int) > 0))))]), ⟨3, 1, [(2, 0, .ints .i64 ((plL w (l.getD 0 0) 8)) 3 true), (1, 0, .tail off .i64 l e1), (0, 0, .cells [(.int .u8 0), (.int .u8 1), (.int .u8 56), (.int .u8 2), (.int .u8 57), (.int .u8 49), (.int .u8 28), (.int .u8 3), (.int .u8 61), (.int .u8 58), (.int .u8 42), (.int .u8 50), (.int .u8 38), (.int .u8 29), (.int .u8 17), (.int .u8 4), (.int .u8 62), (.int .u8 47), (.int .u8 59), (.int .u8 36), (.int .u8 45), (.int .u8 43), (.int .u8 51), (.int .u8 22), (.int .u8 53), (.int .u8 39), (.int .u8 33), (.int .u8 30), (.int .u8 24), (.int .u8 18), (.int .u8 12), (.int .u8 5), (.int .u8 63), (.int .u8 55), (.int .u8 48), (.int .u8 27), (.int .u8 60), (.int .u8 41), (.int .u8 37), (.int .u8 16), (.int .u8 46), (.int .u8 35), (.int .u8 44), (.int .u8 21), (.int .u8 52), (.int .u8 32), (.int .u8 23), (.int .u8 11), (.int .u8 54), (.int .u8 26), (.int .u8 40), (.int .u8 15), (.int .u8 34), (.int .u8 20), (.int .u8 31), (.int .u8 10), (.int .u8 25), (.int .u8 14), (.int .u8 19), (.int .u8 9), (.int .u8 13), (.int .u8 8), (.int .u8 7), (.int .u8 6)] e0 false)]⟩⟩
theorem mR8 (w : Int) (fr : Int) (off : Nat) (n : Nat) (c : Nat) (l : List Int) (e1 : TypeId) (e0 : TypeId) : evCK Tryd.prog cfgT (runK Tryd.prog cfgT fsT (conTk finDom finK) 14 40) 14 (codeAt [1, 1, 1, 1, 0, 0] B) (mS7 w fr off n c l e1 e0) (normC 2 [0, 1, 2, 7, 8, 31]) =
  some (.normal, (mS8 w fr off n c l e1 e0)) := by kernel_rfl
theorem mC1_1_1_1_0_1 : (codeAt [1, 1, 1, 1, 0, 1] B) = .cond (.tmp 31) (codeAt [1, 1, 1, 1, 0, 1, 0] B) (codeAt [1, 1, 1, 1, 0, 1, 1] B) := by kernel_rfl
theorem mR9 (w : Int) (fr : Int) (off : Nat) (n : Nat) (c : Nat) (l : List Int) (e1 : TypeId) (e0 : TypeId) : evCK Tryd.prog cfgT (runK Tryd.prog cfgT fsT (conTk finDom finK) 14 40) 14 (codeAt [1, 1, 1, 1, 0, 1, 1] B) (mS8 w fr off n c l e1 e0) (normC 2 [0, 1, 2, 7, 8]) =
  some (.normal, (mS7 w fr off n c l e1 e0)) := by kernel_rfl
theorem mC1_1_1_1_1 : (codeAt [1, 1, 1, 1, 1] B) = .seq (codeAt [1, 1, 1, 1, 1, 0] B) (codeAt [1, 1, 1, 1, 1, 1] B) := by kernel_rfl
noncomputable def mS9 (off : Nat) (l : List Int) (e1 : TypeId) (e0 : TypeId) : KSt := ⟨(frameL 100 [(6, (.bool false))]), ⟨2, 1, [(1, 0, .tail off .i64 l e1), (0, 0, .cells [(.int .u8 0), (.int .u8 1), (.int .u8 56), (.int .u8 2), (.int .u8 57), (.int .u8 49), (.int .u8 28), (.int .u8 3), (.int .u8 61), (.int .u8 58), (.int .u8 42), (.int .u8 50), (.int .u8 38), (.int .u8 29), (.int .u8 17), (.int .u8 4), (.int .u8 62), (.int .u8 47), (.int .u8 59), (.int .u8 36), (.int .u8 45), (.int .u8 43), (.int .u8 51), (.int .u8 22), (.int .u8 53), (.int .u8 39), (.int .u8 33), (.int .u8 30), (.int .u8 24), (.int .u8 18), (.int .u8 12), (.int .u8 5), (.int .u8 63), (.int .u8 55), (.int .u8 48), (.int .u8 27), (.int .u8 60), (.int .u8 41), (.int .u8 37), (.int .u8 16), (.int .u8 46), (.int .u8 35), (.int .u8 44), (.int .u8 21), (.int .u8 52), (.int .u8 32), (.int .u8 23), (.int .u8 11), (.int .u8 54), (.int .u8 26), (.int .u8 40), (.int .u8 15), (.int .u8 34), (.int .u8 20), (.int .u8 31), (.int .u8 10), (.int .u8 25), (.int .u8 14), (.int .u8 19), (.int .u8 9), (.int .u8 13), (.int .u8 8), (.int .u8 7), (.int .u8 6)] e0 false)]⟩⟩
theorem mR10 (w : Int) (fr : Int) (off : Nat) (n : Nat) (c : Nat) (l : List Int) (e1 : TypeId) (e0 : TypeId) : evCK Tryd.prog cfgT (runK Tryd.prog cfgT fsT (conTk finDom finK) 14 40) 14 (codeAt [1, 1, 1, 1, 1, 0] B) (mS7 w fr off n c l e1 e0) (normC 2 [6]) =
  if (0 : Int) ≤ 0 ∧ 0 < ((n : Nat) : Int) then
    bif (Nat.ble off (off + 0)) then
      obind (l[((off + 0) - off)]?) fun n1 =>
        bif (isWord w) then
          bif (Nat.ble (0 + (List.length (plL w n1 8))) (List.length (plL w n1 8))) then
            bif (Nat.ble (0 + (List.length (plL w (l.getD 0 0) 8))) (List.length (plL w (l.getD 0 0) 8))) then
              bif (same3 (plL w n1 8) (plL w (l.getD 0 0) 8) (List.length (plL w n1 8)) (List.length (plL w (l.getD 0 0) 8))) then
                if (0 : Int) ≤ 0 ∧ 0 < ((n : Nat) : Int) then
                  bif (Nat.ble off (off + 0)) then
                    obind (l[((off + 0) - off)]?) fun n2 =>
                      bif (isWord w) then
                        bif ((firstP w n2) == (-1)) then
                          if (0 : Int) ≤ 0 ∧ 0 < ((n : Nat) : Int) then
                            bif (Nat.ble off (off + 0)) then
                              obind (l[((off + 0) - off)]?) fun n3 =>
                                bif ((popW ((matchW w n3))) == (((List.length (plL w (l.getD 0 0) 8)) : Nat) : Int)) then
                                  bif (Nat.ble off off) then
                                    bif (Nat.ble (off - off + n) (List.length l)) then
                                      bif (isWord w && Nat.ble n 1000) then
                                        bif (Nat.ble off off) then
                                          bif (Nat.ble (off - off + n) (List.length l)) then
                                            bif (Nat.ble n 1000) then
                                              bif ((firstI (byteV w) fr (List.take n (List.drop (off - off) l)) 8 0) == (firstI (byteRV w) fr (List.take n (List.drop (off - off) l)) 8 0)) then
                                                if (0 : Int) ≤ 0 ∧ 0 < ((n : Nat) : Int) then
                                                  bif (Nat.ble off (off + 0)) then
                                                    obind (l[((off + 0) - off)]?) fun n4 =>
                                                      if 0 ≤ (IntKind.wrap .i64 (((n : Nat) : Int) - 1)) ∧ (IntKind.wrap .i64 (((n : Nat) : Int) - 1)) < ((n : Nat) : Int) then
                                                        bif (Nat.ble off (off + ((Int.toNat ((IntKind.wrap .i64 (((n : Nat) : Int) - 1)))) * 1))) then
                                                          obind (l[((off + ((Int.toNat ((IntKind.wrap .i64 (((n : Nat) : Int) - 1)))) * 1)) - off)]?) fun n5 =>
                                                            if (0 : Int) ≤ 0 ∧ 0 < ((n : Nat) : Int) then
                                                              bif (Nat.ble off (off + 0)) then
                                                                obind (l[((off + 0) - off)]?) fun n6 =>
                                                                  if 0 ≤ (IntKind.wrap .i64 (((n : Nat) : Int) - 1)) ∧ (IntKind.wrap .i64 (((n : Nat) : Int) - 1)) < ((n : Nat) : Int) then
                                                                    bif (Nat.ble off (off + ((Int.toNat ((IntKind.wrap .i64 (((n : Nat) : Int) - 1)))) * 1))) then
                                                                      obind (l[((off + ((Int.toNat ((IntKind.wrap .i64 (((n : Nat) : Int) - 1)))) * 1)) - off)]?) fun n7 =>
                                                                        bif ((fillW w n4 n5) == (fillRV w n6 n7)) then
                                                                          some (.normal, (mS4 off l e1 e0))
                                                                        else
                                                                          some (.normal, (mS9 off l e1 e0))
                                                                    else
                                                                      none
                                                                  else
                                                                    none
                                                              else
                                                                none
                                                            else
                                                              none
                                                        else
                                                          none
                                                      else
                                                        none
                                                  else
                                                    none
                                                else
                                                  none
                                              else
                                                some (.normal, (mS9 off l e1 e0))
                                            else
                                              none
                                          else
                                            none
                                        else
                                          none
                                      else
                                        none
                                    else
                                      none
                                  else
                                    none
                                else
                                  some (.normal, (mS9 off l e1 e0))
                            else
                              none
                          else
                            none
                        else
                          some (.normal, (mS9 off l e1 e0))
                      else
                        none
                  else
                    none
                else
                  none
              else
                none
            else
              none
          else
            none
        else
          none
    else
      none
  else
    none := by kernel_rfl
theorem mC1_1_1_1_1_1 : (codeAt [1, 1, 1, 1, 1, 1] B) = .ret := by kernel_rfl
theorem pe (w fr : Int) (off n c : Nat) (l : List Int) (e0 e1 : TypeId) (hW : isWord w = true) (hn : 1 ≤ n) (hn2 : n ≤ 20) (hl : l.length = c) (hc : n ≤ c) (h8 : List.length (plL w (l.getD 0 0) 8) ≤ 8) (hC : popW (matchW w (l.getD 0 0)) = ((List.length (plL w (l.getD 0 0) 8) : Nat) : Int)) (hI : firstI (byteV w) fr (List.take n (List.drop (off - off) l)) 8 0 = firstI (byteRV w) fr (List.take n (List.drop (off - off) l)) 8 0) (hP : ∀ a b, fillW w a b = fillRV w a b) (he : List.length (plL w (l.getD 0 0) 8) = 0) (hF : firstP w (l.getD 0 0) = -1)   {Q : Ex → St → Prop} (hq : Q .ret (KSt.low (mS4 off l e1 e0))) : Gets Tryd.prog (KH.low ⟨2, 1, [(1, 0, .tail off .i64 l e1), (0, 0, .cells [(.int .u8 0), (.int .u8 1), (.int .u8 56), (.int .u8 2), (.int .u8 57), (.int .u8 49), (.int .u8 28), (.int .u8 3), (.int .u8 61), (.int .u8 58), (.int .u8 42), (.int .u8 50), (.int .u8 38), (.int .u8 29), (.int .u8 17), (.int .u8 4), (.int .u8 62), (.int .u8 47), (.int .u8 59), (.int .u8 36), (.int .u8 45), (.int .u8 43), (.int .u8 51), (.int .u8 22), (.int .u8 53), (.int .u8 39), (.int .u8 33), (.int .u8 30), (.int .u8 24), (.int .u8 18), (.int .u8 12), (.int .u8 5), (.int .u8 63), (.int .u8 55), (.int .u8 48), (.int .u8 27), (.int .u8 60), (.int .u8 41), (.int .u8 37), (.int .u8 16), (.int .u8 46), (.int .u8 35), (.int .u8 44), (.int .u8 21), (.int .u8 52), (.int .u8 32), (.int .u8 23), (.int .u8 11), (.int .u8 54), (.int .u8 26), (.int .u8 40), (.int .u8 15), (.int .u8 34), (.int .u8 20), (.int .u8 31), (.int .u8 10), (.int .u8 25), (.int .u8 14), (.int .u8 19), (.int .u8 9), (.int .u8 13), (.int .u8 8), (.int .u8 7), (.int .u8 6)] e0 false)]⟩) B (KSt.low (mS0 w fr off n c l e1 e0)) Q := by
  rw [mC]; refine Gets.seq ?_
  refine Gets.ofN fitT fin_sound fin_agree 14 40 (by kernel_rfl) (x := .normal) (s' := (mS1 w fr off n c l e1 e0)) (mR1 w fr off n c l e1 e0) ?_
  show Gets _ _ (codeAt [1] B) _ _
  rw [mC1]; refine Gets.seq ?_
  rw [mC1_0]; refine Gets.seq ?_
  refine Gets.ofN fitT fin_sound fin_agree 14 40 (by kernel_rfl) (x := .normal) (s' := (mS3 w fr off n c l e1 e0)) ((mR2 w fr off n c l e1 e0).trans (by rw [condF (ibeq_f (by ((try simp (disch := omega) only [wrap_i64_id]) <;> omega)))])) ?_
  show Gets _ _ (codeAt [1, 0, 1] B) _ _
  rw [mC1_0_1]; refine Gets.cond false (by kernel_rfl) ((show evalX (KSt.ts (mS3 w fr off n c l e1 e0)) (.tmp 16) = .bool (decide (((n : Nat) : Int) > 20)) by kernel_rfl).trans (by rw [(show (decide (((n : Nat) : Int) > 20)) = false from decide_eq_false (by ((try simp (disch := omega) only [wrap_i64_id]) <;> omega)))])) ?_; show Gets _ _ (codeAt [1, 0, 1, 1] B) _ _
  refine Gets.ofN fitT fin_sound fin_agree 14 40 (by kernel_rfl) (x := .normal) (s' := (mS1 w fr off n c l e1 e0)) (mR5 w fr off n c l e1 e0) ?_
  show Gets _ _ (codeAt [1, 1] B) _ _
  rw [mC1_1]; refine Gets.seq ?_
  refine Gets.ofN fitT fin_sound fin_agree 14 40 (by kernel_rfl) (x := .normal) (s' := (mS6 w fr off n c l e1 e0)) ((mR6 w fr off n c l e1 e0).trans (by rw [if_pos (⟨by ((try simp (disch := omega) only [wrap_i64_id]) <;> omega), by ((try simp (disch := omega) only [wrap_i64_id]) <;> omega)⟩), condT (Nat.ble_eq_true_of_le (by omega)), obind_at (k := 0) (by ((try simp (disch := omega) only [wrap_i64_id]) <;> omega)) (by ((try simp (disch := omega) only [wrap_i64_id]) <;> omega))] <;> rfl)) ?_
  show Gets _ _ (codeAt [1, 1, 1] B) _ _
  rw [mC1_1_1]; refine Gets.seq ?_
  refine Gets.ofN fitT fin_sound fin_agree 14 40 (by kernel_rfl) (x := .normal) (s' := (mS7 w fr off n c l e1 e0)) (mR7 w fr off n c l e1 e0) ?_
  show Gets _ _ (codeAt [1, 1, 1, 1] B) _ _
  rw [mC1_1_1_1]; refine Gets.seq ?_
  rw [mC1_1_1_1_0]; refine Gets.seq ?_
  refine Gets.ofN fitT fin_sound fin_agree 14 40 (by kernel_rfl) (x := .normal) (s' := (mS8 w fr off n c l e1 e0)) (mR8 w fr off n c l e1 e0) ?_
  show Gets _ _ (codeAt [1, 1, 1, 1, 0, 1] B) _ _
  rw [mC1_1_1_1_0_1]; refine Gets.cond false (by kernel_rfl) ((show evalX (KSt.ts (mS8 w fr off n c l e1 e0)) (.tmp 31) = .bool (decide ((((List.length (plL w (l.getD 0 0) 8)) : Nat) : Int) > 0)) by kernel_rfl).trans (by rw [(show (decide ((((List.length (plL w (l.getD 0 0) 8)) : Nat) : Int) > 0)) = false from by first | exact decide_eq_true (by omega) | exact decide_eq_false (by omega))])) ?_; show Gets _ _ (codeAt [1, 1, 1, 1, 0, 1, 1] B) _ _
  refine Gets.ofN fitT fin_sound fin_agree 14 40 (by kernel_rfl) (x := .normal) (s' := (mS7 w fr off n c l e1 e0)) (mR9 w fr off n c l e1 e0) ?_
  show Gets _ _ (codeAt [1, 1, 1, 1, 1] B) _ _
  rw [mC1_1_1_1_1]; refine Gets.seq ?_
  refine Gets.ofN fitT fin_sound fin_agree 14 40 (by kernel_rfl) (x := .normal) (s' := (mS4 off l e1 e0)) ((mR10 w fr off n c l e1 e0).trans (by rw [if_pos (⟨by ((try simp (disch := omega) only [wrap_i64_id]) <;> omega), by ((try simp (disch := omega) only [wrap_i64_id]) <;> omega)⟩), condT (Nat.ble_eq_true_of_le (by omega)), obind_at (k := 0) (by ((try simp (disch := omega) only [wrap_i64_id]) <;> omega)) (by ((try simp (disch := omega) only [wrap_i64_id]) <;> omega)), condT (hW), condT (Nat.ble_eq_true_of_le (by omega)), condT (Nat.ble_eq_true_of_le (by omega)), condT (same3_t rfl h8), if_pos (⟨by ((try simp (disch := omega) only [wrap_i64_id]) <;> omega), by ((try simp (disch := omega) only [wrap_i64_id]) <;> omega)⟩), condT (Nat.ble_eq_true_of_le (by omega)), obind_at (k := 0) (by ((try simp (disch := omega) only [wrap_i64_id]) <;> omega)) (by ((try simp (disch := omega) only [wrap_i64_id]) <;> omega)), condT (hW), condT (by rw [hF]; exact beq_self_eq_true _), if_pos (⟨by ((try simp (disch := omega) only [wrap_i64_id]) <;> omega), by ((try simp (disch := omega) only [wrap_i64_id]) <;> omega)⟩), condT (Nat.ble_eq_true_of_le (by omega)), obind_at (k := 0) (by ((try simp (disch := omega) only [wrap_i64_id]) <;> omega)) (by ((try simp (disch := omega) only [wrap_i64_id]) <;> omega)), condT (by rw [hC]; exact beq_self_eq_true _), condT (Nat.ble_eq_true_of_le (by omega)), condT (Nat.ble_eq_true_of_le (by omega)), condT (and_t (hW) (Nat.ble_eq_true_of_le (by omega))), condT (Nat.ble_eq_true_of_le (by omega)), condT (Nat.ble_eq_true_of_le (by omega)), condT (Nat.ble_eq_true_of_le (by omega)), condT (by rw [hI]; exact beq_self_eq_true _), if_pos (⟨by ((try simp (disch := omega) only [wrap_i64_id]) <;> omega), by ((try simp (disch := omega) only [wrap_i64_id]) <;> omega)⟩), condT (Nat.ble_eq_true_of_le (by omega)), obind_at (k := 0) (by ((try simp (disch := omega) only [wrap_i64_id]) <;> omega)) (by ((try simp (disch := omega) only [wrap_i64_id]) <;> omega)), if_pos (⟨by ((try simp (disch := omega) only [wrap_i64_id]) <;> omega), by ((try simp (disch := omega) only [wrap_i64_id]) <;> omega)⟩), condT (Nat.ble_eq_true_of_le (by omega)), obind_at (k := ((Int.toNat (IntKind.wrap .i64 (((n : Nat) : Int) - 1))) * 1)) (by ((try simp (disch := omega) only [wrap_i64_id]) <;> omega)) (by ((try simp (disch := omega) only [wrap_i64_id]) <;> omega)), if_pos (⟨by ((try simp (disch := omega) only [wrap_i64_id]) <;> omega), by ((try simp (disch := omega) only [wrap_i64_id]) <;> omega)⟩), condT (Nat.ble_eq_true_of_le (by omega)), obind_at (k := 0) (by ((try simp (disch := omega) only [wrap_i64_id]) <;> omega)) (by ((try simp (disch := omega) only [wrap_i64_id]) <;> omega)), if_pos (⟨by ((try simp (disch := omega) only [wrap_i64_id]) <;> omega), by ((try simp (disch := omega) only [wrap_i64_id]) <;> omega)⟩), condT (Nat.ble_eq_true_of_le (by omega)), obind_at (k := ((Int.toNat (IntKind.wrap .i64 (((n : Nat) : Int) - 1))) * 1)) (by ((try simp (disch := omega) only [wrap_i64_id]) <;> omega)) (by ((try simp (disch := omega) only [wrap_i64_id]) <;> omega)), condT (by rw [hP]; exact beq_self_eq_true _)] <;> rfl)) ?_
  show Gets _ _ (codeAt [1, 1, 1, 1, 1, 1] B) _ _
  rw [mC1_1_1_1_1_1]; refine Gets.ev fitT.mix fitT.cfg (fitT.sound fin_sound 14 0) 14 rfl (s' := KSt.low (mS4 off l e1 e0)) (x := .ret) rfl ?_
  exact hq
noncomputable def mS10 (w : Int) (fr : Int) (off : Nat) (n : Nat) (c : Nat) (l : List Int) (n1 : Int) (e1 : TypeId) (e0 : TypeId) : KSt := ⟨(frameL 100 [(0, (.int .u64 w)), (1, (.int .i64 fr)), (2, (.slice (some ⟨1, off, none⟩) n c)), (7, (.slice (some ⟨2, 0, none⟩) (List.length (plL w (l.getD 0 0) 8)) (List.length (plL w (l.getD 0 0) 8)))), (8, (.int .i64 n1))]), ⟨3, 1, [(2, 0, .ints .i64 ((plL w (l.getD 0 0) 8)) 3 true), (1, 0, .tail off .i64 l e1), (0, 0, .cells [(.int .u8 0), (.int .u8 1), (.int .u8 56), (.int .u8 2), (.int .u8 57), (.int .u8 49), (.int .u8 28), (.int .u8 3), (.int .u8 61), (.int .u8 58), (.int .u8 42), (.int .u8 50), (.int .u8 38), (.int .u8 29), (.int .u8 17), (.int .u8 4), (.int .u8 62), (.int .u8 47), (.int .u8 59), (.int .u8 36), (.int .u8 45), (.int .u8 43), (.int .u8 51), (.int .u8 22), (.int .u8 53), (.int .u8 39), (.int .u8 33), (.int .u8 30), (.int .u8 24), (.int .u8 18), (.int .u8 12), (.int .u8 5), (.int .u8 63), (.int .u8 55), (.int .u8 48), (.int .u8 27), (.int .u8 60), (.int .u8 41), (.int .u8 37), (.int .u8 16), (.int .u8 46), (.int .u8 35), (.int .u8 44), (.int .u8 21), (.int .u8 52), (.int .u8 32), (.int .u8 23), (.int .u8 11), (.int .u8 54), (.int .u8 26), (.int .u8 40), (.int .u8 15), (.int .u8 34), (.int .u8 20), (.int .u8 31), (.int .u8 10), (.int .u8 25), (.int .u8 14), (.int .u8 19), (.int .u8 9), (.int .u8 13), (.int .u8 8), (.int .u8 7), (.int .u8 6)] e0 false)]⟩⟩
theorem mR11 (w : Int) (fr : Int) (off : Nat) (n : Nat) (c : Nat) (l : List Int) (e1 : TypeId) (e0 : TypeId) : evCK Tryd.prog cfgT (runK Tryd.prog cfgT fsT (conTk finDom finK) 14 40) 14 (codeAt [1, 1, 1, 1, 0, 1, 0] B) (mS8 w fr off n c l e1 e0) (normC 2 [0, 1, 2, 7, 8]) =
  if (0 : Int) ≤ 0 ∧ 0 < (((List.length (plL w (l.getD 0 0) 8)) : Nat) : Int) then
    obind (((plL w (l.getD 0 0) 8))[0]?) fun n1 =>
      some (.normal, (mS10 w fr off n c l n1 e1 e0))
  else
    none := by kernel_rfl
noncomputable def mS11 (w : Int) (fr : Int) (off : Nat) (n : Nat) (c : Nat) (l : List Int) (e1 : TypeId) (e0 : TypeId) : KSt := ⟨(frameL 100 [(0, (.int .u64 w)), (1, (.int .i64 fr)), (2, (.slice (some ⟨1, off, none⟩) n c)), (7, (.slice (some ⟨2, 0, none⟩) (List.length (plL w (l.getD 0 0) 8)) (List.length (plL w (l.getD 0 0) 8)))), (8, (.int .i64 ((plL w (l.getD 0 0) 8).getD 0 0)))]), ⟨3, 1, [(2, 0, .ints .i64 ((plL w (l.getD 0 0) 8)) 3 true), (1, 0, .tail off .i64 l e1), (0, 0, .cells [(.int .u8 0), (.int .u8 1), (.int .u8 56), (.int .u8 2), (.int .u8 57), (.int .u8 49), (.int .u8 28), (.int .u8 3), (.int .u8 61), (.int .u8 58), (.int .u8 42), (.int .u8 50), (.int .u8 38), (.int .u8 29), (.int .u8 17), (.int .u8 4), (.int .u8 62), (.int .u8 47), (.int .u8 59), (.int .u8 36), (.int .u8 45), (.int .u8 43), (.int .u8 51), (.int .u8 22), (.int .u8 53), (.int .u8 39), (.int .u8 33), (.int .u8 30), (.int .u8 24), (.int .u8 18), (.int .u8 12), (.int .u8 5), (.int .u8 63), (.int .u8 55), (.int .u8 48), (.int .u8 27), (.int .u8 60), (.int .u8 41), (.int .u8 37), (.int .u8 16), (.int .u8 46), (.int .u8 35), (.int .u8 44), (.int .u8 21), (.int .u8 52), (.int .u8 32), (.int .u8 23), (.int .u8 11), (.int .u8 54), (.int .u8 26), (.int .u8 40), (.int .u8 15), (.int .u8 34), (.int .u8 20), (.int .u8 31), (.int .u8 10), (.int .u8 25), (.int .u8 14), (.int .u8 19), (.int .u8 9), (.int .u8 13), (.int .u8 8), (.int .u8 7), (.int .u8 6)] e0 false)]⟩⟩
theorem mR12 (w : Int) (fr : Int) (off : Nat) (n : Nat) (c : Nat) (l : List Int) (e1 : TypeId) (e0 : TypeId) : evCK Tryd.prog cfgT (runK Tryd.prog cfgT fsT (conTk finDom finK) 14 40) 14 (codeAt [1, 1, 1, 1, 1, 0] B) (mS11 w fr off n c l e1 e0) (normC 2 [6]) =
  if (0 : Int) ≤ 0 ∧ 0 < ((n : Nat) : Int) then
    bif (Nat.ble off (off + 0)) then
      obind (l[((off + 0) - off)]?) fun n1 =>
        bif (isWord w) then
          bif (Nat.ble (0 + (List.length (plL w n1 8))) (List.length (plL w n1 8))) then
            bif (Nat.ble (0 + (List.length (plL w (l.getD 0 0) 8))) (List.length (plL w (l.getD 0 0) 8))) then
              bif (same3 (plL w n1 8) (plL w (l.getD 0 0) 8) (List.length (plL w n1 8)) (List.length (plL w (l.getD 0 0) 8))) then
                if (0 : Int) ≤ 0 ∧ 0 < ((n : Nat) : Int) then
                  bif (Nat.ble off (off + 0)) then
                    obind (l[((off + 0) - off)]?) fun n2 =>
                      bif (isWord w) then
                        bif ((firstP w n2) == ((plL w (l.getD 0 0) 8).getD 0 0)) then
                          if (0 : Int) ≤ 0 ∧ 0 < ((n : Nat) : Int) then
                            bif (Nat.ble off (off + 0)) then
                              obind (l[((off + 0) - off)]?) fun n3 =>
                                bif ((popW ((matchW w n3))) == (((List.length (plL w (l.getD 0 0) 8)) : Nat) : Int)) then
                                  bif (Nat.ble off off) then
                                    bif (Nat.ble (off - off + n) (List.length l)) then
                                      bif (isWord w && Nat.ble n 1000) then
                                        bif (Nat.ble off off) then
                                          bif (Nat.ble (off - off + n) (List.length l)) then
                                            bif (Nat.ble n 1000) then
                                              bif ((firstI (byteV w) fr (List.take n (List.drop (off - off) l)) 8 0) == (firstI (byteRV w) fr (List.take n (List.drop (off - off) l)) 8 0)) then
                                                if (0 : Int) ≤ 0 ∧ 0 < ((n : Nat) : Int) then
                                                  bif (Nat.ble off (off + 0)) then
                                                    obind (l[((off + 0) - off)]?) fun n4 =>
                                                      if 0 ≤ (IntKind.wrap .i64 (((n : Nat) : Int) - 1)) ∧ (IntKind.wrap .i64 (((n : Nat) : Int) - 1)) < ((n : Nat) : Int) then
                                                        bif (Nat.ble off (off + ((Int.toNat ((IntKind.wrap .i64 (((n : Nat) : Int) - 1)))) * 1))) then
                                                          obind (l[((off + ((Int.toNat ((IntKind.wrap .i64 (((n : Nat) : Int) - 1)))) * 1)) - off)]?) fun n5 =>
                                                            if (0 : Int) ≤ 0 ∧ 0 < ((n : Nat) : Int) then
                                                              bif (Nat.ble off (off + 0)) then
                                                                obind (l[((off + 0) - off)]?) fun n6 =>
                                                                  if 0 ≤ (IntKind.wrap .i64 (((n : Nat) : Int) - 1)) ∧ (IntKind.wrap .i64 (((n : Nat) : Int) - 1)) < ((n : Nat) : Int) then
                                                                    bif (Nat.ble off (off + ((Int.toNat ((IntKind.wrap .i64 (((n : Nat) : Int) - 1)))) * 1))) then
                                                                      obind (l[((off + ((Int.toNat ((IntKind.wrap .i64 (((n : Nat) : Int) - 1)))) * 1)) - off)]?) fun n7 =>
                                                                        bif ((fillW w n4 n5) == (fillRV w n6 n7)) then
                                                                          some (.normal, (mS4 off l e1 e0))
                                                                        else
                                                                          some (.normal, (mS9 off l e1 e0))
                                                                    else
                                                                      none
                                                                  else
                                                                    none
                                                              else
                                                                none
                                                            else
                                                              none
                                                        else
                                                          none
                                                      else
                                                        none
                                                  else
                                                    none
                                                else
                                                  none
                                              else
                                                some (.normal, (mS9 off l e1 e0))
                                            else
                                              none
                                          else
                                            none
                                        else
                                          none
                                      else
                                        none
                                    else
                                      none
                                  else
                                    none
                                else
                                  some (.normal, (mS9 off l e1 e0))
                            else
                              none
                          else
                            none
                        else
                          some (.normal, (mS9 off l e1 e0))
                      else
                        none
                  else
                    none
                else
                  none
              else
                none
            else
              none
          else
            none
        else
          none
    else
      none
  else
    none := by kernel_rfl
theorem pn (w fr : Int) (off n c : Nat) (l : List Int) (e0 e1 : TypeId) (hW : isWord w = true) (hn : 1 ≤ n) (hn2 : n ≤ 20) (hl : l.length = c) (hc : n ≤ c) (h8 : List.length (plL w (l.getD 0 0) 8) ≤ 8) (hC : popW (matchW w (l.getD 0 0)) = ((List.length (plL w (l.getD 0 0) 8) : Nat) : Int)) (hI : firstI (byteV w) fr (List.take n (List.drop (off - off) l)) 8 0 = firstI (byteRV w) fr (List.take n (List.drop (off - off) l)) 8 0) (hP : ∀ a b, fillW w a b = fillRV w a b) (he : 1 ≤ List.length (plL w (l.getD 0 0) 8)) (hF : firstP w (l.getD 0 0) = (List.getD (plL w (l.getD 0 0) 8) 0 0))   {Q : Ex → St → Prop} (hq : Q .ret (KSt.low (mS4 off l e1 e0))) : Gets Tryd.prog (KH.low ⟨2, 1, [(1, 0, .tail off .i64 l e1), (0, 0, .cells [(.int .u8 0), (.int .u8 1), (.int .u8 56), (.int .u8 2), (.int .u8 57), (.int .u8 49), (.int .u8 28), (.int .u8 3), (.int .u8 61), (.int .u8 58), (.int .u8 42), (.int .u8 50), (.int .u8 38), (.int .u8 29), (.int .u8 17), (.int .u8 4), (.int .u8 62), (.int .u8 47), (.int .u8 59), (.int .u8 36), (.int .u8 45), (.int .u8 43), (.int .u8 51), (.int .u8 22), (.int .u8 53), (.int .u8 39), (.int .u8 33), (.int .u8 30), (.int .u8 24), (.int .u8 18), (.int .u8 12), (.int .u8 5), (.int .u8 63), (.int .u8 55), (.int .u8 48), (.int .u8 27), (.int .u8 60), (.int .u8 41), (.int .u8 37), (.int .u8 16), (.int .u8 46), (.int .u8 35), (.int .u8 44), (.int .u8 21), (.int .u8 52), (.int .u8 32), (.int .u8 23), (.int .u8 11), (.int .u8 54), (.int .u8 26), (.int .u8 40), (.int .u8 15), (.int .u8 34), (.int .u8 20), (.int .u8 31), (.int .u8 10), (.int .u8 25), (.int .u8 14), (.int .u8 19), (.int .u8 9), (.int .u8 13), (.int .u8 8), (.int .u8 7), (.int .u8 6)] e0 false)]⟩) B (KSt.low (mS0 w fr off n c l e1 e0)) Q := by
  rw [mC]; refine Gets.seq ?_
  refine Gets.ofN fitT fin_sound fin_agree 14 40 (by kernel_rfl) (x := .normal) (s' := (mS1 w fr off n c l e1 e0)) (mR1 w fr off n c l e1 e0) ?_
  show Gets _ _ (codeAt [1] B) _ _
  rw [mC1]; refine Gets.seq ?_
  rw [mC1_0]; refine Gets.seq ?_
  refine Gets.ofN fitT fin_sound fin_agree 14 40 (by kernel_rfl) (x := .normal) (s' := (mS3 w fr off n c l e1 e0)) ((mR2 w fr off n c l e1 e0).trans (by rw [condF (ibeq_f (by ((try simp (disch := omega) only [wrap_i64_id]) <;> omega)))])) ?_
  show Gets _ _ (codeAt [1, 0, 1] B) _ _
  rw [mC1_0_1]; refine Gets.cond false (by kernel_rfl) ((show evalX (KSt.ts (mS3 w fr off n c l e1 e0)) (.tmp 16) = .bool (decide (((n : Nat) : Int) > 20)) by kernel_rfl).trans (by rw [(show (decide (((n : Nat) : Int) > 20)) = false from decide_eq_false (by ((try simp (disch := omega) only [wrap_i64_id]) <;> omega)))])) ?_; show Gets _ _ (codeAt [1, 0, 1, 1] B) _ _
  refine Gets.ofN fitT fin_sound fin_agree 14 40 (by kernel_rfl) (x := .normal) (s' := (mS1 w fr off n c l e1 e0)) (mR5 w fr off n c l e1 e0) ?_
  show Gets _ _ (codeAt [1, 1] B) _ _
  rw [mC1_1]; refine Gets.seq ?_
  refine Gets.ofN fitT fin_sound fin_agree 14 40 (by kernel_rfl) (x := .normal) (s' := (mS6 w fr off n c l e1 e0)) ((mR6 w fr off n c l e1 e0).trans (by rw [if_pos (⟨by ((try simp (disch := omega) only [wrap_i64_id]) <;> omega), by ((try simp (disch := omega) only [wrap_i64_id]) <;> omega)⟩), condT (Nat.ble_eq_true_of_le (by omega)), obind_at (k := 0) (by ((try simp (disch := omega) only [wrap_i64_id]) <;> omega)) (by ((try simp (disch := omega) only [wrap_i64_id]) <;> omega))] <;> rfl)) ?_
  show Gets _ _ (codeAt [1, 1, 1] B) _ _
  rw [mC1_1_1]; refine Gets.seq ?_
  refine Gets.ofN fitT fin_sound fin_agree 14 40 (by kernel_rfl) (x := .normal) (s' := (mS7 w fr off n c l e1 e0)) (mR7 w fr off n c l e1 e0) ?_
  show Gets _ _ (codeAt [1, 1, 1, 1] B) _ _
  rw [mC1_1_1_1]; refine Gets.seq ?_
  rw [mC1_1_1_1_0]; refine Gets.seq ?_
  refine Gets.ofN fitT fin_sound fin_agree 14 40 (by kernel_rfl) (x := .normal) (s' := (mS8 w fr off n c l e1 e0)) (mR8 w fr off n c l e1 e0) ?_
  show Gets _ _ (codeAt [1, 1, 1, 1, 0, 1] B) _ _
  rw [mC1_1_1_1_0_1]; refine Gets.cond true (by kernel_rfl) ((show evalX (KSt.ts (mS8 w fr off n c l e1 e0)) (.tmp 31) = .bool (decide ((((List.length (plL w (l.getD 0 0) 8)) : Nat) : Int) > 0)) by kernel_rfl).trans (by rw [(show (decide ((((List.length (plL w (l.getD 0 0) 8)) : Nat) : Int) > 0)) = true from by first | exact decide_eq_true (by omega) | exact decide_eq_false (by omega))])) ?_; show Gets _ _ (codeAt [1, 1, 1, 1, 0, 1, 0] B) _ _
  refine Gets.ofN fitT fin_sound fin_agree 14 40 (by kernel_rfl) (x := .normal) (s' := (mS11 w fr off n c l e1 e0)) ((mR11 w fr off n c l e1 e0).trans (by rw [if_pos (⟨by ((try simp (disch := omega) only [wrap_i64_id]) <;> omega), by ((try simp (disch := omega) only [wrap_i64_id]) <;> omega)⟩), obind_at (k := 0) (by ((try simp (disch := omega) only [wrap_i64_id]) <;> omega)) (by ((try simp (disch := omega) only [wrap_i64_id]) <;> omega))] <;> rfl)) ?_
  show Gets _ _ (codeAt [1, 1, 1, 1, 1] B) _ _
  rw [mC1_1_1_1_1]; refine Gets.seq ?_
  refine Gets.ofN fitT fin_sound fin_agree 14 40 (by kernel_rfl) (x := .normal) (s' := (mS4 off l e1 e0)) ((mR12 w fr off n c l e1 e0).trans (by rw [if_pos (⟨by ((try simp (disch := omega) only [wrap_i64_id]) <;> omega), by ((try simp (disch := omega) only [wrap_i64_id]) <;> omega)⟩), condT (Nat.ble_eq_true_of_le (by omega)), obind_at (k := 0) (by ((try simp (disch := omega) only [wrap_i64_id]) <;> omega)) (by ((try simp (disch := omega) only [wrap_i64_id]) <;> omega)), condT (hW), condT (Nat.ble_eq_true_of_le (by omega)), condT (Nat.ble_eq_true_of_le (by omega)), condT (same3_t rfl h8), if_pos (⟨by ((try simp (disch := omega) only [wrap_i64_id]) <;> omega), by ((try simp (disch := omega) only [wrap_i64_id]) <;> omega)⟩), condT (Nat.ble_eq_true_of_le (by omega)), obind_at (k := 0) (by ((try simp (disch := omega) only [wrap_i64_id]) <;> omega)) (by ((try simp (disch := omega) only [wrap_i64_id]) <;> omega)), condT (hW), condT (by rw [hF]; exact beq_self_eq_true _), if_pos (⟨by ((try simp (disch := omega) only [wrap_i64_id]) <;> omega), by ((try simp (disch := omega) only [wrap_i64_id]) <;> omega)⟩), condT (Nat.ble_eq_true_of_le (by omega)), obind_at (k := 0) (by ((try simp (disch := omega) only [wrap_i64_id]) <;> omega)) (by ((try simp (disch := omega) only [wrap_i64_id]) <;> omega)), condT (by rw [hC]; exact beq_self_eq_true _), condT (Nat.ble_eq_true_of_le (by omega)), condT (Nat.ble_eq_true_of_le (by omega)), condT (and_t (hW) (Nat.ble_eq_true_of_le (by omega))), condT (Nat.ble_eq_true_of_le (by omega)), condT (Nat.ble_eq_true_of_le (by omega)), condT (Nat.ble_eq_true_of_le (by omega)), condT (by rw [hI]; exact beq_self_eq_true _), if_pos (⟨by ((try simp (disch := omega) only [wrap_i64_id]) <;> omega), by ((try simp (disch := omega) only [wrap_i64_id]) <;> omega)⟩), condT (Nat.ble_eq_true_of_le (by omega)), obind_at (k := 0) (by ((try simp (disch := omega) only [wrap_i64_id]) <;> omega)) (by ((try simp (disch := omega) only [wrap_i64_id]) <;> omega)), if_pos (⟨by ((try simp (disch := omega) only [wrap_i64_id]) <;> omega), by ((try simp (disch := omega) only [wrap_i64_id]) <;> omega)⟩), condT (Nat.ble_eq_true_of_le (by omega)), obind_at (k := ((Int.toNat (IntKind.wrap .i64 (((n : Nat) : Int) - 1))) * 1)) (by ((try simp (disch := omega) only [wrap_i64_id]) <;> omega)) (by ((try simp (disch := omega) only [wrap_i64_id]) <;> omega)), if_pos (⟨by ((try simp (disch := omega) only [wrap_i64_id]) <;> omega), by ((try simp (disch := omega) only [wrap_i64_id]) <;> omega)⟩), condT (Nat.ble_eq_true_of_le (by omega)), obind_at (k := 0) (by ((try simp (disch := omega) only [wrap_i64_id]) <;> omega)) (by ((try simp (disch := omega) only [wrap_i64_id]) <;> omega)), if_pos (⟨by ((try simp (disch := omega) only [wrap_i64_id]) <;> omega), by ((try simp (disch := omega) only [wrap_i64_id]) <;> omega)⟩), condT (Nat.ble_eq_true_of_le (by omega)), obind_at (k := ((Int.toNat (IntKind.wrap .i64 (((n : Nat) : Int) - 1))) * 1)) (by ((try simp (disch := omega) only [wrap_i64_id]) <;> omega)) (by ((try simp (disch := omega) only [wrap_i64_id]) <;> omega)), condT (by rw [hP]; exact beq_self_eq_true _)] <;> rfl)) ?_
  show Gets _ _ (codeAt [1, 1, 1, 1, 1, 1] B) _ _
  rw [mC1_1_1_1_1_1]; refine Gets.ev fitT.mix fitT.cfg (fitT.sound fin_sound 14 0) 14 rfl (s' := KSt.low (mS4 off l e1 e0)) (x := .ret) rfl ?_
  exact hq
noncomputable def BN : Code := bodyOf Tryd.prog 4
theorem BN_is : Tryd.f4.body = some BN := by kernel_rfl
theorem BN_ok : okCode Tryd.prog.globals.size BN = true := by kernel_rfl
noncomputable def oS0 (w : Int) (fr : Int) (e0 : TypeId) : KSt := (firstK [(.int .u64 w), (.int .i64 fr), (.slice (some ⟨1, 0, none⟩) 0 0)] 100 ⟨2, 1, [(0, 0, .cells [(.int .u8 0), (.int .u8 1), (.int .u8 56), (.int .u8 2), (.int .u8 57), (.int .u8 49), (.int .u8 28), (.int .u8 3), (.int .u8 61), (.int .u8 58), (.int .u8 42), (.int .u8 50), (.int .u8 38), (.int .u8 29), (.int .u8 17), (.int .u8 4), (.int .u8 62), (.int .u8 47), (.int .u8 59), (.int .u8 36), (.int .u8 45), (.int .u8 43), (.int .u8 51), (.int .u8 22), (.int .u8 53), (.int .u8 39), (.int .u8 33), (.int .u8 30), (.int .u8 24), (.int .u8 18), (.int .u8 12), (.int .u8 5), (.int .u8 63), (.int .u8 55), (.int .u8 48), (.int .u8 27), (.int .u8 60), (.int .u8 41), (.int .u8 37), (.int .u8 16), (.int .u8 46), (.int .u8 35), (.int .u8 44), (.int .u8 21), (.int .u8 52), (.int .u8 32), (.int .u8 23), (.int .u8 11), (.int .u8 54), (.int .u8 26), (.int .u8 40), (.int .u8 15), (.int .u8 34), (.int .u8 20), (.int .u8 31), (.int .u8 10), (.int .u8 25), (.int .u8 14), (.int .u8 19), (.int .u8 9), (.int .u8 13), (.int .u8 8), (.int .u8 7), (.int .u8 6)] e0 false)]⟩)
theorem oC : BN = .seq (codeAt [0] BN) (codeAt [1] BN) := by kernel_rfl
noncomputable def oS1 (w : Int) (fr : Int) (e0 : TypeId) : KSt := ⟨(frameL 100 [(0, (.int .u64 w)), (1, (.int .i64 fr)), (2, (.slice (some ⟨1, 0, none⟩) 0 0))]), ⟨2, 1, [(0, 0, .cells [(.int .u8 0), (.int .u8 1), (.int .u8 56), (.int .u8 2), (.int .u8 57), (.int .u8 49), (.int .u8 28), (.int .u8 3), (.int .u8 61), (.int .u8 58), (.int .u8 42), (.int .u8 50), (.int .u8 38), (.int .u8 29), (.int .u8 17), (.int .u8 4), (.int .u8 62), (.int .u8 47), (.int .u8 59), (.int .u8 36), (.int .u8 45), (.int .u8 43), (.int .u8 51), (.int .u8 22), (.int .u8 53), (.int .u8 39), (.int .u8 33), (.int .u8 30), (.int .u8 24), (.int .u8 18), (.int .u8 12), (.int .u8 5), (.int .u8 63), (.int .u8 55), (.int .u8 48), (.int .u8 27), (.int .u8 60), (.int .u8 41), (.int .u8 37), (.int .u8 16), (.int .u8 46), (.int .u8 35), (.int .u8 44), (.int .u8 21), (.int .u8 52), (.int .u8 32), (.int .u8 23), (.int .u8 11), (.int .u8 54), (.int .u8 26), (.int .u8 40), (.int .u8 15), (.int .u8 34), (.int .u8 20), (.int .u8 31), (.int .u8 10), (.int .u8 25), (.int .u8 14), (.int .u8 19), (.int .u8 9), (.int .u8 13), (.int .u8 8), (.int .u8 7), (.int .u8 6)] e0 false)]⟩⟩
theorem oR1 (w : Int) (fr : Int) (e0 : TypeId) : evCK Tryd.prog cfgT (runK Tryd.prog cfgT fsT (conTk finDom finK) 14 40) 14 (codeAt [0] BN) (oS0 w fr e0) (normC 2 [0, 1, 2]) =
  some (.normal, (oS1 w fr e0)) := by kernel_rfl
theorem oC1 : (codeAt [1] BN) = .seq (codeAt [1, 0] BN) (codeAt [1, 1] BN) := by kernel_rfl
theorem oC1_0 : (codeAt [1, 0] BN) = .seq (codeAt [1, 0, 0] BN) (codeAt [1, 0, 1] BN) := by kernel_rfl
noncomputable def oS2 (w : Int) (fr : Int) (e0 : TypeId) : KSt := ⟨(frameL 100 [(0, (.int .u64 w)), (1, (.int .i64 fr)), (2, (.slice (some ⟨1, 0, none⟩) 0 0)), (16, (.bool true))]), ⟨2, 1, [(0, 0, .cells [(.int .u8 0), (.int .u8 1), (.int .u8 56), (.int .u8 2), (.int .u8 57), (.int .u8 49), (.int .u8 28), (.int .u8 3), (.int .u8 61), (.int .u8 58), (.int .u8 42), (.int .u8 50), (.int .u8 38), (.int .u8 29), (.int .u8 17), (.int .u8 4), (.int .u8 62), (.int .u8 47), (.int .u8 59), (.int .u8 36), (.int .u8 45), (.int .u8 43), (.int .u8 51), (.int .u8 22), (.int .u8 53), (.int .u8 39), (.int .u8 33), (.int .u8 30), (.int .u8 24), (.int .u8 18), (.int .u8 12), (.int .u8 5), (.int .u8 63), (.int .u8 55), (.int .u8 48), (.int .u8 27), (.int .u8 60), (.int .u8 41), (.int .u8 37), (.int .u8 16), (.int .u8 46), (.int .u8 35), (.int .u8 44), (.int .u8 21), (.int .u8 52), (.int .u8 32), (.int .u8 23), (.int .u8 11), (.int .u8 54), (.int .u8 26), (.int .u8 40), (.int .u8 15), (.int .u8 34), (.int .u8 20), (.int .u8 31), (.int .u8 10), (.int .u8 25), (.int .u8 14), (.int .u8 19), (.int .u8 9), (.int .u8 13), (.int .u8 8), (.int .u8 7), (.int .u8 6)] e0 false)]⟩⟩
theorem oR2 (w : Int) (fr : Int) (e0 : TypeId) : evCK Tryd.prog cfgT (runK Tryd.prog cfgT fsT (conTk finDom finK) 14 40) 14 (codeAt [1, 0, 0] BN) (oS1 w fr e0) (normC 2 [0, 1, 2, 16]) =
  some (.normal, (oS2 w fr e0)) := by kernel_rfl
theorem oC1_0_1 : (codeAt [1, 0, 1] BN) = .cond (.tmp 16) (codeAt [1, 0, 1, 0] BN) (codeAt [1, 0, 1, 1] BN) := by kernel_rfl
theorem oC1_0_1_0 : (codeAt [1, 0, 1, 0] BN) = .seq (codeAt [1, 0, 1, 0, 0] BN) (codeAt [1, 0, 1, 0, 1] BN) := by kernel_rfl
noncomputable def oS3 (e0 : TypeId) : KSt := ⟨(frameL 100 [(6, (.bool true))]), ⟨2, 1, [(0, 0, .cells [(.int .u8 0), (.int .u8 1), (.int .u8 56), (.int .u8 2), (.int .u8 57), (.int .u8 49), (.int .u8 28), (.int .u8 3), (.int .u8 61), (.int .u8 58), (.int .u8 42), (.int .u8 50), (.int .u8 38), (.int .u8 29), (.int .u8 17), (.int .u8 4), (.int .u8 62), (.int .u8 47), (.int .u8 59), (.int .u8 36), (.int .u8 45), (.int .u8 43), (.int .u8 51), (.int .u8 22), (.int .u8 53), (.int .u8 39), (.int .u8 33), (.int .u8 30), (.int .u8 24), (.int .u8 18), (.int .u8 12), (.int .u8 5), (.int .u8 63), (.int .u8 55), (.int .u8 48), (.int .u8 27), (.int .u8 60), (.int .u8 41), (.int .u8 37), (.int .u8 16), (.int .u8 46), (.int .u8 35), (.int .u8 44), (.int .u8 21), (.int .u8 52), (.int .u8 32), (.int .u8 23), (.int .u8 11), (.int .u8 54), (.int .u8 26), (.int .u8 40), (.int .u8 15), (.int .u8 34), (.int .u8 20), (.int .u8 31), (.int .u8 10), (.int .u8 25), (.int .u8 14), (.int .u8 19), (.int .u8 9), (.int .u8 13), (.int .u8 8), (.int .u8 7), (.int .u8 6)] e0 false)]⟩⟩
theorem oR3 (w : Int) (fr : Int) (e0 : TypeId) : evCK Tryd.prog cfgT (runK Tryd.prog cfgT fsT (conTk finDom finK) 14 40) 14 (codeAt [1, 0, 1, 0, 0] BN) (oS2 w fr e0) (normC 2 [6]) =
  some (.normal, (oS3 e0)) := by kernel_rfl
theorem oC1_0_1_0_1 : (codeAt [1, 0, 1, 0, 1] BN) = .ret := by kernel_rfl
theorem on (w fr : Int) (off n c : Nat) (l : List Int) (e0 e1 : TypeId)   {Q : Ex → St → Prop} (hq : Q .ret (KSt.low (oS3 e0))) : Gets Tryd.prog (KH.low ⟨2, 1, [(0, 0, .cells [(.int .u8 0), (.int .u8 1), (.int .u8 56), (.int .u8 2), (.int .u8 57), (.int .u8 49), (.int .u8 28), (.int .u8 3), (.int .u8 61), (.int .u8 58), (.int .u8 42), (.int .u8 50), (.int .u8 38), (.int .u8 29), (.int .u8 17), (.int .u8 4), (.int .u8 62), (.int .u8 47), (.int .u8 59), (.int .u8 36), (.int .u8 45), (.int .u8 43), (.int .u8 51), (.int .u8 22), (.int .u8 53), (.int .u8 39), (.int .u8 33), (.int .u8 30), (.int .u8 24), (.int .u8 18), (.int .u8 12), (.int .u8 5), (.int .u8 63), (.int .u8 55), (.int .u8 48), (.int .u8 27), (.int .u8 60), (.int .u8 41), (.int .u8 37), (.int .u8 16), (.int .u8 46), (.int .u8 35), (.int .u8 44), (.int .u8 21), (.int .u8 52), (.int .u8 32), (.int .u8 23), (.int .u8 11), (.int .u8 54), (.int .u8 26), (.int .u8 40), (.int .u8 15), (.int .u8 34), (.int .u8 20), (.int .u8 31), (.int .u8 10), (.int .u8 25), (.int .u8 14), (.int .u8 19), (.int .u8 9), (.int .u8 13), (.int .u8 8), (.int .u8 7), (.int .u8 6)] e0 false)]⟩) BN (KSt.low (oS0 w fr e0)) Q := by
  rw [oC]; refine Gets.seq ?_
  refine Gets.ofN fitT fin_sound fin_agree 14 40 (by kernel_rfl) (x := .normal) (s' := (oS1 w fr e0)) (oR1 w fr e0) ?_
  show Gets _ _ (codeAt [1] BN) _ _
  rw [oC1]; refine Gets.seq ?_
  rw [oC1_0]; refine Gets.seq ?_
  refine Gets.ofN fitT fin_sound fin_agree 14 40 (by kernel_rfl) (x := .normal) (s' := (oS2 w fr e0)) (oR2 w fr e0) ?_
  show Gets _ _ (codeAt [1, 0, 1] BN) _ _
  rw [oC1_0_1]; refine Gets.cond true (by kernel_rfl) (show evalX (KSt.ts (oS2 w fr e0)) (.tmp 16) = .bool true by kernel_rfl) ?_; show Gets _ _ (codeAt [1, 0, 1, 0] BN) _ _
  rw [oC1_0_1_0]; refine Gets.seq ?_
  refine Gets.ofN fitT fin_sound fin_agree 14 40 (by kernel_rfl) (x := .normal) (s' := (oS3 e0)) (oR3 w fr e0) ?_
  show Gets _ _ (codeAt [1, 0, 1, 0, 1] BN) _ _
  rw [oC1_0_1_0_1]; refine Gets.ev fitT.mix fitT.cfg (fitT.sound fin_sound 14 0) 14 rfl (s' := KSt.low (oS3 e0)) (x := .ret) rfl ?_
  exact hq

noncomputable def QE : Ex → St → Prop := Eng.Ends Tryd.prog Tryd.f4.results.toList fun r _ => r = .bool true
theorem qe_true {s : KSt} (h : resL Tryd.prog s.low Tryd.f4.results.toList = some [.bool true]) : QE .ret s.low := Ends.of h rfl
theorem told (w fr : Int) (off n c : Nat) (l : List Int) (e0 e1 : TypeId) (hw : word w) (hc : n ≤ c) (hl : l.length = c) :
    Tells Tryd.prog 4 [.int .u64 w, .int .i64 fr, .slice (some ⟨1, off, none⟩) n c] (varRow .u8 tz e0 off .i64 l e1).low (.bool true) := by
  refine Gets.tells Tryd.func4 B_is (by rw [oneVar]; exact (show (1 : Nat) ≤ 2 by decide)) rfl ?_ Ro.varRow
  show Gets Tryd.prog (KH.low ⟨2, 1, [(1, 0, .tail off .i64 l e1), (0, 0, .cells [(.int .u8 0), (.int .u8 1), (.int .u8 56), (.int .u8 2), (.int .u8 57), (.int .u8 49), (.int .u8 28), (.int .u8 3), (.int .u8 61), (.int .u8 58), (.int .u8 42), (.int .u8 50), (.int .u8 38), (.int .u8 29), (.int .u8 17), (.int .u8 4), (.int .u8 62), (.int .u8 47), (.int .u8 59), (.int .u8 36), (.int .u8 45), (.int .u8 43), (.int .u8 51), (.int .u8 22), (.int .u8 53), (.int .u8 39), (.int .u8 33), (.int .u8 30), (.int .u8 24), (.int .u8 18), (.int .u8 12), (.int .u8 5), (.int .u8 63), (.int .u8 55), (.int .u8 48), (.int .u8 27), (.int .u8 60), (.int .u8 41), (.int .u8 37), (.int .u8 16), (.int .u8 46), (.int .u8 35), (.int .u8 44), (.int .u8 21), (.int .u8 52), (.int .u8 32), (.int .u8 23), (.int .u8 11), (.int .u8 54), (.int .u8 26), (.int .u8 40), (.int .u8 15), (.int .u8 34), (.int .u8 20), (.int .u8 31), (.int .u8 10), (.int .u8 25), (.int .u8 14), (.int .u8 19), (.int .u8 9), (.int .u8 13), (.int .u8 8), (.int .u8 7), (.int .u8 6)] e0 false)]⟩) B (KSt.low (mS0 w fr off n c l e1 e0)) QE
  by_cases h0 : n = 0
  · exact z0 w fr off n c l e0 e1 h0 (qe_true (by kernel_rfl))
  by_cases h20 : 20 < n
  · exact z20 w fr off n c l e0 e1 h20 (qe_true (by kernel_rfl))
  obtain ⟨p1, p2⟩ := firstP_pl hw (l.getD 0 0)
  have hW := word_is hw
  have h8 : List.length (plL w (l.getD 0 0) 8) ≤ 8 := pl_len _ _ 8
  cases he : (plL w (l.getD 0 0) 8) with
  | nil =>
    have hz : List.length (plL w (l.getD 0 0) 8) = 0 := by rw [he]; rfl
    exact pe w fr off n c l e0 e1 hW (by omega) (by omega) hl hc h8 (count_pl hw _) (firstI_eq hw _ _) (fill_eq hw) hz (p1 he) (qe_true (by kernel_rfl))
  | cons x r =>
    have hz : 1 ≤ List.length (plL w (l.getD 0 0) 8) := by rw [he]; exact Nat.succ_le_succ (Nat.zero_le _)
    exact pn w fr off n c l e0 e1 hW (by omega) (by omega) hl hc h8 (count_pl hw _) (firstI_eq hw _ _) (fill_eq hw) hz ((p2 x r he).trans (by rw [he]; rfl)) (qe_true (by kernel_rfl))
theorem toldN (w fr : Int) (e0 : TypeId) : Tells Tryd.prog 4 [.int .u64 w, .int .i64 fr, .slice (some ⟨1, 0, none⟩) 0 0] (varNone .u8 tz e0).low (.bool true) := by
  refine Gets.tells Tryd.func4 BN_is (by rw [oneVar]; exact (show (1 : Nat) ≤ 2 by decide)) rfl ?_ Ro.varNone
  show Gets Tryd.prog (KH.low ⟨2, 1, [(0, 0, .cells [(.int .u8 0), (.int .u8 1), (.int .u8 56), (.int .u8 2), (.int .u8 57), (.int .u8 49), (.int .u8 28), (.int .u8 3), (.int .u8 61), (.int .u8 58), (.int .u8 42), (.int .u8 50), (.int .u8 38), (.int .u8 29), (.int .u8 17), (.int .u8 4), (.int .u8 62), (.int .u8 47), (.int .u8 59), (.int .u8 36), (.int .u8 45), (.int .u8 43), (.int .u8 51), (.int .u8 22), (.int .u8 53), (.int .u8 39), (.int .u8 33), (.int .u8 30), (.int .u8 24), (.int .u8 18), (.int .u8 12), (.int .u8 5), (.int .u8 63), (.int .u8 55), (.int .u8 48), (.int .u8 27), (.int .u8 60), (.int .u8 41), (.int .u8 37), (.int .u8 16), (.int .u8 46), (.int .u8 35), (.int .u8 44), (.int .u8 21), (.int .u8 52), (.int .u8 32), (.int .u8 23), (.int .u8 11), (.int .u8 54), (.int .u8 26), (.int .u8 40), (.int .u8 15), (.int .u8 34), (.int .u8 20), (.int .u8 31), (.int .u8 10), (.int .u8 25), (.int .u8 14), (.int .u8 19), (.int .u8 9), (.int .u8 13), (.int .u8 8), (.int .u8 7), (.int .u8 6)] e0 false)]⟩) BN (KSt.low (oS0 w fr e0)) QE
  exact on w fr 0 0 0 [] e0 e0 (qe_true (by kernel_rfl))
theorem own : ownKnob Tryd.prog.godebug = none := by kernel_rfl
def laidV0 : List (String × DataW Unit) := laidV
/-- The door's own heap meets the condition. -/
theorem door_met (os : Os) (args : Array Value) : laidMetH Tryd.prog laidV ((World.doorLaid Tryd.prog 400 os).forCall (fun _ _ => 0) ⟨#[], args, []⟩).memory :=
  laidMetH_of_parts3 (fuel := 8) (laidMet_of_run' 8 (by kernel_rfl) (by kernel_rfl)) (by kernel_rfl) (by kernel_rfl)
theorem lifted (os : Os) (started : os.Started) (H : Type) (enc : TypeId × Value → H) :
    ReturnsInHanded {} Tryd.checked os 4 .any (fun w args => (Rows.laneFindsSpec.pre enc Tryd.prog Tryd.f4 [] false w args ∧ laidMetH Tryd.prog laidV w) ∧ sizedMet enc Tryd.prog Tryd.f4 (OpenSpec.ofChange Rows.laneFindsSpec) false w args)
      (Rows.laneFindsSpec.post enc Tryd.prog Tryd.f4 false true false false) := by
  refine returnsInHanded_of_change_and (C := Tryd.checked) (X := fun w _ => laidMetH Tryd.prog laidV w) (fun _ _ _ hh h => h.of_heap hh) own started (by kernel_rfl) Tryd.func4
    (ChangeSpec.witness_shaped (enc := enc) (C := Tryd.checked) (os := os) (X := fun w _ => laidMetH Tryd.prog laidV w) false (World.doorLaid Tryd.prog 400 os) #[.int .u64 0, .int .i64 0, .slice none 0 0] 8 rfl (World.shaped_of_RefB (by kernel_rfl) (by kernel_rfl)) (by kernel_rfl) (by kernel_rfl) (by kernel_rfl) (door_met os _)) ?_
  intro W base args ds gs before hval0 hW hcnd hsz0 hL _
  have hvar := tz_cells hL
  have hval : ∀ (j : Nat) t v, Tryd.f4.params[j]? = some t → args[j]? = some v → Value.okWide Tryd.prog W .any base t v := hval0
  have hW' := hW
  obtain ⟨p, q, hA0, hV, rfl, hfz, hnd⟩ := hW
  have hA : DataW.TrodAll enc Tryd.prog W 0 (fun _ => true) true Tryd.f4.params.toList args.toList ds p := hA0
  rw [Tryd.params4] at hA hval
  have hS := hA
  obtain ⟨v0, vs0, d0, ds0, p0, q0, hargs, rfl, rfl, h0, r0⟩ := trodAll_cons hA
  obtain ⟨v1, vs1, d1, ds1, p1, q1, rfl, rfl, rfl, h1, r1⟩ := trodAll_cons r0
  obtain ⟨v2, vs2, d2, ds2, p2, q2, rfl, rfl, rfl, h2, r2⟩ := trodAll_cons r1
  obtain ⟨rfl, rfl, rfl⟩ := trodAll_nil r2
  obtain rfl : args = #[v0, v1, v2] := by cases args; simp_all
  obtain ⟨rfl, rfl⟩ := trodVars_none hV
  suffices hc : Calls Tryd.prog 4 #[v0, v1, v2] W fun e W' => e = .returned (.bool true) ∧ Below W.heap.size W W' by
    refine hc.mono fun e W' ⟨he, bel⟩ => ?_
    subst he
    exact ⟨_, rfl, _, _, _, [], _, [], hW', trodAll_mk1 (shut_bool Tryd.underlying4 _), trodAll_stays fineA bel (by decide +kernel) hS, rfl, bel.frame _, fun h => by cases h⟩
  clear hS hW' hfz hnd
  obtain ⟨a0, rfl, rfl, rfl, w0⟩ := open_int Tryd.underlying22 (hval 0 22 v0 rfl rfl) h0
  obtain ⟨a1, rfl, rfl, rfl, w1⟩ := open_int Tryd.underlying3 (hval 1 3 v1 rfl rfl) h1
  have o2 := Go.Eng.open_row Tryd.underlying27 Tryd.underlying3 (by kernel_rfl) (hval 2 27 v2 rfl rfl) h2
  rcases o2 with ⟨x, rfl⟩ | ⟨a, len, cap, zs, rfl, h0, hle, hmx, hz, hcell, hwf⟩
  · obtain ⟨e, hS⟩ := Sim.varNone (k := .u8) (zs := tz) oneVar (by decide) hvar
    exact toldN a0 a1 e _ W _ (.cons (.int _ _) (.cons (.int _ _) (.cons (.slice00 _ _ _) (.nil _)))) hS
  · obtain ⟨e, e2, hS, hsp⟩ := Sim.varRow (k := .u8) (zs := tz) oneVar (by decide) hvar (by omega) hcell
    obtain ⟨blk, off, spot⟩ := a
    simp only at hsp
    subst hsp
    exact told a0 a1 off len cap zs e e2 (wf_u64 w0) hle hz _ W _ (.cons (.int _ _) (.cons (.int _ _) (.cons (R.slice_row rfl) (.nil _)))) hS
theorem over : Rows.laneFindsRow.holds Tryd.pinned (OpenSpec.ofChange Rows.laneFindsSpec) :=
  OpenClaim.holds_of_wide 4 Tryd.f4 rfl rfl rfl rfl rfl rfl rfl ⟨rfl, rfl, rfl, rfl, rfl⟩ rfl rfl rfl rfl rfl (by kernel_rfl) Tryd.func4 (by kernel_rfl)
    (of_decide_eq_true (by kernel_rfl)) (by unfold Func.isWrapper; first | (rw [if_pos (by decide +kernel)]; kernel_rfl) | (rw [if_neg (by decide +kernel)]; exact ⟨rfl, rfl⟩))
    (fun os started H enc _ => lifted os started H enc)
end Go.Proofs.YteafenadjidkdaaDoor.laneFinds
namespace Go.Proofs.YteafenadjidkdaaDoor
/-- The tied card, for the claim. -/
theorem laneFinds_holds : Rows.LaneFindsCardSaid :=
  Claim7.holds_tied_plain_at .later [] [.data] true (true, "311be7784f3cdb14a14e5a869a188c3f955b6b6d19542726ab5b5a32b74a7d88") false
    laneFinds.over (fun _ h => by cases h) (by kernel_rfl) (fun _ h => by cases h) laneFinds_row_tie rfl ⟨rfl, rfl⟩ (by kernel_rfl) rfl
    (fun f fn hf hfn => by
      obtain rfl : f = 4 := Option.some.inj ((show Tryd.prog.funcNamed "sprocket/sprocketlaw02.LaneFinds" = some 4 by kernel_rfl).symm.trans hf) |>.symm
      obtain rfl : fn = Tryd.f4 := (Option.some.inj (Tryd.func4.symm.trans hfn)).symm
      exact ⟨by kernel_rfl, fun j t ht => by
        rw [Tryd.params4] at ht
        have hm : t ∈ [22, 3, 27] := by simpa using Array.mem_of_getElem? ht
        have hall : ([22, 3, 27].all fun u => !Tryd.prog.wantsStandIn u) = true := by kernel_rfl
        exact (show Tryd.prog.wantsStandIn t = false by simpa using List.all_eq_true.1 hall t hm)⟩)
    (by kernel_rfl)
#print axioms laneFinds_holds
end Go.Proofs.YteafenadjidkdaaDoor
