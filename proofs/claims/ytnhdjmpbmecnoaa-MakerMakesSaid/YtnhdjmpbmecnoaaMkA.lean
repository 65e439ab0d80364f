/- What the document's maker does on a tape. -/
import Derived.Test.YtnhdjmpbmecnoaaBxB
import Derived.WalkKit
import Derived.ProofKit
import Derived.OpenShut
import Derived.ChangeOld
import Derived.Below
import Derived.SizedLaws
namespace Go.Proofs.Ytnhdjmpbmecnoaa
open Go.Eng
open Go.ChangeShapes Go.WideShapes Go.ChangeAt Go.RowKit
set_option linter.unusedVariables false
set_option linter.unusedSimpArgs false
set_option maxRecDepth 100000
noncomputable def cfgM : Cfg := ⟨[]⟩
noncomputable def fsM : List FuncId := [27, 41, 59, 60, 66]
theorem fitM : Fit Try.prog cfgM fsM := ⟨by kernel_rfl, Cfg.ok_of (by kernel_rfl), by kernel_rfl⟩
noncomputable def mknT (boxW : ByteArray → ByteArray → List Int) : RTab := fun f => match f with
  | 27 => some (rc_r16_Words boxW)
  | _ => none
def mknDom : List FuncId := [27]
theorem mkn_does : ∀ f rc, f ∈ mknDom → (mknT boxW) f = some rc → RcDoes Try.prog [] f rc := by
  intro f rc hf hT
  simp only [mknDom, List.mem_cons, List.not_mem_nil, or_false] at hf
  subst hf
  cases hT; exact rc_r16_Words_does
theorem mkn_fn : ∀ f ∈ mknDom, FnOk Try.prog f := fun f hf => fitM.fnOk f (by
    have h0 : (mknDom.all fun f => fsM.contains f) = true := by kernel_rfl
    simpa using List.all_eq_true.1 h0 f hf)
theorem mkn_sound : SoundC Try.prog (conC mknDom (rcE [] (mknT boxW))) := rc_sound noVars mkn_fn mkn_does
/-- Is a maker's tape over before all is made? -/
def mkOver (l W : List Int) : Bool := decide (l.length = 0) || (decide (l.getD 0 0 ≠ 0) && decide (l.length < 1 + W.length))
def mkAt (l W : List Int) : Int := bif mkOver l W then ((l.length : Nat) : Int) else (bif decide (l.getD 0 0 = 0) then 1 else ((W.length : Nat) : Int) + 1)
/-- The act that is asked for. -/
def mkA (l W : List Int) : Nat → Int → Int
  | 0, x => bif mkOver l W then (bif decide (l.length = 0) then 5 else 2) else x
  | 1, x => bif mkOver l W then l.getD 0 0 else x
  | 2, x => bif mkOver l W then (bif decide (l.length = 0) then ((W.length : Nat) : Int) else ((l.length : Nat) : Int) - 1) else x
  | 3, x => bif mkOver l W then 0 else x
  | _, x => bif mkOver l W then (bif decide (l.length = 0) then 0 else W.getD (l.length - 1) 0) else x
theorem mkA_no {l W : List Int} (h : mkOver l W = false) (j : Nat) (x : Int) : mkA l W j x = x := by
  match j with
  | 0 => unfold mkA; rw [h]; rfl
  | 1 => unfold mkA; rw [h]; rfl
  | 2 => unfold mkA; rw [h]; rfl
  | 3 => unfold mkA; rw [h]; rfl
  | j + 4 => unfold mkA; rw [h]; rfl
theorem mkOver_b {l W : List Int} (h : l.length ≠ 0) (hb : l.getD 0 0 = 0) : mkOver l W = false := by
  unfold mkOver; rw [decide_eq_false h, decide_eq_false (fun k => k hb)]; rfl
theorem mkOver_f {l W : List Int} (h : 1 + W.length ≤ l.length) : mkOver l W = false := by
  unfold mkOver; rw [decide_eq_false (by omega : ¬ l.length = 0), decide_eq_false (by omega : ¬ l.length < 1 + W.length)]; cases decide (l.getD 0 0 ≠ 0) <;> rfl
theorem mkOver_t {l W : List Int} (hb : l.getD 0 0 ≠ 0) (h : l.length < 1 + W.length) : mkOver l W = true := by
  unfold mkOver; rw [decide_eq_true hb, decide_eq_true h]; cases decide (l.length = 0) <;> rfl
theorem mkA_t {l W : List Int} (h : mkOver l W = true) (hl : l.length ≠ 0) : (∀ x, mkA l W 0 x = 2) ∧ (∀ x, mkA l W 1 x = l.getD 0 0) ∧ (∀ x, mkA l W 2 x = ((l.length : Nat) : Int) - 1) ∧ (∀ x, mkA l W 3 x = 0) ∧ (∀ x, mkA l W 4 x = W.getD (l.length - 1) 0) := by
  refine ⟨fun x => ?_, fun x => ?_, fun x => ?_, fun x => ?_, fun x => ?_⟩
  · unfold mkA; rw [h, decide_eq_false hl]; rfl
  · unfold mkA; rw [h]; rfl
  · unfold mkA; rw [h, decide_eq_false hl]; rfl
  · unfold mkA; rw [h]; rfl
  · unfold mkA; rw [h, decide_eq_false hl]; rfl
theorem boxW_le {ks vs : ByteArray} (h16 : ks.size ≤ 16) (h24 : vs.size ≤ 24) : (boxW ks vs).length ≤ 6 := by
  have : (boxW ks vs).length = 1 + manyN ks + manyN vs := by simp [boxW_eq, wordsN_len]; omega
  rw [this]; unfold manyN; omega
theorem boxW_pos (ks vs : ByteArray) : 1 ≤ (boxW ks vs).length := by
  have : (boxW ks vs).length = 1 + manyN ks + manyN vs := by simp [boxW_eq, wordsN_len]; omega
  omega
noncomputable def BGm : Code := bodyOf Try.prog 41
theorem BGm_is : Try.f41.body = some BGm := by kernel_rfl
theorem BGm_ok : okCode Try.prog.globals.size BGm = true := by kernel_rfl
noncomputable abbrev GmEV (boxW : ByteArray → ByteArray → List Int) (c : Code) (s : KSt) (lv : List Nat) : Option (Ex × KSt) := evCK Try.prog cfgM (runK Try.prog cfgM fsM (conTk mknDom (rcK [] (mknT boxW))) 14 40) 14 c s (normC 2 lv)
theorem Gmgo {lv_ : List Nat} {co_ : Code} {st_ s' : KSt} {x : Ex} {Q : Ex → St → Prop} {off : Nat} {n : Nat} {c : Nat} {tk : Int} {tb : Int} {tc : Int} {to : Int} {tn : Int} {et : TypeId} {l : List Int} {e : TypeId} (hE_ : GmEV boxW co_ st_ lv_ = some (x, s')) (hq_ : Q x s'.low) (hok_ : okCode Try.prog.globals.size co_ = true := by kernel_rfl) : Gets Try.prog (KH.low ⟨2, 1, [(0, 0, .cells [(.slice (some ⟨1, off, none⟩) n c), (.int .i64 0), (.bool false), (.int .i64 tk), (.int .u64 tb), (.int .i64 tc), (.int .u64 to), (.int .u64 tn)] et true), (1, 0, .tail off .u64 l e)]⟩) co_ st_.low Q := Gets.ofN fitM mkn_sound (rc_agree _ _ _) 14 40 hok_ hE_ hq_
theorem GmeX {v : Value} {b c : Bool} (h : v = .bool b) (hb : b = c) : v = .bool c := by rw [h, hb]
theorem GmC : BGm = .seq (codeAt [0] BGm) (codeAt [1] BGm) := by kernel_rfl
theorem GmC1 : (codeAt [1] BGm) = .seq (codeAt [1, 0] BGm) (codeAt [1, 1] BGm) := by kernel_rfl
theorem GmC1_1 : (codeAt [1, 1] BGm) = .seq (codeAt [1, 1, 0] BGm) (codeAt [1, 1, 1] BGm) := by kernel_rfl
theorem GmC1_1_1 : (codeAt [1, 1, 1] BGm) = .seq (codeAt [1, 1, 1, 0] BGm) (codeAt [1, 1, 1, 1] BGm) := by kernel_rfl
theorem GmC1_1_1_0 : (codeAt [1, 1, 1, 0] BGm) = .seq (codeAt [1, 1, 1, 0, 0] BGm) (codeAt [1, 1, 1, 0, 1] BGm) := by kernel_rfl
theorem GmC1_1_1_0_1 : (codeAt [1, 1, 1, 0, 1] BGm) = .cond (.tmp 22) (codeAt [1, 1, 1, 0, 1, 0] BGm) (codeAt [1, 1, 1, 0, 1, 1] BGm) := by kernel_rfl
theorem GmC1_1_1_0_1_0 : (codeAt [1, 1, 1, 0, 1, 0] BGm) = .seq (codeAt [1, 1, 1, 0, 1, 0, 0] BGm) (codeAt [1, 1, 1, 0, 1, 0, 1] BGm) := by kernel_rfl
theorem GmC1_1_1_0_1_0_1 : (codeAt [1, 1, 1, 0, 1, 0, 1] BGm) = .ret := by kernel_rfl
theorem GmC1_1_1_1 : (codeAt [1, 1, 1, 1] BGm) = .seq (codeAt [1, 1, 1, 1, 0] BGm) (codeAt [1, 1, 1, 1, 1] BGm) := by kernel_rfl
theorem GmC1_1_1_1_0 : (codeAt [1, 1, 1, 1, 0] BGm) = .seq (codeAt [1, 1, 1, 1, 0, 0] BGm) (codeAt [1, 1, 1, 1, 0, 1] BGm) := by kernel_rfl
theorem GmC1_1_1_1_0_1_0_0 : (codeAt [1, 1, 1, 1, 0, 1, 0, 0] BGm) = .seq (codeAt [1, 1, 1, 1, 0, 1, 0, 0, 0] BGm) (codeAt [1, 1, 1, 1, 0, 1, 0, 0, 1] BGm) := by kernel_rfl
theorem GmC1_1_1_1_0_1_0_0_0 : (codeAt [1, 1, 1, 1, 0, 1, 0, 0, 0] BGm) = .seq (codeAt [1, 1, 1, 1, 0, 1, 0, 0, 0, 0] BGm) (codeAt [1, 1, 1, 1, 0, 1, 0, 0, 0, 1] BGm) := by kernel_rfl
theorem GmC1_1_1_1_0_1_0_0_0_1 : (codeAt [1, 1, 1, 1, 0, 1, 0, 0, 0, 1] BGm) = .cond (.tmp 26) (codeAt [1, 1, 1, 1, 0, 1, 0, 0, 0, 1, 0] BGm) (codeAt [1, 1, 1, 1, 0, 1, 0, 0, 0, 1, 1] BGm) := by kernel_rfl
theorem GmC1_1_1_1_0_1_0_0_1 : (codeAt [1, 1, 1, 1, 0, 1, 0, 0, 1] BGm) = .seq (codeAt [1, 1, 1, 1, 0, 1, 0, 0, 1, 0] BGm) (codeAt [1, 1, 1, 1, 0, 1, 0, 0, 1, 1] BGm) := by kernel_rfl
theorem GmC1_1_1_1_0_1_0_0_1_0 : (codeAt [1, 1, 1, 1, 0, 1, 0, 0, 1, 0] BGm) = .block 1 (codeAt [1, 1, 1, 1, 0, 1, 0, 0, 1, 0, 0] BGm) := by kernel_rfl
theorem GmC1_1_1_1_0_1_0_0_0_1_1 : (codeAt [1, 1, 1, 1, 0, 1, 0, 0, 0, 1, 1] BGm) = .exit 0 := by kernel_rfl
theorem GmC1_1_1_1_1 : (codeAt [1, 1, 1, 1, 1] BGm) = .seq (codeAt [1, 1, 1, 1, 1, 0] BGm) (codeAt [1, 1, 1, 1, 1, 1] BGm) := by kernel_rfl
theorem GmC1_1_1_1_1_1 : (codeAt [1, 1, 1, 1, 1, 1] BGm) = .ret := by kernel_rfl
theorem GmC1_1_1_1_0_1 : (codeAt [1, 1, 1, 1, 0, 1] BGm) = .block 0 (codeAt [1, 1, 1, 1, 0, 1, 0] BGm) := by kernel_rfl
theorem GmC1_1_1_1_0_1_0 : (codeAt [1, 1, 1, 1, 0, 1, 0] BGm) = .loop (codeAt [1, 1, 1, 1, 0, 1, 0, 0] BGm) := by kernel_rfl
section
variable (boxW : ByteArray → ByteArray → List Int)
noncomputable def GmS0 (ks : ByteArray) (vs : ByteArray) (off : Nat) (n : Nat) (c : Nat) (tk : Int) (tb : Int) (tc : Int) (to : Int) (tn : Int) (et : TypeId) (l : List Int) (e : TypeId) : KSt := (firstK [(.pointer (some ⟨0, 0, none⟩)), (.string ks), (.string vs)] 38 ⟨2, 1, [(0, 0, .cells [(.slice (some ⟨1, off, none⟩) n c), (.int .i64 0), (.bool false), (.int .i64 tk), (.int .u64 tb), (.int .i64 tc), (.int .u64 to), (.int .u64 tn)] et true), (1, 0, .tail off .u64 l e)]⟩)
noncomputable def GmS1 (ks : ByteArray) (vs : ByteArray) (off : Nat) (n : Nat) (c : Nat) (tk : Int) (tb : Int) (tc : Int) (to : Int) (tn : Int) (et : TypeId) (l : List Int) (e : TypeId) : KSt := ⟨(frameL 38 [(0, (.pointer (some ⟨0, 0, none⟩))), (1, (.string ks)), (2, (.string vs))]), ⟨2, 1, [(0, 0, .cells [(.slice (some ⟨1, off, none⟩) n c), (.int .i64 0), (.bool false), (.int .i64 tk), (.int .u64 tb), (.int .i64 tc), (.int .u64 to), (.int .u64 tn)] et true), (1, 0, .tail off .u64 l e)]⟩⟩
theorem GmR1 (ks : ByteArray) (vs : ByteArray) (off : Nat) (n : Nat) (c : Nat) (tk : Int) (tb : Int) (tc : Int) (to : Int) (tn : Int) (et : TypeId) (l : List Int) (e : TypeId) : GmEV boxW (codeAt [0] BGm) (GmS0 ks vs off n c tk tb tc to tn et l e) [0, 1, 2] =
  some (.normal, (GmS1 ks vs off n c tk tb tc to tn et l e)) := by kernel_rfl
noncomputable def GmS2 (ks : ByteArray) (vs : ByteArray) (off : Nat) (n : Nat) (c : Nat) (tk : Int) (tb : Int) (tc : Int) (to : Int) (tn : Int) (et : TypeId) (l : List Int) (e : TypeId) : KSt := ⟨(frameL 38 [(0, (.pointer (some ⟨0, 0, none⟩))), (7, (.slice (some ⟨2, 0, none⟩) (List.length (boxW ks vs)) (List.length (boxW ks vs))))]), ⟨3, 1, [(2, 0, .ints .u64 (boxW ks vs) 30 true), (0, 0, .cells [(.slice (some ⟨1, off, none⟩) n c), (.int .i64 0), (.bool false), (.int .i64 tk), (.int .u64 tb), (.int .i64 tc), (.int .u64 to), (.int .u64 tn)] et true), (1, 0, .tail off .u64 l e)]⟩⟩
theorem GmR2 (ks : ByteArray) (vs : ByteArray) (off : Nat) (n : Nat) (c : Nat) (tk : Int) (tb : Int) (tc : Int) (to : Int) (tn : Int) (et : TypeId) (l : List Int) (e : TypeId) : GmEV boxW (codeAt [1, 0] BGm) (GmS1 ks vs off n c tk tb tc to tn et l e) [0, 7] =
  bif ((Nat.ble (ByteArray.size ks) 16) && (Nat.ble (ByteArray.size vs) 24)) then
    some (.normal, (GmS2 boxW ks vs off n c tk tb tc to tn et l e))
  else
    none := by kernel_rfl
noncomputable def GmS3 (ks : ByteArray) (vs : ByteArray) (n1 : Int) (off : Nat) (n : Nat) (c : Nat) (tk : Int) (tb : Int) (tc : Int) (to : Int) (tn : Int) (et : TypeId) (l : List Int) (e : TypeId) : KSt := ⟨(frameL 38 [(0, (.pointer (some ⟨0, 0, none⟩))), (7, (.slice (some ⟨2, 0, none⟩) (List.length (boxW ks vs)) (List.length (boxW ks vs)))), (9, (.int .u64 n1))]), ⟨3, 1, [(2, 0, .ints .u64 (boxW ks vs) 30 true), (0, 0, .cells [(.slice (some ⟨1, off, none⟩) n c), (.int .i64 1), (.bool false), (.int .i64 tk), (.int .u64 tb), (.int .i64 tc), (.int .u64 to), (.int .u64 tn)] et true), (1, 0, .tail off .u64 l e)]⟩⟩
noncomputable def GmS4 (ks : ByteArray) (vs : ByteArray) (off : Nat) (n : Nat) (c : Nat) (et : TypeId) (l : List Int) (e : TypeId) : KSt := ⟨(frameL 38 [(0, (.pointer (some ⟨0, 0, none⟩))), (7, (.slice (some ⟨2, 0, none⟩) (List.length (boxW ks vs)) (List.length (boxW ks vs)))), (9, (.int .u64 0))]), ⟨3, 1, [(2, 0, .ints .u64 (boxW ks vs) 30 true), (0, 0, .cells [(.slice (some ⟨1, off, none⟩) n c), (.int .i64 0), (.bool true), (.int .i64 5), (.int .u64 0), (.int .i64 (((List.length (boxW ks vs)) : Nat) : Int)), (.int .u64 0), (.int .u64 0)] et true), (1, 0, .tail off .u64 l e)]⟩⟩
theorem GmR3 (ks : ByteArray) (vs : ByteArray) (off : Nat) (n : Nat) (c : Nat) (tk : Int) (tb : Int) (tc : Int) (to : Int) (tn : Int) (et : TypeId) (l : List Int) (e : TypeId) : GmEV boxW (codeAt [1, 1, 0] BGm) (GmS2 boxW ks vs off n c tk tb tc to tn et l e) [0, 7, 9] =
  bif (decide (0 < ((n : Nat) : Int))) then
    if (0 : Int) ≤ 0 ∧ 0 < ((n : Nat) : Int) then
      bif (Nat.ble off (off + 0)) then
        obind (l[((off + 0) - off)]?) fun n1 =>
          some (.normal, (GmS3 boxW ks vs n1 off n c tk tb tc to tn et l e))
      else
        none
    else
      none
  else
    some (.normal, (GmS4 boxW ks vs off n c et l e)) := by kernel_rfl
noncomputable def GmS5 (ks : ByteArray) (vs : ByteArray) (off : Nat) (n : Nat) (c : Nat) (et : TypeId) (l : List Int) (e : TypeId) : KSt := ⟨(frameL 38 [(0, (.pointer (some ⟨0, 0, none⟩))), (7, (.slice (some ⟨2, 0, none⟩) (List.length (boxW ks vs)) (List.length (boxW ks vs)))), (9, (.int .u64 0)), (22, (.bool true))]), ⟨3, 1, [(2, 0, .ints .u64 (boxW ks vs) 30 true), (0, 0, .cells [(.slice (some ⟨1, off, none⟩) n c), (.int .i64 0), (.bool true), (.int .i64 5), (.int .u64 0), (.int .i64 (((List.length (boxW ks vs)) : Nat) : Int)), (.int .u64 0), (.int .u64 0)] et true), (1, 0, .tail off .u64 l e)]⟩⟩
theorem GmR4 (ks : ByteArray) (vs : ByteArray) (off : Nat) (n : Nat) (c : Nat) (et : TypeId) (l : List Int) (e : TypeId) : GmEV boxW (codeAt [1, 1, 1, 0, 0] BGm) (GmS4 boxW ks vs off n c et l e) [0, 7, 9, 22] =
  some (.normal, (GmS5 boxW ks vs off n c et l e)) := by kernel_rfl
noncomputable def GmS6 (off : Nat) (n : Nat) (c : Nat) (ks : ByteArray) (vs : ByteArray) (et : TypeId) (l : List Int) (e : TypeId) : KSt := ⟨(frameL 38 [(6, (.int .u64 0))]), ⟨2, 1, [(0, 0, .cells [(.slice (some ⟨1, off, none⟩) n c), (.int .i64 0), (.bool true), (.int .i64 5), (.int .u64 0), (.int .i64 (((List.length (boxW ks vs)) : Nat) : Int)), (.int .u64 0), (.int .u64 0)] et true), (1, 0, .tail off .u64 l e)]⟩⟩
theorem GmR5 (ks : ByteArray) (vs : ByteArray) (off : Nat) (n : Nat) (c : Nat) (et : TypeId) (l : List Int) (e : TypeId) : GmEV boxW (codeAt [1, 1, 1, 0, 1, 0, 0] BGm) (GmS5 boxW ks vs off n c et l e) [6] =
  some (.normal, (GmS6 boxW off n c ks vs et l e)) := by kernel_rfl
noncomputable def GmS7 (ks : ByteArray) (vs : ByteArray) (l : List Int) (off : Nat) (n : Nat) (c : Nat) (tk : Int) (tb : Int) (tc : Int) (to : Int) (tn : Int) (et : TypeId) (e : TypeId) : KSt := ⟨(frameL 38 [(0, (.pointer (some ⟨0, 0, none⟩))), (7, (.slice (some ⟨2, 0, none⟩) (List.length (boxW ks vs)) (List.length (boxW ks vs)))), (9, (.int .u64 (l.getD 0 0)))]), ⟨3, 1, [(2, 0, .ints .u64 (boxW ks vs) 30 true), (0, 0, .cells [(.slice (some ⟨1, off, none⟩) n c), (.int .i64 1), (.bool false), (.int .i64 tk), (.int .u64 tb), (.int .i64 tc), (.int .u64 to), (.int .u64 tn)] et true), (1, 0, .tail off .u64 l e)]⟩⟩
noncomputable def GmS8 (ks : ByteArray) (vs : ByteArray) (l : List Int) (off : Nat) (n : Nat) (c : Nat) (tk : Int) (tb : Int) (tc : Int) (to : Int) (tn : Int) (et : TypeId) (e : TypeId) : KSt := ⟨(frameL 38 [(0, (.pointer (some ⟨0, 0, none⟩))), (7, (.slice (some ⟨2, 0, none⟩) (List.length (boxW ks vs)) (List.length (boxW ks vs)))), (9, (.int .u64 (l.getD 0 0))), (22, (.bool ((l.getD 0 0) == 0)))]), ⟨3, 1, [(2, 0, .ints .u64 (boxW ks vs) 30 true), (0, 0, .cells [(.slice (some ⟨1, off, none⟩) n c), (.int .i64 1), (.bool false), (.int .i64 tk), (.int .u64 tb), (.int .i64 tc), (.int .u64 to), (.int .u64 tn)] et true), (1, 0, .tail off .u64 l e)]⟩⟩
theorem GmR6 (ks : ByteArray) (vs : ByteArray) (l : List Int) (off : Nat) (n : Nat) (c : Nat) (tk : Int) (tb : Int) (tc : Int) (to : Int) (tn : Int) (et : TypeId) (e : TypeId) : GmEV boxW (codeAt [1, 1, 1, 0, 0] BGm) (GmS7 boxW ks vs l off n c tk tb tc to tn et e) [0, 7, 9, 22] =
  some (.normal, (GmS8 boxW ks vs l off n c tk tb tc to tn et e)) := by kernel_rfl
noncomputable def GmS9 (off : Nat) (n : Nat) (c : Nat) (tk : Int) (tb : Int) (tc : Int) (to : Int) (tn : Int) (et : TypeId) (l : List Int) (e : TypeId) : KSt := ⟨(frameL 38 [(6, (.int .u64 0))]), ⟨2, 1, [(0, 0, .cells [(.slice (some ⟨1, off, none⟩) n c), (.int .i64 1), (.bool false), (.int .i64 tk), (.int .u64 tb), (.int .i64 tc), (.int .u64 to), (.int .u64 tn)] et true), (1, 0, .tail off .u64 l e)]⟩⟩
theorem GmR7 (ks : ByteArray) (vs : ByteArray) (l : List Int) (off : Nat) (n : Nat) (c : Nat) (tk : Int) (tb : Int) (tc : Int) (to : Int) (tn : Int) (et : TypeId) (e : TypeId) : GmEV boxW (codeAt [1, 1, 1, 0, 1, 0, 0] BGm) (GmS8 boxW ks vs l off n c tk tb tc to tn et e) [6] =
  some (.normal, (GmS9 off n c tk tb tc to tn et l e)) := by kernel_rfl
theorem GmR8 (ks : ByteArray) (vs : ByteArray) (l : List Int) (off : Nat) (n : Nat) (c : Nat) (tk : Int) (tb : Int) (tc : Int) (to : Int) (tn : Int) (et : TypeId) (e : TypeId) : GmEV boxW (codeAt [1, 1, 1, 0, 1, 1] BGm) (GmS8 boxW ks vs l off n c tk tb tc to tn et e) [0, 7, 9] =
  some (.normal, (GmS7 boxW ks vs l off n c tk tb tc to tn et e)) := by kernel_rfl
noncomputable def GmS10 (ks : ByteArray) (vs : ByteArray) (l : List Int) (off : Nat) (n : Nat) (c : Nat) (tk : Int) (tb : Int) (tc : Int) (to : Int) (tn : Int) (et : TypeId) (e : TypeId) : KSt := ⟨(frameL 38 [(0, (.pointer (some ⟨0, 0, none⟩))), (7, (.slice (some ⟨2, 0, none⟩) (List.length (boxW ks vs)) (List.length (boxW ks vs)))), (9, (.int .u64 (l.getD 0 0))), (10, (.int .i64 0))]), ⟨3, 1, [(2, 0, .ints .u64 (boxW ks vs) 30 true), (0, 0, .cells [(.slice (some ⟨1, off, none⟩) n c), (.int .i64 1), (.bool false), (.int .i64 tk), (.int .u64 tb), (.int .i64 tc), (.int .u64 to), (.int .u64 tn)] et true), (1, 0, .tail off .u64 l e)]⟩⟩
theorem GmR9 (ks : ByteArray) (vs : ByteArray) (l : List Int) (off : Nat) (n : Nat) (c : Nat) (tk : Int) (tb : Int) (tc : Int) (to : Int) (tn : Int) (et : TypeId) (e : TypeId) : GmEV boxW (codeAt [1, 1, 1, 1, 0, 0] BGm) (GmS7 boxW ks vs l off n c tk tb tc to tn et e) [0, 7, 9, 10] =
  some (.normal, (GmS10 boxW ks vs l off n c tk tb tc to tn et e)) := by kernel_rfl
noncomputable def GmS11 (m : Nat) (w : Int) (i : Int) (q : List Int) (off : Nat) (n : Nat) (c : Nat) (tk : Int) (tb : Int) (tc : Int) (to : Int) (tn : Int) (et : TypeId) (l : List Int) (e : TypeId) : KSt := ⟨(frameL 38 [(0, (.pointer (some ⟨0, 0, none⟩))), (7, (.slice (some ⟨2, 0, none⟩) m m)), (9, (.int .u64 w)), (10, (.int .i64 i))]), ⟨3, 1, [(2, 0, .ints .u64 q 30 true), (0, 0, .cells [(.slice (some ⟨1, off, none⟩) n c), (.int .i64 (i + 1)), (.bool false), (.int .i64 tk), (.int .u64 tb), (.int .i64 tc), (.int .u64 to), (.int .u64 tn)] et true), (1, 0, .tail off .u64 l e)]⟩⟩
noncomputable def GmS12 (m : Nat) (w : Int) (i : Int) (q : List Int) (off : Nat) (n : Nat) (c : Nat) (j : Int) (et : TypeId) (l : List Int) (e : TypeId) : KSt := ⟨(frameL 38 [(0, (.pointer (some ⟨0, 0, none⟩))), (7, (.slice (some ⟨2, 0, none⟩) m m)), (9, (.int .u64 w)), (10, (.int .i64 i))]), ⟨3, 1, [(2, 0, .ints .u64 q 30 true), (0, 0, .cells [(.slice (some ⟨1, off, none⟩) n c), (.int .i64 (j + 1)), (.bool true), (.int .i64 2), (.int .u64 w), (.int .i64 j), (.int .u64 0), (.int .u64 (q.getD (Int.toNat j) 0))] et true), (1, 0, .tail off .u64 l e)]⟩⟩
noncomputable def GmS13 (m : Nat) (w : Int) (i : Int) (q : List Int) (off : Nat) (n : Nat) (c : Nat) (tk : Int) (tb : Int) (tc : Int) (to : Int) (tn : Int) (et : TypeId) (l : List Int) (e : TypeId) : KSt := ⟨(frameL 38 [(0, (.pointer (some ⟨0, 0, none⟩))), (7, (.slice (some ⟨2, 0, none⟩) m m)), (9, (.int .u64 w)), (10, (.int .i64 i)), (26, (.bool (decide (i < ((m : Nat) : Int)))))]), ⟨3, 1, [(2, 0, .ints .u64 q 30 true), (0, 0, .cells [(.slice (some ⟨1, off, none⟩) n c), (.int .i64 (i + 1)), (.bool false), (.int .i64 tk), (.int .u64 tb), (.int .i64 tc), (.int .u64 to), (.int .u64 tn)] et true), (1, 0, .tail off .u64 l e)]⟩⟩
theorem GmR10 (m : Nat) (w : Int) (i : Int) (q : List Int) (off : Nat) (n : Nat) (c : Nat) (tk : Int) (tb : Int) (tc : Int) (to : Int) (tn : Int) (et : TypeId) (l : List Int) (e : TypeId) : GmEV boxW (codeAt [1, 1, 1, 1, 0, 1, 0, 0, 0, 0] BGm) (GmS11 m w i q off n c tk tb tc to tn et l e) [0, 7, 9, 10, 26] =
  some (.normal, (GmS13 m w i q off n c tk tb tc to tn et l e)) := by kernel_rfl
theorem GmR11 (m : Nat) (w : Int) (i : Int) (q : List Int) (off : Nat) (n : Nat) (c : Nat) (tk : Int) (tb : Int) (tc : Int) (to : Int) (tn : Int) (et : TypeId) (l : List Int) (e : TypeId) : GmEV boxW (codeAt [1, 1, 1, 1, 0, 1, 0, 0, 0, 1, 0] BGm) (GmS13 m w i q off n c tk tb tc to tn et l e) [0, 7, 9, 10] =
  some (.normal, (GmS11 m w i q off n c tk tb tc to tn et l e)) := by kernel_rfl
noncomputable def GmS14 (m : Nat) (w : Int) (i : Int) (q : List Int) (off : Nat) (n : Nat) (c : Nat) (tk : Int) (tb : Int) (tc : Int) (to : Int) (tn : Int) (et : TypeId) (l : List Int) (e : TypeId) : KSt := ⟨(frameL 38 [(0, (.pointer (some ⟨0, 0, none⟩))), (7, (.slice (some ⟨2, 0, none⟩) m m)), (9, (.int .u64 w)), (10, (.int .i64 i))]), ⟨3, 1, [(2, 0, .ints .u64 q 30 true), (0, 0, .cells [(.slice (some ⟨1, off, none⟩) n c), (.int .i64 (IntKind.wrap .i64 ((i + 1) + 1))), (.bool false), (.int .i64 tk), (.int .u64 tb), (.int .i64 tc), (.int .u64 to), (.int .u64 tn)] et true), (1, 0, .tail off .u64 l e)]⟩⟩
noncomputable def GmS15 (m : Nat) (w : Int) (i : Int) (q : List Int) (off : Nat) (n : Nat) (c : Nat) (n1 : Int) (et : TypeId) (l : List Int) (e : TypeId) : KSt := ⟨(frameL 38 [(0, (.pointer (some ⟨0, 0, none⟩))), (7, (.slice (some ⟨2, 0, none⟩) m m)), (9, (.int .u64 w)), (10, (.int .i64 i))]), ⟨3, 1, [(2, 0, .ints .u64 q 30 true), (0, 0, .cells [(.slice (some ⟨1, off, none⟩) n c), (.int .i64 (i + 1)), (.bool true), (.int .i64 2), (.int .u64 w), (.int .i64 i), (.int .u64 0), (.int .u64 n1)] et true), (1, 0, .tail off .u64 l e)]⟩⟩
theorem GmR12 (m : Nat) (w : Int) (i : Int) (q : List Int) (off : Nat) (n : Nat) (c : Nat) (tk : Int) (tb : Int) (tc : Int) (to : Int) (tn : Int) (et : TypeId) (l : List Int) (e : TypeId) : GmEV boxW (codeAt [1, 1, 1, 1, 0, 1, 0, 0, 1, 0, 0] BGm) (GmS11 m w i q off n c tk tb tc to tn et l e) [0, 7, 9, 10] =
  if 0 ≤ i ∧ i < ((m : Nat) : Int) then
    obind (q[(0 + ((Int.toNat i) * 1))]?) fun n1 =>
      bif (decide ((i + 1) < ((n : Nat) : Int))) then
        if 0 ≤ (IntKind.wrap .i64 ((IntKind.wrap .i64 ((i + 1) + 1)) - 1)) ∧ (IntKind.wrap .i64 ((IntKind.wrap .i64 ((i + 1) + 1)) - 1)) < ((n : Nat) : Int) then
          bif (Nat.ble off (off + ((Int.toNat (IntKind.wrap .i64 ((IntKind.wrap .i64 ((i + 1) + 1)) - 1))) * 1))) then
            obind (l[((off + ((Int.toNat (IntKind.wrap .i64 ((IntKind.wrap .i64 ((i + 1) + 1)) - 1))) * 1)) - off)]?) fun n2 =>
              some (.normal, (GmS14 m w i q off n c tk tb tc to tn et l e))
          else
            none
        else
          none
      else
        some (.normal, (GmS15 m w i q off n c n1 et l e))
  else
    none := by kernel_rfl
noncomputable def GmS16 (m : Nat) (w : Int) (i : Int) (q : List Int) (off : Nat) (n : Nat) (c : Nat) (tk : Int) (tb : Int) (tc : Int) (to : Int) (tn : Int) (et : TypeId) (l : List Int) (e : TypeId) : KSt := ⟨(frameL 38 [(0, (.pointer (some ⟨0, 0, none⟩))), (7, (.slice (some ⟨2, 0, none⟩) m m)), (9, (.int .u64 w)), (10, (.int .i64 i))]), ⟨3, 1, [(2, 0, .ints .u64 q 30 true), (0, 0, .cells [(.slice (some ⟨1, off, none⟩) n c), (.int .i64 ((i + 1) + 1)), (.bool false), (.int .i64 tk), (.int .u64 tb), (.int .i64 tc), (.int .u64 to), (.int .u64 tn)] et true), (1, 0, .tail off .u64 l e)]⟩⟩
noncomputable def GmS17 (m : Nat) (w : Int) (i : Int) (q : List Int) (off : Nat) (n : Nat) (c : Nat) (tk : Int) (tb : Int) (tc : Int) (to : Int) (tn : Int) (et : TypeId) (l : List Int) (e : TypeId) : KSt := ⟨(frameL 38 [(0, (.pointer (some ⟨0, 0, none⟩))), (7, (.slice (some ⟨2, 0, none⟩) m m)), (9, (.int .u64 w)), (10, (.int .i64 (IntKind.wrap .i64 (i + 1))))]), ⟨3, 1, [(2, 0, .ints .u64 q 30 true), (0, 0, .cells [(.slice (some ⟨1, off, none⟩) n c), (.int .i64 ((i + 1) + 1)), (.bool false), (.int .i64 tk), (.int .u64 tb), (.int .i64 tc), (.int .u64 to), (.int .u64 tn)] et true), (1, 0, .tail off .u64 l e)]⟩⟩
theorem GmR13 (m : Nat) (w : Int) (i : Int) (q : List Int) (off : Nat) (n : Nat) (c : Nat) (tk : Int) (tb : Int) (tc : Int) (to : Int) (tn : Int) (et : TypeId) (l : List Int) (e : TypeId) : GmEV boxW (codeAt [1, 1, 1, 1, 0, 1, 0, 0, 1, 1] BGm) (GmS16 m w i q off n c tk tb tc to tn et l e) [0, 7, 9, 10] =
  some (.normal, (GmS17 m w i q off n c tk tb tc to tn et l e)) := by kernel_rfl
noncomputable def GmS18 (m : Nat) (w : Int) (i : Int) (q : List Int) (off : Nat) (n : Nat) (c : Nat) (tk : Int) (tb : Int) (tc : Int) (to : Int) (tn : Int) (et : TypeId) (l : List Int) (e : TypeId) : KSt := ⟨(frameL 38 [(0, (.pointer (some ⟨0, 0, none⟩))), (7, (.slice (some ⟨2, 0, none⟩) m m)), (9, (.int .u64 w)), (10, (.int .i64 (i + 1)))]), ⟨3, 1, [(2, 0, .ints .u64 q 30 true), (0, 0, .cells [(.slice (some ⟨1, off, none⟩) n c), (.int .i64 ((i + 1) + 1)), (.bool false), (.int .i64 tk), (.int .u64 tb), (.int .i64 tc), (.int .u64 to), (.int .u64 tn)] et true), (1, 0, .tail off .u64 l e)]⟩⟩
noncomputable def GmS19 (m : Nat) (w : Int) (i : Int) (q : List Int) (off : Nat) (n : Nat) (c : Nat) (et : TypeId) (l : List Int) (e : TypeId) : KSt := ⟨(frameL 38 [(0, (.pointer (some ⟨0, 0, none⟩))), (7, (.slice (some ⟨2, 0, none⟩) m m)), (9, (.int .u64 w)), (10, (.int .i64 i))]), ⟨3, 1, [(2, 0, .ints .u64 q 30 true), (0, 0, .cells [(.slice (some ⟨1, off, none⟩) n c), (.int .i64 (i + 1)), (.bool true), (.int .i64 2), (.int .u64 w), (.int .i64 i), (.int .u64 0), (.int .u64 (q.getD (Int.toNat i) 0))] et true), (1, 0, .tail off .u64 l e)]⟩⟩
noncomputable def GmS20 (m : Nat) (w : Int) (i : Int) (q : List Int) (off : Nat) (n : Nat) (c : Nat) (et : TypeId) (l : List Int) (e : TypeId) : KSt := ⟨(frameL 38 [(0, (.pointer (some ⟨0, 0, none⟩))), (7, (.slice (some ⟨2, 0, none⟩) m m)), (9, (.int .u64 w)), (10, (.int .i64 i))]), ⟨3, 1, [(2, 0, .ints .u64 q 30 true), (0, 0, .cells [(.slice (some ⟨1, off, none⟩) n c), (.int .i64 (i + 1)), (.bool true), (.int .i64 2), (.int .u64 w), (.int .i64 i), (.int .u64 0), (.int .u64 (q.getD (0 + ((Int.toNat i) * 1)) 0))] et true), (1, 0, .tail off .u64 l e)]⟩⟩
noncomputable def GmS21 (m : Nat) (w : Int) (i : Int) (q : List Int) (off : Nat) (n : Nat) (c : Nat) (et : TypeId) (l : List Int) (e : TypeId) : KSt := ⟨(frameL 38 [(0, (.pointer (some ⟨0, 0, none⟩))), (7, (.slice (some ⟨2, 0, none⟩) m m)), (9, (.int .u64 w)), (10, (.int .i64 (IntKind.wrap .i64 (i + 1))))]), ⟨3, 1, [(2, 0, .ints .u64 q 30 true), (0, 0, .cells [(.slice (some ⟨1, off, none⟩) n c), (.int .i64 (i + 1)), (.bool true), (.int .i64 2), (.int .u64 w), (.int .i64 i), (.int .u64 0), (.int .u64 (q.getD (Int.toNat i) 0))] et true), (1, 0, .tail off .u64 l e)]⟩⟩
theorem GmR14 (m : Nat) (w : Int) (i : Int) (q : List Int) (off : Nat) (n : Nat) (c : Nat) (et : TypeId) (l : List Int) (e : TypeId) : GmEV boxW (codeAt [1, 1, 1, 1, 0, 1, 0, 0, 1, 1] BGm) (GmS19 m w i q off n c et l e) [0, 7, 9, 10] =
  some (.normal, (GmS21 m w i q off n c et l e)) := by kernel_rfl
noncomputable def GmS22 (m : Nat) (w : Int) (i : Int) (q : List Int) (off : Nat) (n : Nat) (c : Nat) (et : TypeId) (l : List Int) (e : TypeId) : KSt := ⟨(frameL 38 [(0, (.pointer (some ⟨0, 0, none⟩))), (7, (.slice (some ⟨2, 0, none⟩) m m)), (9, (.int .u64 w)), (10, (.int .i64 (i + 1)))]), ⟨3, 1, [(2, 0, .ints .u64 q 30 true), (0, 0, .cells [(.slice (some ⟨1, off, none⟩) n c), (.int .i64 (i + 1)), (.bool true), (.int .i64 2), (.int .u64 w), (.int .i64 i), (.int .u64 0), (.int .u64 (q.getD (Int.toNat i) 0))] et true), (1, 0, .tail off .u64 l e)]⟩⟩
noncomputable def GmS23 (m : Nat) (w : Int) (i : Int) (q : List Int) (off : Nat) (n : Nat) (c : Nat) (j : Int) (et : TypeId) (l : List Int) (e : TypeId) : KSt := ⟨(frameL 38 [(0, (.pointer (some ⟨0, 0, none⟩))), (7, (.slice (some ⟨2, 0, none⟩) m m)), (9, (.int .u64 w)), (10, (.int .i64 i)), (26, (.bool (decide (i < ((m : Nat) : Int)))))]), ⟨3, 1, [(2, 0, .ints .u64 q 30 true), (0, 0, .cells [(.slice (some ⟨1, off, none⟩) n c), (.int .i64 (j + 1)), (.bool true), (.int .i64 2), (.int .u64 w), (.int .i64 j), (.int .u64 0), (.int .u64 (q.getD (Int.toNat j) 0))] et true), (1, 0, .tail off .u64 l e)]⟩⟩
theorem GmR15 (m : Nat) (w : Int) (i : Int) (q : List Int) (off : Nat) (n : Nat) (c : Nat) (j : Int) (et : TypeId) (l : List Int) (e : TypeId) : GmEV boxW (codeAt [1, 1, 1, 1, 0, 1, 0, 0, 0, 0] BGm) (GmS12 m w i q off n c j et l e) [0, 7, 9, 10, 26] =
  some (.normal, (GmS23 m w i q off n c j et l e)) := by kernel_rfl
theorem GmR16 (m : Nat) (w : Int) (i : Int) (q : List Int) (off : Nat) (n : Nat) (c : Nat) (j : Int) (et : TypeId) (l : List Int) (e : TypeId) : GmEV boxW (codeAt [1, 1, 1, 1, 0, 1, 0, 0, 0, 1, 0] BGm) (GmS23 m w i q off n c j et l e) [0, 7, 9, 10] =
  some (.normal, (GmS12 m w i q off n c j et l e)) := by kernel_rfl
theorem GmR17 (m : Nat) (w : Int) (i : Int) (q : List Int) (off : Nat) (n : Nat) (c : Nat) (j : Int) (et : TypeId) (l : List Int) (e : TypeId) : GmEV boxW (codeAt [1, 1, 1, 1, 0, 1, 0, 0, 1, 0, 0] BGm) (GmS12 m w i q off n c j et l e) [0, 7, 9, 10] =
  if 0 ≤ i ∧ i < ((m : Nat) : Int) then
    obind (q[(0 + ((Int.toNat i) * 1))]?) fun n1 =>
      some (.normal, (GmS12 m w i q off n c j et l e))
  else
    none := by kernel_rfl
noncomputable def GmS24 (m : Nat) (w : Int) (i : Int) (q : List Int) (off : Nat) (n : Nat) (c : Nat) (j : Int) (et : TypeId) (l : List Int) (e : TypeId) : KSt := ⟨(frameL 38 [(0, (.pointer (some ⟨0, 0, none⟩))), (7, (.slice (some ⟨2, 0, none⟩) m m)), (9, (.int .u64 w)), (10, (.int .i64 (IntKind.wrap .i64 (i + 1))))]), ⟨3, 1, [(2, 0, .ints .u64 q 30 true), (0, 0, .cells [(.slice (some ⟨1, off, none⟩) n c), (.int .i64 (j + 1)), (.bool true), (.int .i64 2), (.int .u64 w), (.int .i64 j), (.int .u64 0), (.int .u64 (q.getD (Int.toNat j) 0))] et true), (1, 0, .tail off .u64 l e)]⟩⟩
theorem GmR18 (m : Nat) (w : Int) (i : Int) (q : List Int) (off : Nat) (n : Nat) (c : Nat) (j : Int) (et : TypeId) (l : List Int) (e : TypeId) : GmEV boxW (codeAt [1, 1, 1, 1, 0, 1, 0, 0, 1, 1] BGm) (GmS12 m w i q off n c j et l e) [0, 7, 9, 10] =
  some (.normal, (GmS24 m w i q off n c j et l e)) := by kernel_rfl
noncomputable def GmS25 (m : Nat) (w : Int) (i : Int) (q : List Int) (off : Nat) (n : Nat) (c : Nat) (j : Int) (et : TypeId) (l : List Int) (e : TypeId) : KSt := ⟨(frameL 38 [(0, (.pointer (some ⟨0, 0, none⟩))), (7, (.slice (some ⟨2, 0, none⟩) m m)), (9, (.int .u64 w)), (10, (.int .i64 (i + 1)))]), ⟨3, 1, [(2, 0, .ints .u64 q 30 true), (0, 0, .cells [(.slice (some ⟨1, off, none⟩) n c), (.int .i64 (j + 1)), (.bool true), (.int .i64 2), (.int .u64 w), (.int .i64 j), (.int .u64 0), (.int .u64 (q.getD (Int.toNat j) 0))] et true), (1, 0, .tail off .u64 l e)]⟩⟩
noncomputable def GmS26 (w : Int) (off : Nat) (n : Nat) (c : Nat) (i : Int) (tk : Int) (tb : Int) (tc : Int) (to : Int) (tn : Int) (et : TypeId) (l : List Int) (e : TypeId) : KSt := ⟨(frameL 38 [(6, (.int .u64 w))]), ⟨2, 1, [(0, 0, .cells [(.slice (some ⟨1, off, none⟩) n c), (.int .i64 (i + 1)), (.bool false), (.int .i64 tk), (.int .u64 tb), (.int .i64 tc), (.int .u64 to), (.int .u64 tn)] et true), (1, 0, .tail off .u64 l e)]⟩⟩
theorem GmR19 (m : Nat) (w : Int) (i : Int) (q : List Int) (off : Nat) (n : Nat) (c : Nat) (tk : Int) (tb : Int) (tc : Int) (to : Int) (tn : Int) (et : TypeId) (l : List Int) (e : TypeId) : GmEV boxW (codeAt [1, 1, 1, 1, 1, 0] BGm) (GmS13 m w i q off n c tk tb tc to tn et l e) [6] =
  some (.normal, (GmS26 w off n c i tk tb tc to tn et l e)) := by kernel_rfl
noncomputable def GmS27 (w : Int) (off : Nat) (n : Nat) (c : Nat) (j : Int) (q : List Int) (et : TypeId) (l : List Int) (e : TypeId) : KSt := ⟨(frameL 38 [(6, (.int .u64 w))]), ⟨2, 1, [(0, 0, .cells [(.slice (some ⟨1, off, none⟩) n c), (.int .i64 (j + 1)), (.bool true), (.int .i64 2), (.int .u64 w), (.int .i64 j), (.int .u64 0), (.int .u64 (q.getD (Int.toNat j) 0))] et true), (1, 0, .tail off .u64 l e)]⟩⟩
theorem GmR20 (m : Nat) (w : Int) (i : Int) (q : List Int) (off : Nat) (n : Nat) (c : Nat) (j : Int) (et : TypeId) (l : List Int) (e : TypeId) : GmEV boxW (codeAt [1, 1, 1, 1, 1, 0] BGm) (GmS23 m w i q off n c j et l e) [6] =
  some (.normal, (GmS27 w off n c j q et l e)) := by kernel_rfl
end
theorem Gmz {ks : ByteArray} {vs : ByteArray} {n : Nat} {off : Nat} {c : Nat} {et : TypeId} {l : List Int} {e : TypeId} {tk : Int} {tb : Int} {tc : Int} {to : Int} {tn : Int} (h16 : ks.size ≤ 16) (h24 : vs.size ≤ 24) (hn : n = 0)   {Q : Ex → St → Prop} (hq : Q .ret (KSt.low (GmS6 boxW off n c ks vs et l e))) : Gets Try.prog (KH.low ⟨2, 1, [(0, 0, .cells [(.slice (some ⟨1, off, none⟩) n c), (.int .i64 0), (.bool false), (.int .i64 tk), (.int .u64 tb), (.int .i64 tc), (.int .u64 to), (.int .u64 tn)] et true), (1, 0, .tail off .u64 l e)]⟩) BGm (KSt.low (GmS0 ks vs off n c tk tb tc to tn et l e)) Q := by
  rw [GmC]; refine Gets.seq ?_
  refine Gmgo (GmR1 boxW ks vs off n c tk tb tc to tn et l e) ?_
  rw [GmC1]; refine Gets.seq ?_
  refine Gmgo (x := .normal) (s' := (GmS2 boxW ks vs off n c tk tb tc to tn et l e)) ((GmR2 boxW ks vs off n c tk tb tc to tn et l e).trans (by rw [condT (and_t (Nat.ble_eq_true_of_le h16) (Nat.ble_eq_true_of_le h24))])) ?_
  rw [GmC1_1]; refine Gets.seq ?_
  refine Gmgo (x := .normal) (s' := (GmS4 boxW ks vs off n c et l e)) ((GmR3 boxW ks vs off n c tk tb tc to tn et l e).trans (by rw [condF (decide_eq_false (by omega))])) ?_
  rw [GmC1_1_1]; refine Gets.seq ?_
  rw [GmC1_1_1_0]; refine Gets.seq ?_
  refine Gmgo (GmR4 boxW ks vs off n c et l e) ?_
  rw [GmC1_1_1_0_1]; refine Gets.cond true (by kernel_rfl) (by kernel_rfl) ?_; show Gets _ _ (codeAt [1, 1, 1, 0, 1, 0] BGm) _ _
  rw [GmC1_1_1_0_1_0]; refine Gets.seq ?_
  refine Gmgo (GmR5 boxW ks vs off n c et l e) ?_
  rw [GmC1_1_1_0_1_0_1]; refine Gets.ev fitM.mix fitM.cfg (fitM.sound mkn_sound 14 0) 14 rfl (s' := KSt.low (GmS6 boxW off n c ks vs et l e)) (x := .ret) rfl ?_
  exact hq
theorem Gmb {ks : ByteArray} {vs : ByteArray} {n : Nat} {l : List Int} {off : Nat} {c : Nat} {tk : Int} {tb : Int} {tc : Int} {to : Int} {tn : Int} {et : TypeId} {e : TypeId} (h16 : ks.size ≤ 16) (h24 : vs.size ≤ 24) (hn : 1 ≤ n) (hl : l.length = n) (hb : l.getD 0 0 = 0)   {Q : Ex → St → Prop} (hq : Q .ret (KSt.low (GmS9 off n c tk tb tc to tn et l e))) : Gets Try.prog (KH.low ⟨2, 1, [(0, 0, .cells [(.slice (some ⟨1, off, none⟩) n c), (.int .i64 0), (.bool false), (.int .i64 tk), (.int .u64 tb), (.int .i64 tc), (.int .u64 to), (.int .u64 tn)] et true), (1, 0, .tail off .u64 l e)]⟩) BGm (KSt.low (GmS0 ks vs off n c tk tb tc to tn et l e)) Q := by
  rw [GmC]; refine Gets.seq ?_
  refine Gmgo (GmR1 boxW ks vs off n c tk tb tc to tn et l e) ?_
  rw [GmC1]; refine Gets.seq ?_
  refine Gmgo (x := .normal) (s' := (GmS2 boxW ks vs off n c tk tb tc to tn et l e)) ((GmR2 boxW ks vs off n c tk tb tc to tn et l e).trans (by rw [condT (and_t (Nat.ble_eq_true_of_le h16) (Nat.ble_eq_true_of_le h24))])) ?_
  rw [GmC1_1]; refine Gets.seq ?_
  refine Gmgo (x := .normal) (s' := (GmS7 boxW ks vs l off n c tk tb tc to tn et e)) ((GmR3 boxW ks vs off n c tk tb tc to tn et l e).trans (by rw [condT (decide_eq_true (by omega)), if_pos (⟨by omega, by omega⟩), condT (ble_t (by omega)), obind_at (k := 0) (by omega) (by omega)] <;> rfl)) ?_
  rw [GmC1_1_1]; refine Gets.seq ?_
  rw [GmC1_1_1_0]; refine Gets.seq ?_
  refine Gmgo (GmR6 boxW ks vs l off n c tk tb tc to tn et e) ?_
  rw [GmC1_1_1_0_1]; refine Gets.cond true (by kernel_rfl) (GmeX (b := ((l.getD 0 0) == 0)) (by kernel_rfl) ((show ((l.getD 0 0) == 0) = true from ibeq_t (by omega)))) ?_; show Gets _ _ (codeAt [1, 1, 1, 0, 1, 0] BGm) _ _
  rw [GmC1_1_1_0_1_0]; refine Gets.seq ?_
  refine Gmgo (GmR7 boxW ks vs l off n c tk tb tc to tn et e) ?_
  rw [GmC1_1_1_0_1_0_1]; refine Gets.ev fitM.mix fitM.cfg (fitM.sound mkn_sound 14 0) 14 rfl (s' := KSt.low (GmS9 off n c tk tb tc to tn et l e)) (x := .ret) rfl ?_
  exact hq
theorem Gmpre {ks : ByteArray} {vs : ByteArray} {n : Nat} {l : List Int} {off : Nat} {c : Nat} {tk : Int} {tb : Int} {tc : Int} {to : Int} {tn : Int} {et : TypeId} {e : TypeId} (h16 : ks.size ≤ 16) (h24 : vs.size ≤ 24) (hn : 1 ≤ n) (hl : l.length = n) (hb : l.getD 0 0 ≠ 0)   {Q : Ex → St → Prop} (hq : Gets Try.prog (KH.low ⟨2, 1, [(0, 0, .cells [(.slice (some ⟨1, off, none⟩) n c), (.int .i64 0), (.bool false), (.int .i64 tk), (.int .u64 tb), (.int .i64 tc), (.int .u64 to), (.int .u64 tn)] et true), (1, 0, .tail off .u64 l e)]⟩) (codeAt [1, 1, 1, 1, 0, 1] BGm) (KSt.low (GmS10 boxW ks vs l off n c tk tb tc to tn et e)) (onN (fun s => Gets Try.prog (KH.low ⟨2, 1, [(0, 0, .cells [(.slice (some ⟨1, off, none⟩) n c), (.int .i64 0), (.bool false), (.int .i64 tk), (.int .u64 tb), (.int .i64 tc), (.int .u64 to), (.int .u64 tn)] et true), (1, 0, .tail off .u64 l e)]⟩) (codeAt [1, 1, 1, 1, 1] BGm) s (Q)) (Q))) : Gets Try.prog (KH.low ⟨2, 1, [(0, 0, .cells [(.slice (some ⟨1, off, none⟩) n c), (.int .i64 0), (.bool false), (.int .i64 tk), (.int .u64 tb), (.int .i64 tc), (.int .u64 to), (.int .u64 tn)] et true), (1, 0, .tail off .u64 l e)]⟩) BGm (KSt.low (GmS0 ks vs off n c tk tb tc to tn et l e)) Q := by
  rw [GmC]; refine Gets.seq ?_
  refine Gmgo (GmR1 boxW ks vs off n c tk tb tc to tn et l e) ?_
  rw [GmC1]; refine Gets.seq ?_
  refine Gmgo (x := .normal) (s' := (GmS2 boxW ks vs off n c tk tb tc to tn et l e)) ((GmR2 boxW ks vs off n c tk tb tc to tn et l e).trans (by rw [condT (and_t (Nat.ble_eq_true_of_le h16) (Nat.ble_eq_true_of_le h24))])) ?_
  rw [GmC1_1]; refine Gets.seq ?_
  refine Gmgo (x := .normal) (s' := (GmS7 boxW ks vs l off n c tk tb tc to tn et e)) ((GmR3 boxW ks vs off n c tk tb tc to tn et l e).trans (by rw [condT (decide_eq_true (by omega)), if_pos (⟨by omega, by omega⟩), condT (ble_t (by omega)), obind_at (k := 0) (by omega) (by omega)] <;> rfl)) ?_
  rw [GmC1_1_1]; refine Gets.seq ?_
  rw [GmC1_1_1_0]; refine Gets.seq ?_
  refine Gmgo (GmR6 boxW ks vs l off n c tk tb tc to tn et e) ?_
  rw [GmC1_1_1_0_1]; refine Gets.cond false (by kernel_rfl) (GmeX (b := ((l.getD 0 0) == 0)) (by kernel_rfl) ((show ((l.getD 0 0) == 0) = false from ibeq_f (by omega)))) ?_; show Gets _ _ (codeAt [1, 1, 1, 0, 1, 1] BGm) _ _
  refine Gmgo (GmR8 boxW ks vs l off n c tk tb tc to tn et e) ?_
  rw [GmC1_1_1_1]; refine Gets.seq ?_
  rw [GmC1_1_1_1_0]; refine Gets.seq ?_
  refine Gmgo (GmR9 boxW ks vs l off n c tk tb tc to tn et e) ?_
  exact hq
theorem Gmld {i : Int} {m : Nat} {q : List Int} {l : List Int} {n : Nat} {w : Int} {off : Nat} {c : Nat} {tk : Int} {tb : Int} {tc : Int} {to : Int} {tn : Int} {et : TypeId} {e : TypeId} (hi : 0 ≤ i) (hm : m ≤ 6) (hq : q.length = m) (hl : l.length = n) (hn : n ≤ 999) (hx : i < (m : Int)) (hin : i + 1 < (n : Int))   {Q : Ex → St → Prop} (hq : Q .normal (KSt.low (GmS18 m w i q off n c tk tb tc to tn et l e))) : Gets Try.prog (KH.low ⟨2, 1, [(0, 0, .cells [(.slice (some ⟨1, off, none⟩) n c), (.int .i64 0), (.bool false), (.int .i64 tk), (.int .u64 tb), (.int .i64 tc), (.int .u64 to), (.int .u64 tn)] et true), (1, 0, .tail off .u64 l e)]⟩) (codeAt [1, 1, 1, 1, 0, 1, 0, 0] BGm) (KSt.low (GmS11 m w i q off n c tk tb tc to tn et l e)) Q := by
  rw [GmC1_1_1_1_0_1_0_0]; refine Gets.seq ?_
  rw [GmC1_1_1_1_0_1_0_0_0]; refine Gets.seq ?_
  refine Gmgo (GmR10 boxW m w i q off n c tk tb tc to tn et l e) ?_
  rw [GmC1_1_1_1_0_1_0_0_0_1]; refine Gets.cond true (by kernel_rfl) (GmeX (b := (decide (i < ((m : Nat) : Int)))) (by kernel_rfl) ((show (decide (i < ((m : Nat) : Int))) = true from decide_eq_true (by omega)))) ?_; show Gets _ _ (codeAt [1, 1, 1, 1, 0, 1, 0, 0, 0, 1, 0] BGm) _ _
  refine Gmgo (GmR11 boxW m w i q off n c tk tb tc to tn et l e) ?_
  rw [GmC1_1_1_1_0_1_0_0_1]; refine Gets.seq ?_
  rw [GmC1_1_1_1_0_1_0_0_1_0]; refine Gets.block ?_
  refine Gmgo (x := .normal) (s' := (GmS16 m w i q off n c tk tb tc to tn et l e)) ((GmR12 boxW m w i q off n c tk tb tc to tn et l e).trans (by rw [if_pos (⟨by omega, by omega⟩), obind_at (k := 0 + ((Int.toNat i) * 1)) (by omega) (by omega), condT (decide_eq_true (by omega)), if_pos (⟨by (first | omega | ((try simp (disch := omega) only [wrap_i64_id]) <;> omega)), by (first | omega | ((try simp (disch := omega) only [wrap_i64_id]) <;> omega))⟩), condT (ble_t (by (first | omega | ((try simp (disch := omega) only [wrap_i64_id]) <;> omega)))), obind_at (k := ((Int.toNat (IntKind.wrap .i64 ((IntKind.wrap .i64 ((i + 1) + 1)) - 1))) * 1)) (by (first | omega | ((try simp (disch := omega) only [wrap_i64_id]) <;> omega))) (by (first | omega | ((try simp (disch := omega) only [wrap_i64_id]) <;> omega)))] <;> (show some (Ex.normal, (GmS14 m w i q off n c tk tb tc to tn et l e)) = some (Ex.normal, (GmS16 m w i q off n c tk tb tc to tn et l e)); unfold GmS14 GmS16; rw [(show (IntKind.wrap .i64 ((i + 1) + 1)) = ((i + 1) + 1) from wrap_i64_id (by omega) (by omega))]))) ?_
  refine Gmgo (x := .normal) (s' := (GmS18 m w i q off n c tk tb tc to tn et l e)) ((GmR13 boxW m w i q off n c tk tb tc to tn et l e).trans (by (show some (Ex.normal, (GmS17 m w i q off n c tk tb tc to tn et l e)) = some (Ex.normal, (GmS18 m w i q off n c tk tb tc to tn et l e)); unfold GmS17 GmS18; rw [(show (IntKind.wrap .i64 (i + 1)) = (i + 1) from wrap_i64_id (by omega) (by omega))]))) ?_
  exact hq
theorem Gmov {i : Int} {m : Nat} {q : List Int} {l : List Int} {n : Nat} {w : Int} {off : Nat} {c : Nat} {et : TypeId} {e : TypeId} {tk : Int} {tb : Int} {tc : Int} {to : Int} {tn : Int} (hi : 0 ≤ i) (hm : m ≤ 6) (hq : q.length = m) (hl : l.length = n) (hn : n ≤ 999) (hx : i < (m : Int)) (hin : i + 1 = (n : Int))   {Q : Ex → St → Prop} (hq : Q .normal (KSt.low (GmS22 m w i q off n c et l e))) : Gets Try.prog (KH.low ⟨2, 1, [(0, 0, .cells [(.slice (some ⟨1, off, none⟩) n c), (.int .i64 0), (.bool false), (.int .i64 tk), (.int .u64 tb), (.int .i64 tc), (.int .u64 to), (.int .u64 tn)] et true), (1, 0, .tail off .u64 l e)]⟩) (codeAt [1, 1, 1, 1, 0, 1, 0, 0] BGm) (KSt.low (GmS11 m w i q off n c tk tb tc to tn et l e)) Q := by
  rw [GmC1_1_1_1_0_1_0_0]; refine Gets.seq ?_
  rw [GmC1_1_1_1_0_1_0_0_0]; refine Gets.seq ?_
  refine Gmgo (GmR10 boxW m w i q off n c tk tb tc to tn et l e) ?_
  rw [GmC1_1_1_1_0_1_0_0_0_1]; refine Gets.cond true (by kernel_rfl) (GmeX (b := (decide (i < ((m : Nat) : Int)))) (by kernel_rfl) ((show (decide (i < ((m : Nat) : Int))) = true from decide_eq_true (by omega)))) ?_; show Gets _ _ (codeAt [1, 1, 1, 1, 0, 1, 0, 0, 0, 1, 0] BGm) _ _
  refine Gmgo (GmR11 boxW m w i q off n c tk tb tc to tn et l e) ?_
  rw [GmC1_1_1_1_0_1_0_0_1]; refine Gets.seq ?_
  rw [GmC1_1_1_1_0_1_0_0_1_0]; refine Gets.block ?_
  refine Gmgo (x := .normal) (s' := (GmS19 m w i q off n c et l e)) ((GmR12 boxW m w i q off n c tk tb tc to tn et l e).trans (by rw [if_pos (⟨by omega, by omega⟩), obind_at (k := 0 + ((Int.toNat i) * 1)) (by omega) (by omega), condF (decide_eq_false (by omega))] <;> (show some (Ex.normal, (GmS20 m w i q off n c et l e)) = some (Ex.normal, (GmS19 m w i q off n c et l e)); unfold GmS20 GmS19; rw [(show (0 + ((Int.toNat i) * 1)) = (Int.toNat i) from by rw [Nat.mul_one, Nat.zero_add])]))) ?_
  refine Gmgo (x := .normal) (s' := (GmS22 m w i q off n c et l e)) ((GmR14 boxW m w i q off n c et l e).trans (by (show some (Ex.normal, (GmS21 m w i q off n c et l e)) = some (Ex.normal, (GmS22 m w i q off n c et l e)); unfold GmS21 GmS22; rw [(show (IntKind.wrap .i64 (i + 1)) = (i + 1) from wrap_i64_id (by omega) (by omega))]))) ?_
  exact hq
theorem Gmb1 {i : Int} {m : Nat} {q : List Int} {l : List Int} {n : Nat} {w : Int} {off : Nat} {c : Nat} {j : Int} {et : TypeId} {e : TypeId} {tk : Int} {tb : Int} {tc : Int} {to : Int} {tn : Int} (hi : 0 ≤ i) (hm : m ≤ 6) (hq : q.length = m) (hl : l.length = n) (hn : n ≤ 999) (hx : i < (m : Int))   {Q : Ex → St → Prop} (hq : Q .normal (KSt.low (GmS25 m w i q off n c j et l e))) : Gets Try.prog (KH.low ⟨2, 1, [(0, 0, .cells [(.slice (some ⟨1, off, none⟩) n c), (.int .i64 0), (.bool false), (.int .i64 tk), (.int .u64 tb), (.int .i64 tc), (.int .u64 to), (.int .u64 tn)] et true), (1, 0, .tail off .u64 l e)]⟩) (codeAt [1, 1, 1, 1, 0, 1, 0, 0] BGm) (KSt.low (GmS12 m w i q off n c j et l e)) Q := by
  rw [GmC1_1_1_1_0_1_0_0]; refine Gets.seq ?_
  rw [GmC1_1_1_1_0_1_0_0_0]; refine Gets.seq ?_
  refine Gmgo (GmR15 boxW m w i q off n c j et l e) ?_
  rw [GmC1_1_1_1_0_1_0_0_0_1]; refine Gets.cond true (by kernel_rfl) (GmeX (b := (decide (i < ((m : Nat) : Int)))) (by kernel_rfl) ((show (decide (i < ((m : Nat) : Int))) = true from decide_eq_true (by omega)))) ?_; show Gets _ _ (codeAt [1, 1, 1, 1, 0, 1, 0, 0, 0, 1, 0] BGm) _ _
  refine Gmgo (GmR16 boxW m w i q off n c j et l e) ?_
  rw [GmC1_1_1_1_0_1_0_0_1]; refine Gets.seq ?_
  rw [GmC1_1_1_1_0_1_0_0_1_0]; refine Gets.block ?_
  refine Gmgo (x := .normal) (s' := (GmS12 m w i q off n c j et l e)) ((GmR17 boxW m w i q off n c j et l e).trans (by rw [if_pos (⟨by omega, by omega⟩), obind_at (k := 0 + ((Int.toNat i) * 1)) (by omega) (by omega)] <;> rfl)) ?_
  refine Gmgo (x := .normal) (s' := (GmS25 m w i q off n c j et l e)) ((GmR18 boxW m w i q off n c j et l e).trans (by (show some (Ex.normal, (GmS24 m w i q off n c j et l e)) = some (Ex.normal, (GmS25 m w i q off n c j et l e)); unfold GmS24 GmS25; rw [(show (IntKind.wrap .i64 (i + 1)) = (i + 1) from wrap_i64_id (by omega) (by omega))]))) ?_
  exact hq
theorem GmxA {m : Nat} {i : Int} {w : Int} {q : List Int} {off : Nat} {n : Nat} {c : Nat} {tk : Int} {tb : Int} {tc : Int} {to : Int} {tn : Int} {et : TypeId} {l : List Int} {e : TypeId} (hx : (m : Int) ≤ i)   {Q : Ex → St → Prop} (hq : Q (.exit 0) (KSt.low (GmS13 m w i q off n c tk tb tc to tn et l e))) : Gets Try.prog (KH.low ⟨2, 1, [(0, 0, .cells [(.slice (some ⟨1, off, none⟩) n c), (.int .i64 0), (.bool false), (.int .i64 tk), (.int .u64 tb), (.int .i64 tc), (.int .u64 to), (.int .u64 tn)] et true), (1, 0, .tail off .u64 l e)]⟩) (codeAt [1, 1, 1, 1, 0, 1, 0, 0] BGm) (KSt.low (GmS11 m w i q off n c tk tb tc to tn et l e)) Q := by
  rw [GmC1_1_1_1_0_1_0_0]; refine Gets.seq ?_
  rw [GmC1_1_1_1_0_1_0_0_0]; refine Gets.seq ?_
  refine Gmgo (GmR10 boxW m w i q off n c tk tb tc to tn et l e) ?_
  rw [GmC1_1_1_1_0_1_0_0_0_1]; refine Gets.cond false (by kernel_rfl) (GmeX (b := (decide (i < ((m : Nat) : Int)))) (by kernel_rfl) ((show (decide (i < ((m : Nat) : Int))) = false from decide_eq_false (by omega)))) ?_; show Gets _ _ (codeAt [1, 1, 1, 1, 0, 1, 0, 0, 0, 1, 1] BGm) _ _
  rw [GmC1_1_1_1_0_1_0_0_0_1_1]; refine Gets.ev fitM.mix fitM.cfg (fitM.sound mkn_sound 14 0) 14 rfl (s' := KSt.low (GmS13 m w i q off n c tk tb tc to tn et l e)) (x := (.exit 0)) rfl ?_
  exact hq
theorem GmxB {m : Nat} {i : Int} {w : Int} {q : List Int} {off : Nat} {n : Nat} {c : Nat} {j : Int} {et : TypeId} {l : List Int} {e : TypeId} {tk : Int} {tb : Int} {tc : Int} {to : Int} {tn : Int} (hx : (m : Int) ≤ i)   {Q : Ex → St → Prop} (hq : Q (.exit 0) (KSt.low (GmS23 m w i q off n c j et l e))) : Gets Try.prog (KH.low ⟨2, 1, [(0, 0, .cells [(.slice (some ⟨1, off, none⟩) n c), (.int .i64 0), (.bool false), (.int .i64 tk), (.int .u64 tb), (.int .i64 tc), (.int .u64 to), (.int .u64 tn)] et true), (1, 0, .tail off .u64 l e)]⟩) (codeAt [1, 1, 1, 1, 0, 1, 0, 0] BGm) (KSt.low (GmS12 m w i q off n c j et l e)) Q := by
  rw [GmC1_1_1_1_0_1_0_0]; refine Gets.seq ?_
  rw [GmC1_1_1_1_0_1_0_0_0]; refine Gets.seq ?_
  refine Gmgo (GmR15 boxW m w i q off n c j et l e) ?_
  rw [GmC1_1_1_1_0_1_0_0_0_1]; refine Gets.cond false (by kernel_rfl) (GmeX (b := (decide (i < ((m : Nat) : Int)))) (by kernel_rfl) ((show (decide (i < ((m : Nat) : Int))) = false from decide_eq_false (by omega)))) ?_; show Gets _ _ (codeAt [1, 1, 1, 1, 0, 1, 0, 0, 0, 1, 1] BGm) _ _
  rw [GmC1_1_1_1_0_1_0_0_0_1_1]; refine Gets.ev fitM.mix fitM.cfg (fitM.sound mkn_sound 14 0) 14 rfl (s' := KSt.low (GmS23 m w i q off n c j et l e)) (x := (.exit 0)) rfl ?_
  exact hq
theorem GmfA {w : Int} {off : Nat} {n : Nat} {c : Nat} {i : Int} {tk : Int} {tb : Int} {tc : Int} {to : Int} {tn : Int} {et : TypeId} {l : List Int} {e : TypeId} {m : Nat} {q : List Int}   {Q : Ex → St → Prop} (hq : Q .ret (KSt.low (GmS26 w off n c i tk tb tc to tn et l e))) : Gets Try.prog (KH.low ⟨2, 1, [(0, 0, .cells [(.slice (some ⟨1, off, none⟩) n c), (.int .i64 0), (.bool false), (.int .i64 tk), (.int .u64 tb), (.int .i64 tc), (.int .u64 to), (.int .u64 tn)] et true), (1, 0, .tail off .u64 l e)]⟩) (codeAt [1, 1, 1, 1, 1] BGm) (KSt.low (GmS13 m w i q off n c tk tb tc to tn et l e)) Q := by
  rw [GmC1_1_1_1_1]; refine Gets.seq ?_
  refine Gmgo (GmR19 boxW m w i q off n c tk tb tc to tn et l e) ?_
  rw [GmC1_1_1_1_1_1]; refine Gets.ev fitM.mix fitM.cfg (fitM.sound mkn_sound 14 0) 14 rfl (s' := KSt.low (GmS26 w off n c i tk tb tc to tn et l e)) (x := .ret) rfl ?_
  exact hq
theorem GmfB {w : Int} {off : Nat} {n : Nat} {c : Nat} {j : Int} {q : List Int} {et : TypeId} {l : List Int} {e : TypeId} {tk : Int} {tb : Int} {tc : Int} {to : Int} {tn : Int} {m : Nat} {i : Int}   {Q : Ex → St → Prop} (hq : Q .ret (KSt.low (GmS27 w off n c j q et l e))) : Gets Try.prog (KH.low ⟨2, 1, [(0, 0, .cells [(.slice (some ⟨1, off, none⟩) n c), (.int .i64 0), (.bool false), (.int .i64 tk), (.int .u64 tb), (.int .i64 tc), (.int .u64 to), (.int .u64 tn)] et true), (1, 0, .tail off .u64 l e)]⟩) (codeAt [1, 1, 1, 1, 1] BGm) (KSt.low (GmS23 m w i q off n c j et l e)) Q := by
  rw [GmC1_1_1_1_1]; refine Gets.seq ?_
  refine Gmgo (GmR20 boxW m w i q off n c j et l e) ?_
  rw [GmC1_1_1_1_1_1]; refine Gets.ev fitM.mix fitM.cfg (fitM.sound mkn_sound 14 0) 14 rfl (s' := KSt.low (GmS27 w off n c j q et l e)) (x := .ret) rfl ?_
  exact hq
noncomputable def BHm : Code := bodyOf Try.prog 41
theorem BHm_is : Try.f41.body = some BHm := by kernel_rfl
theorem BHm_ok : okCode Try.prog.globals.size BHm = true := by kernel_rfl
noncomputable abbrev HmEV (boxW : ByteArray → ByteArray → List Int) (c : Code) (s : KSt) (lv : List Nat) : Option (Ex × KSt) := evCK Try.prog cfgM (runK Try.prog cfgM fsM (conTk mknDom (rcK [] (mknT boxW))) 14 40) 14 c s (normC 1 lv)
theorem Hmgo {lv_ : List Nat} {co_ : Code} {st_ s' : KSt} {x : Ex} {Q : Ex → St → Prop} {tk : Int} {tb : Int} {tc : Int} {to : Int} {tn : Int} {et : TypeId} (hE_ : HmEV boxW co_ st_ lv_ = some (x, s')) (hq_ : Q x s'.low) (hok_ : okCode Try.prog.globals.size co_ = true := by kernel_rfl) : Gets Try.prog (KH.low ⟨1, 1, [(0, 0, .cells [(.slice (some ⟨0, 0, some 0⟩) 0 0), (.int .i64 0), (.bool false), (.int .i64 tk), (.int .u64 tb), (.int .i64 tc), (.int .u64 to), (.int .u64 tn)] et true)]⟩) co_ st_.low Q := Gets.ofN fitM mkn_sound (rc_agree _ _ _) 14 40 hok_ hE_ hq_
theorem HmeX {v : Value} {b c : Bool} (h : v = .bool b) (hb : b = c) : v = .bool c := by rw [h, hb]
theorem HmC : BHm = .seq (codeAt [0] BHm) (codeAt [1] BHm) := by kernel_rfl
theorem HmC1 : (codeAt [1] BHm) = .seq (codeAt [1, 0] BHm) (codeAt [1, 1] BHm) := by kernel_rfl
theorem HmC1_1 : (codeAt [1, 1] BHm) = .seq (codeAt [1, 1, 0] BHm) (codeAt [1, 1, 1] BHm) := by kernel_rfl
theorem HmC1_1_1 : (codeAt [1, 1, 1] BHm) = .seq (codeAt [1, 1, 1, 0] BHm) (codeAt [1, 1, 1, 1] BHm) := by kernel_rfl
theorem HmC1_1_1_0 : (codeAt [1, 1, 1, 0] BHm) = .seq (codeAt [1, 1, 1, 0, 0] BHm) (codeAt [1, 1, 1, 0, 1] BHm) := by kernel_rfl
theorem HmC1_1_1_0_1 : (codeAt [1, 1, 1, 0, 1] BHm) = .cond (.tmp 22) (codeAt [1, 1, 1, 0, 1, 0] BHm) (codeAt [1, 1, 1, 0, 1, 1] BHm) := by kernel_rfl
theorem HmC1_1_1_0_1_0 : (codeAt [1, 1, 1, 0, 1, 0] BHm) = .seq (codeAt [1, 1, 1, 0, 1, 0, 0] BHm) (codeAt [1, 1, 1, 0, 1, 0, 1] BHm) := by kernel_rfl
theorem HmC1_1_1_0_1_0_1 : (codeAt [1, 1, 1, 0, 1, 0, 1] BHm) = .ret := by kernel_rfl
section
variable (boxW : ByteArray → ByteArray → List Int)
noncomputable def HmS0 (ks : ByteArray) (vs : ByteArray) (tk : Int) (tb : Int) (tc : Int) (to : Int) (tn : Int) (et : TypeId) : KSt := (firstK [(.pointer (some ⟨0, 0, none⟩)), (.string ks), (.string vs)] 38 ⟨1, 1, [(0, 0, .cells [(.slice (some ⟨0, 0, some 0⟩) 0 0), (.int .i64 0), (.bool false), (.int .i64 tk), (.int .u64 tb), (.int .i64 tc), (.int .u64 to), (.int .u64 tn)] et true)]⟩)
noncomputable def HmS1 (ks : ByteArray) (vs : ByteArray) (tk : Int) (tb : Int) (tc : Int) (to : Int) (tn : Int) (et : TypeId) : KSt := ⟨(frameL 38 [(0, (.pointer (some ⟨0, 0, none⟩))), (1, (.string ks)), (2, (.string vs))]), ⟨1, 1, [(0, 0, .cells [(.slice (some ⟨0, 0, some 0⟩) 0 0), (.int .i64 0), (.bool false), (.int .i64 tk), (.int .u64 tb), (.int .i64 tc), (.int .u64 to), (.int .u64 tn)] et true)]⟩⟩
theorem HmR1 (ks : ByteArray) (vs : ByteArray) (tk : Int) (tb : Int) (tc : Int) (to : Int) (tn : Int) (et : TypeId) : HmEV boxW (codeAt [0] BHm) (HmS0 ks vs tk tb tc to tn et) [0, 1, 2] =
  some (.normal, (HmS1 ks vs tk tb tc to tn et)) := by kernel_rfl
noncomputable def HmS2 (ks : ByteArray) (vs : ByteArray) (tk : Int) (tb : Int) (tc : Int) (to : Int) (tn : Int) (et : TypeId) : KSt := ⟨(frameL 38 [(0, (.pointer (some ⟨0, 0, none⟩))), (7, (.slice (some ⟨1, 0, none⟩) (List.length (boxW ks vs)) (List.length (boxW ks vs))))]), ⟨2, 1, [(1, 0, .ints .u64 (boxW ks vs) 30 true), (0, 0, .cells [(.slice (some ⟨0, 0, some 0⟩) 0 0), (.int .i64 0), (.bool false), (.int .i64 tk), (.int .u64 tb), (.int .i64 tc), (.int .u64 to), (.int .u64 tn)] et true)]⟩⟩
theorem HmR2 (ks : ByteArray) (vs : ByteArray) (tk : Int) (tb : Int) (tc : Int) (to : Int) (tn : Int) (et : TypeId) : HmEV boxW (codeAt [1, 0] BHm) (HmS1 ks vs tk tb tc to tn et) [0, 7] =
  bif ((Nat.ble (ByteArray.size ks) 16) && (Nat.ble (ByteArray.size vs) 24)) then
    some (.normal, (HmS2 boxW ks vs tk tb tc to tn et))
  else
    none := by kernel_rfl
noncomputable def HmS3 (ks : ByteArray) (vs : ByteArray) (et : TypeId) : KSt := ⟨(frameL 38 [(0, (.pointer (some ⟨0, 0, none⟩))), (7, (.slice (some ⟨1, 0, none⟩) (List.length (boxW ks vs)) (List.length (boxW ks vs)))), (9, (.int .u64 0))]), ⟨2, 1, [(1, 0, .ints .u64 (boxW ks vs) 30 true), (0, 0, .cells [(.slice (some ⟨0, 0, some 0⟩) 0 0), (.int .i64 0), (.bool true), (.int .i64 5), (.int .u64 0), (.int .i64 (((List.length (boxW ks vs)) : Nat) : Int)), (.int .u64 0), (.int .u64 0)] et true)]⟩⟩
theorem HmR3 (ks : ByteArray) (vs : ByteArray) (tk : Int) (tb : Int) (tc : Int) (to : Int) (tn : Int) (et : TypeId) : HmEV boxW (codeAt [1, 1, 0] BHm) (HmS2 boxW ks vs tk tb tc to tn et) [0, 7, 9] =
  some (.normal, (HmS3 boxW ks vs et)) := by kernel_rfl
noncomputable def HmS4 (ks : ByteArray) (vs : ByteArray) (et : TypeId) : KSt := ⟨(frameL 38 [(0, (.pointer (some ⟨0, 0, none⟩))), (7, (.slice (some ⟨1, 0, none⟩) (List.length (boxW ks vs)) (List.length (boxW ks vs)))), (9, (.int .u64 0)), (22, (.bool true))]), ⟨2, 1, [(1, 0, .ints .u64 (boxW ks vs) 30 true), (0, 0, .cells [(.slice (some ⟨0, 0, some 0⟩) 0 0), (.int .i64 0), (.bool true), (.int .i64 5), (.int .u64 0), (.int .i64 (((List.length (boxW ks vs)) : Nat) : Int)), (.int .u64 0), (.int .u64 0)] et true)]⟩⟩
theorem HmR4 (ks : ByteArray) (vs : ByteArray) (et : TypeId) : HmEV boxW (codeAt [1, 1, 1, 0, 0] BHm) (HmS3 boxW ks vs et) [0, 7, 9, 22] =
  some (.normal, (HmS4 boxW ks vs et)) := by kernel_rfl
noncomputable def HmS5 (ks : ByteArray) (vs : ByteArray) (et : TypeId) : KSt := ⟨(frameL 38 [(6, (.int .u64 0))]), ⟨1, 1, [(0, 0, .cells [(.slice (some ⟨0, 0, some 0⟩) 0 0), (.int .i64 0), (.bool true), (.int .i64 5), (.int .u64 0), (.int .i64 (((List.length (boxW ks vs)) : Nat) : Int)), (.int .u64 0), (.int .u64 0)] et true)]⟩⟩
theorem HmR5 (ks : ByteArray) (vs : ByteArray) (et : TypeId) : HmEV boxW (codeAt [1, 1, 1, 0, 1, 0, 0] BHm) (HmS4 boxW ks vs et) [6] =
  some (.normal, (HmS5 boxW ks vs et)) := by kernel_rfl
end
theorem Hmz {ks : ByteArray} {vs : ByteArray} {et : TypeId} {tk : Int} {tb : Int} {tc : Int} {to : Int} {tn : Int} (h16 : ks.size ≤ 16) (h24 : vs.size ≤ 24)   {Q : Ex → St → Prop} (hq : Q .ret (KSt.low (HmS5 boxW ks vs et))) : Gets Try.prog (KH.low ⟨1, 1, [(0, 0, .cells [(.slice (some ⟨0, 0, some 0⟩) 0 0), (.int .i64 0), (.bool false), (.int .i64 tk), (.int .u64 tb), (.int .i64 tc), (.int .u64 to), (.int .u64 tn)] et true)]⟩) BHm (KSt.low (HmS0 ks vs tk tb tc to tn et)) Q := by
  rw [HmC]; refine Gets.seq ?_
  refine Hmgo (HmR1 boxW ks vs tk tb tc to tn et) ?_
  rw [HmC1]; refine Gets.seq ?_
  refine Hmgo (x := .normal) (s' := (HmS2 boxW ks vs tk tb tc to tn et)) ((HmR2 boxW ks vs tk tb tc to tn et).trans (by rw [condT (and_t (Nat.ble_eq_true_of_le h16) (Nat.ble_eq_true_of_le h24))])) ?_
  rw [HmC1_1]; refine Gets.seq ?_
  refine Hmgo (HmR3 boxW ks vs tk tb tc to tn et) ?_
  rw [HmC1_1_1]; refine Gets.seq ?_
  rw [HmC1_1_1_0]; refine Gets.seq ?_
  refine Hmgo (HmR4 boxW ks vs et) ?_
  rw [HmC1_1_1_0_1]; refine Gets.cond true (by kernel_rfl) (by kernel_rfl) ?_; show Gets _ _ (codeAt [1, 1, 1, 0, 1, 0] BHm) _ _
  rw [HmC1_1_1_0_1_0]; refine Gets.seq ?_
  refine Hmgo (HmR5 boxW ks vs et) ?_
  rw [HmC1_1_1_0_1_0_1]; refine Gets.ev fitM.mix fitM.cfg (fitM.sound mkn_sound 14 0) 14 rfl (s' := KSt.low (HmS5 boxW ks vs et)) (x := .ret) rfl ?_
  exact hq
noncomputable abbrev QM (l : List Int) (ks vs : ByteArray) (tk tb tc to tn : Int) (n off c : Nat) (et e : TypeId) : Ex → St → Prop := EndsR Try.prog Try.f41 (.int .u64 (List.getD l 0 0)) [.cells [(.slice (some ⟨1, off, none⟩) n c), (.int .i64 0), (.bool false), (.int .i64 tk), (.int .u64 tb), (.int .i64 tc), (.int .u64 to), (.int .u64 tn)] et true, .tail off .u64 l e] [(0, .cells [.slice (some ⟨1, off, none⟩) n c, .int .i64 (mkAt l (boxW ks vs)), .bool (mkOver l (boxW ks vs)), .int .i64 (mkA l (boxW ks vs) 0 tk), .int .u64 (mkA l (boxW ks vs) 1 tb), .int .i64 (mkA l (boxW ks vs) 2 tc), .int .u64 (mkA l (boxW ks vs) 3 to), .int .u64 (mkA l (boxW ks vs) 4 tn)] et true)] []
inductive MkInv (l : List Int) (ks vs : ByteArray) (tk tb tc to tn : Int) (n off c : Nat) (et e : TypeId) : Nat → KSt → Prop
  | a (i : Int) (hi : 0 ≤ i) (him : i ≤ (((boxW ks vs).length : Nat) : Int)) (hin : i + 1 ≤ (n : Int)) : MkInv l ks vs tk tb tc to tn n off c et e ((((boxW ks vs).length : Nat) : Int) - i).toNat (GmS11 ((boxW ks vs).length) (l.getD 0 0) i (boxW ks vs) off n c tk tb tc to tn et l e)
  | b (i j : Int) (hi : 0 ≤ i) (him : i ≤ (((boxW ks vs).length : Nat) : Int)) (hj0 : 0 ≤ j) (hj : j + 1 = (n : Int)) (hnm : (n : Int) ≤ (((boxW ks vs).length : Nat) : Int)) : MkInv l ks vs tk tb tc to tn n off c et e ((((boxW ks vs).length : Nat) : Int) - i).toNat (GmS12 ((boxW ks vs).length) (l.getD 0 0) i (boxW ks vs) off n c j et l e)
theorem loopMk (l : List Int) (ks vs : ByteArray) (tk tb tc to tn : Int) (n off c : Nat) (et e : TypeId) (hl : l.length = n) (hn : n ≤ 999) (h16 : ks.size ≤ 16) (h24 : vs.size ≤ 24) (hb : l.getD 0 0 ≠ 0) (z : Nat) (t : KSt) (hI : MkInv l ks vs tk tb tc to tn n off c et e z t) : Gets Try.prog (KH.low ⟨2, 1, [(0, 0, .cells [(.slice (some ⟨1, off, none⟩) n c), (.int .i64 0), (.bool false), (.int .i64 tk), (.int .u64 tb), (.int .i64 tc), (.int .u64 to), (.int .u64 tn)] et true), (1, 0, .tail off .u64 l e)]⟩) (codeAt [1, 1, 1, 1, 0, 1] BGm) t.low (onN (fun s => Gets Try.prog (KH.low ⟨2, 1, [(0, 0, .cells [(.slice (some ⟨1, off, none⟩) n c), (.int .i64 0), (.bool false), (.int .i64 tk), (.int .u64 tb), (.int .i64 tc), (.int .u64 to), (.int .u64 tn)] et true), (1, 0, .tail off .u64 l e)]⟩) (codeAt [1, 1, 1, 1, 1] BGm) s ((QM l ks vs tk tb tc to tn n off c et e))) ((QM l ks vs tk tb tc to tn n off c et e))) := by
  rw [GmC1_1_1_1_0_1, GmC1_1_1_1_0_1_0]
  refine Gets.loopG (fun z t => MkInv l ks vs tk tb tc to tn n off c et e z t) ?_ _ _ hI
  clear hI z t
  intro z t hI
  have hM := boxW_le h16 h24
  cases hI with
  | a i hi him hin =>
    by_cases hx : (((boxW ks vs).length : Nat) : Int) ≤ i
    · refine GmxA hx ?_
      refine ⟨fun _ => ?_, fun h => by cases h⟩
      have hov : mkOver l (boxW ks vs) = false := mkOver_f (by omega)
      have hat : mkAt l (boxW ks vs) = i + 1 := by unfold mkAt; rw [hov, decide_eq_false hb]; show (((boxW ks vs).length : Nat) : Int) + 1 = _; omega
      exact GmfA (EndsR.ret (l := [.int .u64 (l.getD 0 0)]) (by kernel_rfl) rfl (Fits.p1 (by kernel_rfl) (by rw [hat, hov, mkA_no hov, mkA_no hov, mkA_no hov, mkA_no hov, mkA_no hov]; kernel_rfl) (show (2 : Nat) ≤ 2 by decide)))
    · by_cases hin2 : i + 1 < (n : Int)
      · refine Gmld hi hM rfl hl hn (by omega) hin2 ?_
        exact ⟨_, _, by omega, rfl, .a (i + 1) (by omega) (by omega) (by omega)⟩
      · refine Gmov hi hM rfl hl hn (by omega) (by omega) ?_
        exact ⟨_, (GmS12 ((boxW ks vs).length) (l.getD 0 0) (i + 1) (boxW ks vs) off n c (i) et l e), by omega, rfl, .b (i + 1) i (by omega) (by omega) hi (by omega) (by omega)⟩
  | b i j hi him hj0 hj hnm =>
    by_cases hx : (((boxW ks vs).length : Nat) : Int) ≤ i
    · refine GmxB hx ?_
      refine ⟨fun _ => ?_, fun h => by cases h⟩
      have hov : mkOver l (boxW ks vs) = true := mkOver_t hb (by omega)
      have hat : mkAt l (boxW ks vs) = j + 1 := by unfold mkAt; rw [hov]; show ((l.length : Nat) : Int) = _; omega
      obtain ⟨a0, a1, a2, a3, a4⟩ := mkA_t hov (by omega)
      have hjn : l.length - 1 = Int.toNat j := by omega
      have hj2 : ((l.length : Nat) : Int) - 1 = j := by omega
      exact GmfB (EndsR.ret (l := [.int .u64 (l.getD 0 0)]) (by kernel_rfl) rfl (Fits.p1 (by kernel_rfl) (by rw [hat, hov, a0, a1, a2, a3, a4, hj2, hjn]; kernel_rfl) (show (2 : Nat) ≤ 2 by decide)))
    · refine Gmb1 hi hM rfl hl hn (by omega) ?_
      exact ⟨_, _, by omega, rfl, .b (i + 1) j (by omega) (by omega) hj0 hj hnm⟩
theorem mk_does (l : List Int) (ks vs : ByteArray) (tk tb tc to tn : Int) (n off c : Nat) (et e : TypeId) (hl : l.length = n) (hn : n ≤ 999) (h16 : ks.size ≤ 16) (h24 : vs.size ≤ 24) : DoesC Try.prog 41 [(.pointer (some ⟨0, 0, none⟩)), (.string ks), (.string vs)] (mkH [.cells [(.slice (some ⟨1, off, none⟩) n c), (.int .i64 0), (.bool false), (.int .i64 tk), (.int .u64 tb), (.int .i64 tc), (.int .u64 to), (.int .u64 tn)] et true, .tail off .u64 l e]).low (.int .u64 (List.getD l 0 0)) (effK (mkH [.cells [(.slice (some ⟨1, off, none⟩) n c), (.int .i64 0), (.bool false), (.int .i64 tk), (.int .u64 tb), (.int .i64 tc), (.int .u64 to), (.int .u64 tn)] et true, .tail off .u64 l e]) [(0, .cells [.slice (some ⟨1, off, none⟩) n c, .int .i64 (mkAt l (boxW ks vs)), .bool (mkOver l (boxW ks vs)), .int .i64 (mkA l (boxW ks vs) 0 tk), .int .u64 (mkA l (boxW ks vs) 1 tb), .int .i64 (mkA l (boxW ks vs) 2 tc), .int .u64 (mkA l (boxW ks vs) 3 to), .int .u64 (mkA l (boxW ks vs) 4 tn)] et true)] []).low := by
  refine EndsR.does Try.func41 BGm_is (by rw [noVars]; exact Nat.zero_le _) ?_
  show Gets Try.prog (KH.low ⟨2, 1, [(0, 0, .cells [(.slice (some ⟨1, off, none⟩) n c), (.int .i64 0), (.bool false), (.int .i64 tk), (.int .u64 tb), (.int .i64 tc), (.int .u64 to), (.int .u64 tn)] et true), (1, 0, .tail off .u64 l e)]⟩) BGm (KSt.low (GmS0 ks vs off n c tk tb tc to tn et l e)) _
  by_cases h0 : n = 0
  · obtain rfl : l = [] := List.eq_nil_of_length_eq_zero (by omega)
    exact Gmz h16 h24 h0 (EndsR.ret (l := [.int .u64 0]) (by kernel_rfl) rfl (Fits.p1 (by kernel_rfl) (by kernel_rfl) (show (2 : Nat) ≤ 2 by decide)))
  · by_cases hb : l.getD 0 0 = 0
    · have hov : mkOver l (boxW ks vs) = false := mkOver_b (by omega) hb
      have hat : mkAt l (boxW ks vs) = 1 := by unfold mkAt; rw [hov, decide_eq_true hb]; rfl
      exact Gmb h16 h24 (by omega) hl hb (EndsR.ret (l := [.int .u64 0]) (by kernel_rfl) (by rw [hb]; rfl) (Fits.p1 (by kernel_rfl) (by rw [hat, hov, mkA_no hov, mkA_no hov, mkA_no hov, mkA_no hov, mkA_no hov]; kernel_rfl) (show (2 : Nat) ≤ 2 by decide)))
    · refine Gmpre h16 h24 (by omega) hl hb ?_
      exact loopMk l ks vs tk tb tc to tn n off c et e hl hn h16 h24 hb ((((boxW ks vs).length : Nat) : Int) - 0).toNat (GmS11 ((boxW ks vs).length) (l.getD 0 0) (0) (boxW ks vs) off n c tk tb tc to tn et l e) (.a 0 (by omega) (by omega) (by omega))
theorem mk0_does (ks vs : ByteArray) (tk tb tc to tn : Int) (et : TypeId) (h16 : ks.size ≤ 16) (h24 : vs.size ≤ 24) : DoesC Try.prog 41 [(.pointer (some ⟨0, 0, none⟩)), (.string ks), (.string vs)] (mkH [.cells [(.slice (some ⟨0, 0, some 0⟩) 0 0), (.int .i64 0), (.bool false), (.int .i64 tk), (.int .u64 tb), (.int .i64 tc), (.int .u64 to), (.int .u64 tn)] et true]).low (.int .u64 (List.getD ([] : List Int) 0 0)) (effK (mkH [.cells [(.slice (some ⟨0, 0, some 0⟩) 0 0), (.int .i64 0), (.bool false), (.int .i64 tk), (.int .u64 tb), (.int .i64 tc), (.int .u64 to), (.int .u64 tn)] et true]) [(0, .cells [slice0V, .int .i64 (mkAt ([] : List Int) (boxW ks vs)), .bool (mkOver ([] : List Int) (boxW ks vs)), .int .i64 (mkA ([] : List Int) (boxW ks vs) 0 tk), .int .u64 (mkA ([] : List Int) (boxW ks vs) 1 tb), .int .i64 (mkA ([] : List Int) (boxW ks vs) 2 tc), .int .u64 (mkA ([] : List Int) (boxW ks vs) 3 to), .int .u64 (mkA ([] : List Int) (boxW ks vs) 4 tn)] et true)] []).low := by
  refine EndsR.does Try.func41 BHm_is (by rw [noVars]; exact Nat.zero_le _) ?_
  show Gets Try.prog (KH.low ⟨1, 1, [(0, 0, .cells [(.slice (some ⟨0, 0, some 0⟩) 0 0), (.int .i64 0), (.bool false), (.int .i64 tk), (.int .u64 tb), (.int .i64 tc), (.int .u64 to), (.int .u64 tn)] et true)]⟩) BHm (KSt.low (HmS0 ks vs tk tb tc to tn et)) _
  exact Hmz h16 h24 (EndsR.ret (l := [.int .u64 0]) (by kernel_rfl) rfl (Fits.p1 (by kernel_rfl) (by kernel_rfl) (show (1 : Nat) ≤ 1 by decide)))
noncomputable def rc_r17_Make (boxW : ByteArray → ByteArray → List Int) (mkA : List Int → List Int → Nat → Int → Int) (mkAt : List Int → List Int → Int) (mkOver : List Int → List Int → Bool) : RC := ⟨[.tape, .str, .str], fun avs => match avs with | [.tape l [.int .i64 ta, .bool tv, .int .i64 tk, .int .u64 tb, .int .i64 tc, .int .u64 to, .int .u64 tn] sl e, .str ks, .str vs] => ((decide (ta = 0)) && ((!tv) && ((Nat.ble (List.length l) 999) && ((Nat.ble (ByteArray.size ks) 16) && (Nat.ble (ByteArray.size vs) 24))))) | _ => false,
  fun N avs => match avs with | [.tape l [.int .i64 ta, .bool tv, .int .i64 tk, .int .u64 tb, .int .i64 tc, .int .u64 to, .int .u64 tn] sl e, .str ks, .str vs] => ((.int .u64 (List.getD l 0 0)), [(0, .cells [sl, (.int .i64 (mkAt l (boxW ks vs))), (.bool (mkOver l (boxW ks vs))), (.int .i64 (mkA l (boxW ks vs) 0 tk)), (.int .u64 (mkA l (boxW ks vs) 1 tb)), (.int .i64 (mkA l (boxW ks vs) 2 tc)), (.int .u64 (mkA l (boxW ks vs) 3 to)), (.int .u64 (mkA l (boxW ks vs) 4 tn))] e true)], []) | _ => (.bool false, [], [])⟩
theorem rc_r17_Make_does : RcDoes Try.prog [] 41 (rc_r17_Make boxW mkA mkAt mkOver) := by
  intro vb avs args blks hv hs hp
  cases hv
  cases hs with
  | tape0 more e hpm hs =>
    cases hs with
    | str ks hs =>
      cases hs with
      | str vs hs =>
        cases hs
        unfold rc_r17_Make at hp
        dsimp only at hp
        split at hp
        case h_2 => cases hp
        rename_i heq
        cases heq
        simp only [Bool.and_eq_true, decide_eq_true_eq, Bool.not_eq_true'] at hp
        obtain ⟨h1, h2, h3, h4, h5⟩ := hp
        subst h1
        subst h2
        exact mk0_does ks vs _ _ _ _ _ e (Nat.le_of_ble_eq_true h4) (Nat.le_of_ble_eq_true h5)
  | tape off_l n_l c_l l more e e_l hl_l hpm hs =>
    cases hs with
    | str ks hs =>
      cases hs with
      | str vs hs =>
        cases hs
        unfold rc_r17_Make at hp
        dsimp only at hp
        split at hp
        case h_2 => cases hp
        rename_i heq
        cases heq
        simp only [Bool.and_eq_true, decide_eq_true_eq, Bool.not_eq_true'] at hp
        obtain ⟨h1, h2, h3, h4, h5⟩ := hp
        subst h1
        subst h2
        exact mk_does l ks vs _ _ _ _ _ n_l off_l c_l e e_l hl_l (by have := Nat.le_of_ble_eq_true h3; omega) (Nat.le_of_ble_eq_true h4) (Nat.le_of_ble_eq_true h5)

end Go.Proofs.Ytnhdjmpbmecnoaa
