/- A key and a value that are not too long come back of their box; unlike ones have unlike boxes. -/
import Derived.Test.YtnhdjmpbmecnoaaBxL
import Derived.WalkKit
import Derived.ProofKit
import Derived.OpenShut
import Derived.ChangeOld
import Derived.Below
import Derived.SizedLaws
import Derived.ChangeMaps5
namespace Go.Proofs.Ytnhdjmpbmecnoaa.boxBack
open Go.Eng
open Go.ChangeShapes Go.WideShapes Go.ChangeAt Go.RowKit
set_option linter.unusedVariables false
set_option linter.unusedSimpArgs false
set_option maxRecDepth 100000
noncomputable def cfgL6 : Cfg := ⟨[]⟩
noncomputable def fsL6 : List FuncId := [7]
theorem fitL6 : Fit Try.prog cfgL6 fsL6 := ⟨by kernel_rfl, Cfg.ok_of (by kernel_rfl), by kernel_rfl⟩
noncomputable def Bf : Code := bodyOf Try.prog 7
theorem Bf_is : Try.f7.body = some Bf := by kernel_rfl
theorem Bf_ok : okCode Try.prog.globals.size Bf = true := by kernel_rfl
noncomputable def fS0 (ks : ByteArray) (vs : ByteArray) (os : ByteArray) (ov : ByteArray) : KSt := (firstK [(.string ks), (.string vs), (.agg #[(.string os), (.string ov)])] 123 ⟨0, 1, []⟩)
theorem fC : Bf = .seq (codeAt [0] Bf) (codeAt [1] Bf) := by kernel_rfl
noncomputable def fS1 (ks : ByteArray) (vs : ByteArray) (os : ByteArray) (ov : ByteArray) : KSt := ⟨(frameL 123 [(0, (.string ks)), (1, (.string vs)), (5, (.pointer (some ⟨0, 0, none⟩)))]), ⟨1, 1, [(0, 0, .cells [(.string os), (.string ov)] 56 true)]⟩⟩
theorem fR1 (boxW : ByteArray → ByteArray → List Int) (byteRV : Int → Int → Int) (byteV : Int → Int → Int) (headN : ByteArray → ByteArray → Int) (isWb : Int → Bool) (isWs : List Int → Bool) (kLen : Int → Int) (manyV : Int → Int) (sizeN : Int → Int) (textA : List Int → Int → ByteArray × Bool) (textAt : List Int → Int → Int → ByteArray) (textR : List Int → Int → ByteArray × Bool) (vLen : Int → Int) (withRV : Int → Int → Int → Int) (wordsA : ByteArray → List Int) (wordsR : ByteArray → List Int) (ks : ByteArray) (vs : ByteArray) (os : ByteArray) (ov : ByteArray) : evCK Try.prog cfgL6 (runK Try.prog cfgL6 fsL6 (conTk wbxyDom (rcK [] (wbxyT boxW byteRV byteV headN isWb isWs kLen manyV sizeN textA textAt textR vLen withRV wordsA wordsR))) 14 40) 14 (codeAt [0] Bf) (fS0 ks vs os ov) (normC 0 [0, 1, 5]) =
  some (.normal, (fS1 ks vs os ov)) := by kernel_rfl
theorem fC1 : (codeAt [1] Bf) = .seq (codeAt [1, 0] Bf) (codeAt [1, 1] Bf) := by kernel_rfl
theorem fC1_0 : (codeAt [1, 0] Bf) = .seq (codeAt [1, 0, 0] Bf) (codeAt [1, 0, 1] Bf) := by kernel_rfl
noncomputable def fS2 (ks : ByteArray) (vs : ByteArray) (os : ByteArray) (ov : ByteArray) : KSt := ⟨(frameL 123 [(0, (.string ks)), (1, (.string vs)), (5, (.pointer (some ⟨0, 0, none⟩))), (32, (.bool true))]), ⟨1, 1, [(0, 0, .cells [(.string os), (.string ov)] 56 true)]⟩⟩
noncomputable def fS3 (ks : ByteArray) (vs : ByteArray) (ov : ByteArray) (os : ByteArray) : KSt := ⟨(frameL 123 [(0, (.string ks)), (1, (.string vs)), (5, (.pointer (some ⟨0, 0, none⟩))), (32, (.bool (decide ((((ByteArray.size ov) : Nat) : Int) > 1000))))]), ⟨1, 1, [(0, 0, .cells [(.string os), (.string ov)] 56 true)]⟩⟩
theorem fR2 (boxW : ByteArray → ByteArray → List Int) (byteRV : Int → Int → Int) (byteV : Int → Int → Int) (headN : ByteArray → ByteArray → Int) (isWb : Int → Bool) (isWs : List Int → Bool) (kLen : Int → Int) (manyV : Int → Int) (sizeN : Int → Int) (textA : List Int → Int → ByteArray × Bool) (textAt : List Int → Int → Int → ByteArray) (textR : List Int → Int → ByteArray × Bool) (vLen : Int → Int) (withRV : Int → Int → Int → Int) (wordsA : ByteArray → List Int) (wordsR : ByteArray → List Int) (ks : ByteArray) (vs : ByteArray) (os : ByteArray) (ov : ByteArray) : evCK Try.prog cfgL6 (runK Try.prog cfgL6 fsL6 (conTk wbxyDom (rcK [] (wbxyT boxW byteRV byteV headN isWb isWs kLen manyV sizeN textA textAt textR vLen withRV wordsA wordsR))) 14 40) 14 (codeAt [1, 0, 0] Bf) (fS1 ks vs os ov) (normC 0 [0, 1, 5, 32]) =
  bif (decide ((((ByteArray.size ks) : Nat) : Int) > 1000)) then
    some (.normal, (fS2 ks vs os ov))
  else
    bif (decide ((((ByteArray.size vs) : Nat) : Int) > 1000)) then
      some (.normal, (fS2 ks vs os ov))
    else
      bif (decide ((((ByteArray.size os) : Nat) : Int) > 1000)) then
        some (.normal, (fS2 ks vs os ov))
      else
        some (.normal, (fS3 ks vs ov os)) := by kernel_rfl
theorem fC1_0_1 : (codeAt [1, 0, 1] Bf) = .cond (.tmp 32) (codeAt [1, 0, 1, 0] Bf) (codeAt [1, 0, 1, 1] Bf) := by kernel_rfl
theorem fC1_0_1_0 : (codeAt [1, 0, 1, 0] Bf) = .seq (codeAt [1, 0, 1, 0, 0] Bf) (codeAt [1, 0, 1, 0, 1] Bf) := by kernel_rfl
noncomputable def fS4  : KSt := ⟨(frameL 123 [(6, (.bool true))]), ⟨0, 1, []⟩⟩
theorem fR3 (boxW : ByteArray → ByteArray → List Int) (byteRV : Int → Int → Int) (byteV : Int → Int → Int) (headN : ByteArray → ByteArray → Int) (isWb : Int → Bool) (isWs : List Int → Bool) (kLen : Int → Int) (manyV : Int → Int) (sizeN : Int → Int) (textA : List Int → Int → ByteArray × Bool) (textAt : List Int → Int → Int → ByteArray) (textR : List Int → Int → ByteArray × Bool) (vLen : Int → Int) (withRV : Int → Int → Int → Int) (wordsA : ByteArray → List Int) (wordsR : ByteArray → List Int) (ks : ByteArray) (vs : ByteArray) (os : ByteArray) (ov : ByteArray) : evCK Try.prog cfgL6 (runK Try.prog cfgL6 fsL6 (conTk wbxyDom (rcK [] (wbxyT boxW byteRV byteV headN isWb isWs kLen manyV sizeN textA textAt textR vLen withRV wordsA wordsR))) 14 40) 14 (codeAt [1, 0, 1, 0, 0] Bf) (fS2 ks vs os ov) (normC 0 [6]) =
  some (.normal, fS4) := by kernel_rfl
theorem fC1_0_1_0_1 : (codeAt [1, 0, 1, 0, 1] Bf) = .ret := by kernel_rfl
theorem fk {ks : ByteArray} {vs : ByteArray} {os : ByteArray} {ov : ByteArray} (hk : 1000 < ks.size)   {Q : Ex → St → Prop} (hq : Q .ret (KSt.low fS4)) : Gets Try.prog (KH.low ⟨0, 1, []⟩) Bf (KSt.low (fS0 ks vs os ov)) Q := by
  rw [fC]; refine Gets.seq ?_
  refine Gets.ofN fitL6 wbxy_sound (rc_agree _ _ _) 14 40 (by kernel_rfl) (x := .normal) (s' := (fS1 ks vs os ov)) (fR1 boxW byteRV byteV headN isWb isWs kLen manyV sizeN textA textAt textR vLen withRV wordsA wordsR ks vs os ov) ?_
  show Gets _ _ (codeAt [1] Bf) _ _
  rw [fC1]; refine Gets.seq ?_
  rw [fC1_0]; refine Gets.seq ?_
  refine Gets.ofN fitL6 wbxy_sound (rc_agree _ _ _) 14 40 (by kernel_rfl) (x := .normal) (s' := (fS2 ks vs os ov)) ((fR2 boxW byteRV byteV headN isWb isWs kLen manyV sizeN textA textAt textR vLen withRV wordsA wordsR ks vs os ov).trans (by rw [condT (decide_eq_true (by (first | omega | ((try simp (disch := omega) only [wrap_i64_id]) <;> omega))))])) ?_
  show Gets _ _ (codeAt [1, 0, 1] Bf) _ _
  rw [fC1_0_1]; refine Gets.cond true (by kernel_rfl) (show evalX (KSt.ts (fS2 ks vs os ov)) (.tmp 32) = .bool true by kernel_rfl) ?_; show Gets _ _ (codeAt [1, 0, 1, 0] Bf) _ _
  rw [fC1_0_1_0]; refine Gets.seq ?_
  refine Gets.ofN fitL6 wbxy_sound (rc_agree _ _ _) 14 40 (by kernel_rfl) (x := .normal) (s' := fS4) (fR3 boxW byteRV byteV headN isWb isWs kLen manyV sizeN textA textAt textR vLen withRV wordsA wordsR ks vs os ov) ?_
  show Gets _ _ (codeAt [1, 0, 1, 0, 1] Bf) _ _
  rw [fC1_0_1_0_1]; refine Gets.ev fitL6.mix fitL6.cfg (fitL6.sound wbxy_sound 14 0) 14 rfl (s' := KSt.low fS4) (x := .ret) rfl ?_
  exact hq
theorem fv {ks : ByteArray} {vs : ByteArray} {os : ByteArray} {ov : ByteArray} (hk : ks.size ≤ 1000) (hv : 1000 < vs.size)   {Q : Ex → St → Prop} (hq : Q .ret (KSt.low fS4)) : Gets Try.prog (KH.low ⟨0, 1, []⟩) Bf (KSt.low (fS0 ks vs os ov)) Q := by
  rw [fC]; refine Gets.seq ?_
  refine Gets.ofN fitL6 wbxy_sound (rc_agree _ _ _) 14 40 (by kernel_rfl) (x := .normal) (s' := (fS1 ks vs os ov)) (fR1 boxW byteRV byteV headN isWb isWs kLen manyV sizeN textA textAt textR vLen withRV wordsA wordsR ks vs os ov) ?_
  show Gets _ _ (codeAt [1] Bf) _ _
  rw [fC1]; refine Gets.seq ?_
  rw [fC1_0]; refine Gets.seq ?_
  refine Gets.ofN fitL6 wbxy_sound (rc_agree _ _ _) 14 40 (by kernel_rfl) (x := .normal) (s' := (fS2 ks vs os ov)) ((fR2 boxW byteRV byteV headN isWb isWs kLen manyV sizeN textA textAt textR vLen withRV wordsA wordsR ks vs os ov).trans (by rw [condF (decide_eq_false (by (first | omega | ((try simp (disch := omega) only [wrap_i64_id]) <;> omega)))), condT (decide_eq_true (by (first | omega | ((try simp (disch := omega) only [wrap_i64_id]) <;> omega))))])) ?_
  show Gets _ _ (codeAt [1, 0, 1] Bf) _ _
  rw [fC1_0_1]; refine Gets.cond true (by kernel_rfl) (show evalX (KSt.ts (fS2 ks vs os ov)) (.tmp 32) = .bool true by kernel_rfl) ?_; show Gets _ _ (codeAt [1, 0, 1, 0] Bf) _ _
  rw [fC1_0_1_0]; refine Gets.seq ?_
  refine Gets.ofN fitL6 wbxy_sound (rc_agree _ _ _) 14 40 (by kernel_rfl) (x := .normal) (s' := fS4) (fR3 boxW byteRV byteV headN isWb isWs kLen manyV sizeN textA textAt textR vLen withRV wordsA wordsR ks vs os ov) ?_
  show Gets _ _ (codeAt [1, 0, 1, 0, 1] Bf) _ _
  rw [fC1_0_1_0_1]; refine Gets.ev fitL6.mix fitL6.cfg (fitL6.sound wbxy_sound 14 0) 14 rfl (s' := KSt.low fS4) (x := .ret) rfl ?_
  exact hq
theorem fo {ks : ByteArray} {vs : ByteArray} {os : ByteArray} {ov : ByteArray} (hk : ks.size ≤ 1000) (hv : vs.size ≤ 1000) (ho : 1000 < os.size)   {Q : Ex → St → Prop} (hq : Q .ret (KSt.low fS4)) : Gets Try.prog (KH.low ⟨0, 1, []⟩) Bf (KSt.low (fS0 ks vs os ov)) Q := by
  rw [fC]; refine Gets.seq ?_
  refine Gets.ofN fitL6 wbxy_sound (rc_agree _ _ _) 14 40 (by kernel_rfl) (x := .normal) (s' := (fS1 ks vs os ov)) (fR1 boxW byteRV byteV headN isWb isWs kLen manyV sizeN textA textAt textR vLen withRV wordsA wordsR ks vs os ov) ?_
  show Gets _ _ (codeAt [1] Bf) _ _
  rw [fC1]; refine Gets.seq ?_
  rw [fC1_0]; refine Gets.seq ?_
  refine Gets.ofN fitL6 wbxy_sound (rc_agree _ _ _) 14 40 (by kernel_rfl) (x := .normal) (s' := (fS2 ks vs os ov)) ((fR2 boxW byteRV byteV headN isWb isWs kLen manyV sizeN textA textAt textR vLen withRV wordsA wordsR ks vs os ov).trans (by rw [condF (decide_eq_false (by (first | omega | ((try simp (disch := omega) only [wrap_i64_id]) <;> omega)))), condF (decide_eq_false (by (first | omega | ((try simp (disch := omega) only [wrap_i64_id]) <;> omega)))), condT (decide_eq_true (by (first | omega | ((try simp (disch := omega) only [wrap_i64_id]) <;> omega))))])) ?_
  show Gets _ _ (codeAt [1, 0, 1] Bf) _ _
  rw [fC1_0_1]; refine Gets.cond true (by kernel_rfl) (show evalX (KSt.ts (fS2 ks vs os ov)) (.tmp 32) = .bool true by kernel_rfl) ?_; show Gets _ _ (codeAt [1, 0, 1, 0] Bf) _ _
  rw [fC1_0_1_0]; refine Gets.seq ?_
  refine Gets.ofN fitL6 wbxy_sound (rc_agree _ _ _) 14 40 (by kernel_rfl) (x := .normal) (s' := fS4) (fR3 boxW byteRV byteV headN isWb isWs kLen manyV sizeN textA textAt textR vLen withRV wordsA wordsR ks vs os ov) ?_
  show Gets _ _ (codeAt [1, 0, 1, 0, 1] Bf) _ _
  rw [fC1_0_1_0_1]; refine Gets.ev fitL6.mix fitL6.cfg (fitL6.sound wbxy_sound 14 0) 14 rfl (s' := KSt.low fS4) (x := .ret) rfl ?_
  exact hq
theorem fR4 (boxW : ByteArray → ByteArray → List Int) (byteRV : Int → Int → Int) (byteV : Int → Int → Int) (headN : ByteArray → ByteArray → Int) (isWb : Int → Bool) (isWs : List Int → Bool) (kLen : Int → Int) (manyV : Int → Int) (sizeN : Int → Int) (textA : List Int → Int → ByteArray × Bool) (textAt : List Int → Int → Int → ByteArray) (textR : List Int → Int → ByteArray × Bool) (vLen : Int → Int) (withRV : Int → Int → Int → Int) (wordsA : ByteArray → List Int) (wordsR : ByteArray → List Int) (ks : ByteArray) (vs : ByteArray) (ov : ByteArray) (os : ByteArray) : evCK Try.prog cfgL6 (runK Try.prog cfgL6 fsL6 (conTk wbxyDom (rcK [] (wbxyT boxW byteRV byteV headN isWb isWs kLen manyV sizeN textA textAt textR vLen withRV wordsA wordsR))) 14 40) 14 (codeAt [1, 0, 1, 0, 0] Bf) (fS3 ks vs ov os) (normC 0 [6]) =
  some (.normal, fS4) := by kernel_rfl
theorem fp {ks : ByteArray} {vs : ByteArray} {os : ByteArray} {ov : ByteArray} (hk : ks.size ≤ 1000) (hv : vs.size ≤ 1000) (ho : os.size ≤ 1000) (hp : 1000 < ov.size)   {Q : Ex → St → Prop} (hq : Q .ret (KSt.low fS4)) : Gets Try.prog (KH.low ⟨0, 1, []⟩) Bf (KSt.low (fS0 ks vs os ov)) Q := by
  rw [fC]; refine Gets.seq ?_
  refine Gets.ofN fitL6 wbxy_sound (rc_agree _ _ _) 14 40 (by kernel_rfl) (x := .normal) (s' := (fS1 ks vs os ov)) (fR1 boxW byteRV byteV headN isWb isWs kLen manyV sizeN textA textAt textR vLen withRV wordsA wordsR ks vs os ov) ?_
  show Gets _ _ (codeAt [1] Bf) _ _
  rw [fC1]; refine Gets.seq ?_
  rw [fC1_0]; refine Gets.seq ?_
  refine Gets.ofN fitL6 wbxy_sound (rc_agree _ _ _) 14 40 (by kernel_rfl) (x := .normal) (s' := (fS3 ks vs ov os)) ((fR2 boxW byteRV byteV headN isWb isWs kLen manyV sizeN textA textAt textR vLen withRV wordsA wordsR ks vs os ov).trans (by rw [condF (decide_eq_false (by (first | omega | ((try simp (disch := omega) only [wrap_i64_id]) <;> omega)))), condF (decide_eq_false (by (first | omega | ((try simp (disch := omega) only [wrap_i64_id]) <;> omega)))), condF (decide_eq_false (by (first | omega | ((try simp (disch := omega) only [wrap_i64_id]) <;> omega))))])) ?_
  show Gets _ _ (codeAt [1, 0, 1] Bf) _ _
  rw [fC1_0_1]; refine Gets.cond true (by kernel_rfl) ((show evalX (KSt.ts (fS3 ks vs ov os)) (.tmp 32) = .bool (decide ((((ByteArray.size ov) : Nat) : Int) > 1000)) by kernel_rfl).trans (by rw [(show (decide ((((ByteArray.size ov) : Nat) : Int) > 1000)) = true from decide_eq_true (by (first | omega | ((try simp (disch := omega) only [wrap_i64_id]) <;> omega))))])) ?_; show Gets _ _ (codeAt [1, 0, 1, 0] Bf) _ _
  rw [fC1_0_1_0]; refine Gets.seq ?_
  refine Gets.ofN fitL6 wbxy_sound (rc_agree _ _ _) 14 40 (by kernel_rfl) (x := .normal) (s' := fS4) (fR4 boxW byteRV byteV headN isWb isWs kLen manyV sizeN textA textAt textR vLen withRV wordsA wordsR ks vs ov os) ?_
  show Gets _ _ (codeAt [1, 0, 1, 0, 1] Bf) _ _
  rw [fC1_0_1_0_1]; refine Gets.ev fitL6.mix fitL6.cfg (fitL6.sound wbxy_sound 14 0) 14 rfl (s' := KSt.low fS4) (x := .ret) rfl ?_
  exact hq
theorem fR5 (boxW : ByteArray → ByteArray → List Int) (byteRV : Int → Int → Int) (byteV : Int → Int → Int) (headN : ByteArray → ByteArray → Int) (isWb : Int → Bool) (isWs : List Int → Bool) (kLen : Int → Int) (manyV : Int → Int) (sizeN : Int → Int) (textA : List Int → Int → ByteArray × Bool) (textAt : List Int → Int → Int → ByteArray) (textR : List Int → Int → ByteArray × Bool) (vLen : Int → Int) (withRV : Int → Int → Int → Int) (wordsA : ByteArray → List Int) (wordsR : ByteArray → List Int) (ks : ByteArray) (vs : ByteArray) (ov : ByteArray) (os : ByteArray) : evCK Try.prog cfgL6 (runK Try.prog cfgL6 fsL6 (conTk wbxyDom (rcK [] (wbxyT boxW byteRV byteV headN isWb isWs kLen manyV sizeN textA textAt textR vLen withRV wordsA wordsR))) 14 40) 14 (codeAt [1, 0, 1, 1] Bf) (fS3 ks vs ov os) (normC 0 [0, 1, 5]) =
  some (.normal, (fS1 ks vs os ov)) := by kernel_rfl
theorem fC1_1 : (codeAt [1, 1] Bf) = .seq (codeAt [1, 1, 0] Bf) (codeAt [1, 1, 1] Bf) := by kernel_rfl
noncomputable def fS5 (ks : ByteArray) (vs : ByteArray) (boxW : ByteArray → ByteArray → List Int) (os : ByteArray) (ov : ByteArray) : KSt := ⟨(frameL 123 [(0, (.string ks)), (1, (.string vs)), (5, (.pointer (some ⟨0, 0, none⟩))), (7, (.slice (some ⟨1, 0, none⟩) (List.length (boxW ks vs)) (List.length (boxW ks vs)))), (8, (.bool true))]), ⟨2, 1, [(1, 0, .ints .u64 (boxW ks vs) 30 true), (0, 0, .cells [(.string os), (.string ov)] 56 true)]⟩⟩
theorem fR6 (boxW : ByteArray → ByteArray → List Int) (byteRV : Int → Int → Int) (byteV : Int → Int → Int) (headN : ByteArray → ByteArray → Int) (isWb : Int → Bool) (isWs : List Int → Bool) (kLen : Int → Int) (manyV : Int → Int) (sizeN : Int → Int) (textA : List Int → Int → ByteArray × Bool) (textAt : List Int → Int → Int → ByteArray) (textR : List Int → Int → ByteArray × Bool) (vLen : Int → Int) (withRV : Int → Int → Int → Int) (wordsA : ByteArray → List Int) (wordsR : ByteArray → List Int) (ks : ByteArray) (vs : ByteArray) (os : ByteArray) (ov : ByteArray) : evCK Try.prog cfgL6 (runK Try.prog cfgL6 fsL6 (conTk wbxyDom (rcK [] (wbxyT boxW byteRV byteV headN isWb isWs kLen manyV sizeN textA textAt textR vLen withRV wordsA wordsR))) 14 40) 14 (codeAt [1, 1, 0] Bf) (fS1 ks vs os ov) (normC 0 [0, 1, 5, 7, 8]) =
  bif ((Nat.ble (ByteArray.size ks) 16) && (Nat.ble (ByteArray.size vs) 24)) then
    some (.normal, (fS5 ks vs boxW os ov))
  else
    none := by kernel_rfl
theorem fC1_1_1 : (codeAt [1, 1, 1] Bf) = .seq (codeAt [1, 1, 1, 0] Bf) (codeAt [1, 1, 1, 1] Bf) := by kernel_rfl
theorem fC1_1_1_0 : (codeAt [1, 1, 1, 0] Bf) = .seq (codeAt [1, 1, 1, 0, 0] Bf) (codeAt [1, 1, 1, 0, 1] Bf) := by kernel_rfl
noncomputable def fS6 (ks : ByteArray) (vs : ByteArray) (boxW : ByteArray → ByteArray → List Int) (os : ByteArray) (ov : ByteArray) : KSt := ⟨(frameL 123 [(0, (.string ks)), (1, (.string vs)), (5, (.pointer (some ⟨0, 0, none⟩))), (7, (.slice (some ⟨1, 0, none⟩) (List.length (boxW ks vs)) (List.length (boxW ks vs)))), (8, (.bool true)), (49, (.bool (!(true == (decide ((((ByteArray.size vs) : Nat) : Int) ≤ 24))))))]), ⟨2, 1, [(1, 0, .ints .u64 (boxW ks vs) 30 true), (0, 0, .cells [(.string os), (.string ov)] 56 true)]⟩⟩
noncomputable def fS7 (ks : ByteArray) (vs : ByteArray) (boxW : ByteArray → ByteArray → List Int) (os : ByteArray) (ov : ByteArray) : KSt := ⟨(frameL 123 [(0, (.string ks)), (1, (.string vs)), (5, (.pointer (some ⟨0, 0, none⟩))), (7, (.slice (some ⟨1, 0, none⟩) (List.length (boxW ks vs)) (List.length (boxW ks vs)))), (8, (.bool true)), (49, (.bool true))]), ⟨2, 1, [(1, 0, .ints .u64 (boxW ks vs) 30 true), (0, 0, .cells [(.string os), (.string ov)] 56 true)]⟩⟩
theorem fR7 (boxW : ByteArray → ByteArray → List Int) (byteRV : Int → Int → Int) (byteV : Int → Int → Int) (headN : ByteArray → ByteArray → Int) (isWb : Int → Bool) (isWs : List Int → Bool) (kLen : Int → Int) (manyV : Int → Int) (sizeN : Int → Int) (textA : List Int → Int → ByteArray × Bool) (textAt : List Int → Int → Int → ByteArray) (textR : List Int → Int → ByteArray × Bool) (vLen : Int → Int) (withRV : Int → Int → Int → Int) (wordsA : ByteArray → List Int) (wordsR : ByteArray → List Int) (ks : ByteArray) (vs : ByteArray) (os : ByteArray) (ov : ByteArray) : evCK Try.prog cfgL6 (runK Try.prog cfgL6 fsL6 (conTk wbxyDom (rcK [] (wbxyT boxW byteRV byteV headN isWb isWs kLen manyV sizeN textA textAt textR vLen withRV wordsA wordsR))) 14 40) 14 (codeAt [1, 1, 1, 0, 0] Bf) (fS5 ks vs boxW os ov) (normC 0 [0, 1, 5, 7, 8, 49]) =
  bif (decide ((((ByteArray.size ks) : Nat) : Int) ≤ 16)) then
    some (.normal, (fS6 ks vs boxW os ov))
  else
    some (.normal, (fS7 ks vs boxW os ov)) := by kernel_rfl
theorem fC1_1_1_0_1 : (codeAt [1, 1, 1, 0, 1] Bf) = .cond (.tmp 49) (codeAt [1, 1, 1, 0, 1, 0] Bf) (codeAt [1, 1, 1, 0, 1, 1] Bf) := by kernel_rfl
theorem fR8 (boxW : ByteArray → ByteArray → List Int) (byteRV : Int → Int → Int) (byteV : Int → Int → Int) (headN : ByteArray → ByteArray → Int) (isWb : Int → Bool) (isWs : List Int → Bool) (kLen : Int → Int) (manyV : Int → Int) (sizeN : Int → Int) (textA : List Int → Int → ByteArray × Bool) (textAt : List Int → Int → Int → ByteArray) (textR : List Int → Int → ByteArray × Bool) (vLen : Int → Int) (withRV : Int → Int → Int → Int) (wordsA : ByteArray → List Int) (wordsR : ByteArray → List Int) (ks : ByteArray) (vs : ByteArray) (os : ByteArray) (ov : ByteArray) : evCK Try.prog cfgL6 (runK Try.prog cfgL6 fsL6 (conTk wbxyDom (rcK [] (wbxyT boxW byteRV byteV headN isWb isWs kLen manyV sizeN textA textAt textR vLen withRV wordsA wordsR))) 14 40) 14 (codeAt [1, 1, 1, 0, 1, 1] Bf) (fS6 ks vs boxW os ov) (normC 0 [0, 1, 5, 7, 8]) =
  some (.normal, (fS5 ks vs boxW os ov)) := by kernel_rfl
theorem fC1_1_1_1 : (codeAt [1, 1, 1, 1] Bf) = .seq (codeAt [1, 1, 1, 1, 0] Bf) (codeAt [1, 1, 1, 1, 1] Bf) := by kernel_rfl
theorem fC1_1_1_1_0 : (codeAt [1, 1, 1, 1, 0] Bf) = .seq (codeAt [1, 1, 1, 1, 0, 0] Bf) (codeAt [1, 1, 1, 1, 0, 1] Bf) := by kernel_rfl
noncomputable def fS8 (ks : ByteArray) (vs : ByteArray) (boxW : ByteArray → ByteArray → List Int) (os : ByteArray) (ov : ByteArray) : KSt := ⟨(frameL 123 [(0, (.string ks)), (1, (.string vs)), (5, (.pointer (some ⟨0, 0, none⟩))), (7, (.slice (some ⟨1, 0, none⟩) (List.length (boxW ks vs)) (List.length (boxW ks vs)))), (51, (.bool false))]), ⟨2, 1, [(1, 0, .ints .u64 (boxW ks vs) 30 true), (0, 0, .cells [(.string os), (.string ov)] 56 true)]⟩⟩
theorem fR9 (boxW : ByteArray → ByteArray → List Int) (byteRV : Int → Int → Int) (byteV : Int → Int → Int) (headN : ByteArray → ByteArray → Int) (isWb : Int → Bool) (isWs : List Int → Bool) (kLen : Int → Int) (manyV : Int → Int) (sizeN : Int → Int) (textA : List Int → Int → ByteArray × Bool) (textAt : List Int → Int → Int → ByteArray) (textR : List Int → Int → ByteArray × Bool) (vLen : Int → Int) (withRV : Int → Int → Int → Int) (wordsA : ByteArray → List Int) (wordsR : ByteArray → List Int) (ks : ByteArray) (vs : ByteArray) (os : ByteArray) (ov : ByteArray) : evCK Try.prog cfgL6 (runK Try.prog cfgL6 fsL6 (conTk wbxyDom (rcK [] (wbxyT boxW byteRV byteV headN isWb isWs kLen manyV sizeN textA textAt textR vLen withRV wordsA wordsR))) 14 40) 14 (codeAt [1, 1, 1, 1, 0, 0] Bf) (fS5 ks vs boxW os ov) (normC 0 [0, 1, 5, 7, 51]) =
  some (.normal, (fS8 ks vs boxW os ov)) := by kernel_rfl
theorem fC1_1_1_1_0_1 : (codeAt [1, 1, 1, 1, 0, 1] Bf) = .cond (.tmp 51) (codeAt [1, 1, 1, 1, 0, 1, 0] Bf) (codeAt [1, 1, 1, 1, 0, 1, 1] Bf) := by kernel_rfl
noncomputable def fS9 (ks : ByteArray) (vs : ByteArray) (boxW : ByteArray → ByteArray → List Int) (os : ByteArray) (ov : ByteArray) : KSt := ⟨(frameL 123 [(0, (.string ks)), (1, (.string vs)), (5, (.pointer (some ⟨0, 0, none⟩))), (7, (.slice (some ⟨1, 0, none⟩) (List.length (boxW ks vs)) (List.length (boxW ks vs))))]), ⟨2, 1, [(1, 0, .ints .u64 (boxW ks vs) 30 true), (0, 0, .cells [(.string os), (.string ov)] 56 true)]⟩⟩
theorem fR10 (boxW : ByteArray → ByteArray → List Int) (byteRV : Int → Int → Int) (byteV : Int → Int → Int) (headN : ByteArray → ByteArray → Int) (isWb : Int → Bool) (isWs : List Int → Bool) (kLen : Int → Int) (manyV : Int → Int) (sizeN : Int → Int) (textA : List Int → Int → ByteArray × Bool) (textAt : List Int → Int → Int → ByteArray) (textR : List Int → Int → ByteArray × Bool) (vLen : Int → Int) (withRV : Int → Int → Int → Int) (wordsA : ByteArray → List Int) (wordsR : ByteArray → List Int) (ks : ByteArray) (vs : ByteArray) (os : ByteArray) (ov : ByteArray) : evCK Try.prog cfgL6 (runK Try.prog cfgL6 fsL6 (conTk wbxyDom (rcK [] (wbxyT boxW byteRV byteV headN isWb isWs kLen manyV sizeN textA textAt textR vLen withRV wordsA wordsR))) 14 40) 14 (codeAt [1, 1, 1, 1, 0, 1, 1] Bf) (fS8 ks vs boxW os ov) (normC 0 [0, 1, 5, 7]) =
  some (.normal, (fS9 ks vs boxW os ov)) := by kernel_rfl
theorem fC1_1_1_1_1 : (codeAt [1, 1, 1, 1, 1] Bf) = .seq (codeAt [1, 1, 1, 1, 1, 0] Bf) (codeAt [1, 1, 1, 1, 1, 1] Bf) := by kernel_rfl
noncomputable def fS10 (ks : ByteArray) (vs : ByteArray) (boxW : ByteArray → ByteArray → List Int) (textAt : List Int → Int → Int → ByteArray) (kLen : Int → Int) (manyV : Int → Int) (vLen : Int → Int) (os : ByteArray) (ov : ByteArray) : KSt := ⟨(frameL 123 [(0, (.string ks)), (1, (.string vs)), (5, (.pointer (some ⟨0, 0, none⟩))), (7, (.slice (some ⟨1, 0, none⟩) (List.length (boxW ks vs)) (List.length (boxW ks vs)))), (9, (.string (textAt (List.take (List.length (boxW ks vs)) (List.drop 0 (boxW ks vs))) 1 (kLen (List.getD (List.take (List.length (boxW ks vs)) (List.drop 0 (boxW ks vs))) 0 0))))), (10, (.string (textAt (List.take (List.length (boxW ks vs)) (List.drop 0 (boxW ks vs))) (1 + manyV (kLen (List.getD (List.take (List.length (boxW ks vs)) (List.drop 0 (boxW ks vs))) 0 0))) (vLen (List.getD (List.take (List.length (boxW ks vs)) (List.drop 0 (boxW ks vs))) 0 0)))))]), ⟨2, 1, [(1, 0, .ints .u64 (boxW ks vs) 30 true), (0, 0, .cells [(.string os), (.string ov)] 56 true)]⟩⟩
theorem fR11 (boxW : ByteArray → ByteArray → List Int) (byteRV : Int → Int → Int) (byteV : Int → Int → Int) (headN : ByteArray → ByteArray → Int) (isWb : Int → Bool) (isWs : List Int → Bool) (kLen : Int → Int) (manyV : Int → Int) (sizeN : Int → Int) (textA : List Int → Int → ByteArray × Bool) (textAt : List Int → Int → Int → ByteArray) (textR : List Int → Int → ByteArray × Bool) (vLen : Int → Int) (withRV : Int → Int → Int → Int) (wordsA : ByteArray → List Int) (wordsR : ByteArray → List Int) (ks : ByteArray) (vs : ByteArray) (os : ByteArray) (ov : ByteArray) : evCK Try.prog cfgL6 (runK Try.prog cfgL6 fsL6 (conTk wbxyDom (rcK [] (wbxyT boxW byteRV byteV headN isWb isWs kLen manyV sizeN textA textAt textR vLen withRV wordsA wordsR))) 14 40) 14 (codeAt [1, 1, 1, 1, 1, 0] Bf) (fS9 ks vs boxW os ov) (normC 0 [0, 1, 5, 7, 9, 10]) =
  bif (Nat.ble (0 + (List.length (boxW ks vs))) (List.length (boxW ks vs))) then
    bif ((Nat.ble (List.length (List.take (List.length (boxW ks vs)) (List.drop 0 (boxW ks vs)))) 1000) && (isWs (List.take (List.length (boxW ks vs)) (List.drop 0 (boxW ks vs))))) then
      some (.normal, (fS10 ks vs boxW textAt kLen manyV vLen os ov))
    else
      none
  else
    none := by kernel_rfl
theorem fC1_1_1_1_1_1 : (codeAt [1, 1, 1, 1, 1, 1] Bf) = .seq (codeAt [1, 1, 1, 1, 1, 1, 0] Bf) (codeAt [1, 1, 1, 1, 1, 1, 1] Bf) := by kernel_rfl
theorem fC1_1_1_1_1_1_0 : (codeAt [1, 1, 1, 1, 1, 1, 0] Bf) = .seq (codeAt [1, 1, 1, 1, 1, 1, 0, 0] Bf) (codeAt [1, 1, 1, 1, 1, 1, 0, 1] Bf) := by kernel_rfl
noncomputable def fS11 (ks : ByteArray) (vs : ByteArray) (boxW : ByteArray → ByteArray → List Int) (os : ByteArray) (ov : ByteArray) : KSt := ⟨(frameL 123 [(0, (.string ks)), (1, (.string vs)), (5, (.pointer (some ⟨0, 0, none⟩))), (7, (.slice (some ⟨1, 0, none⟩) (List.length (boxW ks vs)) (List.length (boxW ks vs)))), (93, (.bool true))]), ⟨2, 1, [(1, 0, .ints .u64 (boxW ks vs) 30 true), (0, 0, .cells [(.string os), (.string ov)] 56 true)]⟩⟩
noncomputable def fS12 (ks : ByteArray) (vs : ByteArray) (boxW : ByteArray → ByteArray → List Int) (n2 : Int) (headN : ByteArray → ByteArray → Int) (os : ByteArray) (ov : ByteArray) : KSt := ⟨(frameL 123 [(0, (.string ks)), (1, (.string vs)), (5, (.pointer (some ⟨0, 0, none⟩))), (7, (.slice (some ⟨1, 0, none⟩) (List.length (boxW ks vs)) (List.length (boxW ks vs)))), (93, (.bool (n2 != (headN ks vs))))]), ⟨2, 1, [(1, 0, .ints .u64 (boxW ks vs) 30 true), (0, 0, .cells [(.string os), (.string ov)] 56 true)]⟩⟩
theorem fR12 (boxW : ByteArray → ByteArray → List Int) (byteRV : Int → Int → Int) (byteV : Int → Int → Int) (headN : ByteArray → ByteArray → Int) (isWb : Int → Bool) (isWs : List Int → Bool) (kLen : Int → Int) (manyV : Int → Int) (sizeN : Int → Int) (textA : List Int → Int → ByteArray × Bool) (textAt : List Int → Int → Int → ByteArray) (textR : List Int → Int → ByteArray × Bool) (vLen : Int → Int) (withRV : Int → Int → Int → Int) (wordsA : ByteArray → List Int) (wordsR : ByteArray → List Int) (ks : ByteArray) (vs : ByteArray) (os : ByteArray) (ov : ByteArray) : evCK Try.prog cfgL6 (runK Try.prog cfgL6 fsL6 (conTk wbxyDom (rcK [] (wbxyT boxW byteRV byteV headN isWb isWs kLen manyV sizeN textA textAt textR vLen withRV wordsA wordsR))) 14 40) 14 (codeAt [1, 1, 1, 1, 1, 1, 0, 0] Bf) (fS10 ks vs boxW textAt kLen manyV vLen os ov) (normC 0 [0, 1, 5, 7, 93]) =
  bif (!((textAt (List.take (List.length (boxW ks vs)) (List.drop 0 (boxW ks vs))) 1 (kLen (List.getD (List.take (List.length (boxW ks vs)) (List.drop 0 (boxW ks vs))) 0 0))).toList == ks.toList)) then
    some (.normal, (fS11 ks vs boxW os ov))
  else
    bif (!((textAt (List.take (List.length (boxW ks vs)) (List.drop 0 (boxW ks vs))) (1 + manyV (kLen (List.getD (List.take (List.length (boxW ks vs)) (List.drop 0 (boxW ks vs))) 0 0))) (vLen (List.getD (List.take (List.length (boxW ks vs)) (List.drop 0 (boxW ks vs))) 0 0))).toList == vs.toList)) then
      some (.normal, (fS11 ks vs boxW os ov))
    else
      bif ((((List.length (boxW ks vs)) : Nat) : Int) == 0) then
        some (.normal, (fS11 ks vs boxW os ov))
      else
        if (0 : Int) ≤ 0 ∧ 0 < (((List.length (boxW ks vs)) : Nat) : Int) then
          obind ((boxW ks vs)[0]?) fun n1 =>
            bif (isWb n1) then
              bif ((((List.length (boxW ks vs)) : Nat) : Int) != (sizeN n1)) then
                some (.normal, (fS11 ks vs boxW os ov))
              else
                if (0 : Int) ≤ 0 ∧ 0 < (((List.length (boxW ks vs)) : Nat) : Int) then
                  obind ((boxW ks vs)[0]?) fun n2 =>
                    bif ((Nat.ble (ByteArray.size ks) 100000) && (Nat.ble (ByteArray.size vs) 100000)) then
                      some (.normal, (fS12 ks vs boxW n2 headN os ov))
                    else
                      none
                else
                  none
            else
              none
        else
          none := by kernel_rfl
noncomputable def fS13 (ks : ByteArray) (vs : ByteArray) (boxW : ByteArray → ByteArray → List Int) (headN : ByteArray → ByteArray → Int) (os : ByteArray) (ov : ByteArray) : KSt := ⟨(frameL 123 [(0, (.string ks)), (1, (.string vs)), (5, (.pointer (some ⟨0, 0, none⟩))), (7, (.slice (some ⟨1, 0, none⟩) (List.length (boxW ks vs)) (List.length (boxW ks vs)))), (93, (.bool (((boxW ks vs).getD 0 0) != (headN ks vs))))]), ⟨2, 1, [(1, 0, .ints .u64 (boxW ks vs) 30 true), (0, 0, .cells [(.string os), (.string ov)] 56 true)]⟩⟩
theorem fC1_1_1_1_1_1_0_1 : (codeAt [1, 1, 1, 1, 1, 1, 0, 1] Bf) = .cond (.tmp 93) (codeAt [1, 1, 1, 1, 1, 1, 0, 1, 0] Bf) (codeAt [1, 1, 1, 1, 1, 1, 0, 1, 1] Bf) := by kernel_rfl
theorem fR13 (boxW : ByteArray → ByteArray → List Int) (byteRV : Int → Int → Int) (byteV : Int → Int → Int) (headN : ByteArray → ByteArray → Int) (isWb : Int → Bool) (isWs : List Int → Bool) (kLen : Int → Int) (manyV : Int → Int) (sizeN : Int → Int) (textA : List Int → Int → ByteArray × Bool) (textAt : List Int → Int → Int → ByteArray) (textR : List Int → Int → ByteArray × Bool) (vLen : Int → Int) (withRV : Int → Int → Int → Int) (wordsA : ByteArray → List Int) (wordsR : ByteArray → List Int) (ks : ByteArray) (vs : ByteArray) (os : ByteArray) (ov : ByteArray) : evCK Try.prog cfgL6 (runK Try.prog cfgL6 fsL6 (conTk wbxyDom (rcK [] (wbxyT boxW byteRV byteV headN isWb isWs kLen manyV sizeN textA textAt textR vLen withRV wordsA wordsR))) 14 40) 14 (codeAt [1, 1, 1, 1, 1, 1, 0, 1, 1] Bf) (fS13 ks vs boxW headN os ov) (normC 0 [0, 1, 5, 7]) =
  some (.normal, (fS9 ks vs boxW os ov)) := by kernel_rfl
theorem fm {ks : ByteArray} {vs : ByteArray} {os : ByteArray} {ov : ByteArray} (hk : ks.size ≤ 1000) (hv : vs.size ≤ 1000) (ho : os.size ≤ 1000) (hp : ov.size ≤ 1000) (h16 : ks.size ≤ 16) (h24 : vs.size ≤ 24) (hbl : (boxW ks vs).length ≤ 100) (hb1 : 1 ≤ (boxW ks vs).length) (hR1 : textAt (List.take (List.length (boxW ks vs)) (List.drop 0 (boxW ks vs))) 1 (kLen (List.getD (List.take (List.length (boxW ks vs)) (List.drop 0 (boxW ks vs))) 0 0)) = ks) (hR2 : textAt (List.take (List.length (boxW ks vs)) (List.drop 0 (boxW ks vs))) (1 + manyV (kLen (List.getD (List.take (List.length (boxW ks vs)) (List.drop 0 (boxW ks vs))) 0 0))) (vLen (List.getD (List.take (List.length (boxW ks vs)) (List.drop 0 (boxW ks vs))) 0 0)) = vs) (hws : isWs (List.take (List.length (boxW ks vs)) (List.drop 0 (boxW ks vs))) = true) (hwb : isWb ((boxW ks vs).getD 0 0) = true) (hSz : (((boxW ks vs).length : Nat) : Int) = sizeN ((boxW ks vs).getD 0 0)) (hHd : (boxW ks vs).getD 0 0 = headN ks vs)   {Q : Ex → St → Prop} (hq : Gets Try.prog (KH.low ⟨0, 1, []⟩) (codeAt [1, 1, 1, 1, 1, 1, 1] Bf) (KSt.low (fS9 ks vs boxW os ov)) (Q)) : Gets Try.prog (KH.low ⟨0, 1, []⟩) Bf (KSt.low (fS0 ks vs os ov)) Q := by
  rw [fC]; refine Gets.seq ?_
  refine Gets.ofN fitL6 wbxy_sound (rc_agree _ _ _) 14 40 (by kernel_rfl) (x := .normal) (s' := (fS1 ks vs os ov)) (fR1 boxW byteRV byteV headN isWb isWs kLen manyV sizeN textA textAt textR vLen withRV wordsA wordsR ks vs os ov) ?_
  show Gets _ _ (codeAt [1] Bf) _ _
  rw [fC1]; refine Gets.seq ?_
  rw [fC1_0]; refine Gets.seq ?_
  refine Gets.ofN fitL6 wbxy_sound (rc_agree _ _ _) 14 40 (by kernel_rfl) (x := .normal) (s' := (fS3 ks vs ov os)) ((fR2 boxW byteRV byteV headN isWb isWs kLen manyV sizeN textA textAt textR vLen withRV wordsA wordsR ks vs os ov).trans (by rw [condF (decide_eq_false (by (first | omega | ((try simp (disch := omega) only [wrap_i64_id]) <;> omega)))), condF (decide_eq_false (by (first | omega | ((try simp (disch := omega) only [wrap_i64_id]) <;> omega)))), condF (decide_eq_false (by (first | omega | ((try simp (disch := omega) only [wrap_i64_id]) <;> omega))))])) ?_
  show Gets _ _ (codeAt [1, 0, 1] Bf) _ _
  rw [fC1_0_1]; refine Gets.cond false (by kernel_rfl) ((show evalX (KSt.ts (fS3 ks vs ov os)) (.tmp 32) = .bool (decide ((((ByteArray.size ov) : Nat) : Int) > 1000)) by kernel_rfl).trans (by rw [(show (decide ((((ByteArray.size ov) : Nat) : Int) > 1000)) = false from decide_eq_false (by (first | omega | ((try simp (disch := omega) only [wrap_i64_id]) <;> omega))))])) ?_; show Gets _ _ (codeAt [1, 0, 1, 1] Bf) _ _
  refine Gets.ofN fitL6 wbxy_sound (rc_agree _ _ _) 14 40 (by kernel_rfl) (x := .normal) (s' := (fS1 ks vs os ov)) (fR5 boxW byteRV byteV headN isWb isWs kLen manyV sizeN textA textAt textR vLen withRV wordsA wordsR ks vs ov os) ?_
  show Gets _ _ (codeAt [1, 1] Bf) _ _
  rw [fC1_1]; refine Gets.seq ?_
  refine Gets.ofN fitL6 wbxy_sound (rc_agree _ _ _) 14 40 (by kernel_rfl) (x := .normal) (s' := (fS5 ks vs boxW os ov)) ((fR6 boxW byteRV byteV headN isWb isWs kLen manyV sizeN textA textAt textR vLen withRV wordsA wordsR ks vs os ov).trans (by rw [condT (and_t (ble_t (by (first | omega | ((try simp (disch := omega) only [wrap_i64_id]) <;> omega)))) (ble_t (by (first | omega | ((try simp (disch := omega) only [wrap_i64_id]) <;> omega)))))])) ?_
  show Gets _ _ (codeAt [1, 1, 1] Bf) _ _
  rw [fC1_1_1]; refine Gets.seq ?_
  rw [fC1_1_1_0]; refine Gets.seq ?_
  refine Gets.ofN fitL6 wbxy_sound (rc_agree _ _ _) 14 40 (by kernel_rfl) (x := .normal) (s' := (fS6 ks vs boxW os ov)) ((fR7 boxW byteRV byteV headN isWb isWs kLen manyV sizeN textA textAt textR vLen withRV wordsA wordsR ks vs os ov).trans (by rw [condT (decide_eq_true (by (first | omega | ((try simp (disch := omega) only [wrap_i64_id]) <;> omega))))])) ?_
  show Gets _ _ (codeAt [1, 1, 1, 0, 1] Bf) _ _
  rw [fC1_1_1_0_1]; refine Gets.cond false (by kernel_rfl) ((show evalX (KSt.ts (fS6 ks vs boxW os ov)) (.tmp 49) = .bool (!(true == (decide ((((ByteArray.size vs) : Nat) : Int) ≤ 24)))) by kernel_rfl).trans (by rw [(show (!(true == (decide ((((ByteArray.size vs) : Nat) : Int) ≤ 24)))) = false from not_f (by rw [decide_eq_true (by omega)]; rfl))])) ?_; show Gets _ _ (codeAt [1, 1, 1, 0, 1, 1] Bf) _ _
  refine Gets.ofN fitL6 wbxy_sound (rc_agree _ _ _) 14 40 (by kernel_rfl) (x := .normal) (s' := (fS5 ks vs boxW os ov)) (fR8 boxW byteRV byteV headN isWb isWs kLen manyV sizeN textA textAt textR vLen withRV wordsA wordsR ks vs os ov) ?_
  show Gets _ _ (codeAt [1, 1, 1, 1] Bf) _ _
  rw [fC1_1_1_1]; refine Gets.seq ?_
  rw [fC1_1_1_1_0]; refine Gets.seq ?_
  refine Gets.ofN fitL6 wbxy_sound (rc_agree _ _ _) 14 40 (by kernel_rfl) (x := .normal) (s' := (fS8 ks vs boxW os ov)) (fR9 boxW byteRV byteV headN isWb isWs kLen manyV sizeN textA textAt textR vLen withRV wordsA wordsR ks vs os ov) ?_
  show Gets _ _ (codeAt [1, 1, 1, 1, 0, 1] Bf) _ _
  rw [fC1_1_1_1_0_1]; refine Gets.cond false (by kernel_rfl) (show evalX (KSt.ts (fS8 ks vs boxW os ov)) (.tmp 51) = .bool false by kernel_rfl) ?_; show Gets _ _ (codeAt [1, 1, 1, 1, 0, 1, 1] Bf) _ _
  refine Gets.ofN fitL6 wbxy_sound (rc_agree _ _ _) 14 40 (by kernel_rfl) (x := .normal) (s' := (fS9 ks vs boxW os ov)) (fR10 boxW byteRV byteV headN isWb isWs kLen manyV sizeN textA textAt textR vLen withRV wordsA wordsR ks vs os ov) ?_
  show Gets _ _ (codeAt [1, 1, 1, 1, 1] Bf) _ _
  rw [fC1_1_1_1_1]; refine Gets.seq ?_
  refine Gets.ofN fitL6 wbxy_sound (rc_agree _ _ _) 14 40 (by kernel_rfl) (x := .normal) (s' := (fS10 ks vs boxW textAt kLen manyV vLen os ov)) ((fR11 boxW byteRV byteV headN isWb isWs kLen manyV sizeN textA textAt textR vLen withRV wordsA wordsR ks vs os ov).trans (by rw [condT (ble_t (by (first | omega | ((try simp (disch := omega) only [wrap_i64_id]) <;> omega)))), condT (and_t (Nat.ble_eq_true_of_le (by rw [List.drop_zero, List.take_length]; omega)) (hws))])) ?_
  show Gets _ _ (codeAt [1, 1, 1, 1, 1, 1] Bf) _ _
  rw [fC1_1_1_1_1_1]; refine Gets.seq ?_
  rw [fC1_1_1_1_1_1_0]; refine Gets.seq ?_
  refine Gets.ofN fitL6 wbxy_sound (rc_agree _ _ _) 14 40 (by kernel_rfl) (x := .normal) (s' := (fS13 ks vs boxW headN os ov)) ((fR12 boxW byteRV byteV headN isWb isWs kLen manyV sizeN textA textAt textR vLen withRV wordsA wordsR ks vs os ov).trans (by rw [condF (not_f (by rw [hR1]; exact beq_self_eq_true _)), condF (not_f (by rw [hR2]; exact beq_self_eq_true _)), condF (ibeq_f (by (first | omega | ((try simp (disch := omega) only [wrap_i64_id]) <;> omega)))), if_pos (⟨by (first | omega | ((try simp (disch := omega) only [wrap_i64_id]) <;> omega)), by (first | omega | ((try simp (disch := omega) only [wrap_i64_id]) <;> omega))⟩), obind_at (k := 0) (by (first | omega | ((try simp (disch := omega) only [wrap_i64_id]) <;> omega))) (by (first | omega | ((try simp (disch := omega) only [wrap_i64_id]) <;> omega))), condT (hwb), condF (ibne_f hSz), if_pos (⟨by (first | omega | ((try simp (disch := omega) only [wrap_i64_id]) <;> omega)), by (first | omega | ((try simp (disch := omega) only [wrap_i64_id]) <;> omega))⟩), obind_at (k := 0) (by (first | omega | ((try simp (disch := omega) only [wrap_i64_id]) <;> omega))) (by (first | omega | ((try simp (disch := omega) only [wrap_i64_id]) <;> omega))), condT (and_t (ble_t (by (first | omega | ((try simp (disch := omega) only [wrap_i64_id]) <;> omega)))) (ble_t (by (first | omega | ((try simp (disch := omega) only [wrap_i64_id]) <;> omega)))))] <;> rfl)) ?_
  show Gets _ _ (codeAt [1, 1, 1, 1, 1, 1, 0, 1] Bf) _ _
  rw [fC1_1_1_1_1_1_0_1]; refine Gets.cond false (by kernel_rfl) ((show evalX (KSt.ts (fS13 ks vs boxW headN os ov)) (.tmp 93) = .bool (((boxW ks vs).getD 0 0) != (headN ks vs)) by kernel_rfl).trans (by rw [(show (((boxW ks vs).getD 0 0) != (headN ks vs)) = false from ibne_f hHd)])) ?_; show Gets _ _ (codeAt [1, 1, 1, 1, 1, 1, 0, 1, 1] Bf) _ _
  refine Gets.ofN fitL6 wbxy_sound (rc_agree _ _ _) 14 40 (by kernel_rfl) (x := .normal) (s' := (fS9 ks vs boxW os ov)) (fR13 boxW byteRV byteV headN isWb isWs kLen manyV sizeN textA textAt textR vLen withRV wordsA wordsR ks vs os ov) ?_
  show Gets _ _ (codeAt [1, 1, 1, 1, 1, 1, 1] Bf) _ _
  exact hq
theorem fC1_1_1_1_1_1_1 : (codeAt [1, 1, 1, 1, 1, 1, 1] Bf) = .seq (codeAt [1, 1, 1, 1, 1, 1, 1, 0] Bf) (codeAt [1, 1, 1, 1, 1, 1, 1, 1] Bf) := by kernel_rfl
noncomputable def fS14 (ks : ByteArray) (vs : ByteArray) (boxW : ByteArray → ByteArray → List Int) (os : ByteArray) (ov : ByteArray) : KSt := ⟨(frameL 123 [(0, (.string ks)), (1, (.string vs)), (5, (.pointer (some ⟨0, 0, none⟩))), (7, (.slice (some ⟨1, 0, none⟩) (List.length (boxW ks vs)) (List.length (boxW ks vs)))), (11, (.slice (some ⟨2, 0, none⟩) (List.length (boxW os ov)) (List.length (boxW os ov)))), (12, (.bool true))]), ⟨3, 1, [(2, 0, .ints .u64 (boxW os ov) 30 true), (1, 0, .ints .u64 (boxW ks vs) 30 true), (0, 0, .cells [(.string os), (.string ov)] 56 true)]⟩⟩
theorem fR14 (boxW : ByteArray → ByteArray → List Int) (byteRV : Int → Int → Int) (byteV : Int → Int → Int) (headN : ByteArray → ByteArray → Int) (isWb : Int → Bool) (isWs : List Int → Bool) (kLen : Int → Int) (manyV : Int → Int) (sizeN : Int → Int) (textA : List Int → Int → ByteArray × Bool) (textAt : List Int → Int → Int → ByteArray) (textR : List Int → Int → ByteArray × Bool) (vLen : Int → Int) (withRV : Int → Int → Int → Int) (wordsA : ByteArray → List Int) (wordsR : ByteArray → List Int) (ks : ByteArray) (vs : ByteArray) (os : ByteArray) (ov : ByteArray) : evCK Try.prog cfgL6 (runK Try.prog cfgL6 fsL6 (conTk wbxyDom (rcK [] (wbxyT boxW byteRV byteV headN isWb isWs kLen manyV sizeN textA textAt textR vLen withRV wordsA wordsR))) 14 40) 14 (codeAt [1, 1, 1, 1, 1, 1, 1, 0] Bf) (fS9 ks vs boxW os ov) (normC 0 [0, 1, 5, 7, 11, 12]) =
  bif ((Nat.ble (ByteArray.size os) 16) && (Nat.ble (ByteArray.size ov) 24)) then
    some (.normal, (fS14 ks vs boxW os ov))
  else
    none := by kernel_rfl
theorem fC1_1_1_1_1_1_1_1 : (codeAt [1, 1, 1, 1, 1, 1, 1, 1] Bf) = .seq (codeAt [1, 1, 1, 1, 1, 1, 1, 1, 0] Bf) (codeAt [1, 1, 1, 1, 1, 1, 1, 1, 1] Bf) := by kernel_rfl
noncomputable def fS15  : KSt := ⟨(frameL 123 [(6, (.bool false))]), ⟨0, 1, []⟩⟩
theorem fR15 (boxW : ByteArray → ByteArray → List Int) (byteRV : Int → Int → Int) (byteV : Int → Int → Int) (headN : ByteArray → ByteArray → Int) (isWb : Int → Bool) (isWs : List Int → Bool) (kLen : Int → Int) (manyV : Int → Int) (sizeN : Int → Int) (textA : List Int → Int → ByteArray × Bool) (textAt : List Int → Int → Int → ByteArray) (textR : List Int → Int → ByteArray × Bool) (vLen : Int → Int) (withRV : Int → Int → Int → Int) (wordsA : ByteArray → List Int) (wordsR : ByteArray → List Int) (ks : ByteArray) (vs : ByteArray) (os : ByteArray) (ov : ByteArray) : evCK Try.prog cfgL6 (runK Try.prog cfgL6 fsL6 (conTk wbxyDom (rcK [] (wbxyT boxW byteRV byteV headN isWb isWs kLen manyV sizeN textA textAt textR vLen withRV wordsA wordsR))) 14 40) 14 (codeAt [1, 1, 1, 1, 1, 1, 1, 1, 0] Bf) (fS14 ks vs boxW os ov) (normC 0 [6]) =
  bif (Nat.ble (0 + (List.length (boxW ks vs))) (List.length (boxW ks vs))) then
    bif (Nat.ble (0 + (List.length (boxW os ov))) (List.length (boxW os ov))) then
      bif (Nat.ble (List.length (List.take (List.length (boxW ks vs)) (List.drop 0 (boxW ks vs)))) 100000) then
        bif (ks.toList == os.toList) then
          bif ((decide ((List.take (List.length (boxW ks vs)) (List.drop 0 (boxW ks vs))) = (List.take (List.length (boxW os ov)) (List.drop 0 (boxW os ov))))) == (vs.toList == ov.toList)) then
            some (.normal, fS4)
          else
            some (.normal, fS15)
        else
          bif ((decide ((List.take (List.length (boxW ks vs)) (List.drop 0 (boxW ks vs))) = (List.take (List.length (boxW os ov)) (List.drop 0 (boxW os ov))))) == false) then
            some (.normal, fS4)
          else
            some (.normal, fS15)
      else
        none
    else
      none
  else
    none := by kernel_rfl
theorem fC1_1_1_1_1_1_1_1_1 : (codeAt [1, 1, 1, 1, 1, 1, 1, 1, 1] Bf) = .ret := by kernel_rfl
theorem fe {os : ByteArray} {ov : ByteArray} {ks : ByteArray} {vs : ByteArray} (ho16 : os.size ≤ 16) (ho24 : ov.size ≤ 24) (hol : (boxW os ov).length ≤ 100) (hbl : (boxW ks vs).length ≤ 100) (hE : (ks.toList == os.toList) = true) (hQ : ((decide ((List.take (List.length (boxW ks vs)) (List.drop 0 (boxW ks vs))) = (List.take (List.length (boxW os ov)) (List.drop 0 (boxW os ov))))) == (vs.toList == ov.toList)) = true)   {Q : Ex → St → Prop} (hq : Q .ret (KSt.low fS4)) : Gets Try.prog (KH.low ⟨0, 1, []⟩) (codeAt [1, 1, 1, 1, 1, 1, 1] Bf) (KSt.low (fS9 ks vs boxW os ov)) Q := by
  rw [fC1_1_1_1_1_1_1]; refine Gets.seq ?_
  refine Gets.ofN fitL6 wbxy_sound (rc_agree _ _ _) 14 40 (by kernel_rfl) (x := .normal) (s' := (fS14 ks vs boxW os ov)) ((fR14 boxW byteRV byteV headN isWb isWs kLen manyV sizeN textA textAt textR vLen withRV wordsA wordsR ks vs os ov).trans (by rw [condT (and_t (ble_t (by (first | omega | ((try simp (disch := omega) only [wrap_i64_id]) <;> omega)))) (ble_t (by (first | omega | ((try simp (disch := omega) only [wrap_i64_id]) <;> omega)))))])) ?_
  show Gets _ _ (codeAt [1, 1, 1, 1, 1, 1, 1, 1] Bf) _ _
  rw [fC1_1_1_1_1_1_1_1]; refine Gets.seq ?_
  refine Gets.ofN fitL6 wbxy_sound (rc_agree _ _ _) 14 40 (by kernel_rfl) (x := .normal) (s' := fS4) ((fR15 boxW byteRV byteV headN isWb isWs kLen manyV sizeN textA textAt textR vLen withRV wordsA wordsR ks vs os ov).trans (by rw [condT (Nat.ble_eq_true_of_le (by omega)), condT (Nat.ble_eq_true_of_le (by omega)), condT (Nat.ble_eq_true_of_le (by rw [List.drop_zero, List.take_length]; omega)), condT (hE), condT (hQ)])) ?_
  show Gets _ _ (codeAt [1, 1, 1, 1, 1, 1, 1, 1, 1] Bf) _ _
  rw [fC1_1_1_1_1_1_1_1_1]; refine Gets.ev fitL6.mix fitL6.cfg (fitL6.sound wbxy_sound 14 0) 14 rfl (s' := KSt.low fS4) (x := .ret) rfl ?_
  exact hq
theorem fn {os : ByteArray} {ov : ByteArray} {ks : ByteArray} {vs : ByteArray} (ho16 : os.size ≤ 16) (ho24 : ov.size ≤ 24) (hol : (boxW os ov).length ≤ 100) (hbl : (boxW ks vs).length ≤ 100) (hE : (ks.toList == os.toList) = false) (hQ : ((decide ((List.take (List.length (boxW ks vs)) (List.drop 0 (boxW ks vs))) = (List.take (List.length (boxW os ov)) (List.drop 0 (boxW os ov))))) == false) = true)   {Q : Ex → St → Prop} (hq : Q .ret (KSt.low fS4)) : Gets Try.prog (KH.low ⟨0, 1, []⟩) (codeAt [1, 1, 1, 1, 1, 1, 1] Bf) (KSt.low (fS9 ks vs boxW os ov)) Q := by
  rw [fC1_1_1_1_1_1_1]; refine Gets.seq ?_
  refine Gets.ofN fitL6 wbxy_sound (rc_agree _ _ _) 14 40 (by kernel_rfl) (x := .normal) (s' := (fS14 ks vs boxW os ov)) ((fR14 boxW byteRV byteV headN isWb isWs kLen manyV sizeN textA textAt textR vLen withRV wordsA wordsR ks vs os ov).trans (by rw [condT (and_t (ble_t (by (first | omega | ((try simp (disch := omega) only [wrap_i64_id]) <;> omega)))) (ble_t (by (first | omega | ((try simp (disch := omega) only [wrap_i64_id]) <;> omega)))))])) ?_
  show Gets _ _ (codeAt [1, 1, 1, 1, 1, 1, 1, 1] Bf) _ _
  rw [fC1_1_1_1_1_1_1_1]; refine Gets.seq ?_
  refine Gets.ofN fitL6 wbxy_sound (rc_agree _ _ _) 14 40 (by kernel_rfl) (x := .normal) (s' := fS4) ((fR15 boxW byteRV byteV headN isWb isWs kLen manyV sizeN textA textAt textR vLen withRV wordsA wordsR ks vs os ov).trans (by rw [condT (Nat.ble_eq_true_of_le (by omega)), condT (Nat.ble_eq_true_of_le (by omega)), condT (Nat.ble_eq_true_of_le (by rw [List.drop_zero, List.take_length]; omega)), condF (hE), condT (hQ)])) ?_
  show Gets _ _ (codeAt [1, 1, 1, 1, 1, 1, 1, 1, 1] Bf) _ _
  rw [fC1_1_1_1_1_1_1_1_1]; refine Gets.ev fitL6.mix fitL6.cfg (fitL6.sound wbxy_sound 14 0) 14 rfl (s' := KSt.low fS4) (x := .ret) rfl ?_
  exact hq
noncomputable def Bg : Code := bodyOf Try.prog 7
theorem Bg_is : Try.f7.body = some Bg := by kernel_rfl
theorem Bg_ok : okCode Try.prog.globals.size Bg = true := by kernel_rfl
noncomputable def gS0 (ks : ByteArray) (vs : ByteArray) (os : ByteArray) (ov : ByteArray) : KSt := (firstK [(.string ks), (.string vs), (.agg #[(.string os), (.string ov)])] 123 ⟨0, 1, []⟩)
theorem gC : Bg = .seq (codeAt [0] Bg) (codeAt [1] Bg) := by kernel_rfl
noncomputable def gS1 (ks : ByteArray) (vs : ByteArray) (os : ByteArray) (ov : ByteArray) : KSt := ⟨(frameL 123 [(0, (.string ks)), (1, (.string vs)), (5, (.pointer (some ⟨0, 0, none⟩)))]), ⟨1, 1, [(0, 0, .cells [(.string os), (.string ov)] 56 true)]⟩⟩
theorem gR1 (byteRV : Int → Int → Int) (byteV : Int → Int → Int) (headN : ByteArray → ByteArray → Int) (isWb : Int → Bool) (isWs : List Int → Bool) (kLen : Int → Int) (manyV : Int → Int) (sizeN : Int → Int) (textA : List Int → Int → ByteArray × Bool) (textAt : List Int → Int → Int → ByteArray) (textR : List Int → Int → ByteArray × Bool) (vLen : Int → Int) (withRV : Int → Int → Int → Int) (wordsA : ByteArray → List Int) (wordsR : ByteArray → List Int) (ks : ByteArray) (vs : ByteArray) (os : ByteArray) (ov : ByteArray) : evCK Try.prog cfgL6 (runK Try.prog cfgL6 fsL6 (conTk wbxnDom (rcK [] (wbxnT byteRV byteV headN isWb isWs kLen manyV sizeN textA textAt textR vLen withRV wordsA wordsR))) 14 40) 14 (codeAt [0] Bg) (gS0 ks vs os ov) (normC 0 [0, 1, 5]) =
  some (.normal, (gS1 ks vs os ov)) := by kernel_rfl
theorem gC1 : (codeAt [1] Bg) = .seq (codeAt [1, 0] Bg) (codeAt [1, 1] Bg) := by kernel_rfl
theorem gC1_0 : (codeAt [1, 0] Bg) = .seq (codeAt [1, 0, 0] Bg) (codeAt [1, 0, 1] Bg) := by kernel_rfl
noncomputable def gS2 (ks : ByteArray) (vs : ByteArray) (os : ByteArray) (ov : ByteArray) : KSt := ⟨(frameL 123 [(0, (.string ks)), (1, (.string vs)), (5, (.pointer (some ⟨0, 0, none⟩))), (32, (.bool true))]), ⟨1, 1, [(0, 0, .cells [(.string os), (.string ov)] 56 true)]⟩⟩
noncomputable def gS3 (ks : ByteArray) (vs : ByteArray) (ov : ByteArray) (os : ByteArray) : KSt := ⟨(frameL 123 [(0, (.string ks)), (1, (.string vs)), (5, (.pointer (some ⟨0, 0, none⟩))), (32, (.bool (decide ((((ByteArray.size ov) : Nat) : Int) > 1000))))]), ⟨1, 1, [(0, 0, .cells [(.string os), (.string ov)] 56 true)]⟩⟩
theorem gR2 (byteRV : Int → Int → Int) (byteV : Int → Int → Int) (headN : ByteArray → ByteArray → Int) (isWb : Int → Bool) (isWs : List Int → Bool) (kLen : Int → Int) (manyV : Int → Int) (sizeN : Int → Int) (textA : List Int → Int → ByteArray × Bool) (textAt : List Int → Int → Int → ByteArray) (textR : List Int → Int → ByteArray × Bool) (vLen : Int → Int) (withRV : Int → Int → Int → Int) (wordsA : ByteArray → List Int) (wordsR : ByteArray → List Int) (ks : ByteArray) (vs : ByteArray) (os : ByteArray) (ov : ByteArray) : evCK Try.prog cfgL6 (runK Try.prog cfgL6 fsL6 (conTk wbxnDom (rcK [] (wbxnT byteRV byteV headN isWb isWs kLen manyV sizeN textA textAt textR vLen withRV wordsA wordsR))) 14 40) 14 (codeAt [1, 0, 0] Bg) (gS1 ks vs os ov) (normC 0 [0, 1, 5, 32]) =
  bif (decide ((((ByteArray.size ks) : Nat) : Int) > 1000)) then
    some (.normal, (gS2 ks vs os ov))
  else
    bif (decide ((((ByteArray.size vs) : Nat) : Int) > 1000)) then
      some (.normal, (gS2 ks vs os ov))
    else
      bif (decide ((((ByteArray.size os) : Nat) : Int) > 1000)) then
        some (.normal, (gS2 ks vs os ov))
      else
        some (.normal, (gS3 ks vs ov os)) := by kernel_rfl
theorem gC1_0_1 : (codeAt [1, 0, 1] Bg) = .cond (.tmp 32) (codeAt [1, 0, 1, 0] Bg) (codeAt [1, 0, 1, 1] Bg) := by kernel_rfl
theorem gR3 (byteRV : Int → Int → Int) (byteV : Int → Int → Int) (headN : ByteArray → ByteArray → Int) (isWb : Int → Bool) (isWs : List Int → Bool) (kLen : Int → Int) (manyV : Int → Int) (sizeN : Int → Int) (textA : List Int → Int → ByteArray × Bool) (textAt : List Int → Int → Int → ByteArray) (textR : List Int → Int → ByteArray × Bool) (vLen : Int → Int) (withRV : Int → Int → Int → Int) (wordsA : ByteArray → List Int) (wordsR : ByteArray → List Int) (ks : ByteArray) (vs : ByteArray) (ov : ByteArray) (os : ByteArray) : evCK Try.prog cfgL6 (runK Try.prog cfgL6 fsL6 (conTk wbxnDom (rcK [] (wbxnT byteRV byteV headN isWb isWs kLen manyV sizeN textA textAt textR vLen withRV wordsA wordsR))) 14 40) 14 (codeAt [1, 0, 1, 1] Bg) (gS3 ks vs ov os) (normC 0 [0, 1, 5]) =
  some (.normal, (gS1 ks vs os ov)) := by kernel_rfl
theorem gC1_1 : (codeAt [1, 1] Bg) = .seq (codeAt [1, 1, 0] Bg) (codeAt [1, 1, 1] Bg) := by kernel_rfl
noncomputable def gS4 (ks : ByteArray) (vs : ByteArray) (os : ByteArray) (ov : ByteArray) : KSt := ⟨(frameL 123 [(0, (.string ks)), (1, (.string vs)), (5, (.pointer (some ⟨0, 0, none⟩))), (7, (.slice none 0 0)), (8, (.bool false))]), ⟨1, 1, [(0, 0, .cells [(.string os), (.string ov)] 56 true)]⟩⟩
theorem gR4 (byteRV : Int → Int → Int) (byteV : Int → Int → Int) (headN : ByteArray → ByteArray → Int) (isWb : Int → Bool) (isWs : List Int → Bool) (kLen : Int → Int) (manyV : Int → Int) (sizeN : Int → Int) (textA : List Int → Int → ByteArray × Bool) (textAt : List Int → Int → Int → ByteArray) (textR : List Int → Int → ByteArray × Bool) (vLen : Int → Int) (withRV : Int → Int → Int → Int) (wordsA : ByteArray → List Int) (wordsR : ByteArray → List Int) (ks : ByteArray) (vs : ByteArray) (os : ByteArray) (ov : ByteArray) : evCK Try.prog cfgL6 (runK Try.prog cfgL6 fsL6 (conTk wbxnDom (rcK [] (wbxnT byteRV byteV headN isWb isWs kLen manyV sizeN textA textAt textR vLen withRV wordsA wordsR))) 14 40) 14 (codeAt [1, 1, 0] Bg) (gS1 ks vs os ov) (normC 0 [0, 1, 5, 7, 8]) =
  bif (!((Nat.ble (ByteArray.size ks) 16) && (Nat.ble (ByteArray.size vs) 24))) then
    some (.normal, (gS4 ks vs os ov))
  else
    none := by kernel_rfl
theorem gC1_1_1 : (codeAt [1, 1, 1] Bg) = .seq (codeAt [1, 1, 1, 0] Bg) (codeAt [1, 1, 1, 1] Bg) := by kernel_rfl
theorem gC1_1_1_0 : (codeAt [1, 1, 1, 0] Bg) = .seq (codeAt [1, 1, 1, 0, 0] Bg) (codeAt [1, 1, 1, 0, 1] Bg) := by kernel_rfl
noncomputable def gS5 (ks : ByteArray) (vs : ByteArray) (os : ByteArray) (ov : ByteArray) : KSt := ⟨(frameL 123 [(0, (.string ks)), (1, (.string vs)), (5, (.pointer (some ⟨0, 0, none⟩))), (7, (.slice none 0 0)), (8, (.bool false)), (49, (.bool (!(false == (decide ((((ByteArray.size vs) : Nat) : Int) ≤ 24))))))]), ⟨1, 1, [(0, 0, .cells [(.string os), (.string ov)] 56 true)]⟩⟩
noncomputable def gS6 (ks : ByteArray) (vs : ByteArray) (os : ByteArray) (ov : ByteArray) : KSt := ⟨(frameL 123 [(0, (.string ks)), (1, (.string vs)), (5, (.pointer (some ⟨0, 0, none⟩))), (7, (.slice none 0 0)), (8, (.bool false)), (49, (.bool false))]), ⟨1, 1, [(0, 0, .cells [(.string os), (.string ov)] 56 true)]⟩⟩
theorem gR5 (byteRV : Int → Int → Int) (byteV : Int → Int → Int) (headN : ByteArray → ByteArray → Int) (isWb : Int → Bool) (isWs : List Int → Bool) (kLen : Int → Int) (manyV : Int → Int) (sizeN : Int → Int) (textA : List Int → Int → ByteArray × Bool) (textAt : List Int → Int → Int → ByteArray) (textR : List Int → Int → ByteArray × Bool) (vLen : Int → Int) (withRV : Int → Int → Int → Int) (wordsA : ByteArray → List Int) (wordsR : ByteArray → List Int) (ks : ByteArray) (vs : ByteArray) (os : ByteArray) (ov : ByteArray) : evCK Try.prog cfgL6 (runK Try.prog cfgL6 fsL6 (conTk wbxnDom (rcK [] (wbxnT byteRV byteV headN isWb isWs kLen manyV sizeN textA textAt textR vLen withRV wordsA wordsR))) 14 40) 14 (codeAt [1, 1, 1, 0, 0] Bg) (gS4 ks vs os ov) (normC 0 [0, 1, 5, 7, 8, 49]) =
  bif (decide ((((ByteArray.size ks) : Nat) : Int) ≤ 16)) then
    some (.normal, (gS5 ks vs os ov))
  else
    some (.normal, (gS6 ks vs os ov)) := by kernel_rfl
theorem gC1_1_1_0_1 : (codeAt [1, 1, 1, 0, 1] Bg) = .cond (.tmp 49) (codeAt [1, 1, 1, 0, 1, 0] Bg) (codeAt [1, 1, 1, 0, 1, 1] Bg) := by kernel_rfl
theorem gR6 (byteRV : Int → Int → Int) (byteV : Int → Int → Int) (headN : ByteArray → ByteArray → Int) (isWb : Int → Bool) (isWs : List Int → Bool) (kLen : Int → Int) (manyV : Int → Int) (sizeN : Int → Int) (textA : List Int → Int → ByteArray × Bool) (textAt : List Int → Int → Int → ByteArray) (textR : List Int → Int → ByteArray × Bool) (vLen : Int → Int) (withRV : Int → Int → Int → Int) (wordsA : ByteArray → List Int) (wordsR : ByteArray → List Int) (ks : ByteArray) (vs : ByteArray) (os : ByteArray) (ov : ByteArray) : evCK Try.prog cfgL6 (runK Try.prog cfgL6 fsL6 (conTk wbxnDom (rcK [] (wbxnT byteRV byteV headN isWb isWs kLen manyV sizeN textA textAt textR vLen withRV wordsA wordsR))) 14 40) 14 (codeAt [1, 1, 1, 0, 1, 1] Bg) (gS6 ks vs os ov) (normC 0 [0, 1, 5, 7, 8]) =
  some (.normal, (gS4 ks vs os ov)) := by kernel_rfl
theorem gC1_1_1_1 : (codeAt [1, 1, 1, 1] Bg) = .seq (codeAt [1, 1, 1, 1, 0] Bg) (codeAt [1, 1, 1, 1, 1] Bg) := by kernel_rfl
theorem gC1_1_1_1_0 : (codeAt [1, 1, 1, 1, 0] Bg) = .seq (codeAt [1, 1, 1, 1, 0, 0] Bg) (codeAt [1, 1, 1, 1, 0, 1] Bg) := by kernel_rfl
noncomputable def gS7 (ks : ByteArray) (vs : ByteArray) (os : ByteArray) (ov : ByteArray) : KSt := ⟨(frameL 123 [(0, (.string ks)), (1, (.string vs)), (5, (.pointer (some ⟨0, 0, none⟩))), (7, (.slice none 0 0)), (51, (.bool true))]), ⟨1, 1, [(0, 0, .cells [(.string os), (.string ov)] 56 true)]⟩⟩
theorem gR7 (byteRV : Int → Int → Int) (byteV : Int → Int → Int) (headN : ByteArray → ByteArray → Int) (isWb : Int → Bool) (isWs : List Int → Bool) (kLen : Int → Int) (manyV : Int → Int) (sizeN : Int → Int) (textA : List Int → Int → ByteArray × Bool) (textAt : List Int → Int → Int → ByteArray) (textR : List Int → Int → ByteArray × Bool) (vLen : Int → Int) (withRV : Int → Int → Int → Int) (wordsA : ByteArray → List Int) (wordsR : ByteArray → List Int) (ks : ByteArray) (vs : ByteArray) (os : ByteArray) (ov : ByteArray) : evCK Try.prog cfgL6 (runK Try.prog cfgL6 fsL6 (conTk wbxnDom (rcK [] (wbxnT byteRV byteV headN isWb isWs kLen manyV sizeN textA textAt textR vLen withRV wordsA wordsR))) 14 40) 14 (codeAt [1, 1, 1, 1, 0, 0] Bg) (gS4 ks vs os ov) (normC 0 [0, 1, 5, 7, 51]) =
  some (.normal, (gS7 ks vs os ov)) := by kernel_rfl
theorem gC1_1_1_1_0_1 : (codeAt [1, 1, 1, 1, 0, 1] Bg) = .cond (.tmp 51) (codeAt [1, 1, 1, 1, 0, 1, 0] Bg) (codeAt [1, 1, 1, 1, 0, 1, 1] Bg) := by kernel_rfl
theorem gC1_1_1_1_0_1_0 : (codeAt [1, 1, 1, 1, 0, 1, 0] Bg) = .seq (codeAt [1, 1, 1, 1, 0, 1, 0, 0] Bg) (codeAt [1, 1, 1, 1, 0, 1, 0, 1] Bg) := by kernel_rfl
noncomputable def gS8  : KSt := ⟨(frameL 123 [(6, (.bool true))]), ⟨0, 1, []⟩⟩
theorem gR8 (byteRV : Int → Int → Int) (byteV : Int → Int → Int) (headN : ByteArray → ByteArray → Int) (isWb : Int → Bool) (isWs : List Int → Bool) (kLen : Int → Int) (manyV : Int → Int) (sizeN : Int → Int) (textA : List Int → Int → ByteArray × Bool) (textAt : List Int → Int → Int → ByteArray) (textR : List Int → Int → ByteArray × Bool) (vLen : Int → Int) (withRV : Int → Int → Int → Int) (wordsA : ByteArray → List Int) (wordsR : ByteArray → List Int) (ks : ByteArray) (vs : ByteArray) (os : ByteArray) (ov : ByteArray) : evCK Try.prog cfgL6 (runK Try.prog cfgL6 fsL6 (conTk wbxnDom (rcK [] (wbxnT byteRV byteV headN isWb isWs kLen manyV sizeN textA textAt textR vLen withRV wordsA wordsR))) 14 40) 14 (codeAt [1, 1, 1, 1, 0, 1, 0, 0] Bg) (gS7 ks vs os ov) (normC 0 [6]) =
  some (.normal, gS8) := by kernel_rfl
theorem gC1_1_1_1_0_1_0_1 : (codeAt [1, 1, 1, 1, 0, 1, 0, 1] Bg) = .ret := by kernel_rfl
theorem ga {ks : ByteArray} {vs : ByteArray} {os : ByteArray} {ov : ByteArray} (hk : ks.size ≤ 1000) (hv : vs.size ≤ 1000) (ho : os.size ≤ 1000) (hp : ov.size ≤ 1000) (hno : 16 < ks.size)   {Q : Ex → St → Prop} (hq : Q .ret (KSt.low gS8)) : Gets Try.prog (KH.low ⟨0, 1, []⟩) Bg (KSt.low (gS0 ks vs os ov)) Q := by
  rw [gC]; refine Gets.seq ?_
  refine Gets.ofN fitL6 wbxn_sound (rc_agree _ _ _) 14 40 (by kernel_rfl) (x := .normal) (s' := (gS1 ks vs os ov)) (gR1 byteRV byteV headN isWb isWs kLen manyV sizeN textA textAt textR vLen withRV wordsA wordsR ks vs os ov) ?_
  show Gets _ _ (codeAt [1] Bg) _ _
  rw [gC1]; refine Gets.seq ?_
  rw [gC1_0]; refine Gets.seq ?_
  refine Gets.ofN fitL6 wbxn_sound (rc_agree _ _ _) 14 40 (by kernel_rfl) (x := .normal) (s' := (gS3 ks vs ov os)) ((gR2 byteRV byteV headN isWb isWs kLen manyV sizeN textA textAt textR vLen withRV wordsA wordsR ks vs os ov).trans (by rw [condF (decide_eq_false (by (first | omega | ((try simp (disch := omega) only [wrap_i64_id]) <;> omega)))), condF (decide_eq_false (by (first | omega | ((try simp (disch := omega) only [wrap_i64_id]) <;> omega)))), condF (decide_eq_false (by (first | omega | ((try simp (disch := omega) only [wrap_i64_id]) <;> omega))))])) ?_
  show Gets _ _ (codeAt [1, 0, 1] Bg) _ _
  rw [gC1_0_1]; refine Gets.cond false (by kernel_rfl) ((show evalX (KSt.ts (gS3 ks vs ov os)) (.tmp 32) = .bool (decide ((((ByteArray.size ov) : Nat) : Int) > 1000)) by kernel_rfl).trans (by rw [(show (decide ((((ByteArray.size ov) : Nat) : Int) > 1000)) = false from decide_eq_false (by (first | omega | ((try simp (disch := omega) only [wrap_i64_id]) <;> omega))))])) ?_; show Gets _ _ (codeAt [1, 0, 1, 1] Bg) _ _
  refine Gets.ofN fitL6 wbxn_sound (rc_agree _ _ _) 14 40 (by kernel_rfl) (x := .normal) (s' := (gS1 ks vs os ov)) (gR3 byteRV byteV headN isWb isWs kLen manyV sizeN textA textAt textR vLen withRV wordsA wordsR ks vs ov os) ?_
  show Gets _ _ (codeAt [1, 1] Bg) _ _
  rw [gC1_1]; refine Gets.seq ?_
  refine Gets.ofN fitL6 wbxn_sound (rc_agree _ _ _) 14 40 (by kernel_rfl) (x := .normal) (s' := (gS4 ks vs os ov)) ((gR4 byteRV byteV headN isWb isWs kLen manyV sizeN textA textAt textR vLen withRV wordsA wordsR ks vs os ov).trans (by rw [condT (not_t (and_f1 (ble_f (by (first | omega | ((try simp (disch := omega) only [wrap_i64_id]) <;> omega))))))])) ?_
  show Gets _ _ (codeAt [1, 1, 1] Bg) _ _
  rw [gC1_1_1]; refine Gets.seq ?_
  rw [gC1_1_1_0]; refine Gets.seq ?_
  refine Gets.ofN fitL6 wbxn_sound (rc_agree _ _ _) 14 40 (by kernel_rfl) (x := .normal) (s' := (gS6 ks vs os ov)) ((gR5 byteRV byteV headN isWb isWs kLen manyV sizeN textA textAt textR vLen withRV wordsA wordsR ks vs os ov).trans (by rw [condF (decide_eq_false (by (first | omega | ((try simp (disch := omega) only [wrap_i64_id]) <;> omega))))])) ?_
  show Gets _ _ (codeAt [1, 1, 1, 0, 1] Bg) _ _
  rw [gC1_1_1_0_1]; refine Gets.cond false (by kernel_rfl) (show evalX (KSt.ts (gS6 ks vs os ov)) (.tmp 49) = .bool false by kernel_rfl) ?_; show Gets _ _ (codeAt [1, 1, 1, 0, 1, 1] Bg) _ _
  refine Gets.ofN fitL6 wbxn_sound (rc_agree _ _ _) 14 40 (by kernel_rfl) (x := .normal) (s' := (gS4 ks vs os ov)) (gR6 byteRV byteV headN isWb isWs kLen manyV sizeN textA textAt textR vLen withRV wordsA wordsR ks vs os ov) ?_
  show Gets _ _ (codeAt [1, 1, 1, 1] Bg) _ _
  rw [gC1_1_1_1]; refine Gets.seq ?_
  rw [gC1_1_1_1_0]; refine Gets.seq ?_
  refine Gets.ofN fitL6 wbxn_sound (rc_agree _ _ _) 14 40 (by kernel_rfl) (x := .normal) (s' := (gS7 ks vs os ov)) (gR7 byteRV byteV headN isWb isWs kLen manyV sizeN textA textAt textR vLen withRV wordsA wordsR ks vs os ov) ?_
  show Gets _ _ (codeAt [1, 1, 1, 1, 0, 1] Bg) _ _
  rw [gC1_1_1_1_0_1]; refine Gets.cond true (by kernel_rfl) (show evalX (KSt.ts (gS7 ks vs os ov)) (.tmp 51) = .bool true by kernel_rfl) ?_; show Gets _ _ (codeAt [1, 1, 1, 1, 0, 1, 0] Bg) _ _
  rw [gC1_1_1_1_0_1_0]; refine Gets.seq ?_
  refine Gets.ofN fitL6 wbxn_sound (rc_agree _ _ _) 14 40 (by kernel_rfl) (x := .normal) (s' := gS8) (gR8 byteRV byteV headN isWb isWs kLen manyV sizeN textA textAt textR vLen withRV wordsA wordsR ks vs os ov) ?_
  show Gets _ _ (codeAt [1, 1, 1, 1, 0, 1, 0, 1] Bg) _ _
  rw [gC1_1_1_1_0_1_0_1]; refine Gets.ev fitL6.mix fitL6.cfg (fitL6.sound wbxn_sound 14 0) 14 rfl (s' := KSt.low gS8) (x := .ret) rfl ?_
  exact hq
theorem gR9 (byteRV : Int → Int → Int) (byteV : Int → Int → Int) (headN : ByteArray → ByteArray → Int) (isWb : Int → Bool) (isWs : List Int → Bool) (kLen : Int → Int) (manyV : Int → Int) (sizeN : Int → Int) (textA : List Int → Int → ByteArray × Bool) (textAt : List Int → Int → Int → ByteArray) (textR : List Int → Int → ByteArray × Bool) (vLen : Int → Int) (withRV : Int → Int → Int → Int) (wordsA : ByteArray → List Int) (wordsR : ByteArray → List Int) (ks : ByteArray) (vs : ByteArray) (os : ByteArray) (ov : ByteArray) : evCK Try.prog cfgL6 (runK Try.prog cfgL6 fsL6 (conTk wbxnDom (rcK [] (wbxnT byteRV byteV headN isWb isWs kLen manyV sizeN textA textAt textR vLen withRV wordsA wordsR))) 14 40) 14 (codeAt [1, 1, 1, 0, 1, 1] Bg) (gS5 ks vs os ov) (normC 0 [0, 1, 5, 7, 8]) =
  some (.normal, (gS4 ks vs os ov)) := by kernel_rfl
theorem gb {ks : ByteArray} {vs : ByteArray} {os : ByteArray} {ov : ByteArray} (hk : ks.size ≤ 1000) (hv : vs.size ≤ 1000) (ho : os.size ≤ 1000) (hp : ov.size ≤ 1000) (hno : ks.size ≤ 16) (hn2 : 24 < vs.size)   {Q : Ex → St → Prop} (hq : Q .ret (KSt.low gS8)) : Gets Try.prog (KH.low ⟨0, 1, []⟩) Bg (KSt.low (gS0 ks vs os ov)) Q := by
  rw [gC]; refine Gets.seq ?_
  refine Gets.ofN fitL6 wbxn_sound (rc_agree _ _ _) 14 40 (by kernel_rfl) (x := .normal) (s' := (gS1 ks vs os ov)) (gR1 byteRV byteV headN isWb isWs kLen manyV sizeN textA textAt textR vLen withRV wordsA wordsR ks vs os ov) ?_
  show Gets _ _ (codeAt [1] Bg) _ _
  rw [gC1]; refine Gets.seq ?_
  rw [gC1_0]; refine Gets.seq ?_
  refine Gets.ofN fitL6 wbxn_sound (rc_agree _ _ _) 14 40 (by kernel_rfl) (x := .normal) (s' := (gS3 ks vs ov os)) ((gR2 byteRV byteV headN isWb isWs kLen manyV sizeN textA textAt textR vLen withRV wordsA wordsR ks vs os ov).trans (by rw [condF (decide_eq_false (by (first | omega | ((try simp (disch := omega) only [wrap_i64_id]) <;> omega)))), condF (decide_eq_false (by (first | omega | ((try simp (disch := omega) only [wrap_i64_id]) <;> omega)))), condF (decide_eq_false (by (first | omega | ((try simp (disch := omega) only [wrap_i64_id]) <;> omega))))])) ?_
  show Gets _ _ (codeAt [1, 0, 1] Bg) _ _
  rw [gC1_0_1]; refine Gets.cond false (by kernel_rfl) ((show evalX (KSt.ts (gS3 ks vs ov os)) (.tmp 32) = .bool (decide ((((ByteArray.size ov) : Nat) : Int) > 1000)) by kernel_rfl).trans (by rw [(show (decide ((((ByteArray.size ov) : Nat) : Int) > 1000)) = false from decide_eq_false (by (first | omega | ((try simp (disch := omega) only [wrap_i64_id]) <;> omega))))])) ?_; show Gets _ _ (codeAt [1, 0, 1, 1] Bg) _ _
  refine Gets.ofN fitL6 wbxn_sound (rc_agree _ _ _) 14 40 (by kernel_rfl) (x := .normal) (s' := (gS1 ks vs os ov)) (gR3 byteRV byteV headN isWb isWs kLen manyV sizeN textA textAt textR vLen withRV wordsA wordsR ks vs ov os) ?_
  show Gets _ _ (codeAt [1, 1] Bg) _ _
  rw [gC1_1]; refine Gets.seq ?_
  refine Gets.ofN fitL6 wbxn_sound (rc_agree _ _ _) 14 40 (by kernel_rfl) (x := .normal) (s' := (gS4 ks vs os ov)) ((gR4 byteRV byteV headN isWb isWs kLen manyV sizeN textA textAt textR vLen withRV wordsA wordsR ks vs os ov).trans (by rw [condT (not_t (and_f2 (ble_f (by (first | omega | ((try simp (disch := omega) only [wrap_i64_id]) <;> omega))))))])) ?_
  show Gets _ _ (codeAt [1, 1, 1] Bg) _ _
  rw [gC1_1_1]; refine Gets.seq ?_
  rw [gC1_1_1_0]; refine Gets.seq ?_
  refine Gets.ofN fitL6 wbxn_sound (rc_agree _ _ _) 14 40 (by kernel_rfl) (x := .normal) (s' := (gS5 ks vs os ov)) ((gR5 byteRV byteV headN isWb isWs kLen manyV sizeN textA textAt textR vLen withRV wordsA wordsR ks vs os ov).trans (by rw [condT (decide_eq_true (by (first | omega | ((try simp (disch := omega) only [wrap_i64_id]) <;> omega))))])) ?_
  show Gets _ _ (codeAt [1, 1, 1, 0, 1] Bg) _ _
  rw [gC1_1_1_0_1]; refine Gets.cond false (by kernel_rfl) ((show evalX (KSt.ts (gS5 ks vs os ov)) (.tmp 49) = .bool (!(false == (decide ((((ByteArray.size vs) : Nat) : Int) ≤ 24)))) by kernel_rfl).trans (by rw [(show (!(false == (decide ((((ByteArray.size vs) : Nat) : Int) ≤ 24)))) = false from not_f (by rw [decide_eq_false (by omega)]; rfl))])) ?_; show Gets _ _ (codeAt [1, 1, 1, 0, 1, 1] Bg) _ _
  refine Gets.ofN fitL6 wbxn_sound (rc_agree _ _ _) 14 40 (by kernel_rfl) (x := .normal) (s' := (gS4 ks vs os ov)) (gR9 byteRV byteV headN isWb isWs kLen manyV sizeN textA textAt textR vLen withRV wordsA wordsR ks vs os ov) ?_
  show Gets _ _ (codeAt [1, 1, 1, 1] Bg) _ _
  rw [gC1_1_1_1]; refine Gets.seq ?_
  rw [gC1_1_1_1_0]; refine Gets.seq ?_
  refine Gets.ofN fitL6 wbxn_sound (rc_agree _ _ _) 14 40 (by kernel_rfl) (x := .normal) (s' := (gS7 ks vs os ov)) (gR7 byteRV byteV headN isWb isWs kLen manyV sizeN textA textAt textR vLen withRV wordsA wordsR ks vs os ov) ?_
  show Gets _ _ (codeAt [1, 1, 1, 1, 0, 1] Bg) _ _
  rw [gC1_1_1_1_0_1]; refine Gets.cond true (by kernel_rfl) (show evalX (KSt.ts (gS7 ks vs os ov)) (.tmp 51) = .bool true by kernel_rfl) ?_; show Gets _ _ (codeAt [1, 1, 1, 1, 0, 1, 0] Bg) _ _
  rw [gC1_1_1_1_0_1_0]; refine Gets.seq ?_
  refine Gets.ofN fitL6 wbxn_sound (rc_agree _ _ _) 14 40 (by kernel_rfl) (x := .normal) (s' := gS8) (gR8 byteRV byteV headN isWb isWs kLen manyV sizeN textA textAt textR vLen withRV wordsA wordsR ks vs os ov) ?_
  show Gets _ _ (codeAt [1, 1, 1, 1, 0, 1, 0, 1] Bg) _ _
  rw [gC1_1_1_1_0_1_0_1]; refine Gets.ev fitL6.mix fitL6.cfg (fitL6.sound wbxn_sound 14 0) 14 rfl (s' := KSt.low gS8) (x := .ret) rfl ?_
  exact hq
noncomputable def gS9 (ks : ByteArray) (vs : ByteArray) (boxW : ByteArray → ByteArray → List Int) (os : ByteArray) (ov : ByteArray) : KSt := ⟨(frameL 123 [(0, (.string ks)), (1, (.string vs)), (5, (.pointer (some ⟨0, 0, none⟩))), (7, (.slice (some ⟨1, 0, none⟩) (List.length (boxW ks vs)) (List.length (boxW ks vs))))]), ⟨2, 1, [(1, 0, .ints .u64 (boxW ks vs) 30 true), (0, 0, .cells [(.string os), (.string ov)] 56 true)]⟩⟩
theorem gC1_1_1_1_1_1_1 : (codeAt [1, 1, 1, 1, 1, 1, 1] Bg) = .seq (codeAt [1, 1, 1, 1, 1, 1, 1, 0] Bg) (codeAt [1, 1, 1, 1, 1, 1, 1, 1] Bg) := by kernel_rfl
noncomputable def gS10 (ks : ByteArray) (vs : ByteArray) (boxW : ByteArray → ByteArray → List Int) (os : ByteArray) (ov : ByteArray) : KSt := ⟨(frameL 123 [(0, (.string ks)), (1, (.string vs)), (5, (.pointer (some ⟨0, 0, none⟩))), (7, (.slice (some ⟨1, 0, none⟩) (List.length (boxW ks vs)) (List.length (boxW ks vs)))), (11, (.slice none 0 0)), (12, (.bool false))]), ⟨2, 1, [(1, 0, .ints .u64 (boxW ks vs) 30 true), (0, 0, .cells [(.string os), (.string ov)] 56 true)]⟩⟩
theorem gR10 (byteRV : Int → Int → Int) (byteV : Int → Int → Int) (headN : ByteArray → ByteArray → Int) (isWb : Int → Bool) (isWs : List Int → Bool) (kLen : Int → Int) (manyV : Int → Int) (sizeN : Int → Int) (textA : List Int → Int → ByteArray × Bool) (textAt : List Int → Int → Int → ByteArray) (textR : List Int → Int → ByteArray × Bool) (vLen : Int → Int) (withRV : Int → Int → Int → Int) (wordsA : ByteArray → List Int) (wordsR : ByteArray → List Int) (ks : ByteArray) (vs : ByteArray) (boxW : ByteArray → ByteArray → List Int) (os : ByteArray) (ov : ByteArray) : evCK Try.prog cfgL6 (runK Try.prog cfgL6 fsL6 (conTk wbxnDom (rcK [] (wbxnT byteRV byteV headN isWb isWs kLen manyV sizeN textA textAt textR vLen withRV wordsA wordsR))) 14 40) 14 (codeAt [1, 1, 1, 1, 1, 1, 1, 0] Bg) (gS9 ks vs boxW os ov) (normC 0 [0, 1, 5, 7, 11, 12]) =
  bif (!((Nat.ble (ByteArray.size os) 16) && (Nat.ble (ByteArray.size ov) 24))) then
    some (.normal, (gS10 ks vs boxW os ov))
  else
    none := by kernel_rfl
theorem gC1_1_1_1_1_1_1_1 : (codeAt [1, 1, 1, 1, 1, 1, 1, 1] Bg) = .seq (codeAt [1, 1, 1, 1, 1, 1, 1, 1, 0] Bg) (codeAt [1, 1, 1, 1, 1, 1, 1, 1, 1] Bg) := by kernel_rfl
theorem gR11 (byteRV : Int → Int → Int) (byteV : Int → Int → Int) (headN : ByteArray → ByteArray → Int) (isWb : Int → Bool) (isWs : List Int → Bool) (kLen : Int → Int) (manyV : Int → Int) (sizeN : Int → Int) (textA : List Int → Int → ByteArray × Bool) (textAt : List Int → Int → Int → ByteArray) (textR : List Int → Int → ByteArray × Bool) (vLen : Int → Int) (withRV : Int → Int → Int → Int) (wordsA : ByteArray → List Int) (wordsR : ByteArray → List Int) (ks : ByteArray) (vs : ByteArray) (boxW : ByteArray → ByteArray → List Int) (os : ByteArray) (ov : ByteArray) : evCK Try.prog cfgL6 (runK Try.prog cfgL6 fsL6 (conTk wbxnDom (rcK [] (wbxnT byteRV byteV headN isWb isWs kLen manyV sizeN textA textAt textR vLen withRV wordsA wordsR))) 14 40) 14 (codeAt [1, 1, 1, 1, 1, 1, 1, 1, 0] Bg) (gS10 ks vs boxW os ov) (normC 0 [6]) =
  some (.normal, gS8) := by kernel_rfl
theorem gC1_1_1_1_1_1_1_1_1 : (codeAt [1, 1, 1, 1, 1, 1, 1, 1, 1] Bg) = .ret := by kernel_rfl
theorem gx {os : ByteArray} {ks : ByteArray} {vs : ByteArray} {ov : ByteArray} (hno : 16 < os.size)   {Q : Ex → St → Prop} (hq : Q .ret (KSt.low gS8)) : Gets Try.prog (KH.low ⟨0, 1, []⟩) (codeAt [1, 1, 1, 1, 1, 1, 1] Bg) (KSt.low (gS9 ks vs boxW os ov)) Q := by
  rw [gC1_1_1_1_1_1_1]; refine Gets.seq ?_
  refine Gets.ofN fitL6 wbxn_sound (rc_agree _ _ _) 14 40 (by kernel_rfl) (x := .normal) (s' := (gS10 ks vs boxW os ov)) ((gR10 byteRV byteV headN isWb isWs kLen manyV sizeN textA textAt textR vLen withRV wordsA wordsR ks vs boxW os ov).trans (by rw [condT (not_t (and_f1 (ble_f (by (first | omega | ((try simp (disch := omega) only [wrap_i64_id]) <;> omega))))))])) ?_
  show Gets _ _ (codeAt [1, 1, 1, 1, 1, 1, 1, 1] Bg) _ _
  rw [gC1_1_1_1_1_1_1_1]; refine Gets.seq ?_
  refine Gets.ofN fitL6 wbxn_sound (rc_agree _ _ _) 14 40 (by kernel_rfl) (x := .normal) (s' := gS8) (gR11 byteRV byteV headN isWb isWs kLen manyV sizeN textA textAt textR vLen withRV wordsA wordsR ks vs boxW os ov) ?_
  show Gets _ _ (codeAt [1, 1, 1, 1, 1, 1, 1, 1, 1] Bg) _ _
  rw [gC1_1_1_1_1_1_1_1_1]; refine Gets.ev fitL6.mix fitL6.cfg (fitL6.sound wbxn_sound 14 0) 14 rfl (s' := KSt.low gS8) (x := .ret) rfl ?_
  exact hq
theorem gy {os : ByteArray} {ov : ByteArray} {ks : ByteArray} {vs : ByteArray} (hno : os.size ≤ 16) (hn2 : 24 < ov.size)   {Q : Ex → St → Prop} (hq : Q .ret (KSt.low gS8)) : Gets Try.prog (KH.low ⟨0, 1, []⟩) (codeAt [1, 1, 1, 1, 1, 1, 1] Bg) (KSt.low (gS9 ks vs boxW os ov)) Q := by
  rw [gC1_1_1_1_1_1_1]; refine Gets.seq ?_
  refine Gets.ofN fitL6 wbxn_sound (rc_agree _ _ _) 14 40 (by kernel_rfl) (x := .normal) (s' := (gS10 ks vs boxW os ov)) ((gR10 byteRV byteV headN isWb isWs kLen manyV sizeN textA textAt textR vLen withRV wordsA wordsR ks vs boxW os ov).trans (by rw [condT (not_t (and_f2 (ble_f (by (first | omega | ((try simp (disch := omega) only [wrap_i64_id]) <;> omega))))))])) ?_
  show Gets _ _ (codeAt [1, 1, 1, 1, 1, 1, 1, 1] Bg) _ _
  rw [gC1_1_1_1_1_1_1_1]; refine Gets.seq ?_
  refine Gets.ofN fitL6 wbxn_sound (rc_agree _ _ _) 14 40 (by kernel_rfl) (x := .normal) (s' := gS8) (gR11 byteRV byteV headN isWb isWs kLen manyV sizeN textA textAt textR vLen withRV wordsA wordsR ks vs boxW os ov) ?_
  show Gets _ _ (codeAt [1, 1, 1, 1, 1, 1, 1, 1, 1] Bg) _ _
  rw [gC1_1_1_1_1_1_1_1_1]; refine Gets.ev fitL6.mix fitL6.cfg (fitL6.sound wbxn_sound 14 0) 14 rfl (s' := KSt.low gS8) (x := .ret) rfl ?_
  exact hq
noncomputable def QL : Ex → St → Prop := Eng.Ends Try.prog Try.f7.results.toList fun r _ => r = .bool true
theorem qL {s : KSt} (h : resL Try.prog s.low Try.f7.results.toList = some [.bool true]) : QL .ret s.low := Ends.of h rfl
theorem ro1 {off : Nat} {l : List Int} {e : TypeId} : Ro (mkH [.tail off .u64 l e]).low := fun a o ho => by
  obtain ⟨_, rfl⟩ := mkH1_get ho; rfl
theorem ro0 : Ro (mkH []).low := fun a o ho => by cases ho
theorem head_k {ks vs : ByteArray} (hk : ks.size ≤ 16) (hv : vs.size ≤ 24) : kLen (headN ks vs) = ((ks.size : Nat) : Int) ∧ vLen (headN ks vs) = ((vs.size : Nat) : Int) := by
  rw [headN_eq, Nat.min_eq_left (by omega), Nat.min_eq_left (by omega)]
  unfold kLen vLen
  constructor <;> (rw [if_neg (by omega)]; omega)
theorem boxW_get (ks vs : ByteArray) (i : Nat) : (boxW ks vs).getD (1 + i) 0 = if i < manyN ks then ((cat (LB ks (8 * i)) : Nat) : Int) else (wordsN vs).getD (i - manyN ks) 0 := by
  rw [boxW_eq, Nat.add_comm, List.getD_cons_succ, List.getD_eq_getElem?_getD, List.getElem?_append, wordsN_len]
  split
  · rename_i h
    rw [← List.getD_eq_getElem?_getD, wordsN_get h]
  · rw [← List.getD_eq_getElem?_getD]
theorem byteAt_LB {w : Int} {s : ByteArray} {i : Nat} (h : w = ((cat (LB s (8 * (i / 8))) : Nat) : Int)) : IntKind.wrap .u8 (byteV w ((i % 8 : Nat) : Int)) = ((bt s i : Nat) : Int) := by
  rw [h, byteV_get _ _ (by omega), bytes8_LB, LB_get _ _ _ (by omega), show 8 * (i / 8) + i % 8 = i by omega, wrap_u8 (bt_lt _ _)]
theorem read_k (ks vs : ByteArray) : textAt (boxW ks vs) 1 ((ks.size : Nat) : Int) = ks := by
  rw [textAt_eq]
  refine nums_back (by simp) fun p hp => ?_
  rw [Int.toNat_natCast, List.getD_eq_getElem?_getD, List.getElem?_map, List.getElem?_range hp]
  show byteAt (boxW ks vs) 1 p = _
  unfold byteAt
  rw [show Int.toNat 1 = 1 from rfl]
  refine byteAt_LB ?_
  rw [boxW_get, if_pos (by unfold manyN; omega)]
theorem read_v (ks vs : ByteArray) : textAt (boxW ks vs) (1 + manyV ((ks.size : Nat) : Int)) ((vs.size : Nat) : Int) = vs := by
  rw [textAt_eq, many_size]
  refine nums_back (by simp) fun p hp => ?_
  rw [Int.toNat_natCast, List.getD_eq_getElem?_getD, List.getElem?_map, List.getElem?_range hp]
  show byteAt (boxW ks vs) _ p = _
  unfold byteAt
  rw [show Int.toNat (1 + ((manyN ks : Nat) : Int)) + p / 8 = 1 + (manyN ks + p / 8) by omega]
  refine byteAt_LB ?_
  rw [boxW_get, if_neg (by omega), show manyN ks + p / 8 - manyN ks = p / 8 by omega, wordsN_get (by unfold manyN; omega)]
theorem boxW_0 (ks vs : ByteArray) : (boxW ks vs).getD 0 0 = headN ks vs := by rw [boxW_eq]; rfl
theorem boxW_size {ks vs : ByteArray} (hk : ks.size ≤ 16) (hv : vs.size ≤ 24) : (((boxW ks vs).length : Nat) : Int) = sizeN ((boxW ks vs).getD 0 0) := by
  rw [boxW_0, boxW_len]
  unfold sizeN
  rw [(head_k hk hv).1, (head_k hk hv).2, many_size, many_size]
  omega
theorem wordsN_word (s : ByteArray) : ∀ n ∈ wordsN s, word64 n := by
  intro n hn
  obtain ⟨j, _, rfl⟩ := List.mem_map.1 hn
  have := LB_lt s (8 * j)
  exact ⟨by omega, by omega⟩
theorem boxW_word (ks vs : ByteArray) : ∀ n ∈ boxW ks vs, word64 n := by
  intro n hn
  rw [boxW_eq] at hn
  rcases List.mem_cons.1 hn with rfl | hn
  · exact headN_word ks vs
  · rcases List.mem_append.1 hn with hn | hn
    · exact wordsN_word ks n hn
    · exact wordsN_word vs n hn
theorem boxW_inj {ks vs os ov : ByteArray} (hk : ks.size ≤ 16) (hv : vs.size ≤ 24) (ho : os.size ≤ 16) (hp : ov.size ≤ 24) (h : boxW ks vs = boxW os ov) : ks = os ∧ vs = ov := by
  have h0 : headN ks vs = headN os ov := by rw [← boxW_0, ← boxW_0, h]
  have hks : ((ks.size : Nat) : Int) = ((os.size : Nat) : Int) := by rw [← (head_k hk hv).1, ← (head_k ho hp).1, h0]
  have hvs : ((vs.size : Nat) : Int) = ((ov.size : Nat) : Int) := by rw [← (head_k hk hv).2, ← (head_k ho hp).2, h0]
  exact ⟨by rw [← read_k ks vs, ← read_k os ov, h, hks], by rw [← read_v ks vs, ← read_v os ov, h, hks, hvs]⟩
theorem str_t {a b : ByteArray} (h : a = b) : (a.toList == b.toList) = true := by rw [h]; exact beq_self_eq_true _
theorem str_f {a b : ByteArray} (h : a ≠ b) : (a.toList == b.toList) = false := by
  cases e : (a.toList == b.toList) with
  | false => rfl
  | true =>
    rw [beq_iff_eq, ByteArray.toList_eq, ByteArray.toList_eq] at e
    exact absurd (Go.WideShapes.bytes_inj e) h
theorem told (ks vs os ov : ByteArray) : Tells Try.prog 7 [(.string ks), (.string vs), (.agg #[(.string os), (.string ov)])] (mkH []).low (.bool true) := by
  by_cases hk : 1000 < ks.size
  · refine Gets.tells Try.func7 Bf_is (by rw [noVars]; exact Nat.zero_le _) rfl ?_ ro0
    show Gets Try.prog (KH.low ⟨0, 1, []⟩) Bf (KSt.low (fS0 ks vs os ov)) QL
    exact fk hk (qL (by kernel_rfl))
  by_cases hv : 1000 < vs.size
  · refine Gets.tells Try.func7 Bf_is (by rw [noVars]; exact Nat.zero_le _) rfl ?_ ro0
    show Gets Try.prog (KH.low ⟨0, 1, []⟩) Bf (KSt.low (fS0 ks vs os ov)) QL
    exact fv (by omega) hv (qL (by kernel_rfl))
  by_cases ho : 1000 < os.size
  · refine Gets.tells Try.func7 Bf_is (by rw [noVars]; exact Nat.zero_le _) rfl ?_ ro0
    show Gets Try.prog (KH.low ⟨0, 1, []⟩) Bf (KSt.low (fS0 ks vs os ov)) QL
    exact fo (by omega) (by omega) ho (qL (by kernel_rfl))
  by_cases hp : 1000 < ov.size
  · refine Gets.tells Try.func7 Bf_is (by rw [noVars]; exact Nat.zero_le _) rfl ?_ ro0
    show Gets Try.prog (KH.low ⟨0, 1, []⟩) Bf (KSt.low (fS0 ks vs os ov)) QL
    exact fp (by omega) (by omega) (by omega) hp (qL (by kernel_rfl))
  by_cases h16 : 16 < ks.size
  · refine Gets.tells Try.func7 Bg_is (by rw [noVars]; exact Nat.zero_le _) rfl ?_ ro0
    show Gets Try.prog (KH.low ⟨0, 1, []⟩) Bg (KSt.low (gS0 ks vs os ov)) QL
    exact ga (by omega) (by omega) (by omega) (by omega) h16 (qL (by kernel_rfl))
  by_cases h24 : 24 < vs.size
  · refine Gets.tells Try.func7 Bg_is (by rw [noVars]; exact Nat.zero_le _) rfl ?_ ro0
    show Gets Try.prog (KH.low ⟨0, 1, []⟩) Bg (KSt.low (gS0 ks vs os ov)) QL
    exact gb (by omega) (by omega) (by omega) (by omega) (by omega) h24 (qL (by kernel_rfl))
  have e1 : (List.take (List.length (boxW ks vs)) (List.drop 0 (boxW ks vs))) = boxW ks vs := by rw [List.drop_zero, List.take_length]
  have e2 : (List.take (List.length (boxW os ov)) (List.drop 0 (boxW os ov))) = boxW os ov := by rw [List.drop_zero, List.take_length]
  have hbl : (boxW ks vs).length ≤ 100 := by rw [boxW_len]; unfold manyN; omega
  have hb1 : 1 ≤ (boxW ks vs).length := by rw [boxW_len]; omega
  have hK := head_k (ks := ks) (vs := vs) (by omega) (by omega)
  refine Gets.tells Try.func7 Bf_is (by rw [noVars]; exact Nat.zero_le _) rfl ?_ ro0
  show Gets Try.prog (KH.low ⟨0, 1, []⟩) Bf (KSt.low (fS0 ks vs os ov)) QL
  refine fm (by omega) (by omega) (by omega) (by omega) (by omega) (by omega) hbl hb1 (by rw [e1, boxW_0, hK.1]; exact read_k ks vs) (by rw [e1, boxW_0, hK.1, hK.2]; exact read_v ks vs) (by rw [e1]; exact isWs_of (boxW_word ks vs)) (by rw [boxW_0]; exact isWb_of (headN_word ks vs)) (boxW_size (by omega) (by omega)) (boxW_0 ks vs) ?_
  by_cases ho16 : 16 < os.size
  · show Gets _ _ (codeAt [1, 1, 1, 1, 1, 1, 1] Bg) _ _
    exact gx ho16 (qL (by kernel_rfl))
  by_cases ho24 : 24 < ov.size
  · exact gy (by omega) ho24 (qL (by kernel_rfl))
  have hol : (boxW os ov).length ≤ 100 := by rw [boxW_len]; unfold manyN; omega
  by_cases hE : ks = os
  · refine fe (by omega) (by omega) hol hbl (str_t hE) ?_ (qL (by kernel_rfl))
    rw [e1, e2]
    by_cases hV : vs = ov
    · rw [str_t hV, decide_eq_true (by rw [hE, hV])]; rfl
    · rw [str_f hV, decide_eq_false (fun h => hV (boxW_inj (by omega) (by omega) (by omega) (by omega) h).2)]; rfl
  · refine fn (by omega) (by omega) hol hbl (str_f hE) ?_ (qL (by kernel_rfl))
    rw [e1, e2, decide_eq_false (fun h => hE (boxW_inj (by omega) (by omega) (by omega) (by omega) h).1)]; rfl
theorem own : ownKnob Try.prog.godebug = none := by kernel_rfl
theorem lifted (os : Os) (started : os.Started) (H : Type) (enc : TypeId × Value → H) :
    ReturnsInHanded {} Try.checked os 7 .any (Rows.boxBackSpec.pre6 enc Try.prog Try.f7 Rows.boxBackRow.domain false) (Rows.boxBackSpec.post enc Try.prog Try.f7 false true false false) := by
  refine returnsInHanded_of_change_sized (C := Try.checked) own started (by kernel_rfl) Try.func7
    (ChangeSpec.witness6 (enc := enc) (C := Try.checked) false ⟨#[], #[.string ⟨#[]⟩, .string ⟨#[]⟩, .agg #[.string ⟨#[]⟩, .string ⟨#[]⟩]], []⟩ 8 (by kernel_rfl) (by kernel_rfl) (by kernel_rfl) (by kernel_rfl)) ?_
  intro W base args ds gs before hval0 hW hcnd hsz0 _
  have hval : ∀ (j : Nat) t v, Try.f7.params[j]? = some t → args[j]? = some v → Value.okWide Try.prog W .any base t v := hval0
  have hW' := hW
  obtain ⟨p, q, hA0, hV, rfl, hfz, hnd⟩ := hW
  have hA : DataW.TrodAll enc Try.prog W 0 (fun _ => true) true Try.f7.params.toList args.toList ds p := hA0
  rw [Try.params7] at hA hval
  have hS := hA
  obtain ⟨v0, vs0, d0, ds0, p0, q0, hargs, rfl, rfl, h0, r0⟩ := trodAll_cons hA
  obtain ⟨v1, vs1, d1, ds1, p1, q1, rfl, rfl, rfl, h1, r1⟩ := trodAll_cons r0
  obtain ⟨v2, vs2, d2, ds2, p2, q2, rfl, rfl, rfl, h2, r2⟩ := trodAll_cons r1
  obtain ⟨rfl, rfl, rfl⟩ := trodAll_nil r2
  obtain rfl : args = #[v0, v1, v2] := by cases args; simp_all
  obtain ⟨rfl, rfl⟩ := trodVars_none hV
  suffices hc : Calls Try.prog 7 #[v0, v1, v2] W fun e W' => e = .returned (.bool true) ∧ Below W.heap.size W W' by
    refine hc.mono fun e W' ⟨he, bel⟩ => ?_
    subst he
    exact ⟨_, rfl, _, _, _, [], _, [], hW', trodAll_mk1 (shut_bool Try.underlying4 _), trodAll_stays fineA bel (by decide +kernel) hS, rfl, bel.frame _, fun h => by cases h⟩
  clear hS hW' hfz hnd
  obtain ⟨a0, rfl, rfl, rfl, w0⟩ := Go.ChangeMaps.open_string Try.underlying9 (hval 0 9 v0 rfl rfl) h0
  obtain ⟨a1, rfl, rfl, rfl, w1⟩ := Go.ChangeMaps.open_string Try.underlying9 (hval 1 9 v1 rfl rfl) h1
  obtain ⟨cs2, rfl, hl2, hc2⟩ := open_agg (ts := [9, 9]) (by kernel_rfl) (by kernel_rfl) (by kernel_rfl) (hval 2 56 v2 rfl rfl)
  obtain ⟨x2_0, cs2_0, rfl, hl2_0⟩ := list_succ hl2
  obtain ⟨x2_1, cs2_1, rfl, hl2_1⟩ := list_succ hl2_0
  obtain rfl := list_zero hl2_1
  obtain ⟨a2_0, rfl⟩ := cell_string Try.underlying9 (hc2 0 _ _ rfl rfl)
  obtain ⟨a2_1, rfl⟩ := cell_string Try.underlying9 (hc2 1 _ _ rfl rfl)
  exact told a0 a1 a2_0 a2_1 _ W _ (.cons (.of_plain rfl) (.cons (.of_plain rfl) (.cons (.of_plain rfl) (.nil _)))) (Sim.none noVars W _ _)
theorem over : Rows.boxBackRow.holds Try.pinned (OpenSpec.ofChange Rows.boxBackSpec) :=
  OpenClaim.holds_of_wide 7 Try.f7 rfl rfl rfl rfl rfl rfl rfl ⟨rfl, rfl, rfl, rfl, rfl⟩ rfl rfl rfl rfl rfl (by kernel_rfl) Try.func7 (by kernel_rfl)
    (of_decide_eq_true (by kernel_rfl)) (by unfold Func.isWrapper; first | (rw [if_pos (by decide +kernel)]; kernel_rfl) | (rw [if_neg (by decide +kernel)]; exact ⟨rfl, rfl⟩))
    (fun os started H enc _ => lifted os started H enc)
end Go.Proofs.Ytnhdjmpbmecnoaa.boxBack
namespace Go.Proofs.Ytnhdjmpbmecnoaa
/-- The row, under a short name, for the claim. -/
theorem boxBack_holds : Rows.BoxBackSaid := boxBack.over
#print axioms boxBack_holds
end Go.Proofs.Ytnhdjmpbmecnoaa
