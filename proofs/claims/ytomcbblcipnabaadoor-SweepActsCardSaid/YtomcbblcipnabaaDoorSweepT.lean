/- The reference sweep and the desk, as a table. -/
import Derived.Test.YtomcbblcipnabaaDoorSweepR
import Derived.WalkKit
import Derived.ProofKit
import Derived.OpenShut
import Derived.ChangeOld
import Derived.Below
import Derived.SizedLaws
namespace Go.Proofs.YtomcbblcipnabaaDoor.sweepRef
open Go.Eng
open Go.ChangeShapes Go.WideShapes Go.ChangeAt Go.RowKit
set_option linter.unusedVariables false
set_option linter.unusedSimpArgs false
set_option maxRecDepth 100000
def sweepF : TapeF := fun f rest l more => match f, rest, more with
  | 10, [.agg ⟨[.int .u64 dk, .int .i64 th, .int .i64 ths, .int .i64 kp, .int .u64 sd]⟩], [.int .i64 0, .bool false, .int .i64 0, .int .u64 0, .int .i64 0, .int .u64 0, .int .u64 0] =>
    some (.int .i64 (gRes (gst ths l)), gMore dk (gst ths l))
  | _, _, _ => none
def thsOk : List Value → Bool
  | [_, .agg ⟨[_, _, .int .i64 ths, _, _]⟩] => decide (0 < ths ∧ ths ≤ 64)
  | _ => false
def guardE (G : List Value → Bool) (E : ConE) : ConE := fun acc f args => match G args with
  | true => E acc f args
  | false => none
def guardK {β : Type} (G : List Value → Bool) (K : ConEK β) : ConEK β := fun h f args k => bif G args then K h f args k else none
theorem guard_tells {β : Type} {G : List Value → Bool} {E : ConE} {K : ConEK β} (h : TellsK E K) : TellsK (guardE G E) (guardK G K) := by
  intro hh f args k r hk
  unfold guardK at hk
  unfold guardE
  cases hg : G args with
  | true => rw [hg] at hk; exact h hh f args k r hk
  | false => rw [hg] at hk; cases hk
def gE : ConE := orE swDom swE (guardE thsOk (tapeEV [1, 64, 1, 64] sweepF))
def gK {β : Type} : ConEK β := orK swDom (plainK swE) (guardK thsOk (tapeKV [1, 64, 1, 64] sweepF))
def gDom : List FuncId := 10 :: swDom
theorem g_agree {β : Type} : AgreeT (conC gDom gE) (conTk (β := β) gDom gK) := conTk_agree (orK_tells (plainK_tells _) (guard_tells (tapeKV_tells _ _)))
/-- As sweepF, where the threads are few. -/
def sweepG : TapeF := fun f rest l more => match thsOk (.bool true :: rest) with
  | true => sweepF f rest l more
  | false => none
theorem tape_guard {acc : Acc} {f : FuncId} {args : List Value} {c : Con} (h : guardE thsOk (tapeEV [1, 64, 1, 64] sweepF) acc f args = some c) : tapeEV [1, 64, 1, 64] sweepG acc f args = some c := by
  unfold guardE at h
  split at h
  · rename_i hg
    refine Eq.trans ?_ h
    unfold tapeEV
    split
    · rename_i t rest
      have hr : thsOk (.bool true :: rest) = true := by
        unfold thsOk at hg ⊢
        split at hg
        · rename_i heq
          cases heq
          exact hg
        · cases hg
      have hs : ∀ f l more, sweepG f rest l more = sweepF f rest l more := fun f l more => by unfold sweepG; rw [hr]
      simp only [hs]
    · rfl
  · cases h
theorem g_sound : SoundC Tryd.prog (conC gDom gE) := by
  refine SoundC.con ?_ ?_
  · intro f hf
    rcases List.mem_cons.1 hf with rfl | hf
    · exact fitU.fnOk _ (by
        have h0 : fsU.contains 10 = true := by kernel_rfl
        simpa using h0)
    · exact sw_fn f hf
  · intro h f args c hm hE
    unfold gE orE at hE
    cases hd : swDom.contains f with
    | true => rw [hd] at hE; exact sw_ok h f args c hE
    | false =>
      rw [hd] at hE
      have hE := tape_guard hE
      refine tape_okV oneVar (zs := [1, 64, 1, 64]) (F := sweepG) (dom := gDom) ?_ h f args c hm hE
      intro f rest off n c l more d0 d1 d2 d3 e0 e eg v more' _ hll _ _ hF hz hn
      unfold sweepG at hF
      split at hF
      · rename_i hg
        unfold sweepF at hF
        split at hF
        · cases hF
          cases hz
          have hg2 := of_decide_eq_true hg
          exact does _ _ _ _ _ off n c l e0 e eg hll (by omega) hg2.2 hg2.1
        · cases hF
      · cases hF

end Go.Proofs.YtomcbblcipnabaaDoor.sweepRef
