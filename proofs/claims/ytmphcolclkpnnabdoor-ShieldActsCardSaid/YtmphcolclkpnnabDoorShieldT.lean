/- The reference shield and the desk, as a table. -/
import Derived.Test.YtmphcolclkpnnabDoorShieldR
import Derived.WalkKit
import Derived.ProofKit
import Derived.OpenShut
import Derived.ChangeOld
import Derived.Below
import Derived.SizedLaws
namespace Go.Proofs.YtmphcolclkpnnabDoor.shieldRef
open Go.Eng
open Go.ChangeShapes Go.WideShapes Go.ChangeAt Go.RowKit
set_option linter.unusedVariables false
set_option linter.unusedSimpArgs false
set_option maxRecDepth 100000
def shieldF : TapeF := fun f rest l more => match f, rest, more with
  | 10, [.agg ⟨[.int .u64 dk, .int .i64 th, .int .i64 ths, .int .i64 kp, .int .u64 sd]⟩, .int .u64 b0, .int .i64 cl, .int .u64 w], [.int .i64 0, .bool false, .int .i64 0, .int .u64 0, .int .i64 0, .int .u64 0, .int .u64 0] =>
    some (.int .u64 (gRes (gst w l)), gMore dk th b0 cl (gst w l))
  | _, _, _ => none
def gE : ConE := orE deskDom deskE (tapeEV [1, 64, 1, 64] shieldF)
def gK {β : Type} : ConEK β := orK deskDom (plainK deskE) (tapeKV [1, 64, 1, 64] shieldF)
def gDom : List FuncId := 10 :: deskDom
theorem g_agree {β : Type} : AgreeT (conC gDom gE) (conTk (β := β) gDom gK) := conTk_agree (orK_tells (plainK_tells _) (tapeKV_tells _ _))
theorem g_sound : SoundC Tryd.prog (conC gDom gE) := by
  refine SoundC.con ?_ ?_
  · intro f hf
    rcases List.mem_cons.1 hf with rfl | hf
    · exact fitU.fnOk _ (by
        have h0 : fsU.contains 10 = true := by kernel_rfl
        simpa using h0)
    · exact desk_fn f hf
  · intro h f args c hm hE
    unfold gE orE at hE
    cases hd : deskDom.contains f with
    | true => rw [hd] at hE; exact desk_ok h f args c hE
    | false =>
      rw [hd] at hE
      refine tape_okV oneVar (zs := [1, 64, 1, 64]) (F := shieldF) (dom := gDom) ?_ h f args c hm hE
      intro f rest off n c l more d0 d1 d2 d3 e0 e eg v more' _ hll _ _ hF hz hn
      unfold shieldF at hF
      split at hF
      · cases hF
        cases hz
        exact does _ _ _ _ _ _ _ _ off n c l e0 e eg hll (by omega)
      · cases hF

end Go.Proofs.YtmphcolclkpnnabDoor.shieldRef
