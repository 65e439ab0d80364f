import Derived.Test.YtfhfbbhoppnbiaaDoorFit
import Derived.WalkKit
import Derived.ProofKit
import Derived.OpenShut
import Derived.ChangeOld
import Derived.Below
import Derived.SizedLaws
namespace Go.Proofs.YtfhfbbhoppnbiaaDoor
open Go.Eng
open Go.ChangeShapes Go.WideShapes Go.ChangeAt Go.RowKit
set_option linter.unusedVariables false
set_option linter.unusedSimpArgs false
set_option maxRecDepth 100000
noncomputable def cfgR : Cfg := ⟨[]⟩
noncomputable def fsR : List FuncId := [10, 11, 15, 23, 35]
theorem fitR : Fit Tryd.prog cfgR fsR := ⟨by kernel_rfl, Cfg.ok_of (by kernel_rfl), by kernel_rfl⟩
noncomputable def BCr : Code := bodyOf Tryd.prog 23
theorem BCr_is : Tryd.f23.body = some BCr := by kernel_rfl
noncomputable abbrev CrH (e : TypeId) (off : Nat) (l : List Int) (g_ : TypeId) : AH := (KH.low ⟨2, 1, [(0, 0, .cells [(.int .i64 1), (.int .i64 64), (.int .i64 1), (.int .i64 64)] e false), (1, 0, .tail off .u64 l g_)]⟩)
noncomputable abbrev CrEA (c : Code) (lv p : List Nat) (st : Option (List Nat)) (ws : List Bool) (s : KSt) : Option Rs := evA (evCK Tryd.prog cfgR (runK Tryd.prog cfgR fsR noT 14 40) 14) (stopW 2 lv) p c st ws s (finW 2 lv)
theorem Crto {c_ : Code} {lv_ p_ p2_ : List Nat} {ws_ : List Bool} {st_ s' : KSt} {Q : Ex → St → Prop} {e : TypeId} {off : Nat} {l : List Int} {g_ : TypeId} (hE_ : CrEA c_ lv_ p_ (some p2_) ws_ st_ = some (.stop s')) (hq_ : AtW Tryd.prog (CrH e off l g_) c_ p2_ s' Q) (hok_ : okCode Tryd.prog.globals.size c_ = true := by kernel_rfl) : AtW Tryd.prog (CrH e off l g_) c_ p_ st_ Q := AtW.to fitR SoundC.no AgreeT.no 14 40 hok_ hE_ hq_
theorem Crfi {c_ : Code} {lv_ p_ : List Nat} {ws_ : List Bool} {st_ s' : KSt} {x : Ex} {Q : Ex → St → Prop} {e : TypeId} {off : Nat} {l : List Int} {g_ : TypeId} (hE_ : CrEA c_ lv_ p_ none ws_ st_ = some (.fin x s')) (hq_ : Q x s'.low) (hok_ : okCode Tryd.prog.globals.size c_ = true := by kernel_rfl) : AtW Tryd.prog (CrH e off l g_) c_ p_ st_ Q := AtW.fin fitR SoundC.no AgreeT.no 14 40 hok_ hE_ hq_
section
variable (off n c : Nat) (e : TypeId) (l : List Int) (g_ : TypeId)
noncomputable def CrS0 : KSt := (firstK [(.slice (some ⟨1, off, none⟩) (n + 1) c)] 8 ⟨2, 1, [(0, 0, .cells [(.int .i64 1), (.int .i64 64), (.int .i64 1), (.int .i64 64)] e false), (1, 0, .tail off .u64 l g_)]⟩)
theorem CrW1 : CrEA BCr [2] [] (some [1, 1, 1]) [false] (CrS0 off n c e l g_) =
  bif (Nat.beq (n + 1) 0) then
    some (.stop ⟨(frameL 8 [(2, (.slice (some ⟨2, 0, none⟩) 0 0))]), ⟨3, 1, [(2, 0, .cells [] 22 true), (0, 0, .cells [(.int .i64 1), (.int .i64 64), (.int .i64 1), (.int .i64 64)] e false), (1, 0, .tail off .u64 l g_)]⟩⟩)
  else
    bif ((Nat.ble off off) && (Nat.ble ((off - off) + (n + 1)) (List.length l))) then
      bif (Nat.ble ((0 + (n + 1)) * 9) 1099511627776) then
        bif (Nat.ble (0 + (n + 1)) 0) then
          none
        else
          some (.stop ⟨(frameL 8 [(2, (.slice (some ⟨2, 0, none⟩) (n + 1) (n + 1)))]), ⟨3, 1, [(2, 0, .ints .u64 (List.take (n + 1) (List.drop (off - off) l)) 22 true), (0, 0, .cells [(.int .i64 1), (.int .i64 64), (.int .i64 1), (.int .i64 64)] e false), (1, 0, .tail off .u64 l g_)]⟩⟩)
      else
        none
    else
      none := by kernel_rfl
noncomputable def CrS2 : KSt := ⟨(frameL 8 [(2, (.slice (some ⟨2, 0, none⟩) (n + 1) (n + 1)))]), ⟨3, 1, [(2, 0, .ints .u64 l 22 true), (0, 0, .cells [(.int .i64 1), (.int .i64 64), (.int .i64 1), (.int .i64 64)] e false), (1, 0, .tail off .u64 l g_)]⟩⟩
theorem CrW2 : CrEA BCr [2] [1, 1, 1] none [] (CrS2 off n e l g_) =
  some (.fin .ret (CrS2 off n e l g_)) := by kernel_rfl
end
theorem Crk {l : List Int} {n off : Nat} {e g_ : TypeId} {c : Nat} (hl : l.length = n + 1) (hb : n ≤ 1000) (hT : (List.take (n + 1) (List.drop (off - off) l)) = l)   {Q : Ex → St → Prop} (hq : Q .ret (KSt.low (CrS2 off n e l g_))) : Gets Tryd.prog (CrH e off l g_) BCr (KSt.low (CrS0 off n c e l g_)) Q := by
  refine AtW.gets ?_
  refine Crto (s' := (CrS2 off n e l g_)) ((CrW1 ..).trans (by rw [qF, condT (and_t (ble_t (by omega)) (ble_t (by (first | omega | ((try simp (disch := omega) only [wrap_i64_id]) <;> omega))))), lT, lF, (show (List.take (n + 1) (List.drop (off - off) l)) = l from hT)] <;> rfl)) ?_
  exact Crfi (CrW2 ..) hq
noncomputable def BCn0 : Code := bodyOf Tryd.prog 23
theorem BCn0_is : Tryd.f23.body = some BCn0 := by kernel_rfl
noncomputable abbrev Cn0H (e : TypeId) : AH := (KH.low ⟨1, 1, [(0, 0, .cells [(.int .i64 1), (.int .i64 64), (.int .i64 1), (.int .i64 64)] e false)]⟩)
noncomputable abbrev Cn0EA (c : Code) (lv p : List Nat) (st : Option (List Nat)) (ws : List Bool) (s : KSt) : Option Rs := evA (evCK Tryd.prog cfgR (runK Tryd.prog cfgR fsR noT 14 40) 14) (stopW 1 lv) p c st ws s (finW 1 lv)
theorem Cn0fi {c_ : Code} {lv_ p_ : List Nat} {ws_ : List Bool} {st_ s' : KSt} {x : Ex} {Q : Ex → St → Prop} {e : TypeId} (hE_ : Cn0EA c_ lv_ p_ none ws_ st_ = some (.fin x s')) (hq_ : Q x s'.low) (hok_ : okCode Tryd.prog.globals.size c_ = true := by kernel_rfl) : AtW Tryd.prog (Cn0H e) c_ p_ st_ Q := AtW.fin fitR SoundC.no AgreeT.no 14 40 hok_ hE_ hq_
section
variable (c : Nat) (e : TypeId)
noncomputable def Cn0S0 : KSt := (firstK [(.slice none 0 c)] 8 ⟨1, 1, [(0, 0, .cells [(.int .i64 1), (.int .i64 64), (.int .i64 1), (.int .i64 64)] e false)]⟩)
noncomputable def Cn0S1 : KSt := ⟨(frameL 8 [(2, (.slice none 0 0))]), ⟨1, 1, [(0, 0, .cells [(.int .i64 1), (.int .i64 64), (.int .i64 1), (.int .i64 64)] e false)]⟩⟩
theorem Cn0W1 : Cn0EA BCn0 [2] [] none [true] (Cn0S0 c e) =
  some (.fin .ret (Cn0S1 e)) := by kernel_rfl
end
theorem Cn0k {e : TypeId} {c : Nat}   {Q : Ex → St → Prop} (hq : Q .ret (KSt.low (Cn0S1 e))) : Gets Tryd.prog (Cn0H e) BCn0 (KSt.low (Cn0S0 c e)) Q := by
  refine AtW.gets ?_
  exact Cn0fi (Cn0W1 ..) hq
noncomputable def BCz0 : Code := bodyOf Tryd.prog 23
theorem BCz0_is : Tryd.f23.body = some BCz0 := by kernel_rfl
noncomputable abbrev Cz0H (e : TypeId) : AH := (KH.low ⟨1, 1, [(0, 0, .cells [(.int .i64 1), (.int .i64 64), (.int .i64 1), (.int .i64 64)] e false)]⟩)
noncomputable abbrev Cz0EA (c : Code) (lv p : List Nat) (st : Option (List Nat)) (ws : List Bool) (s : KSt) : Option Rs := evA (evCK Tryd.prog cfgR (runK Tryd.prog cfgR fsR noT 14 40) 14) (stopW 1 lv) p c st ws s (finW 1 lv)
theorem Cz0fi {c_ : Code} {lv_ p_ : List Nat} {ws_ : List Bool} {st_ s' : KSt} {x : Ex} {Q : Ex → St → Prop} {e : TypeId} (hE_ : Cz0EA c_ lv_ p_ none ws_ st_ = some (.fin x s')) (hq_ : Q x s'.low) (hok_ : okCode Tryd.prog.globals.size c_ = true := by kernel_rfl) : AtW Tryd.prog (Cz0H e) c_ p_ st_ Q := AtW.fin fitR SoundC.no AgreeT.no 14 40 hok_ hE_ hq_
section
variable (e : TypeId)
noncomputable def Cz0S0 : KSt := (firstK [(.slice (some ⟨0, 0, some 1⟩) 0 0)] 8 ⟨1, 1, [(0, 0, .cells [(.int .i64 1), (.int .i64 64), (.int .i64 1), (.int .i64 64)] e false)]⟩)
noncomputable def Cz0S1 : KSt := ⟨(frameL 8 [(2, (.slice (some ⟨1, 0, none⟩) 0 0))]), ⟨2, 1, [(1, 0, .cells [] 22 true), (0, 0, .cells [(.int .i64 1), (.int .i64 64), (.int .i64 1), (.int .i64 64)] e false)]⟩⟩
theorem Cz0W1 : Cz0EA BCz0 [2] [] none [false] (Cz0S0 e) =
  some (.fin .ret (Cz0S1 e)) := by kernel_rfl
end
theorem Cz0k {e : TypeId}   {Q : Ex → St → Prop} (hq : Q .ret (KSt.low (Cz0S1 e))) : Gets Tryd.prog (Cz0H e) BCz0 (KSt.low (Cz0S0 e)) Q := by
  refine AtW.gets ?_
  exact Cz0fi (Cz0W1 ..) hq
noncomputable def BCn1 : Code := bodyOf Tryd.prog 23
theorem BCn1_is : Tryd.f23.body = some BCn1 := by kernel_rfl
noncomputable abbrev Cn1H (e : TypeId) (off : Nat) (l : List Int) (g_ : TypeId) : AH := (KH.low ⟨2, 1, [(0, 0, .cells [(.int .i64 1), (.int .i64 64), (.int .i64 1), (.int .i64 64)] e false), (1, 0, .tail off .u64 l g_)]⟩)
noncomputable abbrev Cn1EA (c : Code) (lv p : List Nat) (st : Option (List Nat)) (ws : List Bool) (s : KSt) : Option Rs := evA (evCK Tryd.prog cfgR (runK Tryd.prog cfgR fsR noT 14 40) 14) (stopW 2 lv) p c st ws s (finW 2 lv)
theorem Cn1fi {c_ : Code} {lv_ p_ : List Nat} {ws_ : List Bool} {st_ s' : KSt} {x : Ex} {Q : Ex → St → Prop} {e : TypeId} {off : Nat} {l : List Int} {g_ : TypeId} (hE_ : Cn1EA c_ lv_ p_ none ws_ st_ = some (.fin x s')) (hq_ : Q x s'.low) (hok_ : okCode Tryd.prog.globals.size c_ = true := by kernel_rfl) : AtW Tryd.prog (Cn1H e off l g_) c_ p_ st_ Q := AtW.fin fitR SoundC.no AgreeT.no 14 40 hok_ hE_ hq_
section
variable (c : Nat) (e : TypeId) (off : Nat) (l : List Int) (g_ : TypeId)
noncomputable def Cn1S0 : KSt := (firstK [(.slice none 0 c)] 8 ⟨2, 1, [(0, 0, .cells [(.int .i64 1), (.int .i64 64), (.int .i64 1), (.int .i64 64)] e false), (1, 0, .tail off .u64 l g_)]⟩)
noncomputable def Cn1S1 : KSt := ⟨(frameL 8 [(2, (.slice none 0 0))]), ⟨2, 1, [(0, 0, .cells [(.int .i64 1), (.int .i64 64), (.int .i64 1), (.int .i64 64)] e false), (1, 0, .tail off .u64 l g_)]⟩⟩
theorem Cn1W1 : Cn1EA BCn1 [2] [] none [true] (Cn1S0 c e off l g_) =
  some (.fin .ret (Cn1S1 e off l g_)) := by kernel_rfl
end
theorem Cn1k {e : TypeId} {off : Nat} {l : List Int} {g_ : TypeId} {c : Nat}   {Q : Ex → St → Prop} (hq : Q .ret (KSt.low (Cn1S1 e off l g_))) : Gets Tryd.prog (Cn1H e off l g_) BCn1 (KSt.low (Cn1S0 c e off l g_)) Q := by
  refine AtW.gets ?_
  exact Cn1fi (Cn1W1 ..) hq
noncomputable def BCz1 : Code := bodyOf Tryd.prog 23
theorem BCz1_is : Tryd.f23.body = some BCz1 := by kernel_rfl
noncomputable abbrev Cz1H (e : TypeId) (off : Nat) (l : List Int) (g_ : TypeId) : AH := (KH.low ⟨2, 1, [(0, 0, .cells [(.int .i64 1), (.int .i64 64), (.int .i64 1), (.int .i64 64)] e false), (1, 0, .tail off .u64 l g_)]⟩)
noncomputable abbrev Cz1EA (c : Code) (lv p : List Nat) (st : Option (List Nat)) (ws : List Bool) (s : KSt) : Option Rs := evA (evCK Tryd.prog cfgR (runK Tryd.prog cfgR fsR noT 14 40) 14) (stopW 2 lv) p c st ws s (finW 2 lv)
theorem Cz1fi {c_ : Code} {lv_ p_ : List Nat} {ws_ : List Bool} {st_ s' : KSt} {x : Ex} {Q : Ex → St → Prop} {e : TypeId} {off : Nat} {l : List Int} {g_ : TypeId} (hE_ : Cz1EA c_ lv_ p_ none ws_ st_ = some (.fin x s')) (hq_ : Q x s'.low) (hok_ : okCode Tryd.prog.globals.size c_ = true := by kernel_rfl) : AtW Tryd.prog (Cz1H e off l g_) c_ p_ st_ Q := AtW.fin fitR SoundC.no AgreeT.no 14 40 hok_ hE_ hq_
section
variable (e : TypeId) (off : Nat) (l : List Int) (g_ : TypeId)
noncomputable def Cz1S0 : KSt := (firstK [(.slice (some ⟨0, 0, some 1⟩) 0 0)] 8 ⟨2, 1, [(0, 0, .cells [(.int .i64 1), (.int .i64 64), (.int .i64 1), (.int .i64 64)] e false), (1, 0, .tail off .u64 l g_)]⟩)
noncomputable def Cz1S1 : KSt := ⟨(frameL 8 [(2, (.slice (some ⟨2, 0, none⟩) 0 0))]), ⟨3, 1, [(2, 0, .cells [] 22 true), (0, 0, .cells [(.int .i64 1), (.int .i64 64), (.int .i64 1), (.int .i64 64)] e false), (1, 0, .tail off .u64 l g_)]⟩⟩
theorem Cz1W1 : Cz1EA BCz1 [2] [] none [false] (Cz1S0 e off l g_) =
  some (.fin .ret (Cz1S1 e off l g_)) := by kernel_rfl
end
theorem Cz1k {e : TypeId} {off : Nat} {l : List Int} {g_ : TypeId}   {Q : Ex → St → Prop} (hq : Q .ret (KSt.low (Cz1S1 e off l g_))) : Gets Tryd.prog (Cz1H e off l g_) BCz1 (KSt.low (Cz1S0 e off l g_)) Q := by
  refine AtW.gets ?_
  exact Cz1fi (Cz1W1 ..) hq
theorem zrow' {a : Nat} {ρ ρ' : Rho} {u : Value} (h : R ρ (.slice (some ⟨a, 0, none⟩) 0 0) u) : R ρ' (.slice (some ⟨0, 0, none⟩) 0 0) u := by
  cases h with
  | slice _ _ _ c' hρ hc hf hz =>
    rcases hz with h | h
    · omega
    · subst h; exact .slice00 _ _ _
  | slice00 => exact .slice00 _ _ _
theorem znil (ρ : Rho) (u : Value) (h : R ρ (.slice none 0 0) u) : R ρ (.slice (some ⟨0, 0, none⟩) 0 0) u := by
  cases h; exact .slice00 _ _ _
theorem clz0 (e : TypeId) {v : Value} (hz : ZeroLike v) : DoesC Tryd.prog 23 [v] (mkH [.cells [(.int .i64 1), (.int .i64 64), (.int .i64 1), (.int .i64 64)] e false]).low (.slice (some ⟨0, 0, none⟩) 0 0) (effK (mkH [.cells [(.int .i64 1), (.int .i64 64), (.int .i64 1), (.int .i64 64)] e false]) [] []).low := by
  refine DoesC.zero (fun c => ?_) ?_ hz
  · refine DoesC.value (v := .slice none 0 0) ?_ znil
    refine EndsR.does Tryd.func23 BCn0_is (by rw [oneVar]; exact Nat.le_add_left _ _) ?_
    show Gets Tryd.prog (KH.low ⟨1, 1, [(0, 0, .cells [(.int .i64 1), (.int .i64 64), (.int .i64 1), (.int .i64 64)] e false)]⟩) BCn0 (KSt.low (Cn0S0 c e)) _
    exact Cn0k (EndsR.ret (l := [.slice none 0 0]) (by kernel_rfl) rfl (Fits.n0 rfl rfl (Nat.le_refl _)))
  · refine DoesC.still (v := .slice (some ⟨1, 0, none⟩) 0 0) (h' := (effK (mkH [.cells [(.int .i64 1), (.int .i64 64), (.int .i64 1), (.int .i64 64)] e false]) [] [.cells [] 22 true]).low) ?_ (fun a o ho => by
      obtain ⟨q, hq, rfl⟩ := mkH_inv ho
      match a, hq with
      | 0, hq => cases hq; rfl) (fun ρ ρ' u h => (zrow' h))
    refine EndsR.does Tryd.func23 BCz0_is (by rw [oneVar]; exact Nat.le_add_left _ _) ?_
    show Gets Tryd.prog (KH.low ⟨1, 1, [(0, 0, .cells [(.int .i64 1), (.int .i64 64), (.int .i64 1), (.int .i64 64)] e false)]⟩) BCz0 (KSt.low (Cz0S0 e)) _
    exact Cz0k (EndsR.ret (l := [.slice (some ⟨1, 0, none⟩) 0 0]) (by kernel_rfl) rfl (Fits.n1 rfl rfl rfl (Nat.le_refl _)))
theorem clz1 (e : TypeId) (off : Nat) (l : List Int) (g_ : TypeId) {v : Value} (hz : ZeroLike v) : DoesC Tryd.prog 23 [v] (mkH [.cells [(.int .i64 1), (.int .i64 64), (.int .i64 1), (.int .i64 64)] e false, .tail off .u64 l g_]).low (.slice (some ⟨0, 0, none⟩) 0 0) (effK (mkH [.cells [(.int .i64 1), (.int .i64 64), (.int .i64 1), (.int .i64 64)] e false, .tail off .u64 l g_]) [] []).low := by
  refine DoesC.zero (fun c => ?_) ?_ hz
  · refine DoesC.value (v := .slice none 0 0) ?_ znil
    refine EndsR.does Tryd.func23 BCn1_is (by rw [oneVar]; exact Nat.le_add_left _ _) ?_
    show Gets Tryd.prog (KH.low ⟨2, 1, [(0, 0, .cells [(.int .i64 1), (.int .i64 64), (.int .i64 1), (.int .i64 64)] e false), (1, 0, .tail off .u64 l g_)]⟩) BCn1 (KSt.low (Cn1S0 c e off l g_)) _
    exact Cn1k (EndsR.ret (l := [.slice none 0 0]) (by kernel_rfl) rfl (Fits.n0 rfl rfl (Nat.le_refl _)))
  · refine DoesC.still (v := .slice (some ⟨2, 0, none⟩) 0 0) (h' := (effK (mkH [.cells [(.int .i64 1), (.int .i64 64), (.int .i64 1), (.int .i64 64)] e false, .tail off .u64 l g_]) [] [.cells [] 22 true]).low) ?_ (fun a o ho => by
      obtain ⟨q, hq, rfl⟩ := mkH_inv ho
      match a, hq with
      | 0, hq => cases hq; rfl
      | 1, hq => cases hq; rfl) (fun ρ ρ' u h => (zrow' h))
    refine EndsR.does Tryd.func23 BCz1_is (by rw [oneVar]; exact Nat.le_add_left _ _) ?_
    show Gets Tryd.prog (KH.low ⟨2, 1, [(0, 0, .cells [(.int .i64 1), (.int .i64 64), (.int .i64 1), (.int .i64 64)] e false), (1, 0, .tail off .u64 l g_)]⟩) BCz1 (KSt.low (Cz1S0 e off l g_)) _
    exact Cz1k (EndsR.ret (l := [.slice (some ⟨2, 0, none⟩) 0 0]) (by kernel_rfl) rfl (Fits.n1 rfl rfl rfl (Nat.le_refl _)))
theorem clr (e : TypeId) (off n c : Nat) (l : List Int) (g_ : TypeId) (hl : l.length = n + 1) (hb : n ≤ 1000) : DoesC Tryd.prog 23 [(.slice (some ⟨1, off, none⟩) (n + 1) c)] (mkH [.cells [(.int .i64 1), (.int .i64 64), (.int .i64 1), (.int .i64 64)] e false, .tail off .u64 l g_]).low ((.slice (some ⟨2, 0, none⟩) (n + 1) (n + 1))) (effK (mkH [.cells [(.int .i64 1), (.int .i64 64), (.int .i64 1), (.int .i64 64)] e false, .tail off .u64 l g_]) [] [.ints .u64 l 22 true]).low := by
  refine EndsR.does Tryd.func23 BCr_is (by rw [oneVar]; exact Nat.le_add_left _ _) ?_
  show Gets Tryd.prog (KH.low ⟨2, 1, [(0, 0, .cells [(.int .i64 1), (.int .i64 64), (.int .i64 1), (.int .i64 64)] e false), (1, 0, .tail off .u64 l g_)]⟩) BCr (KSt.low (CrS0 off n c e l g_)) _
  exact Crk hl hb (by rw [Nat.sub_self, List.drop_zero, List.take_of_length_le (by omega)]) (EndsR.ret (l := [(.slice (some ⟨2, 0, none⟩) (n + 1) (n + 1))]) (by kernel_rfl) rfl (Fits.n1 rfl rfl rfl (Nat.le_refl _)))
noncomputable def rc_clA : RC := ⟨[.row .u64], fun avs => match avs with | [.row l] => ((Nat.ble 1 (List.length l)) && (Nat.ble (List.length l) 1000)) | _ => false,
  fun N avs => match avs with | [.row l] => ((.slice (some ⟨N, 0, none⟩) (List.length l) (List.length l)), [], [.ints .u64 l 22 true]) | _ => (.bool false, [], [])⟩
theorem rc_clA_does : RcDoes Tryd.prog varL 23 rc_clA := by
  intro vb avs args blks hv hs hp
  obtain ⟨e0, rfl⟩ := var1 hv
  cases hs with
  | row0 hs =>
    cases hs
    have hp : (Nat.ble 1 ([] : List Int).length && Nat.ble ([] : List Int).length 1000) = true := hp
    cases hp
  | row off_l n_l c_l l e_l hl_l hs =>
    cases hs
    have hp : (Nat.ble 1 l.length && Nat.ble l.length 1000) = true := hp
    rw [Bool.and_eq_true] at hp
    have h1 := Nat.le_of_ble_eq_true hp.1
    have h2 := Nat.le_of_ble_eq_true hp.2
    obtain ⟨n, rfl⟩ : ∃ n, n_l = n + 1 := ⟨n_l - 1, by omega⟩
    have := clr e0 off_l n c_l l e_l hl_l (by omega)
    rw [← hl_l] at this ⊢
    exact this
noncomputable def rc_clB : RC := ⟨[.row .u64], fun avs => match avs with | [.row l] => (Nat.beq (List.length l) 0) | _ => false,
  fun N avs => match avs with | [.row l] => ((.slice (some ⟨0, 0, none⟩) 0 0), [], []) | _ => (.bool false, [], [])⟩
theorem rc_clB_does : RcDoes Tryd.prog varL 23 rc_clB := by
  intro vb avs args blks hv hs hp
  obtain ⟨e0, rfl⟩ := var1 hv
  cases hs with
  | row0 hs =>
    cases hs
    exact clz0 e0 ZeroLike.slice0
  | row off_l n_l c_l l e_l hl_l hs =>
    cases hs
    have hp : Nat.beq l.length 0 = true := hp
    have h1 := Nat.eq_of_beq_eq_true hp
    have hn : n_l = 0 := by omega
    subst hn
    exact clz1 e0 off_l l e_l (ZeroLike.row 1 off_l c_l)
noncomputable def clAT : RTab := fun f => match f with
  | 23 => some rc_clA
  | _ => none
def clADom : List FuncId := [23]
theorem clA_does : ∀ f rc, f ∈ clADom → clAT f = some rc → RcDoes Tryd.prog varL f rc := by
  intro f rc hf hT
  simp only [clADom, List.mem_cons, List.not_mem_nil, or_false] at hf
  subst hf
  cases hT; exact rc_clA_does
theorem clA_fn : ∀ f ∈ clADom, FnOk Tryd.prog f := fun f hf => fitR.fnOk f (by
    have h0 : (clADom.all fun f => fsR.contains f) = true := by kernel_rfl
    simpa using List.all_eq_true.1 h0 f hf)
theorem clA_sound : SoundC Tryd.prog (conC clADom (rcE varL clAT)) := rc_sound oneVar clA_fn clA_does
noncomputable def clBT : RTab := fun f => match f with
  | 23 => some rc_clB
  | _ => none
def clBDom : List FuncId := [23]
theorem clB_does : ∀ f rc, f ∈ clBDom → clBT f = some rc → RcDoes Tryd.prog varL f rc := by
  intro f rc hf hT
  simp only [clBDom, List.mem_cons, List.not_mem_nil, or_false] at hf
  subst hf
  cases hT; exact rc_clB_does
theorem clB_fn : ∀ f ∈ clBDom, FnOk Tryd.prog f := fun f hf => fitR.fnOk f (by
    have h0 : (clBDom.all fun f => fsR.contains f) = true := by kernel_rfl
    simpa using List.all_eq_true.1 h0 f hf)
theorem clB_sound : SoundC Tryd.prog (conC clBDom (rcE varL clBT)) := rc_sound oneVar clB_fn clB_does
end Go.Proofs.YtfhfbbhoppnbiaaDoor
