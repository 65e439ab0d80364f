import Derived.Test.YtfhfbbhoppnbiaaDoorFit
import Derived.WalkKit
import Derived.ProofKit
import Derived.OpenShut
import Derived.ChangeOld
import Derived.Below
import Derived.SizedLaws
namespace Go.Proofs.YtfhfbbhoppnbiaaDoor
open Go.Eng
open Go.ChangeShapes Go.WideShapes Go.ChangeAt Go.RowKit
set_option linter.unusedVariables false
set_option linter.unusedSimpArgs false
set_option maxRecDepth 100000
noncomputable def cfgAr : Cfg := ⟨[]⟩
noncomputable def fsAr : List FuncId := [17, 18, 26, 27, 30, 31, 32, 33, 34, 37, 45]
theorem fitAr : Fit Tryd.prog cfgAr fsAr := ⟨by kernel_rfl, Cfg.ok_of (by kernel_rfl), by kernel_rfl⟩
noncomputable abbrev LoadNO0 (e : TypeId) : KObj := .cells [(.int .i64 1), (.int .i64 64), (.int .i64 1), (.int .i64 64)] e false
theorem LoadN_t (b i : Int) (e : TypeId) (S : ArSt) (old : List MapEntry) : runK Tryd.prog cfgAr fsAr noT 30 40 30 [(.pointer (some ⟨1, 0, none⟩)), (.int .u64 b), (.int .i64 i)] (mkH [(LoadNO0 e), .cells [(.int .i64 S.cells), (.int .i64 S.used), (.int .i64 S.faults), (.int .u64 S.last), (.map (some 2))] 80 true, .pmap old (.int .u64 b) none]) bothK =
  bif (b == b) then
    some ((.tuple #[(.int .u64 0), (.int .i64 13)]), ⟨3, 2, [(0, 0, (LoadNO0 e)), (1, 1, .cells [(.int .i64 S.cells), (.int .i64 S.used), (.int .i64 (IntKind.wrap .i64 (S.faults + 1))), (.int .u64 S.last), (.map (some 2))] 80 true), (2, 0, .pmap old (.int .u64 b) none)]⟩)
  else
    none := by kernel_rfl
theorem LoadN0 {b i : Int} {e : TypeId} {S : ArSt} {old : List MapEntry}   : DoesC Tryd.prog 30 [(.pointer (some ⟨1, 0, none⟩)), (.int .u64 b), (.int .i64 i)] (mkH [(LoadNO0 e), .cells [(.int .i64 S.cells), (.int .i64 S.used), (.int .i64 S.faults), (.int .u64 S.last), (.map (some 2))] 80 true, .pmap old (.int .u64 b) none]).low (.tuple #[(.int .u64 0), (.int .i64 13)]) (KH.low ⟨3, 2, [(0, 0, (LoadNO0 e)), (1, 1, .cells [(.int .i64 S.cells), (.int .i64 S.used), (.int .i64 (IntKind.wrap .i64 (S.faults + 1))), (.int .u64 S.last), (.map (some 2))] 80 true), (2, 0, .pmap old (.int .u64 b) none)]⟩) :=
  tree_does fitAr SoundC.no AgreeT.no (by kernel_rfl) ((LoadN_t b i e S old).trans (by rw [condT (beq_self_eq_true _)]))
noncomputable abbrev LoadFO0 (S : ArSt) : KObj := .cells [(.int .i64 S.cells), (.int .i64 S.used), (.int .i64 (IntKind.wrap .i64 (S.faults + 1))), (.int .u64 S.last), (.map (some 2))] 80 true
noncomputable abbrev LoadFO1 (S : ArSt) : KObj := .cells [(.int .i64 S.cells), (.int .i64 S.used), (.int .i64 S.faults), (.int .u64 S.last), (.map (some 2))] 80 true
noncomputable abbrev LoadFO2 (e : TypeId) : KObj := .cells [(.int .i64 1), (.int .i64 64), (.int .i64 1), (.int .i64 64)] e false
noncomputable abbrev LoadFO3 (old : List MapEntry) (b : Int) (n : Nat) : KObj := .pmap old (.int .u64 b) (some (.slice (some ⟨3, 0, none⟩) n n))
theorem LoadF_t (b i : Int) (e : TypeId) (S : ArSt) (old : List MapEntry) (n : Nat) (L : List Int) : runK Tryd.prog cfgAr fsAr noT 30 40 30 [(.pointer (some ⟨1, 0, none⟩)), (.int .u64 b), (.int .i64 i)] (mkH [(LoadFO2 e), (LoadFO1 S), (LoadFO3 old b n), .ints .u64 L 22 true]) bothK =
  bif (b == b) then
    bif (decide (i < 0)) then
      some ((.tuple #[(.int .u64 0), (.int .i64 14)]), ⟨4, 2, [(0, 0, (LoadFO2 e)), (1, 1, (LoadFO0 S)), (2, 0, (LoadFO3 old b n)), (3, 0, .ints .u64 L 22 true)]⟩)
    else
      bif (decide (i ≥ ((n : Nat) : Int))) then
        some ((.tuple #[(.int .u64 0), (.int .i64 14)]), ⟨4, 2, [(0, 0, (LoadFO2 e)), (1, 1, (LoadFO0 S)), (2, 0, (LoadFO3 old b n)), (3, 0, .ints .u64 L 22 true)]⟩)
      else
        if 0 ≤ i ∧ i < ((n : Nat) : Int) then
          obind (L[(0 + ((Int.toNat i) * 1))]?) fun n1 =>
            some ((.tuple #[(.int .u64 n1), (.int .i64 0)]), ⟨4, 1, [(0, 0, (LoadFO2 e)), (1, 0, (LoadFO1 S)), (2, 0, (LoadFO3 old b n)), (3, 0, .ints .u64 L 22 true)]⟩)
        else
          none
  else
    none := by kernel_rfl
theorem LoadFl {b i : Int} {e : TypeId} {S : ArSt} {old : List MapEntry} {n : Nat} {L : List Int} (hi : i < 0)   : DoesC Tryd.prog 30 [(.pointer (some ⟨1, 0, none⟩)), (.int .u64 b), (.int .i64 i)] (mkH [(LoadFO2 e), (LoadFO1 S), (LoadFO3 old b n), .ints .u64 L 22 true]).low (.tuple #[(.int .u64 0), (.int .i64 14)]) (KH.low ⟨4, 2, [(0, 0, (LoadFO2 e)), (1, 1, (LoadFO0 S)), (2, 0, (LoadFO3 old b n)), (3, 0, .ints .u64 L 22 true)]⟩) :=
  tree_does fitAr SoundC.no AgreeT.no (by kernel_rfl) ((LoadF_t b i e S old n L).trans (by rw [condT (beq_self_eq_true _), condT (decide_eq_true (by (first | omega | ((try simp (disch := omega) only [wrap_i64_id]) <;> omega))))]))
theorem LoadFg {b i : Int} {e : TypeId} {S : ArSt} {old : List MapEntry} {n : Nat} {L : List Int} (hi : (n : Int) ≤ i) (h0 : 0 ≤ i)   : DoesC Tryd.prog 30 [(.pointer (some ⟨1, 0, none⟩)), (.int .u64 b), (.int .i64 i)] (mkH [(LoadFO2 e), (LoadFO1 S), (LoadFO3 old b n), .ints .u64 L 22 true]).low (.tuple #[(.int .u64 0), (.int .i64 14)]) (KH.low ⟨4, 2, [(0, 0, (LoadFO2 e)), (1, 1, (LoadFO0 S)), (2, 0, (LoadFO3 old b n)), (3, 0, .ints .u64 L 22 true)]⟩) :=
  tree_does fitAr SoundC.no AgreeT.no (by kernel_rfl) ((LoadF_t b i e S old n L).trans (by rw [condT (beq_self_eq_true _), condF (decide_eq_false (by (first | omega | ((try simp (disch := omega) only [wrap_i64_id]) <;> omega)))), condT (decide_eq_true (by (first | omega | ((try simp (disch := omega) only [wrap_i64_id]) <;> omega))))]))
theorem LoadFk {b i : Int} {e : TypeId} {S : ArSt} {old : List MapEntry} {n : Nat} {L : List Int} (h0 : 0 ≤ i) (hi : i < (n : Int)) (hn : L.length = n)   : DoesC Tryd.prog 30 [(.pointer (some ⟨1, 0, none⟩)), (.int .u64 b), (.int .i64 i)] (mkH [(LoadFO2 e), (LoadFO1 S), (LoadFO3 old b n), .ints .u64 L 22 true]).low (.tuple #[(.int .u64 (L.getD (0 + ((Int.toNat i) * 1)) 0)), (.int .i64 0)]) (KH.low ⟨4, 1, [(0, 0, (LoadFO2 e)), (1, 0, (LoadFO1 S)), (2, 0, (LoadFO3 old b n)), (3, 0, .ints .u64 L 22 true)]⟩) :=
  tree_does fitAr SoundC.no AgreeT.no (by kernel_rfl) ((LoadF_t b i e S old n L).trans (by rw [condT (beq_self_eq_true _), condF (decide_eq_false (by (first | omega | ((try simp (disch := omega) only [wrap_i64_id]) <;> omega)))), condF (decide_eq_false (by (first | omega | ((try simp (disch := omega) only [wrap_i64_id]) <;> omega)))), if_pos (⟨by omega, by omega⟩), obind_at (k := 0 + ((Int.toNat i) * 1)) (by omega) (by omega)]))
noncomputable abbrev StoreNO0 (e : TypeId) : KObj := .cells [(.int .i64 1), (.int .i64 64), (.int .i64 1), (.int .i64 64)] e false
theorem StoreN_t (b i v : Int) (e : TypeId) (S : ArSt) (old : List MapEntry) : runK Tryd.prog cfgAr fsAr noT 30 40 31 [(.pointer (some ⟨1, 0, none⟩)), (.int .u64 b), (.int .i64 i), (.int .u64 v)] (mkH [(StoreNO0 e), .cells [(.int .i64 S.cells), (.int .i64 S.used), (.int .i64 S.faults), (.int .u64 S.last), (.map (some 2))] 80 true, .pmap old (.int .u64 b) none]) bothK =
  bif (b == b) then
    some ((.int .i64 13), ⟨3, 2, [(0, 0, (StoreNO0 e)), (1, 1, .cells [(.int .i64 S.cells), (.int .i64 S.used), (.int .i64 (IntKind.wrap .i64 (S.faults + 1))), (.int .u64 S.last), (.map (some 2))] 80 true), (2, 0, .pmap old (.int .u64 b) none)]⟩)
  else
    none := by kernel_rfl
theorem StoreN0 {b i v : Int} {e : TypeId} {S : ArSt} {old : List MapEntry}   : DoesC Tryd.prog 31 [(.pointer (some ⟨1, 0, none⟩)), (.int .u64 b), (.int .i64 i), (.int .u64 v)] (mkH [(StoreNO0 e), .cells [(.int .i64 S.cells), (.int .i64 S.used), (.int .i64 S.faults), (.int .u64 S.last), (.map (some 2))] 80 true, .pmap old (.int .u64 b) none]).low (.int .i64 13) (KH.low ⟨3, 2, [(0, 0, (StoreNO0 e)), (1, 1, .cells [(.int .i64 S.cells), (.int .i64 S.used), (.int .i64 (IntKind.wrap .i64 (S.faults + 1))), (.int .u64 S.last), (.map (some 2))] 80 true), (2, 0, .pmap old (.int .u64 b) none)]⟩) :=
  tree_does fitAr SoundC.no AgreeT.no (by kernel_rfl) ((StoreN_t b i v e S old).trans (by rw [condT (beq_self_eq_true _)]))
noncomputable abbrev StoreFO0 (S : ArSt) : KObj := .cells [(.int .i64 S.cells), (.int .i64 S.used), (.int .i64 (IntKind.wrap .i64 (S.faults + 1))), (.int .u64 S.last), (.map (some 2))] 80 true
noncomputable abbrev StoreFO1 (S : ArSt) : KObj := .cells [(.int .i64 S.cells), (.int .i64 S.used), (.int .i64 S.faults), (.int .u64 S.last), (.map (some 2))] 80 true
noncomputable abbrev StoreFO2 (e : TypeId) : KObj := .cells [(.int .i64 1), (.int .i64 64), (.int .i64 1), (.int .i64 64)] e false
noncomputable abbrev StoreFO3 (old : List MapEntry) (b : Int) (n : Nat) : KObj := .pmap old (.int .u64 b) (some (.slice (some ⟨3, 0, none⟩) n n))
theorem StoreF_t (b i v : Int) (e : TypeId) (S : ArSt) (old : List MapEntry) (n : Nat) (L : List Int) : runK Tryd.prog cfgAr fsAr noT 30 40 31 [(.pointer (some ⟨1, 0, none⟩)), (.int .u64 b), (.int .i64 i), (.int .u64 v)] (mkH [(StoreFO2 e), (StoreFO1 S), (StoreFO3 old b n), .ints .u64 L 22 true]) bothK =
  bif (b == b) then
    bif (decide (i < 0)) then
      some ((.int .i64 14), ⟨4, 2, [(0, 0, (StoreFO2 e)), (1, 1, (StoreFO0 S)), (2, 0, (StoreFO3 old b n)), (3, 0, .ints .u64 L 22 true)]⟩)
    else
      bif (decide (i ≥ ((n : Nat) : Int))) then
        some ((.int .i64 14), ⟨4, 2, [(0, 0, (StoreFO2 e)), (1, 1, (StoreFO0 S)), (2, 0, (StoreFO3 old b n)), (3, 0, .ints .u64 L 22 true)]⟩)
      else
        if 0 ≤ i ∧ i < ((n : Nat) : Int) then
          bif (Nat.ble ((0 + ((Int.toNat i) * 1)) + 1) (List.length L)) then
            some ((.int .i64 0), ⟨4, 2, [(0, 0, (StoreFO2 e)), (1, 0, (StoreFO1 S)), (2, 0, (StoreFO3 old b n)), (3, 1, .ints .u64 (List.set L (0 + ((Int.toNat i) * 1)) v) 22 true)]⟩)
          else
            none
        else
          none
  else
    none := by kernel_rfl
theorem StoreFl {b i v : Int} {e : TypeId} {S : ArSt} {old : List MapEntry} {n : Nat} {L : List Int} (hi : i < 0)   : DoesC Tryd.prog 31 [(.pointer (some ⟨1, 0, none⟩)), (.int .u64 b), (.int .i64 i), (.int .u64 v)] (mkH [(StoreFO2 e), (StoreFO1 S), (StoreFO3 old b n), .ints .u64 L 22 true]).low (.int .i64 14) (KH.low ⟨4, 2, [(0, 0, (StoreFO2 e)), (1, 1, (StoreFO0 S)), (2, 0, (StoreFO3 old b n)), (3, 0, .ints .u64 L 22 true)]⟩) :=
  tree_does fitAr SoundC.no AgreeT.no (by kernel_rfl) ((StoreF_t b i v e S old n L).trans (by rw [condT (beq_self_eq_true _), condT (decide_eq_true (by (first | omega | ((try simp (disch := omega) only [wrap_i64_id]) <;> omega))))]))
theorem StoreFg {b i v : Int} {e : TypeId} {S : ArSt} {old : List MapEntry} {n : Nat} {L : List Int} (hi : (n : Int) ≤ i) (h0 : 0 ≤ i)   : DoesC Tryd.prog 31 [(.pointer (some ⟨1, 0, none⟩)), (.int .u64 b), (.int .i64 i), (.int .u64 v)] (mkH [(StoreFO2 e), (StoreFO1 S), (StoreFO3 old b n), .ints .u64 L 22 true]).low (.int .i64 14) (KH.low ⟨4, 2, [(0, 0, (StoreFO2 e)), (1, 1, (StoreFO0 S)), (2, 0, (StoreFO3 old b n)), (3, 0, .ints .u64 L 22 true)]⟩) :=
  tree_does fitAr SoundC.no AgreeT.no (by kernel_rfl) ((StoreF_t b i v e S old n L).trans (by rw [condT (beq_self_eq_true _), condF (decide_eq_false (by (first | omega | ((try simp (disch := omega) only [wrap_i64_id]) <;> omega)))), condT (decide_eq_true (by (first | omega | ((try simp (disch := omega) only [wrap_i64_id]) <;> omega))))]))
theorem StoreFk {b i v : Int} {e : TypeId} {S : ArSt} {old : List MapEntry} {n : Nat} {L : List Int} (h0 : 0 ≤ i) (hi : i < (n : Int)) (hn : L.length = n)   : DoesC Tryd.prog 31 [(.pointer (some ⟨1, 0, none⟩)), (.int .u64 b), (.int .i64 i), (.int .u64 v)] (mkH [(StoreFO2 e), (StoreFO1 S), (StoreFO3 old b n), .ints .u64 L 22 true]).low (.int .i64 0) (KH.low ⟨4, 2, [(0, 0, (StoreFO2 e)), (1, 0, (StoreFO1 S)), (2, 0, (StoreFO3 old b n)), (3, 1, .ints .u64 (List.set L (0 + ((Int.toNat i) * 1)) v) 22 true)]⟩) :=
  tree_does fitAr SoundC.no AgreeT.no (by kernel_rfl) ((StoreF_t b i v e S old n L).trans (by rw [condT (beq_self_eq_true _), condF (decide_eq_false (by (first | omega | ((try simp (disch := omega) only [wrap_i64_id]) <;> omega)))), condF (decide_eq_false (by (first | omega | ((try simp (disch := omega) only [wrap_i64_id]) <;> omega)))), if_pos (⟨by omega, by omega⟩), condT (ble_t (by (first | omega | ((try simp (disch := omega) only [wrap_i64_id]) <;> omega))))]))
noncomputable abbrev CasNO0 (e : TypeId) : KObj := .cells [(.int .i64 1), (.int .i64 64), (.int .i64 1), (.int .i64 64)] e false
theorem CasN_t (b i o v : Int) (e : TypeId) (S : ArSt) (old : List MapEntry) : runK Tryd.prog cfgAr fsAr noT 30 40 32 [(.pointer (some ⟨1, 0, none⟩)), (.int .u64 b), (.int .i64 i), (.int .u64 o), (.int .u64 v)] (mkH [(CasNO0 e), .cells [(.int .i64 S.cells), (.int .i64 S.used), (.int .i64 S.faults), (.int .u64 S.last), (.map (some 2))] 80 true, .pmap old (.int .u64 b) none]) bothK =
  bif (b == b) then
    some ((.tuple #[(.int .u64 0), (.int .i64 13)]), ⟨3, 2, [(0, 0, (CasNO0 e)), (1, 1, .cells [(.int .i64 S.cells), (.int .i64 S.used), (.int .i64 (IntKind.wrap .i64 (S.faults + 1))), (.int .u64 S.last), (.map (some 2))] 80 true), (2, 0, .pmap old (.int .u64 b) none)]⟩)
  else
    none := by kernel_rfl
theorem CasN0 {b i o v : Int} {e : TypeId} {S : ArSt} {old : List MapEntry}   : DoesC Tryd.prog 32 [(.pointer (some ⟨1, 0, none⟩)), (.int .u64 b), (.int .i64 i), (.int .u64 o), (.int .u64 v)] (mkH [(CasNO0 e), .cells [(.int .i64 S.cells), (.int .i64 S.used), (.int .i64 S.faults), (.int .u64 S.last), (.map (some 2))] 80 true, .pmap old (.int .u64 b) none]).low (.tuple #[(.int .u64 0), (.int .i64 13)]) (KH.low ⟨3, 2, [(0, 0, (CasNO0 e)), (1, 1, .cells [(.int .i64 S.cells), (.int .i64 S.used), (.int .i64 (IntKind.wrap .i64 (S.faults + 1))), (.int .u64 S.last), (.map (some 2))] 80 true), (2, 0, .pmap old (.int .u64 b) none)]⟩) :=
  tree_does fitAr SoundC.no AgreeT.no (by kernel_rfl) ((CasN_t b i o v e S old).trans (by rw [condT (beq_self_eq_true _)]))
noncomputable abbrev CasFO0 (S : ArSt) : KObj := .cells [(.int .i64 S.cells), (.int .i64 S.used), (.int .i64 (IntKind.wrap .i64 (S.faults + 1))), (.int .u64 S.last), (.map (some 2))] 80 true
noncomputable abbrev CasFO1 (S : ArSt) : KObj := .cells [(.int .i64 S.cells), (.int .i64 S.used), (.int .i64 S.faults), (.int .u64 S.last), (.map (some 2))] 80 true
noncomputable abbrev CasFO2 (e : TypeId) : KObj := .cells [(.int .i64 1), (.int .i64 64), (.int .i64 1), (.int .i64 64)] e false
noncomputable abbrev CasFO3 (old : List MapEntry) (b : Int) (n : Nat) : KObj := .pmap old (.int .u64 b) (some (.slice (some ⟨3, 0, none⟩) n n))
theorem CasF_t (b i o v : Int) (e : TypeId) (S : ArSt) (old : List MapEntry) (n : Nat) (L : List Int) : runK Tryd.prog cfgAr fsAr noT 30 40 32 [(.pointer (some ⟨1, 0, none⟩)), (.int .u64 b), (.int .i64 i), (.int .u64 o), (.int .u64 v)] (mkH [(CasFO2 e), (CasFO1 S), (CasFO3 old b n), .ints .u64 L 22 true]) bothK =
  bif (b == b) then
    bif (decide (i < 0)) then
      some ((.tuple #[(.int .u64 0), (.int .i64 14)]), ⟨4, 2, [(0, 0, (CasFO2 e)), (1, 1, (CasFO0 S)), (2, 0, (CasFO3 old b n)), (3, 0, .ints .u64 L 22 true)]⟩)
    else
      bif (decide (i ≥ ((n : Nat) : Int))) then
        some ((.tuple #[(.int .u64 0), (.int .i64 14)]), ⟨4, 2, [(0, 0, (CasFO2 e)), (1, 1, (CasFO0 S)), (2, 0, (CasFO3 old b n)), (3, 0, .ints .u64 L 22 true)]⟩)
      else
        if 0 ≤ i ∧ i < ((n : Nat) : Int) then
          obind (L[(0 + ((Int.toNat i) * 1))]?) fun n1 =>
            bif (n1 == o) then
              bif (Nat.ble ((0 + ((Int.toNat i) * 1)) + 1) (List.length L)) then
                some ((.tuple #[(.int .u64 n1), (.int .i64 0)]), ⟨4, 2, [(0, 0, (CasFO2 e)), (1, 0, (CasFO1 S)), (2, 0, (CasFO3 old b n)), (3, 1, .ints .u64 (List.set L (0 + ((Int.toNat i) * 1)) v) 22 true)]⟩)
              else
                none
            else
              some ((.tuple #[(.int .u64 n1), (.int .i64 0)]), ⟨4, 1, [(0, 0, (CasFO2 e)), (1, 0, (CasFO1 S)), (2, 0, (CasFO3 old b n)), (3, 0, .ints .u64 L 22 true)]⟩)
        else
          none
  else
    none := by kernel_rfl
theorem CasFl {b i o v : Int} {e : TypeId} {S : ArSt} {old : List MapEntry} {n : Nat} {L : List Int} (hi : i < 0)   : DoesC Tryd.prog 32 [(.pointer (some ⟨1, 0, none⟩)), (.int .u64 b), (.int .i64 i), (.int .u64 o), (.int .u64 v)] (mkH [(CasFO2 e), (CasFO1 S), (CasFO3 old b n), .ints .u64 L 22 true]).low (.tuple #[(.int .u64 0), (.int .i64 14)]) (KH.low ⟨4, 2, [(0, 0, (CasFO2 e)), (1, 1, (CasFO0 S)), (2, 0, (CasFO3 old b n)), (3, 0, .ints .u64 L 22 true)]⟩) :=
  tree_does fitAr SoundC.no AgreeT.no (by kernel_rfl) ((CasF_t b i o v e S old n L).trans (by rw [condT (beq_self_eq_true _), condT (decide_eq_true (by (first | omega | ((try simp (disch := omega) only [wrap_i64_id]) <;> omega))))]))
theorem CasFg {b i o v : Int} {e : TypeId} {S : ArSt} {old : List MapEntry} {n : Nat} {L : List Int} (hi : (n : Int) ≤ i) (h0 : 0 ≤ i)   : DoesC Tryd.prog 32 [(.pointer (some ⟨1, 0, none⟩)), (.int .u64 b), (.int .i64 i), (.int .u64 o), (.int .u64 v)] (mkH [(CasFO2 e), (CasFO1 S), (CasFO3 old b n), .ints .u64 L 22 true]).low (.tuple #[(.int .u64 0), (.int .i64 14)]) (KH.low ⟨4, 2, [(0, 0, (CasFO2 e)), (1, 1, (CasFO0 S)), (2, 0, (CasFO3 old b n)), (3, 0, .ints .u64 L 22 true)]⟩) :=
  tree_does fitAr SoundC.no AgreeT.no (by kernel_rfl) ((CasF_t b i o v e S old n L).trans (by rw [condT (beq_self_eq_true _), condF (decide_eq_false (by (first | omega | ((try simp (disch := omega) only [wrap_i64_id]) <;> omega)))), condT (decide_eq_true (by (first | omega | ((try simp (disch := omega) only [wrap_i64_id]) <;> omega))))]))
theorem CasF1 {b i o v : Int} {e : TypeId} {S : ArSt} {old : List MapEntry} {n : Nat} {L : List Int} (h0 : 0 ≤ i) (hi : i < (n : Int)) (hn : L.length = n) (hw : L.getD (0 + ((Int.toNat i) * 1)) 0 = o)   : DoesC Tryd.prog 32 [(.pointer (some ⟨1, 0, none⟩)), (.int .u64 b), (.int .i64 i), (.int .u64 o), (.int .u64 v)] (mkH [(CasFO2 e), (CasFO1 S), (CasFO3 old b n), .ints .u64 L 22 true]).low (.tuple #[(.int .u64 (L.getD (0 + ((Int.toNat i) * 1)) 0)), (.int .i64 0)]) (KH.low ⟨4, 2, [(0, 0, (CasFO2 e)), (1, 0, (CasFO1 S)), (2, 0, (CasFO3 old b n)), (3, 1, .ints .u64 (List.set L (0 + ((Int.toNat i) * 1)) v) 22 true)]⟩) :=
  tree_does fitAr SoundC.no AgreeT.no (by kernel_rfl) ((CasF_t b i o v e S old n L).trans (by rw [condT (beq_self_eq_true _), condF (decide_eq_false (by (first | omega | ((try simp (disch := omega) only [wrap_i64_id]) <;> omega)))), condF (decide_eq_false (by (first | omega | ((try simp (disch := omega) only [wrap_i64_id]) <;> omega)))), if_pos (⟨by omega, by omega⟩), obind_at (k := 0 + ((Int.toNat i) * 1)) (by omega) (by omega), condT (ibeq_t (by (first | omega | ((try simp (disch := omega) only [wrap_i64_id]) <;> omega)))), condT (ble_t (by (first | omega | ((try simp (disch := omega) only [wrap_i64_id]) <;> omega))))]))
theorem CasF2 {b i o v : Int} {e : TypeId} {S : ArSt} {old : List MapEntry} {n : Nat} {L : List Int} (h0 : 0 ≤ i) (hi : i < (n : Int)) (hn : L.length = n) (hw : ¬ L.getD (0 + ((Int.toNat i) * 1)) 0 = o)   : DoesC Tryd.prog 32 [(.pointer (some ⟨1, 0, none⟩)), (.int .u64 b), (.int .i64 i), (.int .u64 o), (.int .u64 v)] (mkH [(CasFO2 e), (CasFO1 S), (CasFO3 old b n), .ints .u64 L 22 true]).low (.tuple #[(.int .u64 (L.getD (0 + ((Int.toNat i) * 1)) 0)), (.int .i64 0)]) (KH.low ⟨4, 1, [(0, 0, (CasFO2 e)), (1, 0, (CasFO1 S)), (2, 0, (CasFO3 old b n)), (3, 0, .ints .u64 L 22 true)]⟩) :=
  tree_does fitAr SoundC.no AgreeT.no (by kernel_rfl) ((CasF_t b i o v e S old n L).trans (by rw [condT (beq_self_eq_true _), condF (decide_eq_false (by (first | omega | ((try simp (disch := omega) only [wrap_i64_id]) <;> omega)))), condF (decide_eq_false (by (first | omega | ((try simp (disch := omega) only [wrap_i64_id]) <;> omega)))), if_pos (⟨by omega, by omega⟩), obind_at (k := 0 + ((Int.toNat i) * 1)) (by omega) (by omega), condF (ibeq_f (by (first | omega | ((try simp (disch := omega) only [wrap_i64_id]) <;> omega))))]))
noncomputable abbrev AddNO0 (e : TypeId) : KObj := .cells [(.int .i64 1), (.int .i64 64), (.int .i64 1), (.int .i64 64)] e false
theorem AddN_t (b i d : Int) (e : TypeId) (S : ArSt) (old : List MapEntry) : runK Tryd.prog cfgAr fsAr noT 30 40 33 [(.pointer (some ⟨1, 0, none⟩)), (.int .u64 b), (.int .i64 i), (.int .u64 d)] (mkH [(AddNO0 e), .cells [(.int .i64 S.cells), (.int .i64 S.used), (.int .i64 S.faults), (.int .u64 S.last), (.map (some 2))] 80 true, .pmap old (.int .u64 b) none]) bothK =
  bif (b == b) then
    some ((.tuple #[(.int .u64 0), (.int .i64 13)]), ⟨3, 2, [(0, 0, (AddNO0 e)), (1, 1, .cells [(.int .i64 S.cells), (.int .i64 S.used), (.int .i64 (IntKind.wrap .i64 (S.faults + 1))), (.int .u64 S.last), (.map (some 2))] 80 true), (2, 0, .pmap old (.int .u64 b) none)]⟩)
  else
    none := by kernel_rfl
theorem AddN0 {b i d : Int} {e : TypeId} {S : ArSt} {old : List MapEntry}   : DoesC Tryd.prog 33 [(.pointer (some ⟨1, 0, none⟩)), (.int .u64 b), (.int .i64 i), (.int .u64 d)] (mkH [(AddNO0 e), .cells [(.int .i64 S.cells), (.int .i64 S.used), (.int .i64 S.faults), (.int .u64 S.last), (.map (some 2))] 80 true, .pmap old (.int .u64 b) none]).low (.tuple #[(.int .u64 0), (.int .i64 13)]) (KH.low ⟨3, 2, [(0, 0, (AddNO0 e)), (1, 1, .cells [(.int .i64 S.cells), (.int .i64 S.used), (.int .i64 (IntKind.wrap .i64 (S.faults + 1))), (.int .u64 S.last), (.map (some 2))] 80 true), (2, 0, .pmap old (.int .u64 b) none)]⟩) :=
  tree_does fitAr SoundC.no AgreeT.no (by kernel_rfl) ((AddN_t b i d e S old).trans (by rw [condT (beq_self_eq_true _)]))
noncomputable abbrev AddFO0 (S : ArSt) : KObj := .cells [(.int .i64 S.cells), (.int .i64 S.used), (.int .i64 (IntKind.wrap .i64 (S.faults + 1))), (.int .u64 S.last), (.map (some 2))] 80 true
noncomputable abbrev AddFO1 (S : ArSt) : KObj := .cells [(.int .i64 S.cells), (.int .i64 S.used), (.int .i64 S.faults), (.int .u64 S.last), (.map (some 2))] 80 true
noncomputable abbrev AddFO2 (e : TypeId) : KObj := .cells [(.int .i64 1), (.int .i64 64), (.int .i64 1), (.int .i64 64)] e false
noncomputable abbrev AddFO3 (old : List MapEntry) (b : Int) (n : Nat) : KObj := .pmap old (.int .u64 b) (some (.slice (some ⟨3, 0, none⟩) n n))
theorem AddF_t (b i d : Int) (e : TypeId) (S : ArSt) (old : List MapEntry) (n : Nat) (L : List Int) : runK Tryd.prog cfgAr fsAr noT 30 40 33 [(.pointer (some ⟨1, 0, none⟩)), (.int .u64 b), (.int .i64 i), (.int .u64 d)] (mkH [(AddFO2 e), (AddFO1 S), (AddFO3 old b n), .ints .u64 L 22 true]) bothK =
  bif (b == b) then
    bif (decide (i < 0)) then
      some ((.tuple #[(.int .u64 0), (.int .i64 14)]), ⟨4, 2, [(0, 0, (AddFO2 e)), (1, 1, (AddFO0 S)), (2, 0, (AddFO3 old b n)), (3, 0, .ints .u64 L 22 true)]⟩)
    else
      bif (decide (i ≥ ((n : Nat) : Int))) then
        some ((.tuple #[(.int .u64 0), (.int .i64 14)]), ⟨4, 2, [(0, 0, (AddFO2 e)), (1, 1, (AddFO0 S)), (2, 0, (AddFO3 old b n)), (3, 0, .ints .u64 L 22 true)]⟩)
      else
        if 0 ≤ i ∧ i < ((n : Nat) : Int) then
          obind (L[(0 + ((Int.toNat i) * 1))]?) fun n1 =>
            obind (L[(0 + ((Int.toNat i) * 1))]?) fun n2 =>
              bif (Nat.ble ((0 + ((Int.toNat i) * 1)) + 1) (List.length L)) then
                some ((.tuple #[(.int .u64 n1), (.int .i64 0)]), ⟨4, 2, [(0, 0, (AddFO2 e)), (1, 0, (AddFO1 S)), (2, 0, (AddFO3 old b n)), (3, 1, .ints .u64 (List.set L (0 + ((Int.toNat i) * 1)) (IntKind.wrap .u64 (n2 + d))) 22 true)]⟩)
              else
                none
        else
          none
  else
    none := by kernel_rfl
theorem AddFl {b i d : Int} {e : TypeId} {S : ArSt} {old : List MapEntry} {n : Nat} {L : List Int} (hi : i < 0)   : DoesC Tryd.prog 33 [(.pointer (some ⟨1, 0, none⟩)), (.int .u64 b), (.int .i64 i), (.int .u64 d)] (mkH [(AddFO2 e), (AddFO1 S), (AddFO3 old b n), .ints .u64 L 22 true]).low (.tuple #[(.int .u64 0), (.int .i64 14)]) (KH.low ⟨4, 2, [(0, 0, (AddFO2 e)), (1, 1, (AddFO0 S)), (2, 0, (AddFO3 old b n)), (3, 0, .ints .u64 L 22 true)]⟩) :=
  tree_does fitAr SoundC.no AgreeT.no (by kernel_rfl) ((AddF_t b i d e S old n L).trans (by rw [condT (beq_self_eq_true _), condT (decide_eq_true (by (first | omega | ((try simp (disch := omega) only [wrap_i64_id]) <;> omega))))]))
theorem AddFg {b i d : Int} {e : TypeId} {S : ArSt} {old : List MapEntry} {n : Nat} {L : List Int} (hi : (n : Int) ≤ i) (h0 : 0 ≤ i)   : DoesC Tryd.prog 33 [(.pointer (some ⟨1, 0, none⟩)), (.int .u64 b), (.int .i64 i), (.int .u64 d)] (mkH [(AddFO2 e), (AddFO1 S), (AddFO3 old b n), .ints .u64 L 22 true]).low (.tuple #[(.int .u64 0), (.int .i64 14)]) (KH.low ⟨4, 2, [(0, 0, (AddFO2 e)), (1, 1, (AddFO0 S)), (2, 0, (AddFO3 old b n)), (3, 0, .ints .u64 L 22 true)]⟩) :=
  tree_does fitAr SoundC.no AgreeT.no (by kernel_rfl) ((AddF_t b i d e S old n L).trans (by rw [condT (beq_self_eq_true _), condF (decide_eq_false (by (first | omega | ((try simp (disch := omega) only [wrap_i64_id]) <;> omega)))), condT (decide_eq_true (by (first | omega | ((try simp (disch := omega) only [wrap_i64_id]) <;> omega))))]))
theorem AddFk {b i d : Int} {e : TypeId} {S : ArSt} {old : List MapEntry} {n : Nat} {L : List Int} (h0 : 0 ≤ i) (hi : i < (n : Int)) (hn : L.length = n)   : DoesC Tryd.prog 33 [(.pointer (some ⟨1, 0, none⟩)), (.int .u64 b), (.int .i64 i), (.int .u64 d)] (mkH [(AddFO2 e), (AddFO1 S), (AddFO3 old b n), .ints .u64 L 22 true]).low (.tuple #[(.int .u64 (L.getD (0 + ((Int.toNat i) * 1)) 0)), (.int .i64 0)]) (KH.low ⟨4, 2, [(0, 0, (AddFO2 e)), (1, 0, (AddFO1 S)), (2, 0, (AddFO3 old b n)), (3, 1, .ints .u64 (List.set L (0 + ((Int.toNat i) * 1)) (IntKind.wrap .u64 ((L.getD (0 + ((Int.toNat i) * 1)) 0) + d))) 22 true)]⟩) :=
  tree_does fitAr SoundC.no AgreeT.no (by kernel_rfl) ((AddF_t b i d e S old n L).trans (by rw [condT (beq_self_eq_true _), condF (decide_eq_false (by (first | omega | ((try simp (disch := omega) only [wrap_i64_id]) <;> omega)))), condF (decide_eq_false (by (first | omega | ((try simp (disch := omega) only [wrap_i64_id]) <;> omega)))), if_pos (⟨by omega, by omega⟩), obind_at (k := 0 + ((Int.toNat i) * 1)) (by omega) (by omega), obind_at (k := 0 + ((Int.toNat i) * 1)) (by omega) (by omega), condT (ble_t (by (first | omega | ((try simp (disch := omega) only [wrap_i64_id]) <;> omega))))]))
noncomputable abbrev AllocNO0 (S : ArSt) : KObj := .cells [(.int .i64 S.cells), (.int .i64 S.used), (.int .i64 S.faults), (.int .u64 S.last), (.map (some 2))] 80 true
noncomputable abbrev AllocNO1 (e : TypeId) : KObj := .cells [(.int .i64 1), (.int .i64 64), (.int .i64 1), (.int .i64 64)] e false
theorem AllocN_t (i : Int) (e : TypeId) (S : ArSt) (old : List MapEntry) : runK Tryd.prog cfgAr fsAr noT 30 40 27 [(.pointer (some ⟨1, 0, none⟩)), (.int .i64 i)] (mkH [(AllocNO1 e), (AllocNO0 S), .pmap old (.int .u64 (IntKind.wrap .u64 (S.last + 1))) none]) bothK =
  bif (decide (i < 1)) then
    some ((.int .u64 0), ⟨3, 1, [(0, 0, (AllocNO1 e)), (1, 0, (AllocNO0 S)), (2, 0, .pmap old (.int .u64 (IntKind.wrap .u64 (S.last + 1))) none)]⟩)
  else
    bif (decide (i > (IntKind.wrap .i64 (S.cells - S.used)))) then
      some ((.int .u64 0), ⟨3, 1, [(0, 0, (AllocNO1 e)), (1, 0, (AllocNO0 S)), (2, 0, .pmap old (.int .u64 (IntKind.wrap .u64 (S.last + 1))) none)]⟩)
    else
      if 0 ≤ i ∧ i ≤ i ∧ ((8 : Int) * i) ≤ 1099511627776 ∧ i ≤ 1099511627776 then
        bif ((IntKind.wrap .u64 (S.last + 1)) == (IntKind.wrap .u64 (S.last + 1))) then
          some ((.int .u64 (IntKind.wrap .u64 (S.last + 1))), ⟨4, 5, [(3, 3, .ints .u64 (List.replicate (Int.toNat i) (0 : Int)) 22 true), (0, 0, (AllocNO1 e)), (1, 2, .cells [(.int .i64 S.cells), (.int .i64 (IntKind.wrap .i64 (S.used + i))), (.int .i64 S.faults), (.int .u64 (IntKind.wrap .u64 (S.last + 1))), (.map (some 2))] 80 true), (2, 4, .pmap old (.int .u64 (IntKind.wrap .u64 (S.last + 1))) (some (.slice (some ⟨3, 0, none⟩) (Int.toNat i) (Int.toNat i))))]⟩)
        else
          none
      else
        none := by kernel_rfl
theorem AllocNl {i : Int} {e : TypeId} {S : ArSt} {old : List MapEntry} (hi : i < 1)   : DoesC Tryd.prog 27 [(.pointer (some ⟨1, 0, none⟩)), (.int .i64 i)] (mkH [(AllocNO1 e), (AllocNO0 S), .pmap old (.int .u64 (IntKind.wrap .u64 (S.last + 1))) none]).low (.int .u64 0) (KH.low ⟨3, 1, [(0, 0, (AllocNO1 e)), (1, 0, (AllocNO0 S)), (2, 0, .pmap old (.int .u64 (IntKind.wrap .u64 (S.last + 1))) none)]⟩) :=
  tree_does fitAr SoundC.no AgreeT.no (by kernel_rfl) ((AllocN_t i e S old).trans (by rw [condT (decide_eq_true (by (first | omega | ((try simp (disch := omega) only [wrap_i64_id]) <;> omega))))]))
theorem AllocNg {i : Int} {e : TypeId} {S : ArSt} {old : List MapEntry} (hi : S.cells - S.used < i) (h1 : 1 ≤ i) (hc : S.cells ≤ 65536) (hu : 0 ≤ S.used) (hv : S.used ≤ S.cells)   : DoesC Tryd.prog 27 [(.pointer (some ⟨1, 0, none⟩)), (.int .i64 i)] (mkH [(AllocNO1 e), (AllocNO0 S), .pmap old (.int .u64 (IntKind.wrap .u64 (S.last + 1))) none]).low (.int .u64 0) (KH.low ⟨3, 1, [(0, 0, (AllocNO1 e)), (1, 0, (AllocNO0 S)), (2, 0, .pmap old (.int .u64 (IntKind.wrap .u64 (S.last + 1))) none)]⟩) :=
  tree_does fitAr SoundC.no AgreeT.no (by kernel_rfl) ((AllocN_t i e S old).trans (by rw [condF (decide_eq_false (by (first | omega | ((try simp (disch := omega) only [wrap_i64_id]) <;> omega)))), condT (decide_eq_true (by (first | omega | ((try simp (disch := omega) only [wrap_i64_id]) <;> omega))))]))
theorem AllocNk {i : Int} {e : TypeId} {S : ArSt} {old : List MapEntry} (hi : i ≤ S.cells - S.used) (h1 : 1 ≤ i) (hc : S.cells ≤ 65536) (hu : 0 ≤ S.used) (hv : S.used ≤ S.cells)   : DoesC Tryd.prog 27 [(.pointer (some ⟨1, 0, none⟩)), (.int .i64 i)] (mkH [(AllocNO1 e), (AllocNO0 S), .pmap old (.int .u64 (IntKind.wrap .u64 (S.last + 1))) none]).low (.int .u64 (IntKind.wrap .u64 (S.last + 1))) (KH.low ⟨4, 5, [(3, 3, .ints .u64 (List.replicate (Int.toNat i) (0 : Int)) 22 true), (0, 0, (AllocNO1 e)), (1, 2, .cells [(.int .i64 S.cells), (.int .i64 (IntKind.wrap .i64 (S.used + i))), (.int .i64 S.faults), (.int .u64 (IntKind.wrap .u64 (S.last + 1))), (.map (some 2))] 80 true), (2, 4, .pmap old (.int .u64 (IntKind.wrap .u64 (S.last + 1))) (some (.slice (some ⟨3, 0, none⟩) (Int.toNat i) (Int.toNat i))))]⟩) :=
  tree_does fitAr SoundC.no AgreeT.no (by kernel_rfl) ((AllocN_t i e S old).trans (by rw [condF (decide_eq_false (by (first | omega | ((try simp (disch := omega) only [wrap_i64_id]) <;> omega)))), condF (decide_eq_false (by (first | omega | ((try simp (disch := omega) only [wrap_i64_id]) <;> omega)))), if_pos (by refine ⟨?_, ?_, ?_, ?_⟩ <;> (first | omega | ((try simp (disch := omega) only [wrap_i64_id]) <;> omega))), condT (beq_self_eq_true _)]))
noncomputable abbrev FreeNO0 (e : TypeId) : KObj := .cells [(.int .i64 1), (.int .i64 64), (.int .i64 1), (.int .i64 64)] e false
theorem FreeN_t (b : Int) (e : TypeId) (S : ArSt) (old : List MapEntry) : runK Tryd.prog cfgAr fsAr noT 30 40 34 [(.pointer (some ⟨1, 0, none⟩)), (.int .u64 b)] (mkH [(FreeNO0 e), .cells [(.int .i64 S.cells), (.int .i64 S.used), (.int .i64 S.faults), (.int .u64 S.last), (.map (some 2))] 80 true, .pmap old (.int .u64 b) none]) bothK =
  bif (b == b) then
    some ((.int .i64 13), ⟨3, 2, [(0, 0, (FreeNO0 e)), (1, 1, .cells [(.int .i64 S.cells), (.int .i64 S.used), (.int .i64 (IntKind.wrap .i64 (S.faults + 1))), (.int .u64 S.last), (.map (some 2))] 80 true), (2, 0, .pmap old (.int .u64 b) none)]⟩)
  else
    none := by kernel_rfl
theorem FreeN0 {b : Int} {e : TypeId} {S : ArSt} {old : List MapEntry}   : DoesC Tryd.prog 34 [(.pointer (some ⟨1, 0, none⟩)), (.int .u64 b)] (mkH [(FreeNO0 e), .cells [(.int .i64 S.cells), (.int .i64 S.used), (.int .i64 S.faults), (.int .u64 S.last), (.map (some 2))] 80 true, .pmap old (.int .u64 b) none]).low (.int .i64 13) (KH.low ⟨3, 2, [(0, 0, (FreeNO0 e)), (1, 1, .cells [(.int .i64 S.cells), (.int .i64 S.used), (.int .i64 (IntKind.wrap .i64 (S.faults + 1))), (.int .u64 S.last), (.map (some 2))] 80 true), (2, 0, .pmap old (.int .u64 b) none)]⟩) :=
  tree_does fitAr SoundC.no AgreeT.no (by kernel_rfl) ((FreeN_t b e S old).trans (by rw [condT (beq_self_eq_true _)]))
noncomputable abbrev SizeNO0 (S : ArSt) : KObj := .cells [(.int .i64 S.cells), (.int .i64 S.used), (.int .i64 S.faults), (.int .u64 S.last), (.map (some 2))] 80 true
noncomputable abbrev SizeNO1 (e : TypeId) : KObj := .cells [(.int .i64 1), (.int .i64 64), (.int .i64 1), (.int .i64 64)] e false
theorem SizeN_t (b : Int) (e : TypeId) (S : ArSt) (old : List MapEntry) : runK Tryd.prog cfgAr fsAr noT 30 40 18 [(.pointer (some ⟨1, 0, none⟩)), (.int .u64 b)] (mkH [(SizeNO1 e), (SizeNO0 S), .pmap old (.int .u64 b) none]) bothK =
  bif (b == b) then
    some ((.int .i64 0), ⟨3, 1, [(0, 0, (SizeNO1 e)), (1, 0, (SizeNO0 S)), (2, 0, .pmap old (.int .u64 b) none)]⟩)
  else
    none := by kernel_rfl
theorem SizeN0 {b : Int} {e : TypeId} {S : ArSt} {old : List MapEntry}   : DoesC Tryd.prog 18 [(.pointer (some ⟨1, 0, none⟩)), (.int .u64 b)] (mkH [(SizeNO1 e), (SizeNO0 S), .pmap old (.int .u64 b) none]).low (.int .i64 0) (KH.low ⟨3, 1, [(0, 0, (SizeNO1 e)), (1, 0, (SizeNO0 S)), (2, 0, .pmap old (.int .u64 b) none)]⟩) :=
  tree_does fitAr SoundC.no AgreeT.no (by kernel_rfl) ((SizeN_t b e S old).trans (by rw [condT (beq_self_eq_true _)]))
noncomputable abbrev AllocFO0 (S : ArSt) : KObj := .cells [(.int .i64 S.cells), (.int .i64 S.used), (.int .i64 S.faults), (.int .u64 S.last), (.map (some 2))] 80 true
noncomputable abbrev AllocFO1 (old : List MapEntry) (S : ArSt) (n : Nat) : KObj := .pmap old (.int .u64 (IntKind.wrap .u64 (S.last + 1))) (some (.slice (some ⟨3, 0, none⟩) n n))
noncomputable abbrev AllocFO2 (e : TypeId) : KObj := .cells [(.int .i64 1), (.int .i64 64), (.int .i64 1), (.int .i64 64)] e false
theorem AllocF_t (i : Int) (e : TypeId) (S : ArSt) (old : List MapEntry) (n : Nat) (L : List Int) : runK Tryd.prog cfgAr fsAr noT 30 40 27 [(.pointer (some ⟨1, 0, none⟩)), (.int .i64 i)] (mkH [(AllocFO2 e), (AllocFO0 S), (AllocFO1 old S n), .ints .u64 L 22 true]) bothK =
  bif (decide (i < 1)) then
    some ((.int .u64 0), ⟨4, 1, [(0, 0, (AllocFO2 e)), (1, 0, (AllocFO0 S)), (2, 0, (AllocFO1 old S n)), (3, 0, .ints .u64 L 22 true)]⟩)
  else
    bif (decide (i > (IntKind.wrap .i64 (S.cells - S.used)))) then
      some ((.int .u64 0), ⟨4, 1, [(0, 0, (AllocFO2 e)), (1, 0, (AllocFO0 S)), (2, 0, (AllocFO1 old S n)), (3, 0, .ints .u64 L 22 true)]⟩)
    else
      if 0 ≤ i ∧ i ≤ i ∧ ((8 : Int) * i) ≤ 1099511627776 ∧ i ≤ 1099511627776 then
        bif ((IntKind.wrap .u64 (S.last + 1)) == (IntKind.wrap .u64 (S.last + 1))) then
          some ((.int .u64 (IntKind.wrap .u64 (S.last + 1))), ⟨5, 5, [(4, 3, .ints .u64 (List.replicate (Int.toNat i) (0 : Int)) 22 true), (0, 0, (AllocFO2 e)), (1, 2, .cells [(.int .i64 S.cells), (.int .i64 (IntKind.wrap .i64 (S.used + i))), (.int .i64 S.faults), (.int .u64 (IntKind.wrap .u64 (S.last + 1))), (.map (some 2))] 80 true), (2, 4, .pmap old (.int .u64 (IntKind.wrap .u64 (S.last + 1))) (some (.slice (some ⟨4, 0, none⟩) (Int.toNat i) (Int.toNat i)))), (3, 0, .ints .u64 L 22 true)]⟩)
        else
          none
      else
        none := by kernel_rfl
theorem AllocFl {i : Int} {e : TypeId} {S : ArSt} {old : List MapEntry} {n : Nat} {L : List Int} (hi : i < 1)   : DoesC Tryd.prog 27 [(.pointer (some ⟨1, 0, none⟩)), (.int .i64 i)] (mkH [(AllocFO2 e), (AllocFO0 S), (AllocFO1 old S n), .ints .u64 L 22 true]).low (.int .u64 0) (KH.low ⟨4, 1, [(0, 0, (AllocFO2 e)), (1, 0, (AllocFO0 S)), (2, 0, (AllocFO1 old S n)), (3, 0, .ints .u64 L 22 true)]⟩) :=
  tree_does fitAr SoundC.no AgreeT.no (by kernel_rfl) ((AllocF_t i e S old n L).trans (by rw [condT (decide_eq_true (by (first | omega | ((try simp (disch := omega) only [wrap_i64_id]) <;> omega))))]))
theorem AllocFg {i : Int} {e : TypeId} {S : ArSt} {old : List MapEntry} {n : Nat} {L : List Int} (hi : S.cells - S.used < i) (h1 : 1 ≤ i) (hc : S.cells ≤ 65536) (hu : 0 ≤ S.used) (hv : S.used ≤ S.cells)   : DoesC Tryd.prog 27 [(.pointer (some ⟨1, 0, none⟩)), (.int .i64 i)] (mkH [(AllocFO2 e), (AllocFO0 S), (AllocFO1 old S n), .ints .u64 L 22 true]).low (.int .u64 0) (KH.low ⟨4, 1, [(0, 0, (AllocFO2 e)), (1, 0, (AllocFO0 S)), (2, 0, (AllocFO1 old S n)), (3, 0, .ints .u64 L 22 true)]⟩) :=
  tree_does fitAr SoundC.no AgreeT.no (by kernel_rfl) ((AllocF_t i e S old n L).trans (by rw [condF (decide_eq_false (by (first | omega | ((try simp (disch := omega) only [wrap_i64_id]) <;> omega)))), condT (decide_eq_true (by (first | omega | ((try simp (disch := omega) only [wrap_i64_id]) <;> omega))))]))
theorem AllocFk {i : Int} {e : TypeId} {S : ArSt} {old : List MapEntry} {n : Nat} {L : List Int} (hi : i ≤ S.cells - S.used) (h1 : 1 ≤ i) (hc : S.cells ≤ 65536) (hu : 0 ≤ S.used) (hv : S.used ≤ S.cells)   : DoesC Tryd.prog 27 [(.pointer (some ⟨1, 0, none⟩)), (.int .i64 i)] (mkH [(AllocFO2 e), (AllocFO0 S), (AllocFO1 old S n), .ints .u64 L 22 true]).low (.int .u64 (IntKind.wrap .u64 (S.last + 1))) (KH.low ⟨5, 5, [(4, 3, .ints .u64 (List.replicate (Int.toNat i) (0 : Int)) 22 true), (0, 0, (AllocFO2 e)), (1, 2, .cells [(.int .i64 S.cells), (.int .i64 (IntKind.wrap .i64 (S.used + i))), (.int .i64 S.faults), (.int .u64 (IntKind.wrap .u64 (S.last + 1))), (.map (some 2))] 80 true), (2, 4, .pmap old (.int .u64 (IntKind.wrap .u64 (S.last + 1))) (some (.slice (some ⟨4, 0, none⟩) (Int.toNat i) (Int.toNat i)))), (3, 0, .ints .u64 L 22 true)]⟩) :=
  tree_does fitAr SoundC.no AgreeT.no (by kernel_rfl) ((AllocF_t i e S old n L).trans (by rw [condF (decide_eq_false (by (first | omega | ((try simp (disch := omega) only [wrap_i64_id]) <;> omega)))), condF (decide_eq_false (by (first | omega | ((try simp (disch := omega) only [wrap_i64_id]) <;> omega)))), if_pos (by refine ⟨?_, ?_, ?_, ?_⟩ <;> (first | omega | ((try simp (disch := omega) only [wrap_i64_id]) <;> omega))), condT (beq_self_eq_true _)]))
noncomputable abbrev FreeFO0 (e : TypeId) : KObj := .cells [(.int .i64 1), (.int .i64 64), (.int .i64 1), (.int .i64 64)] e false
theorem FreeF_t (b : Int) (e : TypeId) (S : ArSt) (old : List MapEntry) (n : Nat) (L : List Int) : runK Tryd.prog cfgAr fsAr noT 30 40 34 [(.pointer (some ⟨1, 0, none⟩)), (.int .u64 b)] (mkH [(FreeFO0 e), .cells [(.int .i64 S.cells), (.int .i64 S.used), (.int .i64 S.faults), (.int .u64 S.last), (.map (some 2))] 80 true, .pmap old (.int .u64 b) (some (.slice (some ⟨3, 0, none⟩) n n)), .ints .u64 L 22 true]) bothK =
  bif (b == b) then
    bif (b == b) then
      some ((.int .i64 0), ⟨4, 3, [(0, 0, (FreeFO0 e)), (1, 1, .cells [(.int .i64 S.cells), (.int .i64 (IntKind.wrap .i64 (S.used - ((n : Nat) : Int)))), (.int .i64 S.faults), (.int .u64 S.last), (.map (some 2))] 80 true), (2, 2, .pmap old (.int .u64 b) none), (3, 0, .ints .u64 L 22 true)]⟩)
    else
      none
  else
    none := by kernel_rfl
theorem FreeF0 {b : Int} {e : TypeId} {S : ArSt} {old : List MapEntry} {n : Nat} {L : List Int}   : DoesC Tryd.prog 34 [(.pointer (some ⟨1, 0, none⟩)), (.int .u64 b)] (mkH [(FreeFO0 e), .cells [(.int .i64 S.cells), (.int .i64 S.used), (.int .i64 S.faults), (.int .u64 S.last), (.map (some 2))] 80 true, .pmap old (.int .u64 b) (some (.slice (some ⟨3, 0, none⟩) n n)), .ints .u64 L 22 true]).low (.int .i64 0) (KH.low ⟨4, 3, [(0, 0, (FreeFO0 e)), (1, 1, .cells [(.int .i64 S.cells), (.int .i64 (IntKind.wrap .i64 (S.used - ((n : Nat) : Int)))), (.int .i64 S.faults), (.int .u64 S.last), (.map (some 2))] 80 true), (2, 2, .pmap old (.int .u64 b) none), (3, 0, .ints .u64 L 22 true)]⟩) :=
  tree_does fitAr SoundC.no AgreeT.no (by kernel_rfl) ((FreeF_t b e S old n L).trans (by rw [condT (beq_self_eq_true _), condT (beq_self_eq_true _)]))
noncomputable abbrev SizeFO0 (S : ArSt) : KObj := .cells [(.int .i64 S.cells), (.int .i64 S.used), (.int .i64 S.faults), (.int .u64 S.last), (.map (some 2))] 80 true
noncomputable abbrev SizeFO1 (e : TypeId) : KObj := .cells [(.int .i64 1), (.int .i64 64), (.int .i64 1), (.int .i64 64)] e false
theorem SizeF_t (b : Int) (e : TypeId) (S : ArSt) (old : List MapEntry) (n : Nat) (L : List Int) : runK Tryd.prog cfgAr fsAr noT 30 40 18 [(.pointer (some ⟨1, 0, none⟩)), (.int .u64 b)] (mkH [(SizeFO1 e), (SizeFO0 S), .pmap old (.int .u64 b) (some (.slice (some ⟨3, 0, none⟩) n n)), .ints .u64 L 22 true]) bothK =
  bif (b == b) then
    some ((.int .i64 ((n : Nat) : Int)), ⟨4, 1, [(0, 0, (SizeFO1 e)), (1, 0, (SizeFO0 S)), (2, 0, .pmap old (.int .u64 b) (some (.slice (some ⟨3, 0, none⟩) n n))), (3, 0, .ints .u64 L 22 true)]⟩)
  else
    none := by kernel_rfl
theorem SizeF0 {b : Int} {e : TypeId} {S : ArSt} {old : List MapEntry} {n : Nat} {L : List Int}   : DoesC Tryd.prog 18 [(.pointer (some ⟨1, 0, none⟩)), (.int .u64 b)] (mkH [(SizeFO1 e), (SizeFO0 S), .pmap old (.int .u64 b) (some (.slice (some ⟨3, 0, none⟩) n n)), .ints .u64 L 22 true]).low (.int .i64 ((n : Nat) : Int)) (KH.low ⟨4, 1, [(0, 0, (SizeFO1 e)), (1, 0, (SizeFO0 S)), (2, 0, .pmap old (.int .u64 b) (some (.slice (some ⟨3, 0, none⟩) n n))), (3, 0, .ints .u64 L 22 true)]⟩) :=
  tree_does fitAr SoundC.no AgreeT.no (by kernel_rfl) ((SizeF_t b e S old n L).trans (by rw [condT (beq_self_eq_true _)]))
noncomputable abbrev FaultsNO0 (S : ArSt) : KObj := .cells [(.int .i64 S.cells), (.int .i64 S.used), (.int .i64 S.faults), (.int .u64 S.last), (.map (some 2))] 80 true
noncomputable abbrev FaultsNO1 (e : TypeId) : KObj := .cells [(.int .i64 1), (.int .i64 64), (.int .i64 1), (.int .i64 64)] e false
theorem FaultsN_t (e : TypeId) (S : ArSt) (old : List MapEntry) (b : Int) : runK Tryd.prog cfgAr fsAr noT 30 40 17 [(.pointer (some ⟨1, 0, none⟩))] (mkH [(FaultsNO1 e), (FaultsNO0 S), .pmap old (.int .u64 b) none]) bothK =
  some ((.int .i64 S.faults), ⟨3, 1, [(0, 0, (FaultsNO1 e)), (1, 0, (FaultsNO0 S)), (2, 0, .pmap old (.int .u64 b) none)]⟩) := by kernel_rfl
theorem FaultsN0 {e : TypeId} {S : ArSt} {old : List MapEntry} {b : Int}   : DoesC Tryd.prog 17 [(.pointer (some ⟨1, 0, none⟩))] (mkH [(FaultsNO1 e), (FaultsNO0 S), .pmap old (.int .u64 b) none]).low (.int .i64 S.faults) (KH.low ⟨3, 1, [(0, 0, (FaultsNO1 e)), (1, 0, (FaultsNO0 S)), (2, 0, .pmap old (.int .u64 b) none)]⟩) :=
  tree_does fitAr SoundC.no AgreeT.no (by kernel_rfl) (FaultsN_t e S old b)
noncomputable abbrev NewO0 (e : TypeId) : KObj := .cells [(.int .i64 1), (.int .i64 64), (.int .i64 1), (.int .i64 64)] e false
theorem New_t (c : Int) (e : TypeId) : runK Tryd.prog cfgAr fsAr noT 30 40 26 [(.int .i64 c)] (mkH [(NewO0 e)]) bothK =
  bif (decide (c < 1)) then
    some ((.pointer none), ⟨1, 1, [(0, 0, (NewO0 e))]⟩)
  else
    bif (decide (c > 65536)) then
      some ((.pointer none), ⟨1, 1, [(0, 0, (NewO0 e))]⟩)
    else
      some ((.pointer (some ⟨2, 0, none⟩)), ⟨3, 3, [(2, 2, .cells [(.int .i64 c), (.int .i64 0), (.int .i64 0), (.int .u64 0), (.map (some 1))] 80 true), (1, 1, .map [] 0), (0, 0, (NewO0 e))]⟩) := by kernel_rfl
theorem NewK {c : Int} {e : TypeId} (h1 : 1 ≤ c) (h2 : c ≤ 65536)   : DoesC Tryd.prog 26 [(.int .i64 c)] (mkH [(NewO0 e)]).low (.pointer (some ⟨2, 0, none⟩)) (KH.low ⟨3, 3, [(2, 2, .cells [(.int .i64 c), (.int .i64 0), (.int .i64 0), (.int .u64 0), (.map (some 1))] 80 true), (1, 1, .map [] 0), (0, 0, (NewO0 e))]⟩) :=
  tree_does fitAr SoundC.no AgreeT.no (by kernel_rfl) ((New_t c e).trans (by rw [condF (decide_eq_false (by (first | omega | ((try simp (disch := omega) only [wrap_i64_id]) <;> omega)))), condF (decide_eq_false (by (first | omega | ((try simp (disch := omega) only [wrap_i64_id]) <;> omega))))]))
end Go.Proofs.YtfhfbbhoppnbiaaDoor
