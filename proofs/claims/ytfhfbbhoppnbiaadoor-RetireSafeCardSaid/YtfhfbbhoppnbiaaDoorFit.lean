import Derived.Test.YtfhfbbhoppnbiaaDoorRows
import Derived.Test.YtfhfbbhoppnbiaaDoorEngd
import Derived.KernelRfl
import Derived.ProofKit
import Derived.LaidMore
import Derived.OpenShut
import Derived.Stop.Joined
namespace Go.Proofs.YtfhfbbhoppnbiaaDoor
open Go.Eng
open Go.ChangeShapes Go.WideShapes Go.ChangeAt Go.RowKit
set_option maxRecDepth 100000
theorem fineA : Fine Tryd.prog := ⟨by kernel_rfl, by kernel_rfl, by kernel_rfl⟩
theorem oneVar : Tryd.prog.globals.size = 1 := by kernel_rfl
def laidV : List (String × DataW Unit) := [("sprocket/desk.bounds", Rows.laid_sprocket_desk_bounds)]
theorem gBounds : Tryd.prog.globalNamed "sprocket/desk.bounds" = some 0 := by kernel_rfl
theorem tBounds : (Tryd.prog.globals[0]?).map (·.type) = some 98 := by kernel_rfl
theorem pair_cells {W : World} {n : Nat} {cs : List Value} {x : DataW Unit × List MemPlace} {enc : TypeId × Value → Unit} {base : Nat} {spare : Nat → Bool} {held : Bool} {a b : Int} {q : List MemPlace}
    (h : DataW.trod enc Tryd.prog W base spare held n 97 cs = some x) (hx : x.1 = .agg [.lit (.int .i64 a), .lit (.int .i64 b)]) : cs = [.int .i64 a, .int .i64 b] := by
  obtain ⟨y0, y1, m, rfl, hl, h0, h1⟩ := trod_struct2 Tryd.underlying97 h
  have hl : cs.length = 2 := hl.trans (by kernel_rfl)
  obtain ⟨k0, e0, e0', _⟩ := DataW.trod_int Tryd.underlying3 h0
  obtain ⟨k1, e1, e1', _⟩ := DataW.trod_int Tryd.underlying3 h1
  have c3 : Tryd.prog.cellsOf 3 = 1 := by kernel_rfl
  simp only [c3] at e0 e1
  match cs, hl with
  | [u, v], _ =>
    simp at e0 e1
    rw [e0', e1'] at hx
    simp at hx
    obtain ⟨rfl, rfl⟩ := hx
    rw [e0, e1]
theorem bounds_cells {W : World} (h : laidMetH Tryd.prog laidV W) : ∀ i, i < [(1 : Int), 64, 1, 64].length → W.cell? ((⟨0, 0, Option.none⟩ : Addr).add i) = some (.int .i64 ([(1 : Int), 64, 1, 64].getD i 0)) := by
  rw [MakeChecks.laidMetH_plain _ _ _ (by kernel_rfl)] at h
  obtain ⟨ps, ⟨g0, t0, cs0, f0, p0, q0, hg0, ht0, hv0, hd0, _⟩, _⟩ := h
  obtain rfl := Option.some.inj (gBounds.symm.trans hg0)
  obtain rfl := Option.some.inj (tBounds.symm.trans ht0)
  obtain ⟨xs, m1, rfl, hx1, hlen, hn, hel⟩ := DataW.trod_array Tryd.underlying98 hd0
  have hlen : cs0.toList.length = 4 := hlen.trans (by kernel_rfl)
  have c2 : Tryd.prog.cellsOf 97 = 2 := by kernel_rfl
  match xs, hn with
  | [x0, x1], _ =>
    have h0 := hel 0 (by decide)
    have h1 := hel 1 (by decide)
    rw [c2] at h0 h1
    simp only [Prod.mk.injEq, DataW.agg.injEq, List.map_cons, List.map_nil] at hx1
    have hd : Rows.laid_sprocket_desk_bounds (H := Unit) = .agg [x0.1, x1.1] := by rw [hx1.1]
    unfold Rows.laid_sprocket_desk_bounds at hd
    simp only [DataW.agg.injEq, List.cons.injEq, and_true] at hd
    have k0 := pair_cells (q := []) h0 hd.1.symm
    have k1 := pair_cells (q := []) h1 hd.2.symm
    have hc := World.var?_cell hg0 hv0
    obtain ⟨L⟩ := cs0
    simp only at hlen k0 k1
    match L, hlen with
    | [a, b, c, d], _ =>
      simp at k0 k1
      obtain ⟨rfl, rfl⟩ := k0
      obtain ⟨rfl, rfl⟩ := k1
      intro i hi
      have hi : i < 4 := hi
      have := hc i
      have e : ((⟨0, 0, Option.none⟩ : Addr).add i) = ⟨0, i, Option.none⟩ := by simp [Addr.add]; exact fun h => h.symm
      rw [e, this]
      match i, hi with
      | 0, _ => rfl
      | 1, _ => rfl
      | 2, _ => rfl
      | 3, _ => rfl
noncomputable def openM : MSt → Option (List KObj)
  | .retire x => match x.waiting, x.same, x.rest with
    | [], true, _ => some [.cells [.int .u64 x.site.desk, .int .i64 x.site.thread, .int .i64 x.site.threads, .int .i64 x.site.keep, .int .u64 x.site.seed, .bool x.made, .bool x.looks, .int .i64 x.thread, .slice (some ⟨0, 0, none⟩) 0 0, .int .i64 x.at_, .map (some 2), .slice (some ⟨0, 0, none⟩) 0 0] 55 true, .dict .u64 .i64 x.free]
    | [], false, _ => some [.cells [.int .u64 x.site.desk, .int .i64 x.site.thread, .int .i64 x.site.threads, .int .i64 x.site.keep, .int .u64 x.site.seed, .bool x.made, .bool x.looks, .int .i64 x.thread, .slice (some ⟨0, 0, none⟩) 0 0, .int .i64 x.at_, .map (some 2), .slice none 0 0] 55 true, .dict .u64 .i64 x.free]
    | _ :: _, true, _ => some [.cells [.int .u64 x.site.desk, .int .i64 x.site.thread, .int .i64 x.site.threads, .int .i64 x.site.keep, .int .u64 x.site.seed, .bool x.made, .bool x.looks, .int .i64 x.thread, .slice (some ⟨3, 0, none⟩) x.waiting.length x.waiting.length, .int .i64 x.at_, .map (some 2), .slice (some ⟨3, 0, none⟩) x.waiting.length x.waiting.length] 55 true, .dict .u64 .i64 x.free, .ints .u64 x.waiting 22 true]
    | _ :: _, false, [] => some [.cells [.int .u64 x.site.desk, .int .i64 x.site.thread, .int .i64 x.site.threads, .int .i64 x.site.keep, .int .u64 x.site.seed, .bool x.made, .bool x.looks, .int .i64 x.thread, .slice (some ⟨3, 0, none⟩) x.waiting.length x.waiting.length, .int .i64 x.at_, .map (some 2), .slice none 0 0] 55 true, .dict .u64 .i64 x.free, .ints .u64 x.waiting 22 true]
    | _ :: _, false, _ :: _ => some [.cells [.int .u64 x.site.desk, .int .i64 x.site.thread, .int .i64 x.site.threads, .int .i64 x.site.keep, .int .u64 x.site.seed, .bool x.made, .bool x.looks, .int .i64 x.thread, .slice (some ⟨3, 0, none⟩) x.waiting.length x.waiting.length, .int .i64 x.at_, .map (some 2), .slice (some ⟨4, 0, none⟩) x.rest.length x.rest.length] 55 true, .dict .u64 .i64 x.free, .ints .u64 x.waiting 22 true, .ints .u64 x.rest 22 true]
  | _ => none
def rankM : MSt → Nat
  | .arena _ => 0
  | _ => 1
theorem rank_ok : ∀ m os, openM m = some os → 0 < rankM m ∧ ∀ m', KObj.mach m' ∈ os → rankM m' < rankM m := by
  intro m os h
  cases m <;> simp only [openM] at h <;> (try split at h) <;> first | (cases h; done) | (cases h; exact ⟨Nat.zero_lt_one, fun m' hm => by simp at hm⟩)
def baseA : AtP := fun m w b F => match m with
  | .arena S => ArenaAt Tryd.prog 80 22 S w b F
  | _ => False
theorem baseA_loc : LocA baseA := fun m w w' b F h _ hk => match m, h with
  | .arena _, h => ArenaAt.loc h hk
noncomputable instance semI : ObjSem Tryd.prog where
  At := semN Tryd.prog baseA 1 openM 9
  loc := semN_loc baseA_loc 9
theorem semA : ∀ S w b F, ObjSem.At Tryd.prog (.arena S) w b F ↔ ArenaAt Tryd.prog 80 22 S w b F := fun S w b F => semN_none (m := .arena S) rfl 9 w b F
theorem isM {m : MSt} {os : List KObj} (h : openM m = some os) (hr : rankM m ≤ 9 := by first | decide | exact (show 1 ≤ 9 by decide)) : IsM Tryd.prog 1 m os := fun w b F => semN_open rank_ok 9 h hr w b F
def varL : Vars := [(.i64, [1, 64, 1, 64])]
theorem var1 {k : IntKind} {zs : List Int} {vb : List KObj} (h : VarB [(k, zs)] vb) : ∃ e, vb = [.cells (intCells k zs) e false] := by
  cases h with | cons e h => cases h; exact ⟨e, rfl⟩
end Go.Proofs.YtfhfbbhoppnbiaaDoor
