/- The walks of value.Show (of texts), lex.Quote, strings.Join over a slice that reads as texts. Condition: the tables hold what they are laid with. From what a row lists of package-level variables to what the walks ask of the world. Condition: the variables read as the row lists them. From what a row lists of package-level variables to what the walks ask of the world, the powers of ten too; slices of truths that come in. Condition: the variables read as the row lists them. -/
import Derived.Test.YtilmmgkclijhjaaGreatDoorVs
import Derived.Lib.LaidTab
import Derived.Lib.SmallJoins
import Derived.Lib.AppendIntMem
import Derived.Test.YtilmmgkclijhjaaGreatDoorRows
import Derived.Test.YtilmmgkclijhjaaGreatDoorSb
import Derived.PinnedBridge
import Derived.Lib.LaidU8T
import Derived.LaidLaws
import Derived.Lay
import Derived.Stop.Joined
import Derived.ProofKit
import Derived.OpenShut
import Derived.Deep.Matrix
import Derived.Deep.Grids
set_option linter.unusedSimpArgs false
set_option linter.unusedVariables false
set_option linter.unusedSectionVars false
namespace Go.Proofs.YtilmmgkclijhjaaGreatDoor
open Go.RowKit Pal
/-- What the tables hold, the powers of ten too. -/
structure Lay2 (w : World) : Prop where
  lay : Lay (gh w)
  pow : Lib.TabIs Tryz.prog w "internal/strconv.uint64pow10" .u64 Lib.pow10Tab
theorem pow_name : Tryz.prog.globalNamed "internal/strconv.uint64pow10" = some 5 := by kernel_rfl
theorem Lay2.below {w w' : World} (l : Lay2 w) (hb : Below w.heap.size w w') : Lay2 w' := ⟨l.lay.below hb, Go.Joins.tab_stays pow_name l.pow hb (Nat.le_refl _)⟩
def strPost (l : Bs) (w : World) (e : Ending) (w' : World) : Prop := e = .returned (strV l) ∧ Below w.heap.size w w'
theorem strs_map (l : List Bs) : (l.map fun x => (⟨x.toArray⟩ : ByteArray)).map (·.data.toList) = l := by
  rw [List.map_map]
  have : ((fun x : ByteArray => x.data.toList) ∘ fun x : Bs => (⟨x.toArray⟩ : ByteArray)) = id := by funext x; simp
  rw [this, List.map_id]
/-- A row of texts that the call owns reads as a slice. -/
theorem StrsV.ofRow {t : Tag} {k : Nat} {w : World} {e : TypeId} {v : Value} {n : Nat} {l : List Bs} (h : Row t k w e 1 v n (l.map strV)) : StrsV (gh w) v l ∧ n = l.length := by
  have hn : n = l.length := by have := h.len; simp at this; omega
  subst hn
  refine ⟨?_, rfl⟩
  rcases h.own.2 with ⟨rfl, hn⟩ | ⟨g, cap, cur, rfl, hb, hg, hn, hc, hs, ht⟩
  · exact ⟨none, 0, by rw [hn], fun _ => List.eq_nil_of_length_eq_zero hn, by omega, by simp [maxLen], fun j s hj => by have := (List.getElem?_eq_some_iff.1 hj).1; omega⟩
  · refine ⟨_, cap, rfl, fun h => (by cases h), hn, hc, fun j s hj => ?_⟩
    obtain ⟨g', cap', hv, _, _, hcc, _⟩ := h.get (j := j) (x := strV s) (by rw [List.getElem?_map, hj]; rfl)
    simp only [Value.slice.injEq, Option.some.injEq, Addr.mk.injEq, and_true, true_and] at hv
    obtain ⟨rfl, _⟩ := hv
    exact ⟨g, 0, rfl, by rw [gh_cell, Nat.zero_add]; exact hcc⟩
theorem infoStr : (Tryz.prog.info? 9).map (fun i => (i.zero, i.size, i.bytes)) = some (some (.string ⟨#[]⟩), 1, 16) := by kernel_rfl
end Go.Proofs.YtilmmgkclijhjaaGreatDoor
namespace Go.Proofs.YtilmmgkclijhjaaGreatDoor
open Go.RowKit Pal
theorem wf_i64 {x : Int} (h : (Lit.int .i64 x).wf = true) : -9223372036854775808 ≤ x ∧ x ≤ 9223372036854775807 := by
  simpa [Lit.wf, IntKind.min, IntKind.max, IntKind.signed, IntKind.bits] using h
theorem Tryz.own : ownKnob Tryz.prog.godebug = none := by kernel_rfl
theorem u8extra : Go.Proofs.U8Extra Tryz.prog Tryz.laysValid_ren := ⟨by kernel_rfl, by kernel_rfl, by kernel_rfl, by kernel_rfl, by kernel_rfl, by kernel_rfl, by kernel_rfl⟩
theorem errRange_name : Tryz.prog.globalNamed "strconv.ErrRange" = some 1 := by kernel_rfl
theorem errRange_type : (Tryz.prog.globals[1]?).map (·.type) = some 74 := by kernel_rfl
/-- The tables hold what the walks ask. -/
theorem lay_of_reads {W : World} (h3 : Go.Lib.VarReads Tryz.prog W "unicode/utf8.first" Rows.laid_unicode_utf8_first) (h4 : Go.Lib.VarReads Tryz.prog W "unicode/utf8.acceptRanges" Rows.laid_unicode_utf8_acceptRanges)
    (h5 : Go.Lib.VarReads Tryz.prog W "strconv.ErrRange" Rows.laid_strconv_ErrRange) : Lay (gh W) := by
  have e3 : Rows.laid_unicode_utf8_first = Go.Lib.firstData := Go.Pinned.utf8First_eq
  have e4 : (Rows.laid_unicode_utf8_acceptRanges : DataW Unit) = Go.Lib.acceptData := by kernel_rfl
  rw [e3] at h3
  rw [e4] at h4
  have ht := utf8Tabs_of_readsT (U8Types.of196 Tryz.laysValid) u8extra h3 h4
  refine ⟨fun c hc => ?_, fun i hi => ⟨?_, ?_⟩, ?_⟩
  · rw [gh_cell]; exact ht.1 c hc
  · rw [gh_cell]; exact (ht.2 i hi).1
  · rw [gh_cell]; exact (ht.2 i hi).2
  · obtain ⟨g, t, cs, fuel, p, hg, hty, hv, hd⟩ := h5
    obtain rfl := Option.some.inj (errRange_name.symm.trans hg)
    obtain rfl := Option.some.inj (errRange_type.symm.trans hty)
    obtain ⟨_, u, v, hcs, _⟩ := iface_of_trod Tryz.underlying74 hd
    have hc := World.var?_cell hg hv 0
    refine ⟨u, v, ?_⟩
    rw [gh_cell, hc, ← Array.getElem?_toList, hcs]; rfl
end Go.Proofs.YtilmmgkclijhjaaGreatDoor
namespace Pal
open Go Go.RowKit Go.ChangeShapes Go.WideShapes Go.ChangeAt Go.Deep
theorem spot_add {w : World} {a : Addr} {j : Nat} {v : Value} (h : w.cell? (a.add j) = some v) (h0 : j ≠ 0 ∨ a.spot = none) : w.cell? ⟨a.block, a.off + j, none⟩ = some v := by
  unfold Addr.add at h
  split at h
  · rename_i hj
    subst hj
    obtain ⟨b, o, s⟩ := a
    rcases h0 with h0 | h0
    · exact absurd rfl h0
    · simp at h0; subst h0; exact h
  · exact h
theorem spot_none {w : World} {a : Addr} {v : Value} (h : w.cell? (a.add 0) = some v) : a.spot = none := by
  have := World.cell?_spot h
  simpa [Addr.add] using this
theorem cells_addr {w : World} {a : Addr} {n : Nat} {f : Nat → Value} (h : ∀ i, i < n → w.cell? (a.add i) = some (f i)) : ∀ i, i < n → a = ⟨a.block, a.off, none⟩ ∧ w.cell? ⟨a.block, a.off + i, none⟩ = some (f i) := by
  intro i hi
  have hs : a.spot = none := spot_none (h 0 (by omega))
  refine ⟨by obtain ⟨b, o, s⟩ := a; simp at hs; subst hs; rfl, spot_add (h i hi) (.inr hs)⟩
theorem boolsV_open {H : Type} {enc : TypeId × Value → H} {P : Program} {W : World} {t e : TypeId} {fuel : Nat} {a : Option Addr} {len cap : Nat} {d : DataW H} {ps : List MemPlace} (ht : P.underlying t = some (.slice e)) (he : P.underlying e = some .bool) (ce : P.cellsOf e = 1)
    (h : DataW.trod enc P W 0 (fun _ => true) true fuel t [.slice a len cap] = some (d, ps)) :
    ∃ xs : List Bool, BoolsV (gh W) (.slice a len cap) xs ∧ xs.length ≤ 9223372036854775807 := by
  rcases open_bools ht he ce h with ⟨hcs, _⟩ | ⟨a', len', cap', B, hcs, _, hl, hm, hx, hcell⟩
  · simp only [List.cons.injEq, Value.slice.injEq, and_true] at hcs
    obtain ⟨rfl, rfl, rfl⟩ := hcs
    exact ⟨[], ⟨none, 0, rfl, fun _ => ⟨rfl, rfl⟩, fun j x hj => by simp at hj⟩, by simp⟩
  · simp only [List.cons.injEq, Value.slice.injEq, and_true] at hcs
    obtain ⟨rfl, rfl, rfl⟩ := hcs
    unfold maxLen at hm
    have hlen : ((List.range len).map B).length = len := by simp
    refine ⟨(List.range len).map B, ⟨some a', cap, by rw [hlen], fun h => (by cases h), fun j x hj => ?_⟩, by rw [hlen]; omega⟩
    have hjl := (List.getElem?_eq_some_iff.1 hj).1
    rw [hlen] at hjl
    obtain ⟨ha, hc⟩ := cells_addr (f := fun i => .bool (B i)) hcell j (by omega)
    refine ⟨a'.block, a'.off, by rw [← ha], ?_⟩
    rw [gh_cell, hc]
    rw [List.getElem?_map, List.getElem?_range hjl] at hj
    simp at hj
    rw [hj]
end Pal
namespace Go.Proofs.YtilmmgkclijhjaaGreatDoor
open Go.RowKit Pal
theorem pow_type : (Tryz.prog.globals[5]?).map (·.type) = some 150 := by kernel_rfl
/-- The tables hold what the walks ask. -/
theorem lay2_of_reads {W : World} (h2 : Go.Lib.VarReads Tryz.prog W "internal/strconv.uint64pow10" Rows.laid_internal_strconv_uint64pow10) (h3 : Go.Lib.VarReads Tryz.prog W "unicode/utf8.first" Rows.laid_unicode_utf8_first) (h4 : Go.Lib.VarReads Tryz.prog W "unicode/utf8.acceptRanges" Rows.laid_unicode_utf8_acceptRanges)
    (h5 : Go.Lib.VarReads Tryz.prog W "strconv.ErrRange" Rows.laid_strconv_ErrRange) : Lay2 W := by
  refine ⟨lay_of_reads h3 h4 h5, ?_⟩
  have e2 : (Rows.laid_internal_strconv_uint64pow10 : DataW Unit) = Go.Lib.tabData .u64 Go.Lib.pow10Tab := by kernel_rfl
  rw [e2] at h2
  obtain ⟨g, t, cs, fuel, p, hg, hty, hv, hd⟩ := h2
  obtain rfl := Option.some.inj (pow_name.symm.trans hg)
  obtain rfl := Option.some.inj (pow_type.symm.trans hty)
  unfold Go.Lib.TabIs
  rw [hv, ← Go.Lib.cells_of_tab Tryz.underlying150 Tryz.underlying114 (by kernel_rfl) (by kernel_rfl) hd]
end Go.Proofs.YtilmmgkclijhjaaGreatDoor
