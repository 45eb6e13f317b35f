/- From what a row lists of package-level variables to what the walks ask of the world. Condition: the variables read as the row lists them. From what a row lists of package-level variables to what the walks ask of the world, the powers of ten too; slices of truths that come in. Condition: the variables read as the row lists them. -/
import Derived.Test.YtdgcgogeidnmoaaGreatDoorRows
import Derived.Test.YtdgcgogeidnmoaaGreatDoorSb
import Derived.PinnedBridge
import Derived.Lib.LaidU8T
import Derived.LaidLaws
import Derived.Lay
import Derived.Stop.Joined
import Derived.Test.YtdgcgogeidnmoaaGreatDoorS2
import Derived.ProofKit
import Derived.OpenShut
import Derived.Deep.Matrix
import Derived.Deep.Grids
set_option linter.unusedSimpArgs false
set_option linter.unusedVariables false
set_option linter.unusedSectionVars false
namespace Go.Proofs.YtdgcgogeidnmoaaGreatDoor
open Go.RowKit Pal
theorem wf_i64 {x : Int} (h : (Lit.int .i64 x).wf = true) : -9223372036854775808 ≤ x ∧ x ≤ 9223372036854775807 := by
  simpa [Lit.wf, IntKind.min, IntKind.max, IntKind.signed, IntKind.bits] using h
theorem Tryz.own : ownKnob Tryz.prog.godebug = none := by kernel_rfl
theorem u8extra : Go.Proofs.U8Extra Tryz.prog Tryz.laysValid_ren := ⟨by kernel_rfl, by kernel_rfl, by kernel_rfl, by kernel_rfl, by kernel_rfl, by kernel_rfl, by kernel_rfl⟩
theorem errRange_name : Tryz.prog.globalNamed "strconv.ErrRange" = some 4 := by kernel_rfl
theorem errRange_type : (Tryz.prog.globals[4]?).map (·.type) = some 150 := by kernel_rfl
/-- The tables hold what the walks ask. -/
theorem lay_of_reads {W : World} (h3 : Go.Lib.VarReads Tryz.prog W "unicode/utf8.first" Rows.laid_unicode_utf8_first) (h4 : Go.Lib.VarReads Tryz.prog W "unicode/utf8.acceptRanges" Rows.laid_unicode_utf8_acceptRanges)
    (h5 : Go.Lib.VarReads Tryz.prog W "strconv.ErrRange" Rows.laid_strconv_ErrRange) : Lay (gh W) := by
  have e3 : Rows.laid_unicode_utf8_first = Go.Lib.firstData := Go.Pinned.utf8First_eq
  have e4 : (Rows.laid_unicode_utf8_acceptRanges : DataW Unit) = Go.Lib.acceptData := by kernel_rfl
  rw [e3] at h3
  rw [e4] at h4
  have ht := utf8Tabs_of_readsT (U8Types.of196 Tryz.laysValid) u8extra h3 h4
  refine ⟨fun c hc => ?_, fun i hi => ⟨?_, ?_⟩, ?_⟩
  · rw [gh_cell]; exact ht.1 c hc
  · rw [gh_cell]; exact (ht.2 i hi).1
  · rw [gh_cell]; exact (ht.2 i hi).2
  · obtain ⟨g, t, cs, fuel, p, hg, hty, hv, hd⟩ := h5
    obtain rfl := Option.some.inj (errRange_name.symm.trans hg)
    obtain rfl := Option.some.inj (errRange_type.symm.trans hty)
    obtain ⟨_, u, v, hcs, _⟩ := iface_of_trod Tryz.underlying150 hd
    have hc := World.var?_cell hg hv 0
    refine ⟨u, v, ?_⟩
    rw [gh_cell, hc, ← Array.getElem?_toList, hcs]; rfl
end Go.Proofs.YtdgcgogeidnmoaaGreatDoor
namespace Pal
open Go Go.RowKit Go.ChangeShapes Go.WideShapes Go.ChangeAt Go.Deep
theorem spot_add {w : World} {a : Addr} {j : Nat} {v : Value} (h : w.cell? (a.add j) = some v) (h0 : j ≠ 0 ∨ a.spot = none) : w.cell? ⟨a.block, a.off + j, none⟩ = some v := by
  unfold Addr.add at h
  split at h
  · rename_i hj
    subst hj
    obtain ⟨b, o, s⟩ := a
    rcases h0 with h0 | h0
    · exact absurd rfl h0
    · simp at h0; subst h0; exact h
  · exact h
theorem spot_none {w : World} {a : Addr} {v : Value} (h : w.cell? (a.add 0) = some v) : a.spot = none := by
  have := World.cell?_spot h
  simpa [Addr.add] using this
theorem cells_addr {w : World} {a : Addr} {n : Nat} {f : Nat → Value} (h : ∀ i, i < n → w.cell? (a.add i) = some (f i)) : ∀ i, i < n → a = ⟨a.block, a.off, none⟩ ∧ w.cell? ⟨a.block, a.off + i, none⟩ = some (f i) := by
  intro i hi
  have hs : a.spot = none := spot_none (h 0 (by omega))
  refine ⟨by obtain ⟨b, o, s⟩ := a; simp at hs; subst hs; rfl, spot_add (h i hi) (.inr hs)⟩
theorem boolsV_open {H : Type} {enc : TypeId × Value → H} {P : Program} {W : World} {t e : TypeId} {fuel : Nat} {a : Option Addr} {len cap : Nat} {d : DataW H} {ps : List MemPlace} (ht : P.underlying t = some (.slice e)) (he : P.underlying e = some .bool) (ce : P.cellsOf e = 1)
    (h : DataW.trod enc P W 0 (fun _ => true) true fuel t [.slice a len cap] = some (d, ps)) :
    ∃ xs : List Bool, BoolsV (gh W) (.slice a len cap) xs ∧ xs.length ≤ 9223372036854775807 := by
  rcases open_bools ht he ce h with ⟨hcs, _⟩ | ⟨a', len', cap', B, hcs, _, hl, hm, hx, hcell⟩
  · simp only [List.cons.injEq, Value.slice.injEq, and_true] at hcs
    obtain ⟨rfl, rfl, rfl⟩ := hcs
    exact ⟨[], ⟨none, 0, rfl, fun _ => ⟨rfl, rfl⟩, fun j x hj => by simp at hj⟩, by simp⟩
  · simp only [List.cons.injEq, Value.slice.injEq, and_true] at hcs
    obtain ⟨rfl, rfl, rfl⟩ := hcs
    unfold maxLen at hm
    have hlen : ((List.range len).map B).length = len := by simp
    refine ⟨(List.range len).map B, ⟨some a', cap, by rw [hlen], fun h => (by cases h), fun j x hj => ?_⟩, by rw [hlen]; omega⟩
    have hjl := (List.getElem?_eq_some_iff.1 hj).1
    rw [hlen] at hjl
    obtain ⟨ha, hc⟩ := cells_addr (f := fun i => .bool (B i)) hcell j (by omega)
    refine ⟨a'.block, a'.off, by rw [← ha], ?_⟩
    rw [gh_cell, hc]
    rw [List.getElem?_map, List.getElem?_range hjl] at hj
    simp at hj
    rw [hj]
end Pal
namespace Go.Proofs.YtdgcgogeidnmoaaGreatDoor
open Go.RowKit Pal
theorem pow_type : (Tryz.prog.globals[2]?).map (·.type) = some 239 := by kernel_rfl
/-- The tables hold what the walks ask. -/
theorem lay2_of_reads {W : World} (h2 : Go.Lib.VarReads Tryz.prog W "internal/strconv.uint64pow10" Rows.laid_internal_strconv_uint64pow10) (h3 : Go.Lib.VarReads Tryz.prog W "unicode/utf8.first" Rows.laid_unicode_utf8_first) (h4 : Go.Lib.VarReads Tryz.prog W "unicode/utf8.acceptRanges" Rows.laid_unicode_utf8_acceptRanges)
    (h5 : Go.Lib.VarReads Tryz.prog W "strconv.ErrRange" Rows.laid_strconv_ErrRange) : Lay2 W := by
  refine ⟨lay_of_reads h3 h4 h5, ?_⟩
  have e2 : (Rows.laid_internal_strconv_uint64pow10 : DataW Unit) = Go.Lib.tabData .u64 Go.Lib.pow10Tab := by kernel_rfl
  rw [e2] at h2
  obtain ⟨g, t, cs, fuel, p, hg, hty, hv, hd⟩ := h2
  obtain rfl := Option.some.inj (pow_name.symm.trans hg)
  obtain rfl := Option.some.inj (pow_type.symm.trans hty)
  unfold Go.Lib.TabIs
  rw [hv, ← Go.Lib.cells_of_tab Tryz.underlying239 Tryz.underlying134 (by kernel_rfl) (by kernel_rfl) hd]
end Go.Proofs.YtdgcgogeidnmoaaGreatDoor
