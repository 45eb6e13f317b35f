/- From what a row lists of package-level variables to what the walks ask of the world. Condition: the variables read as the row lists them. -/
import Derived.Test.YtdgcgogeidnmoaaGreatDoorRows
import Derived.Test.YtdgcgogeidnmoaaGreatDoorSb
import Derived.PinnedBridge
import Derived.Lib.LaidU8T
import Derived.LaidLaws
import Derived.Lay
import Derived.Stop.Joined
set_option linter.unusedSimpArgs false
set_option linter.unusedVariables false
set_option linter.unusedSectionVars false
namespace Go.Proofs.YtdgcgogeidnmoaaGreatDoor
open Go.RowKit Pal
theorem wf_i64 {x : Int} (h : (Lit.int .i64 x).wf = true) : -9223372036854775808 ≤ x ∧ x ≤ 9223372036854775807 := by
  simpa [Lit.wf, IntKind.min, IntKind.max, IntKind.signed, IntKind.bits] using h
theorem Tryz.own : ownKnob Tryz.prog.godebug = none := by kernel_rfl
theorem u8extra : Go.Proofs.U8Extra Tryz.prog Tryz.laysValid_ren := ⟨by kernel_rfl, by kernel_rfl, by kernel_rfl, by kernel_rfl, by kernel_rfl, by kernel_rfl, by kernel_rfl⟩
theorem errRange_name : Tryz.prog.globalNamed "strconv.ErrRange" = some 4 := by kernel_rfl
theorem errRange_type : (Tryz.prog.globals[4]?).map (·.type) = some 150 := by kernel_rfl
/-- The tables hold what the walks ask. -/
theorem lay_of_reads {W : World} (h3 : Go.Lib.VarReads Tryz.prog W "unicode/utf8.first" Rows.laid_unicode_utf8_first) (h4 : Go.Lib.VarReads Tryz.prog W "unicode/utf8.acceptRanges" Rows.laid_unicode_utf8_acceptRanges)
    (h5 : Go.Lib.VarReads Tryz.prog W "strconv.ErrRange" Rows.laid_strconv_ErrRange) : Lay (gh W) := by
  have e3 : Rows.laid_unicode_utf8_first = Go.Lib.firstData := Go.Pinned.utf8First_eq
  have e4 : (Rows.laid_unicode_utf8_acceptRanges : DataW Unit) = Go.Lib.acceptData := by kernel_rfl
  rw [e3] at h3
  rw [e4] at h4
  have ht := utf8Tabs_of_readsT (U8Types.of196 Tryz.laysValid) u8extra h3 h4
  refine ⟨fun c hc => ?_, fun i hi => ⟨?_, ?_⟩, ?_⟩
  · rw [gh_cell]; exact ht.1 c hc
  · rw [gh_cell]; exact (ht.2 i hi).1
  · rw [gh_cell]; exact (ht.2 i hi).2
  · obtain ⟨g, t, cs, fuel, p, hg, hty, hv, hd⟩ := h5
    obtain rfl := Option.some.inj (errRange_name.symm.trans hg)
    obtain rfl := Option.some.inj (errRange_type.symm.trans hty)
    obtain ⟨_, u, v, hcs, _⟩ := iface_of_trod Tryz.underlying150 hd
    have hc := World.var?_cell hg hv 0
    refine ⟨u, v, ?_⟩
    rw [gh_cell, hc, ← Array.getElem?_toList, hcs]; rfl
end Go.Proofs.YtdgcgogeidnmoaaGreatDoor
