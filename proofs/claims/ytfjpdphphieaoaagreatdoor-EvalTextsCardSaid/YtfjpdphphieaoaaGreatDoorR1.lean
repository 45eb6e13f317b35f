/- The walks of value.Show (of texts), lex.Quote, strings.Join over a slice that reads as texts. Condition: the tables hold what they are laid with. From what a row lists of package-level variables to what the walks ask of the world. Condition: the variables read as the row lists them. From what a row lists of package-level variables to what the walks ask of the world, the powers of ten too; slices of truths that come in. Condition: the variables read as the row lists them. -/
import Derived.Test.YtfjpdphphieaoaaGreatDoorVb
import Derived.Test.YtfjpdphphieaoaaGreatDoorPl
import Derived.Test.YtfjpdphphieaoaaGreatDoorVa
import Derived.Lib.QuoteBits
import Derived.Lib.LaidTab
import Derived.Lib.SmallJoins
import Derived.Lib.AppendIntMem
import Derived.Test.YtfjpdphphieaoaaGreatDoorRows
import Derived.Test.YtfjpdphphieaoaaGreatDoorSb
import Derived.PinnedBridge
import Derived.Lib.LaidU8T
import Derived.LaidLaws
import Derived.Lay
import Derived.Stop.Joined
import Derived.ProofKit
import Derived.OpenShut
import Derived.Deep.Matrix
import Derived.Deep.Grids
set_option linter.unusedSectionVars false
set_option linter.unusedSimpArgs false
set_option linter.unusedVariables false
namespace Go.Proofs.YtfjpdphphieaoaaGreatDoor
open Go.RowKit Pal
/-- What the tables hold, the powers of ten too. -/
structure Lay2 (w : World) : Prop where
  lay : Lay (gh w)
  pow : Lib.TabIs Tryz.prog w "internal/strconv.uint64pow10" .u64 Lib.pow10Tab
theorem pow_name : Tryz.prog.globalNamed "internal/strconv.uint64pow10" = some 5 := by kernel_rfl
theorem Lay2.below {w w' : World} (l : Lay2 w) (hb : Below w.heap.size w w') : Lay2 w' := ⟨l.lay.below hb,Go.Joins.tab_stays pow_name l.pow hb (Nat.le_refl _)⟩
end Go.Proofs.YtfjpdphphieaoaaGreatDoor
namespace Go.Proofs.YtfjpdphphieaoaaGreatDoor
open Go.RowKit Pal
theorem wf_i64 {x : Int} (h : (Lit.int .i64 x).wf = true) : -9223372036854775808 ≤ x ∧ x ≤ 9223372036854775807 := by
  simpa [Lit.wf,IntKind.min,IntKind.max,IntKind.signed,IntKind.bits] using h
theorem u8extra : Go.Proofs.U8Extra Tryz.prog Tryz.laysValid_ren := ⟨by kernel_rfl,by kernel_rfl,by kernel_rfl,by kernel_rfl,by kernel_rfl,by kernel_rfl,by kernel_rfl⟩
theorem errRange_name : Tryz.prog.globalNamed "strconv.ErrRange" = some 3 := by kernel_rfl
theorem errRange_type : (Tryz.prog.globals[3]?).map (·.type) = some 117 := by kernel_rfl
/-- The tables hold what the walks ask. -/
theorem lay_of_reads {W : World} (h3 : Go.Lib.VarReads Tryz.prog W "unicode/utf8.first" Rows.laid_unicode_utf8_first) (h4 : Go.Lib.VarReads Tryz.prog W "unicode/utf8.acceptRanges" Rows.laid_unicode_utf8_acceptRanges)
    (h5 : Go.Lib.VarReads Tryz.prog W "strconv.ErrRange" Rows.laid_strconv_ErrRange) : Lay (gh W) := by
  have e3 : Rows.laid_unicode_utf8_first = Go.Lib.firstData := Go.Pinned.utf8First_eq
  have e4 : (Rows.laid_unicode_utf8_acceptRanges : DataW Unit) = Go.Lib.acceptData := by kernel_rfl
  rw [e3] at h3
  rw [e4] at h4
  have ht := utf8Tabs_of_readsT (U8Types.of196 Tryz.laysValid) u8extra h3 h4
  refine ⟨fun c hc => ?_,fun i hi => ⟨?_,?_⟩,?_⟩
  · rw [gh_cell]; exact ht.1 c hc
  · rw [gh_cell]; exact (ht.2 i hi).1
  · rw [gh_cell]; exact (ht.2 i hi).2
  · obtain ⟨g,t,cs,fuel,p,hg,hty,hv,hd⟩ := h5
    obtain rfl := Option.some.inj (errRange_name.symm.trans hg)
    obtain rfl := Option.some.inj (errRange_type.symm.trans hty)
    obtain ⟨_,u,v,hcs,_⟩ := iface_of_trod Tryz.underlying117 hd
    have hc := World.var?_cell hg hv 0
    refine ⟨u,v,?_⟩
    rw [gh_cell,hc,← Array.getElem?_toList,hcs]; rfl
end Go.Proofs.YtfjpdphphieaoaaGreatDoor
namespace Pal
open Go Go.RowKit Go.ChangeShapes Go.WideShapes Go.ChangeAt Go.Deep
end Pal
namespace Go.Proofs.YtfjpdphphieaoaaGreatDoor
open Go.RowKit Pal
theorem pow_type : (Tryz.prog.globals[5]?).map (·.type) = some 188 := by kernel_rfl
/-- The tables hold what the walks ask. -/
theorem lay2_of_reads {W : World} (h2 : Go.Lib.VarReads Tryz.prog W "internal/strconv.uint64pow10" Rows.laid_internal_strconv_uint64pow10) (h3 : Go.Lib.VarReads Tryz.prog W "unicode/utf8.first" Rows.laid_unicode_utf8_first) (h4 : Go.Lib.VarReads Tryz.prog W "unicode/utf8.acceptRanges" Rows.laid_unicode_utf8_acceptRanges)
    (h5 : Go.Lib.VarReads Tryz.prog W "strconv.ErrRange" Rows.laid_strconv_ErrRange) : Lay2 W := by
  refine ⟨lay_of_reads h3 h4 h5,?_⟩
  have e2 : (Rows.laid_internal_strconv_uint64pow10 : DataW Unit) = Go.Lib.tabData .u64 Go.Lib.pow10Tab := by kernel_rfl
  rw [e2] at h2
  obtain ⟨g,t,cs,fuel,p,hg,hty,hv,hd⟩ := h2
  obtain rfl := Option.some.inj (pow_name.symm.trans hg)
  obtain rfl := Option.some.inj (pow_type.symm.trans hty)
  unfold Go.Lib.TabIs
  rw [hv,← Go.Lib.cells_of_tab Tryz.underlying188 Tryz.underlying130 (by kernel_rfl) (by kernel_rfl) hd]
end Go.Proofs.YtfjpdphphieaoaaGreatDoor
