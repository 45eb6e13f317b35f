/- The walks of value.Show (of texts), lex.Quote, strings.Join over a slice that reads as texts. Condition: the tables hold what they are laid with. From what a row lists of package-level variables to what the walks ask of the world. Condition: the variables read as the row lists them. From what a row lists of package-level variables to what the walks ask of the world, the powers of ten too; slices of truths that come in. Condition: the variables read as the row lists them. From arguments as data to what the walks ask: values, rows of values, of texts, of numbers, expressions. Condition: the data read from the world. From fields as data to what the walks ask. Condition: the data read from the world. -/
import Derived.Test.YtpfhhikbaeknpaaGreatDoorVb
import Derived.Test.YtpfhhikbaeknpaaGreatDoorPl
import Derived.Test.YtpfhhikbaeknpaaGreatDoorVa
import Derived.Lib.QuoteBits
import Derived.Lib.LaidTab
import Derived.Lib.SmallJoins
import Derived.Lib.AppendIntMem
import Derived.Test.YtpfhhikbaeknpaaGreatDoorRows
import Derived.Test.YtpfhhikbaeknpaaGreatDoorSb
import Derived.PinnedBridge
import Derived.Lib.LaidU8T
import Derived.LaidLaws
import Derived.Lay
import Derived.Stop.Joined
import Derived.ProofKit
import Derived.OpenShut
import Derived.Deep.Matrix
import Derived.Deep.Grids
import Derived.Test.YtpfhhikbaeknpaaGreatDoorT2b
import Derived.SliceStrings
import Derived.Test.YtpfhhikbaeknpaaGreatDoorSE
set_option linter.unusedSectionVars false
set_option linter.unusedSimpArgs false
set_option linter.unusedVariables false
namespace Go.Proofs.YtpfhhikbaeknpaaGreatDoor
open Go.RowKit Pal
/-- What the tables hold, the powers of ten too. -/
structure Lay2 (w : World) : Prop where
  lay : Lay (gh w)
  pow : Lib.TabIs Tryz.prog w "internal/strconv.uint64pow10" .u64 Lib.pow10Tab
theorem pow_name : Tryz.prog.globalNamed "internal/strconv.uint64pow10" = some 5 := by kernel_rfl
end Go.Proofs.YtpfhhikbaeknpaaGreatDoor
namespace Go.Proofs.YtpfhhikbaeknpaaGreatDoor
open Go.RowKit Pal
theorem wf_i64 {x : Int} (h : (Lit.int .i64 x).wf = true) : -9223372036854775808 ≤ x ∧ x ≤ 9223372036854775807 := by
  simpa [Lit.wf,IntKind.min,IntKind.max,IntKind.signed,IntKind.bits] using h
theorem Tryz.own : ownKnob Tryz.prog.godebug = none := by kernel_rfl
theorem u8extra : Go.Proofs.U8Extra Tryz.prog Tryz.laysValid_ren := ⟨by kernel_rfl,by kernel_rfl,by kernel_rfl,by kernel_rfl,by kernel_rfl,by kernel_rfl,by kernel_rfl⟩
theorem errRange_name : Tryz.prog.globalNamed "strconv.ErrRange" = some 1 := by kernel_rfl
theorem errRange_type : (Tryz.prog.globals[1]?).map (·.type) = some 144 := by kernel_rfl
/-- The tables hold what the walks ask. -/
theorem lay_of_reads {W : World} (h3 : Go.Lib.VarReads Tryz.prog W "unicode/utf8.first" Rows.laid_unicode_utf8_first) (h4 : Go.Lib.VarReads Tryz.prog W "unicode/utf8.acceptRanges" Rows.laid_unicode_utf8_acceptRanges)
    (h5 : Go.Lib.VarReads Tryz.prog W "strconv.ErrRange" Rows.laid_strconv_ErrRange) : Lay (gh W) := by
  have e3 : Rows.laid_unicode_utf8_first = Go.Lib.firstData := Go.Pinned.utf8First_eq
  have e4 : (Rows.laid_unicode_utf8_acceptRanges : DataW Unit) = Go.Lib.acceptData := by kernel_rfl
  rw [e3] at h3
  rw [e4] at h4
  have ht := utf8Tabs_of_readsT (U8Types.of196 Tryz.laysValid) u8extra h3 h4
  refine ⟨fun c hc => ?_,fun i hi => ⟨?_,?_⟩,?_⟩
  · rw [gh_cell]; exact ht.1 c hc
  · rw [gh_cell]; exact (ht.2 i hi).1
  · rw [gh_cell]; exact (ht.2 i hi).2
  · obtain ⟨g,t,cs,fuel,p,hg,hty,hv,hd⟩ := h5
    obtain rfl := Option.some.inj (errRange_name.symm.trans hg)
    obtain rfl := Option.some.inj (errRange_type.symm.trans hty)
    obtain ⟨_,u,v,hcs,_⟩ := iface_of_trod Tryz.underlying144 hd
    have hc := World.var?_cell hg hv 0
    refine ⟨u,v,?_⟩
    rw [gh_cell,hc,← Array.getElem?_toList,hcs]; rfl
end Go.Proofs.YtpfhhikbaeknpaaGreatDoor
namespace Pal
open Go Go.RowKit Go.ChangeShapes Go.WideShapes Go.ChangeAt Go.Deep
end Pal
namespace Go.Proofs.YtpfhhikbaeknpaaGreatDoor
open Go.RowKit Pal
theorem pow_type : (Tryz.prog.globals[5]?).map (·.type) = some 247 := by kernel_rfl
/-- The tables hold what the walks ask. -/
theorem lay2_of_reads {W : World} (h2 : Go.Lib.VarReads Tryz.prog W "internal/strconv.uint64pow10" Rows.laid_internal_strconv_uint64pow10) (h3 : Go.Lib.VarReads Tryz.prog W "unicode/utf8.first" Rows.laid_unicode_utf8_first) (h4 : Go.Lib.VarReads Tryz.prog W "unicode/utf8.acceptRanges" Rows.laid_unicode_utf8_acceptRanges)
    (h5 : Go.Lib.VarReads Tryz.prog W "strconv.ErrRange" Rows.laid_strconv_ErrRange) : Lay2 W := by
  refine ⟨lay_of_reads h3 h4 h5,?_⟩
  have e2 : (Rows.laid_internal_strconv_uint64pow10 : DataW Unit) = Go.Lib.tabData .u64 Go.Lib.pow10Tab := by kernel_rfl
  rw [e2] at h2
  obtain ⟨g,t,cs,fuel,p,hg,hty,hv,hd⟩ := h2
  obtain rfl := Option.some.inj (pow_name.symm.trans hg)
  obtain rfl := Option.some.inj (pow_type.symm.trans hty)
  unfold Go.Lib.TabIs
  rw [hv,← Go.Lib.cells_of_tab Tryz.underlying247 Tryz.underlying174 (by kernel_rfl) (by kernel_rfl) hd]
end Go.Proofs.YtpfhhikbaeknpaaGreatDoor
namespace Pal
open Go Go.RowKit Go.ChangeShapes Go.WideShapes Go.ChangeAt
/-- A row as data: each element's cells, and that they read. -/
theorem row_open {H : Type} {enc : TypeId × Value → H} {P : Program} {W : World} {sp : Nat → Bool} {held : Bool} {t e : TypeId} {c fuel : Nat} {cs : List Value} {x : DataW H × List MemPlace}
    (ht : P.underlying t = some (.slice e)) (hc : P.cellsOf e = c) (hpos : 0 < c) (h : DataW.trod enc P W 0 sp held fuel t cs = some x) :
    cs = [.slice none 0 0] ∨ ∃ a len cap n,fuel = n + 1 ∧ cs = [.slice (some a) len cap] ∧ len ≤ cap ∧ cap ≤ maxLen ∧
      ∀ i,i < len → a = ⟨a.block,a.off,none⟩ ∧ ∃ ci y,ci.length = c ∧ DataW.trod enc P W 0 sp held n e ci = some y ∧ ∀ j,j < c → W.cell? ⟨a.block,a.off + i * c + j,none⟩ = ci[j]? := by
  rcases DataW.trod_slice ht h with ⟨h0,_⟩ | ⟨a,len,cap,elems,rest,n,hf,rfl,rfl,_,hl,hm,hlen,hel,_,_⟩
  · exact .inl h0
  right
  have key : ∀ i,i < len → ∃ ci y,ci.length = c ∧ DataW.trod enc P W 0 sp held n e ci = some y ∧ ∀ j,j < c → W.cell? ((a.add (i * c)).add j) = ci[j]? := by
    intro i hi
    have h1 := hel i hi
    rw [hc,List.getElem?_eq_getElem (by omega)] at h1
    obtain ⟨ci,h2,h3⟩ := Option.bind_eq_some_iff.1 h1
    obtain ⟨_,h4,h5⟩ := World.cells?_some h2
    exact ⟨ci,_,h4,h3,h5⟩
  refine ⟨a,len,cap,n,hf,rfl,hl,hm,fun i hi => ?_⟩
  have hs : a.spot = none := by
    obtain ⟨ci,y,h1,_,h2⟩ := key 0 (by omega)
    have h3 := h2 0 hpos
    rw [List.getElem?_eq_getElem (by omega)] at h3
    simpa [Addr.add] using World.cell?_spot h3
  obtain ⟨b,off,spt⟩ := a
  simp at hs
  subst hs
  obtain ⟨ci,y,h1,h2,h3⟩ := key i hi
  refine ⟨rfl,ci,y,h1,h2,fun j hj => ?_⟩
  have := h3 j hj
  rwa [add_plain,add_plain] at this
end Pal
namespace Go.Proofs.YtpfhhikbaeknpaaGreatDoor
open Go Go.RowKit Go.ChangeShapes Go.WideShapes Go.ChangeAt Pal
def I64 (x : Int) : Prop := -9223372036854775808 ≤ x ∧ x ≤ 9223372036854775807
theorem size_len (s : ByteArray) : s.size = s.data.toList.length := rfl
section
variable {H : Type} {enc : TypeId × Value → H} {W : World} {sp : Nat → Bool} {held : Bool} {fuel : Nat} {cs : List Value} {x : DataW H × List MemPlace}
/-- An expression's cells; its kids, all the way down. -/
inductive Fine0 : Ex → Prop
  | mk (op n : Int) (s : Bs) (ks : List Ex) (ho : I64 op) (hn : I64 n) (hs : s.length ≤ 9223372036854775807) (hk : ∀ k ∈ ks,Fine0 k) : Fine0 (.mk op n s ks)
end
section
variable {H : Type} {enc : TypeId × Value → H} {W : World} {r : Go.Reach} {b0 : Nat} {v : Value} {d : DataW H} {ps : List MemPlace}
end
end Go.Proofs.YtpfhhikbaeknpaaGreatDoor
namespace Go.Proofs.YtpfhhikbaeknpaaGreatDoor
open Go Go.RowKit Go.ChangeShapes Go.WideShapes Go.ChangeAt Pal
theorem len5 {α : Type} {l : List α} (h : l.length = 5) : ∃ a b c d e,l = [a,b,c,d,e] := by
  match l,h with | [a,b,c,d,e],_ => exact ⟨a,b,c,d,e,rfl⟩
structure Fd0 (f : Fd) : Prop where
  n : f.n.length ≤ 9223372036854775807
  t : I64 f.t
  fo : f.fo.length ≤ 9223372036854775807
  ru : f.ru.length ≤ 9223372036854775807
  sh : f.sh.length ≤ 9223372036854775807
section
variable {H : Type} {enc : TypeId × Value → H} {W : World} {sp : Nat → Bool} {held : Bool} {fuel : Nat} {cs : List Value} {x : DataW H × List MemPlace}
theorem str_le {s : ByteArray} (w : s.size ≤ maxLen) : s.data.toList.length ≤ 9223372036854775807 := by
  rw [size_len] at w
  unfold maxLen at w
  simpa using w
/-- A field's cells. -/
theorem fd_trod (h : DataW.trod enc Tryz.prog W 0 sp held fuel 27 cs = some x) : ∃ f : Fd,cs = inCells f ∧ Fd0 f := by
  obtain ⟨xs,m,_,_,hl,hsz,hf⟩ := DataW.trod_struct Tryz.underlying27 h
  rw [show Tryz.prog.cellsOf 27 = 5 by kernel_rfl] at hl
  obtain ⟨a,b,c,d,e,rfl⟩ := len5 hl
  have z : xs.length = 5 := hsz
  have h0 : DataW.trod enc Tryz.prog W 0 sp held m 9 (([a,b,c,d,e].drop 0).take (Tryz.prog.cellsOf 9)) = xs[0]? := hf 0 _ rfl
  have h1 : DataW.trod enc Tryz.prog W 0 sp held m 3 (([a,b,c,d,e].drop 1).take (Tryz.prog.cellsOf 3)) = xs[1]? := hf 1 _ rfl
  have h2 : DataW.trod enc Tryz.prog W 0 sp held m 9 (([a,b,c,d,e].drop 2).take (Tryz.prog.cellsOf 9)) = xs[2]? := hf 2 _ rfl
  have h3 : DataW.trod enc Tryz.prog W 0 sp held m 9 (([a,b,c,d,e].drop 3).take (Tryz.prog.cellsOf 9)) = xs[3]? := hf 3 _ rfl
  have h4 : DataW.trod enc Tryz.prog W 0 sp held m 9 (([a,b,c,d,e].drop 4).take (Tryz.prog.cellsOf 9)) = xs[4]? := hf 4 _ rfl
  rw [List.getElem?_eq_getElem (by omega)] at h0 h1 h2 h3 h4
  rw [show Tryz.prog.cellsOf 9 = 1 by kernel_rfl] at h0 h2 h3 h4
  rw [show Tryz.prog.cellsOf 3 = 1 by kernel_rfl] at h1
  obtain ⟨s0,e0,_,w0⟩ := DataW.trod_string Tryz.underlying9 h0
  obtain ⟨k,e1,_,w1⟩ := DataW.trod_int Tryz.underlying3 h1
  obtain ⟨s2,e2,_,w2⟩ := DataW.trod_string Tryz.underlying9 h2
  obtain ⟨s3,e3,_,w3⟩ := DataW.trod_string Tryz.underlying9 h3
  obtain ⟨s4,e4,_,w4⟩ := DataW.trod_string Tryz.underlying9 h4
  simp at e0 e1 e2 e3 e4
  subst e0 e1 e2 e3 e4
  exact ⟨⟨s0.data.toList,k,s2.data.toList,s3.data.toList,s4.data.toList⟩,by simp [inCells],str_le w0,wf_i64 w1,str_le w2,str_le w3,str_le w4⟩
theorem fds_trod (h : DataW.trod enc Tryz.prog W 0 sp held fuel 25 cs = some x) :
    ∃ (v : Value) (l : List Fd),cs = [v] ∧ (FdsV (gh W) v l ∧ l.length ≤ 9223372036854775807) ∧ ∀ f ∈ l,Fd0 f := by
  rcases row_open Tryz.underlying25 (c := 5) (by kernel_rfl) (by decide) h with he | ⟨ad,len,cap,n',hn',he,hlc,hcm,hel⟩
  · exact ⟨_,[],he,⟨⟨none,0,rfl,fun _ => ⟨rfl,rfl⟩,Nat.le_refl _,by simp [maxLen],fun j c x hj => by simp at hj⟩,by simp⟩,by simp⟩
  · have hq : ∀ i,∃ q : Fd,i < len → ad = ⟨ad.block,ad.off,none⟩ ∧ (∀ j,j < 5 → W.cell? ⟨ad.block,ad.off + i * 5 + j,none⟩ = (inCells q)[j]?) ∧ Fd0 q := by
      intro i
      by_cases hi : i < len
      · obtain ⟨ha,ci,y,hcl,hy,hcells⟩ := hel i hi
        obtain ⟨v,rfl,hv⟩ := fd_trod hy
        exact ⟨v,fun _ => ⟨ha,hcells,hv⟩⟩
      · exact ⟨noFd,fun h => absurd h hi⟩
    obtain ⟨q,hq⟩ := Classical.axiomOfChoice hq
    have hlen : ((List.range len).map q).length = len := by simp
    have hcm2 : len ≤ 9223372036854775807 := by unfold maxLen at hcm; omega
    have hget : ∀ (j : Nat) (k : Fd),((List.range len).map q)[j]? = some k → j < len ∧ k = q j := by
      intro j k hj
      have hlt := (List.getElem?_eq_some_iff.1 hj).1
      rw [hlen] at hlt
      rw [List.getElem?_map,List.getElem?_range hlt] at hj
      simp at hj
      exact ⟨hlt,hj.symm⟩
    refine ⟨_,(List.range len).map q,he,⟨⟨some ad,cap,by rw [hlen],(fun h => by cases h),by rw [hlen]; exact hlc,hcm,fun j c x hj hc => ?_⟩,by rw [hlen]; exact hcm2⟩,fun k hk => ?_⟩
    · have hjl : j < len := by rwa [hlen] at hj
      have hd : ((List.range len).map q).getD j noFd = q j := by simp [List.getD,hjl]
      have hc' : (inCells (q j))[c]? = some x := by rw [← hd]; exact hc
      have hcl : c < 5 := (List.getElem?_eq_some_iff.1 hc').1
      obtain ⟨ha,hcc,_⟩ := hq j hjl
      refine ⟨ad.block,ad.off,by rw [← ha],?_⟩
      rw [gh_cell,show ad.off + (5 * j + c) = ad.off + j * 5 + c by omega,hcc c hcl]
      exact hc'
    · obtain ⟨j,hj⟩ := List.getElem?_of_mem hk
      obtain ⟨hlt,rfl⟩ := hget j k hj
      exact (hq j hlt).2.2
end
section
variable {H : Type} {enc : TypeId × Value → H} {W : World} {r : Go.Reach} {b0 : Nat} {v : Value} {d : DataW H} {ps : List MemPlace}
set_option maxRecDepth 1000000 in
theorem fds_open (hval : Value.okWide Tryz.prog W r b0 25 v) (h : DataW.Trod enc Tryz.prog W 0 (fun _ => true) true 25 v d ps) :
    ∃ l : List Fd,(FdsV (gh W) v l ∧ l.length ≤ 9223372036854775807) ∧ ∀ f ∈ l,Fd0 f := by
  obtain ⟨a,len,cap,rfl⟩ := okWide_slice Tryz.underlying25 hval
  obtain ⟨fuel,hf⟩ := h
  obtain ⟨v,l,hx,hv⟩ := fds_trod hf
  simp [Value.cells] at hx
  subst hx
  exact ⟨l,hv⟩
end
end Go.Proofs.YtpfhhikbaeknpaaGreatDoor
