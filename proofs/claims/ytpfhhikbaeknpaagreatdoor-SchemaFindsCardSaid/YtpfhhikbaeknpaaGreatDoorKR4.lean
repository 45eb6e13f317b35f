/- What more the arguments' data tell: a slice that is nil has no room; numbers as the walks ask them. Condition: the data read from the world. What stan -/
import Derived.Test.YtpfhhikbaeknpaaGreatDoorKR1
import Derived.Test.YtpfhhikbaeknpaaGreatDoorKT2
import Derived.ProofKit
import Derived.OpenShut
import Derived.SliceStrings
import Derived.Test.YtpfhhikbaeknpaaGreatDoorKRN
import Derived.Test.YtpfhhikbaeknpaaGreatDoorKVd
set_option linter.unusedSectionVars false
set_option linter.unusedSimpArgs false
set_option linter.unusedVariables false
namespace Pal
open Go Go.RowKit Go.ChangeShapes Go.WideShapes Go.ChangeAt
theorem row_open {H:Type} {enc:TypeId × Value→H} {P:Program} {W:World} {sp:Nat→Bool} {held:Bool} {t e:TypeId} {c fuel:Nat} {cs:List Value} {x:DataW H × List MemPlace}
 (ht:P.underlying t=some (.slice e)) (hc:P.cellsOf e=c) (hpos:0<c) (h:DataW.trod enc P W 0 sp held fuel t cs=some x) :
 cs=[.slice none 0 0]∨∃ a len cap n,fuel=n+1∧cs=[.slice (some a) len cap]∧len≤cap∧cap≤maxLen ∧
  ∀ i,i<len→a=⟨a.block,a.off,none⟩∧∃ ci y,ci.length=c∧DataW.trod enc P W 0 sp held n e ci=some y∧∀ j,j<c→W.cell? ⟨a.block,a.off+i*c+j,none⟩=ci[j]?:=by
 rcases DataW.trod_slice ht h with ⟨h0,_⟩|⟨a,len,cap,elems,rest,n,hf,rfl,rfl,_,hl,hm,hlen,hel,_,_⟩
 · exact .inl h0
 right
 have key:∀ i,i<len→∃ ci y,ci.length=c∧DataW.trod enc P W 0 sp held n e ci=some y∧∀ j,j<c→W.cell? ((a.add (i*c)).add j)=ci[j]?:=by
  intro i hi
  have h1:=hel i hi
  rw [hc,List.getElem?_eq_getElem (by omega)] at h1
  obtain ⟨ci,h2,h3⟩:=Option.bind_eq_some_iff.1 h1
  obtain ⟨_,h4,h5⟩:=World.cells?_some h2
  exact ⟨ci,_,h4,h3,h5⟩
 refine ⟨a,len,cap,n,hf,rfl,hl,hm,fun i hi=>?_⟩
 have hs:a.spot=none:=by
  obtain ⟨ci,y,h1,_,h2⟩:=key 0 (by omega)
  have h3:=h2 0 hpos
  rw [List.getElem?_eq_getElem (by omega)] at h3
  simpa [Addr.add] using World.cell?_spot h3
 obtain ⟨b,off,spt⟩:=a
 simp at hs
 subst hs
 obtain ⟨ci,y,h1,h2,h3⟩:=key i hi
 refine ⟨rfl,ci,y,h1,h2,fun j hj=>?_⟩
 have:=h3 j hj
 rwa [add_plain,add_plain] at this
end Pal
namespace Go.Proofs.YtpfhhikbaeknpaaGreatDoor
open Go Go.RowKit Go.ChangeShapes Go.WideShapes Go.ChangeAt Pal
def I64 (x:Int):Prop := -9223372036854775808≤x∧x≤9223372036854775807
theorem size_len (s:ByteArray):s.size=s.data.toList.length:=rfl
section
variable {H : Type} {enc : TypeId × Value → H} {W : World} {sp : Nat → Bool} {held : Bool} {fuel : Nat} {cs : List Value} {x : DataW H × List MemPlace}
inductive Fine0:Ex→Prop
 | mk (op n:Int) (s:Bs) (ks:List Ex) (ho:I64 op) (hn:I64 n) (hs:s.length≤9223372036854775807) (hk:∀ k∈ks,Fine0 k):Fine0 (.mk op n s ks)
end
section
variable {H : Type} {enc : TypeId × Value → H} {W : World} {r : Go.Reach} {b0 : Nat} {v : Value} {d : DataW H} {ps : List MemPlace}
end
inductive Slim:Ex→Nat→Prop
 | mk (op n:Int) (s:Bs) (ks:List Ex) (deep:Nat) (hd:deep≤35) (hs:s.length≤1000) (hl:ks.length≤300) (hk:∀ k∈ks,Slim k (deep+1)):Slim (.mk op n s ks) deep
structure CpIn (n0:Nat) (tau:Tag) (W:World) (l:List (Ex × Value)) (sv:Value):Prop where
 row:Row tau 1 W 61 4 sv l.length (l.flatMap exCells)
 k:∀ x∈l,KV (gp (fun b=>n0≤b∧tau b≠1) W) x.2 x.1.ks
 ge:∀ b,tau b=1→n0≤b∧b<W.heap.size
section
variable {n0 : Nat} {tau : Tag} {W W' : World} {l : List (Ex × Value)} {sv : Value}
end
theorem infoEx:(Tryz.prog.info? 61).map (fun i=>(i.zero,i.size,i.bytes))=some (some (.agg #[.int .i64 0,.int .i64 0,.string ⟨#[]⟩,.slice none 0 0]),4,56):=by kernel_rfl
open Go Go.RowKit Go.ChangeShapes Go.WideShapes Go.ChangeAt Pal
section
variable {H : Type} {enc : TypeId × Value → H} {W : World} {v : Value} {d : DataW H} {ps : List MemPlace}
end
theorem StrsV.len {h:GH} {v:Value} {l:List Bs} (t:StrsV h v l):l.length≤9223372036854775807:=by
 obtain ⟨_,_,hv,_,h1,h2,_⟩:=t
 unfold maxLen at h2
 omega
structure Kept (w W:World) (l:List (Nat × Obj)):Prop where
 below:Below w.heap.size w W
 mem:∀ x∈l,W.heap[x.1]?=some x.2
theorem size_alloc (W:World) (o:Obj):(W.alloc o).heap.size=W.heap.size+1:=by simp
section
variable {w W W' : World} {l : List (Nat × Obj)}
theorem Kept.start (w:World):Kept w w []:=⟨Below.refl _ _,fun x hx=>by cases hx⟩
theorem Kept.call (h:Kept w W l) (hb:Below W.heap.size W W'):Kept w W' l :=
 ⟨h.below.seq hb,fun x hx=>(hb.block _ (Array.getElem?_eq_some_iff.1 (h.mem x hx)).1).trans (h.mem x hx)⟩
theorem Kept.new (h:Kept w W l) (o:Obj):Kept w (W.alloc o) ((W.heap.size,o)::l):=by
 refine ⟨h.below.alloc h.below.size o,fun x hx=>?_⟩
 rcases List.mem_cons.1 hx with rfl|hx
 · exact heap_alloc_new W o
 · exact (Lib.alloc_old W o _ (Array.getElem?_eq_some_iff.1 (h.mem x hx)).1).trans (h.mem x hx)
theorem Kept.newAt (h:Kept w W l) (o:Obj) {b:Nat} (hb:W.heap.size=b):Kept w (W.alloc o) ((b,o)::l):=by subst hb; exact h.new o
theorem Kept.new2 (h:Kept w W l) (o o2:Obj):Kept w ((W.alloc o).alloc o2) ((W.heap.size+1,o2)::(W.heap.size,o)::l):=(h.new o).newAt o2 (size_alloc W o)
theorem Kept.at0 {b:Nat} {o:Obj} (h:Kept w W ((b,o)::l)):W.heap[b]?=some o:=h.mem (b,o) (.head _)
end
end Go.Proofs.YtpfhhikbaeknpaaGreatDoor
