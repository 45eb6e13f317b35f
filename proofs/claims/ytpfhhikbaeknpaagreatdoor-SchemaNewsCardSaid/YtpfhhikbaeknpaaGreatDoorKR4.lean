/- What more the arguments' data tell: a slice that is nil has . -/
import Derived.Test.YtpfhhikbaeknpaaGreatDoorKR1
import Derived.Test.YtpfhhikbaeknpaaGreatDoorKT3
import Derived.ProofKit
import Derived.OpenShut
import Derived.SliceStrings
import Derived.Test.YtpfhhikbaeknpaaGreatDoorKRN
import Derived.Test.YtpfhhikbaeknpaaGreatDoorKVd
set_option linter.all false
namespace Pal
open Go Go.RowKit Go.ChangeShapes Go.WideShapes Go.ChangeAt
theorem Zm7 {H:Type} {enc:TypeId × Value→H} {P:Program} {W:World} {sp:Nat→Bool} {held:Bool} {t e:TypeId} {c fuel:Nat} {cs:List Value} {x:DataW H × List MemPlace}
 (ht:P.underlying t=some (.slice e)) (hc:P.cellsOf e=c) (hpos:0<c) (h:DataW.trod enc P W 0 sp held fuel t cs=some x) :
 cs=[.slice none 0 0]∨∃ a len cap n,fuel=n+1∧cs=[.slice (some a) len cap]∧len≤cap∧cap≤maxLen ∧
  ∀ i,i<len→a=⟨a.block,a.off,none⟩∧∃ ci y,ci.length=c∧DataW.trod enc P W 0 sp held n e ci=some y∧∀ j,j<c→W.cell? ⟨a.block,a.off+i*c+j,none⟩=ci[j]?:=by
 rcases DataW.trod_slice ht h with ⟨h0,_⟩|⟨a,len,cap,elems,rest,n,hf,rfl,rfl,_,hl,hm,hlen,hel,_,_⟩
 · exact .inl h0
 right
 have key:∀ i,i<len→∃ ci y,ci.length=c∧DataW.trod enc P W 0 sp held n e ci=some y∧∀ j,j<c→W.cell? ((a.add (i*c)).add j)=ci[j]?:=by
  intro i hi
  have h1:=hel i hi
  rw [hc,List.getElem?_eq_getElem (by omega)] at h1
  obtain ⟨ci,h2,h3⟩:=Option.bind_eq_some_iff.1 h1
  obtain ⟨_,h4,h5⟩:=World.cells?_some h2
  exact ⟨ci,_,h4,h3,h5⟩
 refine ⟨a,len,cap,n,hf,rfl,hl,hm,fun i hi=>?_⟩
 have hs:a.spot=none:=by
  obtain ⟨ci,y,h1,_,h2⟩:=key 0 (by omega)
  have h3:=h2 0 hpos
  rw [List.getElem?_eq_getElem (by omega)] at h3
  simpa [Addr.add] using World.cell?_spot h3
 obtain ⟨b,off,spt⟩:=a
 simp at hs
 subst hs
 obtain ⟨ci,y,h1,h2,h3⟩:=key i hi
 refine ⟨rfl,ci,y,h1,h2,fun j hj=>?_⟩
 have:=h3 j hj
 rwa [add_plain,add_plain] at this
end Pal
namespace Go.Proofs.YtpfhhikbaeknpaaGreatDoor
open Go Go.RowKit Go.ChangeShapes Go.WideShapes Go.ChangeAt Pal
def I64 (x:Int):Prop := -9223372036854775808≤x∧x≤9223372036854775807
theorem Zm8 (s:ByteArray):s.size=s.data.toList.length:=rfl
section
variable {H : Type} {enc : TypeId × Value → H} {W : World} {sp : Nat → Bool} {held : Bool} {fuel : Nat} {cs : List Value} {x : DataW H × List MemPlace}
inductive Fine0:Ex→Prop
 | mk (op n:Int) (s:Bs) (ks:List Ex) (ho:I64 op) (hn:I64 n) (hs:s.length≤9223372036854775807) (hk:∀ k∈ks,Fine0 k):Fine0 (.mk op n s ks)
end
section
variable {H : Type} {enc : TypeId × Value → H} {W : World} {r : Go.Reach} {b0 : Nat} {v : Value} {d : DataW H} {ps : List MemPlace}
end
inductive Slim:Ex→Nat→Prop
 | mk (op n:Int) (s:Bs) (ks:List Ex) (deep:Nat) (hd:deep≤35) (hs:s.length≤1000) (hl:ks.length≤300) (hk:∀ k∈ks,Slim k (deep+1)):Slim (.mk op n s ks) deep
structure CpIn (n0:Nat) (tau:Tag) (W:World) (l:List (Ex × Value)) (sv:Value):Prop where
 row:Row tau 1 W 61 4 sv l.length (l.flatMap exCells)
 k:∀ x∈l,KV (gp (fun b=>n0≤b∧tau b≠1) W) x.2 x.1.ks
 ge:∀ b,tau b=1→n0≤b∧b<W.heap.size
section
variable {n0 : Nat} {tau : Tag} {W W' : World} {l : List (Ex × Value)} {sv : Value}
theorem CpIn.keep (h:CpIn n0 tau W l sv) (hb:Below W.heap.size W W'):CpIn n0 tau W' l sv :=
 ⟨h.row.call hb,fun x hx=>(h.k x hx).mono (ZdJ fun b hb2 hl=>⟨hb2,hb.block _ hl⟩),fun b hb2=>⟨(h.ge b hb2).1,by have:=(h.ge b hb2).2; have:=hb.size; omega⟩⟩
theorem CpIn.kv (h:CpIn n0 tau W l sv):KV (gp (fun b=>n0≤b) W) sv (l.map Prod.fst):=by
 obtain ⟨a,cap,hv,h1,h2,h3,h4⟩:=SlV.ofRow exCells l (⟨.mk 0 0 [] [],.nilIface⟩:Ex × Value) (by decide) ZfU h.row
 have ht:=h.row.tag
 subst hv
 have hlm:l.length=(l.map Prod.fst).length:=by simp
 rw [hlm] at h1 h2 h4 ⊢
 have hbk:∀ b off,a=some ⟨b,off,none⟩→n0≤b:=by
  intro b off e
  subst e
  exact (h.ge b (ht b rfl)).1
 have hcell:∀ (b off i:Nat) (x:Value),a=some ⟨b,off,none⟩→(gh W).cell b i=some x→(gp (fun b=>n0≤b) W).cell b i=some x:=by
  intro b off i x e hc
  unfold GH.cell gp
  rw [if_pos (hbk b off e)]
  exact hc
 have hget:∀ (j:Nat) (k:Ex),(l.map Prod.fst)[j]?=some k→j<(l.map Prod.fst).length∧∃ x∈l,l.getD j ⟨.mk 0 0 [] [],.nilIface⟩=x∧x.1=k:=by
  intro j k hj
  obtain ⟨hjl,-⟩:=List.getElem?_eq_some_iff.1 hj
  rw [List.getElem?_map] at hj
  cases hx:l[j]? with
  | none=>rw [hx] at hj; cases hj
  | some x =>
   rw [hx] at hj
   simp only [Option.map_some,Option.some.injEq] at hj
   refine ⟨hjl,x,List.mem_of_getElem? hx,?_,hj⟩
   rw [List.getD_eq_getElem?_getD,hx]; rfl
 refine .mk (l.map Prod.fst) a cap (fun j=>(l.getD j ⟨.mk 0 0 [] [],.nilIface⟩).2) (fun e=>?_) h2 h3 (fun j k hj=>?_) (fun j k hj=>?_)
 · have:=h1 e
   exact ⟨List.eq_nil_of_length_eq_zero this.1,this.2⟩
 · obtain ⟨hjl,x,hx,hg,rfl⟩:=hget j k hj
   have e0:=h4 j 0 _ hjl (by simp only [hg]; rfl)
   have e1:=h4 j 1 _ hjl (by simp only [hg]; rfl)
   have e2:=h4 j 2 _ hjl (by simp only [hg]; rfl)
   have e3:=h4 j 3 _ hjl (by simp only [hg]; rfl)
   obtain ⟨b,off,ha,c0⟩:=e0
   obtain ⟨b1,off1,ha1,c1⟩:=e1
   obtain ⟨b2,off2,ha2,c2⟩:=e2
   obtain ⟨b3,off3,ha3,c3⟩:=e3
   rw [ha] at ha1 ha2 ha3
   simp only [Option.some.injEq,Addr.mk.injEq,and_true] at ha1 ha2 ha3
   obtain ⟨rfl,rfl⟩:=ha1
   obtain ⟨rfl,rfl⟩:=ha2
   obtain ⟨rfl,rfl⟩:=ha3
   refine ⟨b,off,ha,?_,?_,?_,?_⟩
   · have:=hcell b off _ _ ha c0; rw [show off+(4*j+0)=off+j*4 by omega] at this; exact this
   · have:=hcell b off _ _ ha c1; rw [show off+(4*j+1)=off+j*4+1 by omega] at this; exact this
   · have:=hcell b off _ _ ha c2; rw [show off+(4*j+2)=off+j*4+2 by omega] at this; exact this
   · have:=hcell b off _ _ ha c3; rw [show off+(4*j+3)=off+j*4+3 by omega] at this; simp only [hg]; exact this
 · obtain ⟨hjl,x,hx,hg,rfl⟩:=hget j k hj
   simp only [hg]
   exact (h.k x hx).mono (ZdJ fun b hb _=>⟨hb.1,rfl⟩)
theorem CpIn.app {t':Tag} {w':World} {v':Value} {e:Ex} {u:Value} (h:CpIn n0 tau W l sv) (hn:n0≤W.heap.size) (hr:Row t' 1 w' 61 4 v' (l.length+1) (l.flatMap exCells++exCells (e,u)))
 (he:Evo tau W t' w' (·=1)) (hu:KV (gp (fun b=>n0≤b∧tau b≠1) W) u e.ks) :
 (∃ t2,CpIn n0 t2 w' (l++[(e,u)]) v')∧∀ w0:World,Below n0 w0 W→Below n0 w0 w':=by
 have nt:∀ b,b<n0→tau b≠1:=fun b hb e=>by have:=(h.ge b e).1; omega
 have hblk:∀ b,b<W.heap.size→tau b≠1→w'.heap[b]?=W.heap[b]?:=fun b hb hn=>he.block b hb hn
 have hlive:∀ b,v'.ownBlock=some b→b<w'.heap.size:=by
  intro b hb
  rcases hr.own.2 with ⟨rfl,hn⟩|⟨g,cap,cur,rfl,hbg,hgg,hn,hc,hs,ht⟩
  · simp [Value.ownBlock] at hb
  · simp [Value.ownBlock] at hb
    subst hb
    exact (Array.getElem?_eq_some_iff.1 hgg).1
 have hs:=he.size
 have hnew:∀ b,b<w'.heap.size→t' b=1→n0≤b:=by
  intro b hb e
  by_cases hbl:b<W.heap.size
  · rw [he.tag b hbl] at e; exact (h.ge b e).1
  · omega
 have hfl:(l++[(e,u)]).flatMap exCells=l.flatMap exCells++exCells (e,u):=by rw [List.flatMap_append]; simp
 have hkk:∀ (u:Value) (ks:List Ex),KV (gp (fun b=>n0≤b∧tau b≠1) W) u ks→KV (gp (fun b=>n0≤b∧(if b<w'.heap.size then t' b else 0)≠1) w') u ks:=fun u ks hk =>
  hk.mono (ZdJ fun b hb hl=>⟨⟨hb.1,by rw [if_pos (by omega),he.tag b hl]; exact hb.2⟩,hblk b hl hb.2⟩)
 refine ⟨⟨fun b=>if b<w'.heap.size then t' b else 0,⟨?_,?_,?_⟩⟩,?_⟩
 · rw [hfl,List.length_append]
   exact ⟨hr.own,fun g hg=>by
    show (if g<w'.heap.size then t' g else 0)=1
    rw [if_pos (hlive g hg)]; exact hr.tag g hg⟩
 · intro x hx
   rcases List.mem_append.1 hx with hx|hx
   · exact hkk _ _ (h.k x hx)
   · obtain rfl:=List.mem_singleton.1 hx
     exact hkk _ _ hu
 · intro b hb
   by_cases hbl:b<w'.heap.size
   · rw [if_pos hbl] at hb
     exact ⟨hnew b hbl hb,hbl⟩
   · rw [if_neg hbl] at hb; omega
 · intro w0 h0
   exact ⟨he.os.trans h0.os,he.tape.trans h0.tape,he.output.trans h0.output,Nat.le_trans h0.size hs,fun b hb=>(hblk b (by omega) (nt b hb)).trans (h0.block b hb)⟩
end
def copyPost (e:Ex) (w:World) (r:Ending) (w':World):Prop :=
 Below w.heap.size w w'∧∃ v,r = .returned (exV e.op e.n e.s v)∧KV (gp (fun b=>w.heap.size≤b) w') v e.ks
theorem infoEx:(Tryz.prog.info? 61).map (fun i=>(i.zero,i.size,i.bytes))=some (some (.agg #[.int .i64 0,.int .i64 0,.string ⟨#[]⟩,.slice none 0 0]),4,56):=by kernel_rfl
open Go Go.RowKit Go.ChangeShapes Go.WideShapes Go.ChangeAt Pal
section
variable {H : Type} {enc : TypeId × Value → H} {W : World} {v : Value} {d : DataW H} {ps : List MemPlace}
end
theorem StrsV.len {h:GH} {v:Value} {l:List Bs} (t:StrsV h v l):l.length≤9223372036854775807:=by
 obtain ⟨_,_,hv,_,h1,h2,_⟩:=t
 unfold maxLen at h2
 omega
structure Kept (w W:World) (l:List (Nat × Obj)):Prop where
 below:Below w.heap.size w W
 mem:∀ x∈l,W.heap[x.1]?=some x.2
theorem size_alloc (W:World) (o:Obj):(W.alloc o).heap.size=W.heap.size+1:=by simp
section
variable {w W W' : World} {l : List (Nat × Obj)}
theorem Kept.start (w:World):Kept w w []:=⟨Below.refl _ _,fun x hx=>by cases hx⟩
theorem Kept.call (h:Kept w W l) (hb:Below W.heap.size W W'):Kept w W' l :=
 ⟨h.below.seq hb,fun x hx=>(hb.block _ (Array.getElem?_eq_some_iff.1 (h.mem x hx)).1).trans (h.mem x hx)⟩
theorem Kept.new (h:Kept w W l) (o:Obj):Kept w (W.alloc o) ((W.heap.size,o)::l):=by
 refine ⟨h.below.alloc h.below.size o,fun x hx=>?_⟩
 rcases List.mem_cons.1 hx with rfl|hx
 · exact heap_alloc_new W o
 · exact (Lib.alloc_old W o _ (Array.getElem?_eq_some_iff.1 (h.mem x hx)).1).trans (h.mem x hx)
theorem Kept.newAt (h:Kept w W l) (o:Obj) {b:Nat} (hb:W.heap.size=b):Kept w (W.alloc o) ((b,o)::l):=by subst hb; exact h.new o
theorem Kept.new2 (h:Kept w W l) (o o2:Obj):Kept w ((W.alloc o).alloc o2) ((W.heap.size+1,o2)::(W.heap.size,o)::l):=(h.new o).newAt o2 (size_alloc W o)
theorem Kept.at0 {b:Nat} {o:Obj} (h:Kept w W ((b,o)::l)):W.heap[b]?=some o:=h.mem (b,o) (.head _)
end
end Go.Proofs.YtpfhhikbaeknpaaGreatDoor
