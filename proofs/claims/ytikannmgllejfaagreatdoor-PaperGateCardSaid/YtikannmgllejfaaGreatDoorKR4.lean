/- What more the arguments' data tell: a slice that is nil has . -/
import Derived.Test.YtikannmgllejfaaGreatDoorKR1
import Derived.Test.YtikannmgllejfaaGreatDoorKEA
import Derived.ProofKit
import Derived.OpenShut
import Derived.SliceStrings
import Derived.Test.YtikannmgllejfaaGreatDoorKRN
import Derived.Test.YtikannmgllejfaaGreatDoorKVd
set_option maxHeartbeats 2000000
set_option maxRecDepth 1000000
set_option linter.all false
namespace Pal
open Go Go.RowKit Go.ChangeShapes Go.WideShapes Go.ChangeAt
theorem len3 {α:Type} {l:List α} (h:l.length=3):∃ a b c,l=[a,b,c]:=by
 match l,h with|[a,b,c],_=>exact ⟨a,b,c,rfl⟩
theorem Zm4 {H:Type} {enc:TypeId × Value->H} {P:Program} {W:World} {sp:Nat->Bool} {held:Bool} {t e:TypeId} {c fuel:Nat} {cs:List Value} {x:DataW H × List MemPlace}
 (ht:P.underlying t=some (.slice e)) (hc:P.cellsOf e=c) (hpos:0<c) (h:DataW.trod enc P W 0 sp held fuel t cs=some x) :
 cs=[.slice none 0 0]\/∃ a len cap n,fuel=n+1/\cs=[.slice (some a) len cap]/\len<=cap/\cap<=maxLen /\
  ∀ i,i<len->a=⟨a.block,a.off,none⟩/\∃ ci y,ci.length=c/\DataW.trod enc P W 0 sp held n e ci=some y/\∀ j,j<c->W.cell? ⟨a.block,a.off+i*c+j,none⟩=ci[j]?:=by
 rcases DataW.trod_slice ht h with ⟨h0,_⟩|⟨a,len,cap,elems,rest,n,hf,rfl,rfl,_,hl,hm,hlen,hel,_,_⟩
 . exact .inl h0
 right;have key:∀ i,i<len->∃ ci y,ci.length=c/\DataW.trod enc P W 0 sp held n e ci=some y/\∀ j,j<c->W.cell? ((a.add (i*c)).add j)=ci[j]?:=by intro i hi;have h1:=hel i hi;rw [hc,List.getElem?_eq_getElem (by omega)] at h1;obtain ⟨ci,h2,h3⟩:=Option.bind_eq_some_iff.1 h1;obtain ⟨_,h4,h5⟩:=World.cells?_some h2;exact ⟨ci,_,h4,h3,h5⟩
 refine ⟨a,len,cap,n,hf,rfl,hl,hm,fun i hi=>?_⟩;have hs:a.spot=none:=by obtain ⟨ci,y,h1,_,h2⟩:=key 0 (by omega);have h3:=h2 0 hpos;rw [List.getElem?_eq_getElem (by omega)] at h3;simpa [Addr.add] using World.cell?_spot h3
 obtain ⟨b,off,spt⟩:=a;simp at hs;subst hs;obtain ⟨ci,y,h1,h2,h3⟩:=key i hi;refine ⟨rfl,ci,y,h1,h2,fun j hj=>?_⟩;have:=h3 j hj;rwa [add_plain,add_plain] at this
end Pal
namespace Go.Proofs.YtikannmgllejfaaGreatDoor
open Go Go.RowKit Go.ChangeShapes Go.WideShapes Go.ChangeAt Pal
def I64 (x:Int):Prop := -9223372036854775808<=x/\x<=9223372036854775807
theorem Zm5 (s:ByteArray):s.size=s.data.toList.length:=rfl
section
variable {H : Type} {enc : TypeId × Value -> H} {W : World} {sp : Nat -> Bool} {held : Bool} {fuel : Nat} {cs : List Value} {x : DataW H × List MemPlace}
theorem Zm6 (h:DataW.trod enc Tryz.prog W 0 sp held fuel 48 cs=some x) :
 ∃ v:Val,cs=[.int .i64 v.k,.int .i64 v.n,strV v.s]/\I64 v.k/\I64 v.n/\v.s.length<=9223372036854775807:=by obtain ⟨xs,m,_,_,hl,hsz,hf⟩:=DataW.trod_struct Tryz.underlying48 h;rw [show Tryz.prog.cellsOf 48=3 by kernel_rfl] at hl;obtain ⟨a,b,c,rfl⟩:=len3 hl;have z:xs.length=3:=hsz;have h0:DataW.trod enc Tryz.prog W 0 sp held m 3 (([a,b,c].drop 0).take (Tryz.prog.cellsOf 3))=xs[0]?:=hf 0 _ rfl;have h1:DataW.trod enc Tryz.prog W 0 sp held m 2 (([a,b,c].drop 1).take (Tryz.prog.cellsOf 2))=xs[1]?:=hf 1 _ rfl;have h2:DataW.trod enc Tryz.prog W 0 sp held m 9 (([a,b,c].drop 2).take (Tryz.prog.cellsOf 9))=xs[2]?:=hf 2 _ rfl;rw [Yad (by omega)] at h0 h1 h2;rw [show Tryz.prog.cellsOf 3=1 by kernel_rfl] at h0;rw [show Tryz.prog.cellsOf 2=1 by kernel_rfl] at h1;rw [show Tryz.prog.cellsOf 9=1 by kernel_rfl] at h2;obtain ⟨k,e0,_,w0⟩:=DataW.trod_int Tryz.underlying3 h0;obtain ⟨n,e1,_,w1⟩:=DataW.trod_int Tryz.underlying2 h1;obtain ⟨s,e2,_,w2⟩:=DataW.trod_string Tryz.underlying9 h2;simp at e0 e1 e2;subst e0 e1 e2;refine ⟨⟨k,n,s.data.toList⟩,by simp only [ZbG],wf_i64 w0,wf_i64 w1,?_⟩;rw [Zm5] at w2;unfold maxLen at w2;simpa using w2
inductive Fine0:Ex->Prop
 | mk (op n:Int) (s:Bs) (ks:List Ex) (ho:I64 op) (hn:I64 n) (hs:s.length<=9223372036854775807) (hk:∀ k∈ks,Fine0 k):Fine0 (.mk op n s ks)
theorem Zm7 (h:DataW.trod enc Tryz.prog W 0 sp held fuel 23 cs=some x) :
 ∃ (v:Value) (l:List Val),cs=[v]/\ValsV (gh W) v l/\∀ v∈l,I64 v.k/\I64 v.n/\v.s.length<=9223372036854775807:=by
 rcases Zm4 Tryz.underlying23 (c:=3) (by kernel_rfl) (by decide) h with he|⟨ad,len,cap,n',hn',he,hlc,hcm,hel⟩
 . exact ⟨_,[],he,ZeE _,by simp⟩
 . have hq:∀ i,∃ q:Val,i<len->ad=⟨ad.block,ad.off,none⟩/\(W.cell? ⟨ad.block,ad.off+i*3,none⟩=some (.int .i64 q.k)/\W.cell? ⟨ad.block,ad.off+i*3+1,none⟩=some (.int .i64 q.n)/\W.cell? ⟨ad.block,ad.off+i*3+2,none⟩=some (strV q.s))/\I64 q.k/\I64 q.n/\q.s.length<=9223372036854775807:=by
    intro i;by_cases hi:i<len
    . obtain ⟨ha,ci,y,hcl,hy,hcells⟩:=hel i hi;obtain ⟨v,rfl,hv⟩:=Zm6 hy;exact ⟨v,fun _=>⟨ha,⟨hcells 0 (by omega),hcells 1 (by omega),hcells 2 (by omega)⟩,hv⟩⟩
    . exact ⟨vNil,fun h=>absurd h hi⟩
   obtain ⟨q,hq⟩:=Classical.axiomOfChoice hq;have hlen:((List.range len).map q).length=len:=(by simp);have hget:∀ (j:Nat) (k:Val),((List.range len).map q)[j]?=some k->j<len/\k=q j:=(by intro j k hj;have hlt:=(Yag.1 hj).1;rw [hlen] at hlt;rw [Yax,List.getElem?_range hlt] at hj;simp at hj;exact ⟨hlt,hj.symm⟩);refine ⟨_,(List.range len).map q,he,⟨some ad,cap,by rw [hlen],(fun h=>by cases h),by rw [hlen]; exact hlc,hcm,fun j k hj=>?_⟩,fun k hk=>?_⟩
   . obtain ⟨hlt,rfl⟩:=hget j k hj;obtain ⟨ha,⟨c0,c1,c2⟩,_⟩:=hq j hlt;exact ⟨ad.block,ad.off,by rw [<-ha],by rw [Zad]; exact c0,by rw [Zad]; exact c1,by rw [Zad]; exact c2⟩
   . obtain ⟨j,hj⟩:=List.getElem?_of_mem hk;obtain ⟨hlt,rfl⟩:=hget j k hj;exact (hq j hlt).2.2
theorem Zm8 (h:DataW.trod enc Tryz.prog W 0 sp held fuel 93 cs=some x) :
 ∃ (v:Value) (l:List Bs),cs=[v]/\StrsV (gh W) v l/\∀ s∈l,s.length<=9223372036854775807:=by
 rcases Zm4 Tryz.underlying93 (c:=1) (by kernel_rfl) (by decide) h with he|⟨ad,len,cap,n',hn',he,hlc,hcm,hel⟩
 . exact ⟨_,[],he,⟨none,0,rfl,fun _=>rfl,Nat.le_refl _,by simp [maxLen],fun j s hj=>by simp at hj⟩,by simp⟩
 . have hq:∀ i,∃ q:Bs,i<len->ad=⟨ad.block,ad.off,none⟩/\W.cell? ⟨ad.block,ad.off+i,none⟩=some (strV q)/\q.length<=9223372036854775807:=by
    intro i;by_cases hi:i<len
    . obtain ⟨ha,ci,y,hcl,hy,hcells⟩:=hel i hi;obtain ⟨s,rfl,_,hs⟩:=DataW.trod_string Tryz.underlying9 hy;refine ⟨s.data.toList,fun _=>⟨ha,?_,?_⟩⟩
      . have:=hcells 0 (by omega);rw [ZbG];simpa using this
      . rw [Zm5] at hs;unfold maxLen at hs;simpa using hs
    . exact ⟨[],fun h=>absurd h hi⟩
   obtain ⟨q,hq⟩:=Classical.axiomOfChoice hq;have hlen:((List.range len).map q).length=len:=(by simp);have hget:∀ (j:Nat) (k:Bs),((List.range len).map q)[j]?=some k->j<len/\k=q j:=(by intro j k hj;have hlt:=(Yag.1 hj).1;rw [hlen] at hlt;rw [Yax,List.getElem?_range hlt] at hj;simp at hj;exact ⟨hlt,hj.symm⟩);refine ⟨_,(List.range len).map q,he,⟨some ad,cap,by rw [hlen],(fun h=>by cases h),by rw [hlen]; exact hlc,hcm,fun j k hj=>?_⟩,fun k hk=>?_⟩
   . obtain ⟨hlt,rfl⟩:=hget j k hj;obtain ⟨ha,c0,_⟩:=hq j hlt;exact ⟨ad.block,ad.off,by rw [<-ha],by rw [Zad]; exact c0⟩
   . obtain ⟨j,hj⟩:=List.getElem?_of_mem hk;obtain ⟨hlt,rfl⟩:=hget j k hj;exact (hq j hlt).2.2
end
section
variable {H : Type} {enc : TypeId × Value -> H} {W : World} {r : Go.Reach} {b0 : Nat} {v : Value} {d : DataW H} {ps : List MemPlace}
theorem Zm9 (hval:Value.okWide Tryz.prog W r b0 23 v) (h:DataW.Trod enc Tryz.prog W 0 (fun _=>true) true 23 v d ps) :
 ∃ l:List Val,ValsV (gh W) v l/\∀ v∈l,I64 v.k/\I64 v.n/\v.s.length<=9223372036854775807:=by obtain ⟨a,len,cap,rfl⟩:=okWide_slice Tryz.underlying23 hval;obtain ⟨fuel,hf⟩:=h;obtain ⟨v,l,hx,hv⟩:=Zm7 hf;simp [Value.cells] at hx;subst hx;exact ⟨l,hv⟩
theorem Zna (hval:Value.okWide Tryz.prog W r b0 93 v) (h:DataW.Trod enc Tryz.prog W 0 (fun _=>true) true 93 v d ps) :
 ∃ l:List Bs,StrsV (gh W) v l/\∀ s∈l,s.length<=9223372036854775807:=by obtain ⟨a,len,cap,rfl⟩:=okWide_slice Tryz.underlying93 hval;obtain ⟨fuel,hf⟩:=h;obtain ⟨v,l,hx,hv⟩:=Zm8 hf;simp [Value.cells] at hx;subst hx;exact ⟨l,hv⟩
end
inductive Slim:Ex->Nat->Prop
 | mk (op n:Int) (s:Bs) (ks:List Ex) (deep:Nat) (hd:deep<=35) (hs:s.length<=1000) (hl:ks.length<=300) (hk:∀ k∈ks,Slim k (deep+1)):Slim (.mk op n s ks) deep
structure CpIn (n0:Nat) (tau:Tag) (W:World) (l:List (Ex × Value)) (sv:Value):Prop where
 row:Row tau 1 W 83 4 sv l.length (l.flatMap exCells)
 k:∀ x∈l,KV (gp (fun b=>n0<=b/\tau b≠1) W) x.2 x.1.ks
 ge:∀ b,tau b=1->n0<=b/\b<W.heap.size
section
variable {n0 : Nat} {tau : Tag} {W W' : World} {l : List (Ex × Value)} {sv : Value}
end
def copyPost (e:Ex) (w:World) (r:Ending) (w':World):Prop :=
 Below w.heap.size w w'/\∃ v,r = .returned (exV e.op e.n e.s v)/\KV (gp (fun b=>w.heap.size<=b) w') v e.ks
theorem infoEx:(Tryz.prog.info? 83).map (fun i=>(i.zero,i.size,i.bytes))=some (some (.agg #[.int .i64 0,.int .i64 0,.string ⟨#[]⟩,.slice none 0 0]),4,56):=by kernel_rfl
open Go Go.RowKit Go.ChangeShapes Go.WideShapes Go.ChangeAt Pal
def NilV (v:Value):Prop:=∀ n c,v = .slice none n c->n=0/\c=0
theorem Znb {H:Type} {enc:TypeId × Value->H} {P:Program} {W:World} {t e:TypeId} {c:Nat} {v:Value} {d:DataW H} {ps:List MemPlace}
 (ht:P.underlying t=some (.slice e)) (hc:P.cellsOf e=c) (hpos:0<c) (h:DataW.Trod enc P W 0 (fun _=>true) true t v d ps):NilV v:=by
 intro n k hv;subst hv;obtain ⟨fuel,hf⟩:=h;rcases Zm4 ht hc hpos hf with he|⟨a,len,cap,m,_,he,_⟩
 . simp [Value.cells] at he; exact he
 . simp [Value.cells] at he
section
variable {H : Type} {enc : TypeId × Value -> H} {W : World} {v : Value} {d : DataW H} {ps : List MemPlace}
theorem Znc (h:DataW.Trod enc Tryz.prog W 0 (fun _=>true) true 93 v d ps):NilV v:=Znb Tryz.underlying93 (c:=1) (by kernel_rfl) (by decide) h
theorem Znd (h:DataW.Trod enc Tryz.prog W 0 (fun _=>true) true 23 v d ps):NilV v:=Znb Tryz.underlying23 (c:=3) (by kernel_rfl) (by decide) h
end
theorem StrsV.len {h:GH} {v:Value} {l:List Bs} (t:StrsV h v l):l.length<=9223372036854775807:=by obtain ⟨_,_,hv,_,h1,h2,_⟩:=t;unfold maxLen at h2;omega
structure Kept (w W:World) (l:List (Nat × Obj)):Prop where
 below:Below w.heap.size w W
 mem:∀ x∈l,W.heap[x.1]?=some x.2
theorem size_alloc (W:World) (o:Obj):(W.alloc o).heap.size=W.heap.size+1:=by simp
section
variable {w W W' : World} {l : List (Nat × Obj)}
theorem Kept.start (w:World):Kept w w []:=⟨Yab _ _,fun x hx=>by cases hx⟩
theorem Kept.call (h:Kept w W l) (hb:Below W.heap.size W W'):Kept w W' l :=
 ⟨h.below.seq hb,fun x hx=>(hb.block _ (Yaa.1 (h.mem x hx)).1).trans (h.mem x hx)⟩
theorem Kept.drew (h:Kept w W l):Kept w W.drew l:=h.call (Yab _ _).drew
theorem Kept.new (h:Kept w W l) (o:Obj):Kept w (W.alloc o) ((W.heap.size,o)::l):=by
 refine ⟨h.below.alloc h.below.size o,fun x hx=>?_⟩;rcases Ybc.1 hx with rfl|hx
 . exact Yac W o
 . exact (Yah W o _ (Yaa.1 (h.mem x hx)).1).trans (h.mem x hx)
theorem Kept.newAt (h:Kept w W l) (o:Obj) {b:Nat} (hb:W.heap.size=b):Kept w (W.alloc o) ((b,o)::l):=by subst hb; exact h.new o
theorem Kept.new2 (h:Kept w W l) (o o2:Obj):Kept w ((W.alloc o).alloc o2) ((W.heap.size+1,o2)::(W.heap.size,o)::l):=(h.new o).newAt o2 (size_alloc W o)
theorem Kept.at0 {b:Nat} {o:Obj} (h:Kept w W ((b,o)::l)):W.heap[b]?=some o:=h.mem (b,o) (.head _)
theorem Kept.tail {x:Nat × Obj} (h:Kept w W (x::l)):Kept w W l:=⟨h.below,fun y hy=>h.mem y (.tail _ hy)⟩
theorem Kept.lt {b:Nat} {o:Obj} (h:Kept w W ((b,o)::l)):b<W.heap.size:=(Yaa.1 h.at0).1
end
def few9 (names:List Bs) (vals:List Val):Bool:=decide (names.length<=50)&&(decide (vals.length<=50)&&vals.all fun v=>decide (v.s.length<=1000))
theorem Znf {names:List Bs} {vals:List Val} (h:few9 names vals=true) (g:∀ v∈vals,I64 v.k/\I64 v.n/\v.s.length<=9223372036854775807):VFine vals:=by unfold few9 at h;rw [Bool.and_eq_true,Bool.and_eq_true,List.all_eq_true] at h;intro v hv;have:=of_decide_eq_true (h.2.2 v hv);exact ⟨(g v hv).2.1,by omega⟩
theorem Zng {names:List Bs} {vals:List Val} (h:few9 names vals=true):names.length<=50/\vals.length<=50:=by unfold few9 at h;rw [Bool.and_eq_true,Bool.and_eq_true] at h;exact ⟨of_decide_eq_true h.1,of_decide_eq_true h.2.1⟩
end Go.Proofs.YtikannmgllejfaaGreatDoor
