/- What more the arguments' data tell: a slice that is nil has . -/
import Derived.Test.YtikannmgllejfaaGreatDoorKR1
import Derived.Test.YtikannmgllejfaaGreatDoorKEA
import Derived.ProofKit
import Derived.OpenShut
import Derived.SliceStrings
import Derived.Test.YtikannmgllejfaaGreatDoorKRN
import Derived.Test.YtikannmgllejfaaGreatDoorKVd
set_option maxHeartbeats 2000000
set_option maxRecDepth 1000000
set_option linter.all false
namespace Pal
open Go Go.RowKit Go.ChangeShapes Go.WideShapes Go.ChangeAt
theorem len3 {α:Type} {l:List α} (h:l.length=3):∃ a b c,l=[a,b,c]:=by
 match l,h with|[a,b,c],_=>exact ⟨a,b,c,rfl⟩
theorem Zm4 {H:Type} {enc:TypeId × Value->H} {P:Program} {W:World} {sp:Nat->Bool} {held:Bool} {t e:TypeId} {c fuel:Nat} {cs:List Value} {x:DataW H × List MemPlace}
 (ht:P.underlying t=some (.slice e)) (hc:P.cellsOf e=c) (hpos:0<c) (h:DataW.trod enc P W 0 sp held fuel t cs=some x) :
 cs=[.slice none 0 0]\/∃ a len cap n,fuel=n+1/\cs=[.slice (some a) len cap]/\len<=cap/\cap<=maxLen /\
  ∀ i,i<len->a=⟨a.block,a.off,none⟩/\∃ ci y,ci.length=c/\DataW.trod enc P W 0 sp held n e ci=some y/\∀ j,j<c->W.cell? ⟨a.block,a.off+i*c+j,none⟩=ci[j]?:=by
 rcases DataW.trod_slice ht h with ⟨h0,_⟩|⟨a,len,cap,elems,rest,n,hf,rfl,rfl,_,hl,hm,hlen,hel,_,_⟩
 . exact .inl h0
 right;have key:∀ i,i<len->∃ ci y,ci.length=c/\DataW.trod enc P W 0 sp held n e ci=some y/\∀ j,j<c->W.cell? ((a.add (i*c)).add j)=ci[j]?:=by intro i hi;have h1:=hel i hi;rw [hc,List.getElem?_eq_getElem (by omega)] at h1;obtain ⟨ci,h2,h3⟩:=Option.bind_eq_some_iff.1 h1;obtain ⟨_,h4,h5⟩:=World.cells?_some h2;exact ⟨ci,_,h4,h3,h5⟩
 refine ⟨a,len,cap,n,hf,rfl,hl,hm,fun i hi=>?_⟩;have hs:a.spot=none:=by obtain ⟨ci,y,h1,_,h2⟩:=key 0 (by omega);have h3:=h2 0 hpos;rw [List.getElem?_eq_getElem (by omega)] at h3;simpa [Addr.add] using World.cell?_spot h3
 obtain ⟨b,off,spt⟩:=a;simp at hs;subst hs;obtain ⟨ci,y,h1,h2,h3⟩:=key i hi;refine ⟨rfl,ci,y,h1,h2,fun j hj=>?_⟩;have:=h3 j hj;rwa [add_plain,add_plain] at this
end Pal
namespace Go.Proofs.YtikannmgllejfaaGreatDoor
open Go Go.RowKit Go.ChangeShapes Go.WideShapes Go.ChangeAt Pal
def I64 (x:Int):Prop := -9223372036854775808<=x/\x<=9223372036854775807
theorem Zm5 (s:ByteArray):s.size=s.data.toList.length:=rfl
section
variable {H : Type} {enc : TypeId × Value -> H} {W : World} {sp : Nat -> Bool} {held : Bool} {fuel : Nat} {cs : List Value} {x : DataW H × List MemPlace}
theorem Zm6 (h:DataW.trod enc Tryz.prog W 0 sp held fuel 48 cs=some x) :
 ∃ v:Val,cs=[.int .i64 v.k,.int .i64 v.n,strV v.s]/\I64 v.k/\I64 v.n/\v.s.length<=9223372036854775807:=by obtain ⟨xs,m,_,_,hl,hsz,hf⟩:=DataW.trod_struct Tryz.underlying48 h;rw [show Tryz.prog.cellsOf 48=3 by kernel_rfl] at hl;obtain ⟨a,b,c,rfl⟩:=len3 hl;have z:xs.length=3:=hsz;have h0:DataW.trod enc Tryz.prog W 0 sp held m 3 (([a,b,c].drop 0).take (Tryz.prog.cellsOf 3))=xs[0]?:=hf 0 _ rfl;have h1:DataW.trod enc Tryz.prog W 0 sp held m 2 (([a,b,c].drop 1).take (Tryz.prog.cellsOf 2))=xs[1]?:=hf 1 _ rfl;have h2:DataW.trod enc Tryz.prog W 0 sp held m 9 (([a,b,c].drop 2).take (Tryz.prog.cellsOf 9))=xs[2]?:=hf 2 _ rfl;rw [Yad (by omega)] at h0 h1 h2;rw [show Tryz.prog.cellsOf 3=1 by kernel_rfl] at h0;rw [show Tryz.prog.cellsOf 2=1 by kernel_rfl] at h1;rw [show Tryz.prog.cellsOf 9=1 by kernel_rfl] at h2;obtain ⟨k,e0,_,w0⟩:=DataW.trod_int Tryz.underlying3 h0;obtain ⟨n,e1,_,w1⟩:=DataW.trod_int Tryz.underlying2 h1;obtain ⟨s,e2,_,w2⟩:=DataW.trod_string Tryz.underlying9 h2;simp at e0 e1 e2;subst e0 e1 e2;refine ⟨⟨k,n,s.data.toList⟩,by simp only [ZbG],wf_i64 w0,wf_i64 w1,?_⟩;rw [Zm5] at w2;unfold maxLen at w2;simpa using w2
theorem Zm7 (h:DataW.trod enc Tryz.prog W 0 sp held fuel 23 cs=some x) :
 ∃ (v:Value) (l:List Val),cs=[v]/\ValsV (gh W) v l/\∀ v∈l,I64 v.k/\I64 v.n/\v.s.length<=9223372036854775807:=by
 rcases Zm4 Tryz.underlying23 (c:=3) (by kernel_rfl) (by decide) h with he|⟨ad,len,cap,n',hn',he,hlc,hcm,hel⟩
 . exact ⟨_,[],he,ZeE _,by simp⟩
 . have hq:∀ i,∃ q:Val,i<len->ad=⟨ad.block,ad.off,none⟩/\(W.cell? ⟨ad.block,ad.off+i*3,none⟩=some (.int .i64 q.k)/\W.cell? ⟨ad.block,ad.off+i*3+1,none⟩=some (.int .i64 q.n)/\W.cell? ⟨ad.block,ad.off+i*3+2,none⟩=some (strV q.s))/\I64 q.k/\I64 q.n/\q.s.length<=9223372036854775807:=by
    intro i;by_cases hi:i<len
    . obtain ⟨ha,ci,y,hcl,hy,hcells⟩:=hel i hi;obtain ⟨v,rfl,hv⟩:=Zm6 hy;exact ⟨v,fun _=>⟨ha,⟨hcells 0 (by omega),hcells 1 (by omega),hcells 2 (by omega)⟩,hv⟩⟩
    . exact ⟨vNil,fun h=>absurd h hi⟩
   obtain ⟨q,hq⟩:=Classical.axiomOfChoice hq;have hlen:((List.range len).map q).length=len:=(by simp);have hget:∀ (j:Nat) (k:Val),((List.range len).map q)[j]?=some k->j<len/\k=q j:=(by intro j k hj;have hlt:=(Yag.1 hj).1;rw [hlen] at hlt;rw [Yax,List.getElem?_range hlt] at hj;simp at hj;exact ⟨hlt,hj.symm⟩);refine ⟨_,(List.range len).map q,he,⟨some ad,cap,by rw [hlen],(fun h=>by cases h),by rw [hlen]; exact hlc,hcm,fun j k hj=>?_⟩,fun k hk=>?_⟩
   . obtain ⟨hlt,rfl⟩:=hget j k hj;obtain ⟨ha,⟨c0,c1,c2⟩,_⟩:=hq j hlt;exact ⟨ad.block,ad.off,by rw [<-ha],by rw [Zad]; exact c0,by rw [Zad]; exact c1,by rw [Zad]; exact c2⟩
   . obtain ⟨j,hj⟩:=List.getElem?_of_mem hk;obtain ⟨hlt,rfl⟩:=hget j k hj;exact (hq j hlt).2.2
def NumsV (h:GH) (v:Value) (l:List Int):Prop:=∃ a cap,v = .slice a l.length cap/\(a=none->l=[]/\cap=0)/\l.length<=cap/\cap<=maxLen/\∀ j x,l[j]?=some x->∃ b off,a=some ⟨b,off,none⟩/\h.cell b (off+j)=some (.int .i64 x)
theorem ZsH (h:DataW.trod enc Tryz.prog W 0 sp held fuel 30 cs=some x) :
 ∃ (v:Value) (l:List Int),cs=[v]/\NumsV (gh W) v l/\∀ s∈l,I64 s:=by
 rcases Zm4 Tryz.underlying30 (c:=1) (by kernel_rfl) (by decide) h with he|⟨ad,len,cap,n',hn',he,hlc,hcm,hel⟩
 . exact ⟨_,[],he,⟨none,0,rfl,fun _=>⟨rfl,rfl⟩,Nat.le_refl _,by simp [maxLen],fun j s hj=>by simp at hj⟩,by simp⟩
 . have hq:∀ i,∃ q:Int,i<len->ad=⟨ad.block,ad.off,none⟩/\W.cell? ⟨ad.block,ad.off+i,none⟩=some (.int .i64 q)/\I64 q:=by
    intro i;by_cases hi:i<len
    . obtain ⟨ha,ci,y,hcl,hy,hcells⟩:=hel i hi;obtain ⟨s,rfl,_,hs⟩:=DataW.trod_int Tryz.underlying3 hy;refine ⟨s,fun _=>⟨ha,?_,wf_i64 hs⟩⟩;have:=hcells 0 (by omega);simpa using this
    . exact ⟨0,fun h=>absurd h hi⟩
   obtain ⟨q,hq⟩:=Classical.axiomOfChoice hq;have hlen:((List.range len).map q).length=len:=(by simp);have hget:∀ (j:Nat) (k:Int),((List.range len).map q)[j]?=some k->j<len/\k=q j:=(by intro j k hj;have hlt:=(Yag.1 hj).1;rw [hlen] at hlt;rw [Yax,List.getElem?_range hlt] at hj;simp at hj;exact ⟨hlt,hj.symm⟩);refine ⟨_,(List.range len).map q,he,⟨some ad,cap,by rw [hlen],(fun h=>by cases h),by rw [hlen]; exact hlc,hcm,fun j k hj=>?_⟩,fun k hk=>?_⟩
   . obtain ⟨hlt,rfl⟩:=hget j k hj;obtain ⟨ha,c0,_⟩:=hq j hlt;exact ⟨ad.block,ad.off,by rw [<-ha],by rw [Zad]; exact c0⟩
   . obtain ⟨j,hj⟩:=List.getElem?_of_mem hk;obtain ⟨hlt,rfl⟩:=hget j k hj;exact (hq j hlt).2.2
end
section
variable {H : Type} {enc : TypeId × Value -> H} {W : World} {r : Go.Reach} {b0 : Nat} {v : Value} {d : DataW H} {ps : List MemPlace}
theorem Zm9 (hval:Value.okWide Tryz.prog W r b0 23 v) (h:DataW.Trod enc Tryz.prog W 0 (fun _=>true) true 23 v d ps) :
 ∃ l:List Val,ValsV (gh W) v l/\∀ v∈l,I64 v.k/\I64 v.n/\v.s.length<=9223372036854775807:=by obtain ⟨a,len,cap,rfl⟩:=okWide_slice Tryz.underlying23 hval;obtain ⟨fuel,hf⟩:=h;obtain ⟨v,l,hx,hv⟩:=Zm7 hf;simp [Value.cells] at hx;subst hx;exact ⟨l,hv⟩
end
structure CpIn (n0:Nat) (tau:Tag) (W:World) (l:List (Ex × Value)) (sv:Value):Prop where
 row:Row tau 1 W 83 4 sv l.length (l.flatMap exCells)
 k:∀ x∈l,KV (gp (fun b=>n0<=b/\tau b≠1) W) x.2 x.1.ks
 ge:∀ b,tau b=1->n0<=b/\b<W.heap.size
section
variable {n0 : Nat} {tau : Tag} {W W' : World} {l : List (Ex × Value)} {sv : Value}
theorem CpIn.keep (h:CpIn n0 tau W l sv) (hb:Below W.heap.size W W'):CpIn n0 tau W' l sv :=
 ⟨h.row.call hb,fun x hx=>(h.k x hx).mono (ZdJ fun b hb2 hl=>⟨hb2,hb.block _ hl⟩),fun b hb2=>⟨(h.ge b hb2).1,by have:=(h.ge b hb2).2; have:=hb.size; omega⟩⟩
theorem CpIn.kv (h:CpIn n0 tau W l sv):KV (gp (fun b=>n0<=b) W) sv (l.map Prod.fst):=by
 obtain ⟨a,cap,hv,h1,h2,h3,h4⟩:=SlV.ofRow exCells l (⟨.mk 0 0 [] [],.nilIface⟩:Ex × Value) (by decide) Zgv h.row;have ht:=h.row.tag;subst hv;have hlm:l.length=(l.map Prod.fst).length:=by simp
 rw [hlm] at h1 h2 h4 |-;have hbk:∀ b off,a=some ⟨b,off,none⟩->n0<=b:=by intro b off e;subst e;exact (h.ge b (ht b rfl)).1
 have hcell:∀ (b off i:Nat) (x:Value),a=some ⟨b,off,none⟩->(gh W).cell b i=some x->(gp (fun b=>n0<=b) W).cell b i=some x:=by intro b off i x e hc;unfold GH.cell gp;rw [if_pos (hbk b off e)];exact hc
 have hget:∀ (j:Nat) (k:Ex),(l.map Prod.fst)[j]?=some k->j<(l.map Prod.fst).length/\∃ x∈l,l.getD j ⟨.mk 0 0 [] [],.nilIface⟩=x/\x.1=k:=by
  intro j k hj;obtain ⟨hjl,-⟩:=Yag.1 hj;rw [Yax] at hj;cases hx:l[j]? with
  | none=>rw [hx] at hj; cases hj
  | some x =>rw [hx] at hj;simp only [Option.map_some,Yai] at hj;refine ⟨hjl,x,Yay hx,?_,hj⟩;rw [Yau,hx]; rfl
 refine .mk (l.map Prod.fst) a cap (fun j=>(l.getD j ⟨.mk 0 0 [] [],.nilIface⟩).2) (fun e=>?_) h2 h3 (fun j k hj=>?_) (fun j k hj=>?_)
 . have:=h1 e;exact ⟨Yal this.1,this.2⟩
 . obtain ⟨hjl,x,hx,hg,rfl⟩:=hget j k hj;have e0:=h4 j 0 _ hjl (by simp only [hg]; rfl);have e1:=h4 j 1 _ hjl (by simp only [hg]; rfl);have e2:=h4 j 2 _ hjl (by simp only [hg]; rfl);have e3:=h4 j 3 _ hjl (by simp only [hg]; rfl);obtain ⟨b,off,ha,c0⟩:=e0;obtain ⟨b1,off1,ha1,c1⟩:=e1;obtain ⟨b2,off2,ha2,c2⟩:=e2;obtain ⟨b3,off3,ha3,c3⟩:=e3;rw [ha] at ha1 ha2 ha3;simp only [Yai,Ybd,and_true] at ha1 ha2 ha3;obtain ⟨rfl,rfl⟩:=ha1;obtain ⟨rfl,rfl⟩:=ha2;obtain ⟨rfl,rfl⟩:=ha3;refine ⟨b,off,ha,?_,?_,?_,?_⟩
   . have:=hcell b off _ _ ha c0; rw [show off+(4*j+0)=off+j*4 by omega] at this; exact this
   . have:=hcell b off _ _ ha c1; rw [show off+(4*j+1)=off+j*4+1 by omega] at this; exact this
   . have:=hcell b off _ _ ha c2; rw [show off+(4*j+2)=off+j*4+2 by omega] at this; exact this
   . have:=hcell b off _ _ ha c3; rw [show off+(4*j+3)=off+j*4+3 by omega] at this; simp only [hg]; exact this
 . obtain ⟨hjl,x,hx,hg,rfl⟩:=hget j k hj;simp only [hg];exact (h.k x hx).mono (ZdJ fun b hb _=>⟨hb.1,rfl⟩)
theorem CpIn.app {t':Tag} {w':World} {v':Value} {e:Ex} {u:Value} (h:CpIn n0 tau W l sv) (hn:n0<=W.heap.size) (hr:Row t' 1 w' 83 4 v' (l.length+1) (l.flatMap exCells++exCells (e,u)))
 (he:Evo tau W t' w' (·=1)) (hu:KV (gp (fun b=>n0<=b/\tau b≠1) W) u e.ks) :
 (∃ t2,CpIn n0 t2 w' (l++[(e,u)]) v')/\∀ w0:World,Below n0 w0 W->Below n0 w0 w':=by
 have nt:∀ b,b<n0->tau b≠1:=fun b hb e=>by have:=(h.ge b e).1; omega
 have hblk:∀ b,b<W.heap.size->tau b≠1->w'.heap[b]?=W.heap[b]?:=fun b hb hn=>he.block b hb hn;have hlive:∀ b,v'.ownBlock=some b->b<w'.heap.size:=by
  intro b hb;rcases hr.own.2 with ⟨rfl,hn⟩|⟨g,cap,cur,rfl,hbg,hgg,hn,hc,hs,ht⟩
  . simp [Value.ownBlock] at hb
  . simp [Value.ownBlock] at hb;subst hb;exact (Yaa.1 hgg).1
 have hs:=he.size;have hnew:∀ b,b<w'.heap.size->t' b=1->n0<=b:=by
  intro b hb e;by_cases hbl:b<W.heap.size
  . rw [he.tag b hbl] at e; exact (h.ge b e).1
  . omega
 have hfl:(l++[(e,u)]).flatMap exCells=l.flatMap exCells++exCells (e,u):=by rw [List.flatMap_append]; simp
 have hkk:∀ (u:Value) (ks:List Ex),KV (gp (fun b=>n0<=b/\tau b≠1) W) u ks->KV (gp (fun b=>n0<=b/\(if b<w'.heap.size then t' b else 0)≠1) w') u ks:=fun u ks hk =>
  hk.mono (ZdJ fun b hb hl=>⟨⟨hb.1,by rw [if_pos (by omega),he.tag b hl]; exact hb.2⟩,hblk b hl hb.2⟩)
 refine ⟨⟨fun b=>if b<w'.heap.size then t' b else 0,⟨?_,?_,?_⟩⟩,?_⟩
 . rw [hfl,Yak];exact ⟨hr.own,fun g hg=>by show (if g<w'.heap.size then t' g else 0)=1;rw [if_pos (hlive g hg)]; exact hr.tag g hg⟩
 . intro x hx;rcases List.mem_append.1 hx with hx|hx
   . exact hkk _ _ (h.k x hx)
   . obtain rfl:=List.mem_singleton.1 hx;exact hkk _ _ hu
 . intro b hb;by_cases hbl:b<w'.heap.size
   . rw [if_pos hbl] at hb;exact ⟨hnew b hbl hb,hbl⟩
   . rw [if_neg hbl] at hb; omega
 . intro w0 h0;exact ⟨he.os.trans h0.os,he.tape.trans h0.tape,he.output.trans h0.output,Nat.le_trans h0.size hs,fun b hb=>(hblk b (by omega) (nt b hb)).trans (h0.block b hb)⟩
end
def copyPost (e:Ex) (w:World) (r:Ending) (w':World):Prop :=
 Below w.heap.size w w'/\∃ v,r = .returned (exV e.op e.n e.s v)/\KV (gp (fun b=>w.heap.size<=b) w') v e.ks
theorem infoEx:(Tryz.prog.info? 83).map (fun i=>(i.zero,i.size,i.bytes))=some (some (.agg #[.int .i64 0,.int .i64 0,.string ⟨#[]⟩,.slice none 0 0]),4,56):=by kernel_rfl
open Go Go.RowKit Go.ChangeShapes Go.WideShapes Go.ChangeAt Pal
def NilV (v:Value):Prop:=∀ n c,v = .slice none n c->n=0/\c=0
theorem Znb {H:Type} {enc:TypeId × Value->H} {P:Program} {W:World} {t e:TypeId} {c:Nat} {v:Value} {d:DataW H} {ps:List MemPlace}
 (ht:P.underlying t=some (.slice e)) (hc:P.cellsOf e=c) (hpos:0<c) (h:DataW.Trod enc P W 0 (fun _=>true) true t v d ps):NilV v:=by
 intro n k hv;subst hv;obtain ⟨fuel,hf⟩:=h;rcases Zm4 ht hc hpos hf with he|⟨a,len,cap,m,_,he,_⟩
 . simp [Value.cells] at he; exact he
 . simp [Value.cells] at he
section
variable {H : Type} {enc : TypeId × Value -> H} {W : World} {v : Value} {d : DataW H} {ps : List MemPlace}
theorem Znd (h:DataW.Trod enc Tryz.prog W 0 (fun _=>true) true 23 v d ps):NilV v:=Znb Tryz.underlying23 (c:=3) (by kernel_rfl) (by decide) h
end
theorem NumsV.form {h:GH} {v:Value} {l:List Int} (t:NumsV h v l):∃ a cap,v = .slice a l.length cap/\l.length<=9223372036854775807:=by obtain ⟨a,cap,hv,_,h1,h2,_⟩:=t;unfold maxLen at h2;exact ⟨a,cap,hv,by omega⟩
theorem NumsV.mono {h h':GH} {v:Value} {l:List Int} (t:NumsV h v l) (k:h.le h'):NumsV h' v l:=by obtain ⟨a,cap,hv,hn,h1,h2,hx⟩:=t;exact ⟨a,cap,hv,hn,h1,h2,fun j x hj=>let ⟨b,off,ha,hc⟩:=hx j x hj; ⟨b,off,ha,k.cell hc⟩⟩
theorem StrsV.len {h:GH} {v:Value} {l:List Bs} (t:StrsV h v l):l.length<=9223372036854775807:=by obtain ⟨_,_,hv,_,h1,h2,_⟩:=t;unfold maxLen at h2;omega
structure Kept (w W:World) (l:List (Nat × Obj)):Prop where
 below:Below w.heap.size w W
 mem:∀ x∈l,W.heap[x.1]?=some x.2
theorem size_alloc (W:World) (o:Obj):(W.alloc o).heap.size=W.heap.size+1:=by simp
section
variable {w W W' : World} {l : List (Nat × Obj)}
theorem Kept.start (w:World):Kept w w []:=⟨Yab _ _,fun x hx=>by cases hx⟩
theorem Kept.call (h:Kept w W l) (hb:Below W.heap.size W W'):Kept w W' l :=
 ⟨h.below.seq hb,fun x hx=>(hb.block _ (Yaa.1 (h.mem x hx)).1).trans (h.mem x hx)⟩
theorem Kept.drew (h:Kept w W l):Kept w W.drew l:=h.call (Yab _ _).drew
theorem Kept.new (h:Kept w W l) (o:Obj):Kept w (W.alloc o) ((W.heap.size,o)::l):=by
 refine ⟨h.below.alloc h.below.size o,fun x hx=>?_⟩;rcases Ybc.1 hx with rfl|hx
 . exact Yac W o
 . exact (Yah W o _ (Yaa.1 (h.mem x hx)).1).trans (h.mem x hx)
theorem Kept.newAt (h:Kept w W l) (o:Obj) {b:Nat} (hb:W.heap.size=b):Kept w (W.alloc o) ((b,o)::l):=by subst hb; exact h.new o
theorem Kept.new2 (h:Kept w W l) (o o2:Obj):Kept w ((W.alloc o).alloc o2) ((W.heap.size+1,o2)::(W.heap.size,o)::l):=(h.new o).newAt o2 (size_alloc W o)
theorem Kept.at0 {b:Nat} {o:Obj} (h:Kept w W ((b,o)::l)):W.heap[b]?=some o:=h.mem (b,o) (.head _)
theorem Kept.tail {x:Nat × Obj} (h:Kept w W (x::l)):Kept w W l:=⟨h.below,fun y hy=>h.mem y (.tail _ hy)⟩
theorem Kept.lt {b:Nat} {o:Obj} (h:Kept w W ((b,o)::l)):b<W.heap.size:=(Yaa.1 h.at0).1
end
end Go.Proofs.YtikannmgllejfaaGreatDoor
