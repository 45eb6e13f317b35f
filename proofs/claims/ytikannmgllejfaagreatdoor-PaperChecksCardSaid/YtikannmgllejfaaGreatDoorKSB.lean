/- A form's order: each formula stands behind all that it needs. -/
import Derived.Test.YtikannmgllejfaaGreatDoorKSC
import Derived.Test.YtikannmgllejfaaGreatDoorKPN
import Derived.Test.YtikannmgllejfaaGreatDoorKGB
import Derived.Test.YtikannmgllejfaaGreatDoorKSD
set_option maxHeartbeats 8000000
set_option maxRecDepth 1000000
set_option linter.all false
namespace Go.Proofs.YtikannmgllejfaaGreatDoor
open Go.RowKit Pal
attribute [local go_sem ↓] Go.wp_at_zero Go.wp_at_succ
theorem Zi7 {t:Tag} {k:Nat} {w:World} {e:TypeId} {v:Value} {zs:List Int} (h:Row t k w e 1 v zs.length (zs.map (Value.int .i64))) (hne:zs≠[]) :
 ∃ g cap,v = .slice (some ⟨g,0,none⟩) zs.length cap/\g<w.heap.size/\Go.Sort.Holds (Value.int .i64) w g 0 zs.toArray /\
  ∀ (n:Nat) (os:Array Obj) (ts:List Int),ts.length=zs.length->∃ t',Row t' k (Go.Sort.grow (Go.Sort.putRow (Value.int .i64) (Go.Sort.ahead w n) g 0 ts.toArray) os) e 1 v zs.length (ts.map (Value.int .i64))/\Evo t w t' (Go.Sort.grow (Go.Sort.putRow (Value.int .i64) (Go.Sort.ahead w n) g 0 ts.toArray) os) (·=k):=by
 have hz:0<zs.length:=List.length_pos_iff.2 hne;have htag:=h.tag;rcases h.own.2 with ⟨_,hn⟩|⟨g,cap,cur,rfl,hbase,hb,h1,h2,h3,h4⟩
 . omega
 have hg:g<w.heap.size:=(Yaa.1 hb).1;refine ⟨g,cap,rfl,hg,fun j hj=>?_,fun n os ts hl=>?_⟩
 . have hj':j<zs.length:=(by simpa using hj);refine ⟨?_,by simp [World.frozen?,hb]⟩;have e1:(cur.toList.take zs.length)[j]?=(zs.map (Value.int .i64))[j]?:=(by rw [<-h4,Nat.mul_one]);rw [List.getElem?_take_of_lt hj'] at e1;simp only [World.cell?,hb,Nat.zero_add,Option.isSome_none,Bool.false_eq_true,if_false];rw [<-Array.getElem?_toList,e1];simp [hj']
 . have e1:(Go.Sort.grow (Go.Sort.putRow (Value.int .i64) (Go.Sort.ahead w n) g 0 ts.toArray) os).heap[g]?=some (.cells (Go.Sort.putCells (Value.int .i64) 0 ts.toArray cur) e (0,0)):=(by rw [Go.Sort.heap_grow_old _ _ (by simpa using hg)];simp [Go.Sort.putRow,Go.Sort.mapBlock,Go.Sort.ahead,Yap,hb,Go.Sort.onCells]);have e2:(Go.Sort.putCells (Value.int .i64) 0 ts.toArray cur).toList.take zs.length=ts.map (Value.int .i64):=by
    apply List.ext_getElem?;intro j;by_cases hj:j<ts.length
    . rw [List.getElem?_take_of_lt (by omega),Array.getElem?_toList];simp [Go.Sort.putCells,hj,show j<cur.size by omega]
    . rw [List.getElem?_take_eq_none (by omega),Yaz (by simp; omega)]
   refine ⟨t.ext w.heap.size 0,⟨⟨by simp [hl],.inr ⟨g,cap,_,rfl,hbase,e1,h1,h2,by simp [Go.Sort.putCells,h3],by rw [Nat.mul_one]; exact e2⟩⟩,fun b hb'=>?_⟩,⟨rfl,rfl,rfl,by simp,Tag.ext_lt _ _ _,fun x hx hn=>?_⟩⟩
   . have:b=g:=(by simp [Value.ownBlock] at hb'; exact hb'.symm);subst this;rw [Tag.ext_lt _ _ _ _ hg]; exact htag b rfl
   . rw [Go.Sort.heap_grow_old _ _ (by simpa using hx)];have hne:g≠x:=fun e=>hn (by rw [<-e]; exact htag g rfl);simp [Go.Sort.putRow,Go.Sort.mapBlock,Go.Sort.ahead,Yap,hne]
abbrev XV:=OV × OV × OV
def noX:XV:=(none,none,none)
def nilS:Value := .slice none 0 0
def RowsF (W:World) (g:Nat) (l:List Fd) (xs:List XV) (nds:List Value):Prop :=
 ∃ cur:Array Value,W.heap[g]?=some (.cells cur 87 (0,0))/\∀ i f,l[i]?=some f->∀ j v,(fdCells f (xs.getD i noX).1 (xs.getD i noX).2.1 (xs.getD i noX).2.2 (nds.getD i nilS))[j]?=some v->cur[i*21+j]?=some v
section
variable {W W' : World} {g : Nat} {l : List Fd} {xs : List XV} {nds : List Value}
theorem RowsF.lt (h:RowsF W g l xs nds):g<W.heap.size:=by obtain ⟨cur,h1,_⟩:=h; exact (Yaa.1 h1).1
theorem RowsF.keep (h:RowsF W g l xs nds) (hb:W'.heap[g]?=W.heap[g]?):RowsF W' g l xs nds:=by obtain ⟨cur,h1,h2⟩:=h; exact ⟨cur,hb.trans h1,h2⟩
theorem RowsF.cell (h:RowsF W g l xs nds) {i j:Nat} {f:Fd} {v:Value} (hf:l[i]?=some f) (hj:(fdCells f (xs.getD i noX).1 (xs.getD i noX).2.1 (xs.getD i noX).2.2 (nds.getD i nilS))[j]?=some v) :
 W.cell? ⟨g,i*21+j,none⟩=some v/\W.frozen? ⟨g,i*21+j,none⟩=false:=by obtain ⟨cur,h1,h2⟩:=h;have:=h2 i f hf j v hj;exact ⟨by simp [World.cell?,h1,this],by simp [World.frozen?,h1]⟩
theorem Zi8 (f:Fd) (a b c:OV) (nv:Value):(fdCells f a b c nv)[20]?=some nv:=by cases a<;>cases b<;>cases c<;>rfl
def fdFront (f:Fd) (a b c:OV):List Value:=[.string ⟨f.n.toArray⟩,.int .i64 f.t,.string ⟨f.fo.toArray⟩,.string ⟨f.ru.toArray⟩,.string ⟨f.sh.toArray⟩]++exOf a++exOf b++exOf c++[.bool a.isSome,.bool b.isSome,.bool c.isSome]
theorem Zi9 (f:Fd) (a b c:OV) (x:Value):fdCells f a b c x=fdFront f a b c++[x]:=by simp [fdCells,fdFront]
theorem Zja (f:Fd) (a b c:OV):(fdFront f a b c).length=20:=by simp [fdFront,Zgz]
theorem Zjb (f:Fd) (a b c:OV) (nv nv':Value) {j:Nat} (hj:j≠20):(fdCells f a b c nv)[j]?=(fdCells f a b c nv')[j]?:=by
 have hl:=Zja f a b c;rw [Zi9,Zi9];by_cases hlt:j<20
 . rw [List.getElem?_append_left (by omega),List.getElem?_append_left (by omega)]
 . rw [Yaz (by rw [Yak,List.length_singleton]; omega),Yaz (by rw [Yak,List.length_singleton]; omega)]
theorem RowsF.need {c:Value} (h:RowsF W g l xs (nds++[c])) {i:Nat} (hi:nds.length=i) (v:Value):RowsF (W.setCell ⟨g,i*21+20,none⟩ v) g l xs (nds++[v]):=by
 subst hi;obtain ⟨cur,h1,h2⟩:=h;refine ⟨cur.setIfInBounds (nds.length*21+20) v,by simp [World.setCell,Yap,h1],fun i f hf j x hx=>?_⟩;rw [Array.getElem?_setIfInBounds];have hjl:j<21:=by have:=(Yag.1 hx).1;rw [ZgA] at this; exact this
 by_cases e:nds.length*21+20=i*21+j
 . have ei:i=nds.length:=(by omega);have ej:j=20:=(by omega);subst ei; subst ej;have hold:=h2 _ f hf 20 _ (Zi8 _ _ _ _ _);rw [if_pos rfl,if_pos (Yaa.1 hold).1];rw [Zi8] at hx;rw [<-hx];simp [List.getD]
 . rw [if_neg e];by_cases ei:i=nds.length
   . subst ei;have ej:j≠20:=(by omega);rw [Zjb _ _ _ _ _ ((nds++[c]).getD nds.length nilS) ej] at hx;exact h2 _ f hf j x hx
   . have eg:(nds++[v]).getD i nilS=(nds++[c]).getD i nilS:=by
      simp only [List.getD,List.getElem?_append];by_cases hlt:i<nds.length
      . simp [hlt]
      . rw [if_neg hlt,if_neg hlt,Yaz (by simp; omega),Yaz (by simp; omega)]
     rw [eg] at hx;exact h2 i f hf j x hx
theorem RowsF.nil (h:RowsF W g l xs nds):RowsF W g l xs (nds++[nilS]):=by
 obtain ⟨cur,h1,h2⟩:=h;refine ⟨cur,h1,fun i f hf j x hx=>h2 i f hf j x ?_⟩;have e:(nds++[nilS]).getD i nilS=nds.getD i nilS:=by
  simp only [List.getD,List.getElem?_append];by_cases hlt:i<nds.length
  . simp [hlt]
  . rw [if_neg hlt,Yaz (by omega:nds.length<=i)];by_cases h0:i - nds.length=0
    . simp [h0]
    . rw [Yaz (by simp; omega)]
 rw [<-e]; exact hx
end
attribute [local go_sem ↓] Go.wp_at_zero Go.wp_at_succ
def tagG (g:Nat):Tag:=fun b=>if b=g then 5 else 0
def posN (ns:List Bs) (s:Bs):Int:=((posT ns s).getD 0:Nat)
theorem Zjc {ns:List Bs} {s:Bs} (h:s∈ns):∃ j:Nat,posN ns s=j/\ns[j]?=some s:=by
 cases hp:posT ns s with
 | none=>have:=posT_none.1 hp; simp at this; exact absurd h this
 | some j=>exact ⟨j,by unfold posN; rw [hp]; rfl,Zgh hp⟩
theorem Zjd {ns m:List Bs} (hn:ns.Nodup) (hm:m.Nodup) (hs:∀ s∈m,s∈ns):((m.map (posN ns)).mergeSort fun x y=>decide (x<=y))=posM ns m:=by
 have hp:=List.mergeSort_perm (m.map (posN ns)) fun x y=>decide (x<=y);have hsorted:((m.map (posN ns)).mergeSort fun x y=>decide (x<=y)).Pairwise (fun a b=>decide (a<=b)=true) :=
  List.pairwise_mergeSort (fun a b c h1 h2=>by simp at *; omega) (fun a b=>by simp; omega) _
 have hnd:(m.map (posN ns)).Nodup:=by rw [List.nodup_iff_pairwise_ne,List.pairwise_map];refine List.Pairwise.imp_of_mem ?_ hm;intro a b ha hb hne he;obtain ⟨i,hi,hgi⟩:=Zjc (hs a ha);obtain ⟨j,hj,hgj⟩:=Zjc (hs b hb);rw [hi,hj] at he;have:i=j:=(by omega);subst this;rw [hgi] at hgj;exact hne (by cases hgj; rfl)
 have hnd2:=hp.nodup_iff.2 hnd;refine Zgk ?_ (Zgg ns m) fun x=>?_
 . have:=hsorted.and hnd2;refine this.imp ?_;rintro a b ⟨h1,h2⟩;simp at h1;omega
 . rw [hp.mem_iff,List.mem_map,Zgf];constructor
   . rintro ⟨s,hsm,rfl⟩;obtain ⟨j,hj,hg⟩:=Zjc (hs s hsm);have hl:=(Yag.1 hg).1;exact ⟨j,hj,hl,by simp [List.getD,hg]; exact hsm⟩
   . rintro ⟨j,rfl,hl,hmem⟩;refine ⟨ns.getD j [],hmem,?_⟩;obtain ⟨i,hi,hgi⟩:=Zjc (hs _ hmem);rw [hi];have e:ns.getD j []=ns[j]:=Zgc hl;rw [e,<-Yad hl] at hgi;have:=(List.getElem?_inj (by have:=(Yag.1 (hgi.trans (Yad hl))).1; exact this) hn).1 (hgi);omega
structure Lk (w:World) (g:Nat) (l:List Fd) (xs:List XV) (N:List (List Int)) (t:Tag) (nv:Value) (nds:List Value) (cur:Value) (q:List Int) (W:World):Prop where
 ev:Evo (tagG g) w t W (·≠0)
 rows:RowsF W g l xs (nds++[cur])
 gt:t g=5
 outer:Row t 1 W 30 1 nv nds.length nds
 inner:∀ (i:Nat) (v:Value) (nd:List Int),nds[i]?=some v->N[i]?=some nd->Row t (10+i) W 3 1 v nd.length (nd.map (Value.int .i64))
 own:Row t (10+nds.length) W 3 1 cur q.length (q.map (Value.int .i64))
section
variable {w W W' : World} {g : Nat} {l : List Fd} {xs : List XV} {N : List (List Int)} {t t' : Tag} {nv cur : Value} {nds : List Value} {q : List Int}
theorem Lk.keep (h:Lk w g l xs N t nv nds cur q W) (ev:Evo t W t' W' (fun _=>False)):Lk w g l xs N t' nv nds cur q W':=by have hl:=h.rows.lt;exact ⟨h.ev.trans (ev.mono fun _ h=>h.elim),h.rows.keep (ev.block _ hl (fun h=>h)),(ev.tag _ hl).trans h.gt,h.outer.keep ev (fun h=>h),fun i v nd h1 h2=>(h.inner i v nd h1 h2).keep ev (fun h=>h),h.own.keep ev (fun h=>h)⟩
theorem Lk.call (h:Lk w g l xs N t nv nds cur q W) (hb:Below W.heap.size W W'):Lk w g l xs N (t.ext W.heap.size 0) nv nds cur q W':=h.keep (Evo.below hb (Tag.ext_lt _ _ _))
theorem Lk.new (h:Lk w g l xs N t nv nds cur q W) (o:Obj):Lk w g l xs N (t.set W.heap.size 0) nv nds cur q (W.alloc o):=h.keep ((Ybg _ _ _).alloc 0 o)
theorem Lk.old (h:Lk w g l xs N t nv nds cur q W) {b:Nat} {o:Obj} (hb:w.heap[b]?=some o) (hn:b≠g):W.heap[b]?=some o:=by rw [h.ev.block b (Yaa.1 hb).1 (by unfold tagG; rw [if_neg hn]; simp)]; exact hb
theorem Lk.le (h:Lk w g l xs N t nv nds cur q W):(gb g w).le (hz t W):=fun b o hh=>by
 unfold gb at hh
 split at hh
 . cases hh
 . rename_i hn
   have hl:=(Yaa.1 hh).1
   unfold hz
   rw [h.ev.tag b hl,h.ev.block b hl (by unfold tagG; rw [if_neg hn]; simp)]
   unfold tagG
   rw [if_neg hn,if_pos rfl]; exact hh
theorem Lk.grow (h:Lk w g l xs N t nv nds cur q W) {cur':Value} {q':List Int} (hr:Row t' (10+nds.length) W' 3 1 cur' q'.length (q'.map (Value.int .i64))) (ev:Evo t W t' W' (·=10+nds.length)) :
 Lk w g l xs N t' nv nds cur' q' (W'.setCell ⟨g,nds.length*21+20,none⟩ cur'):=by have hl:=h.rows.lt;have hg5:t' g=5:=(ev.tag _ hl).trans h.gt;have e2:Evo t' W' t' (W'.setCell ⟨g,nds.length*21+20,none⟩ cur') (·=5):=(Ybg _ _ _).setCell _ _ hg5;refine ⟨(h.ev.trans (ev.mono fun _ h=>by omega)).trans (e2.mono fun _ h=>by rw [h]; decide),(h.rows.keep (ev.block _ hl (by rw [h.gt]; omega))).need rfl _,hg5,(h.outer.keep ev (by omega)).keep e2 (by decide),fun i v nd h1 h2=>?_,hr.keep e2 (by omega)⟩;have hi:=(Yag.1 h1).1;exact ((h.inner i v nd h1 h2).keep ev (by omega)).keep e2 (by omega)
theorem Lk.sorted (h:Lk w g l xs N t nv nds cur q W) {q':List Int} (hq:q'.length=q.length) (hr:Row t' (10+nds.length) W' 3 1 cur q'.length (q'.map (Value.int .i64))) (ev:Evo t W t' W' (·=10+nds.length)):Lk w g l xs N t' nv nds cur q' W':=by have hl:=h.rows.lt;refine ⟨h.ev.trans (ev.mono fun _ h=>by omega),h.rows.keep (ev.block _ hl (by rw [h.gt]; omega)),(ev.tag _ hl).trans h.gt,h.outer.keep ev (by omega),fun i v nd h1 h2=>?_,hr⟩;have hi:=(Yag.1 h1).1;exact (h.inner i v nd h1 h2).keep ev (by omega)
theorem Lk.next (h:Lk w g l xs N t nv nds cur q W) {nv':Value} (hq:N[nds.length]?=some q) (hr:Row t' 1 W' 30 1 nv' (nds.length+1) (nds++[cur])) (ev:Evo t W t' W' (·=1)):Lk w g l xs N t' nv' (nds++[cur]) nilS [] W':=by
 have hl:=h.rows.lt;refine ⟨h.ev.trans (ev.mono fun _ h=>by rw [h]; decide),(h.rows.keep (ev.block _ hl (by rw [h.gt]; decide))).nil,(ev.tag _ hl).trans h.gt,by simpa using hr,fun i v nd h1 h2=>?_,Row.nil _ _ _ _ _⟩;rw [List.getElem?_append] at h1;by_cases hi:i<nds.length
 . rw [if_pos hi] at h1;exact (h.inner i v nd h1 h2).keep ev (by omega)
 . rw [if_neg hi] at h1;have hz:i=nds.length:=(by have:=(Yag.1 h1).1;simp at this; omega);subst hz;simp at h1;subst h1;rw [hq] at h2;cases h2;exact h.own.keep ev (by omega)
end
attribute [local go_sem ↓] Go.wp_at_zero Go.wp_at_succ
structure FormOk (w:World) (g:Nat) (ns:List Bs) (x:XV):Prop where
 k:∀ e v,x.1=some (e,v)->KV (gb g w) v e.ks
 fine:∀ e v,x.1=some (e,v)->Fine e
 chk:∀ e v,x.1=some (e,v)->check e=true
 names:∀ e v,x.1=some (e,v)->∀ s∈namesM e,s∈ns
def needX (ns:List Bs) (x:XV):List Int:=needM ns (ovE x.1,ovE x.2.1,ovE x.2.2)
def linksPost (w:World) (g:Nat) (l:List Fd) (xs:List XV) (e:Ending) (W:World):Prop :=
 ∃ nv nds t,e = .returned nv/\nds.length=l.length/\Lk w g l xs (xs.map (needX (Fd.names l))) t nv nds nilS [] W
theorem Zje {ns:List Bs} {x:XV} (h:x.1=none):needX ns x=[]:=by unfold needX needM ovE; rw [h]; rfl
theorem Zjf {ns:List Bs} {x:XV} {e:Ex} {v:Value} (h:x.1=some (e,v)):needX ns x=posM ns (namesM e):=by unfold needX needM ovE; rw [h]; rfl
theorem Zjg:∃ i0,Tryz.prog.info? 30=some i0/\i0.zero=some (.slice none 0 0)/\i0.size=1/\i0.bytes=24:=info_parts (show (Tryz.prog.info? 30).map (fun i=>(i.zero,i.size,i.bytes))=some (some (.slice none 0 0),1,24) by kernel_rfl)
theorem Zjh (f:Fd) (a b c:OV) (nv:Value):(fdCells f a b c nv)[17]?=some (.bool a.isSome)/\(fdCells f a b c nv)[18]?=some (.bool b.isSome)/\(fdCells f a b c nv)[19]?=some (.bool c.isSome):=by cases a<;>cases b<;>cases c<;>exact ⟨rfl,rfl,rfl⟩
theorem Zji (f:Fd) (x:Ex × Value) (b c:OV) (nv:Value):(fdCells f (some x) b c nv)[5]?=some (.int .i64 x.1.op)/\(fdCells f (some x) b c nv)[6]?=some (.int .i64 x.1.n)/\(fdCells f (some x) b c nv)[7]?=some (.string ⟨x.1.s.toArray⟩)/\(fdCells f (some x) b c nv)[8]?=some x.2:=⟨rfl,rfl,rfl,rfl⟩
theorem Zjj (t:Tag) (n:Nat) (W:World):(gn n W).le (hz (t.ext n 0) W):=fun b o hh=>by
 have h2:(if n<=b then W.heap[b]? else none)=some o:=hh
 by_cases hp:n<=b
 . rw [if_pos hp] at h2
   have e:t.ext n 0 b=0:=by unfold Tag.ext; rw [if_neg (by omega)]
   unfold hz
   rw [if_pos e]; exact h2
 . rw [if_neg hp] at h2; cases h2
theorem Zjk (e:Ex):(namesM e).Nodup:=by have h:=Zia e;rw [List.nodup_iff_pairwise_ne];refine h.imp ?_;intro a b hab he;subst he;exact Zh1 _ hab
def LkL (w:World) (g:Nat) (l:List Fd) (xs:List XV) (N:List (List Int)) (L:List (Nat × Obj)) (sv:Value) (m:List Bs) (nv:Value) (nds:List Value) (cur:Value) (q:List Int) (W:World):Prop :=
 ∃ t,Lk w g l xs N t nv nds cur q W/\StrsV (hz t W) sv m/\∀ x∈L,t x.1=0/\W.heap[x.1]?=some x.2
section
variable {w W W' : World} {g : Nat} {l : List Fd} {xs : List XV} {N : List (List Int)} {L : List (Nat × Obj)} {sv : Value} {m : List Bs} {nv cur : Value} {nds : List Value} {q : List Int}
theorem LkL.alloc (h:LkL w g l xs N L sv m nv nds cur q W) (o:Obj):LkL w g l xs N ((W.heap.size,o)::L) sv m nv nds cur q (W.alloc o):=by
 obtain ⟨t,h1,hs,h2⟩:=h;refine ⟨_,h1.new o,hs.mono (((Ybg t W (fun _=>False)).alloc 0 o).hz (fun h=>h)),fun x hx=>?_⟩;rcases Ybc.1 hx with rfl|hx
 . exact ⟨Tag.set_same _ _ _,Yac _ _⟩
 . obtain ⟨q1,q2⟩:=h2 x hx;have hl:=(Yaa.1 q2).1;exact ⟨(Tag.set_other _ _ _ (by omega)).trans q1,(Below.heap_alloc _ _ _ hl).trans q2⟩
theorem LkL.drew (h:LkL w g l xs N L sv m nv nds cur q W):LkL w g l xs N L sv m nv nds cur q W.drew:=by obtain ⟨t,h1,hs,h2⟩:=h;exact ⟨t,h1.keep (Ybg _ _ _).drew,hs,h2⟩
theorem Zjl {ops:Array Oper} {o:Oper} {y:Act} {K:Act->World->Prop} {Q:Exit->Act->World->Prop} {E:Prop} {g0 k:Nat} {p:Int} {f:Fd} (hgd:o.guard=none) (s x:Operand)
 (ho:o.op = .call { callee := .builtin .append,args:=#[s,x],argTypes:=#[30,30] })
 (hs:y.eval s=cur) (hx:y.eval x = .slice (some ⟨g0,0,none⟩) 1 1) (hk:nds.length=k) (hf:l[k]?=some f) (hq:q.length<=1000) (h:LkL w g l xs N L sv m nv nds cur q W) (hm:(g0,.cells #[.int .i64 p] 3 (0,0))∈L)
 (hK:∀ a' c' w',w'.cell? ⟨g,k*21+20,none⟩=some cur->w'.frozen? ⟨g,k*21+20,none⟩=false->LkL w g l xs N L sv m nv nds (.slice a' (q.length+1) c') (q++[p]) (w'.setCell ⟨g,k*21+20,none⟩ (.slice a' (q.length+1) c'))->K (y.put o.dst (.slice a' (q.length+1) c')) w') :
 if Region.wanted o (yielded ops y.tmps)=true then Oper.wp Tryz.prog o y W K Q else E:=by
 subst hk;have hw:Region.wanted o (yielded ops y.tmps)=true:=by simp [Region.wanted,hgd]
 rw [if_pos hw];obtain ⟨t,h1,hsv,h2⟩:=h;obtain ⟨i0,hi,hz0,hz1,hz2⟩:=ZgG;obtain ⟨hg1,hg2⟩:=h2 _ hm;obtain ⟨v',t',w',hrun,hr,he,_⟩:=Zaa (P:=Tryz.prog) o.type 30 3 i0 (.int .i64 0) 1 8 Tryz.underlying30 hi hz0 hz1 hz2 rfl (by decide) h1.own ⟨g0,0,none⟩ 1 1 [.int .i64 p] rfl (ZgE hg2) (by simp [Value.oneCell']) (by unfold maxLen; omega) (by omega);obtain ⟨a',c',rfl⟩:=hr.form;have hr':Row t' (10+nds.length) w' 3 1 (.slice a' (q.length+1) c') (q++[p]).length ((q++[p]).map (Value.int .i64)):=by rw [Ybe,Yak]; exact hr
 have hl:=h1.rows.lt;have hg:g<W.heap.size:=hl;have hc:=(h1.rows.keep (W':=w') (he.block _ hl (by rw [h1.gt]; omega))).cell hf (Zi8 _ _ _ _ _);have e20:(nds++[cur]).getD nds.length nilS=cur:=by simp [List.getD]
 rw [e20] at hc;have hg5:t' g=5:=(he.tag _ hl).trans h1.gt;have e2:Evo t' w' t' (w'.setCell ⟨g,nds.length*21+20,none⟩ (.slice a' (q.length+1) c')) (·=5):=(Ybg _ _ _).setCell _ _ hg5;have hK2:=hK a' c' w' hc.1 hc.2 ⟨t',h1.grow hr' he,(hsv.mono (he.hz (by omega))).mono (e2.hz (by decide)),fun x hx=>by
  obtain ⟨q1,q2⟩:=h2 x hx;have hlx:=(Yaa.1 q2).1;have hne:x.1≠g:=fun e=>by rw [e,h1.gt] at q1; cases q1
  exact ⟨(he.tag _ hlx).trans q1,(Yat _ _ _ _ hne).trans ((he.block _ hlx (by rw [q1]; omega)).trans q2)⟩⟩
 unfold Oper.wp;simp [execOp,ho,resolve,invoke,builtin,hs,hx,hrun,Result.andThen];exact hK2
end
theorem Zjm (l:List Fd) (xs:List XV) (g cap B0 mb n:Nat) (ov:Value) (w:World) (hn:l.length=n) (h24:n<=24) (hx:xs.length=n) (hm:∀ s∈Fd.names l,s.length<=1000000) (hnd:(Fd.names l).Nodup)
 (hbox:w.heap[B0]?=some (.cells #[.slice (some ⟨g,0,none⟩) n cap,.map (some mb),ov] 81 (0,0))) (hB:B0≠g) (hmp:NmAt w mb (Fd.names l)) (hmg:mb≠g)
 (hrows:RowsF w g l xs []) (hok:∀ x∈xs,FormOk w g (Fd.names l) x) (hL:Lay (gb g w)) :
 Calls Tryz.prog 50 #[.pointer (some ⟨B0,0,none⟩)] w (linksPost w g l xs):=by
 obtain ⟨i0,hi,hz0,hz1,hz2⟩:=Zjg;have hst:Lk w g l xs (xs.map (needX (Fd.names l))) (tagG g) nilS [] nilS [] w:=⟨Ybg _ _ _,hrows.nil,by simp [tagG],Row.nil _ _ _ _ _,fun i v nd h=>by simp at h,Row.nil _ _ _ _ _⟩;have HST:=Zq hst;have HBX:=Zq hbox;have HMP:=Zq hmp;obtain ⟨mo,hmo⟩:∃ o,w.heap[mb]?=some o:=⟨_,Array.getElem?_eq_getElem hmp.lt⟩;have HMPO:=Zq hmo;have HOK:=Zq hok;have HL:=Zq hL;have HND:=Zq hnd;have HM:=Zq hm;have HN:=Zq hn;have HX:=Zq hx;have HBG:=Zq hB;have HMG:=Zq hmg;obtain ⟨⟨b0,b1,-⟩,-⟩:=ZgC hbox;clear hst hbox hmo hmp hok hL hnd hm hn hx hrows hB hmg;go_in;go_wp2_with fail;clear b0 b1;go_loopg [3,13] n (fun gk u3 i W=>∃ (k:Nat) (t:Tag) (nds:List Value),i = .int .i64 k/\k+gk=n/\nds.length=k/\Hid (Lk w g l xs (xs.map (needX (Fd.names l))) t u3 nds nilS [] W));case atStart=>exact ⟨0,_,[],rfl,by omega,rfl,HST⟩
 case round =>
  obtain ⟨k,t,nds,rfl,hg,hnk,HI⟩:=hrel;obtain ⟨W0,hW0⟩:∃ X,X=wr:=⟨_,rfl⟩;subst hW0;obtain ⟨go,hgo⟩:∃ X,X=gk:=⟨_,rfl⟩;subst hgo;by_cases hlt:k<n
  . obtain ⟨f,hf⟩:∃ f,l[k]?=some f:=⟨_,Yad (by have:=HN.out; omega)⟩;have hkx:k<xs.length:=(by have:=HX.out; omega);obtain ⟨x,hxk⟩:∃ x,xs[k]?=some x:=⟨_,Yad hkx⟩;have hxd:xs.getD k noX=x:=(by simp [List.getD,hxk]);have HXD:=Zq hxd;have HF:=Zq hf;have HNK:=Zq hnk;have HFO:=Zq (HOK.out x (Yay hxk));have HQ:Hid ((xs.map (needX (Fd.names l)))[nds.length]?=some (needX (Fd.names l) x)):=Zq (by rw [hnk,Yax,hxk]; rfl);obtain ⟨⟨b0,b1,-⟩,-⟩:=ZgC (HI.out.old HBX.out HBG.out);have h17:=(HI.out.rows.cell hf (Zjh _ _ _ _ _).1).1;have h20:=(HI.out.rows.cell hf (Zi8 _ _ _ _ _)).1;have e20:(nds++[nilS]).getD k nilS=nilS:=(by rw [<-hnk]; simp [List.getD]);rw [e20] at h20;rw [hxd] at h17;clear hf hxk hxd hkx e20 hnk;obtain ⟨xa,xb,xc⟩:=x;simp only at h17;cases xa with
    | none =>simp only [Option.isSome_none] at h17;have HQ0:Hid ((xs.map (needX (Fd.names l)))[nds.length]?=some []):=Zq (by rw [HQ.out,Zje rfl]);go_wp2_with (at_builtin; refine Zac rfl _ _ 39 rfl 30 i0 (.slice none 0 0) 1 24 Tryz.underlying39 hi hz0 hz1 hz2 rfl (by decide) rfl HI.out.outer #[.slice none 0 0] 30 (0,0) _ rfl (by simp) rfl ?c1 ?c2 ?c3 ?_);(case c1=>simp [Value.oneCell']);(case c2=>have:=HNK.out; unfold maxLen; omega);(case c3=>have:=HNK.out; omega);intro v' t' w' hr he;have HI9:=Zq (HI.out.next HQ0.out hr he);clear hr he;go_wp2_with fail;go_roundg (go - 1);(case rel=>exact ⟨k+1,t',_,by go_num,by omega,by rw [Yak,HNK.out]; rfl,HI9⟩);case measure=>omega
    | some y =>
     simp only [Option.isSome_some] at h17;obtain ⟨e,v⟩:=y;obtain ⟨va,vc,rfl⟩:=(HFO.out.k e v rfl).form;have hk0:=(HFO.out.k e _ rfl).mono (HI.out.le.trans (Zae _ _));have hcc:∀ (j:Nat) (u:Value),(fdCells f (some (e,.slice va e.ks.length vc)) xb xc ((nds++[nilS]).getD k nilS))[j]?=some u->W0.cell? ⟨g,k*21+j,none⟩=some u:=fun j u hj=>(HI.out.rows.cell HF.out (by rw [HXD.out]; exact hj)).1;have h5:=hcc _ _ (Zji _ _ _ _ _).1;have h6:=hcc _ _ (Zji _ _ _ _ _).2.1;have h7:=hcc _ _ (Zji _ _ _ _ _).2.2.1;have h8:=hcc _ _ (Zji _ _ _ _ _).2.2.2;simp only at h5 h6 h7 h8;have HPN:=Zq (Ziv e (.agg #[.int .i64 e.op,.int .i64 e.n,.string ⟨e.s.toArray⟩,.slice va e.ks.length vc]) W0 (HFO.out.fine e _ rfl) (HL.out.mono (HI.out.le.trans (Zae _ _))) ⟨_,rfl,hk0⟩ (HFO.out.chk e _ rfl));obtain ⟨m,hm⟩:∃ m,namesM e=m:=⟨_,rfl⟩;have HNS:Hid (∀ s∈m,s∈Fd.names l):=Zq (fun s hs=>HFO.out.names e _ rfl s (by rw [hm]; exact hs));have HMD:Hid m.Nodup:=Zq (by rw [<-hm]; exact Zjk e);have HQ1:Hid ((xs.map (needX (Fd.names l)))[nds.length]?=some (posM (Fd.names l) m)):=Zq (by rw [HQ.out,Zjf rfl,hm]);have hml:m.length<=128:=(by obtain ⟨z,hz⟩:∃ z,chk e 1 128=some z:=Option.isSome_iff_exists.1 (HFO.out.chk e _ rfl);have:=Zfz e 1 128 z hz;rw [<-hm]; omega);rw [hm] at HPN;clear hcc hk0 hm h20;go_wp2_with fail;refine HPN.out.mono ?_;rintro r W2 ⟨hb,sv,rfl,hsv⟩;obtain ⟨sa,sc,rfl⟩:=hsv.form;have HI2:=Zq (HI.out.call hb);have HSV:=Zq (hsv.mono (Zjj t W0.heap.size W2));clear hb hsv h5 h6 h7 h8 h17 b0 b1 HPN HI;generalize t.ext W0.heap.size 0=t2 at *;go_wp2_with fail;go_loopg [34] m.length (fun g2 i W=>∃ (j:Nat) (t:Tag) (cur:Value),i = .int .i64 j/\j+g2=m.length/\Hid (Lk w g l xs (xs.map (needX (Fd.names l))) t u3 nds cur ((m.take j).map (posN (Fd.names l))) W)/\Hid (StrsV (hz t W) (.slice sa m.length sc) m));(case atStart=>exact ⟨0,t2,nilS,rfl,by omega,HI2,HSV⟩);case round =>
      obtain ⟨j,t3,cur,rfl,hg2,HI3,HS3⟩:=hrel;by_cases hj:j<m.length
      . obtain ⟨nb,no,rfl,cn⟩:=(HS3.out.mono (Zae _ _)).at (Yad hj);unfold strV at cn;have HT3:Hid (m.take (j+1)=m.take j++[m[j]]):=Zq (by rw [List.take_add_one,Yad hj]; rfl);have hin:=HNS.out m[j] (List.getElem_mem hj);have hsz:=HM.out _ hin;have hlk1:=(HMP.out.keep (w':=wr.drew) (by have:=HI3.out.old HMPO.out HMG.out; exact this.trans HMPO.out.symm)).get m[j] (by unfold maxLen; omega);have hlk2:(Instr.lookup 79 (.map (some mb)) (.string ⟨m[j].toArray⟩) false).run Tryz.prog wr.drew = .ok (.int .i64 (posN (Fd.names l) m[j])) wr.drew:=hlk1;have HLP:Hid (LkL w g l xs (xs.map (needX (Fd.names l))) [] (.slice (some ⟨nb,no,none⟩) m.length sc) m u3 nds cur ((m.take j).map (posN (Fd.names l))) wr):=Zq ⟨t3,HI3.out,HS3.out,fun x hx=>by cases hx⟩;have HQN:Hid ((m.take (j+1)).map (posN (Fd.names l))=(m.take j).map (posN (Fd.names l))++[posN (Fd.names l) m[j]]):=Zq (by rw [HT3.out,Ybe]; rfl);have hql:((m.take j).map (posN (Fd.names l))).length<=1000:=(by rw [Ybf,List.length_take]; omega);obtain ⟨⟨b0,b1,-⟩,-⟩:=ZgC (HI3.out.old HBX.out HBG.out);have h20:=(HI3.out.rows.cell HF.out (Zi8 _ _ _ _ _)).1;have e20:(nds++[cur]).getD k nilS=cur:=(by rw [<-HNK.out]; simp [List.getD]);rw [e20] at h20;have hgw:g<wr.heap.size:=HI3.out.rows.lt;obtain ⟨ca,cc,rfl⟩:=HI3.out.own.form;clear hlk1 hin hsz e20 HT3;generalize m[j]=s at *;generalize posN (Fd.names l) s=p at *;generalize (m.take j).map (posN (Fd.names l))=q at *;go_upto_region 10 with fail;clear cn;go_region_law (first|(with_reducible refine Zjl (p:=p) rfl _ _ rfl rfl rfl HNK.out HF.out hql ((HLP.out.alloc _).drew) (by simp) ?_; intro a' c' w' m0 m1 hp; have HP:=Zq hp; clear hp)|(with_reducible refine Zjl (p:=p) rfl _ _ rfl rfl rfl HNK.out HF.out hql (HLP.out.alloc _) (by simp) ?_; intro a' c' w' m0 m1 hp; have HP:=Zq hp; clear hp)|(with_reducible refine Zjl (p:=p) rfl _ _ rfl rfl rfl HNK.out HF.out hql (HLP.out.drew.alloc _) (by simp) ?_; intro a' c' w' m0 m1 hp; have HP:=Zq hp; clear hp));all_goals clear m0 m1 h20 b0 b1 hlk2;obtain ⟨t5,h5,hs5,-⟩:=HP.out;have H5:=Zq h5;have HS5:=Zq hs5;clear h5 hs5;go_wp2_with fail;go_roundg (gk - 1);(case rel=>exact ⟨j+1,t5,_,by go_num,by omega,Zq (by rw [HQN.out]; exact H5.out),HS5⟩);case measure=>omega
      . obtain rfl:j=m.length:=(by omega);rw [List.take_length] at HI3;have h20:=(HI3.out.rows.cell HF.out (Zi8 _ _ _ _ _)).1;have e20:(nds++[cur]).getD k nilS=cur:=(by rw [<-HNK.out]; simp [List.getD]);rw [e20] at h20;by_cases hmn:m=[]
        . subst hmn;obtain ⟨ca,cc,rfl⟩:=HI3.out.own.form;simp only [List.map_nil,List.length_nil] at h20 HI3;have HQ2:Hid ((xs.map (needX (Fd.names l)))[nds.length]?=some []):=Zq (by rw [HQ1.out]; simp [posM]);have HSO:=Zq (Tryz.slices_Sort_int_none ca cc);clear e20;go_wp2_with fail;refine (HSO.out _).mono ?_;rintro r W5 ⟨rfl,rfl⟩;go_wp2_with (at_builtin; refine Zac rfl _ _ 39 rfl 30 i0 (.slice none 0 0) 1 24 Tryz.underlying39 hi hz0 hz1 hz2 rfl (by decide) rfl HI3.out.outer #[.slice ca 0 cc] 30 (0,0) _ rfl (by simp) rfl ?c1 ?c2 ?c3 ?_);(case c1=>simp [Value.oneCell']);(case c2=>have:=HNK.out; unfold maxLen; omega);(case c3=>have:=HNK.out; omega);intro v' t' w' hr he;have HI9:=Zq (HI3.out.next HQ2.out hr he);clear hr he;go_wp2_with fail;go_roundg (go - 1);(case rel=>exact ⟨k+1,t',_,by go_num,by omega,by rw [Yak,HNK.out]; rfl,HI9⟩);case measure=>omega
        . have hqn:m.map (posN (Fd.names l))≠[]:=(by simpa using hmn);obtain ⟨gq,cq,hcur,hgq,hHH,hRS⟩:=Zi7 HI3.out.own hqn;subst hcur;have HSO:=Zq (Tryz.slices_Sort_int gq 0 cq (m.map (posN (Fd.names l))) wr hHH hgq (by rw [Ybf]; omega));rw [Zjd HND.out HMD.out HNS.out] at HSO;have hpl:(posM (Fd.names l) m).length=(m.map (posN (Fd.names l))).length:=(by rw [<-Zjd HND.out HMD.out HNS.out,List.length_mergeSort]);have HRS:=Zq (fun n2 os2=>hRS n2 os2 (posM (Fd.names l) m) hpl);have HPL:=Zq hpl;clear e20 hHH hgq hRS hpl hqn hmn;obtain ⟨ql,hql⟩:∃ n,(m.map (posN (Fd.names l))).length=n:=⟨_,rfl⟩;rw [hql] at h20 HSO HI3 HRS HPL;have HQLL:=Zq hql;clear hql;go_wp2_with fail;refine HSO.out.mono ?_;rintro r W5 ⟨rfl,n2,os2,hW5⟩;obtain ⟨t6,hr6,he6⟩:=HRS.out n2 os2;rw [<-hW5] at hr6 he6;have HI6:=Zq (HI3.out.sorted (q':=posM (Fd.names l) m) (by rw [HPL.out,HQLL.out]) (by rw [HPL.out]; exact hr6) he6);have h20:=(HI6.out.rows.cell HF.out (Zi8 _ _ _ _ _)).1;have e20:(nds++[Value.slice (some ⟨gq,0,none⟩) ql cq]).getD k nilS = .slice (some ⟨gq,0,none⟩) ql cq:=(by rw [<-HNK.out]; simp [List.getD]);rw [e20] at h20;clear hW5 hr6 he6 e20;go_wp2_with (at_builtin; refine Zac rfl _ _ 39 rfl 30 i0 (.slice none 0 0) 1 24 Tryz.underlying39 hi hz0 hz1 hz2 rfl (by decide) rfl HI6.out.outer #[.slice (some ⟨gq,0,none⟩) ql cq] 30 (0,0) _ rfl (by simp) rfl ?c1 ?c2 ?c3 ?_);(case c1=>simp [Value.oneCell']);(case c2=>have:=HNK.out; unfold maxLen; omega);(case c3=>have:=HNK.out; omega);intro v' t' w' hr he;have HI9:=Zq (HI6.out.next HQ1.out hr he);clear hr he;go_wp2_with fail;go_roundg (go - 1);(case rel=>exact ⟨k+1,t',_,by go_num,by omega,by rw [Yak,HNK.out]; rfl,HI9⟩);case measure=>omega
  . obtain rfl:k=n:=(by omega);go_wp2_with fail;go_ret;exact ⟨_,nds,t,rfl,by rw [hnk,HN.out],HI.out⟩
end Go.Proofs.YtikannmgllejfaaGreatDoor
namespace Pal.Graph
open Go Go.RowKit Pal
structure Ord (N:Nat) (xss:List (List Int)) (s:List Int × List Bool):Prop where
 nodup:s.1.Nodup
 mem:∀ x∈s.1,0<=x/\x<(N:Int)/\isDone s.2 x=true
 all:∀ i,i<N->s.2.getD i false=true->(i:Int)∈s.1
 before:∀ p i,s.1[p]?=some i->∀ x∈lst N xss i.toNat,x∈s.1.take p
theorem ord_st (N:Nat) (xss:List (List Int)) (j:Nat):Ord N xss (st N xss j):=by
 induction j with
 | zero =>refine ⟨List.nodup_nil,fun x hx=>(by cases hx),fun i hi h=>?_,fun p i h=>(by simp [st] at h)⟩;simp [st,hi] at h
 | succ j ih =>
  show Ord N xss (step N xss (st N xss j));cases h:pick N xss (st N xss j).2 with
  | none=>rw [ZfH h]; exact ih
  | some k =>
   rw [ZfI h];obtain ⟨h1,h2,_⟩:=ZfK h;have hlen:=st_len (n:=(N:Int)) (xss:=xss) j;generalize st N xss j=s at ih h2 hlen;simp only [may,Bool.and_eq_true,Bool.not_eq_true'] at h2;obtain ⟨hk0,hfree⟩:=h2;have hkN:k<N:=(by simpa using h1);have hkl:k<s.2.length:=(by rw [hlen]; exact h1);have hkn:(k:Int) ∉ s.1:=fun hm=>by have:=(ih.mem _ hm).2.2;simp [isDone] at this;simp [this] at hk0
   have hall:∀ x∈lst N xss k,x∈s.1:=(by intro x hx;have hx0:=ZfS hx;simp only [freeB,List.all_eq_true] at hfree;have hd:=hfree x hx;have:=ih.all x.toNat (by omega) hd;have e:((x.toNat:Nat):Int)=x:=(by omega);rwa [e] at this);refine ⟨?_,fun x hx=>?_,fun i hi hd=>?_,fun p i hp x hx=>?_⟩
   . rw [List.nodup_append];exact ⟨ih.nodup,by simp,fun a ha b hb=>by simp at hb; subst hb; intro e; subst e; exact hkn ha⟩
   . rcases List.mem_append.1 hx with hx|hx
     . obtain ⟨a,b,c⟩:=ih.mem x hx;exact ⟨a,b,by rw [Zf2 hkl a,c]; simp⟩
     . simp at hx; subst hx;exact ⟨by omega,by omega,by rw [Zf2 hkl (by omega)]; simp⟩
   . by_cases e:i=k
     . subst e; simp
     . have e2:k≠i:=fun h=>e h.symm;simp only [List.getD_eq_getElem?_getD,List.getElem?_set_ne e2] at hd;exact List.mem_append.2 (.inl (ih.all i hi (by simpa using hd)))
   . by_cases hpl:p<s.1.length
     . rw [List.getElem?_append_left hpl] at hp;have:=ih.before p i hp x hx;rw [List.take_append_of_le_length (by omega)]; exact this
     . have hpe:=(List.getElem?_eq_some_iff.1 hp).1;simp at hpe;have:p=s.1.length:=(by omega);subst this;simp at hp;subst hp;rw [List.take_left];exact hall x (by simpa using hx)
end Pal.Graph
namespace Go.Proofs.YtikannmgllejfaaGreatDoor
open Go.RowKit Pal

theorem Zjn {l:List Fd} {F:Form} (h:newM l = .ok F):¬ (l.length<1\/24<l.length)/\namesOk [] 0 l=none/\readAll (Fd.names l) (Fd.types l) 0 l = .ok F.es/\F.l=l/\F.needs=F.es.map (needM (Fd.names l))/\(Graph.orderS l.length F.needs).2=true/\F.order=(Graph.orderS l.length F.needs).1.filter (hasF F.es):=by
 unfold newM at h;by_cases h0:l.length<1\/24<l.length
 . rw [if_pos h0] at h; cases h
 . rw [if_neg h0] at h;cases h1:namesOk [] 0 l with
   | some x=>rw [h1] at h; cases h
   | none =>
    rw [h1] at h;cases h2:readAll (Fd.names l) (Fd.types l) 0 l with
    | error x=>rw [h2] at h; cases h
    | ok es =>
     rw [h2] at h;simp only at h;by_cases h3:(Graph.orderS l.length (es.map (needM (Fd.names l)))).2=true
     . rw [if_pos h3] at h;cases h;exact ⟨h0,rfl,rfl,rfl,rfl,h3,rfl⟩
     . rw [if_neg h3] at h; cases h
theorem Zjo {l:List Fd} {F:Form} (h:newM l = .ok F):F.es.length=l.length/\F.needs.length=l.length:=by obtain ⟨_,_,h2,_,h4,_,_⟩:=Zjn h;have:=Zf8 l 0 F.es h2;exact ⟨this,by rw [h4,Ybf,this]⟩
theorem Zjp {n:Nat} {xss:List (List Int)} (hn:n<=4096) (h:(Graph.orderS n xss).2=true):(Graph.orderS n xss).1=(Graph.st n xss n).1/\¬ (Graph.st n xss n).1.length<n:=by
 have hc:(0:Int)<=n/\(n:Int)<=4096:=by omega
 unfold Graph.orderS at h |-;rw [if_pos hc] at h |-;have e:(n:Int).toNat=n:=by simp
 rw [e] at h |-;by_cases hl:(Graph.st n xss n).1.length<n
 . rw [if_pos hl] at h; cases h
 . rw [if_neg hl]; exact ⟨rfl,hl⟩
end Go.Proofs.YtikannmgllejfaaGreatDoor
