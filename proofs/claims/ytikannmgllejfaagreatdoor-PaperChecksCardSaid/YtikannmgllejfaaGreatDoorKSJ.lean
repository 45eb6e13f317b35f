/- A form in memory, whole and under way; plain facts of what w. -/
import Derived.Test.YtikannmgllejfaaGreatDoorKSB
set_option linter.all false
namespace Go.Proofs.YtikannmgllejfaaGreatDoor
open Go.RowKit Pal
theorem Zjq:∀ (ns:List Bs) (ts:List Int) (s:Bs),findT ns ts s≠0->s∈ns
 | [],ts,s,h=>absurd (Zd1 ts s) h
 | m::ms,ts,s,h=>by
  by_cases e:m=s
  . rw [e]; exact List.mem_cons_self
  . rw [Zd3 e] at h
    exact List.mem_cons_of_mem _ (Zjq ms ts.tail s h)
theorem Zjr {ns:List Bs} {ts:List Int} (e:Ex):∀ t,typ ns ts e = .ok t->∀ s,Occ e s->s∈ns:=by
 refine Ex.ind (P:=fun e=>∀ t,typ ns ts e = .ok t->∀ s,Occ e s->s∈ns) ?_ e;intro op n s ks ih t ht x hx;rw [Zfm] at ht;have hl:∀ (l:List Ex) us,(∀ k∈l,k∈ks)->typL ns ts l = .ok us->∀ k∈l,∀ x,Occ k x->x∈ns:=by
  intro l;induction l with
  | nil=>intro us _ _ k hk; cases hk
  | cons a r ihr =>
   intro us hm hu k hk x hx;rw [Zfn] at hu;cases ha:typ ns ts a with
   | error q=>rw [ha] at hu; cases hu
   | ok u =>
    rw [ha] at hu;simp only at hu;cases hr:typL ns ts r with
    | error q=>rw [hr] at hu; cases hu
    | ok us' =>
     rcases Ybc.1 hk with rfl|hk
     . exact ih _ (hm _ List.mem_cons_self) u ha x hx
     . exact ihr us' (fun z hz=>hm z (List.mem_cons_of_mem _ hz)) hr k hk x hx
 cases hk:typL ns ts ks with
 | error q=>rw [hk] at ht; cases ht
 | ok us =>
  rw [hk] at ht;simp only at ht;cases hx with
  | here =>
   rw [if_pos rfl] at ht;by_cases h0:findT ns ts s=0
   . rw [if_pos h0] at ht; cases ht
   . exact Zjq ns ts s h0
  | kid _ _ _ _ k _ hkm hkx=>exact hl ks us (fun _ h=>h) hk k hkm x hkx
theorem Zjs {e:Ex} {ns:List Bs} {ts:List Int} {t:Int} (h:typeOf e ns ts=(t,0)):∀ s∈namesM e,s∈ns:=by
 intro s hs;have ho:=ZfA e s hs;unfold typeOf at h;by_cases hc:check e=true
 . rw [if_pos hc] at h;cases ht:typ ns ts e with
   | ok u=>exact Zjr e u ht s ho
   | error q =>exfalso;rw [ht] at h;simp only [Yaw] at h;have:=Zfh ns ts e q ht;omega
 . rw [if_neg hc] at h;simp at h
theorem Zjt {ns:List Bs} {ts:List Int} {want:Int} {x:Bs} {e:Ex} (h:putM ns ts want x = .ok (some e)):Fine e/\check e=true/\∀ s∈namesM e,s∈ns:=by
 rcases Zga h with ⟨_,h2⟩|⟨_,e',h1,h2,h3⟩
 . cases h2
 . cases h1;exact ⟨ZhE h2,ZhF h2,Zjs h3⟩
theorem Zju {t:Tag} {W:World} {g n cap:Nat} {l:List Fd} (hn:l.length=n) (h:Row t 5 W 87 21 (.slice (some ⟨g,0,none⟩) n cap) n (l.flatMap slotFd)):RowsF W g l [] []/\n<=cap/\cap<=maxLen/\t g=5:=by
 have ht:=h.tag g rfl;rcases h.own.2 with ⟨hv,_⟩|⟨g',cap',cur,hv,_,hb,h1,h2,h3,h4⟩
 . cases hv
 . simp only [Yaq,Yai,Ybd,and_true,true_and] at hv;obtain ⟨rfl,rfl⟩:=hv;refine ⟨⟨cur,hb,fun i f hf j v hj=>?_⟩,h1,h2,ht⟩;have hjl:j<21:=(by have:=(Yag.1 hj).1; rwa [ZgA] at this);have hil:=(Yag.1 hf).1;have e1:=ZbU slotFd 21 (fun a=>by simp [slotFd,ZgA]) l i j f hf hjl;have e2:(cur.toList.take (n*21))[21*i+j]?=(slotFd f)[j]?:=(by rw [h4]; exact e1);rw [List.getElem?_take_of_lt (by omega),Array.getElem?_toList] at e2;rw [show i*21+j=21*i+j by omega,e2];exact hj
theorem RowsF.read {W W':World} {g:Nat} {l:List Fd} {xs:List XV} {f:Fd} {i:Nat} {cur0:Array Value} {x:XV} (h:RowsF W g l xs []) (h0:W.heap[g]?=some (.cells cur0 87 (0,0))) (hi:xs.length=i) (hf:l[i]?=some f)
 (hr:Rd g (i*21) cur0 (fdCells f x.1 x.2.1 x.2.2 nilS) W'):RowsF W' g l (xs++[x]) []:=by
 obtain ⟨cur,h1,h2⟩:=h;rw [h0] at h1;cases h1;obtain ⟨cur',g1,_,g3,g4⟩:=hr;refine ⟨cur',g1,fun j f' hf' c v hc=>?_⟩;have hcl:c<21:=by have:=(Yag.1 hc).1; rwa [ZgA] at this
 by_cases e:j=i
 . subst e;rw [hf] at hf';cases hf';have e2:(xs++[x]).getD j noX=x:=(by rw [<-hi]; simp [List.getD]);rw [e2] at hc;exact g3 c v hc
 . rw [g4 _ (by omega)];have e2:(xs++[x]).getD j noX=xs.getD j noX:=by
    simp only [List.getD,List.getElem?_append];by_cases hlt:j<xs.length
    . rw [if_pos hlt]
    . rw [if_neg hlt,Yaz (by omega:xs.length<=j),Yaz (by simp; omega)]
   rw [e2] at hc;exact h2 j f' hf' c v hc
theorem RowsF.rd {W:World} {g:Nat} {l:List Fd} {xs:List XV} {f:Fd} {i:Nat} (h:RowsF W g l xs []) (hi:xs.length<=i) (hf:l[i]?=some f):∃ cur0,W.heap[g]?=some (.cells cur0 87 (0,0))/\Rd g (i*21) cur0 (fdCells f none none none nilS) W:=by
 obtain ⟨cur,h1,h2⟩:=h;refine ⟨cur,h1,cur,h1,rfl,fun j v hj=>h2 i f hf j v ?_,fun _ _=>rfl⟩;have e:xs.getD i noX=noX:=by simp only [List.getD]; rw [Yaz hi]; rfl
 rw [e];exact hj
structure N2 (l:List Fd) (W1:World) (g:Nat) (xs:List XV) (W:World):Prop where
 but:But g W1 W
 rows:RowsF W g l xs []
 ov:∀ x∈xs,OvN W1.heap.size W x.1/\OvN W1.heap.size W x.2.1/\OvN W1.heap.size W x.2.2
theorem OvN.weak {n m:Nat} {W:World} {o:OV} (h:OvN m W o) (hn:n<=m):OvN n W o:=fun x hx=>⟨(h x hx).1.mono (ZdJ fun b hb _=>⟨Nat.le_trans hn hb,rfl⟩),(h x hx).2⟩
theorem N2.next {l:List Fd} {W1 W W':World} {g i:Nat} {xs:List XV} {f:Fd} {cur0:Array Value} {a b c:OV} (h:N2 l W1 g xs W) (hg:g<W1.heap.size) (h0:W.heap[g]?=some (.cells cur0 87 (0,0))) (hi:xs.length=i) (hf:l[i]?=some f)
 (hs:RdS f g (i*21) cur0 nilS W a b c W'):N2 l W1 g (xs++[(a,b,c)]) W':=by
 refine ⟨h.but.trans hs.but,h.rows.read (x:=(a,b,c)) h0 hi hf hs.rd,fun x hx=>?_⟩;rcases List.mem_append.1 hx with hx|hx
 . obtain ⟨q1,q2,q3⟩:=h.ov x hx;exact ⟨q1.but hs.but hg,q2.but hs.but hg,q3.but hs.but hg⟩
 . rw [List.mem_singleton] at hx;subst hx;exact ⟨hs.ka.weak h.but.size,hs.kb.weak h.but.size,hs.kc.weak h.but.size⟩
def x3 (x:XV):X3:=(ovE x.1,ovE x.2.1,ovE x.2.2)
theorem IntsV.apart {W:World} {B:Nat} {v:Value} {xs:List Int} {y0 y1 y2:Value} {T:TypeId} (h:IntsV (gh W) v xs) (hb:W.heap[B]?=some (.cells #[y0,y1,y2] T (0,0))) (h0:∀ x,y0 ≠ .int .i64 x) (h1:∀ x,y1 ≠ .int .i64 x) (h2:∀ x,y2 ≠ .int .i64 x):IntsV (gb B W) v xs:=by
 obtain ⟨a,cap,hv,hn,hl,hx⟩:=h;refine ⟨a,cap,hv,hn,hl,fun j x hj=>?_⟩;obtain ⟨b,off,ha,hc⟩:=hx j x hj;refine ⟨b,off,ha,?_⟩;have hne:b≠B:=by
  intro e;subst e;unfold GH.cell gh at hc;rw [hb] at hc;simp only at hc;rcases hq:off+j with _|_|_|q
  . rw [hq] at hc; simp at hc; exact h0 x hc
  . rw [hq] at hc; simp at hc; exact h1 x hc
  . rw [hq] at hc; simp at hc; exact h2 x hc
  . rw [hq] at hc; simp at hc
 unfold GH.cell at hc |-;have e:gb B W b=gh W b:=by show (if b=B then none else W.heap[b]?)=_; rw [if_neg hne]; rfl
 rw [e]; exact hc
structure N3 (W4:World) (B g mb n cap:Nat) (t:Tag) (ov:Value) (q:List Int) (W:World):Prop where
 box:W.heap[B]?=some (.cells #[.slice (some ⟨g,0,none⟩) n cap,.map (some mb),ov] 81 (0,0))
 bt:t B=5
 row:Row t 6 W 3 1 ov q.length (q.map (Value.int .i64))
 ev:Evo (tagG B) W4 t W (·≠0)
theorem Zjv {W:World} {B:Nat} {x0 x1 x2 y:Value} {T:TypeId} (h:W.heap[B]?=some (.cells #[x0,x1,x2] T (0,0))):(W.setCell ⟨B,2,none⟩ y).heap[B]?=some (.cells #[x0,x1,y] T (0,0)):=by simp [World.setCell,Yap,h]
section
variable {W4 W W' : World} {B g mb n cap : Nat} {t t' : Tag} {ov : Value} {q : List Int}
theorem N3.lt (h:N3 W4 B g mb n cap t ov q W):B<W.heap.size:=(Yaa.1 h.box).1
theorem N3.grow (h:N3 W4 B g mb n cap t ov q W) {ov':Value} {q':List Int} (hr:Row t' 6 W' 3 1 ov' q'.length (q'.map (Value.int .i64))) (ev:Evo t W t' W' (·=6)):N3 W4 B g mb n cap t' ov' q' (W'.setCell ⟨B,2,none⟩ ov'):=by have hb:=(ev.block _ h.lt (by rw [h.bt]; decide)).trans h.box;have ht:t' B=5:=(ev.tag _ h.lt).trans h.bt;have e2:Evo t' W' t' (W'.setCell ⟨B,2,none⟩ ov') (·=5):=(Ybg _ _ _).setCell _ _ ht;exact ⟨Zjv hb,ht,hr.keep e2 (by decide),(h.ev.trans (ev.mono fun _ h=>by rw [h]; decide)).trans (e2.mono fun _ h=>by rw [h]; decide)⟩
theorem N3.le (h:N3 W4 B g mb n cap t ov q W):(gb B W4).le (hz t W):=fun b o hh=>by
 unfold gb at hh
 split at hh
 . cases hh
 . rename_i hn
   have hl:=(Yaa.1 hh).1
   unfold hz
   rw [h.ev.tag b hl,h.ev.block b hl (by unfold tagG; rw [if_neg hn]; simp)]
   unfold tagG
   rw [if_neg hn,if_pos rfl]; exact hh
theorem N3.but (h:N3 W4 B g mb n cap t ov q W):But B W4 W:=⟨h.ev.os,h.ev.tape,h.ev.output,h.ev.size,fun b hl hn=>h.ev.block b hl (by unfold tagG; rw [if_neg hn]; simp)⟩
end
structure SchP (h:GH) (b:Nat) (F:Form) (g cap mb:Nat) (ov:Value) (xs:List XV) (nds:List Value):Prop where
 box:h b=some (.cells #[.slice (some ⟨g,0,none⟩) F.l.length cap,.map (some mb),ov] 81 (0,0))
 cap:F.l.length<=cap/\cap<=maxLen
 mp:∀ W,h.le (gh W)->NmAt W mb (Fd.names F.l)
 cells:∃ cur:Array Value,h g=some (.cells cur 87 (0,0))/\∀ i f,F.l[i]?=some f->∀ j v,(fdCells f (xs.getD i noX).1 (xs.getD i noX).2.1 (xs.getD i noX).2.2 (nds.getD i nilS))[j]?=some v->cur[i*21+j]?=some v
 xlen:xs.length=F.l.length
 nlen:nds.length=F.l.length
 es:F.es=xs.map x3
 ka:∀ x∈xs,(∀ y,x.1=some y->KV h y.2 y.1.ks)/\(∀ y,x.2.1=some y->KV h y.2 y.1.ks)/\∀ y,x.2.2=some y->KV h y.2 y.1.ks
 needs:∀ (i:Nat) (v:Value) (nd:List Int),nds[i]?=some v->F.needs[i]?=some nd->IntsV h v nd
 order:IntsV h ov F.order
theorem SchP.mono {h h':GH} {b:Nat} {F:Form} {g cap mb:Nat} {ov:Value} {xs:List XV} {nds:List Value} (s:SchP h b F g cap mb ov xs nds) (k:h.le h'):SchP h' b F g cap mb ov xs nds:=by
 obtain ⟨cur,c1,c2⟩:=s.cells;exact ⟨k _ _ s.box,s.cap,fun W hW=>s.mp W (k.trans hW),⟨cur,k _ _ c1,c2⟩,s.xlen,s.nlen,s.es,fun x hx=>⟨fun y hy=>((s.ka x hx).1 y hy).mono k,fun y hy=>((s.ka x hx).2.1 y hy).mono k,fun y hy=>((s.ka x hx).2.2 y hy).mono k⟩,
  fun i v nd h1 h2=>(s.needs i v nd h1 h2).mono k,s.order.mono k⟩
def SchV (h:GH) (b:Nat) (F:Form):Prop:=∃ g cap mb ov xs nds,SchP h b F g cap mb ov xs nds
theorem SchV.mono {h h':GH} {b:Nat} {F:Form} (s:SchV h b F) (k:h.le h'):SchV h' b F:=by obtain ⟨g,cap,mb,ov,xs,nds,p⟩:=s;exact ⟨g,cap,mb,ov,xs,nds,p.mono k⟩
theorem Zjw {t:Tag} {k:Nat} {W:World} {T:TypeId} {c:Nat} {v:Value} {n:Nat} {xs:List Value} (h:Row t k W T c v n xs) (hn:0<n):∃ g cap,v = .slice (some ⟨g,0,none⟩) n cap/\g<W.heap.size/\t g=k:=by
 have ht:=h.tag;rcases h.own.2 with ⟨_,h0⟩|⟨g,cap,cur,rfl,_,hb,_⟩
 . omega
 . exact ⟨g,cap,rfl,(Yaa.1 hb).1,ht g rfl⟩
theorem Zjx {t:Tag} {k:Nat} {W:World} {T:TypeId} {v:Value} {n g:Nat} {l:List Bs} (h:Row t k W T 1 v n (cellsS l)) (hg:t g≠k):StrsV (gb g W) v l:=by
 have hl:l.length=n:=by have:=h.len; rw [ZfE] at this; omega
 have hget:=fun (j:Nat) (x:Value)=>h.get (j:=j) (x:=x);rcases h.own.2 with ⟨rfl,h0⟩|⟨g',cap,cur,rfl,_,hb,h1,h2,_⟩
 . have:l=[]:=Yal (by omega);subst this;exact ZhC _ 
 . subst hl;refine ⟨some ⟨g',0,none⟩,cap,rfl,(fun h=>by cases h),h1,h2,fun j s hj=>?_⟩;have hx:(cellsS l)[j]?=some (strV s):=(by rw [ZfC,Yax,hj]; rfl);obtain ⟨g1,c1,hv,_,ht,hc,_⟩:=hget j _ hx;simp only [Yaq,Yai,Ybd,and_true,true_and] at hv;obtain ⟨rfl,rfl⟩:=hv;refine ⟨g',0,rfl,?_⟩;have hne:g'≠g:=fun e=>by subst e; exact hg ht
   have e:gb g W g'=gh W g':=(by show (if g'=g then none else W.heap[g']?)=_; rw [if_neg hne]; rfl);rw [<-Zad] at hc;unfold GH.cell at hc |-;rw [e,Nat.zero_add]; exact hc
theorem Zjy {t:Tag} {k:Nat} {W:World} {T:TypeId} {v:Value} {n g:Nat} {l:List Int} (h:Row t k W T 1 v n (l.map (Value.int .i64))) (hl:l.length<=17592186044416) (hg:t g≠k):IntsV (gb g W) v l :=
 (IntsV.ofRowV (p:=fun x=>x == k) h (by simp) hl).mono fun b o hh=>by
  unfold vw at hh
  by_cases e:b=g
  . subst e
    rw [if_neg (by simpa using hg)] at hh; cases hh
  . show (if b=g then none else W.heap[b]?)=some o
    rw [if_neg e]
    split at hh
    . exact hh
    . cases hh
theorem Zjz {ns:List Bs} {ts:List Int} {f:Fd} {k:Int} (h:readsM ns ts f = .error k):k≠0:=by
 have hp:∀ want x k,putM ns ts want x = .error k->k≠0:=by
  intro want x k hk;unfold putM at hk;by_cases hx:x=[]
  . rw [if_pos hx] at hk; cases hk
  . rw [if_neg hx] at hk;cases hm:parseM x with
    | error z =>obtain ⟨p,q⟩:=z;rw [hm] at hk;simp only [Except.error.injEq] at hk;subst hk;have:=ZhJ hm; omega
    | ok e =>
     rw [hm] at hk;simp only at hk;by_cases h1:(typeOf e ns ts).2=0
     . rw [if_neg (by simp [h1])] at hk;by_cases h2:(typeOf e ns ts).1=want
       . rw [if_neg (by simp [h2])] at hk; cases hk
       . rw [if_pos h2] at hk; cases hk; decide
     . rw [if_pos h1] at hk; cases hk; exact h1
 unfold readsM at h;cases ha:putM ns ts f.t f.fo with
 | error e=>rw [ha] at h; cases h; exact hp _ _ _ ha
 | ok a =>
  rw [ha] at h;simp only at h;cases hb:putM ns ts 2 f.ru with
  | error e=>rw [hb] at h; cases h; exact hp _ _ _ hb
  | ok b =>
   rw [hb] at h;simp only at h;cases hc:putM ns ts 2 f.sh with
   | error e=>rw [hc] at h; cases h; exact hp _ _ _ hc
   | ok c=>rw [hc] at h; cases h
theorem ZjA {l:List Fd} {i:Nat} {k:Int} (h0:¬ (l.length<1\/24<l.length)) (h1:namesOk [] 0 l=none) (h:readAll (Fd.names l) (Fd.types l) 0 l = .error (i,k)):newM l = .error (i,k):=by unfold newM; rw [if_neg h0,h1]; simp only; rw [h]
theorem ZjB {l:List Fd} {es:List X3} {N:List (List Int)} {x:Int} {r:List Int} (h0:¬ (l.length<1\/24<l.length)) (h1:namesOk [] 0 l=none) (h:readAll (Fd.names l) (Fd.types l) 0 l = .ok es) (hN:N=es.map (needM (Fd.names l)))
 (h2:¬ (Graph.orderS l.length N).2=true) (h3:Graph.stuckS l.length N=x::r):newM l = .error (x.toNat,10):=by subst hN;unfold newM; rw [if_neg h0,h1]; simp only; rw [h]; simp only; rw [if_neg h2,h3]; rfl
theorem ZjC {l:List Fd} {es:List X3} {N:List (List Int)} (h0:¬ (l.length<1\/24<l.length)) (h1:namesOk [] 0 l=none) (h:readAll (Fd.names l) (Fd.types l) 0 l = .ok es) (hN:N=es.map (needM (Fd.names l)))
 (h2:(Graph.orderS l.length N).2=true):newM l = .ok ⟨l,es,N,(Graph.orderS l.length N).1.filter (hasF es)⟩:=by subst hN;unfold newM; rw [if_neg h0,h1]; simp only; rw [h]; simp only; rw [if_pos h2]
theorem ZjD {w W:World} {g:Nat} (hb:Below w.heap.size w W) (hg:w.heap.size<=g):(gh w).le (gb g W):=fun b o hh=>by
 have hl:=(Yaa.1 hh).1
 show (if b=g then none else W.heap[b]?)=some o
 rw [if_neg (by omega),hb.block b hl]; exact hh
theorem Lk.but {w W:World} {g:Nat} {l:List Fd} {xs:List XV} {N:List (List Int)} {t:Tag} {nv cur:Value} {nds:List Value} {q:List Int} (h:Lk w g l xs N t nv nds cur q W):But g w W :=
 ⟨h.ev.os,h.ev.tape,h.ev.output,h.ev.size,fun b hl hn=>h.ev.block b hl (by unfold tagG; rw [if_neg hn]; simp)⟩
theorem ZjE {l:List Fd} {xs:List XV} {n1 g:Nat} {W:World} (h:readAll (Fd.names l) (Fd.types l) 0 l = .ok (xs.map x3)) (hg:g<n1) (ho:∀ x∈xs,OvN n1 W x.1/\OvN n1 W x.2.1/\OvN n1 W x.2.2):∀ x∈xs,FormOk W g (Fd.names l) x:=by
 intro x hx;have hput:∃ t s,putM (Fd.names l) (Fd.types l) t s = .ok (ovE x.1):=by obtain ⟨i,hi⟩:=List.mem_iff_getElem?.1 hx;have hil:=(Yag.1 hi).1;have hlen:=Zf8 l 0 _ h;rw [Ybf] at hlen;obtain ⟨f,hf⟩:∃ f,l[i]?=some f:=⟨_,Yad (by omega)⟩;have hr:=Zf9 l 0 _ h i f (x3 x) hf (by rw [Yax,hi]; rfl);exact ⟨_,_,(Zgb hr).1⟩
 obtain ⟨t,s,hput⟩:=hput;have hsome:∀ e v,x.1=some (e,v)->Fine e/\check e=true/\∀ s∈namesM e,s∈Fd.names l:=fun e v hev=>Zjt (e:=e) (by rw [hput,hev]; rfl);exact ⟨fun e v hev=>((ho x hx).1 _ hev).1.mono (ZdL W (by omega)),fun e v hev=>(hsome e v hev).1,fun e v hev=>(hsome e v hev).2.1,fun e v hev=>(hsome e v hev).2.2⟩
structure P1 (l:List Fd) (w:World) (g cp:Nat) (nv kv:Value) (W:World):Prop where
 box:W.heap[w.heap.size+1]?=some (.cells #[.slice (some ⟨g,0,none⟩) l.length cp,.map (some w.heap.size),.slice none 0 0] 81 (0,0))
 mp:NmAt W w.heap.size (Fd.names l)
 names:StrsV (gb g W) nv (Fd.names l)
 kinds:IntsV (gb g W) kv (Fd.types l)
 rows:RowsF W g l [] []
 below:Below w.heap.size w W
 ge:w.heap.size+1<g
 lt:g<W.heap.size
 cap:l.length<=cp/\cp<=maxLen
theorem ZjF {l:List Fd} {w W:World} {n:Nat} {t:Tag} {nv kv sv:Value} (h:N1 l w n n n n t nv kv sv W) (hn:l.length=n) (h1:1<=n) (h24:n<=24):∃ g cp,sv = .slice (some ⟨g,0,none⟩) n cp/\P1 l w g cp nv kv W:=by
 have htk:l.take n=l:=by rw [<-hn,List.take_length]
 obtain ⟨g,cp,rfl,hgl,htg⟩:=Zjw h.rows h1;have hr:=h.rows;have hm:=h.mp;have hnm:=h.names;have hkd:=h.kinds;rw [htk] at hr hm hnm hkd;obtain ⟨hrs,hc1,hc2,-⟩:=Zju hn hr;have hge:w.heap.size+1<g:=by
  have a1:g≠w.heap.size+1:=fun e=>by rw [e,h.bt] at htg; cases htg
  have a2:g≠w.heap.size:=fun e=>by rw [e,h.mt] at htg; cases htg
  have a3:¬ g<w.heap.size:=fun hl=>by have:=h.ev.tag g hl; rw [htg] at this; simp [T0] at this
  omega
 refine ⟨g,cp,rfl,⟨by rw [hn]; exact h.box,hm,Zjx hnm (by rw [htg]; decide),Zjy hkd (by simp [Fd.types]; omega) (by rw [htg]; decide),hrs,h.below,hge,hgl,by rw [hn]; exact ⟨hc1,hc2⟩⟩⟩
theorem But.toBelow' {w W W':World} {g:Nat} (h:But g W W') (hg:w.heap.size<=g) (hs:w.heap.size<=W.heap.size):Below w.heap.size W W':=⟨h.os,h.tape,h.output,h.size,fun b hb=>h.block b (by omega) (by omega)⟩
theorem ZjG {l:List Fd} {w W1 W2 W3 W4 W:World} {g cp n:Nat} {nv kv nv2 ov:Value} {xs:List XV} {N:List (List Int)} {t3 t:Tag} {nds:List Value} {q:List Int} (hp:P1 l w g cp nv kv W1) (h2:N2 l W1 g xs W2) (h3:Lk W2 g l xs N t3 nv2 nds nilS [] W3)
 (h4:Below W3.heap.size W3 W4) (h5:N3 W4 (w.heap.size+1) g w.heap.size n cp t ov q W) (hn:l.length=n) (hx:xs.length=n) (hl:nds.length=l.length) (hN:∀ (i:Nat) (z:List Int),N[i]?=some z->z.length<=80) (hq:q.length<=1000) :
 SchV (gh W) (w.heap.size+1) ⟨l,xs.map x3,N,q⟩/\Below w.heap.size w W:=by
 have hge:=hp.ge;have hgl:=hp.lt;have hBl:=(Yaa.1 hp.box).1;have b13:But g W1 W3:=h2.but.trans h3.but;have b14:But g W1 W4:=b13.call h4;have hs4:=b14.size;have h4s:W3.heap.size<=W4.heap.size:=h4.size;have hs3:=b13.size;have old:∀ b,b<W1.heap.size->b≠g->b≠w.heap.size+1->W.heap[b]?=W1.heap[b]?:=fun b hb h1 h2=>(h5.but.block b (by omega) h2).trans (b14.block b hb h1);have hg:W.heap[g]?=W3.heap[g]?:=(h5.but.block g (by omega) (by omega)).trans (h4.block g (by omega));have hmo:=old w.heap.size hp.mp.lt (by omega) (by omega);refine ⟨⟨g,cp,w.heap.size,ov,xs,nds,?_⟩,?_⟩
 . have hkv:∀ o:OV,OvN W1.heap.size W2 o->∀ y,o=some y->KV (gh W) y.2 y.1.ks:=(by intro o ho y hy;have h6:=((ho.but (h3.but.call h4) hgl).but h5.but hBl) y hy;exact h6.1.mono (ZdK _ _));refine ⟨by rw [show (Form.l ⟨l,xs.map x3,N,q⟩).length=n from hn]; exact h5.box,hp.cap,fun V hV=>?_,?_,by rw [hx]; exact hn.symm,hl,rfl,fun x hx=>⟨hkv _ (h2.ov x hx).1,hkv _ (h2.ov x hx).2.1,hkv _ (h2.ov x hx).2.2⟩,fun i v nd h1 hnd=>?_,?_⟩
   . obtain ⟨o,ho⟩:∃ o,W1.heap[w.heap.size]?=some o:=⟨_,Array.getElem?_eq_getElem hp.mp.lt⟩;exact hp.mp.keep ((hV _ _ (hmo.trans ho)).trans ho.symm)
   . obtain ⟨cur,c1,c2⟩:=h3.rows;refine ⟨cur,hg.trans c1,fun i f hf j v hj=>c2 i f hf j v ?_⟩;have e:(nds++[nilS]).getD i nilS=nds.getD i nilS:=by
      simp only [List.getD,List.getElem?_append];by_cases hlt:i<nds.length
      . simp [hlt]
      . rw [if_neg hlt,Yaz (by omega:nds.length<=i)];by_cases h0:i - nds.length=0
        . simp [h0]
        . rw [Yaz (by simp; omega)]
     rw [e]; exact hj
   . have hi:=IntsV.ofRowAny (h3.inner i v nd h1 hnd) (by have:=hN i nd hnd; omega);have hi4:IntsV (gh W4) v nd:=hi.mono (Zah h4);have hb4:W4.heap[w.heap.size+1]?=some (.cells #[.slice (some ⟨g,0,none⟩) l.length cp,.map (some w.heap.size),.slice none 0 0] 81 (0,0)):=(b14.block _ hBl (by omega)).trans hp.box;have ha:=IntsV.apart hi4 hb4 (fun x h=>by cases h) (fun x h=>by cases h) (fun x h=>by cases h);exact ha.mono (h5.le.trans (Zae _ _))
   . have hq2:q.length<=17592186044416:=(by omega);exact IntsV.ofRowAny h5.row hq2
 . have b1:Below w.heap.size w W4:=hp.below.trans (b14.toBelow' (by omega) hp.below.size);exact b1.trans (h5.but.toBelow' (by omega) b1.size)
theorem ZjH {xs:List XV} {i:Nat} {x:XV} (h:xs[i]?=some x):hasF (xs.map x3) (i:Int)=x.1.isSome:=by
 unfold hasF;rw [Int.toNat_natCast];have e:(xs.map x3).getD i (none,none,none)=x3 x:=by simp [List.getD,h]
 rw [e];unfold x3 ovE;cases x.1<;>rfl
theorem ZjI:∀ (r:List Fd) (seen:List Bs) (i:Nat) (x:Nat × Int),namesOk seen i r=some x->x.2=8\/x.2=9
 | [],_,_,_,h=>by cases h
 | f::r,seen,i,x,h=>by
  unfold namesOk at h
  split at h
  . cases h; exact .inr rfl
  . split at h
    . exact ZjI r _ _ x h
    . cases h; exact .inl rfl
theorem ZjJ {ns:List Bs} {ts:List Int}:∀ (r:List Fd) (i:Nat) (x:Nat × Int),readAll ns ts i r = .error x->x.2≠0
 | [],_,_,h=>by cases h
 | f::r,i,x,h=>by
  cases hr:readsM ns ts f with
  | error e=>rw [Zf7 hr] at h; cases h; exact Zjz hr
  | ok y =>
   rw [Zf6 hr] at h
   cases hq:readAll ns ts (i+1) r with
   | error z=>rw [hq] at h; cases h; exact ZjJ r _ _ hq
   | ok z=>rw [hq] at h; cases h
theorem ZjK {l:List Fd} {i:Nat} {k:Int} (h:newM l = .error (i,k)):k≠0:=by
 unfold newM at h;split at h
 . cases h; decide
 . cases h1:namesOk [] 0 l with
   | some x =>rw [h1] at h;cases h;have:=ZjI l [] 0 _ h1;simp only at this;omega
   | none =>
    rw [h1] at h;cases h2:readAll (Fd.names l) (Fd.types l) 0 l with
    | error x=>rw [h2] at h; cases h; exact ZjJ l 0 _ h2
    | ok es =>
     rw [h2] at h;simp only at h;split at h
     . cases h
     . cases h; decide
end Go.Proofs.YtikannmgllejfaaGreatDoor
