/- The common ground of the walks: a tag on each block of memor. -/
import Derived.WalkKit
import Derived.Deep.QuietTactic
import Derived.BigQuiet
import Derived.Lib.Hide
import Derived.WalkSmall
import Derived.Laws.AppendOwnNone
import Derived.Deep.LoopGhost
import Derived.Laws.RangeAny
import Derived.Lib.OthersKept
import Derived.Test.YtikannmgllejfaaGreatDoorProg
import Derived.Deep.WholeRow
import Derived.Handy
set_option maxHeartbeats 1000000
set_option maxRecDepth 1000000
set_option linter.all false
namespace Go.RowKit
theorem Zq {p : Prop} (h : p) : RowKit.Hid p := h
theorem Zs {n : Nat} : n <= n := Nat.le_refl n
abbrev zEx : Obj := .cells #[.int .i64 0, .int .i64 0, .string ⟨#[]⟩, .slice none 0 0] 83
abbrev cEx (o n : Int) (s : List UInt8) (v : Value) : Obj := .cells #[.int .i64 o, .int .i64 n, .string ⟨s.toArray⟩, v] 83
theorem Zr {α : Type _} [BEq α] [LawfulBEq α] {a b : α} (h : a ≠ b) : (a == b) = false := beq_eq_false_iff_ne.2 h
theorem Below.seq {a b c:World} (h:Below a.heap.size a b) (k:Below b.heap.size b c):Below a.heap.size a c:=h.trans (k.mono h.size)
end Go.RowKit
namespace Pal
open Go Go.RowKit

abbrev Tag:=Nat->Nat
def T0:Tag:=fun _=>0
def Tag.set (t:Tag) (b k:Nat):Tag:=fun x=>if x=b then k else t x
theorem Tag.set_same (t:Tag) (b k:Nat):t.set b k b=k:=by simp [Tag.set]
theorem Tag.set_other (t:Tag) (b k:Nat) {x:Nat} (h:x≠b):t.set b k x=t x:=by simp [Tag.set,h]
structure Evo (t:Tag) (w:World) (t':Tag) (w':World) (K:Nat->Prop):Prop where
 os:w'.os=w.os
 tape:w'.tape=w.tape
 output:w'.output=w.output
 size:w.heap.size<=w'.heap.size
 tag:∀ b,b<w.heap.size->t' b=t b
 block:∀ b,b<w.heap.size->¬ K (t b)->w'.heap[b]?=w.heap[b]?
theorem Evo.refl (t:Tag) (w:World) (K:Nat->Prop):Evo t w t w K:=⟨rfl,rfl,rfl,Nat.le_refl _,fun _ _=>rfl,fun _ _ _=>rfl⟩
theorem Evo.trans {t t' t'':Tag} {w w' w'':World} {K:Nat->Prop} (h:Evo t w t' w' K) (g:Evo t' w' t'' w'' K):Evo t w t'' w'' K :=
 ⟨g.os.trans h.os,g.tape.trans h.tape,g.output.trans h.output,Nat.le_trans h.size g.size,
  fun b hb=>(g.tag b (Nat.lt_of_lt_of_le hb h.size)).trans (h.tag b hb),
  fun b hb hk=>(g.block b (Nat.lt_of_lt_of_le hb h.size) (by rw [h.tag b hb]; exact hk)).trans (h.block b hb hk)⟩
theorem Evo.mono {t t':Tag} {w w':World} {K K':Nat->Prop} (h:Evo t w t' w' K) (hk:∀ x,K x->K' x):Evo t w t' w' K' :=
 ⟨h.os,h.tape,h.output,h.size,h.tag,fun b hb hn=>h.block b hb (fun hh=>hn (hk _ hh))⟩
theorem Evo.drew {t t':Tag} {w w':World} {K:Nat->Prop} (h:Evo t w t' w' K):Evo t w t' w'.drew K:=⟨h.os,h.tape,h.output,h.size,h.tag,h.block⟩
theorem Evo.drewN {t t':Tag} {w w':World} {K:Nat->Prop} (h:Evo t w t' w' K) (n:Nat):Evo t w t' (w'.drewN n) K:=⟨h.os,h.tape,h.output,h.size,h.tag,h.block⟩
theorem Evo.alloc {t t':Tag} {w w':World} {K:Nat->Prop} (h:Evo t w t' w' K) (k:Nat) (o:Obj):Evo t w (t'.set w'.heap.size k) (w'.alloc o) K :=
 h.trans ⟨rfl,rfl,rfl,by simp,fun b hb=>Tag.set_other _ _ _ (by omega),fun b hb _=>Below.heap_alloc _ _ _ hb⟩
theorem Evo.setCell {t t':Tag} {w w':World} {K:Nat->Prop} (h:Evo t w t' w' K) (p:Addr) (u:Value) (hk:K (t' p.block)):Evo t w t' (w'.setCell p u) K :=
 h.trans ⟨rfl,rfl,rfl,by simp [World.setCell],fun b hb=>rfl,fun b hb hn=>Below.heap_setCell _ _ _ _ (fun e=>hn (by rw [e]; exact hk))⟩
theorem Evo.below {t t':Tag} {w w':World} {K:Nat->Prop} (h:Below w.heap.size w w') (ht:∀ b,b<w.heap.size->t' b=t b):Evo t w t' w' K :=
 ⟨h.os,h.tape,h.output,h.size,ht,fun b hb _=>h.block b hb⟩
theorem Evo.toBelow {w w':World} {t':Tag} {K:Nat->Prop} (h:Evo T0 w t' w' K) (hk:¬ K 0):Below w.heap.size w w' :=
 ⟨h.os,h.tape,h.output,h.size,fun b hb=>h.block b hb hk⟩
theorem Evo.cell {t t':Tag} {w w':World} {K:Nat->Prop} (h:Evo t w t' w' K) {p:Addr} (hk:¬ K (t p.block)) {v:Value} (hv:w.cell? p=some v):w'.cell? p=some v:=by rw [<-hv]; exact World.cell?_of_block (h.block p.block (World.block_lt_of_cell? w p hv) hk)
def Tag.ext (t:Tag) (n k:Nat):Tag:=fun x=>if x<n then t x else k
theorem Tag.ext_lt (t:Tag) (n k:Nat):∀ b,b<n->t.ext n k b=t b:=fun b hb=>by simp [Tag.ext,hb]
structure Row (t:Tag) (k:Nat) (w:World) (e:TypeId) (size:Nat) (v:Value) (n:Nat) (xs:List Value):Prop where
 own:w.ownsRow 0 e size v n xs
 tag:∀ g,v.ownBlock=some g->t g=k
theorem Row.nil (t:Tag) (k:Nat) (w:World) (e:TypeId) (size:Nat):Row t k w e size (.slice none 0 0) 0 []:=⟨World.ownsRow_nil _ _ _ _,fun g hg=>by simp [Value.ownBlock] at hg⟩
theorem Row.keep {t t':Tag} {k:Nat} {w w':World} {K:Nat->Prop} {e:TypeId} {size:Nat} {v:Value} {n:Nat} {xs:List Value}
 (h:Row t k w e size v n xs) (ev:Evo t w t' w' K) (hk:¬ K k):Row t' k w' e size v n xs:=by
 refine ⟨⟨h.own.1,?_⟩,fun g hg=>?_⟩
 . rcases h.own.2 with hn|⟨g,cap,cur,rfl,hb,hg,rest⟩
   . exact .inl hn
   . have ht:t g=k:=h.tag g (by simp [Value.ownBlock]);exact .inr ⟨g,cap,cur,rfl,hb,(ev.block g (Array.getElem?_eq_some_iff.1 hg).1 (by rw [ht]; exact hk)).trans hg,rest⟩
 . rw [ev.tag g (h.own.lt g hg).2]; exact h.tag g hg
theorem Row.len {t:Tag} {k:Nat} {w:World} {e:TypeId} {size:Nat} {v:Value} {n:Nat} {xs:List Value} (h:Row t k w e size v n xs):xs.length=n*size:=h.own.1
theorem Row.form {t:Tag} {k:Nat} {w:World} {e:TypeId} {size:Nat} {v:Value} {n:Nat} {xs:List Value} (h:Row t k w e size v n xs):∃ a cap,v = .slice a n cap:=by
 rcases h.own.2 with ⟨rfl,rfl⟩|⟨g,cap,cur,rfl,_⟩
 . exact ⟨_,_,rfl⟩
 . exact ⟨_,_,rfl⟩
theorem Row.get {t:Tag} {k:Nat} {w:World} {e:TypeId} {v:Value} {n:Nat} {xs:List Value} (h:Row t k w e 1 v n xs) {j:Nat} {x:Value} (hx:xs[j]?=some x) :
 ∃ g cap,v = .slice (some ⟨g,0,none⟩) n cap/\g<w.heap.size/\t g=k/\w.cell? ⟨g,j,none⟩=some x/\w.frozen? ⟨g,j,none⟩=false:=by
 have hj:j<n:=by have:=h.len; have:=(List.getElem?_eq_some_iff.1 hx).1; omega
 rcases h.own.2 with ⟨rfl,rfl⟩|⟨g,cap,cur,rfl,hb,hg,hn,hc,hs,ht⟩
 . omega
 . refine ⟨g,cap,rfl,(Array.getElem?_eq_some_iff.1 hg).1,h.tag g (by simp [Value.ownBlock]),?_,?_⟩
   . rw [cell_of_row w g j cur e (0,0) hg];rw [<-ht,List.getElem?_take] at hx;split at hx
     . simpa using hx
     . cases hx
   . simp [World.frozen?,hg]
theorem Row.set {t:Tag} {k:Nat} {w:World} {e:TypeId} {g n cap:Nat} {xs:List Value} (h:Row t k w e 1 (.slice (some ⟨g,0,none⟩) n cap) n xs) (j:Nat) (u:Value) :
 Row t k (w.setCell ⟨g,j,none⟩ u) e 1 (.slice (some ⟨g,0,none⟩) n cap) n (xs.set j u):=by
 refine ⟨⟨by rw [List.length_set]; exact h.own.1,?_⟩,h.tag⟩;rcases h.own.2 with ⟨hv,hn⟩|⟨g',cap',cur,hv,hb,hg,hn,hc,hs,ht⟩
 . cases hv
 . simp only [Value.slice.injEq,Option.some.injEq,Addr.mk.injEq,and_true,true_and] at hv;obtain ⟨rfl,rfl⟩:=hv;refine .inr ⟨g,cap,cur.setIfInBounds j u,rfl,hb,?_,hn,hc,by simpa using hs,?_⟩
   . have hlt:=(Array.getElem?_eq_some_iff.1 hg).1;simp [World.setCell,Array.getElem?_modify,hg]
   . simp only [Nat.mul_one] at ht |-;rw [<-ht];rw [Array.toList_setIfInBounds];exact List.take_set
theorem Row.fresh {t:Tag} (k:Nat) {w:World} {e:TypeId} {size:Nat} {n:Nat} {xs:List Value} (cur:Array Value) (cap:Nat) (hn:n<=cap) (hm:cap<=maxLen) (hs:cur.size=cap*size) (hx:cur.toList.take (n*size)=xs) :
 Row (t.set w.heap.size k) k (w.alloc (.cells cur e)) e size (.slice (some ⟨w.heap.size,0,none⟩) n cap) n xs:=by
 have hl:xs.length=n*size:=by rw [<-hx,List.length_take,Array.length_toList,hs]; exact Nat.min_eq_left (Nat.mul_le_mul_right _ hn)
 exact ⟨⟨hl,.inr ⟨w.heap.size,cap,cur,rfl,Nat.zero_le _,heap_alloc_new w _,hn,hm,hs,hx⟩⟩,
  fun g hg=>by simp [Value.ownBlock] at hg; subst hg; exact Tag.set_same _ _ _⟩
theorem Zaa {P:Program} {t:Tag} {w:World} (ty st e:TypeId) (i:TypeInfo) (z:Value) (size bytes:Nat) (ht:P.underlying st=some (.slice e)) (hi:P.info? e=some i) (hz:i.zero=some z)
 (hsize:i.size=size) (hby:i.bytes=bytes) (hzs:z.cells.size=size) (hsz:0<size)
 {k:Nat} {v:Value} {n:Nat} {xs:List Value} (hown:Row t k w e size v n xs)
 (a:Addr) (m c:Nat) (news:List Value) (hl:news.length=m*size) (hnews:∀ j u,news[j]?=some u->w.cell? (a.add j)=some u) (h1:∀ u∈news,u.oneCell'=true)
 (h63:n+m<=maxLen) (hbytes:(n+m)*bytes<=140737488355328) :
 ∃ v' t' w',(Builtin.append_ #[st,st] ty #[v,.slice (some a) m c]).run P w = .ok v' w'/\Row t' k w' e size v' (n+m) (xs++news)/\Evo t w t' w' (·=k)/\(v' = .slice none 0 0↔v = .slice none 0 0/\m=0):=by
 subst hsize;subst hby
 have hsmall:n+m<=9223372036854775807:=by simp only [maxLen] at h63; omega
 have hlen:(xs++news).length=(n+m)*i.size:=by rw [List.length_append,hown.len,hl,Nat.add_mul]
 have grown:∀ (old:Nat),
  Row (t.set w.heap.size k) k (w.drew.alloc (.cells (xs.toArray++news.toArray++Builtin.zeroCells z.cells (grownCap w (n+m) old e - (n+m))) e)) e i.size
   (.slice (some ⟨w.heap.size,0,none⟩) (n+m) (grownCap w (n+m) old e)) (n+m) (xs++news) /\
  Evo t w (t.set w.heap.size k) (w.drew.alloc (.cells (xs.toArray++news.toArray++Builtin.zeroCells z.cells (grownCap w (n+m) old e - (n+m))) e)) (·=k):=by
  intro old
  have hge:=grownCap_ge w (n+m) old e
  have hcm:grownCap w (n+m) old e<=maxLen:=grownCap_le_maxLen w (n+m) old e h63
  refine ⟨Row.fresh (w:=w.drew) k _ _ hge hcm ?_ ?_,((Evo.refl t w _).drew).alloc k _⟩
  . simp only [Array.size_append,List.size_toArray,size_zeroCells,hzs,hown.len,hl,<-Nat.add_mul]
    congr 1
    omega
  . simp only [Array.toList_append,List.append_assoc]
    rw [<-List.append_assoc,<-hlen]
    exact List.take_left
 rcases hown.own.2 with ⟨rfl,rfl⟩|⟨g,cap,cur,rfl,hbg,hg,hnc,hcm,hcs,htake⟩
 . have hx:xs=[]:=List.eq_nil_of_length_eq_zero (by simpa using hown.len);subst hx;by_cases hm:m=0
   . subst hm;have hn:news=[]:=List.eq_nil_of_length_eq_zero (by simpa using hl);subst hn;refine ⟨.slice none 0 0,t,w,?_,Row.nil _ _ _ _ _,Evo.refl _ _ _,by simp⟩;simp [Builtin.append_,run_underlying ht,Go.sizeOf,typeInfo,hi,Builtin.lenOf,Builtin.firstCells,loadCells,loadCellsFrom]
   . have hr:=run_append_nil (P:=P) w st ty e i z ht hi hz a m c news hl hnews (by omega) (by omega) (by have hb:=hbytes; simp only [Nat.zero_add] at hb; omega);have hgr:=grown 0;simp only [Nat.zero_add,List.nil_append,Array.empty_append] at hgr |-;exact ⟨_,_,_,hr,hgr.1,hgr.2,by simp [hm]⟩
 . by_cases hroom:n+m<=cap
   . have hfit:n*i.size+news.length<=cur.size:=(by rw [hl,hcs,<-Nat.add_mul]; exact Nat.mul_le_mul_right _ hroom);have hr:=run_append_room (P:=P) w st ty e i ht hi g n cap cur hg a m c news hl hnews h1 hroom hfit;have htg:t g=k:=hown.tag g (by simp [Value.ownBlock]);refine ⟨_,t,_,hr,⟨⟨hlen,.inr ⟨g,cap,_,rfl,hbg,setRow_heap w g cur _ e _ hg,hroom,hcm,?_,?_⟩⟩,fun g' hg'=>by simp [Value.ownBlock] at hg'; subst hg'; exact htg⟩,
      ⟨rfl,rfl,rfl,by simp,fun _ _=>rfl,fun b _ hk=>setRow_other w g b _ (fun e=>hk (by rw [e]; exact htg))⟩,by simp⟩
     . simp only [List.size_toArray,List.length_append,List.length_take,List.length_drop,Array.length_toList];omega
     . rw [htake,<-hlen];exact List.take_left
   . have holds:∀ j u,xs[j]?=some u->w.cell? ((⟨g,0,none⟩:Addr).add j)=some u:=hown.own.cells (g:=g) rfl;have hr:=run_append_grow (P:=P) w st ty e i z ht hi hz ⟨g,0,none⟩ n cap xs hown.len holds a m c news hl hnews (by omega) (by omega) (growslice_fits (by omega) hbytes);have hgr:=grown cap;exact ⟨_,_,_,hr,hgr.1,hgr.2,by simp⟩
theorem Zab {P:Program} {t:Tag} {w:World} {ops:Array Oper} {rest:List Oper} {o:Oper} {a:Act} {Q:Exit->Act->World->Prop} (hgd:o.guard=none) (s x:Operand) (st:TypeId)
 (ho:o.op = .call { callee := .builtin .append,args:=#[s,x],argTypes:=#[st,st] })
 (e:TypeId) (i:TypeInfo) (z:Value) (size bytes:Nat) (ht:P.underlying st=some (.slice e)) (hi:P.info? e=some i) (hz:i.zero=some z)
 (hsize:i.size=size) (hby:i.bytes=bytes) (hzs:z.cells.size=size) (hsz:0<size)
 {k:Nat} {v:Value} {n:Nat} {xs:List Value} (hs:a.eval s=v) (hown:Row t k w e size v n xs)
 (ad:Addr) (m c:Nat) (news:List Value) (hx:a.eval x = .slice (some ad) m c) (hl:news.length=m*size) (hnews:∀ j u,news[j]?=some u->w.cell? (ad.add j)=some u) (h1:∀ u∈news,u.oneCell'=true)
 (h63:n+m<=maxLen) (hbytes:(n+m)*bytes<=140737488355328)
 (h:∀ v' t' w',Row t' k w' e size v' (n+m) (xs++news)->Evo t w t' w' (·=k)->(v' = .slice none 0 0↔v = .slice none 0 0/\m=0)->wpList P ops Q rest (a.put o.dst v') w'):wpList P ops Q (o::rest) a w:=by refine wpList_plain hgd fun _ hK=>?_;obtain ⟨v',t',w',hr,h2,h3,h4⟩:=Zaa (P:=P) o.type st e i z size bytes ht hi hz hsize hby hzs hsz hown ad m c news hl hnews h1 h63 hbytes;unfold Oper.wp execOp;simp only [ho,resolve,invoke,builtin,Sem.run_bind,Sem.run_pure,Result.andThen_ok,List.map_toArray,List.map_cons,List.map_nil,hs,hx,hr];exact hK _ _ (h v' t' w' h2 h3 h4)
theorem Zac {P:Program} {t:Tag} {w:World} {ops:Array Oper} {rest:List Oper} {o:Oper} {a:Act} {Q:Exit->Act->World->Prop} (hgd:o.guard=none) (s x:Operand) (st:TypeId)
 (ho:o.op = .call { callee := .builtin .append,args:=#[s,x],argTypes:=#[st,st] })
 (e:TypeId) (i:TypeInfo) (z:Value) (size bytes:Nat) (ht:P.underlying st=some (.slice e)) (hi:P.info? e=some i) (hz:i.zero=some z)
 (hsize:i.size=size) (hby:i.bytes=bytes) (hzs:z.cells.size=size) (hsz:0<size)
 {k:Nat} {v:Value} {n:Nat} {xs:List Value} (hs:a.eval s=v) (hown:Row t k w e size v n xs) (cs:Array Value) (ce:TypeId) (fr:Nat × Nat)
 (g0:Nat) (hx:a.eval x = .slice (some ⟨g0,0,none⟩) 1 1) (hg0:g0=w.heap.size) (hl:cs.size=size) (h1:∀ u∈cs.toList,u.oneCell'=true)
 (h63:n+1<=maxLen) (hbytes:(n+1)*bytes<=140737488355328)
 (h:∀ v' t' w',Row t' k w' e size v' (n+1) (xs++cs.toList)->Evo t w t' w' (·=k)->wpList P ops Q rest (a.put o.dst v') w'):wpList P ops Q (o::rest) a (w.alloc (.cells cs ce fr)):=by
 subst hg0;have ev0:Evo t w (t.set w.heap.size (k+1)) (w.alloc (.cells cs ce fr)) (·=k):=(Evo.refl t w _).alloc (k+1) _;have ev1:Evo t w (t.set w.heap.size (k+1)) (w.alloc (.cells cs ce fr)) (fun _=>False):=(Evo.refl t w _).alloc (k+1) _;refine Zab hgd s x st ho e i z size bytes ht hi hz hsize hby hzs hsz hs (hown.keep ev1 (by simp)) ⟨w.heap.size,0,none⟩ 1 1 cs.toList hx (by simpa using hl) (fun j u hj=>?_) h1 h63 hbytes
  (fun v' t' w' hr he _=>h v' t' w' hr (ev0.trans he))
 have hadd:(⟨w.heap.size,0,none⟩:Addr).add j=⟨w.heap.size,j,none⟩:=by unfold Addr.add; split<;>simp_all
 rw [hadd];have hg:(w.alloc (.cells cs ce fr)).heap[w.heap.size]?=some (.cells cs ce fr):=heap_alloc_new w _;rw [cell_of_row _ _ j cs ce fr hg];simpa using hj
/-! Ghost heaps: what stays as it is. -/
abbrev GH:=Nat->Option Obj
def GH.cell (h:GH) (b i:Nat):Option Value:=match h b with|some (.cells c _ _)=>c[i]?|_=>none
def GH.le (h h':GH):Prop:=∀ b o,h b=some o->h' b=some o
def gh (w:World):GH:=fun b=>w.heap[b]?
def hz (t:Tag) (w:World):GH:=fun b=>if t b=0 then w.heap[b]? else none
theorem GH.le.refl (h:GH):h.le h:=fun _ _ x=>x
theorem GH.le.trans {h h' h'':GH} (a:h.le h') (b:h'.le h''):h.le h'':=fun _ _ x=>b _ _ (a _ _ x)
theorem GH.le.cell {h h':GH} (l:h.le h') {b i:Nat} {v:Value} (hc:h.cell b i=some v):h'.cell b i=some v:=by
 unfold GH.cell at hc |-;cases e:h b with
 | none=>rw [e] at hc; cases hc
 | some o=>rw [e] at hc; rw [l b o e]; exact hc
theorem Zad (w:World) (b i:Nat):(gh w).cell b i=w.cell? ⟨b,i,none⟩:=by
 unfold GH.cell gh World.cell?;cases h:w.heap[b]? with
 | none=>simp
 | some o=>cases o<;>simp
theorem Zae (t:Tag) (w:World):(hz t w).le (gh w):=fun b o h=>by
 unfold hz at h
 split at h
 . exact h
 . cases h
theorem Zaf (w:World):hz T0 w=gh w:=by funext b; simp [hz,T0,gh]
theorem GH.le.at {h:GH} {w:World} (l:h.le (gh w)) {b i:Nat} {v:Value} (hc:h.cell b i=some v):w.cell? ⟨b,i,none⟩=some v:=by rw [<-Zad]; exact l.cell hc
theorem Zag {t:Tag} {w:World} {b i:Nat} {v:Value} (hc:(hz t w).cell b i=some v):w.cell? ⟨b,i,none⟩=some v:=(Zae t w).at hc
theorem Evo.hz {t t':Tag} {w w':World} {K:Nat->Prop} (ev:Evo t w t' w' K) (hk:¬ K 0):(hz t w).le (hz t' w'):=by
 intro b o h;unfold Pal.hz at h |-;split at h
 . rename_i h0;have hb:b<w.heap.size:=(Array.getElem?_eq_some_iff.1 h).1;rw [ev.tag b hb,if_pos h0,ev.block b hb (by rw [h0]; exact hk)];exact h
 . cases h
theorem Zah {w w':World} (hb:Below w.heap.size w w'):(gh w).le (gh w'):=fun b _ h=>(hb.block b (Array.getElem?_eq_some_iff.1 h).1).trans h
theorem Row.ofOwn {w w':World} {e:TypeId} {size:Nat} {v:Value} {n:Nat} {xs:List Value} (t:Tag) (k:Nat) (K:Nat->Prop) (hb:Below w.heap.size w w') (ho:w'.ownsRow w.heap.size e size v n xs) :
 ∃ t',Row t' k w' e size v n xs/\Evo t w t' w' K:=by
 refine ⟨fun b=>if b<w.heap.size then t b else if v.ownBlock=some b then k else 0,⟨⟨ho.1,?_⟩,fun g hg=>?_⟩,Evo.below hb fun b hb=>by simp [hb]⟩
 . rcases ho.2 with hn|⟨g,cap,cur,hv,_,rest⟩
   . exact .inl hn
   . exact .inr ⟨g,cap,cur,hv,Nat.zero_le _,rest⟩
 . have:=(ho.lt g hg).1;simp [hg,show ¬ g<w.heap.size by omega]
theorem Row.toOwn {t':Tag} {w w':World} {K:Nat->Prop} {k:Nat} {e:TypeId} {size:Nat} {v:Value} {n:Nat} {xs:List Value} (h:Row t' k w' e size v n xs) (ev:Evo T0 w t' w' K) (hk:k≠0):w'.ownsRow w.heap.size e size v n xs:=by
 refine ⟨h.own.1,?_⟩;rcases h.own.2 with hn|⟨g,cap,cur,hv,_,rest⟩
 . exact .inl hn
 . refine .inr ⟨g,cap,cur,hv,?_,rest⟩;have hg:=h.tag g (by rw [hv]; rfl);apply Classical.byContradiction;intro hlt;have:=ev.tag g (by omega);rw [hg] at this;exact hk this
def IntsV (h:GH) (v:Value) (xs:List Int):Prop :=
 ∃ a cap,v = .slice a xs.length cap/\(a=none->xs=[]/\cap=0)/\xs.length<=17592186044416/\∀ j x,xs[j]?=some x->∃ b off,a=some ⟨b,off,none⟩/\h.cell b (off+j)=some (.int .i64 x)
theorem IntsV.mono {h h':GH} {v:Value} {xs:List Int} (i:IntsV h v xs) (l:h.le h'):IntsV h' v xs:=by obtain ⟨a,cap,hv,hn,hl,hc⟩:=i;exact ⟨a,cap,hv,hn,hl,fun j x hx=>let ⟨b,off,ha,hcc⟩:=hc j x hx; ⟨b,off,ha,l.cell hcc⟩⟩
def RowsV (h:GH) (v:Value) (xss:List (List Int)):Prop :=
 ∃ a cap,v = .slice a xss.length cap/\(a=none->xss=[]/\cap=0)/\xss.length<=5864062014805/\∀ j xs,xss[j]?=some xs->∃ b off u,a=some ⟨b,off,none⟩/\h.cell b (off+j)=some u/\IntsV h u xs
theorem IntsV.ofOwn {w:World} {B:Nat} {e:TypeId} {v:Value} {xs:List Int} (h:w.ownsRow B e 1 v xs.length (xs.map (Value.int .i64))) (hl:xs.length<=17592186044416):IntsV (gh w) v xs:=by
 rcases h.2 with ⟨rfl,hn⟩|⟨g,cap,cur,rfl,hb,hg,hn,hc,hs,ht⟩
 . have:xs=[]:=List.eq_nil_of_length_eq_zero hn;subst this;exact ⟨_,_,rfl,fun _=>⟨rfl,rfl⟩,by simp,fun j x hx=>by simp at hx⟩
 . refine ⟨_,_,rfl,fun h=>(by cases h),hl,fun j x hx=>⟨g,0,rfl,?_⟩⟩;rw [Zad,Nat.zero_add,cell_of_row w g j cur e (0,0) hg];have hj:=(List.getElem?_eq_some_iff.1 hx).1;have h2:(xs.map (Value.int .i64))[j]?=some (.int .i64 x):=(by simp [hx]);rw [<-ht,List.getElem?_take,if_pos (by omega)] at h2;simpa using h2
theorem IntsV.ofRow {t:Tag} {w:World} {e:TypeId} {v:Value} {xs:List Int} {n:Nat} (h:Row t 0 w e 1 v n (xs.map (Value.int .i64))) (hl:xs.length<=17592186044416):IntsV (hz t w) v xs:=by
 have hn:n=xs.length:=by have:=h.len; simp at this; omega
 subst hn;rcases h.own.2 with ⟨rfl,hn⟩|⟨g,cap,cur,rfl,hb,hg,hn,hc,hs,ht⟩
 . have:xs=[]:=List.eq_nil_of_length_eq_zero hn;subst this;exact ⟨_,_,rfl,fun _=>⟨rfl,rfl⟩,by simp,fun j x hx=>by simp at hx⟩
 . refine ⟨_,_,rfl,fun h=>(by cases h),hl,fun j x hx=>⟨g,0,rfl,?_⟩⟩;have htg:t g=0:=h.tag g rfl;have hj:=(List.getElem?_eq_some_iff.1 hx).1;have h2:(xs.map (Value.int .i64))[j]?=some (.int .i64 x):=(by simp [hx]);rw [<-ht,List.getElem?_take,if_pos (by omega)] at h2;simp only [GH.cell,hz,htg,if_true,hg,Nat.zero_add];simpa using h2
def BoolsV (h:GH) (v:Value) (xs:List Bool):Prop :=
 ∃ a cap,v = .slice a xs.length cap/\(a=none->xs=[]/\cap=0)/\∀ j x,xs[j]?=some x->∃ b off,a=some ⟨b,off,none⟩/\h.cell b (off+j)=some (.bool x)
theorem BoolsV.ofRowAny {t:Tag} {k:Nat} {w:World} {e:TypeId} {v:Value} {xs:List Bool} {n:Nat} (h:Row t k w e 1 v n (xs.map Value.bool)):BoolsV (gh w) v xs:=by
 have hn:n=xs.length:=by have:=h.len; simp at this; omega
 subst hn;obtain ⟨a,cap,rfl⟩:=h.form;refine ⟨a,cap,rfl,fun ha=>?_,fun j x hx=>?_⟩
 . subst ha;rcases h.own.2 with ⟨hv,hn⟩|⟨g,cap',cur,hv,_⟩
   . simp at hv; exact ⟨List.eq_nil_of_length_eq_zero hn,hv.2⟩
   . cases hv
 . obtain ⟨g,cap',hv,_,_,hcell,_⟩:=h.get (j:=j) (x := .bool x) (by simp [hx]);simp only [Value.slice.injEq,true_and] at hv;exact ⟨g,0,hv.1,by rw [Zad,Nat.zero_add]; exact hcell⟩
theorem IntsV.ofRowAny {t:Tag} {k:Nat} {w:World} {e:TypeId} {v:Value} {xs:List Int} {n:Nat} (h:Row t k w e 1 v n (xs.map (Value.int .i64))) (hl:xs.length<=17592186044416):IntsV (gh w) v xs:=by
 have hn:n=xs.length:=by have:=h.len; simp at this; omega
 subst hn;obtain ⟨a,cap,rfl⟩:=h.form;refine ⟨a,cap,rfl,fun ha=>?_,hl,fun j x hx=>?_⟩
 . subst ha;rcases h.own.2 with ⟨hv,hn⟩|⟨g,cap',cur,hv,_⟩
   . simp at hv; exact ⟨List.eq_nil_of_length_eq_zero hn,hv.2⟩
   . cases hv
 . obtain ⟨g,cap',hv,_,_,hcell,_⟩:=h.get (j:=j) (x := .int .i64 x) (by simp [hx]);simp only [Value.slice.injEq,true_and] at hv;exact ⟨g,0,hv.1,by rw [Zad,Nat.zero_add]; exact hcell⟩
theorem RowsV.ofRowAny {t:Tag} {k:Nat} {w:World} {e:TypeId} {v:Value} {us:List Value} {xss:List (List Int)} {n:Nat} (h:Row t k w e 1 v n us) (hlen:us.length=xss.length) (hl:xss.length<=5864062014805)
 (hu:∀ (j:Nat) (u:Value) (xs:List Int),us[j]?=some u->xss[j]?=some xs->IntsV (gh w) u xs):RowsV (gh w) v xss:=by
 have hn:n=xss.length:=by have:=h.len; simp at this; omega
 subst hn;obtain ⟨a,cap,rfl⟩:=h.form;refine ⟨a,cap,rfl,fun ha=>?_,hl,fun j x hx=>?_⟩
 . subst ha;rcases h.own.2 with ⟨hv,hn⟩|⟨g,cap',cur,hv,_⟩
   . simp at hv; exact ⟨List.eq_nil_of_length_eq_zero hn,hv.2⟩
   . cases hv
 . have hj:=(List.getElem?_eq_some_iff.1 hx).1;obtain ⟨u,huj⟩:∃ u,us[j]?=some u:=⟨_,List.getElem?_eq_getElem (by omega)⟩;obtain ⟨g,cap',hv,_,_,hcell,_⟩:=h.get huj;simp only [Value.slice.injEq,true_and] at hv;exact ⟨g,0,u,hv.1,by rw [Zad,Nat.zero_add]; exact hcell,hu j u x huj hx⟩
def lenOf:Value->Nat | .slice _ n _=>n|_=>0
theorem Row.made (t:Tag) (k:Nat) (w:World) (e:TypeId) (z:Value) (n:Nat) (hm:n<=maxLen) :
 Row (t.set w.heap.size k) k (w.alloc (.cells (madeCells #[z] n) e)) e 1 (.slice (some ⟨w.heap.size,0,none⟩) n n) n (List.replicate n z):=by
 refine Row.fresh k _ _ Zs hm (by simp [madeCells]) ?_;simp only [Nat.mul_one,madeCells];apply List.ext_getElem
 . simp
 . intro i h1 h2;simp [Nat.mod_one]
def vw (p:Nat->Bool) (t:Tag) (w:World):GH:=fun b=>if p (t b) then w.heap[b]? else none
theorem Row.take {t:Tag} {k:Nat} {w:World} {e:TypeId} {g n cap:Nat} {xs:List Value} (h:Row t k w e 1 (.slice (some ⟨g,0,none⟩) n cap) n xs) (m:Nat) (hm:m<=n):Row t k w e 1 (.slice (some ⟨g,0,none⟩) m cap) m (xs.take m):=by
 refine ⟨⟨by rw [List.length_take,h.len]; omega,?_⟩,h.tag⟩;rcases h.own.2 with ⟨hv,_⟩|⟨g',cap',cur,hv,hb,hg,hn,hc,hs,ht⟩
 . cases hv
 . simp only [Value.slice.injEq,Option.some.injEq,Addr.mk.injEq,and_true,true_and] at hv;obtain ⟨rfl,rfl⟩:=hv;refine .inr ⟨g,cap,cur,rfl,hb,hg,by omega,hc,hs,?_⟩;rw [<-ht,List.take_take]; congr 1; omega
theorem IntsV.ofRowV {p:Nat->Bool} {t:Tag} {k:Nat} {w:World} {e:TypeId} {v:Value} {xs:List Int} {n:Nat} (h:Row t k w e 1 v n (xs.map (Value.int .i64))) (hp:p k=true) (hl:xs.length<=17592186044416):IntsV (vw p t w) v xs:=by
 have hn:n=xs.length:=by have:=h.len; simp at this; omega
 subst hn;rcases h.own.2 with ⟨rfl,hn⟩|⟨g,cap,cur,rfl,hb,hg,hn,hc,hs,ht⟩
 . have:xs=[]:=List.eq_nil_of_length_eq_zero hn;subst this;exact ⟨_,_,rfl,fun _=>⟨rfl,rfl⟩,by simp,fun j x hx=>by simp at hx⟩
 . refine ⟨_,_,rfl,fun h=>(by cases h),hl,fun j x hx=>⟨g,0,rfl,?_⟩⟩;have htg:t g=k:=h.tag g rfl;have hj:=(List.getElem?_eq_some_iff.1 hx).1;have h2:(xs.map (Value.int .i64))[j]?=some (.int .i64 x):=(by simp [hx]);rw [<-ht,List.getElem?_take,if_pos (by omega)] at h2;simp only [GH.cell,vw,htg,hp,if_true,hg,Nat.zero_add];simpa using h2
theorem Zai {P:Program} {t:Tag} {w:World} {ops:Array Oper} {rest:List Oper} {o:Oper} {a:Act} {Q:Exit->Act->World->Prop} (hgd:o.guard=none) (s x:Operand) (st:TypeId)
 (ho:o.op = .call { callee := .builtin .append,args:=#[s,x],argTypes:=#[st,st] })
 (e:TypeId) (i:TypeInfo) (z:Value) (size bytes:Nat) (ht:P.underlying st=some (.slice e)) (hi:P.info? e=some i) (hz:i.zero=some z)
 (hsize:i.size=size) (hby:i.bytes=bytes) (hzs:z.cells.size=size) (hsz:0<size)
 {k:Nat} {v:Value} {n:Nat} {xs:List Value} (hs:a.eval s=v) (hown:Row t k w e size v n xs)
 (ad:Option Addr) (m c:Nat) (news:List Value) (hx:a.eval x = .slice ad m c) (hnil:ad=none->m=0/\c=0) (hl:news.length=m*size) (hnews:∀ j u,news[j]?=some u->∃ A,ad=some A/\w.cell? (A.add j)=some u) (h1:∀ u∈news,u.oneCell'=true)
 (h63:n+m<=maxLen) (hbytes:(n+m)*bytes<=140737488355328)
 (h:∀ v' t' w',Row t' k w' e size v' (n+m) (xs++news)->Evo t w t' w' (·=k)->wpList P ops Q rest (a.put o.dst v') w'):wpList P ops Q (o::rest) a w:=by
 cases ad with
 | none =>obtain ⟨rfl,rfl⟩:=hnil rfl;have hn:news=[]:=List.eq_nil_of_length_eq_zero (by simpa using hl);subst hn;exact wpList_append_own_none hgd s x st ho 0 e i size ht hi v n xs hs (by exact hown.own) hx (h v t w (by simpa using hown) (Evo.refl _ _ _))
 | some A =>exact Zab hgd s x st ho e i z size bytes ht hi hz hsize hby hzs hsz hs hown A m c news hx hl (fun j u hj=>by obtain ⟨A',hA,hc⟩:=hnews j u hj; cases hA; exact hc) h1 h63 hbytes (fun v' t' w' a b _=>h v' t' w' a b)
end Pal
namespace Go.Proofs.YtikannmgllejfaaGreatDoor
open Go.RowKit Pal

def rlo (k:Nat):Int:=[97,65,192,216,248,913,931,945,1040,19968].getD k 0
def rhi (k:Nat):Int:=[122,90,214,246,591,929,937,969,1103,40959].getD k 0
def inR (r:Int) (k:Nat):Prop:=rlo k<=r/\r<=rhi k
instance (r:Int) (k:Nat):Decidable (inR r k):=by unfold inR; infer_instance
theorem Zaj (r:Int):(∃ k,k<10/\inR r k)↔(97<=r/\r<=122)\/(65<=r/\r<=90)\/(192<=r/\r<=214)\/(216<=r/\r<=246)\/(248<=r/\r<=591)\/(913<=r/\r<=929)\/(931<=r/\r<=937)\/(945<=r/\r<=969)\/(1040<=r/\r<=1103)\/(19968<=r/\r<=40959):=by
 constructor
 . rintro ⟨k,hk,h⟩;rcases (by omega:k=0\/k=1\/k=2\/k=3\/k=4\/k=5\/k=6\/k=7\/k=8\/k=9) with rfl|rfl|rfl|rfl|rfl|rfl|rfl|rfl|rfl|rfl <;>
    simp [inR,rlo,rhi] at h<;>omega
 . rintro (h|h|h|h|h|h|h|h|h|h)
   . exact ⟨0,by omega,h⟩
   . exact ⟨1,by omega,h⟩
   . exact ⟨2,by omega,h⟩
   . exact ⟨3,by omega,h⟩
   . exact ⟨4,by omega,h⟩
   . exact ⟨5,by omega,h⟩
   . exact ⟨6,by omega,h⟩
   . exact ⟨7,by omega,h⟩
   . exact ⟨8,by omega,h⟩
   . exact ⟨9,by omega,h⟩
instance (r:Int):Decidable (∃ k,k<10/\inR r k):=decidable_of_iff _ (Zaj r).symm
def isSp (r:Int):Prop:=r=9\/r=10\/r=13\/r=32\/r=160\/r=12288
instance (r:Int):Decidable (isSp r):=by unfold isSp; infer_instance
def isLo (r:Int):Prop:=r=95\/r=170\/r=181\/r=186
instance (r:Int):Decidable (isLo r):=by unfold isLo; infer_instance
def cls (r:Int):Int:=if isSp r then 3 else if isLo r then 1 else if 48<=r/\r<=57 then 2 else if ∃ k,k<10/\inR r k then 1 else 0
theorem Zak {r:Int} (h:isSp r):cls r=3:=by simp [cls,h]
theorem Zal {r:Int} (h:isLo r):cls r=1:=by
 have:¬ isSp r:=by unfold isSp isLo at *; omega
 simp [cls,h,this]
theorem Zam {r:Int} (h:48<=r/\r<=57):cls r=2:=by
 have h1:¬ isSp r:=by unfold isSp; omega
 have h2:¬ isLo r:=by unfold isLo; omega
 simp [cls,h,h1,h2]
theorem Zan {r:Int} {k:Nat} (hk:k<10) (h:inR r k):cls r=1:=by
 have h1:¬ isSp r:=by
  rcases (by omega:k=0\/k=1\/k=2\/k=3\/k=4\/k=5\/k=6\/k=7\/k=8\/k=9) with rfl|rfl|rfl|rfl|rfl|rfl|rfl|rfl|rfl|rfl <;>
   simp [inR,rlo,rhi] at h<;>unfold isSp<;>omega
 have h2:¬ (48<=r/\r<=57):=by
  rcases (by omega:k=0\/k=1\/k=2\/k=3\/k=4\/k=5\/k=6\/k=7\/k=8\/k=9) with rfl|rfl|rfl|rfl|rfl|rfl|rfl|rfl|rfl|rfl <;>
   simp [inR,rlo,rhi] at h<;>omega
 unfold cls;rw [if_neg h1,if_neg h2];split
 . rfl
 . rw [if_pos ⟨k,hk,h⟩]
theorem Zao {r:Int} (h1:¬ isSp r) (h2:¬ isLo r) (h3:¬ (48<=r/\r<=57)) (h4:∀ k,k<10->¬ inR r k):cls r=0:=by have:¬ ∃ k,k<10/\inR r k:=fun ⟨k,hk,h⟩=>h4 k hk h;unfold cls;rw [if_neg h1,if_neg h2,if_neg h3,if_neg this]
theorem Zap (r:Int):cls r=0\/cls r=1\/cls r=2\/cls r=3:=by
 unfold cls;split
 . simp
 . split
   . simp
   . split
     . simp
     . split<;>simp
def cls01 (r:Int):Int :=
 if 48<=r/\r<=57 then 2
 else if r=9\/r=10\/r=13\/r=32\/r=160\/r=12288 then 3
 else if (97<=r/\r<=122)\/(65<=r/\r<=90)\/r=95\/r=170\/r=181\/r=186 then 1
 else if 192<=r/\r<=591/\r≠215/\r≠247 then 1
 else if (913<=r/\r<=937/\r≠930)\/(945<=r/\r<=969)\/(1040<=r/\r<=1103)\/(19968<=r/\r<=40959) then 1
 else 0
theorem Zaq (r:Int):cls01 r=cls r:=by
 unfold cls cls01 isSp isLo;simp only [Zaj]
 repeat' split
 all_goals omega
def lettersV:Value := .agg #[.int .i32 97,.int .i32 122,.int .i32 65,.int .i32 90,.int .i32 192,.int .i32 214,.int .i32 216,.int .i32 246,.int .i32 248,.int .i32 591,.int .i32 913,.int .i32 929,.int .i32 931,.int .i32 937,.int .i32 945,.int .i32 969,.int .i32 1040,.int .i32 1103,.int .i32 19968,.int .i32 40959]
def dRune (s:ByteArray) (i:Nat):Int:=(Utf8.decode s i).1
def dLen (s:ByteArray) (i:Nat):Nat:=(Utf8.decode s i).2
def runFrom (s:ByteArray) (a b:Int) (i:Nat):Nat->Nat
 | 0=>s.size
 | fuel+1=>if i<s.size then (if cls (dRune s i)=a\/cls (dRune s i)=b then runFrom s a b (i+dLen s i) fuel else i) else s.size
theorem Zar {s:ByteArray} {a b:Int} {i:Nat} (fuel:Nat) (h:¬ i<s.size):runFrom s a b i fuel=s.size:=by
 cases fuel with
 | zero=>rfl
 | succ f=>simp [runFrom,h]
theorem Zas {s:ByteArray} {a b:Int} {i f:Nat} (h:i<s.size) (hc:cls (dRune s i)=a\/cls (dRune s i)=b):runFrom s a b i (f+1)=runFrom s a b (i+dLen s i) f:=by simp only [runFrom,h,if_true]; rw [if_pos hc]
theorem Zat {s:ByteArray} {a b:Int} {i f:Nat} (h:i<s.size) (hc:¬ (cls (dRune s i)=a\/cls (dRune s i)=b)):runFrom s a b i (f+1)=i:=by simp only [runFrom,h,if_true]; rw [if_neg hc]
theorem Zau {s:ByteArray} {i:Nat} (h:i<s.size):1<=dLen s i:=by
 unfold dLen;by_cases ha:(s[i]'h).toNat<128
 . rw [decode_ascii s i h ha]; exact Nat.le_refl _
 . exact (decode_high s i h (by omega)).2
theorem Zav (s:ByteArray) (i:Nat):0<=dRune s i/\dRune s i<=2147483647:=by have:=decode_le s i;unfold dRune; omega
def zeroL:Array Value:=#[.int .i32 0,.int .i32 0,.int .i32 0,.int .i32 0,.int .i32 0,.int .i32 0,.int .i32 0,.int .i32 0,.int .i32 0,.int .i32 0,.int .i32 0,.int .i32 0,.int .i32 0,.int .i32 0,.int .i32 0,.int .i32 0,.int .i32 0,.int .i32 0,.int .i32 0,.int .i32 0]
def lettersC:Array Value:=#[.int .i32 97,.int .i32 122,.int .i32 65,.int .i32 90,.int .i32 192,.int .i32 214,.int .i32 216,.int .i32 246,.int .i32 248,.int .i32 591,.int .i32 913,.int .i32 929,.int .i32 931,.int .i32 937,.int .i32 945,.int .i32 969,.int .i32 1040,.int .i32 1103,.int .i32 19968,.int .i32 40959]
theorem Zaw:Tryz.prog.underlying 160=some (.array 10 159):=by kernel_rfl
theorem Zax:(Tryz.prog.info? 160).map (·.size)=some lettersC.size:=by kernel_rfl
theorem Zay {P:Program} {w:World} {ops:Array Oper} {rest:List Oper} {o:Oper} {a:Act} {Q:Exit->Act->World->Prop} (hgd:o.guard=none) (_hd:o.dst=none) (t:TypeId) (p v:Operand)
 (ho:o.op = .store t p v) {x y:Value} (hp:a.eval p=x) (hv:a.eval v=y) {w':World} (hst:(Instr.storeAt t x y).run P w = .ok () w')
 (h:wpList P ops Q rest (a.put o.dst undef) w'):wpList P ops Q (o::rest) a w:=by
 refine wpList_step (fun K hK=>?_);have hw:Region.wanted o (yielded ops a.tmps)=true:=by simp [Region.wanted,hgd]
 rw [if_pos hw];unfold Oper.wp;simp only [execOp,ho,hp,hv,hst,Result.andThen,Sem.run_bind,Sem.run_pure];simp [Oper.upon];exact hK _ _ h
theorem Zaz (w:World) :
 Calls Tryz.prog 114 #[] w fun e w'=>e = .returned lettersV/\Below w.heap.size w w':=by have hst:=run_storeAt_new (P:=Tryz.prog) w 160 zeroL lettersC Zax rfl (by simp [lettersC,Value.oneCell']);simp only [zeroL,lettersC] at hst;have HST:=Zq hst;clear hst;go_in;go_wp2_with (refine Zay (o:=⟨none,_,_,_,_,_⟩) rfl rfl _ _ _ rfl rfl rfl HST.out ?_);refine bodyPost_ret (v:=lettersV) ?_ rfl ⟨rfl,(Below.refl _ _).alloc Zs _⟩;have hld:=run_loadVar_new (P:=Tryz.prog) w 160 lettersC 10 159 Zaw Zax;simp only [results,Tryz.results114];simp [asAddr,Sem.run_bind,Result.andThen];exact hld

theorem ZaA (k:Nat) (hk:k<10) (W:World):(Instr.index 160 lettersV (.int .i64 k)).run Tryz.prog W = .ok (.agg #[.int .i32 (rlo k),.int .i32 (rhi k)]) W:=by rcases (by omega:k=0\/k=1\/k=2\/k=3\/k=4\/k=5\/k=6\/k=7\/k=8\/k=9) with rfl|rfl|rfl|rfl|rfl|rfl|rfl|rfl|rfl|rfl;all_goals simp only [Instr.index,asIntOf,lettersV];simp [run_underlying Zaw,Tryz.sizeOf159,Tryz.isAgg159,part,Result.andThen,rlo,rhi]
theorem ZaB {r:Int} {k:Nat} (h:∀ j,j<k->¬ inR r j) (hk:¬ inR r k):∀ j,j<k+1->¬ inR r j:=fun j hj=>by
 by_cases e:j=k
 . rw [e]; exact hk
 . exact h j (by omega)
theorem ZaC (r:Int) (w:World) (hr : -2147483648<=r/\r<=2147483647) :
 Calls Tryz.prog 87 #[.int .i32 r] w fun e w'=>e = .returned (.int .i64 (cls r))/\Below w.heap.size w w':=by
 by_cases hs:isSp r
 . have E:=Zq (Zak hs);rcases hs with rfl|rfl|rfl|rfl|rfl|rfl;all_goals go_in;go_wp2;go_ret;exact ⟨by rw [E.out]; rfl,Below.refl _ _⟩
 by_cases hl:isLo r
 . have E:=Zq (Zal hl);rcases hl with rfl|rfl|rfl|rfl;all_goals go_in;go_wp2;go_ret;exact ⟨by rw [E.out]; rfl,Below.refl _ _⟩
 have hs':=hs;have hl':=hl;simp only [isSp,isLo,not_or] at hs hl;obtain ⟨s1,s2,s3,s4,s5,s6⟩:=hs;obtain ⟨l1,l2,l3,l4⟩:=hl;have t1:(r == 9)=false:=Zr s1;have t2:(r == 10)=false:=Zr s2;have t3:(r == 13)=false:=Zr s3;have t4:(r == 32)=false:=Zr s4;have t5:(r == 160)=false:=Zr s5;have t6:(r == 12288)=false:=Zr s6;have t7:(r == 95)=false:=Zr l1;have t8:(r == 170)=false:=Zr l2;have t9:(r == 181)=false:=Zr l3;have t10:(r == 186)=false:=Zr l4;clear s1 s2 s3 s4 s5 s6 l1 l2 l3 l4;by_cases hd:48<=r/\r<=57
 . have E:=Zq (Zam hd);obtain ⟨d1,d2⟩:=hd;go_in;go_wp2;go_ret;exact ⟨by rw [E.out]; rfl,Below.refl _ _⟩
 have HN:=Zq (And.intro hs' (And.intro hl' hd));clear hs' hl';go_in;by_cases hd1:48<=r;all_goals
  go_wp2_with (go_at_call 114; refine (Zaz _).mono ?_; rintro e w1 ⟨rfl,hb1⟩);go_loopg [25] 10 (fun g i wr=>∃ k:Nat,k<=10/\i = .int .i64 k/\k+g=10/\Below w.heap.size w wr/\Hid (∀ j,j<k->¬ inR r j));(case atStart=>exact ⟨0,by omega,rfl,rfl,hb1,Zq (fun j hj=>by omega)⟩);case round =>
   obtain ⟨k,hk,rfl,hg,hbr,HT⟩:=hrel;by_cases hlt:k<10
   . have hix:=fun W=>ZaA k hlt W;by_cases hin:inR r k
     . have E:=Zq (Zan hlt hin);obtain ⟨i1,i2⟩:=hin;go_wp2;go_ret;refine ⟨by rw [E.out]; rfl,?_⟩;exact hbr.alloc hbr.size _
     . have HI:=Zq hin;by_cases i1:rlo k<=r
       . have i2:¬ r<=rhi k:=fun h=>hin ⟨i1,h⟩;clear hin;go_wp2;go_roundg (9 - k);(case rel=>exact ⟨k+1,by omega,by go_num,by omega,hbr.alloc hbr.size _,Zq (ZaB HT.out HI.out)⟩);case measure=>omega
       . clear hin;go_wp2;go_roundg (9 - k);(case rel=>exact ⟨k+1,by omega,by go_num,by omega,hbr.alloc hbr.size _,Zq (ZaB HT.out HI.out)⟩);case measure=>omega
   . obtain rfl:k=10:=(by omega);have E:=Zq (Zao HN.out.1 HN.out.2.1 HN.out.2.2 HT.out);go_wp2;go_ret;exact ⟨by rw [E.out]; rfl,hbr⟩
theorem ZaD (s:ByteArray) (a b:Int) (w:World) (ha : -9223372036854775808<=a/\a<=9223372036854775807) (hb : -9223372036854775808<=b/\b<=9223372036854775807) :
 Calls Tryz.prog 115 #[.string s,.int .i64 a,.int .i64 b] w fun e w'=>e = .returned (.int .i64 (runFrom s a b 0 s.size))/\Below w.heap.size w w':=by
 go_in;go_wp2;go_loopg [] s.size (fun g wr=>∃ pos:Nat,wr.heap[w.heap.size]?=some (.stringIter s pos)/\Below w.heap.size w wr/\Hid (runFrom s a b pos g=runFrom s a b 0 s.size)/\s.size<=pos+g);case atStart=>exact ⟨0,World.iter_heap w s 0,(Below.refl _ _).alloc Zs _,Zq rfl,by omega⟩
 case round =>
  obtain ⟨pos,hit,hbw,HR,hg⟩:=hrel;have hsz:w.heap.size<wr.heap.size:=(Array.getElem?_eq_some_iff.1 hit).1;by_cases hp:pos<s.size
  . have hnx:∀ ty,(Instr.next (.pointer (some ⟨w.heap.size,0,none⟩)) true ty).run Tryz.prog wr = .ok (.tuple #[.bool true,.int .i64 pos,.int .i32 (dRune s pos)]) (wr.iterAt w.heap.size s (pos+dLen s pos)):=fun ty=>Lib.run_next_any_at wr w.heap.size s pos ty hit hp;have hwd:=Zau hp;have hd1:=Zav s pos;have hit2:=Lib.iterAt_heap wr w.heap.size s pos (pos+dLen s pos) hit;have hbw2:=Lib.below_iterAt hbw (k:=w.heap.size) Zs s (pos+dLen s pos);have hsz2:w.heap.size<(wr.iterAt w.heap.size s (pos+dLen s pos)).heap.size:=(by rw [Lib.iterAt_size]; omega);obtain ⟨f,rfl⟩:∃ f,gk=f+1:=⟨gk - 1,by omega⟩;generalize hW:wr.iterAt w.heap.size s (pos+dLen s pos)=W at hnx hit2 hbw2 hsz2;clear hW;go_wp2_with fail;refine (ZaC (dRune s pos) _ ⟨by omega,by omega⟩).mono ?_;rintro e W1 ⟨rfl,hb1⟩;have hit3:W1.heap[w.heap.size]?=some (.stringIter s (pos+dLen s pos)):=(by rw [hb1.block _ hsz2]; exact hit2);have hbw3:Below w.heap.size w W1:=hbw2.trans (hb1.mono (by omega));by_cases hc1:cls (dRune s pos)=a
    . have HE:=Zq (Zas (a:=a) (b:=b) (f:=f) hp (.inl hc1));have hc1':(cls (dRune s pos) != a)=false:=(by simpa using hc1);clear hc1;go_wp2;go_roundg f;(case rel=>exact ⟨pos+dLen s pos,hit3,hbw3,Zq (by rw [<-HE.out]; exact HR.out),by omega⟩);case measure=>omega
    . have hc1':(cls (dRune s pos) != a)=true:=bne_iff_ne.2 hc1;by_cases hc2:cls (dRune s pos)=b
      . have HE:=Zq (Zas (a:=a) (b:=b) (f:=f) hp (.inr hc2));have hc2':(cls (dRune s pos) != b)=false:=(by simpa using hc2);clear hc1 hc2;go_wp2;go_roundg f;(case rel=>exact ⟨pos+dLen s pos,hit3,hbw3,Zq (by rw [<-HE.out]; exact HR.out),by omega⟩);case measure=>omega
      . have HE:=Zq (Zat (a:=a) (b:=b) (f:=f) hp (fun h=>h.elim hc1 hc2));have hc2':(cls (dRune s pos) != b)=true:=bne_iff_ne.2 hc2;clear hc1 hc2;go_wp2;go_ret;exact ⟨by rw [<-HR.out,HE.out]; rfl,hbw3⟩
  . have hnx:∀ ty,(Instr.next (.pointer (some ⟨w.heap.size,0,none⟩)) true ty).run Tryz.prog wr=_:=fun ty=>Lib.run_next_end_at wr w.heap.size s pos ty hit hp;have HE:=Zq (Zar (a:=a) (b:=b) gk hp);go_wp2;go_ret;exact ⟨by rw [<-HR.out,HE.out]; rfl,hbw⟩
theorem Yaa : type_of% @Array.getElem?_eq_some_iff := @Array.getElem?_eq_some_iff
theorem Yab : type_of% @Below.refl := @Below.refl
theorem Yac : type_of% @heap_alloc_new := @heap_alloc_new
theorem Yad : type_of% @List.getElem?_eq_getElem := @List.getElem?_eq_getElem
theorem Yae : type_of% @Exit.noGoto_ret := @Exit.noGoto_ret
theorem Yaf : type_of% @bodyPost_ret := @bodyPost_ret
theorem Yag : type_of% @List.getElem?_eq_some_iff := @List.getElem?_eq_some_iff
theorem Yah : type_of% @Lib.alloc_old := @Lib.alloc_old
theorem Yai : type_of% @Option.some.injEq := @Option.some.injEq
theorem Yaj : type_of% @decide_eq_false := @decide_eq_false
theorem Yak : type_of% @List.length_append := @List.length_append
theorem Yal : type_of% @List.eq_nil_of_length_eq_zero := @List.eq_nil_of_length_eq_zero
theorem Yam : type_of% @decide_eq_true := @decide_eq_true
theorem Yan : type_of% @World.block_lt_of_cell? := @World.block_lt_of_cell?
theorem Yao : type_of% @bne_iff_ne := @bne_iff_ne
theorem Yap : type_of% @Array.getElem?_modify := @Array.getElem?_modify
theorem Yaq : type_of% @Value.slice.injEq := @Value.slice.injEq
theorem Yar : type_of% @List.drop_eq_nil_of_le := @List.drop_eq_nil_of_le
theorem Yas : type_of% @List.drop_eq_getElem_cons := @List.drop_eq_getElem_cons
theorem Yat : type_of% @Below.heap_setCell := @Below.heap_setCell
theorem Yau : type_of% @List.getD_eq_getElem?_getD := @List.getD_eq_getElem?_getD
theorem Yav : type_of% @List.length_drop := @List.length_drop
theorem Yaw : type_of% @Prod.mk.injEq := @Prod.mk.injEq
theorem Yax : type_of% @List.getElem?_map := @List.getElem?_map
theorem Yay : type_of% @List.mem_of_getElem? := @List.mem_of_getElem?
theorem Yaz : type_of% @List.getElem?_eq_none := @List.getElem?_eq_none
theorem Yba : type_of% @rounds_succ := @rounds_succ
theorem Ybb : type_of% @below_drewN := @below_drewN
theorem Ybc : type_of% @List.mem_cons := @List.mem_cons
theorem Ybd : type_of% @Addr.mk.injEq := @Addr.mk.injEq
theorem Ybe : type_of% @List.map_append := @List.map_append
theorem Ybf : type_of% @List.length_map := @List.length_map
theorem Ybg : type_of% @Evo.refl := @Evo.refl
end Go.Proofs.YtikannmgllejfaaGreatDoor
