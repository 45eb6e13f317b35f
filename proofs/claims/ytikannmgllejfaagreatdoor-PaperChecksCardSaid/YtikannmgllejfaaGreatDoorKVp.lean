/- The walk of (*parser). -/
import Derived.Test.YtikannmgllejfaaGreatDoorKSD
import Derived.Test.YtikannmgllejfaaGreatDoorKVc
import Derived.Test.YtikannmgllejfaaGreatDoorKVd
import Derived.Deep.RegionHeld3
import Derived.Deep.RegionHeldLaw
import Derived.Deep.DrawnRows
import Derived.IntWalk
set_option maxHeartbeats 8000000
set_option maxRecDepth 1000000
set_option linter.all false
namespace Go.Proofs.YtikannmgllejfaaGreatDoor
open Go.RowKit Pal
attribute [local go_sem ↓] Go.wp_at_zero Go.wp_at_succ
abbrev OV:=Option (Ex × Value)
def exOf (o:OV):List Value:=match o with|none=>[.int .i64 0,.int .i64 0,.string ⟨#[]⟩,.slice none 0 0]|some x=>[.int .i64 x.1.op,.int .i64 x.1.n,.string ⟨x.1.s.toArray⟩,x.2]
theorem Zgz (o:OV):(exOf o).length=4:=by cases o<;>rfl
def fdCells (f:Fd) (a b c:OV) (nv:Value):List Value:=[.string ⟨f.n.toArray⟩,.int .i64 f.t,.string ⟨f.fo.toArray⟩,.string ⟨f.ru.toArray⟩,.string ⟨f.sh.toArray⟩]++exOf a++exOf b++exOf c++[.bool a.isSome,.bool b.isSome,.bool c.isSome,nv]
theorem ZgA (f:Fd) (a b c:OV) (nv:Value):(fdCells f a b c nv).length=21:=by simp [fdCells,Zgz]
def inCells (f:Fd):List Value:=[.string ⟨f.n.toArray⟩,.int .i64 f.t,.string ⟨f.fo.toArray⟩,.string ⟨f.ru.toArray⟩,.string ⟨f.sh.toArray⟩]
def noFd:Fd:=⟨[],0,[],[],[]⟩
def FdsV (h:GH) (v:Value) (l:List Fd):Prop:=SlV h v l.length 5 (fun j=>inCells (l.getD j noFd))
theorem FdsV.mono {h h':GH} {v:Value} {l:List Fd} (t:FdsV h v l) (k:h.le h'):FdsV h' v l:=SlV.mono t k
theorem FdsV.form {h:GH} {v:Value} {l:List Fd} (t:FdsV h v l):∃ a cap,v = .slice a l.length cap:=by obtain ⟨a,cap,hv,_⟩:=t; exact ⟨a,cap,hv⟩
theorem FdsV.at {w:World} {a:Option Addr} {n cap:Nat} {l:List Fd} (t:FdsV (gh w) (.slice a n cap) l) {j:Nat} {f:Fd} (hj:l[j]?=some f) :
 ∃ b off,a=some ⟨b,off,none⟩/\w.cell? ⟨b,off+j*5,none⟩=some (.string ⟨f.n.toArray⟩)/\w.cell? ⟨b,off+j*5+1,none⟩=some (.int .i64 f.t)/\w.cell? ⟨b,off+j*5+2,none⟩=some (.string ⟨f.fo.toArray⟩) /\
  w.cell? ⟨b,off+j*5+3,none⟩=some (.string ⟨f.ru.toArray⟩)/\w.cell? ⟨b,off+j*5+4,none⟩=some (.string ⟨f.sh.toArray⟩):=by
 obtain ⟨a',cap',hv,_,_,_,hx⟩:=t;simp only [Yaq] at hv;obtain ⟨rfl,rfl,rfl⟩:=hv;have hl:=(Yag.1 hj).1;have hg:l.getD j noFd=f:=by simp [List.getD,hj]
 have c:∀ c x,(inCells f)[c]?=some x->∃ b off,a=some ⟨b,off,none⟩/\(gh w).cell b (off+(5*j+c))=some x:=fun c x h=>hx j c x hl (by show (inCells (l.getD j noFd))[c]?=some x; rw [hg]; exact h);obtain ⟨b,off,rfl,c0⟩:=c 0 _ rfl;obtain ⟨_,_,e1,c1⟩:=c 1 _ rfl;cases e1;obtain ⟨_,_,e2,c2⟩:=c 2 _ rfl;cases e2;obtain ⟨_,_,e3,c3⟩:=c 3 _ rfl;cases e3;obtain ⟨_,_,e4,c4⟩:=c 4 _ rfl;cases e4;rw [Zad] at c0 c1 c2 c3 c4;refine ⟨b,off,rfl,?_,?_,?_,?_,?_⟩
 . rw [show off+j*5=off+(5*j+0) by omega]; exact c0
 . rw [show off+j*5+1=off+(5*j+1) by omega]; exact c1
 . rw [show off+j*5+2=off+(5*j+2) by omega]; exact c2
 . rw [show off+j*5+3=off+(5*j+3) by omega]; exact c3
 . rw [show off+j*5+4=off+(5*j+4) by omega]; exact c4
def slotFd (f:Fd):List Value:=fdCells f none none none (.slice none 0 0)
structure Short (f:Fd):Prop where
 n:f.n.length<=1000000
 fo:f.fo.length<=1000000
 ru:f.ru.length<=1000000
 sh:f.sh.length<=1000000
 t : -9223372036854775808<=f.t/\f.t<=9223372036854775807
theorem ZgB {W:World} {B:Nat} {x0 x1 x2 x3 x4:Value} {T:TypeId} (h:W.heap[B]?=some (.cells #[x0,x1,x2,x3,x4] T (0,0))) :
 W.cell? ⟨B,0,none⟩=some x0/\W.cell? ⟨B,1,none⟩=some x1/\W.cell? ⟨B,2,none⟩=some x2/\W.cell? ⟨B,3,none⟩=some x3/\W.cell? ⟨B,4,none⟩=some x4:=by simp [World.cell?,h]
theorem ZgC {W:World} {B:Nat} {x0 x1 x2:Value} {T:TypeId} (h:W.heap[B]?=some (.cells #[x0,x1,x2] T (0,0))) :
 (W.cell? ⟨B,0,none⟩=some x0/\W.cell? ⟨B,1,none⟩=some x1/\W.cell? ⟨B,2,none⟩=some x2)/\(W.frozen? ⟨B,0,none⟩=false/\W.frozen? ⟨B,1,none⟩=false/\W.frozen? ⟨B,2,none⟩=false):=by simp [World.cell?,World.frozen?,h]
structure N1 (l:List Fd) (w:World) (m a b c:Nat) (t:Tag) (nv kv sv:Value) (W:World):Prop where
 box:W.heap[w.heap.size+1]?=some (.cells #[sv,.map (some w.heap.size),.slice none 0 0] 81 (0,0))
 bt:t (w.heap.size+1)=1
 mp:NmAt W w.heap.size (Fd.names (l.take m))
 mt:t w.heap.size=2
 names:Row t 3 W 9 1 nv a (cellsS (Fd.names (l.take a)))
 kinds:Row t 4 W 3 1 kv b ((Fd.types (l.take b)).map (Value.int .i64))
 rows:Row t 5 W 87 21 sv c ((l.take c).flatMap slotFd)
 ev:Evo T0 w t W (·≠0)
section
variable {l : List Fd} {w : World} {m a b c : Nat} {t t' : Tag} {nv kv sv : Value} {W W' : World}
theorem N1.lt (h:N1 l w m a b c t nv kv sv W):w.heap.size+1<W.heap.size:=(Yaa.1 h.box).1
theorem N1.keep (h:N1 l w m a b c t nv kv sv W) (ev:Evo t W t' W' (fun _=>False)):N1 l w m a b c t' nv kv sv W':=by
 have hl:=h.lt;exact ⟨(ev.block _ hl (fun h=>h)).trans h.box,(ev.tag _ hl).trans h.bt,h.mp.keep (ev.block _ (by omega) (fun h=>h)),(ev.tag _ (by omega)).trans h.mt,
  h.names.keep ev (fun h=>h),h.kinds.keep ev (fun h=>h),h.rows.keep ev (fun h=>h),h.ev.trans (ev.mono fun _ h=>h.elim)⟩
theorem N1.call (h:N1 l w m a b c t nv kv sv W) (hb:Below W.heap.size W W'):N1 l w m a b c (t.ext W.heap.size 0) nv kv sv W' :=
 h.keep (Evo.below hb (Tag.ext_lt _ _ _))
theorem N1.new (h:N1 l w m a b c t nv kv sv W) (o:Obj):N1 l w m a b c (t.set W.heap.size 0) nv kv sv (W.alloc o) :=
 h.keep ((Ybg _ _ _).alloc 0 o)
theorem N1.below (h:N1 l w m a b c t nv kv sv W):Below w.heap.size w W:=h.ev.toBelow (by simp)
theorem N1.map (h:N1 l w m a b c t nv kv sv W) {m':Nat} (hn:NmAt W' w.heap.size (Fd.names (l.take m'))) (hb:W.mapTurned W' w.heap.size):N1 l w m' a b c t nv kv sv W':=by have hl:=h.lt;have ev:Evo t W t W' (·=2):=Zgn hb h.mt;exact ⟨(ev.block _ hl (by rw [h.bt]; decide)).trans h.box,h.bt,hn,h.mt,h.names.keep ev (by decide),h.kinds.keep ev (by decide),h.rows.keep ev (by decide),h.ev.trans (ev.mono fun _ h=>by rw [h]; decide)⟩
theorem N1.app3 (h:N1 l w m a b c t nv kv sv W) {a':Nat} {nv':Value} (hr:Row t' 3 W' 9 1 nv' a' (cellsS (Fd.names (l.take a')))) (ev:Evo t W t' W' (·=3)):N1 l w m a' b c t' nv' kv sv W':=by
 have hl:=h.lt;exact ⟨(ev.block _ hl (by rw [h.bt]; decide)).trans h.box,(ev.tag _ hl).trans h.bt,h.mp.keep (ev.block _ (by omega) (by rw [h.mt]; decide)),(ev.tag _ (by omega)).trans h.mt,
  hr,h.kinds.keep ev (by decide),h.rows.keep ev (by decide),h.ev.trans (ev.mono fun _ h=>by rw [h]; decide)⟩
theorem N1.app4 (h:N1 l w m a b c t nv kv sv W) {b':Nat} {kv':Value} (hr:Row t' 4 W' 3 1 kv' b' ((Fd.types (l.take b')).map (Value.int .i64))) (ev:Evo t W t' W' (·=4)):N1 l w m a b' c t' nv kv' sv W':=by
 have hl:=h.lt;exact ⟨(ev.block _ hl (by rw [h.bt]; decide)).trans h.box,(ev.tag _ hl).trans h.bt,h.mp.keep (ev.block _ (by omega) (by rw [h.mt]; decide)),(ev.tag _ (by omega)).trans h.mt,
  h.names.keep ev (by decide),hr,h.rows.keep ev (by decide),h.ev.trans (ev.mono fun _ h=>by rw [h]; decide)⟩
theorem ZgD {B:Nat} {x0 x1 x2 y:Value} {T:TypeId} (h:W.heap[B]?=some (.cells #[x0,x1,x2] T (0,0))):(W.setCell ⟨B,0,none⟩ y).heap[B]?=some (.cells #[y,x1,x2] T (0,0)):=by simp [World.setCell,Yap,h]
theorem N1.app5 (h:N1 l w m a b c t nv kv sv W) {c':Nat} {sv':Value} (hr:Row t' 5 W' 87 21 sv' c' ((l.take c').flatMap slotFd)) (ev:Evo t W t' W' (·=5)):N1 l w m a b c' t' nv kv sv' (W'.setCell ⟨w.heap.size+1,0,none⟩ sv'):=by
 have hl:=h.lt;have hb:W'.heap[w.heap.size+1]?=some (.cells #[sv,.map (some w.heap.size),.slice none 0 0] 81 (0,0)):=(ev.block _ hl (by rw [h.bt]; decide)).trans h.box;have ht:t' (w.heap.size+1)=1:=(ev.tag _ hl).trans h.bt;have e2:Evo t' W' t' (W'.setCell ⟨w.heap.size+1,0,none⟩ sv') (·=1):=(Ybg _ _ _).setCell _ _ ht;exact ⟨ZgD hb,ht,h.mp.keep ((Yat _ _ _ _ (by simp)).trans (ev.block _ (by omega) (by rw [h.mt]; decide))),(ev.tag _ (by omega)).trans h.mt,
  (h.names.keep ev (by decide)).keep e2 (by decide),(h.kinds.keep ev (by decide)).keep e2 (by decide),hr.keep e2 (by decide),(h.ev.trans (ev.mono fun _ h=>by rw [h]; decide)).trans (e2.mono fun _ h=>by rw [h]; decide)⟩
end
def N15 (l:List Fd) (w:World) (L:List (Nat × Obj)) (m a b c:Nat) (nv kv sv:Value) (W:World):Prop :=
 ∃ t,N1 l w m a b c t nv kv sv W/\∀ x∈L,t x.1=0/\W.heap[x.1]?=some x.2
section
variable {l : List Fd} {w : World} {fn : Bs} {ft : Int} {m a b c : Nat} {L : List (Nat × Obj)} {nv kv sv : Value} {W : World}
theorem N15.mem (h:N15 l w L m a b c nv kv sv W) {g:Nat} {o:Obj} (hm:(g,o)∈L):W.heap[g]?=some o:=by obtain ⟨t,_,h2⟩:=h; exact (h2 _ hm).2
theorem N15.alloc (h:N15 l w L m a b c nv kv sv W) (o:Obj):N15 l w ((W.heap.size,o)::L) m a b c nv kv sv (W.alloc o):=by
 obtain ⟨t,h1,h2⟩:=h;refine ⟨_,h1.new o,fun x hx=>?_⟩;rcases Ybc.1 hx with rfl|hx
 . exact ⟨Tag.set_same _ _ _,Yac _ _⟩
 . obtain ⟨q1,q2⟩:=h2 x hx;have hl:=(Yaa.1 q2).1;exact ⟨(Tag.set_other _ _ _ (by omega)).trans q1,(Below.heap_alloc _ _ _ hl).trans q2⟩
theorem N15.box (h:N15 l w L m a b c nv kv sv W):W.cell? ⟨w.heap.size+1,0,none⟩=some sv:=by obtain ⟨t,h1,_⟩:=h; exact (ZgC h1.box).1.1
theorem N15.lt (h:N15 l w L m a b c nv kv sv W):w.heap.size+1<W.heap.size:=by obtain ⟨t,h1,_⟩:=h; exact h1.lt
theorem N15.drew (h:N15 l w L m a b c nv kv sv W):N15 l w L m a b c nv kv sv W.drew:=by obtain ⟨t,h1,h2⟩:=h;exact ⟨t,h1.keep (Ybg _ _ _).drew,h2⟩
theorem N15.start {t:Tag} (h:N1 l w m a b c t nv kv sv W) {g:Nat} {o:Obj} (hg:t g=0) (ho:W.heap[g]?=some o):N15 l w [(g,o)] m a b c nv kv sv W :=
 ⟨t,h,fun x hx=>by rw [List.mem_singleton] at hx; subst hx; exact ⟨hg,ho⟩⟩
theorem ZgE {W:World} {g:Nat} {x:Value} {T:TypeId} (h:W.heap[g]?=some (.cells #[x] T (0,0))):∀ j u,[x][j]?=some u->W.cell? ((⟨g,0,none⟩:Addr).add j)=some u:=by
 intro j u hj;cases j with
 | zero=>simp at hj; subst hj; simp [Addr.add,World.cell?,h]
 | succ j=>simp at hj
theorem ZgF:∃ i0,Tryz.prog.info? 9=some i0/\i0.zero=some (.string ⟨#[]⟩)/\i0.size=1/\i0.bytes=16:=info_parts (show (Tryz.prog.info? 9).map (fun i=>(i.zero,i.size,i.bytes))=some (some (.string ⟨#[]⟩),1,16) by kernel_rfl)
theorem ZgG:∃ i0,Tryz.prog.info? 3=some i0/\i0.zero=some (.int .i64 0)/\i0.size=1/\i0.bytes=8:=info_parts (show (Tryz.prog.info? 3).map (fun i=>(i.zero,i.size,i.bytes))=some (some (.int .i64 0),1,8) by kernel_rfl)
theorem ZgH {ops:Array Oper} {o:Oper} {y:Act} {K:Act->World->Prop} {Q:Exit->Act->World->Prop} {E:Prop} {g:Nat} {f:Fd} (hgd:o.guard=none) (s x:Operand)
 (ho:o.op = .call { callee := .builtin .append,args:=#[s,x],argTypes:=#[93,93] })
 (hs:y.eval s=nv) (hx:y.eval x = .slice (some ⟨g,0,none⟩) 1 1) (ha:a<=1000) (hT:l.take (a+1)=l.take a++[f]) (hf:f.n=fn) (h:N15 l w L m a b c nv kv sv W) (hm:(g,.cells #[.string ⟨fn.toArray⟩] 9 (0,0))∈L)
 (hK:∀ v' w',N15 l w L m (a+1) b c v' kv sv w'->K (y.put o.dst v') w') :
 if Region.wanted o (yielded ops y.tmps)=true then Oper.wp Tryz.prog o y W K Q else E:=by
 have hw:Region.wanted o (yielded ops y.tmps)=true:=by simp [Region.wanted,hgd]
 rw [if_pos hw];obtain ⟨t,h1,h2⟩:=h;obtain ⟨i0,hi,hz0,hz1,hz2⟩:=ZgF;obtain ⟨hg1,hg2⟩:=h2 _ hm;obtain ⟨v',t',w',hrun,hr,he,_⟩:=Zaa (P:=Tryz.prog) o.type 93 9 i0 (.string ⟨#[]⟩) 1 16 Tryz.underlying93 hi hz0 hz1 hz2 rfl (by decide) h1.names ⟨g,0,none⟩ 1 1 [.string ⟨fn.toArray⟩] rfl (ZgE hg2) (by simp [Value.oneCell']) (by unfold maxLen; omega) (by omega);have hr':Row t' 3 w' 9 1 v' (a+1) (cellsS (Fd.names (l.take (a+1)))):=by rw [hT]; unfold Fd.names; rw [Ybe,ZfD]; simp only [List.map_cons,List.map_nil]; rw [hf]; exact hr
 have hK2:=hK v' w' ⟨t',h1.app3 hr' he,fun x hx=>by obtain ⟨q1,q2⟩:=h2 x hx;have hl:=(Yaa.1 q2).1;exact ⟨(he.tag _ hl).trans q1,(he.block _ hl (by rw [q1]; decide)).trans q2⟩⟩;unfold Oper.wp;simp [execOp,ho,resolve,invoke,builtin,hs,hx,hrun,Result.andThen];exact hK2
theorem ZgI:∃ i0,Tryz.prog.info? 87=some i0/\i0.zero=some (.agg #[.string ⟨#[]⟩,.int .i64 0,.string ⟨#[]⟩,.string ⟨#[]⟩,.string ⟨#[]⟩,.int .i64 0,.int .i64 0,.string ⟨#[]⟩,.slice none 0 0,.int .i64 0,.int .i64 0,.string ⟨#[]⟩,.slice none 0 0,.int .i64 0,.int .i64 0,.string ⟨#[]⟩,.slice none 0 0,.bool false,.bool false,.bool false,.slice none 0 0])/\i0.size=21/\i0.bytes=272:=info_parts (show (Tryz.prog.info? 87).map (fun i=>(i.zero,i.size,i.bytes))=some (some (.agg #[.string ⟨#[]⟩,.int .i64 0,.string ⟨#[]⟩,.string ⟨#[]⟩,.string ⟨#[]⟩,.int .i64 0,.int .i64 0,.string ⟨#[]⟩,.slice none 0 0,.int .i64 0,.int .i64 0,.string ⟨#[]⟩,.slice none 0 0,.int .i64 0,.int .i64 0,.string ⟨#[]⟩,.slice none 0 0,.bool false,.bool false,.bool false,.slice none 0 0]),21,272) by kernel_rfl)
theorem ZgJ {W:World} {g:Nat} {cs:List Value} {T:TypeId} (h:W.heap[g]?=some (.cells cs.toArray T (0,0))):∀ j u,cs[j]?=some u->W.cell? ((⟨g,0,none⟩:Addr).add j)=some u:=by
 intro j u hj;have hadd:(⟨g,0,none⟩:Addr).add j=⟨g,j,none⟩:=by unfold Addr.add; split<;>simp_all
 rw [hadd,cell_of_row _ _ j cs.toArray T (0,0) h];simpa using hj
theorem ZgK (f:Fd):∀ u∈slotFd f,u.oneCell'=true:=by have h:(slotFd f).all Value.oneCell'=true:=rfl;exact fun u hu=>List.all_eq_true.1 h u hu
theorem ZgL {ops:Array Oper} {o:Oper} {y:Act} {K:Act->World->Prop} {Q:Exit->Act->World->Prop} {E:Prop} {g:Nat} {f:Fd} {cs:Array Value} (hgd:o.guard=none) (s x:Operand)
 (ho:o.op = .call { callee := .builtin .append,args:=#[s,x],argTypes:=#[78,78] })
 (hs:y.eval s=sv) (hx:y.eval x = .slice (some ⟨g,0,none⟩) 1 1) (hc:c<=1000) (hT:l.take (c+1)=l.take c++[f]) (hcs:cs=(slotFd f).toArray) (h:N15 l w L m a b c nv kv sv W) (hm:(g,.cells cs 87 (0,0))∈L)
 (hK:∀ a' c' w',w'.cell? ⟨w.heap.size+1,0,none⟩=some sv->w'.frozen? ⟨w.heap.size+1,0,none⟩=false->N15 l w L m a b (c+1) nv kv (.slice a' (c+1) c') (w'.setCell ⟨w.heap.size+1,0,none⟩ (.slice a' (c+1) c'))->K (y.put o.dst (.slice a' (c+1) c')) w') :
 if Region.wanted o (yielded ops y.tmps)=true then Oper.wp Tryz.prog o y W K Q else E:=by
 subst hcs;have hw:Region.wanted o (yielded ops y.tmps)=true:=by simp [Region.wanted,hgd]
 rw [if_pos hw];obtain ⟨t,h1,h2⟩:=h;obtain ⟨i0,hi,hz0,hz1,hz2⟩:=ZgI;obtain ⟨hg1,hg2⟩:=h2 _ hm;obtain ⟨v',t',w',hrun,hr,he,_⟩:=Zaa (P:=Tryz.prog) o.type 78 87 i0 _ 21 272 Tryz.underlying78 hi hz0 hz1 hz2 rfl (by decide) h1.rows ⟨g,0,none⟩ 1 1 (slotFd f) (by simp [slotFd,ZgA]) (ZgJ hg2) (ZgK f) (by unfold maxLen; omega) (by omega);have hr':Row t' 5 w' 87 21 v' (c+1) ((l.take (c+1)).flatMap slotFd):=by rw [hT,List.flatMap_append]; simpa using hr
 obtain ⟨a',c',rfl⟩:=hr'.form;have hl:=h1.lt;have hbx:w'.heap[w.heap.size+1]?=some (.cells #[sv,.map (some w.heap.size),.slice none 0 0] 81 (0,0)):=(he.block _ hl (by rw [h1.bt]; decide)).trans h1.box;have hq:=ZgC hbx;have hK2:=hK a' c' w' hq.1.1 hq.2.1 ⟨t',h1.app5 hr' he,fun x hx=>by
  obtain ⟨q1,q2⟩:=h2 x hx;have hlx:=(Yaa.1 q2).1;have hne:x.1≠w.heap.size+1:=fun e=>by rw [e,h1.bt] at q1; cases q1
  exact ⟨(he.tag _ hlx).trans q1,(Yat _ _ _ _ hne).trans ((he.block _ hlx (by rw [q1]; decide)).trans q2)⟩⟩
 unfold Oper.wp;simp [execOp,ho,resolve,invoke,builtin,hs,hx,hrun,Result.andThen];exact hK2
theorem ZgM {ops:Array Oper} {o:Oper} {y:Act} {K:Act->World->Prop} {Q:Exit->Act->World->Prop} {E:Prop} {g:Nat} {f:Fd} (hgd:o.guard=none) (s x:Operand)
 (ho:o.op = .call { callee := .builtin .append,args:=#[s,x],argTypes:=#[30,30] })
 (hs:y.eval s=kv) (hx:y.eval x = .slice (some ⟨g,0,none⟩) 1 1) (hb:b<=1000) (hT:l.take (b+1)=l.take b++[f]) (hf:f.t=ft) (h:N15 l w L m a b c nv kv sv W) (hm:(g,.cells #[.int .i64 ft] 3 (0,0))∈L)
 (hK:∀ v' w',N15 l w L m a (b+1) c nv v' sv w'->K (y.put o.dst v') w') :
 if Region.wanted o (yielded ops y.tmps)=true then Oper.wp Tryz.prog o y W K Q else E:=by
 have hw:Region.wanted o (yielded ops y.tmps)=true:=by simp [Region.wanted,hgd]
 rw [if_pos hw];obtain ⟨t,h1,h2⟩:=h;obtain ⟨i0,hi,hz0,hz1,hz2⟩:=ZgG;obtain ⟨hg1,hg2⟩:=h2 _ hm;obtain ⟨v',t',w',hrun,hr,he,_⟩:=Zaa (P:=Tryz.prog) o.type 30 3 i0 (.int .i64 0) 1 8 Tryz.underlying30 hi hz0 hz1 hz2 rfl (by decide) h1.kinds ⟨g,0,none⟩ 1 1 [.int .i64 ft] rfl (ZgE hg2) (by simp [Value.oneCell']) (by unfold maxLen; omega) (by omega);have hr':Row t' 4 w' 3 1 v' (b+1) ((Fd.types (l.take (b+1))).map (Value.int .i64)):=by rw [hT]; unfold Fd.types; rw [Ybe,Ybe]; simp only [List.map_cons,List.map_nil]; rw [hf]; exact hr
 have hK2:=hK v' w' ⟨t',h1.app4 hr' he,fun x hx=>by obtain ⟨q1,q2⟩:=h2 x hx;have hl:=(Yaa.1 q2).1;exact ⟨(he.tag _ hl).trans q1,(he.block _ hl (by rw [q1]; decide)).trans q2⟩⟩;unfold Oper.wp;simp [execOp,ho,resolve,invoke,builtin,hs,hx,hrun,Result.andThen];exact hK2
end
def tag2 (n:Nat):Tag:=fun x=>if x=n then 2 else if x=n+1 then 1 else 0
theorem ZgN (l:List Fd) (w:World):N1 l w 0 0 0 0 (tag2 w.heap.size) (.slice none 0 0) (.slice none 0 0) (.slice none 0 0) ((w.alloc (.map #[] 0)).alloc (.cells #[.slice none 0 0,.map (some w.heap.size),.slice none 0 0] 81)) where
 box:=by have h:=Yac (w.alloc (.map #[] 0)) (.cells #[.slice none 0 0,.map (some w.heap.size),.slice none 0 0] 81); simpa using h
 bt:=by simp [tag2]
 mp:=(NmAt.made w).keep (Below.heap_alloc _ _ _ (by simp))
 mt:=by simp [tag2]
 names:=Row.nil _ _ _ _ _
 kinds:=Row.nil _ _ _ _ _
 rows:=Row.nil _ _ _ _ _
 ev:=⟨rfl,rfl,rfl,by simp; omega,fun b hb=>by unfold tag2 T0; rw [if_neg (by omega),if_neg (by omega)],fun b hb _=>(Below.heap_alloc _ _ _ (by simp; omega)).trans (Below.heap_alloc _ _ _ hb)⟩
structure TwoIn (n0 pb B5:Nat) (tv:Value) (toks:List Tok) (W:World) (p:Nat) (ex:Ex) (kv:Value):Prop where
 st:PSt W pb tv p
 tok:TokV (gp (fun b=>b<n0/\b≠pb) W) tv toks
 z:zeroE W n0
 c:W.heap[B5]?=some (.cells #[.int .i64 ex.op,.int .i64 ex.n,strV ex.s,kv] 83 (0,0))
 k:KV (gp (fun b=>n0<b/\b≠B5) W) kv ex.ks
 lt:n0<B5
 pb:pb<n0
theorem TwoIn.tokb {n0 pb B5:Nat} {tv:Value} {toks:List Tok} {W:World} {p:Nat} {ex:Ex} {kv:Value} (h:TwoIn n0 pb B5 tv toks W p ex kv):TokV (gb pb W) tv toks :=
 SlV.mono h.tok (ZdL W (fun h=>h.2 rfl))
theorem ZgO {pb:Nat} {tv:Value} {toks:List Tok} {w W:World} (h:TokV (gb pb w) tv toks) (hB:But pb w W):TokV (gp (fun b=>b<w.heap.size/\b≠pb) W) tv toks :=
 SlV.mono h (fun b o hh=>by
  unfold gb at hh
  unfold gp
  split at hh
  . cases hh
  . rename_i hn
    have hl:=(Yaa.1 hh).1
    rw [if_pos ⟨hl,hn⟩,hB.block b hl hn]; exact hh)
theorem TwoIn.but {n0 pb B5:Nat} {tv:Value} {toks:List Tok} {W W':World} {p p':Nat} {ex:Ex} {kv:Value} (h:TwoIn n0 pb B5 tv toks W p ex kv) (hB:But pb W W') (hP:PSt W' pb tv p'):TwoIn n0 pb B5 tv toks W' p' ex kv:=by have hpb:=h.pb;have hlt:=h.lt;have z:=h.z;have c:=h.c;unfold zeroE at z;have l1:=(Yaa.1 z).1;have l2:=(Yaa.1 c).1;exact ⟨hP,SlV.mono h.tok (ZdJ fun b hb hl=>⟨hb,hB.block _ hl hb.2⟩),by unfold zeroE; rw [hB.block _ l1 (by omega)]; exact z,by rw [hB.block _ l2 (by omega)]; exact c,h.k.mono (ZdJ fun b hb hl=>⟨hb,hB.block _ hl (by omega)⟩),hlt,hpb⟩
theorem TwoIn.keep {n0 pb B5:Nat} {tv:Value} {toks:List Tok} {W W':World} {p:Nat} {ex:Ex} {kv:Value} (h:TwoIn n0 pb B5 tv toks W p ex kv) (hB:Below W.heap.size W W'):TwoIn n0 pb B5 tv toks W' p ex kv :=
 h.but (But.below hB) (h.st.keep hB)
theorem TwoIn.row {n0 pb B5:Nat} {tv:Value} {toks:List Tok} {W:World} {p:Nat} {ex a b:Ex} {kv ua ub:Value} (h:TwoIn n0 pb B5 tv toks W p ex kv)
 (ha:KV (gp (fun b=>n0<b/\b≠B5) W) ua a.ks) (hb:KV (gp (fun b=>n0<b/\b≠B5) W) ub b.ks) :
 TwoIn n0 pb B5 tv toks (W.alloc (.cells #[.int .i64 a.op,.int .i64 a.n,.string ⟨a.s.toArray⟩,ua,.int .i64 b.op,.int .i64 b.n,.string ⟨b.s.toArray⟩,ub] 83)) p ex kv /\
 KV (gp (fun b=>n0<b/\b≠B5) (W.alloc (.cells #[.int .i64 a.op,.int .i64 a.n,.string ⟨a.s.toArray⟩,ua,.int .i64 b.op,.int .i64 b.n,.string ⟨b.s.toArray⟩,ub] 83))) (.slice (some ⟨W.heap.size,0,none⟩) 2 2) [a,b]:=by
 have hlt:=h.lt;have c:=h.c;have l2:=(Yaa.1 c).1;refine ⟨h.keep ((Yab _ _).alloc Zs _),KV.two (a:=a) (c:=b) (u:=ua) (v:=ub) (T:=83) ?_ (ha.mono (ZdJ fun b hb hl=>⟨hb,?_⟩)) (hb.mono (ZdJ fun b hb hl=>⟨hb,?_⟩))⟩
 . unfold gp;rw [if_pos ⟨by omega,by omega⟩];exact Yac W _
 . rw [Yah _ _ _ hl]
 . rw [Yah _ _ _ hl]
theorem TwoIn.rowd {n0 pb B5:Nat} {tv:Value} {toks:List Tok} {W:World} {p:Nat} {ex a b:Ex} {kv ua ub:Value} (h:TwoIn n0 pb B5 tv toks W p ex kv)
 (ha:KV (gp (fun b=>n0<b/\b≠B5) W) ua a.ks) (hb:KV (gp (fun b=>n0<b/\b≠B5) W) ub b.ks) :
 TwoIn n0 pb B5 tv toks (W.alloc (.cells #[.int .i64 a.op,.int .i64 a.n,.string ⟨a.s.toArray⟩,ua,.int .i64 b.op,.int .i64 b.n,.string ⟨b.s.toArray⟩,ub] 83)).drew p ex kv /\
 KV (gp (fun b=>n0<b/\b≠B5) (W.alloc (.cells #[.int .i64 a.op,.int .i64 a.n,.string ⟨a.s.toArray⟩,ua,.int .i64 b.op,.int .i64 b.n,.string ⟨b.s.toArray⟩,ub] 83)).drew) (.slice (some ⟨W.heap.size,0,none⟩) 2 2) [a,b] :=
 ⟨(h.row ha hb).1.but ((But.refl pb _).drew) (h.row ha hb).1.st,(h.row ha hb).2⟩
theorem TwoIn.set {n0 pb B5:Nat} {tv:Value} {toks:List Tok} {W:World} {p:Nat} {ex:Ex} {kv sv:Value} {ks:List Ex} (h:TwoIn n0 pb B5 tv toks W p ex kv)
 (hk:KV (gp (fun b=>n0<b/\b≠B5) W) sv ks) (op:Int) :
 TwoIn n0 pb B5 tv toks ((((W.setCell ⟨B5,0,none⟩ (.int .i64 op)).setCell ⟨B5,1,none⟩ (.int .i64 0)).setCell ⟨B5,2,none⟩ (.string ⟨#[]⟩)).setCell ⟨B5,3,none⟩ sv) p (.mk op 0 [] ks) sv:=by have hpb:=h.pb;have hlt:=h.lt;have z:=h.z;have c:=h.c;have st:=h.st;unfold zeroE at z;have o4:=fun x (hx:x≠B5)=>ZdN (W:=W) (b:=x) hx (.int .i64 op) (.int .i64 0) (.string ⟨#[]⟩) sv;refine ⟨st.set4 (by omega) _ _ _ _,SlV.mono h.tok (ZdJ fun b hb hl=>⟨hb,o4 _ (by omega)⟩),?_,ZdM c _ _ _ _,hk.mono (ZdJ fun b hb hl=>⟨hb,o4 _ (by omega)⟩),hlt,hpb⟩;unfold zeroE; rw [o4 _ (by omega)]; exact z
theorem ZgP {G:Prop} (P:Program) (a:Act) (w:World) (h:G) (_:wpAny P Region.Mode.any #[] (fun _ _ _=>True) 0 #[] a w):G:=h
theorem ZgQ (n : Nat) : (lvS n).length <= 1000 := by unfold lvS; repeat' split
                                                     all_goals simp
theorem ZgR {f n:Nat} {e:Ex} {ts:List Tok} (h:lvT n (hd ts)=none):parseJ (f+1) (.loop n e) ts = .ok e ts:=by
 conv=>lhs; unfold parseJ
 simp only [h]
theorem ZgS {f n : Nat} {e : Ex} {ts : List Tok} {op : Int} {sw : Bool} (h : lvT n (hd ts) = some (op, sw)) : parseJ (f + 1) (.loop n e) ts = (parseJ f (.two (n + 1)) ts.tail).then fun e2 r =>
        if n = 2 then .ok (.mk op 0 [] (kidsOf sw e e2)) r else parseJ f (.loop n (.mk op 0 [] (kidsOf sw e e2))) r := by
  conv => lhs; unfold parseJ
  simp only [h]
theorem ZgT (f n pb p:Nat) (toks:List Tok) (tv:Value) (w:World) (X:PR) (hn:n<=4) (hp:PSt w pb tv p) (hT:TokV (gb pb w) tv toks) (hE:Ended (toks.drop p)) (hl:toks.length<=1000)
 (hX:parseJ (f+1) (.two n) (toks.drop p)=X) (hne:X ≠ .out) (ih:∀ g,g<=f->TwoOK g) :
 Calls Tryz.prog 121 #[.pointer (some ⟨pb,0,none⟩),.int .i64 n] w (Res pb tv toks X w):=by
 unfold parseJ at hX;rw [if_neg (by omega)] at hX;have hpl:=hp.cells.2.2.2;have hb0:Below w.heap.size w (w.alloc zEx):=(Yab w.heap.size w).alloc Zs _;have hz0:zeroE (w.alloc zEx) w.heap.size:=Yac w _;have hy:parseJ f (.two (n+1)) (toks.drop p) ≠ .out:=fun h=>by rw [h] at hX; exact hne hX.symm
 have hC0:=ih f Zs (n+1) pb p toks tv _ (by omega) (hp.keep hb0) (SlV.mono hT (But.below (pb:=pb) hb0).gb) hE hl hy;have eni:((n+1:Nat):Int)=(n:Int)+1:=by omega
 rw [eni] at hC0;have HC:=Zq hC0;have hB0:But pb w (w.alloc zEx):=But.below hb0;have hsz:(w.alloc zEx).heap.size=w.heap.size+1:=by simp
 have HP:=Zq (fun e r=>Zbe f (.two (n+1)) (toks.drop p) hE e r);generalize parseJ f (.two (n+1)) (toks.drop p)=y at *;have HX:=Zq hX;have HI:=Zq ih;have HNE:=Zq hne;have i1:¬ ((4:Int)<(n:Int)):=by omega
 have i2:(n:Int)<=4:=by omega
 have i3:(0:Int)<=(n:Int):=by omega
 have HTT:=Zq hT;clear hp hT hE hne hb0 hX ih hy hC0 eni;go_in;go_wp2_with fail;refine HC.out.mono ?_;clear HC;generalize w.alloc zEx=W0 at *;cases y with
 | out=>rintro e W3 ⟨-,h⟩; exact h.elim
 | bad q =>rintro e W3 ⟨hB4,rfl⟩;have hx:=HX.out;simp only [PR.then] at hx;subst hx;go_wp2;exact ⟨rfl,hB0.trans hB4,rfl⟩
 | ok ex r =>
  rintro e W3 ⟨hB4,⟨v,rfl,kv,rfl,hK⟩,p',hd3,hP4⟩;have hE3:=HP.out ex r rfl;have HX2:Hid (parseJ f (.loop n ex) (toks.drop p')=X):=Zq (by have:=HX.out; simp only [PR.then] at this; rw [hd3]; exact this);have hE4:Ended (toks.drop p'):=(by rw [hd3]; exact hE3.1);have hc4:zeroE W3 w.heap.size:=(by unfold zeroE at *; rw [hB4.block _ (by omega) (by omega)]; exact hz0);have hBW:=hB0.trans hB4;have hz3:=hB4.size;clear HX HP hd3 hE3 hz0 hB0;obtain ⟨ka,kc,hkv⟩:=hK.form;subst hkv;unfold exV strV;go_wp2;have hT4:=TwoIn.mk (n0:=w.heap.size) (pb:=pb) (B5:=W3.heap.size) (tv:=tv) (toks:=toks) (W:=W3.alloc (cEx ex.op ex.n ex.s (.slice ka ex.ks.length kc))) (p:=p') (ex:=ex) (kv := .slice ka ex.ks.length kc)
   (hP4.keep ((Yab _ _).alloc Zs _)) (ZgO HTT.out (hBW.alloc _)) (by unfold zeroE at *; rw [Yah _ _ _ (by omega)]; exact hc4) (Yac _ _)
   (hK.mono (ZdJ fun b hb hl=>⟨⟨by omega,by omega⟩,Yah _ _ _ hl⟩)) (by omega) hpl
  have hB5:=hBW.alloc (cEx ex.op ex.n ex.s (.slice ka ex.ks.length kc));have hB6:w.heap.size<=W3.heap.size:=(by omega);generalize W3.alloc (cEx ex.op ex.n ex.s (.slice ka ex.ks.length kc))=W5 at *;clear hP4 hc4 hK hBW hB4;generalize W3.heap.size=B5 at *;go_loopg [6] f (fun g l6 wr=>∃ (p':Nat) (ex:Ex) (kv:Value),TwoIn w.heap.size pb B5 tv toks wr p' ex kv/\But pb w wr/\Ended (toks.drop p')/\g<=f/\Hid (parseJ g (.loop n ex) (toks.drop p')=X));(case atStart=>exact ⟨p',ex,_,hT4,hB5,hE4,Nat.le_refl _,HX2⟩);case round =>
   obtain ⟨p',ex,kv,hI,hB,hE,hg,HX⟩:=hrel;cases gk with
   | zero=>exact absurd HX.out.symm HNE.out
   | succ g =>
   go_wp2_with fail;refine (ZdG n wr hn).mono ?_;rintro e1 W1 ⟨sv,rfl,hb1,hS⟩;have hpw:=hI.st.cells.2.2.2;have hI1:=hI.keep hb1;have hBW:=hB.call hb1;have hS1:=hS pb hpw;clear hI hB hb1 hS;cases hlv:lvT n (hd (toks.drop p')) with
   | none =>
    have HT:=Zq (Zdz pb p' toks _ (lvS n) tv sv W1 hI1.st hI1.tokb hE.at.1 hS1 hl (ZgQ n) (ZdH hlv));have hx:=HX.out;rw [ZgR hlv] at hx;subst hx;clear hlv HX;go_wp2_with fail;refine HT.out.mono ?_;rintro e2 W2 ⟨hB2,rfl,hP2⟩;have hI2:=hI1.but hB2 hP2;have hK:=Zq hI2.k;obtain ⟨ka,kc,hkv⟩:=hI2.k.form;subst hkv;have hz:=hI2.z;unfold zeroE at hz;have HZ:=Zq hz;have hlt:=hI2.lt;obtain ⟨⟨c0,c1,c2,c3⟩,f0,f1,f2,f3⟩:=ZdP hI2.c;obtain ⟨⟨d0,d1,d2,d3⟩,g0,g1,g2,g3⟩:=ZdP hz;have hBR:=hBW.trans hB2;unfold strV at *;clear hI1 hI2 hS1 HT hB2 hz hBW;go_wp2;refine Yaf (v:=exV ex.op ex.n ex.s (.slice ka ex.ks.length kc)) ?_ rfl ?_
    . have hh:=ZdP (ZdM (W:=W2) (B:=w.heap.size) (x0 := .int .i64 0) (x1 := .int .i64 0) (x2 := .string ⟨#[]⟩) (x3 := .slice none 0 0) (T:=83) HZ.out (.int .i64 ex.op) (.int .i64 ex.n) (.string ⟨ex.s.toArray⟩) (.slice ka ex.ks.length kc));simp [results,Tryz.results121,go_sem,exV,strV,hh.1]
    . have hr:=ZdS (toks:=toks) (op:=ex.op) (n:=ex.n) (s:=ex.s) hBR hpl (hK.out.mono (ZdJ fun b hb _=>⟨hb.1,rfl⟩)) hP2 rfl (.int .i64 ex.op) (.int .i64 ex.n) (.string ⟨ex.s.toArray⟩) (.slice ka ex.ks.length kc);rw [<-Ex.eta ex] at hr;exact hr
   | some os =>
    obtain ⟨op,sw⟩:=os;obtain ⟨hin,hop,hsw,hse⟩:=ZdI hlv;have HT:=Zq (Zdy pb p' toks _ (lvS n) tv sv W1 hI1.st hI1.tokb hE.at.1 hS1 hl (ZgQ n) hin);have HX2:=HX.out;rw [ZgS hlv,ZdR] at HX2;have hEt:Ended (toks.drop (p'+1)):=(by rw [<-ZdR]; exact hE.tail (by have:=Zbc hlv; omega));have hall:(hd (toks.drop p')).s∈allS:=ZdC hin.2;have HOP:=Zq hop;have HSW:=Zq hsw;have hie:=ZcZ hse;clear hin hop hsw hse hlv HX hE;generalize (hd (toks.drop p')).s=ss at *;go_wp2_with fail;refine HT.out.mono ?_;rintro e2 W2 ⟨hB2,rfl,hP2⟩;have hI2:=hI1.but hB2 hP2;have hBR:=hBW.trans hB2;have hy:parseJ g (.two (n+1)) (toks.drop (p'+1)) ≠ .out:=fun h=>by rw [h] at HX2; exact HNE.out HX2.symm
    have hC0:=HI.out g (by omega) (n+1) pb (p'+1) toks tv W2.drew (by omega) hI2.st (SlV.mono hI2.tokb ((But.refl pb W2).drew).gb) hEt hl hy;have eni:((n+1:Nat):Int)=(n:Int)+1:=(by omega);rw [eni] at hC0;have HC:=Zq hC0;have HP:=Zq (fun e r=>Zbe g (.two (n+1)) (toks.drop (p'+1)) hEt e r);clear hC0 eni hy hEt;generalize parseJ g (.two (n+1)) (toks.drop (p'+1))=y at *;have HXX:=Zq HX2;obtain ⟨ka,kc,hkv⟩:=hI2.k.form;subst hkv;obtain ⟨⟨c0,c1,c2,c3⟩,f0,f1,f2,f3⟩:=ZdP hI2.c;have hw:IntKind.i64.wrap ((n:Int)+1)=(n:Int)+1:=IntWalk.i64_in _ (by omega);unfold strV at *;clear HT HX2 hI1 hS1 hB2 hBW;cases y with
    | out=>exact absurd HXX.out.symm HNE.out
    | bad q =>have hx:=HXX.out;simp only [PR.then] at hx;subst hx;go_wp2;have hBD:=Zq hBR.drew;go_region_with (go_at_call 121; refine HC.out.mono ?_; rintro e W3 ⟨hB4,rfl⟩; refine ZgP Tryz.prog ⟨#[],[]⟩ W3 ⟨rfl,hBD.out.trans hB4,rfl⟩ ?_);all_goals trivial
    | ok e2 r2 =>
     have hBD:=Zq hBR.drew;have HBD:=hBD;have HB5:Hid (w.heap.size<=B5):=Zq (Nat.le_of_lt hI2.lt);have HLT:Hid (∀ b,W2.drew.heap.size<=b->w.heap.size<b):=Zq (fun b hb=>by have l1:=(Yaa.1 hI2.c).1;have:=hI2.lt;have hz:W2.drew.heap.size=W2.heap.size:=rfl;omega);have HLT2:Hid (∀ b,W2.drew.heap.size<=b->B5<b):=Zq (fun b hb=>by have l1:=(Yaa.1 hI2.c).1;have hz:W2.drew.heap.size=W2.heap.size:=rfl;omega);have HID:=Zq (hI2.but ((But.refl pb W2).drew) hI2.st);go_wp2;go_region_with (go_at_call 121; refine HC.out.mono ?_; rintro e W3 ⟨hB4,⟨v,rfl,kv,rfl,hK⟩,p4,hd3,hP4⟩; have hI3:=HID.out.but hB4 hP4; obtain ⟨⟨m0,m1,m2,m3⟩,-⟩:=ZdP hI3.c; obtain ⟨kb,kd,hkv⟩:=hK.form; subst hkv; unfold exV strV at *);all_goals
      have hI3:=HID.out.but hB4 hP4;obtain ⟨⟨a0,a1,a2,a3⟩,b0,b1,b2,b3⟩:=ZdQ hI3.c;clear m0 m1 m2 m3 c0 c1 c2 c3 f0 f1 f2 f3;by_cases s1:ss=[62]\/ss=[62,61]
      . have e1:sw=true:=(by rw [HSW.out]; rcases s1 with rfl|rfl<;>rfl);subst e1;rcases s1 with rfl|rfl;all_goals
         go_wp2;go_region;go_wp2_with fail;refine (ZdD _ _ hall).mono ?_;rintro e5 W6 ⟨rfl,h6⟩;rw [HOP.out];have hR:=hI3.rowd (a:=e2) (b:=ex) (hK.mono (ZdJ fun b hb hl=>⟨⟨HLT.out _ hb,fun e=>absurd (HLT2.out _ hb) (by omega)⟩,rfl⟩)) hI3.k;have hB6:=But.alloc (HBD.out.trans hB4) (.cells #[.int .i64 e2.op,.int .i64 e2.n,.string ⟨e2.s.toArray⟩,.slice kb e2.ks.length kd,.int .i64 ex.op,.int .i64 ex.n,.string ⟨ex.s.toArray⟩,.slice ka ex.ks.length kc] 83) |>.drew;rw [h6] at hR hB6;clear h6;have hS:=hR.1.set hR.2 op;have HS:=Zq hS;have HB6:=Zq hB6;have HE5:=Zq (HP.out e2 r2 rfl);have HD3:=Zq hd3;obtain ⟨⟨a0,a1,a2,a3⟩,b0,b1,b2,b3⟩:=ZdP hR.1.c;obtain ⟨⟨d0,d1,d2,d3⟩,g0,g1,g2,g3⟩:=ZdP hR.1.z;have HZ:=Zq hR.1.z;have hlt:=hR.1.lt;have HR:=Zq hR;clear hK hd3 hP4 hI3 hB4 hBR hI2 hall hpw hT4 hE4 HX2 hB5 hz3 hR hS hB6;by_cases hn2:n=2
         . have hx:=HXX.out;simp only [PR.then,if_pos hn2] at hx;subst hx;have hn3:((n:Int) == 2)=true:=(by rw [hn2]; rfl);go_wp2;refine Yaf (v:=exV op 0 [] (.slice (some ⟨W3.heap.size,0,none⟩) 2 2)) ?_ rfl ?_
           . have hz7:=HS.out.z;unfold zeroE at hz7;have hh:=ZdP (ZdM hz7 (.int .i64 op) (.int .i64 0) (.string ⟨#[]⟩) (.slice (some ⟨W3.heap.size,0,none⟩) 2 2));simp [results,Tryz.results121,go_sem,exV,strV,hh.1]
           . exact ZdS (op:=op) (n:=0) (s:=[]) (HB6.out.set4 HB5.out _ _ _ _) hpl (HS.out.k.mono (ZdJ fun b hb _=>⟨hb.1,rfl⟩)) HS.out.st HD3.out (.int .i64 op) (.int .i64 0) (.string ⟨#[]⟩) (.slice (some ⟨W3.heap.size,0,none⟩) 2 2)
         . have hn3:((n:Int) == 2)=false:=Zr (by omega);have hx:=HXX.out;simp only [PR.then,if_neg hn2] at hx;have HX5:=Zq hx;rw [<-HD3.out] at HX5;have hE5:Ended (toks.drop p4):=(by rw [HD3.out]; exact HE5.out.1);clear hx;go_wp2;go_roundg g;(case rel=>exact ⟨p4,_,_,HS.out,HB6.out.set4 HB5.out _ _ _ _,hE5,by omega,HX5⟩);case measure=>omega
      . have n1:¬ ss=[62]:=fun h=>s1 (.inl h);have n2:¬ ss=[62,61]:=fun h=>s1 (.inr h);have S1:(ss == [62])=false:=Zr n1;have S2:(ss == [62,61])=false:=Zr n2;have e1:sw=false:=(by rw [HSW.out,Yaj n1,Yaj n2]; rfl);subst e1;clear s1 n1 n2;go_wp2_with fail;refine (ZdD _ _ hall).mono ?_;rintro e5 W6 ⟨rfl,h6⟩;rw [HOP.out];have hR:=hI3.row (a:=ex) (b:=e2) hI3.k (hK.mono (ZdJ fun b hb hl=>⟨⟨HLT.out _ hb,fun e=>absurd (HLT2.out _ hb) (by omega)⟩,rfl⟩));have hB6:=But.alloc (HBD.out.trans hB4) (.cells #[.int .i64 ex.op,.int .i64 ex.n,.string ⟨ex.s.toArray⟩,.slice ka ex.ks.length kc,.int .i64 e2.op,.int .i64 e2.n,.string ⟨e2.s.toArray⟩,.slice kb e2.ks.length kd] 83);rw [h6] at hR hB6;clear h6;have hS:=hR.1.set hR.2 op;have HS:=Zq hS;have HB6:=Zq hB6;have HE5:=Zq (HP.out e2 r2 rfl);have HD3:=Zq hd3;obtain ⟨⟨a0,a1,a2,a3⟩,b0,b1,b2,b3⟩:=ZdP hR.1.c;obtain ⟨⟨d0,d1,d2,d3⟩,g0,g1,g2,g3⟩:=ZdP hR.1.z;have HZ:=Zq hR.1.z;have hlt:=hR.1.lt;have HR:=Zq hR;clear hK hd3 hP4 hI3 hB4 hBR hI2 hall hpw hT4 hE4 HX2 hB5 hz3 hR hS hB6;by_cases hn2:n=2
        . have hx:=HXX.out;simp only [PR.then,if_pos hn2] at hx;subst hx;have hn3:((n:Int) == 2)=true:=(by rw [hn2]; rfl);go_wp2;refine Yaf (v:=exV op 0 [] (.slice (some ⟨W3.heap.size,0,none⟩) 2 2)) ?_ rfl ?_
          . have hz7:=HS.out.z;unfold zeroE at hz7;have hh:=ZdP (ZdM hz7 (.int .i64 op) (.int .i64 0) (.string ⟨#[]⟩) (.slice (some ⟨W3.heap.size,0,none⟩) 2 2));simp [results,Tryz.results121,go_sem,exV,strV,hh.1]
          . exact ZdS (op:=op) (n:=0) (s:=[]) (HB6.out.set4 HB5.out _ _ _ _) hpl (HS.out.k.mono (ZdJ fun b hb _=>⟨hb.1,rfl⟩)) HS.out.st HD3.out (.int .i64 op) (.int .i64 0) (.string ⟨#[]⟩) (.slice (some ⟨W3.heap.size,0,none⟩) 2 2)
        . have hn3:((n:Int) == 2)=false:=Zr (by omega);have hx:=HXX.out;simp only [PR.then,if_neg hn2] at hx;have HX5:=Zq hx;rw [<-HD3.out] at HX5;have hE5:Ended (toks.drop p4):=(by rw [HD3.out]; exact HE5.out.1);clear hx;go_wp2;go_roundg g;(case rel=>exact ⟨p4,_,_,HS.out,HB6.out.set4 HB5.out _ _ _ _,hE5,by omega,HX5⟩);case measure=>omega
end Go.Proofs.YtikannmgllejfaaGreatDoor
