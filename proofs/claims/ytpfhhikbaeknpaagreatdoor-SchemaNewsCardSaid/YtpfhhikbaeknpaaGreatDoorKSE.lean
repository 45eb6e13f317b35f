/- The walk of schema. -/
import Derived.Test.YtpfhhikbaeknpaaGreatDoorKSD
import Derived.Test.YtpfhhikbaeknpaaGreatDoorKVc
import Derived.Test.YtpfhhikbaeknpaaGreatDoorKVd
import Derived.Deep.RegionHeld3
import Derived.Deep.RegionHeldLaw
import Derived.Deep.DrawnRows
set_option linter.all false
namespace Go.Proofs.YtpfhhikbaeknpaaGreatDoor
open Go.RowKit Pal
attribute [local go_sem ↓] Go.wp_at_zero Go.wp_at_succ
abbrev OV:=Option (Ex × Value)
def exOf (o:OV):List Value:=match o with|none=>[.int .i64 0,.int .i64 0,.string ⟨#[]⟩,.slice none 0 0]|some x=>[.int .i64 x.1.op,.int .i64 x.1.n,.string ⟨x.1.s.toArray⟩,x.2]
theorem ZfY (o:OV):(exOf o).length=4:=by cases o<;>rfl
def fdCells (f:Fd) (a b c:OV) (nv:Value):List Value:=[.string ⟨f.n.toArray⟩,.int .i64 f.t,.string ⟨f.fo.toArray⟩,.string ⟨f.ru.toArray⟩,.string ⟨f.sh.toArray⟩]++exOf a++exOf b++exOf c++[.bool a.isSome,.bool b.isSome,.bool c.isSome,nv]
theorem ZfZ (f:Fd) (a b c:OV) (nv:Value):(fdCells f a b c nv).length=21:=by simp [fdCells,ZfY]
def inCells (f:Fd):List Value:=[.string ⟨f.n.toArray⟩,.int .i64 f.t,.string ⟨f.fo.toArray⟩,.string ⟨f.ru.toArray⟩,.string ⟨f.sh.toArray⟩]
def noFd:Fd:=⟨[],0,[],[],[]⟩
def FdsV (h:GH) (v:Value) (l:List Fd):Prop:=SlV h v l.length 5 (fun j=>inCells (l.getD j noFd))
theorem FdsV.mono {h h':GH} {v:Value} {l:List Fd} (t:FdsV h v l) (k:h.le h'):FdsV h' v l:=SlV.mono t k
theorem FdsV.form {h:GH} {v:Value} {l:List Fd} (t:FdsV h v l):∃ a cap,v = .slice a l.length cap:=by obtain ⟨a,cap,hv,_⟩:=t; exact ⟨a,cap,hv⟩
theorem FdsV.at {w:World} {a:Option Addr} {n cap:Nat} {l:List Fd} (t:FdsV (gh w) (.slice a n cap) l) {j:Nat} {f:Fd} (hj:l[j]?=some f) :
 ∃ b off,a=some ⟨b,off,none⟩∧w.cell? ⟨b,off+j*5,none⟩=some (.string ⟨f.n.toArray⟩)∧w.cell? ⟨b,off+j*5+1,none⟩=some (.int .i64 f.t)∧w.cell? ⟨b,off+j*5+2,none⟩=some (.string ⟨f.fo.toArray⟩) ∧
  w.cell? ⟨b,off+j*5+3,none⟩=some (.string ⟨f.ru.toArray⟩)∧w.cell? ⟨b,off+j*5+4,none⟩=some (.string ⟨f.sh.toArray⟩):=by
 obtain ⟨a',cap',hv,_,_,_,hx⟩:=t
 simp only [Value.slice.injEq] at hv
 obtain ⟨rfl,rfl,rfl⟩:=hv
 have hl:=(List.getElem?_eq_some_iff.1 hj).1
 have hg:l.getD j noFd=f:=by simp [List.getD,hj]
 have c:∀ c x,(inCells f)[c]?=some x→∃ b off,a=some ⟨b,off,none⟩∧(gh w).cell b (off+(5*j+c))=some x:=fun c x h=>hx j c x hl (by show (inCells (l.getD j noFd))[c]?=some x; rw [hg]; exact h)
 obtain ⟨b,off,rfl,c0⟩:=c 0 _ rfl
 obtain ⟨_,_,e1,c1⟩:=c 1 _ rfl
 cases e1
 obtain ⟨_,_,e2,c2⟩:=c 2 _ rfl
 cases e2
 obtain ⟨_,_,e3,c3⟩:=c 3 _ rfl
 cases e3
 obtain ⟨_,_,e4,c4⟩:=c 4 _ rfl
 cases e4
 rw [Zad] at c0 c1 c2 c3 c4
 refine ⟨b,off,rfl,?_,?_,?_,?_,?_⟩
 · rw [show off+j*5=off+(5*j+0) by omega]; exact c0
 · rw [show off+j*5+1=off+(5*j+1) by omega]; exact c1
 · rw [show off+j*5+2=off+(5*j+2) by omega]; exact c2
 · rw [show off+j*5+3=off+(5*j+3) by omega]; exact c3
 · rw [show off+j*5+4=off+(5*j+4) by omega]; exact c4
def slotFd (f:Fd):List Value:=fdCells f none none none (.slice none 0 0)
structure Short (f:Fd):Prop where
 n:f.n.length≤1000000
 fo:f.fo.length≤1000000
 ru:f.ru.length≤1000000
 sh:f.sh.length≤1000000
 t : -9223372036854775808≤f.t∧f.t≤9223372036854775807
theorem Zf0 {W:World} {B:Nat} {x0 x1 x2 x3 x4:Value} {T:TypeId} (h:W.heap[B]?=some (.cells #[x0,x1,x2,x3,x4] T (0,0))) :
 W.cell? ⟨B,0,none⟩=some x0∧W.cell? ⟨B,1,none⟩=some x1∧W.cell? ⟨B,2,none⟩=some x2∧W.cell? ⟨B,3,none⟩=some x3∧W.cell? ⟨B,4,none⟩=some x4:=by
 simp [World.cell?,h]
theorem Zf1 {W:World} {B:Nat} {x0 x1 x2:Value} {T:TypeId} (h:W.heap[B]?=some (.cells #[x0,x1,x2] T (0,0))) :
 (W.cell? ⟨B,0,none⟩=some x0∧W.cell? ⟨B,1,none⟩=some x1∧W.cell? ⟨B,2,none⟩=some x2)∧(W.frozen? ⟨B,0,none⟩=false∧W.frozen? ⟨B,1,none⟩=false∧W.frozen? ⟨B,2,none⟩=false):=by
 simp [World.cell?,World.frozen?,h]
structure N1 (l:List Fd) (w:World) (m a b c:Nat) (t:Tag) (nv kv sv:Value) (W:World):Prop where
 box:W.heap[w.heap.size+1]?=some (.cells #[sv,.map (some w.heap.size),.slice none 0 0] 57 (0,0))
 bt:t (w.heap.size+1)=1
 mp:NmAt W w.heap.size (Fd.names (l.take m))
 mt:t w.heap.size=2
 names:Row t 3 W 9 1 nv a (cellsS (Fd.names (l.take a)))
 kinds:Row t 4 W 3 1 kv b ((Fd.types (l.take b)).map (Value.int .i64))
 rows:Row t 5 W 65 21 sv c ((l.take c).flatMap slotFd)
 ev:Evo T0 w t W (·≠0)
section
variable {l : List Fd} {w : World} {m a b c : Nat} {t t' : Tag} {nv kv sv : Value} {W W' : World}
theorem N1.lt (h:N1 l w m a b c t nv kv sv W):w.heap.size+1<W.heap.size:=(Array.getElem?_eq_some_iff.1 h.box).1
theorem N1.keep (h:N1 l w m a b c t nv kv sv W) (ev:Evo t W t' W' (fun _=>False)):N1 l w m a b c t' nv kv sv W':=by
 have hl:=h.lt
 exact ⟨(ev.block _ hl (fun h=>h)).trans h.box,(ev.tag _ hl).trans h.bt,h.mp.keep (ev.block _ (by omega) (fun h=>h)),(ev.tag _ (by omega)).trans h.mt,
  h.names.keep ev (fun h=>h),h.kinds.keep ev (fun h=>h),h.rows.keep ev (fun h=>h),h.ev.trans (ev.mono fun _ h=>h.elim)⟩
theorem N1.call (h:N1 l w m a b c t nv kv sv W) (hb:Below W.heap.size W W'):N1 l w m a b c (t.ext W.heap.size 0) nv kv sv W' :=
 h.keep (Evo.below hb (Tag.ext_lt _ _ _))
theorem N1.new (h:N1 l w m a b c t nv kv sv W) (o:Obj):N1 l w m a b c (t.set W.heap.size 0) nv kv sv (W.alloc o) :=
 h.keep ((Evo.refl _ _ _).alloc 0 o)
theorem N1.below (h:N1 l w m a b c t nv kv sv W):Below w.heap.size w W:=h.ev.toBelow (by simp)
theorem N1.map (h:N1 l w m a b c t nv kv sv W) {m':Nat} (hn:NmAt W' w.heap.size (Fd.names (l.take m'))) (hb:W.mapTurned W' w.heap.size):N1 l w m' a b c t nv kv sv W':=by
 have hl:=h.lt
 have ev:Evo t W t W' (·=2):=ZfM hb h.mt
 exact ⟨(ev.block _ hl (by rw [h.bt]; decide)).trans h.box,h.bt,hn,h.mt,h.names.keep ev (by decide),h.kinds.keep ev (by decide),h.rows.keep ev (by decide),h.ev.trans (ev.mono fun _ h=>by rw [h]; decide)⟩
theorem N1.app3 (h:N1 l w m a b c t nv kv sv W) {a':Nat} {nv':Value} (hr:Row t' 3 W' 9 1 nv' a' (cellsS (Fd.names (l.take a')))) (ev:Evo t W t' W' (·=3)):N1 l w m a' b c t' nv' kv sv W':=by
 have hl:=h.lt
 exact ⟨(ev.block _ hl (by rw [h.bt]; decide)).trans h.box,(ev.tag _ hl).trans h.bt,h.mp.keep (ev.block _ (by omega) (by rw [h.mt]; decide)),(ev.tag _ (by omega)).trans h.mt,
  hr,h.kinds.keep ev (by decide),h.rows.keep ev (by decide),h.ev.trans (ev.mono fun _ h=>by rw [h]; decide)⟩
theorem N1.app4 (h:N1 l w m a b c t nv kv sv W) {b':Nat} {kv':Value} (hr:Row t' 4 W' 3 1 kv' b' ((Fd.types (l.take b')).map (Value.int .i64))) (ev:Evo t W t' W' (·=4)):N1 l w m a b' c t' nv kv' sv W':=by
 have hl:=h.lt
 exact ⟨(ev.block _ hl (by rw [h.bt]; decide)).trans h.box,(ev.tag _ hl).trans h.bt,h.mp.keep (ev.block _ (by omega) (by rw [h.mt]; decide)),(ev.tag _ (by omega)).trans h.mt,
  h.names.keep ev (by decide),hr,h.rows.keep ev (by decide),h.ev.trans (ev.mono fun _ h=>by rw [h]; decide)⟩
theorem Zf2 {B:Nat} {x0 x1 x2 y:Value} {T:TypeId} (h:W.heap[B]?=some (.cells #[x0,x1,x2] T (0,0))):(W.setCell ⟨B,0,none⟩ y).heap[B]?=some (.cells #[y,x1,x2] T (0,0)):=by
 simp [World.setCell,Array.getElem?_modify,h]
theorem N1.app5 (h:N1 l w m a b c t nv kv sv W) {c':Nat} {sv':Value} (hr:Row t' 5 W' 65 21 sv' c' ((l.take c').flatMap slotFd)) (ev:Evo t W t' W' (·=5)):N1 l w m a b c' t' nv kv sv' (W'.setCell ⟨w.heap.size+1,0,none⟩ sv'):=by
 have hl:=h.lt
 have hb:W'.heap[w.heap.size+1]?=some (.cells #[sv,.map (some w.heap.size),.slice none 0 0] 57 (0,0)):=(ev.block _ hl (by rw [h.bt]; decide)).trans h.box
 have ht:t' (w.heap.size+1)=1:=(ev.tag _ hl).trans h.bt
 have e2:Evo t' W' t' (W'.setCell ⟨w.heap.size+1,0,none⟩ sv') (·=1):=(Evo.refl _ _ _).setCell _ _ ht
 exact ⟨Zf2 hb,ht,h.mp.keep ((Below.heap_setCell _ _ _ _ (by simp)).trans (ev.block _ (by omega) (by rw [h.mt]; decide))),(ev.tag _ (by omega)).trans h.mt,
  (h.names.keep ev (by decide)).keep e2 (by decide),(h.kinds.keep ev (by decide)).keep e2 (by decide),hr.keep e2 (by decide),(h.ev.trans (ev.mono fun _ h=>by rw [h]; decide)).trans (e2.mono fun _ h=>by rw [h]; decide)⟩
end
def N15 (l:List Fd) (w:World) (L:List (Nat × Obj)) (m a b c:Nat) (nv kv sv:Value) (W:World):Prop :=
 ∃ t,N1 l w m a b c t nv kv sv W∧∀ x∈L,t x.1=0∧W.heap[x.1]?=some x.2
section
variable {l : List Fd} {w : World} {fn : Bs} {ft : Int} {m a b c : Nat} {L : List (Nat × Obj)} {nv kv sv : Value} {W : World}
theorem N15.mem (h:N15 l w L m a b c nv kv sv W) {g:Nat} {o:Obj} (hm:(g,o)∈L):W.heap[g]?=some o:=by
 obtain ⟨t,_,h2⟩:=h; exact (h2 _ hm).2
theorem N15.alloc (h:N15 l w L m a b c nv kv sv W) (o:Obj):N15 l w ((W.heap.size,o)::L) m a b c nv kv sv (W.alloc o):=by
 obtain ⟨t,h1,h2⟩:=h
 refine ⟨_,h1.new o,fun x hx=>?_⟩
 rcases List.mem_cons.1 hx with rfl|hx
 · exact ⟨Tag.set_same _ _ _,heap_alloc_new _ _⟩
 · obtain ⟨q1,q2⟩:=h2 x hx
   have hl:=(Array.getElem?_eq_some_iff.1 q2).1
   exact ⟨(Tag.set_other _ _ _ (by omega)).trans q1,(Below.heap_alloc _ _ _ hl).trans q2⟩
theorem N15.box (h:N15 l w L m a b c nv kv sv W):W.cell? ⟨w.heap.size+1,0,none⟩=some sv:=by
 obtain ⟨t,h1,_⟩:=h; exact (Zf1 h1.box).1.1
theorem N15.lt (h:N15 l w L m a b c nv kv sv W):w.heap.size+1<W.heap.size:=by
 obtain ⟨t,h1,_⟩:=h; exact h1.lt
theorem N15.drew (h:N15 l w L m a b c nv kv sv W):N15 l w L m a b c nv kv sv W.drew:=by
 obtain ⟨t,h1,h2⟩:=h
 exact ⟨t,h1.keep (Evo.refl _ _ _).drew,h2⟩
theorem N15.start {t:Tag} (h:N1 l w m a b c t nv kv sv W) {g:Nat} {o:Obj} (hg:t g=0) (ho:W.heap[g]?=some o):N15 l w [(g,o)] m a b c nv kv sv W :=
 ⟨t,h,fun x hx=>by rw [List.mem_singleton] at hx; subst hx; exact ⟨hg,ho⟩⟩
theorem Zf3 {W:World} {g:Nat} {x:Value} {T:TypeId} (h:W.heap[g]?=some (.cells #[x] T (0,0))):∀ j u,[x][j]?=some u→W.cell? ((⟨g,0,none⟩:Addr).add j)=some u:=by
 intro j u hj
 cases j with
 | zero=>simp at hj; subst hj; simp [Addr.add,World.cell?,h]
 | succ j=>simp at hj
theorem Zf4:∃ i0,Tryz.prog.info? 9=some i0∧i0.zero=some (.string ⟨#[]⟩)∧i0.size=1∧i0.bytes=16:=info_parts (show (Tryz.prog.info? 9).map (fun i=>(i.zero,i.size,i.bytes))=some (some (.string ⟨#[]⟩),1,16) by kernel_rfl)
theorem Zf5:∃ i0,Tryz.prog.info? 3=some i0∧i0.zero=some (.int .i64 0)∧i0.size=1∧i0.bytes=8:=info_parts (show (Tryz.prog.info? 3).map (fun i=>(i.zero,i.size,i.bytes))=some (some (.int .i64 0),1,8) by kernel_rfl)
theorem Zf6 {ops:Array Oper} {o:Oper} {y:Act} {K:Act→World→Prop} {Q:Exit→Act→World→Prop} {E:Prop} {g:Nat} {f:Fd} (hgd:o.guard=none) (s x:Operand)
 (ho:o.op = .call { callee := .builtin .append,args:=#[s,x],argTypes:=#[58,58] })
 (hs:y.eval s=nv) (hx:y.eval x = .slice (some ⟨g,0,none⟩) 1 1) (ha:a≤1000) (hT:l.take (a+1)=l.take a++[f]) (hf:f.n=fn) (h:N15 l w L m a b c nv kv sv W) (hm:(g,.cells #[.string ⟨fn.toArray⟩] 9 (0,0))∈L)
 (hK:∀ v' w',N15 l w L m (a+1) b c v' kv sv w'→K (y.put o.dst v') w') :
 if Region.wanted o (yielded ops y.tmps)=true then Oper.wp Tryz.prog o y W K Q else E:=by
 have hw:Region.wanted o (yielded ops y.tmps)=true:=by simp [Region.wanted,hgd]
 rw [if_pos hw]
 obtain ⟨t,h1,h2⟩:=h
 obtain ⟨i0,hi,hz0,hz1,hz2⟩:=Zf4
 obtain ⟨hg1,hg2⟩:=h2 _ hm
 obtain ⟨v',t',w',hrun,hr,he,_⟩:=Zaa (P:=Tryz.prog) o.type 58 9 i0 (.string ⟨#[]⟩) 1 16 Tryz.underlying58 hi hz0 hz1 hz2 rfl (by decide) h1.names ⟨g,0,none⟩ 1 1 [.string ⟨fn.toArray⟩] rfl (Zf3 hg2) (by simp [Value.oneCell']) (by unfold maxLen; omega) (by omega)
 have hr':Row t' 3 w' 9 1 v' (a+1) (cellsS (Fd.names (l.take (a+1)))):=by
  rw [hT]; unfold Fd.names; rw [List.map_append,Ze2]; simp only [List.map_cons,List.map_nil]; rw [hf]; exact hr
 have hK2:=hK v' w' ⟨t',h1.app3 hr' he,fun x hx=>by
  obtain ⟨q1,q2⟩:=h2 x hx
  have hl:=(Array.getElem?_eq_some_iff.1 q2).1
  exact ⟨(he.tag _ hl).trans q1,(he.block _ hl (by rw [q1]; decide)).trans q2⟩⟩
 unfold Oper.wp
 simp [execOp,ho,resolve,invoke,builtin,hs,hx,hrun,Result.andThen]
 exact hK2
theorem Zf7:∃ i0,Tryz.prog.info? 65=some i0∧i0.zero=some (.agg #[.string ⟨#[]⟩,.int .i64 0,.string ⟨#[]⟩,.string ⟨#[]⟩,.string ⟨#[]⟩,.int .i64 0,.int .i64 0,.string ⟨#[]⟩,.slice none 0 0,.int .i64 0,.int .i64 0,.string ⟨#[]⟩,.slice none 0 0,.int .i64 0,.int .i64 0,.string ⟨#[]⟩,.slice none 0 0,.bool false,.bool false,.bool false,.slice none 0 0])∧i0.size=21∧i0.bytes=272:=info_parts (show (Tryz.prog.info? 65).map (fun i=>(i.zero,i.size,i.bytes))=some (some (.agg #[.string ⟨#[]⟩,.int .i64 0,.string ⟨#[]⟩,.string ⟨#[]⟩,.string ⟨#[]⟩,.int .i64 0,.int .i64 0,.string ⟨#[]⟩,.slice none 0 0,.int .i64 0,.int .i64 0,.string ⟨#[]⟩,.slice none 0 0,.int .i64 0,.int .i64 0,.string ⟨#[]⟩,.slice none 0 0,.bool false,.bool false,.bool false,.slice none 0 0]),21,272) by kernel_rfl)
theorem Zf8 {W:World} {g:Nat} {cs:List Value} {T:TypeId} (h:W.heap[g]?=some (.cells cs.toArray T (0,0))):∀ j u,cs[j]?=some u→W.cell? ((⟨g,0,none⟩:Addr).add j)=some u:=by
 intro j u hj
 have hadd:(⟨g,0,none⟩:Addr).add j=⟨g,j,none⟩:=by unfold Addr.add; split<;>simp_all
 rw [hadd,cell_of_row _ _ j cs.toArray T (0,0) h]
 simpa using hj
theorem Zf9 (f:Fd):∀ u∈slotFd f,u.oneCell'=true:=by
 have h:(slotFd f).all Value.oneCell'=true:=rfl
 exact fun u hu=>List.all_eq_true.1 h u hu
theorem Zga {ops:Array Oper} {o:Oper} {y:Act} {K:Act→World→Prop} {Q:Exit→Act→World→Prop} {E:Prop} {g:Nat} {f:Fd} {cs:Array Value} (hgd:o.guard=none) (s x:Operand)
 (ho:o.op = .call { callee := .builtin .append,args:=#[s,x],argTypes:=#[55,55] })
 (hs:y.eval s=sv) (hx:y.eval x = .slice (some ⟨g,0,none⟩) 1 1) (hc:c≤1000) (hT:l.take (c+1)=l.take c++[f]) (hcs:cs=(slotFd f).toArray) (h:N15 l w L m a b c nv kv sv W) (hm:(g,.cells cs 65 (0,0))∈L)
 (hK:∀ a' c' w',w'.cell? ⟨w.heap.size+1,0,none⟩=some sv→w'.frozen? ⟨w.heap.size+1,0,none⟩=false→N15 l w L m a b (c+1) nv kv (.slice a' (c+1) c') (w'.setCell ⟨w.heap.size+1,0,none⟩ (.slice a' (c+1) c'))→K (y.put o.dst (.slice a' (c+1) c')) w') :
 if Region.wanted o (yielded ops y.tmps)=true then Oper.wp Tryz.prog o y W K Q else E:=by
 subst hcs
 have hw:Region.wanted o (yielded ops y.tmps)=true:=by simp [Region.wanted,hgd]
 rw [if_pos hw]
 obtain ⟨t,h1,h2⟩:=h
 obtain ⟨i0,hi,hz0,hz1,hz2⟩:=Zf7
 obtain ⟨hg1,hg2⟩:=h2 _ hm
 obtain ⟨v',t',w',hrun,hr,he,_⟩:=Zaa (P:=Tryz.prog) o.type 55 65 i0 _ 21 272 Tryz.underlying55 hi hz0 hz1 hz2 rfl (by decide) h1.rows ⟨g,0,none⟩ 1 1 (slotFd f) (by simp [slotFd,ZfZ]) (Zf8 hg2) (Zf9 f) (by unfold maxLen; omega) (by omega)
 have hr':Row t' 5 w' 65 21 v' (c+1) ((l.take (c+1)).flatMap slotFd):=by
  rw [hT,List.flatMap_append]; simpa using hr
 obtain ⟨a',c',rfl⟩:=hr'.form
 have hl:=h1.lt
 have hbx:w'.heap[w.heap.size+1]?=some (.cells #[sv,.map (some w.heap.size),.slice none 0 0] 57 (0,0)):=(he.block _ hl (by rw [h1.bt]; decide)).trans h1.box
 have hq:=Zf1 hbx
 have hK2:=hK a' c' w' hq.1.1 hq.2.1 ⟨t',h1.app5 hr' he,fun x hx=>by
  obtain ⟨q1,q2⟩:=h2 x hx
  have hlx:=(Array.getElem?_eq_some_iff.1 q2).1
  have hne:x.1≠w.heap.size+1:=fun e=>by rw [e,h1.bt] at q1; cases q1
  exact ⟨(he.tag _ hlx).trans q1,(Below.heap_setCell _ _ _ _ hne).trans ((he.block _ hlx (by rw [q1]; decide)).trans q2)⟩⟩
 unfold Oper.wp
 simp [execOp,ho,resolve,invoke,builtin,hs,hx,hrun,Result.andThen]
 exact hK2
theorem Zgb {ops:Array Oper} {o:Oper} {y:Act} {K:Act→World→Prop} {Q:Exit→Act→World→Prop} {E:Prop} {g:Nat} {f:Fd} (hgd:o.guard=none) (s x:Operand)
 (ho:o.op = .call { callee := .builtin .append,args:=#[s,x],argTypes:=#[32,32] })
 (hs:y.eval s=kv) (hx:y.eval x = .slice (some ⟨g,0,none⟩) 1 1) (hb:b≤1000) (hT:l.take (b+1)=l.take b++[f]) (hf:f.t=ft) (h:N15 l w L m a b c nv kv sv W) (hm:(g,.cells #[.int .i64 ft] 3 (0,0))∈L)
 (hK:∀ v' w',N15 l w L m a (b+1) c nv v' sv w'→K (y.put o.dst v') w') :
 if Region.wanted o (yielded ops y.tmps)=true then Oper.wp Tryz.prog o y W K Q else E:=by
 have hw:Region.wanted o (yielded ops y.tmps)=true:=by simp [Region.wanted,hgd]
 rw [if_pos hw]
 obtain ⟨t,h1,h2⟩:=h
 obtain ⟨i0,hi,hz0,hz1,hz2⟩:=Zf5
 obtain ⟨hg1,hg2⟩:=h2 _ hm
 obtain ⟨v',t',w',hrun,hr,he,_⟩:=Zaa (P:=Tryz.prog) o.type 32 3 i0 (.int .i64 0) 1 8 Tryz.underlying32 hi hz0 hz1 hz2 rfl (by decide) h1.kinds ⟨g,0,none⟩ 1 1 [.int .i64 ft] rfl (Zf3 hg2) (by simp [Value.oneCell']) (by unfold maxLen; omega) (by omega)
 have hr':Row t' 4 w' 3 1 v' (b+1) ((Fd.types (l.take (b+1))).map (Value.int .i64)):=by
  rw [hT]; unfold Fd.types; rw [List.map_append,List.map_append]; simp only [List.map_cons,List.map_nil]; rw [hf]; exact hr
 have hK2:=hK v' w' ⟨t',h1.app4 hr' he,fun x hx=>by
  obtain ⟨q1,q2⟩:=h2 x hx
  have hl:=(Array.getElem?_eq_some_iff.1 q2).1
  exact ⟨(he.tag _ hl).trans q1,(he.block _ hl (by rw [q1]; decide)).trans q2⟩⟩
 unfold Oper.wp
 simp [execOp,ho,resolve,invoke,builtin,hs,hx,hrun,Result.andThen]
 exact hK2
end
def tag2 (n:Nat):Tag:=fun x=>if x=n then 2 else if x=n+1 then 1 else 0
theorem Zgc (l:List Fd) (w:World):N1 l w 0 0 0 0 (tag2 w.heap.size) (.slice none 0 0) (.slice none 0 0) (.slice none 0 0) ((w.alloc (.map #[] 0)).alloc (.cells #[.slice none 0 0,.map (some w.heap.size),.slice none 0 0] 57)) where
 box:=by have h:=heap_alloc_new (w.alloc (.map #[] 0)) (.cells #[.slice none 0 0,.map (some w.heap.size),.slice none 0 0] 57); simpa using h
 bt:=by simp [tag2]
 mp:=(NmAt.made w).keep (Below.heap_alloc _ _ _ (by simp))
 mt:=by simp [tag2]
 names:=Row.nil _ _ _ _ _
 kinds:=Row.nil _ _ _ _ _
 rows:=Row.nil _ _ _ _ _
 ev:=⟨rfl,rfl,rfl,by simp; omega,fun b hb=>by unfold tag2 T0; rw [if_neg (by omega),if_neg (by omega)],fun b hb _=>(Below.heap_alloc _ _ _ (by simp; omega)).trans (Below.heap_alloc _ _ _ hb)⟩
end Go.Proofs.YtpfhhikbaeknpaaGreatDoor
