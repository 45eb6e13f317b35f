/- The document's form as its second half is made: what is read. -/
import Derived.Test.YtikannmgllejfaaGreatDoorKUD
import Derived.Test.YtikannmgllejfaaGreatDoorKNM
set_option linter.all false
namespace Go.Proofs.YtikannmgllejfaaGreatDoor
open Go.RowKit Pal
def prj (j:Nat) (x:XV):OV:=if j=0 then x.1 else if j=1 then x.2.1 else x.2.2
def setp (k:Nat) (x:XV) (o:OV):XV:=if k=0 then (o,x.2) else if k=1 then (x.1,o,x.2.2) else (x.1,x.2.1,o)
theorem Zn6 {k:Nat} (hk:k<3) (x:XV) (o:OV):prj k (setp k x o)=o:=by rcases (by omega:k=0\/k=1\/k=2) with rfl|rfl|rfl<;>rfl
theorem Zn7 {k j:Nat} (hk:k<3) (hj:j<k) (x:XV) (o:OV):prj j (setp k x o)=prj j x:=by
 rcases (by omega:k=1\/k=2) with rfl|rfl
 . obtain rfl:j=0:=(by omega);rfl
 . rcases (by omega:j=0\/j=1) with rfl|rfl<;>rfl
def Cols (el:Nat->List OV) (hl:Nat->List Bool) (xs:List XV) (k:Nat) (x:XV):Prop :=
 ∀ j,j<3->el j=xs.map (prj j)++(if j<k then [prj j x] else [])/\hl j=(el j).map Option.isSome
theorem Cols.start:Cols (fun _=>[]) (fun _=>[]) [] 0 noX:=fun j _=>⟨rfl,rfl⟩
theorem Cols.put {el:Nat->List OV} {hl:Nat->List Bool} {xs:List XV} {k:Nat} {x:XV} (h:Cols el hl xs k x) (hk:k<3) (o:OV) :
 Cols (updV el k (el k++[o])) (updV hl k (hl k++[o.isSome])) xs (k+1) (setp k x o):=by
 intro j hj;by_cases hjk:j=k
 . subst hjk;obtain ⟨h1,h2⟩:=h j hj;rw [Zj7,Zj7,Zn6 hk,if_pos (by omega)];rw [if_neg (by omega),List.append_nil] at h1;exact ⟨by rw [h1],by rw [h2,Ybe]; rfl⟩
 . obtain ⟨h1,h2⟩:=h j hj;rw [Zj8 hjk,Zj8 hjk];by_cases hlt:j<k
   . rw [if_pos hlt] at h1;rw [if_pos (by omega),Zn7 hk hlt];exact ⟨h1,h2⟩
   . rw [if_neg hlt] at h1;rw [if_neg (by omega)];exact ⟨h1,h2⟩
theorem Cols.next {el:Nat->List OV} {hl:Nat->List Bool} {xs:List XV} {x:XV} (h:Cols el hl xs 3 x):Cols el hl (xs++[x]) 0 noX:=by intro j hj;obtain ⟨h1,h2⟩:=h j hj;rw [if_pos hj] at h1;exact ⟨by rw [h1]; simp,h2⟩
theorem Cols.len {el:Nat->List OV} {hl:Nat->List Bool} {xs:List XV} {x:XV} {k:Nat} (h:Cols el hl xs k x) (hk:k<3):(el k).length=xs.length/\(hl k).length=xs.length:=by obtain ⟨h1,h2⟩:=h k hk;rw [if_neg (by omega),List.append_nil] at h1;rw [h2,Ybf,h1,Ybf];exact ⟨rfl,rfl⟩
def PutOk (l:List Fd) (f:Fd) (k:Nat) (x:XV):Prop:=∀ j,j<k->putM (Fd.names l) (Fd.types l) (wantK f j) (textK f j) = .ok (ovE (prj j x))
theorem PutOk.put {l:List Fd} {f:Fd} {k:Nat} {x:XV} {o:OV} (h:PutOk l f k x) (hk:k<3) (ho:putM (Fd.names l) (Fd.types l) (wantK f k) (textK f k) = .ok (ovE o)):PutOk l f (k+1) (setp k x o):=by
 intro j hj;by_cases e:j=k
 . subst e; rw [Zn6 hk]; exact ho
 . rw [Zn7 hk (by omega)]; exact h j (by omega)
theorem PutOk.bad {l:List Fd} {f:Fd} {k:Nat} {x:XV} {e:Int} (h:PutOk l f k x) (hk:k<3) (he:putM (Fd.names l) (Fd.types l) (wantK f k) (textK f k) = .error e):readsM (Fd.names l) (Fd.types l) f = .error e:=by
 rcases (by omega:k=0\/k=1\/k=2) with rfl|rfl|rfl
 . exact ZhU he
 . exact ZhV (h 0 (by omega)) he
 . exact ZhW (h 0 (by omega)) (h 1 (by omega)) he
theorem PutOk.good {l:List Fd} {f:Fd} {x:XV} (h:PutOk l f 3 x):readsM (Fd.names l) (Fd.types l) f = .ok (x3 x) :=
 ZhX (h 0 (by omega)) (h 1 (by omega)) (h 2 (by omega))
structure RB (h:GH) (l:List Fd) (lv:Value) (ev hv:Nat->Value) (xs:List XV):Prop where
 fds:FdsV h lv l
 es:∀ k,k<3->SlV h (ev k) xs.length 4 (fun j=>exOf (prj k (xs.getD j noX)))
 hs:∀ k,k<3->SlV h (hv k) xs.length 1 (fun j=>boolC (prj k (xs.getD j noX)).isSome)
 ka:∀ k,k<3->∀ x∈xs,∀ y,prj k x=some y->KV h y.2 y.1.ks/\Fine y.1
theorem RB.mono {h h':GH} {l:List Fd} {lv:Value} {ev hv:Nat->Value} {xs:List XV} (s:RB h l lv ev hv xs) (k:h.le h'):RB h' l lv ev hv xs :=
 ⟨s.fds.mono k,fun j hj=>(s.es j hj).mono k,fun j hj=>(s.hs j hj).mono k,fun j hj x hx y hy=>⟨(s.ka j hj x hx y hy).1.mono k,(s.ka j hj x hx y hy).2⟩⟩
theorem Zn8 {α:Type} {t:Tag} {k sz g:Nat} {W:World} {T:TypeId} {v:Value} {n:Nat} (f:α->List Value) (ts:List α) (d:α) (hsz:0<sz) (hf:∀ a,(f a).length=sz) (h:Row t k W T sz v n (ts.flatMap f)) (hg:t g≠k):SlV (gb g W) v ts.length sz (fun j=>f (ts.getD j d)) :=
 (SlV.ofRowV (p:=fun x=>x == k) f ts d hsz hf h (by simp)).mono fun b o hh=>by
  unfold vw at hh
  by_cases e:b=g
  . subst e
    rw [if_neg (by simpa using hg)] at hh; cases hh
  . show (if b=g then none else W.heap[b]?)=some o
    rw [if_neg e]
    split at hh
    . exact hh
    . cases hh
theorem Zn9 {t:Tag} {g:Nat} {W:World} (hg:t g≠0):(hz t W).le (gb g W):=fun b o hh=>by
 unfold hz at hh
 by_cases e:b=g
 . subst e
   rw [if_neg hg] at hh; cases hh
 . show (if b=g then none else W.heap[b]?)=some o
   rw [if_neg e]
   split at hh
   . exact hh
   . cases hh
theorem Zoa (k:Nat) (hk:k<3) (xs:List XV) (j:Nat):(xs.map (prj k)).getD j none=prj k (xs.getD j noX):=by
 simp only [List.getD,Yax];cases xs[j]? with
 | none=>rcases (by omega:k=0\/k=1\/k=2) with rfl|rfl|rfl<;>rfl
 | some x=>rfl
theorem getD_some (k:Nat) (hk:k<3) (xs:List XV) (j:Nat):((xs.map (prj k)).map Option.isSome).getD j false=(prj k (xs.getD j noX)).isSome:=by
 simp only [List.getD,Yax];cases xs[j]? with
 | none=>rcases (by omega:k=0\/k=1\/k=2) with rfl|rfl|rfl<;>rfl
 | some x=>rfl
theorem DF.rb {w:World} {l:List Fd} {b:Nat} {t:Tag} {lv:Value} {ev hv:Nat->Value} {el:Nat->List OV} {hl:Nat->List Bool} {W:World} {xs:List XV} (h:DF w l b t lv ev hv el hl W) (hc:Cols el hl xs 0 noX):RB (gb b W) l lv ev hv xs:=by
 have hb:=h.bt;have h1:∀ k,k<3->el k=xs.map (prj k)/\hl k=(xs.map (prj k)).map Option.isSome:=fun k hk=>by obtain ⟨h1,h2⟩:=hc k hk;rw [if_neg (by omega),List.append_nil] at h1;exact ⟨h1,by rw [h2,h1]⟩
 refine ⟨Zn8 inCells l noFd (by decide) Zj5 h.fds (by rw [hb]; decide),fun k hk=>?_,fun k hk=>?_,fun k hk x hx y hy=>?_⟩
 . have h2:=Zn8 exOf (el k) none (by decide) Zgz (h.exs k hk) (g:=b) (by rw [hb]; omega);rw [(h1 k hk).1,Ybf] at h2;simp only [Zoa k hk] at h2;exact h2
 . have h2:=Zn8 boolC (hl k) false (by decide) Zj9 (h.has k hk) (g:=b) (by rw [hb]; omega);rw [(h1 k hk).2,Ybf,Ybf] at h2;simp only [getD_some k hk] at h2;exact h2
 . have h3:=h.ok k hk (prj k x) (by rw [(h1 k hk).1]; exact List.mem_map.2 ⟨x,hx,rfl⟩) y hy;exact ⟨h3.1.mono (Zn9 (by rw [hb]; decide)),h3.2⟩
theorem DF.start {w W:World} {l:List Fd} {t:Tag} {lv:Value} (hr:Row t 2 W 53 5 lv l.length (l.flatMap inCells)) (he:Evo T0 w t W (·=2)) :
 DF w l W.heap.size (t.set W.heap.size 1) lv (fun _ => .slice none 0 0) (fun _ => .slice none 0 0) (fun _=>[]) (fun _=>[]) (W.alloc (.cells #[lv,.slice none 0 0,.slice none 0 0,.slice none 0 0,.slice none 0 0,.slice none 0 0,.slice none 0 0,.slice none 0 0,.slice none 0 0] 41)):=by have e:Evo t W (t.set W.heap.size 1) (W.alloc (.cells #[lv,.slice none 0 0,.slice none 0 0,.slice none 0 0,.slice none 0 0,.slice none 0 0,.slice none 0 0,.slice none 0 0,.slice none 0 0] 41)) (fun _=>False):=(Ybg _ _ _).alloc 1 _;exact ⟨Yac _ _,Tag.set_same _ _ _,hr.keep e (fun h=>h),fun k _=>Row.nil _ _ _ _ _,fun k _=>Row.nil _ _ _ _ _,fun k _ o ho=>(by cases ho),(he.mono fun _ h=>by rw [h]; decide).trans (e.mono fun _ h=>h.elim)⟩
structure Nd (W2:World) (b:Nat) (lv:Value) (ev hv:Nat->Value) (N:List (List Int)) (t:Tag) (nv:Value) (nds:List Value) (cur:Value) (q:List Int) (W:World):Prop where
 evo:Evo (tagG b) W2 t W (·≠0)
 box:W.heap[b]?=some (.cells #[lv,ev 0,ev 1,ev 2,hv 0,hv 1,hv 2,nv,.slice none 0 0] 41 (0,0))
 bt:t b=5
 outer:Row t 1 W 30 1 nv nds.length nds
 inner:∀ (i:Nat) (v:Value) (nd:List Int),nds[i]?=some v->N[i]?=some nd->Row t (10+i) W 3 1 v nd.length (nd.map (Value.int .i64))
 own:Row t (10+nds.length) W 3 1 cur q.length (q.map (Value.int .i64))
section
variable {W2 W W' : World} {b : Nat} {lv : Value} {ev hv : Nat -> Value} {N : List (List Int)} {t t' : Tag} {nv cur : Value} {nds : List Value} {q : List Int}
theorem Nd.lt (h:Nd W2 b lv ev hv N t nv nds cur q W):b<W.heap.size:=(Yaa.1 h.box).1
theorem Nd.keep (h:Nd W2 b lv ev hv N t nv nds cur q W) (e:Evo t W t' W' (fun _=>False)):Nd W2 b lv ev hv N t' nv nds cur q W':=by have hl:=h.lt;exact ⟨h.evo.trans (e.mono fun _ h=>h.elim),(e.block _ hl (fun h=>h)).trans h.box,(e.tag _ hl).trans h.bt,h.outer.keep e (fun h=>h),fun i v nd h1 h2=>(h.inner i v nd h1 h2).keep e (fun h=>h),h.own.keep e (fun h=>h)⟩
theorem Nd.call (h:Nd W2 b lv ev hv N t nv nds cur q W) (hb:Below W.heap.size W W'):Nd W2 b lv ev hv N (t.ext W.heap.size 0) nv nds cur q W':=h.keep (Evo.below hb (Tag.ext_lt _ _ _))
theorem Zob (h:Evo (tagG b) W2 t W (·≠0)):(gb b W2).le (hz t W):=fun x o hh=>by
 unfold gb at hh
 split at hh
 . cases hh
 . rename_i hn
   have hl:=(Yaa.1 hh).1
   unfold hz
   rw [h.tag x hl,h.block x hl (by unfold tagG; rw [if_neg hn]; simp)]
   unfold tagG
   rw [if_neg hn,if_pos rfl]; exact hh
theorem Nd.le (h:Nd W2 b lv ev hv N t nv nds cur q W):(gb b W2).le (hz t W):=Zob h.evo
theorem Zoc (h:Evo (tagG b) W2 t W (·≠0)):But b W2 W:=⟨h.os,h.tape,h.output,h.size,fun x hl hn=>h.block x hl (by unfold tagG; rw [if_neg hn]; simp)⟩
theorem Nd.start (h:W.heap[b]?=some (.cells #[lv,ev 0,ev 1,ev 2,hv 0,hv 1,hv 2,.slice none 0 0,.slice none 0 0] 41 (0,0))):Nd W b lv ev hv N (tagG b) (.slice none 0 0) [] (.slice none 0 0) [] W :=
 ⟨Ybg _ _ _,h,by simp [tagG],Row.nil _ _ _ _ _,fun i v nd h=>by simp at h,Row.nil _ _ _ _ _⟩
theorem Nd.grow (h:Nd W2 b lv ev hv N t nv nds cur q W) {cur':Value} {q':List Int} (hr:Row t' (10+nds.length) W' 3 1 cur' q'.length (q'.map (Value.int .i64))) (e:Evo t W t' W' (·=10+nds.length)):Nd W2 b lv ev hv N t' nv nds cur' q' W':=by have hl:=h.lt;refine ⟨h.evo.trans (e.mono fun _ h=>by omega),(e.block _ hl (by rw [h.bt]; omega)).trans h.box,(e.tag _ hl).trans h.bt,h.outer.keep e (by omega),fun i v nd h1 h2=>?_,hr⟩;have hi:=(Yag.1 h1).1;exact (h.inner i v nd h1 h2).keep e (by omega)
theorem Zod {nv ov:Value} (h:W.heap[b]?=some (.cells #[lv,ev 0,ev 1,ev 2,hv 0,hv 1,hv 2,nv,ov] 41 (0,0))) :
 (W.cell? ⟨b,0,none⟩=some lv/\W.cell? ⟨b,1,none⟩=some (ev 0)/\W.cell? ⟨b,2,none⟩=some (ev 1)/\W.cell? ⟨b,3,none⟩=some (ev 2)/\W.cell? ⟨b,4,none⟩=some (hv 0)/\W.cell? ⟨b,5,none⟩=some (hv 1)/\W.cell? ⟨b,6,none⟩=some (hv 2)/\W.cell? ⟨b,7,none⟩=some nv/\W.cell? ⟨b,8,none⟩=some ov)/\W.frozen? ⟨b,7,none⟩=false/\W.frozen? ⟨b,8,none⟩=false:=by simp [World.cell?,World.frozen?,h]
theorem Nd.next (h:Nd W2 b lv ev hv N t nv nds cur q W) {nv':Value} (hq:N[nds.length]?=some q) (hr:Row t' 1 W' 30 1 nv' (nds.length+1) (nds++[cur])) (e:Evo t W t' W' (·=1)):Nd W2 b lv ev hv N t' nv' (nds++[cur]) (.slice none 0 0) [] (W'.setCell ⟨b,7,none⟩ nv'):=by
 have hl:=h.lt;have hb:=(e.block _ hl (by rw [h.bt]; decide)).trans h.box;have ht:t' b=5:=(e.tag _ hl).trans h.bt;have e2:Evo t' W' t' (W'.setCell ⟨b,7,none⟩ nv') (·=5):=(Ybg _ _ _).setCell _ _ ht;refine ⟨(h.evo.trans (e.mono fun _ h=>by rw [h]; decide)).trans (e2.mono fun _ h=>by rw [h]; decide),by rw [Zka hb]; simp,ht,?_,fun i v nd h1 h2=>?_,Row.nil _ _ _ _ _⟩
 . rw [Yak]; exact hr.keep e2 (by decide)
 . rw [List.getElem?_append] at h1;by_cases hi:i<nds.length
   . rw [if_pos hi] at h1;exact ((h.inner i v nd h1 h2).keep e (by omega)).keep e2 (by omega)
   . rw [if_neg hi] at h1;have hz:i=nds.length:=(by have:=(Yag.1 h1).1;simp at this; omega);subst hz;simp at h1;subst h1;rw [hq] at h2;cases h2;exact (h.own.keep e (by omega)).keep e2 (by omega)
end
def posJ (ns m:List Bs) (j:Nat):List Int:=((List.range j).filter fun i=>m.contains (ns.getD i [])).map Int.ofNat
theorem Zoe (ns m:List Bs):posJ ns m ns.length=posM ns m:=rfl
theorem Zof (ns m:List Bs) (j:Nat):posJ ns m (j+1)=posJ ns m j++(if m.contains (ns.getD j [])=true then [(j:Int)] else []):=by
 unfold posJ;rw [List.range_succ,List.filter_append,Ybe];congr 1;by_cases h:m.contains (ns.getD j [])=true
 . rw [if_pos h,List.filter_cons_of_pos (by exact h)]; rfl
 . rw [if_neg h,List.filter_cons_of_neg (by exact h)]; rfl
theorem Zog (ns m:List Bs) (j:Nat):(posJ ns m j).length<=j:=by unfold posJ; rw [Ybf]; exact Nat.le_trans (List.length_filter_le _ _) (by rw [List.length_range]; exact Nat.le_refl _)
structure No (W4:World) (b:Nat) (lv:Value) (ev hv:Nat->Value) (nv:Value) (t:Tag) (ov:Value) (q:List Int) (W:World):Prop where
 evo:Evo (tagG b) W4 t W (·≠0)
 box:W.heap[b]?=some (.cells #[lv,ev 0,ev 1,ev 2,hv 0,hv 1,hv 2,nv,ov] 41 (0,0))
 bt:t b=5
 row:Row t 6 W 3 1 ov q.length (q.map (Value.int .i64))
section
variable {W4 W W' : World} {b : Nat} {lv : Value} {ev hv : Nat -> Value} {t t' : Tag} {nv ov : Value} {q : List Int}
theorem No.lt (h:No W4 b lv ev hv nv t ov q W):b<W.heap.size:=(Yaa.1 h.box).1
theorem No.keep (h:No W4 b lv ev hv nv t ov q W) (e:Evo t W t' W' (fun _=>False)):No W4 b lv ev hv nv t' ov q W' :=
 ⟨h.evo.trans (e.mono fun _ h=>h.elim),(e.block _ h.lt (fun h=>h)).trans h.box,(e.tag _ h.lt).trans h.bt,h.row.keep e (fun h=>h)⟩
theorem No.drewN (h:No W4 b lv ev hv nv t ov q W) (n:Nat):No W4 b lv ev hv nv t ov q (W.drewN n):=h.keep ((Ybg _ _ _).drewN n)
theorem No.drew (h:No W4 b lv ev hv nv t ov q W):No W4 b lv ev hv nv t ov q W.drew:=h.keep ((Ybg _ _ _).drew)
theorem No.alloc (h:No W4 b lv ev hv nv t ov q W) (o:Obj):No W4 b lv ev hv nv (t.set W.heap.size 0) ov q (W.alloc o):=h.keep ((Ybg _ _ _).alloc 0 o)
theorem Zoh {ops:Array Oper} {oo:Oper} {y:Act} {K:Act->World->Prop} {Q:Exit->Act->World->Prop} {E:Prop} {g n c:Nat} {a:Option Addr} {z:Int} (hgd:oo.guard=none) (s x:Operand)
 (ho:oo.op = .call { callee := .builtin .append,args:=#[s,x],argTypes:=#[30,30] })
 (hs:y.eval s = .slice a n c) (hx:y.eval x = .slice (some ⟨g,0,none⟩) 1 1) (hov:ov = .slice a n c) (hn:q.length=n) (hn2:n<=1000) (h:No W4 b lv ev hv nv t ov q W)
 (hm:W.heap[g]?=some (.cells #[.int .i64 z] 3 (0,0)))
 (hK:∀ a' c' w',w'.cell? ⟨b,8,none⟩=some (.slice a n c)->w'.frozen? ⟨b,8,none⟩=false ->
  (∃ t',No W4 b lv ev hv nv t' (.slice a' (n+1) c') (q++[z]) (w'.setCell ⟨b,8,none⟩ (.slice a' (n+1) c')))->K (y.put oo.dst (.slice a' (n+1) c')) w') :
 if Region.wanted oo (yielded ops y.tmps)=true then Oper.wp Tryz.prog oo y W K Q else E:=by
 subst hn;subst hov;have hw:Region.wanted oo (yielded ops y.tmps)=true:=by simp [Region.wanted,hgd]
 rw [if_pos hw];obtain ⟨i0,hi,hz0,hz1,hz2⟩:=ZgG;obtain ⟨v',t',w',hrun,hr,he,_⟩:=Zaa (P:=Tryz.prog) oo.type 30 3 i0 (.int .i64 0) 1 8 Tryz.underlying30 hi hz0 hz1 hz2 rfl (by decide) h.row ⟨g,0,none⟩ 1 1 [.int .i64 z] rfl (ZgJ hm) (by simp [Value.oneCell']) (by unfold maxLen; omega) (by omega);obtain ⟨a',c',rfl⟩:=hr.form;have hr':Row t' 6 w' 3 1 (.slice a' (q.length+1) c') (q++[z]).length ((q++[z]).map (Value.int .i64)):=by rw [Ybe,Yak]; exact hr
 have hbx:=(he.block _ h.lt (by rw [h.bt]; decide)).trans h.box;have ht:t' b=5:=(he.tag _ h.lt).trans h.bt;have e2:Evo t' w' t' (w'.setCell ⟨b,8,none⟩ (.slice a' (q.length+1) c')) (·=5):=(Ybg _ _ _).setCell _ _ ht;obtain ⟨⟨-,-,-,-,-,-,-,-,m0⟩,-,m1⟩:=Zod hbx;have hK2:=hK a' c' w' m0 m1 ⟨t',(h.evo.trans (he.mono fun _ h=>by rw [h]; decide)).trans (e2.mono fun _ h=>by rw [h]; decide),by rw [Zka hbx]; simp,ht,hr'.keep e2 (by decide)⟩;unfold Oper.wp;simp [execOp,ho,resolve,invoke,builtin,hs,hx,hrun,Result.andThen];exact hK2
end
theorem Zoi {W:World} {B:Nat} {v:Value} {xs:List Int} {cs:Array Value} {T:TypeId} (h:IntsV (gh W) v xs) (hb:W.heap[B]?=some (.cells cs T (0,0))) (h0:∀ (i:Nat) u,cs[i]?=some u->∃ a n c,u = .slice a n c):IntsV (gb B W) v xs:=by
 obtain ⟨a,cap,hv,hn,hl,hx⟩:=h;refine ⟨a,cap,hv,hn,hl,fun j x hj=>?_⟩;obtain ⟨b,off,ha,hc⟩:=hx j x hj;refine ⟨b,off,ha,?_⟩;have hne:b≠B:=by intro e;subst e;unfold GH.cell gh at hc;rw [hb] at hc;simp only at hc;obtain ⟨_,_,_,hu⟩:=h0 _ _ hc;cases hu
 unfold GH.cell at hc |-;have e:gb B W b=gh W b:=by show (if b=B then none else W.heap[b]?)=_; rw [if_neg hne]; rfl
 rw [e]; exact hc
theorem Zoj {h:GH} {l:List Fd} {lv:Value} {ev hv:Nat->Value} {xs:List XV} {nv ov:Value} (hr:RB h l lv ev hv xs) (hnv:∃ a n c,nv = .slice a n c) (hov:∃ a n c,ov = .slice a n c) :
 ∀ (i:Nat) u,(#[lv,ev 0,ev 1,ev 2,hv 0,hv 1,hv 2,nv,ov]:Array Value)[i]?=some u->∃ a n c,u = .slice a n c:=by
 have f:∀ {v:Value} {n sz:Nat} {f:Nat->List Value},SlV h v n sz f->∃ a n c,v = .slice a n c:=fun s=>by obtain ⟨a,c,hv,_⟩:=s; exact ⟨_,_,_,hv⟩
 intro i u hu
 match i,hu with
 | 0,hu=>cases hu; exact f hr.fds
 | 1,hu=>cases hu; exact f (hr.es 0 (by decide))
 | 2,hu=>cases hu; exact f (hr.es 1 (by decide))
 | 3,hu=>cases hu; exact f (hr.es 2 (by decide))
 | 4,hu=>cases hu; exact f (hr.hs 0 (by decide))
 | 5,hu=>cases hu; exact f (hr.hs 1 (by decide))
 | 6,hu=>cases hu; exact f (hr.hs 2 (by decide))
 | 7,hu=>cases hu; exact hnv
 | 8,hu=>cases hu; exact hov
 | _+9,hu=>simp at hu
structure RefP (h:GH) (b:Nat) (F:Form) (lv:Value) (ev hv:Nat->Value) (nv ov:Value) (xs:List XV) (nds:List Value):Prop where
 box:h b=some (.cells #[lv,ev 0,ev 1,ev 2,hv 0,hv 1,hv 2,nv,ov] 41 (0,0))
 rb:RB h F.l lv ev hv xs
 xlen:xs.length=F.l.length
 nlen:nds.length=F.l.length
 es:F.es=xs.map x3
 outer:SlV h nv nds.length 1 (fun j=>[nds.getD j nilS])
 needs:∀ (i:Nat) (v:Value) (nd:List Int),nds[i]?=some v->F.needs[i]?=some nd->IntsV h v nd
 order:IntsV h ov F.order
def RefV (h:GH) (b:Nat) (F:Form):Prop:=∃ lv ev hv nv ov xs nds,RefP h b F lv ev hv nv ov xs nds
theorem RefP.mono {h h':GH} {b:Nat} {F:Form} {lv:Value} {ev hv:Nat->Value} {nv ov:Value} {xs:List XV} {nds:List Value} (s:RefP h b F lv ev hv nv ov xs nds) (k:h.le h'):RefP h' b F lv ev hv nv ov xs nds :=
 ⟨k _ _ s.box,s.rb.mono k,s.xlen,s.nlen,s.es,s.outer.mono k,fun i v nd h1 h2=>(s.needs i v nd h1 h2).mono k,s.order.mono k⟩
theorem RefV.mono {h h':GH} {b:Nat} {F:Form} (s:RefV h b F) (k:h.le h'):RefV h' b F:=by obtain ⟨lv,ev,hv,nv,ov,xs,nds,p⟩:=s;exact ⟨lv,ev,hv,nv,ov,xs,nds,p.mono k⟩
def refNewPost (l:List Fd) (w:World) (e:Ending) (W:World):Prop :=
 Below w.heap.size w W/\(match newM l with
  | .error x=>e = .returned (.tuple #[.pointer none,.int .i64 x.1,.int .i64 x.2])
  | .ok F=>∃ b,e = .returned (.tuple #[.pointer (some ⟨b,0,none⟩),.int .i64 0,.int .i64 0])/\RefV (gh W) b F)
theorem Zok {l:List Fd} {w W:World} {i:Nat} {k:Int} (hb:Below w.heap.size w W) (h:newM l = .error (i,k)):refNewPost l w (.returned (.tuple #[.pointer none,.int .i64 i,.int .i64 k])) W:=by unfold refNewPost; rw [h]; exact ⟨hb,rfl⟩
theorem Zol {l:List Fd} {w W2 W3 W4 W:World} {b:Nat} {lv:Value} {ev hv:Nat->Value} {nv ov:Value} {xs:List XV} {N:List (List Int)} {t3 t:Tag} {nds:List Value} {q:List Int} (hw:Below w.heap.size w W2) (hwb:w.heap.size<=b) (hr:RB (gb b W2) l lv ev hv xs)
 (h3:Nd W2 b lv ev hv N t3 nv nds (.slice none 0 0) [] W3) (h4:Below W3.heap.size W3 W4) (h5:No W4 b lv ev hv nv t ov q W) (hx:xs.length=l.length) (hl:nds.length=l.length) (hN:∀ (i:Nat) (z:List Int),N[i]?=some z->z.length<=80) (hq:q.length<=1000) :
 RefV (gh W) b ⟨l,xs.map x3,N,q⟩/\Below w.heap.size w W:=by
 have b23:=Zoc h3.evo;have b45:=Zoc h5.evo;have b34:But b W3 W4:=But.below h4;have g35:(gb b W3).le (gh W):=(b34.gb.trans b45.gb).trans (Zdu b W);refine ⟨⟨lv,ev,hv,nv,ov,xs,nds,h5.box,hr.mono (b23.gb.trans g35),hx,hl,rfl,?_,fun i v nd h1 h2=>?_,IntsV.ofRowAny h5.row (show q.length<=17592186044416 by omega)⟩,?_⟩
 . have h6:Row t3 1 W3 30 1 nv nds.length (nds.flatMap fun v=>[v]):=(by have e:(nds.flatMap fun v=>[v])=nds:=(by simp);rw [e]; exact h3.outer);exact (Zn8 (fun v=>[v]) nds nilS (by decide) (fun _=>rfl) h6 (by rw [h3.bt]; decide)).mono g35
 . have h6:=h3.inner i v nd h1 h2;exact (Zjy h6 (by have:=hN i nd h2; omega) (by rw [h3.bt]; omega)).mono g35
 . have h6:=((b23.trans b34).trans b45).toBelow' hwb hw.size;exact hw.trans h6
theorem Zom {l:List Fd} {xs:List XV} {x:XV} {i:Nat} {e:Ex} {v:Value} (h:readAll (Fd.names l) (Fd.types l) 0 l = .ok (xs.map x3)) (hi:xs[i]?=some x) (hx:x.1=some (e,v)):Fine e/\check e=true/\∀ s∈namesM e,s∈Fd.names l:=by have hlen:=Zf8 l 0 _ h;rw [Ybf] at hlen;have hil:=(Yag.1 hi).1;obtain ⟨f,hf⟩:∃ f,l[i]?=some f:=⟨_,Yad (by omega)⟩;have hr:=Zf9 l 0 _ h i f (x3 x) hf (by rw [Yax,hi]; rfl);have hput:=(Zgb hr).1;exact Zjt (e:=e) (by rw [hput]; show Except.ok (ovE x.1)=_; rw [hx]; rfl)
end Go.Proofs.YtikannmgllejfaaGreatDoor
