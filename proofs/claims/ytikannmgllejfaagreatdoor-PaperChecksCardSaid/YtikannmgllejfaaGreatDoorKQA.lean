/- The document's parser in memory; the walks of its tok, sign,. -/
import Derived.Test.YtikannmgllejfaaGreatDoorKVd
set_option maxHeartbeats 8000000
set_option maxRecDepth 1000000
set_option linter.all false
namespace Go.Proofs.YtikannmgllejfaaGreatDoor
open Go.RowKit Pal
def XS (W:World) (B:Nat) (tv:Value) (p:Nat) (q:Int):Prop:=W.heap[B]?=some (.cells #[tv,.int .i64 p,.int .i64 q,.int .i64 0] 151 (0,0))
abbrev XQ (W:World) (B:Nat) (tv:Value) (p:Nat):Prop:=XS W B tv p (-1)
section
variable {W W' : World} {B : Nat} {tv : Value} {p : Nat} {q : Int}
theorem XS.cells (h:XS W B tv p q) :
 W.cell? ⟨B,0,none⟩=some tv/\W.cell? ⟨B,1,none⟩=some (.int .i64 p)/\W.cell? ⟨B,2,none⟩=some (.int .i64 q)/\W.frozen? ⟨B,1,none⟩=false/\W.frozen? ⟨B,2,none⟩=false/\B<W.heap.size:=by unfold XS at h;exact ⟨by simp [World.cell?,h],by simp [World.cell?,h],by simp [World.cell?,h],by simp [World.frozen?,h],by simp [World.frozen?,h],(Yaa.1 h).1⟩
theorem XS.keep (h:XS W B tv p q) (hb:Below W.heap.size W W'):XS W' B tv p q:=by unfold XS at *;rw [hb.block _ (Yaa.1 h).1]; exact h
theorem XS.setI (h:XS W B tv p q) (x:Int) {p':Nat} (e:x=p'):XS (W.setCell ⟨B,1,none⟩ (.int .i64 x)) B tv p' q:=by subst e;unfold XS at *;simp [World.setCell,Yap,h]
theorem XS.setQ (h:XS W B tv p q) (x:Int):XS (W.setCell ⟨B,2,none⟩ (.int .i64 x)) B tv p x:=by unfold XS at *;simp [World.setCell,Yap,h]
theorem XS.set4 (h:XS W B tv p q) {b:Nat} (hB:B≠b) (y0 y1 y2 y3:Value):XS ((((W.setCell ⟨b,0,none⟩ y0).setCell ⟨b,1,none⟩ y1).setCell ⟨b,2,none⟩ y2).setCell ⟨b,3,none⟩ y3) B tv p q:=by unfold XS at *;rw [ZdN hB]; exact h
theorem XS.alloc (h:XS W B tv p q) (o:Obj):XS (W.alloc o) B tv p q:=h.keep ((Yab _ _).alloc Zs _)
end
theorem Below.set4 {n:Nat} {a W:World} (h:Below n a W) {b:Nat} (hb:n<=b) (y0 y1 y2 y3:Value):Below n a ((((W.setCell ⟨b,0,none⟩ y0).setCell ⟨b,1,none⟩ y1).setCell ⟨b,2,none⟩ y2).setCell ⟨b,3,none⟩ y3) :=
 (((h.setCell (p:=⟨b,0,none⟩) hb _).setCell (p:=⟨b,1,none⟩) hb _).setCell (p:=⟨b,2,none⟩) hb _).setCell (p:=⟨b,3,none⟩) hb _
def Junk (v:Value):Prop:=∃ o n s a l c,v=exV o n s (.slice a l c)
def RRes (B:Nat) (tv:Value) (toks:List Tok) (x:PR) (w:World) (e:Ending) (w':World):Prop :=
 But B w w'/\(match x with
  | .ok ex r=>(∃ v,e = .returned v/\EV (gn w.heap.size w') v ex)/\∃ p',toks.drop p'=r/\XS w' B tv p' (-1)
  | .bad q=>(∃ v,e = .returned v/\Junk v)/\∃ p',XS w' B tv p' q
  | .out=>False)
section
variable {B : Nat} {tv : Value} {toks : List Tok} {w W : World} {r : List Tok} {p' q : Nat}
theorem Zma {op n:Int} {s:Bs} {kv:Value} {ks:List Ex} (hB:But B w W) (hpl:B<w.heap.size) (hK:KV (gp (fun b=>w.heap.size<b) W) kv ks) (hP:XS W B tv p' (-1)) (hd:toks.drop p'=r) (y0 y1 y2 y3:Value) :
 RRes B tv toks (.ok (.mk op n s ks) r) w (.returned (exV op n s kv)) ((((W.setCell ⟨w.heap.size,0,none⟩ y0).setCell ⟨w.heap.size,1,none⟩ y1).setCell ⟨w.heap.size,2,none⟩ y2).setCell ⟨w.heap.size,3,none⟩ y3) :=
 ⟨hB.set4 Zs _ _ _ _,⟨_,rfl,kv,rfl,hK.mono (ZdJ fun b hb _=>⟨by omega,ZdN (by omega) _ _ _ _⟩)⟩,p',hd,hP.set4 (by omega) _ _ _ _⟩
theorem Zmb {o n:Int} {s:Bs} {a:Option Addr} {l c:Nat} (hB:But B w W) (hpl:B<w.heap.size) (hP:XS W B tv p' q) (y0 y1 y2 y3:Value) :
 RRes B tv toks (.bad q) w (.returned (exV o n s (.slice a l c))) ((((W.setCell ⟨w.heap.size,0,none⟩ y0).setCell ⟨w.heap.size,1,none⟩ y1).setCell ⟨w.heap.size,2,none⟩ y2).setCell ⟨w.heap.size,3,none⟩ y3) :=
 ⟨hB.set4 Zs _ _ _ _,⟨_,rfl,_,_,_,_,_,_,rfl⟩,p',hP.set4 (by omega) _ _ _ _⟩
end
structure OrIn (n0 pb B5:Nat) (tv:Value) (toks:List Tok) (W:World) (p:Nat) (ex:Ex) (kv:Value):Prop where
 st:XQ W pb tv p
 tok:TokV (gp (fun b=>b<n0/\b≠pb) W) tv toks
 z:zeroE W n0
 c:W.heap[B5]?=some (.cells #[.int .i64 ex.op,.int .i64 ex.n,strV ex.s,kv] 83 (0,0))
 k:KV (gp (fun b=>n0<b/\b≠B5) W) kv ex.ks
 lt:n0<B5
 pb:pb<n0
theorem OrIn.tokb {n0 pb B5:Nat} {tv:Value} {toks:List Tok} {W:World} {p:Nat} {ex:Ex} {kv:Value} (h:OrIn n0 pb B5 tv toks W p ex kv):TokV (gb pb W) tv toks :=
 SlV.mono h.tok (ZdL W (fun h=>h.2 rfl))
theorem Zmc {pb:Nat} {tv:Value} {toks:List Tok} {w W:World} (h:TokV (gb pb w) tv toks) (hB:But pb w W):TokV (gp (fun b=>b<w.heap.size/\b≠pb) W) tv toks :=
 SlV.mono h (fun b o hh=>by
  unfold gb at hh
  unfold gp
  split at hh
  . cases hh
  . rename_i hn
    have hl:=(Yaa.1 hh).1
    rw [if_pos ⟨hl,hn⟩,hB.block b hl hn]; exact hh)
theorem OrIn.but {n0 pb B5:Nat} {tv:Value} {toks:List Tok} {W W':World} {p p':Nat} {ex:Ex} {kv:Value} (h:OrIn n0 pb B5 tv toks W p ex kv) (hB:But pb W W') (hP:XQ W' pb tv p'):OrIn n0 pb B5 tv toks W' p' ex kv:=by have hpb:=h.pb;have hlt:=h.lt;have z:=h.z;have c:=h.c;unfold zeroE at z;have l1:=(Yaa.1 z).1;have l2:=(Yaa.1 c).1;exact ⟨hP,SlV.mono h.tok (ZdJ fun b hb hl=>⟨hb,hB.block _ hl hb.2⟩),by unfold zeroE; rw [hB.block _ l1 (by omega)]; exact z,by rw [hB.block _ l2 (by omega)]; exact c,h.k.mono (ZdJ fun b hb hl=>⟨hb,hB.block _ hl (by omega)⟩),hlt,hpb⟩
theorem OrIn.keep {n0 pb B5:Nat} {tv:Value} {toks:List Tok} {W W':World} {p:Nat} {ex:Ex} {kv:Value} (h:OrIn n0 pb B5 tv toks W p ex kv) (hB:Below W.heap.size W W'):OrIn n0 pb B5 tv toks W' p ex kv :=
 h.but (But.below hB) (h.st.keep hB)
theorem OrIn.set {n0 pb B5:Nat} {tv:Value} {toks:List Tok} {W:World} {p:Nat} {ex:Ex} {kv sv:Value} {ks:List Ex} (h:OrIn n0 pb B5 tv toks W p ex kv)
 (hk:KV (gp (fun b=>n0<b/\b≠B5) W) sv ks) (op:Int) :
 OrIn n0 pb B5 tv toks ((((W.setCell ⟨B5,0,none⟩ (.int .i64 op)).setCell ⟨B5,1,none⟩ (.int .i64 0)).setCell ⟨B5,2,none⟩ (.string ⟨#[]⟩)).setCell ⟨B5,3,none⟩ sv) p (.mk op 0 [] ks) sv:=by have hpb:=h.pb;have hlt:=h.lt;have z:=h.z;have c:=h.c;have st:=h.st;unfold zeroE at z;have o4:=fun x (hx:x≠B5)=>ZdN (W:=W) (b:=x) hx (.int .i64 op) (.int .i64 0) (.string ⟨#[]⟩) sv;refine ⟨st.set4 (by omega) _ _ _ _,SlV.mono h.tok (ZdJ fun b hb hl=>⟨hb,o4 _ (by omega)⟩),?_,ZdM c _ _ _ _,hk.mono (ZdJ fun b hb hl=>⟨hb,o4 _ (by omega)⟩),hlt,hpb⟩;unfold zeroE; rw [o4 _ (by omega)]; exact z
structure ArIn (n0 pb B5:Nat) (tau:Tag) (tv:Value) (toks:List Tok) (W:World) (p:Nat) (q:Int) (op:Int) (l:List (Ex × Value)) (sv:Value):Prop where
 st:XS W pb tv p q
 tok:TokV (gp (fun b=>b<n0/\b≠pb) W) tv toks
 z:zeroE W n0
 c:W.heap[B5]?=some (.cells #[.int .i64 op,.int .i64 0,.string ⟨#[]⟩,sv] 83 (0,0))
 row:Row tau 1 W 83 4 sv l.length (l.flatMap exCells)
 k:∀ x∈l,KV (gp (fun b=>(n0<b/\b≠B5)/\tau b≠1) W) x.2 x.1.ks
 ge:∀ b,tau b=1->(n0<b/\b≠B5)/\b<W.heap.size
 lt:n0<B5
 pb:pb<n0
section
variable {n0 pb B5 : Nat} {tau : Tag} {tv : Value} {toks : List Tok} {W : World} {p : Nat} {q : Int} {op : Int} {l : List (Ex × Value)} {sv : Value}
theorem ArIn.lts (h:ArIn n0 pb B5 tau tv toks W p q op l sv):n0<W.heap.size/\B5<W.heap.size:=by have z:=h.z;unfold zeroE at z;exact ⟨(Yaa.1 z).1,(Yaa.1 h.c).1⟩
theorem ArIn.tokb (h:ArIn n0 pb B5 tau tv toks W p q op l sv):TokV (gb pb W) tv toks:=SlV.mono h.tok (ZdL W (fun h=>h.2 rfl))
theorem ArIn.but {W':World} {p':Nat} {q':Int} (h:ArIn n0 pb B5 tau tv toks W p q op l sv) (hB:But pb W W') (hP:XS W' pb tv p' q'):ArIn n0 pb B5 tau tv toks W' p' q' op l sv:=by
 have hpb:=h.pb;have hlt:=h.lt;have z:=h.z;have c:=h.c;obtain ⟨l1,l2⟩:=h.lts;unfold zeroE at z;have hpt:tau pb≠1:=fun e=>by have:=(h.ge pb e).1.1; omega
 have hE:Evo tau W tau W' (·=tau pb):=⟨hB.os,hB.tape,hB.output,hB.size,fun _ _=>rfl,fun b hb hn=>hB.block b hb (fun e=>hn (by rw [e]))⟩;have hs:=hB.size;exact ⟨hP,SlV.mono h.tok (ZdJ fun b hb hl=>⟨hb,hB.block _ hl hb.2⟩),by unfold zeroE; rw [hB.block _ l1 (by omega)]; exact z,by rw [hB.block _ l2 (by omega)]; exact c,
  h.row.keep hE (fun e=>hpt e.symm),fun x hx=>(h.k x hx).mono (ZdJ fun b hb hl=>⟨hb,hB.block _ hl (by omega)⟩),fun b hb=>⟨(h.ge b hb).1,by have:=(h.ge b hb).2; omega⟩,hlt,hpb⟩
theorem ArIn.keep {W':World} (h:ArIn n0 pb B5 tau tv toks W p q op l sv) (hB:Below W.heap.size W W'):ArIn n0 pb B5 tau tv toks W' p q op l sv:=h.but (But.below hB) (h.st.keep hB)
theorem ArIn.kv (h:ArIn n0 pb B5 tau tv toks W p q op l sv):KV (gp (fun b=>n0<b/\b≠B5) W) sv (l.map Prod.fst):=by
 obtain ⟨a,cap,hv,h1,h2,h3,h4⟩:=SlV.ofRow exCells l (⟨.mk 0 0 [] [],.nilIface⟩:Ex × Value) (by decide) Zgv h.row;have ht:=h.row.tag;subst hv;have hlm:l.length=(l.map Prod.fst).length:=by simp
 rw [hlm] at h1 h2 h4 |-;have hbk:∀ b off,a=some ⟨b,off,none⟩->n0<b/\b≠B5:=by intro b off e;subst e;exact (h.ge b (ht b rfl)).1
 have hcell:∀ (b off i:Nat) (x:Value),a=some ⟨b,off,none⟩->(gh W).cell b i=some x->(gp (fun b=>n0<b/\b≠B5) W).cell b i=some x:=by intro b off i x e hc;unfold GH.cell gp;rw [if_pos (hbk b off e)];exact hc
 have hget:∀ (j:Nat) (k:Ex),(l.map Prod.fst)[j]?=some k->j<(l.map Prod.fst).length/\∃ x∈l,l.getD j ⟨.mk 0 0 [] [],.nilIface⟩=x/\x.1=k:=by
  intro j k hj;obtain ⟨hjl,-⟩:=Yag.1 hj;rw [Yax] at hj;cases hx:l[j]? with
  | none=>rw [hx] at hj; cases hj
  | some x =>rw [hx] at hj;simp only [Option.map_some,Yai] at hj;refine ⟨hjl,x,Yay hx,?_,hj⟩;rw [Yau,hx]; rfl
 refine .mk (l.map Prod.fst) a cap (fun j=>(l.getD j ⟨.mk 0 0 [] [],.nilIface⟩).2) (fun e=>?_) h2 h3 (fun j k hj=>?_) (fun j k hj=>?_)
 . have:=h1 e;exact ⟨Yal this.1,this.2⟩
 . obtain ⟨hjl,x,hx,hg,rfl⟩:=hget j k hj;have e0:=h4 j 0 _ hjl (by simp only [hg]; rfl);have e1:=h4 j 1 _ hjl (by simp only [hg]; rfl);have e2:=h4 j 2 _ hjl (by simp only [hg]; rfl);have e3:=h4 j 3 _ hjl (by simp only [hg]; rfl);obtain ⟨b,off,ha,c0⟩:=e0;obtain ⟨b1,off1,ha1,c1⟩:=e1;obtain ⟨b2,off2,ha2,c2⟩:=e2;obtain ⟨b3,off3,ha3,c3⟩:=e3;rw [ha] at ha1 ha2 ha3;simp only [Yai,Ybd,and_true] at ha1 ha2 ha3;obtain ⟨rfl,rfl⟩:=ha1;obtain ⟨rfl,rfl⟩:=ha2;obtain ⟨rfl,rfl⟩:=ha3;refine ⟨b,off,ha,?_,?_,?_,?_⟩
   . have:=hcell b off _ _ ha c0; rw [show off+(4*j+0)=off+j*4 by omega] at this; exact this
   . have:=hcell b off _ _ ha c1; rw [show off+(4*j+1)=off+j*4+1 by omega] at this; exact this
   . have:=hcell b off _ _ ha c2; rw [show off+(4*j+2)=off+j*4+2 by omega] at this; exact this
   . have:=hcell b off _ _ ha c3; rw [show off+(4*j+3)=off+j*4+3 by omega] at this; simp only [hg]; exact this
 . obtain ⟨hjl,x,hx,hg,rfl⟩:=hget j k hj;simp only [hg];exact (h.k x hx).mono (ZdJ fun b hb _=>⟨hb.1,rfl⟩)
theorem ArIn.app {t':Tag} {w':World} {v':Value} {e:Ex} {u:Value} (h:ArIn n0 pb B5 tau tv toks W p q op l sv) (hr:Row t' 1 w' 83 4 v' (l.length+1) (l.flatMap exCells++exCells (e,u)))
 (he:Evo tau W t' w' (·=1)) (hu:KV (gp (fun b=>(n0<b/\b≠B5)/\tau b≠1) W) u e.ks) :
 ∃ t2,ArIn n0 pb B5 t2 tv toks (w'.setCell ⟨B5,3,none⟩ v') p q op (l++[(e,u)]) v'/\∀ w0:World,w0.heap.size=n0->But pb w0 W->But pb w0 (w'.setCell ⟨B5,3,none⟩ v'):=by
 have hpb:=h.pb;have hlt:=h.lt;have z:=h.z;have c:=h.c;obtain ⟨l1,l2⟩:=h.lts;have st:=h.st;unfold zeroE XS at *;have lp:=(Yaa.1 st).1;have nt:∀ b,¬ (n0<b/\b≠B5)->tau b≠1:=fun b hb e=>hb (h.ge b e).1;have hblk:∀ b,b<W.heap.size->tau b≠1->w'.heap[b]?=W.heap[b]?:=fun b hb hn=>he.block b hb hn;have hset:∀ b,b≠B5->(w'.setCell ⟨B5,3,none⟩ v').heap[b]?=w'.heap[b]?:=fun b hb=>Yat _ _ _ _ (fun e=>hb e);have hlive:∀ b,v'.ownBlock=some b->b<w'.heap.size:=by
  intro b hb;rcases hr.own.2 with ⟨rfl,hn⟩|⟨g,cap,cur,rfl,hbg,hgg,hn,hc,hs,ht⟩
  . simp [Value.ownBlock] at hb
  . simp [Value.ownBlock] at hb;subst hb;exact (Yaa.1 hgg).1
 have hs:=he.size;have hnew:∀ b,b<w'.heap.size->t' b=1->n0<b/\b≠B5:=by
  intro b hb e;by_cases hbl:b<W.heap.size
  . rw [he.tag b hbl] at e; exact (h.ge b e).1
  . exact ⟨by omega,by omega⟩
 refine ⟨fun b=>if b<w'.heap.size then t' b else 0,⟨?_,?_,?_,?_,?_,?_,?_,hlt,hpb⟩,?_⟩
 . unfold XS; rw [hset _ (by omega),hblk _ lp (nt _ (by omega))]; exact st
 . refine SlV.mono h.tok (ZdJ fun b hb hl=>⟨hb,?_⟩);rw [hset _ (by omega),hblk _ hl (nt _ (by omega))]
 . unfold zeroE; rw [hset _ (by omega),hblk _ l1 (nt _ (by omega))]; exact z
 . have hc2:w'.heap[B5]?=some (.cells #[.int .i64 op,.int .i64 0,.string ⟨#[]⟩,sv] 83 (0,0)):=(by rw [hblk _ l2 (nt _ (by omega))]; exact c);simp [World.setCell,Yap,hc2]
 . have hfl:(l++[(e,u)]).flatMap exCells=l.flatMap exCells++exCells (e,u):=(by rw [List.flatMap_append]; simp);rw [hfl,Yak];have hr2:Row (fun b=>if b<w'.heap.size then t' b else 0) 1 w' 83 4 v' (l.length+1) (l.flatMap exCells++exCells (e,u)):=⟨hr.own,fun g hg=>by show (if g<w'.heap.size then t' g else 0)=1;rw [if_pos (hlive g hg)]; exact hr.tag g hg⟩;refine hr2.keep (w':=w'.setCell ⟨B5,3,none⟩ v') (K:=fun x=>x≠1) ((Ybg _ w' _).setCell ⟨B5,3,none⟩ v' ?_) (by simp);show (if B5<w'.heap.size then t' B5 else 0)≠1;rw [if_pos (by omega),he.tag _ l2];exact nt _ (by omega)
 . have hle:(gp (fun b=>(n0<b/\b≠B5)/\tau b≠1) W).le (gp (fun b=>(n0<b/\b≠B5)/\(if b<w'.heap.size then t' b else 0)≠1) (w'.setCell ⟨B5,3,none⟩ v')) :=
    ZdJ fun b hb hl=>⟨⟨hb.1,by rw [if_pos (by omega),he.tag b hl]; exact hb.2⟩,by rw [hset _ hb.1.2,hblk _ hl hb.2]⟩
   intro x hx;rcases List.mem_append.1 hx with hx|hx
   . exact (h.k x hx).mono hle
   . simp only [List.mem_singleton] at hx;subst hx;exact hu.mono hle
 . intro b hb;have hb2:(if b<w'.heap.size then t' b else 0)=1:=hb;by_cases hl:b<w'.heap.size
   . rw [if_pos hl] at hb2;exact ⟨hnew b hl hb2,by simp [World.setCell]; exact hl⟩
   . rw [if_neg hl] at hb2; omega
 . intro w0 h0 hB;refine But.setNew ⟨he.os.trans hB.os,he.tape.trans hB.tape,he.output.trans hB.output,Nat.le_trans hB.size hs,fun b hb hn=>?_⟩ (p:=⟨B5,3,none⟩) (by show w0.heap.size<=B5; omega) v';have:=hB.size;rw [hblk b (by omega) (nt _ (by omega))];exact hB.block b hb hn
end
theorem ArIn.appc {n0 pb B5:Nat} {tau t':Tag} {tv:Value} {toks:List Tok} {W w':World} {p:Nat} {q:Int} {op:Int} {l:List (Ex × Value)} {sv:Value} (h:ArIn n0 pb B5 tau tv toks W p q op l sv) (he:Evo tau W t' w' (·=1)) :
 w'.heap[B5]?=some (.cells #[.int .i64 op,.int .i64 0,.string ⟨#[]⟩,sv] 83 (0,0)):=by rw [he.block B5 h.lts.2 (fun e=>(h.ge B5 e).1.2 rfl)]; exact h.c
theorem ArIn.newk {n0 pb B5:Nat} {tau:Tag} {tv:Value} {toks:List Tok} {X W:World} {p:Nat} {q:Int} {op:Int} {l:List (Ex × Value)} {sv v:Value} {ks:List Ex} (h:ArIn n0 pb B5 tau tv toks X p q op l sv) (hk:KV (gn X.heap.size W) v ks) :
 KV (gp (fun b=>(n0<b/\b≠B5)/\tau b≠1) W) v ks:=by have:=h.lts;exact hk.mono (ZdJ fun b hb _=>⟨⟨⟨by omega,by omega⟩,fun e=>by have:=(h.ge b e).2; omega⟩,rfl⟩)
structure BadIn (n0 B Be:Nat) (tv:Value) (W:World) (q:Nat):Prop where
 st:∃ p,XS W B tv p q
 z:zeroE W n0
 c:∃ o n s a l c,W.heap[Be]?=some (.cells #[.int .i64 o,.int .i64 n,strV s,.slice a l c] 83 (0,0))
 lt:n0<Be
 pb:B<n0
theorem ArIn.junk {n0 pb B5:Nat} {tau t':Tag} {tv:Value} {toks:List Tok} {W w':World} {p q m:Nat} {op:Int} {l:List (Ex × Value)} {sv v':Value} {xs:List Value} (h:ArIn n0 pb B5 tau tv toks W p q op l sv) (hr:Row t' 1 w' 83 4 v' m xs)
 (he:Evo tau W t' w' (·=1)):BadIn n0 pb B5 tv (w'.setCell ⟨B5,3,none⟩ v') q/\∀ w0:World,w0.heap.size=n0->But pb w0 W->But pb w0 (w'.setCell ⟨B5,3,none⟩ v'):=by
 have hpb:=h.pb;have hlt:=h.lt;have z:=h.z;have c:=h.c;obtain ⟨l1,l2⟩:=h.lts;have st:=h.st;unfold zeroE XS at *;have lp:=(Yaa.1 st).1;have nt:∀ b,¬ (n0<b/\b≠B5)->tau b≠1:=fun b hb e=>hb (h.ge b e).1;have hblk:∀ b,b<W.heap.size->tau b≠1->w'.heap[b]?=W.heap[b]?:=fun b hb hn=>he.block b hb hn;have hset:∀ b,b≠B5->(w'.setCell ⟨B5,3,none⟩ v').heap[b]?=w'.heap[b]?:=fun b hb=>Yat _ _ _ _ (fun e=>hb e);have hs:=he.size;obtain ⟨va,vc,rfl⟩:=hr.form;refine ⟨⟨⟨p,?_⟩,?_,⟨op,0,[],va,m,vc,?_⟩,hlt,hpb⟩,?_⟩
 . unfold XS; rw [hset _ (by omega),hblk _ lp (nt _ (by omega))]; exact st
 . unfold zeroE; rw [hset _ (by omega),hblk _ l1 (nt _ (by omega))]; exact z
 . have hc2:w'.heap[B5]?=some (.cells #[.int .i64 op,.int .i64 0,.string ⟨#[]⟩,sv] 83 (0,0)):=(by rw [hblk _ l2 (nt _ (by omega))]; exact c);simp [World.setCell,Yap,hc2,strV]
 . intro w0 h0 hB;refine But.setNew ⟨he.os.trans hB.os,he.tape.trans hB.tape,he.output.trans hB.output,Nat.le_trans hB.size hs,fun b hb hn=>?_⟩ (p:=⟨B5,3,none⟩) (by show w0.heap.size<=B5; omega) _;have:=hB.size;rw [hblk b (by omega) (nt _ (by omega))];exact hB.block b hb hn
theorem Zmd (B p:Nat) (q:Int) (toks:List Tok) (t:Tok) (tv:Value) (w:World) (h:XS w B tv p q) (hT:TokV (gb B w) tv toks) (ht:toks[p]?=some t) (hl:toks.length<=1000) :
 Calls Tryz.prog 100 #[.pointer (some ⟨B,0,none⟩)] w fun e w'=>e = .returned (tokV t.k t.s t.n t.p)/\Below w.heap.size w w':=by
 have hTg:TokV (gh w) tv toks:=SlV.mono hT (Zdu B w);obtain ⟨ta,tcap,rfl⟩:=hT.form;obtain ⟨tb,toff,rfl,k0,k1,k2,k3⟩:=hTg.at ht;obtain ⟨c0,c1,c2,f1,f2,hpl⟩:=h.cells;have hpt:=(Yag.1 ht).1;have i1:(p:Int)<(toks.length:Int):=by omega
 have i0:(0:Int)<=(p:Int):=by omega
 have htl:tb<w.heap.size:=Yan w _ k0;clear h hT hTg ht c2 f1 f2;unfold tokV strV at *;have a0:=Zdw htl k0;have a1:=Zdw htl k1;have a2:=Zdw htl k2;have a3:=Zdw htl k3;have a4:=Zdw hpl c0;have a5:=Zdw hpl c1;have n1:¬ w.heap.size=B:=by omega
 have n2:¬ w.heap.size=tb:=by omega
 go_in;go_wp2;go_region;go_wp2;refine Yaf (v := .agg #[.int .i64 t.k,.string ⟨t.s.toArray⟩,.int .i64 t.n,.int .i64 t.p]) ?_ rfl ?_
 . simp [results,Tryz.results100,go_sem]
 . exact ⟨rfl,((Yab _ _).alloc Zs _).drew⟩
theorem Zme (k:Int) (s:ByteArray) (n p:Int):(∀ W:World,(Instr.field 114 (.agg #[.int .i64 k,.string s,.int .i64 n,.int .i64 p]) 0).run Tryz.prog W = .ok (.int .i64 k) W) /\
 (∀ W:World,(Instr.field 114 (.agg #[.int .i64 k,.string s,.int .i64 n,.int .i64 p]) 1).run Tryz.prog W = .ok (.string s) W) /\
 (∀ W:World,(Instr.field 114 (.agg #[.int .i64 k,.string s,.int .i64 n,.int .i64 p]) 3).run Tryz.prog W = .ok (.int .i64 p) W) :=
 ⟨fun _=>by kernel_rfl,fun _=>by kernel_rfl,fun _=>by kernel_rfl⟩
theorem Zmf (op o1 n1 o2 n2:Int) (s1 s2:Bs) (v1 v2:Value) (w:World) :
 Calls Tryz.prog 143 #[.int .i64 op,exV o1 n1 s1 v1,exV o2 n2 s2 v2] w fun e w'=>∃ g,e = .returned (exV op 0 [] (.slice (some ⟨g,0,none⟩) 2 2))/\Below w.heap.size w w'/\w.heap.size<=g /\
  w'.heap[g]?=some (.cells #[.int .i64 o1,.int .i64 n1,strV s1,v1,.int .i64 o2,.int .i64 n2,strV s2,v2] 83 (0,0)):=by
 unfold exV strV;go_in;go_wp2;refine Yaf (v := .agg #[.int .i64 op,.int .i64 0,.string ⟨#[]⟩,.slice (some ⟨w.heap.size+1+1+1,0,none⟩) 2 2]) ?_ rfl ?_
 . simp [results,Tryz.results143,go_sem]
 . have hh:=Yac (((w.alloc (cEx o1 n1 s1 v1)).alloc (cEx o2 n2 s2 v2)).alloc (.cells #[.int .i64 op,.int .i64 0,.string ⟨#[]⟩,.slice (some ⟨w.heap.size+1+1+1,0,none⟩) 2 2] 83)) (.cells #[.int .i64 o1,.int .i64 n1,.string ⟨s1.toArray⟩,v1,.int .i64 o2,.int .i64 n2,.string ⟨s2.toArray⟩,v2] 83);rw [show (((w.alloc (cEx o1 n1 s1 v1)).alloc (cEx o2 n2 s2 v2)).alloc (.cells #[.int .i64 op,.int .i64 0,.string ⟨#[]⟩,.slice (some ⟨w.heap.size+1+1+1,0,none⟩) 2 2] 83)).heap.size=w.heap.size+1+1+1 by simp] at hh;exact ⟨_,rfl,((((Yab _ _).alloc Zs _).alloc (by simp) _).alloc (by simp; omega) _).alloc (by simp; omega) _,by omega,hh⟩
theorem Zmg (s:Bs) (B p:Nat) (toks:List Tok) (t:Tok) (tv:Value) (w:World) (h:XS w B tv p (-1)) (hT:TokV (gb B w) tv toks) (ht:toks[p]?=some t) (hl:toks.length<=1000) (hs:isSg s t=false) :
 Calls Tryz.prog 142 #[.pointer (some ⟨B,0,none⟩),strV s] w fun e w'=>e = .returned (.bool false)/\Below w.heap.size w w':=by
 have HT:=Zq (fun W (hb:Below w.heap.size w W)=>Zmd B p (-1) toks t tv W (h.keep hb) (SlV.mono hT (But.below (pb:=B) hb).gb) ht hl);obtain ⟨c0,c1,c2,f1,f2,hpl⟩:=h.cells;have hs:=of_decide_eq_false hs;clear h hT ht;unfold tokV strV at *;obtain ⟨fd0,fd1,fd3⟩:=Zme t.k ⟨t.s.toArray⟩ t.n t.p;by_cases h4:t.k=4
 . have q1:(t.k != 4)=false:=(by simp [h4]);have q2:(t.s == s)=false:=Zr (fun e=>hs ⟨h4,e⟩);clear hs h4;go_in;go_wp2_with fail;refine (HT.out _ (Yab _ _)).mono ?_;rintro e W1 ⟨rfl,hb⟩;go_wp2_with fail;refine (HT.out _ hb).mono ?_;rintro e W2 ⟨rfl,hb2⟩;have hb3:=hb.seq hb2;go_wp2;go_ret;exact ⟨rfl,hb3⟩
 . have q1:(t.k != 4)=true:=Yao.2 h4;clear hs h4;go_in;go_wp2_with fail;refine (HT.out _ (Yab _ _)).mono ?_;rintro e W1 ⟨rfl,hb⟩;go_wp2;go_ret;exact ⟨rfl,hb⟩
theorem Zmh (s:Bs) (B p:Nat) (toks:List Tok) (t:Tok) (tv:Value) (w:World) (h:XS w B tv p (-1)) (hT:TokV (gb B w) tv toks) (ht:toks[p]?=some t) (hl:toks.length<=1000) (hs:isSg s t=true) :
 Calls Tryz.prog 142 #[.pointer (some ⟨B,0,none⟩),strV s] w fun e w'=>e = .returned (.bool true)/\But B w w'/\XS w' B tv (p+1) (-1):=by
 have HT:=Zq (fun W (hb:Below w.heap.size w W)=>Zmd B p (-1) toks t tv W (h.keep hb) (SlV.mono hT (But.below (pb:=B) hb).gb) ht hl);have hpt:=(Yag.1 ht).1;have i1:(p:Int)<1000:=by omega
 have i0:(0:Int)<=(p:Int):=by omega
 obtain ⟨c0,c1,c2,f1,f2,hpl⟩:=h.cells;have HX:=Zq h;have hs:=of_decide_eq_true hs;clear h hT ht;unfold tokV strV at *;obtain ⟨fd0,fd1,fd3⟩:=Zme t.k ⟨t.s.toArray⟩ t.n t.p;have q1:(t.k != 4)=false:=by simp [hs.1]
 have q2:(t.s == s)=true:=by simp [hs.2]
 clear hs;go_in;go_wp2_with fail;refine (HT.out _ (Yab _ _)).mono ?_;rintro e W1 ⟨rfl,hb⟩;go_wp2_with fail;refine (HT.out _ hb).mono ?_;rintro e W2 ⟨rfl,hb2⟩;have HB3:=Zq (hb.seq hb2);have HX2:=Zq (HX.out.keep (hb.seq hb2));clear hb hb2 c0 c1 c2 f1 f2 hpl;obtain ⟨c0,c1,c2,f1,f2,hpl⟩:=HX2.out.cells;go_wp2;go_ret;exact ⟨rfl,(But.below HB3.out).setPb 1 _,HX2.out.setI _ (by omega)⟩
theorem Zmi (s:Bs) (B p q:Nat) (tv:Value) (w:World) (h:XS w B tv p q) :
 Calls Tryz.prog 142 #[.pointer (some ⟨B,0,none⟩),strV s] w fun e w'=>e = .returned (.bool false)/\w=w':=by
 obtain ⟨c0,c1,c2,f1,f2,hpl⟩:=h.cells;clear h;unfold strV;have i0:(0:Int)<=(q:Int):=by omega
 go_in;go_wp2;go_ret;exact ⟨rfl,rfl⟩
theorem Zmj (B p:Nat) (toks:List Tok) (t:Tok) (tv:Value) (w:World) (h:XS w B tv p (-1)) (hT:TokV (gb B w) tv toks) (ht:toks[p]?=some t) (hl:toks.length<=1000) :
 Calls Tryz.prog 101 #[.pointer (some ⟨B,0,none⟩)] w fun e w'=>e = .returned (exV 0 0 [] (.slice none 0 0))/\But B w w'/\XS w' B tv p t.p:=by
 have hb0:=(Yab w.heap.size w).alloc Zs zEx;have HT:=Zq (Zmd B p (-1) toks t tv _ (h.keep hb0) (SlV.mono hT (But.below (pb:=B) hb0).gb) ht hl);have HZ:=Zq (Yac w zEx);have HX:=Zq (h.keep hb0);have HB:=Zq hb0;have hpl:=h.cells.2.2.2.2.2;obtain ⟨c0,c1,c2,f1,f2,-⟩:=(h.keep hb0).cells;have hsz:w.heap.size<(w.alloc zEx).heap.size:=by simp
 clear h hT ht hb0;unfold tokV at HT;obtain ⟨fd0,fd1,fd3⟩:=Zme t.k ⟨t.s.toArray⟩ t.n t.p;unfold strV at *;go_in;go_upto_region 1 with fail;generalize w.alloc zEx=W0 at *;go_wp2_with fail;refine HT.out.mono ?_;rintro e W1 ⟨rfl,hb⟩;have HX1:=Zq (HX.out.keep hb);have HB1:=Zq (HB.out.seq hb);have hz1:=(hb.block _ hsz).trans HZ.out;clear hb c0 c1 c2 f1 f2;obtain ⟨c0,c1,c2,f1,f2,-⟩:=HX1.out.cells;obtain ⟨⟨d0,d1,d2,d3⟩,e0,e1,e2,e3⟩:=ZdP hz1;have n1:¬ w.heap.size=B:=by omega
 have n2:¬ B=w.heap.size:=by omega
 have HZ1:=Zq hz1;clear hz1;go_wp2;refine Yaf (v:=exV 0 0 [] (.slice none 0 0)) ?_ rfl ?_
 . have hh:=ZdP (ZdM ((Yat W1 ⟨B,2,none⟩ (.int .i64 t.p) w.heap.size (fun e=>n1 e)).trans HZ1.out) (.int .i64 0) (.int .i64 0) (.string ⟨#[]⟩) (.slice none 0 0));simp [results,Tryz.results101,go_sem,exV,strV,hh.1]
 . exact ⟨rfl,((But.below HB1.out).setPb 2 _).set4 Zs _ _ _ _,(HX1.out.setQ _).set4 n2 _ _ _ _⟩
theorem Zmk (s:Bs) (B p:Nat) (toks:List Tok) (t:Tok) (tv:Value) (w:World) (h:XS w B tv p (-1)) (hT:TokV (gb B w) tv toks) (ht:toks[p]?=some t) (hl:toks.length<=1000) (hs:isSg s t=false) :
 Calls Tryz.prog 243 #[.pointer (some ⟨B,0,none⟩),strV s] w fun e w'=>e = .returned (.tuple #[])/\But B w w'/\XS w' B tv p t.p:=by have HS:=Zq (Zmg s B p toks t tv w h hT ht hl hs);have HW:=Zq (fun W (hb:Below w.heap.size w W)=>Zmj B p toks t tv W (h.keep hb) (SlV.mono hT (But.below (pb:=B) hb).gb) ht hl);obtain ⟨c0,c1,c2,f1,f2,hpl⟩:=h.cells;clear h hT ht;unfold strV at *;go_in;go_wp2_with fail;refine HS.out.mono ?_;rintro e W1 ⟨rfl,hb⟩;have HB:=Zq (But.below (pb:=B) hb);go_wp2_with fail;refine (HW.out _ hb).mono ?_;rintro e W2 ⟨rfl,hb2,hx⟩;have hb3:=HB.out.trans hb2;clear hb2;go_wp2;go_end0;exact ⟨rfl,hb3,hx⟩
theorem Zml (s:Bs) (B p:Nat) (toks:List Tok) (t:Tok) (tv:Value) (w:World) (h:XS w B tv p (-1)) (hT:TokV (gb B w) tv toks) (ht:toks[p]?=some t) (hl:toks.length<=1000) (hs:isSg s t=true) :
 Calls Tryz.prog 243 #[.pointer (some ⟨B,0,none⟩),strV s] w fun e w'=>e = .returned (.tuple #[])/\But B w w'/\XS w' B tv (p+1) (-1):=by have HS:=Zq (Zmh s B p toks t tv w h hT ht hl hs);obtain ⟨c0,c1,c2,f1,f2,hpl⟩:=h.cells;clear h hT ht;unfold strV at *;go_in;go_wp2_with fail;refine HS.out.mono ?_;rintro e W1 ⟨rfl,hb,hx⟩;go_wp2;go_end0;exact ⟨rfl,hb,hx⟩
theorem Zmm (s:Bs) (B p q:Nat) (tv:Value) (w:World) (h:XS w B tv p q) :
 Calls Tryz.prog 243 #[.pointer (some ⟨B,0,none⟩),strV s] w fun e w'=>e = .returned (.tuple #[])/\w=w':=by
 obtain ⟨c0,c1,c2,f1,f2,hpl⟩:=h.cells;clear h;unfold strV;have i0:(0:Int)<=(q:Int):=by omega
 go_in;go_wp2;go_end0;exact ⟨rfl,rfl⟩
theorem Zmn (B p:Nat) (toks:List Tok) (tv:Value) (w:World) (h:XS w B tv p (-1)) (hT:TokV (gb B w) tv toks) (hE:Ended (toks.drop p)) (hl:toks.length<=1000) (x:PR) (hs:isSg [45] (hd (toks.drop p))=true)
 (hrec:∀ W,XS W B tv (p+1) (-1)->TokV (gb B W) tv toks->Calls Tryz.prog 235 #[.pointer (some ⟨B,0,none⟩)] W (RRes B tv toks x W)) :
 Calls Tryz.prog 235 #[.pointer (some ⟨B,0,none⟩)] w (RRes B tv toks (x.then fun e r => .ok (.mk 5 0 [] [e]) r) w):=by
 have hpl:=h.cells.2.2.2.2.2;have hb0:=(Yab w.heap.size w).alloc Zs zEx;have HX0:=Zq (h.keep hb0);have HT0:Hid (∀ W,But B w W->TokV (gb B W) tv toks):=Zq (fun W hb=>SlV.mono hT hb.gb);have HS:=Zq (fun W hx hT=>Zmh [45] B p toks _ tv W hx hT hE.at.1 hl hs);have HR:=Zq hrec;have HZ:=Zq (Yac w zEx);have HB:=Zq (But.below (pb:=B) hb0);have hsz:w.heap.size<(w.alloc zEx).heap.size:=by simp
 clear h hT hE hrec hs hb0;unfold strV at HS;go_in;go_upto_region 1 with fail;generalize w.alloc zEx=W0 at *;have HXv:=HX0;have HBv:=HB;have HZv:=HZ;have hszv:=hsz;go_wp2_with fail;refine (HS.out _ HXv.out (HT0.out _ HBv.out)).mono ?_;rintro e W1 ⟨rfl,hb,hx⟩;have hz1:=(hb.block _ hszv (by omega)).trans HZv.out;have hsz1:w.heap.size<W1.heap.size:=(Yaa.1 hz1).1;have HB1:=Zq (HBv.out.trans hb);clear hb;go_wp2_with fail;refine (HR.out _ hx (HT0.out _ HB1.out)).mono ?_;clear hx HR HS;cases x with
 | out=>rintro e W2 ⟨-,h⟩; exact h.elim
 | bad q =>
  rintro e W2 ⟨hb2,⟨v,rfl,o,n,s,a,l,c,rfl⟩,p',hx2⟩;have hz2:=(hb2.block _ hsz1 (by omega)).trans hz1;have hsz2:w.heap.size<W2.heap.size:=(Yaa.1 hz2).1;have HB3:=Zq ((HB1.out.trans hb2).alloc (cEx o n s (.slice a l c)));have HX3:=Zq (hx2.alloc (cEx o n s (.slice a l c)));have hz3:=(Yah W2 (cEx o n s (.slice a l c)) _ hsz2).trans hz2;have hc3:=Yac W2 (cEx o n s (.slice a l c));clear hz1 hz2 hb2 hx2 HB1;unfold exV strV;go_upto_region 8 with fail;generalize W2.alloc (cEx o n s (.slice a l c))=W3 at *;obtain ⟨⟨c0,c1,c2,c3⟩,-⟩:=ZdP hc3;have hz4:=(Yah W3 (cEx o n s (.slice a l c)) _ (Yaa.1 hz3).1).trans hz3;obtain ⟨⟨g0,g1,g2,g3⟩,f0,f1,f2,f3⟩:=ZdQ hz3;have HZ4:=Zq hz4;clear hz3 hc3 hz4;go_wp2;refine Yaf (v:=exV 5 0 [] (.slice (some ⟨W3.heap.size,0,none⟩) 1 1)) ?_ rfl ?_
  . have hh:=ZdP (ZdM HZ4.out (.int .i64 5) (.int .i64 0) (.string ⟨#[]⟩) (.slice (some ⟨W3.heap.size,0,none⟩) 1 1));simp [results,Tryz.results235,go_sem,exV,strV,hh.1]
  . exact Zmb (HB3.out.alloc _) hpl (HX3.out.alloc _) _ _ _ _
 | ok ex r =>
  rintro e W2 ⟨hb2,⟨v,rfl,kv,rfl,hK⟩,p',hd2,hx2⟩;obtain ⟨ka,kc,rfl⟩:=hK.form;have hz2:=(hb2.block _ hsz1 (by omega)).trans hz1;have hsz2:w.heap.size<W2.heap.size:=(Yaa.1 hz2).1;have HB3:=Zq ((HB1.out.trans hb2).alloc (cEx ex.op ex.n ex.s (.slice ka ex.ks.length kc)));have HX3:=Zq (hx2.alloc (cEx ex.op ex.n ex.s (.slice ka ex.ks.length kc)));have HK3:Hid (KV (gp (fun b=>w.heap.size<b) (W2.alloc (cEx ex.op ex.n ex.s (.slice ka ex.ks.length kc)))) (.slice ka ex.ks.length kc) ex.ks) :=
   Zq (hK.mono (ZdJ fun b hb hl=>⟨by omega,Yah W2 _ b hl⟩))
  have hz3:=(Yah W2 (cEx ex.op ex.n ex.s (.slice ka ex.ks.length kc)) _ hsz2).trans hz2;have hc3:=Yac W2 (cEx ex.op ex.n ex.s (.slice ka ex.ks.length kc));have HD:=Zq hd2;clear hz1 hz2 hb2 hx2 HB1 hK hd2;unfold exV strV;go_upto_region 8 with fail;generalize W2.alloc (cEx ex.op ex.n ex.s (.slice ka ex.ks.length kc))=W3 at *;obtain ⟨⟨c0,c1,c2,c3⟩,-⟩:=ZdP hc3;have HS3:=Zq (Yaa.1 hz3).1;have hz4:=(Yah W3 (cEx ex.op ex.n ex.s (.slice ka ex.ks.length kc)) _ HS3.out).trans hz3;obtain ⟨⟨g0,g1,g2,g3⟩,f0,f1,f2,f3⟩:=ZdQ hz3;have HZ4:=Zq hz4;clear hz3 hc3 hz4;go_wp2;refine Yaf (v:=exV 5 0 [] (.slice (some ⟨W3.heap.size,0,none⟩) 1 1)) ?_ rfl ?_
  . have hh:=ZdP (ZdM HZ4.out (.int .i64 5) (.int .i64 0) (.string ⟨#[]⟩) (.slice (some ⟨W3.heap.size,0,none⟩) 1 1));simp [results,Tryz.results235,go_sem,exV,strV,hh.1]
  . refine Zma (HB3.out.alloc _) hpl (KV.one (b:=W3.heap.size) (a:=ex) (u := .slice ka ex.ks.length kc) (T:=83) ?_ (HK3.out.mono (ZdJ fun b hb hl=>⟨hb,Yah W3 _ b hl⟩))) (HX3.out.alloc _) HD.out _ _ _ _;unfold gp;rw [if_pos (by have:=HS3.out; omega)];exact Yac W3 _
theorem Zmo (B p:Nat) (toks:List Tok) (tv:Value) (w:World) (h:XS w B tv p (-1)) (hT:TokV (gb B w) tv toks) (hE:Ended (toks.drop p)) (hl:toks.length<=1000) (x:PR) (hs:isSg [33] (hd (toks.drop p))=true) (hno:isSg [45] (hd (toks.drop p))=false)
 (hrec:∀ W,XS W B tv (p+1) (-1)->TokV (gb B W) tv toks->Calls Tryz.prog 235 #[.pointer (some ⟨B,0,none⟩)] W (RRes B tv toks x W)) :
 Calls Tryz.prog 235 #[.pointer (some ⟨B,0,none⟩)] w (RRes B tv toks (x.then fun e r => .ok (.mk 6 0 [] [e]) r) w):=by
 have hpl:=h.cells.2.2.2.2.2;have hb0:=(Yab w.heap.size w).alloc Zs zEx;have HX0:=Zq (h.keep hb0);have HT0:Hid (∀ W,But B w W->TokV (gb B W) tv toks):=Zq (fun W hb=>SlV.mono hT hb.gb);have HS:=Zq (fun W hx hT=>Zmh [33] B p toks _ tv W hx hT hE.at.1 hl hs);have HN:=Zq (fun W hx hT=>Zmg [45] B p toks _ tv W hx hT hE.at.1 hl hno);have HR:=Zq hrec;have HZ:=Zq (Yac w zEx);have HB:=Zq (But.below (pb:=B) hb0);have hsz:w.heap.size<(w.alloc zEx).heap.size:=by simp
 clear h hT hE hrec hs hb0 hno;unfold strV at HS HN;go_in;go_upto_region 1 with fail;generalize w.alloc zEx=W0 at *;go_wp2_with fail;refine (HN.out _ HX0.out (HT0.out _ HB.out)).mono ?_;rintro e V0 ⟨rfl,hbv⟩;have HXv:=Zq (HX0.out.keep hbv);have HBv:=Zq (HB.out.call hbv);have HZv:=Zq ((hbv.block _ hsz).trans HZ.out);have hszv:w.heap.size<V0.heap.size:=(Yaa.1 HZv.out).1;clear hbv hsz HX0 HB HZ;go_wp2_with fail;refine (HS.out _ HXv.out (HT0.out _ HBv.out)).mono ?_;rintro e W1 ⟨rfl,hb,hx⟩;have hz1:=(hb.block _ hszv (by omega)).trans HZv.out;have hsz1:w.heap.size<W1.heap.size:=(Yaa.1 hz1).1;have HB1:=Zq (HBv.out.trans hb);clear hb;go_wp2_with fail;refine (HR.out _ hx (HT0.out _ HB1.out)).mono ?_;clear hx HR HS;cases x with
 | out=>rintro e W2 ⟨-,h⟩; exact h.elim
 | bad q =>
  rintro e W2 ⟨hb2,⟨v,rfl,o,n,s,a,l,c,rfl⟩,p',hx2⟩;have hz2:=(hb2.block _ hsz1 (by omega)).trans hz1;have hsz2:w.heap.size<W2.heap.size:=(Yaa.1 hz2).1;have HB3:=Zq ((HB1.out.trans hb2).alloc (cEx o n s (.slice a l c)));have HX3:=Zq (hx2.alloc (cEx o n s (.slice a l c)));have hz3:=(Yah W2 (cEx o n s (.slice a l c)) _ hsz2).trans hz2;have hc3:=Yac W2 (cEx o n s (.slice a l c));clear hz1 hz2 hb2 hx2 HB1;unfold exV strV;go_upto_region 8 with fail;generalize W2.alloc (cEx o n s (.slice a l c))=W3 at *;obtain ⟨⟨c0,c1,c2,c3⟩,-⟩:=ZdP hc3;have hz4:=(Yah W3 (cEx o n s (.slice a l c)) _ (Yaa.1 hz3).1).trans hz3;obtain ⟨⟨g0,g1,g2,g3⟩,f0,f1,f2,f3⟩:=ZdQ hz3;have HZ4:=Zq hz4;clear hz3 hc3 hz4;go_wp2;refine Yaf (v:=exV 6 0 [] (.slice (some ⟨W3.heap.size,0,none⟩) 1 1)) ?_ rfl ?_
  . have hh:=ZdP (ZdM HZ4.out (.int .i64 6) (.int .i64 0) (.string ⟨#[]⟩) (.slice (some ⟨W3.heap.size,0,none⟩) 1 1));simp [results,Tryz.results235,go_sem,exV,strV,hh.1]
  . exact Zmb (HB3.out.alloc _) hpl (HX3.out.alloc _) _ _ _ _
 | ok ex r =>
  rintro e W2 ⟨hb2,⟨v,rfl,kv,rfl,hK⟩,p',hd2,hx2⟩;obtain ⟨ka,kc,rfl⟩:=hK.form;have hz2:=(hb2.block _ hsz1 (by omega)).trans hz1;have hsz2:w.heap.size<W2.heap.size:=(Yaa.1 hz2).1;have HB3:=Zq ((HB1.out.trans hb2).alloc (cEx ex.op ex.n ex.s (.slice ka ex.ks.length kc)));have HX3:=Zq (hx2.alloc (cEx ex.op ex.n ex.s (.slice ka ex.ks.length kc)));have HK3:Hid (KV (gp (fun b=>w.heap.size<b) (W2.alloc (cEx ex.op ex.n ex.s (.slice ka ex.ks.length kc)))) (.slice ka ex.ks.length kc) ex.ks) :=
   Zq (hK.mono (ZdJ fun b hb hl=>⟨by omega,Yah W2 _ b hl⟩))
  have hz3:=(Yah W2 (cEx ex.op ex.n ex.s (.slice ka ex.ks.length kc)) _ hsz2).trans hz2;have hc3:=Yac W2 (cEx ex.op ex.n ex.s (.slice ka ex.ks.length kc));have HD:=Zq hd2;clear hz1 hz2 hb2 hx2 HB1 hK hd2;unfold exV strV;go_upto_region 8 with fail;generalize W2.alloc (cEx ex.op ex.n ex.s (.slice ka ex.ks.length kc))=W3 at *;obtain ⟨⟨c0,c1,c2,c3⟩,-⟩:=ZdP hc3;have HS3:=Zq (Yaa.1 hz3).1;have hz4:=(Yah W3 (cEx ex.op ex.n ex.s (.slice ka ex.ks.length kc)) _ HS3.out).trans hz3;obtain ⟨⟨g0,g1,g2,g3⟩,f0,f1,f2,f3⟩:=ZdQ hz3;have HZ4:=Zq hz4;clear hz3 hc3 hz4;go_wp2;refine Yaf (v:=exV 6 0 [] (.slice (some ⟨W3.heap.size,0,none⟩) 1 1)) ?_ rfl ?_
  . have hh:=ZdP (ZdM HZ4.out (.int .i64 6) (.int .i64 0) (.string ⟨#[]⟩) (.slice (some ⟨W3.heap.size,0,none⟩) 1 1));simp [results,Tryz.results235,go_sem,exV,strV,hh.1]
  . refine Zma (HB3.out.alloc _) hpl (KV.one (b:=W3.heap.size) (a:=ex) (u := .slice ka ex.ks.length kc) (T:=83) ?_ (HK3.out.mono (ZdJ fun b hb hl=>⟨hb,Yah W3 _ b hl⟩))) (HX3.out.alloc _) HD.out _ _ _ _;unfold gp;rw [if_pos (by have:=HS3.out; omega)];exact Yac W3 _
theorem Zmp (B p:Nat) (toks:List Tok) (tv:Value) (w:World) (h:XS w B tv p (-1)) (hT:TokV (gb B w) tv toks) (hE:Ended (toks.drop p)) (hl:toks.length<=1000) (hk:(hd (toks.drop p)).k=1):Calls Tryz.prog 237 #[.pointer (some ⟨B,0,none⟩)] w (RRes B tv toks (.ok (.mk 1 (hd (toks.drop p)).n [] []) (toks.drop p).tail) w):=by
 have K1:((hd (toks.drop p)).k == 1)=true:=by simp [hk]
 clear hk;have hpl:=h.cells.2.2.2.2.2;have hb0:=(Yab w.heap.size w).alloc Zs zEx;have HX0:=Zq (h.keep hb0);have HT0:Hid (∀ W,But B w W->TokV (gb B W) tv toks):=Zq (fun W hb=>SlV.mono hT hb.gb);have HK:=Zq (Zmd B p (-1) toks _ tv _ (h.keep hb0) (SlV.mono hT (But.below (pb:=B) hb0).gb) hE.at.1 hl);have HZ:=Zq (Yac w zEx);have HB:=Zq (But.below (pb:=B) hb0);have hsz:w.heap.size<(w.alloc zEx).heap.size:=by simp
 have HTL:=Zq (ZdR toks p);have hpt:=hE.at.2;have i1:(p:Int)<1000:=by omega
 have i0:(0:Int)<=(p:Int):=by omega
 generalize hd (toks.drop p)=t at *;clear h hT hE hb0;unfold tokV strV at *;go_in;go_upto_region 1 with fail;have cX:=HX0.out.cells;generalize w.alloc zEx=W0 at *;obtain ⟨c0,c1,c2,f1,f2,hplW⟩:=cX;go_wp2_with fail;refine HK.out.mono ?_;rintro e W1 ⟨rfl,hb⟩;have HX1:=Zq (HX0.out.keep hb);have HB1:=Zq (HB.out.call hb);have hz1:=(hb.block _ hsz).trans HZ.out;have hsz1:w.heap.size<W1.heap.size:=(Yaa.1 hz1).1;clear hb hsz HX0 HB HZ HK c0 c1 c2 f1 f2 hplW;have HX2:=Zq (HX1.out.alloc (.cells #[.int .i64 t.k,.string ⟨t.s.toArray⟩,.int .i64 t.n,.int .i64 t.p] 114));have HB2:=Zq (HB1.out.alloc (.cells #[.int .i64 t.k,.string ⟨t.s.toArray⟩,.int .i64 t.n,.int .i64 t.p] 114));have HT2:=Zq (HT0.out _ HB2.out);have hz2:=(Yah W1 (.cells #[.int .i64 t.k,.string ⟨t.s.toArray⟩,.int .i64 t.n,.int .i64 t.p] 114) _ hsz1).trans hz1;have ht2:=Yac W1 (.cells #[.int .i64 t.k,.string ⟨t.s.toArray⟩,.int .i64 t.n,.int .i64 t.p] 114);go_upto_region 4 with fail;generalize W1.alloc (.cells #[.int .i64 t.k,.string ⟨t.s.toArray⟩,.int .i64 t.n,.int .i64 t.p] 114)=W2 at *;have hsz2:w.heap.size<W2.heap.size:=(Yaa.1 hz2).1;clear hz1 HX1 HB1;obtain ⟨⟨d0,d1,d2,d3⟩,-⟩:=ZdP ht2;obtain ⟨c0,c1,c2,f1,f2,hplW⟩:=HX2.out.cells;obtain ⟨⟨g0,g1,g2,g3⟩,e0,e1,e2,e3⟩:=ZdP hz2;have n1:¬ w.heap.size=B:=by omega
 have n3:¬ B=w.heap.size:=by omega
 have n4:¬ W1.heap.size=B:=by omega
 have n5:¬ B=W1.heap.size:=by omega
 have HZ2:=Zq hz2;clear hz2 ht2;go_wp2;refine Yaf (v:=exV 1 t.n [] (.slice none 0 0)) ?_ rfl ?_
 . have hh:=ZdP (ZdM ((Yat W2 ⟨B,1,none⟩ (.int .i64 ((p:Int)+1)) w.heap.size (fun e=>n1 e)).trans HZ2.out) (.int .i64 1) (.int .i64 t.n) (.string ⟨#[]⟩) (.slice none 0 0));simp [results,Tryz.results237,go_sem,exV,strV,hh.1]
 . exact Zma (HB2.out.setPb 1 _) hpl (KV.nil _) (HX2.out.setI _ (by omega)) HTL.out.symm _ _ _ _
theorem Zmq (B p:Nat) (toks:List Tok) (tv:Value) (w:World) (h:XS w B tv p (-1)) (hT:TokV (gb B w) tv toks) (hE:Ended (toks.drop p)) (hl:toks.length<=1000) (hk:(hd (toks.drop p)).k=2):Calls Tryz.prog 237 #[.pointer (some ⟨B,0,none⟩)] w (RRes B tv toks (.ok (.mk 2 0 (hd (toks.drop p)).s []) (toks.drop p).tail) w):=by
 have K1:((hd (toks.drop p)).k == 1)=false:=by simp [hk]
 have K2:((hd (toks.drop p)).k == 2)=true:=by simp [hk]
 clear hk;have hpl:=h.cells.2.2.2.2.2;have hb0:=(Yab w.heap.size w).alloc Zs zEx;have HX0:=Zq (h.keep hb0);have HT0:Hid (∀ W,But B w W->TokV (gb B W) tv toks):=Zq (fun W hb=>SlV.mono hT hb.gb);have HK:=Zq (Zmd B p (-1) toks _ tv _ (h.keep hb0) (SlV.mono hT (But.below (pb:=B) hb0).gb) hE.at.1 hl);have HZ:=Zq (Yac w zEx);have HB:=Zq (But.below (pb:=B) hb0);have hsz:w.heap.size<(w.alloc zEx).heap.size:=by simp
 have HTL:=Zq (ZdR toks p);have hpt:=hE.at.2;have i1:(p:Int)<1000:=by omega
 have i0:(0:Int)<=(p:Int):=by omega
 generalize hd (toks.drop p)=t at *;clear h hT hE hb0;unfold tokV strV at *;go_in;go_upto_region 1 with fail;have cX:=HX0.out.cells;generalize w.alloc zEx=W0 at *;obtain ⟨c0,c1,c2,f1,f2,hplW⟩:=cX;go_wp2_with fail;refine HK.out.mono ?_;rintro e W1 ⟨rfl,hb⟩;have HX1:=Zq (HX0.out.keep hb);have HB1:=Zq (HB.out.call hb);have hz1:=(hb.block _ hsz).trans HZ.out;have hsz1:w.heap.size<W1.heap.size:=(Yaa.1 hz1).1;clear hb hsz HX0 HB HZ HK c0 c1 c2 f1 f2 hplW;have HX2:=Zq (HX1.out.alloc (.cells #[.int .i64 t.k,.string ⟨t.s.toArray⟩,.int .i64 t.n,.int .i64 t.p] 114));have HB2:=Zq (HB1.out.alloc (.cells #[.int .i64 t.k,.string ⟨t.s.toArray⟩,.int .i64 t.n,.int .i64 t.p] 114));have HT2:=Zq (HT0.out _ HB2.out);have hz2:=(Yah W1 (.cells #[.int .i64 t.k,.string ⟨t.s.toArray⟩,.int .i64 t.n,.int .i64 t.p] 114) _ hsz1).trans hz1;have ht2:=Yac W1 (.cells #[.int .i64 t.k,.string ⟨t.s.toArray⟩,.int .i64 t.n,.int .i64 t.p] 114);go_upto_region 4 with fail;generalize W1.alloc (.cells #[.int .i64 t.k,.string ⟨t.s.toArray⟩,.int .i64 t.n,.int .i64 t.p] 114)=W2 at *;have hsz2:w.heap.size<W2.heap.size:=(Yaa.1 hz2).1;clear hz1 HX1 HB1;obtain ⟨⟨d0,d1,d2,d3⟩,-⟩:=ZdP ht2;obtain ⟨c0,c1,c2,f1,f2,hplW⟩:=HX2.out.cells;obtain ⟨⟨g0,g1,g2,g3⟩,e0,e1,e2,e3⟩:=ZdP hz2;have n1:¬ w.heap.size=B:=by omega
 have n3:¬ B=w.heap.size:=by omega
 have n4:¬ W1.heap.size=B:=by omega
 have n5:¬ B=W1.heap.size:=by omega
 have HZ2:=Zq hz2;clear hz2 ht2;go_wp2;refine Yaf (v:=exV 2 0 t.s (.slice none 0 0)) ?_ rfl ?_
 . have hh:=ZdP (ZdM ((Yat W2 ⟨B,1,none⟩ (.int .i64 ((p:Int)+1)) w.heap.size (fun e=>n1 e)).trans HZ2.out) (.int .i64 2) (.int .i64 0) (.string ⟨t.s.toArray⟩) (.slice none 0 0));simp [results,Tryz.results237,go_sem,exV,strV,hh.1]
 . exact Zma (HB2.out.setPb 1 _) hpl (KV.nil _) (HX2.out.setI _ (by omega)) HTL.out.symm _ _ _ _
theorem Zmr (B p:Nat) (toks:List Tok) (tv:Value) (w:World) (h:XS w B tv p (-1)) (hT:TokV (gb B w) tv toks) (hE:Ended (toks.drop p)) (hl:toks.length<=1000) (hk:(hd (toks.drop p)).k=3) (x:PR)
 (hrec:∀ W,XS W B tv p (-1)->TokV (gb B W) tv toks->Calls Tryz.prog 242 #[.pointer (some ⟨B,0,none⟩),strV (hd (toks.drop p)).s] W (RRes B tv toks x W)):Calls Tryz.prog 237 #[.pointer (some ⟨B,0,none⟩)] w (RRes B tv toks x w):=by
 have K1:((hd (toks.drop p)).k == 1)=false:=by simp [hk]
 have K2:((hd (toks.drop p)).k == 2)=false:=by simp [hk]
 have K3:((hd (toks.drop p)).k == 3)=true:=by simp [hk]
 have HR:=Zq hrec;clear hk hrec;have hpl:=h.cells.2.2.2.2.2;have hb0:=(Yab w.heap.size w).alloc Zs zEx;have HX0:=Zq (h.keep hb0);have HT0:Hid (∀ W,But B w W->TokV (gb B W) tv toks):=Zq (fun W hb=>SlV.mono hT hb.gb);have HK:=Zq (Zmd B p (-1) toks _ tv _ (h.keep hb0) (SlV.mono hT (But.below (pb:=B) hb0).gb) hE.at.1 hl);have HZ:=Zq (Yac w zEx);have HB:=Zq (But.below (pb:=B) hb0);have hsz:w.heap.size<(w.alloc zEx).heap.size:=by simp
 have HTL:=Zq (ZdR toks p);have hpt:=hE.at.2;have i1:(p:Int)<1000:=by omega
 have i0:(0:Int)<=(p:Int):=by omega
 generalize hd (toks.drop p)=t at *;clear h hT hE hb0;unfold tokV strV at *;go_in;go_upto_region 1 with fail;have cX:=HX0.out.cells;generalize w.alloc zEx=W0 at *;obtain ⟨c0,c1,c2,f1,f2,hplW⟩:=cX;go_wp2_with fail;refine HK.out.mono ?_;rintro e W1 ⟨rfl,hb⟩;have HX1:=Zq (HX0.out.keep hb);have HB1:=Zq (HB.out.call hb);have hz1:=(hb.block _ hsz).trans HZ.out;have hsz1:w.heap.size<W1.heap.size:=(Yaa.1 hz1).1;clear hb hsz HX0 HB HZ HK c0 c1 c2 f1 f2 hplW;have HX2:=Zq (HX1.out.alloc (.cells #[.int .i64 t.k,.string ⟨t.s.toArray⟩,.int .i64 t.n,.int .i64 t.p] 114));have HB2:=Zq (HB1.out.alloc (.cells #[.int .i64 t.k,.string ⟨t.s.toArray⟩,.int .i64 t.n,.int .i64 t.p] 114));have HT2:=Zq (HT0.out _ HB2.out);have hz2:=(Yah W1 (.cells #[.int .i64 t.k,.string ⟨t.s.toArray⟩,.int .i64 t.n,.int .i64 t.p] 114) _ hsz1).trans hz1;have ht2:=Yac W1 (.cells #[.int .i64 t.k,.string ⟨t.s.toArray⟩,.int .i64 t.n,.int .i64 t.p] 114);go_upto_region 4 with fail;generalize W1.alloc (.cells #[.int .i64 t.k,.string ⟨t.s.toArray⟩,.int .i64 t.n,.int .i64 t.p] 114)=W2 at *;have hsz2:w.heap.size<W2.heap.size:=(Yaa.1 hz2).1;clear hz1 HX1 HB1;obtain ⟨⟨d0,d1,d2,d3⟩,-⟩:=ZdP ht2;go_wp2_with fail;refine (HR.out _ HX2.out HT2.out).mono ?_;have HB1:=HB2;have hz1:=hz2;have hsz1:=hsz2;clear hz2 ht2 hsz2 HB2 HX2 HT2 HR d0 d1 d2 d3;generalize W2=W1' at *;cases x with
 | out=>rintro e V2 ⟨-,h⟩; exact h.elim
 | bad q =>
  rintro e V2 ⟨hb2,⟨v,rfl,o,n,s0,a,l,c,rfl⟩,p',hx2⟩;have hz2:=(hb2.block _ hsz1 (by omega)).trans hz1;obtain ⟨⟨c0,c1,c2,c3⟩,f0,f1,f2,f3⟩:=ZdP hz2;have HZ2:=Zq hz2;have HB2:=Zq (HB1.out.trans hb2);have HX2:=Zq hx2;clear hz1 hz2 hb2 hx2;unfold exV strV;go_wp2;refine Yaf (v:=exV o n s0 (.slice a l c)) ?_ rfl ?_
  . have hh:=ZdP (ZdM HZ2.out (.int .i64 o) (.int .i64 n) (.string ⟨s0.toArray⟩) (.slice a l c));simp [results,Tryz.results237,go_sem,exV,strV,hh.1]
  . exact Zmb HB2.out hpl HX2.out _ _ _ _
 | ok ex r =>
  rintro e V2 ⟨hb2,⟨v,rfl,kv,rfl,hK⟩,p',hd2,hx2⟩;obtain ⟨ka,kc,rfl⟩:=hK.form;have hz2:=(hb2.block _ hsz1 (by omega)).trans hz1;obtain ⟨⟨c0,c1,c2,c3⟩,f0,f1,f2,f3⟩:=ZdP hz2;have HZ2:=Zq hz2;have HB2:=Zq (HB1.out.trans hb2);have HX2:=Zq hx2;have HK2:=Zq (KV.mono (h':=gp (fun b=>w.heap.size<b) V2) (ZdJ fun b hb hl=>⟨by omega,rfl⟩) hK);have HD:=Zq hd2;clear hz1 hz2 hb2 hx2 hK hd2;unfold exV strV;go_wp2;refine Yaf (v:=exV ex.op ex.n ex.s (.slice ka ex.ks.length kc)) ?_ rfl ?_
  . have hh:=ZdP (ZdM HZ2.out (.int .i64 ex.op) (.int .i64 ex.n) (.string ⟨ex.s.toArray⟩) (.slice ka ex.ks.length kc));simp [results,Tryz.results237,go_sem,exV,strV,hh.1]
  . rw [Ex.eta ex];exact Zma HB2.out hpl HK2.out HX2.out HD.out _ _ _ _
theorem Zms (B p:Nat) (toks:List Tok) (tv:Value) (w:World) (h:XS w B tv p (-1)) (hT:TokV (gb B w) tv toks) (hE:Ended (toks.drop p)) (hl:toks.length<=1000) (h1:(hd (toks.drop p)).k≠1) (h2:(hd (toks.drop p)).k≠2) (h3:(hd (toks.drop p)).k≠3) (hs:isSg [40] (hd (toks.drop p))=false):Calls Tryz.prog 237 #[.pointer (some ⟨B,0,none⟩)] w (RRes B tv toks (.bad (hd (toks.drop p)).p) w):=by
 have K1:((hd (toks.drop p)).k == 1)=false:=Zr h1;have K2:((hd (toks.drop p)).k == 2)=false:=Zr h2;have K3:((hd (toks.drop p)).k == 3)=false:=Zr h3;have HS:=Zq (fun W hx hT=>Zmg [40] B p toks _ tv W hx hT hE.at.1 hl hs);have HW:=Zq (fun W hx hT=>Zmj B p toks _ tv W hx hT hE.at.1 hl);clear h1 h2 h3 hs;have hpl:=h.cells.2.2.2.2.2;have hb0:=(Yab w.heap.size w).alloc Zs zEx;have HX0:=Zq (h.keep hb0);have HT0:Hid (∀ W,But B w W->TokV (gb B W) tv toks):=Zq (fun W hb=>SlV.mono hT hb.gb);have HK:=Zq (Zmd B p (-1) toks _ tv _ (h.keep hb0) (SlV.mono hT (But.below (pb:=B) hb0).gb) hE.at.1 hl);have HZ:=Zq (Yac w zEx);have HB:=Zq (But.below (pb:=B) hb0);have hsz:w.heap.size<(w.alloc zEx).heap.size:=by simp
 have HTL:=Zq (ZdR toks p);have hpt:=hE.at.2;have i1:(p:Int)<1000:=by omega
 have i0:(0:Int)<=(p:Int):=by omega
 generalize hd (toks.drop p)=t at *;clear h hT hE hb0;unfold tokV strV at *;go_in;go_upto_region 1 with fail;have cX:=HX0.out.cells;generalize w.alloc zEx=W0 at *;obtain ⟨c0,c1,c2,f1,f2,hplW⟩:=cX;go_wp2_with fail;refine HK.out.mono ?_;rintro e W1 ⟨rfl,hb⟩;have HX1:=Zq (HX0.out.keep hb);have HB1:=Zq (HB.out.call hb);have hz1:=(hb.block _ hsz).trans HZ.out;have hsz1:w.heap.size<W1.heap.size:=(Yaa.1 hz1).1;clear hb hsz HX0 HB HZ HK c0 c1 c2 f1 f2 hplW;have HX2:=Zq (HX1.out.alloc (.cells #[.int .i64 t.k,.string ⟨t.s.toArray⟩,.int .i64 t.n,.int .i64 t.p] 114));have HB2:=Zq (HB1.out.alloc (.cells #[.int .i64 t.k,.string ⟨t.s.toArray⟩,.int .i64 t.n,.int .i64 t.p] 114));have HT2:=Zq (HT0.out _ HB2.out);have hz2:=(Yah W1 (.cells #[.int .i64 t.k,.string ⟨t.s.toArray⟩,.int .i64 t.n,.int .i64 t.p] 114) _ hsz1).trans hz1;have ht2:=Yac W1 (.cells #[.int .i64 t.k,.string ⟨t.s.toArray⟩,.int .i64 t.n,.int .i64 t.p] 114);go_upto_region 4 with fail;generalize W1.alloc (.cells #[.int .i64 t.k,.string ⟨t.s.toArray⟩,.int .i64 t.n,.int .i64 t.p] 114)=W2 at *;have hsz2:w.heap.size<W2.heap.size:=(Yaa.1 hz2).1;clear hz1 HX1 HB1;obtain ⟨⟨d0,d1,d2,d3⟩,-⟩:=ZdP ht2;go_wp2_with fail;refine (HS.out _ HX2.out HT2.out).mono ?_;rintro e W3 ⟨rfl,hb⟩;have HX3:=Zq (HX2.out.keep hb);have HB3:=Zq (HB2.out.call hb);have hz3:=(hb.block _ hsz2).trans hz2;have hsz3:w.heap.size<W3.heap.size:=(Yaa.1 hz3).1;clear hb hz2 ht2 hsz2 HB2 HX2 HT2 d0 d1 d2 d3;go_wp2_with fail;refine (HW.out _ HX3.out (HT0.out _ HB3.out)).mono ?_;rintro e W4 ⟨rfl,hb,hx⟩;have hz4:=(hb.block _ hsz3 (by omega)).trans hz3;have HB4:=Zq (HB3.out.trans hb);obtain ⟨⟨g0,g1,g2,g3⟩,e0,e1,e2,e3⟩:=ZdP hz4;have HZ4:=Zq hz4;have HX4:=Zq hx;clear hb hz3 hz4 hx;unfold exV strV;go_wp2;refine Yaf (v:=exV 0 0 [] (.slice none 0 0)) ?_ rfl ?_
 . have hh:=ZdP (ZdM HZ4.out (.int .i64 0) (.int .i64 0) (.string ⟨#[]⟩) (.slice none 0 0));simp [results,Tryz.results237,go_sem,exV,strV,hh.1]
 . exact Zmb HB4.out hpl HX4.out _ _ _ _
theorem Zmt (B p:Nat) (toks:List Tok) (tv:Value) (w:World) (h:XS w B tv p (-1)) (hT:TokV (gb B w) tv toks) (hE:Ended (toks.drop p)) (hl:toks.length<=1000) (x:PR) (hs:isSg [40] (hd (toks.drop p))=true) (hx:∀ e r,x = .ok e r->Ended r)
 (hrec:∀ W,XS W B tv (p+1) (-1)->TokV (gb B W) tv toks->Calls Tryz.prog 99 #[.pointer (some ⟨B,0,none⟩)] W (RRes B tv toks x W)) :
 Calls Tryz.prog 237 #[.pointer (some ⟨B,0,none⟩)] w (RRes B tv toks (x.then fun e r=>if isSg [41] (hd r) then .ok e r.tail else .bad (hd r).p) w):=by
 have hk:=Zbb hs;have K1:((hd (toks.drop p)).k == 1)=false:=by simp [hk]
 have K2:((hd (toks.drop p)).k == 2)=false:=by simp [hk]
 have K3:((hd (toks.drop p)).k == 3)=false:=by simp [hk]
 have HS:=Zq (fun W hx hT=>Zmh [40] B p toks _ tv W hx hT hE.at.1 hl hs);have HR:=Zq hrec;have HEN:=Zq hx;have HMB:=Zq (fun p' q W h=>Zmm [41] B p' q tv W h);have HMY:=Zq (fun p' t W h hT ht hs=>Zml [41] B p' toks t tv W h hT ht hl hs);have HMN:=Zq (fun p' t W h hT ht hs=>Zmk [41] B p' toks t tv W h hT ht hl hs);unfold strV at HMB HMY HMN;clear hk hs hrec hx;have hpl:=h.cells.2.2.2.2.2;have hb0:=(Yab w.heap.size w).alloc Zs zEx;have HX0:=Zq (h.keep hb0);have HT0:Hid (∀ W,But B w W->TokV (gb B W) tv toks):=Zq (fun W hb=>SlV.mono hT hb.gb);have HK:=Zq (Zmd B p (-1) toks _ tv _ (h.keep hb0) (SlV.mono hT (But.below (pb:=B) hb0).gb) hE.at.1 hl);have HZ:=Zq (Yac w zEx);have HB:=Zq (But.below (pb:=B) hb0);have hsz:w.heap.size<(w.alloc zEx).heap.size:=by simp
 have HTL:=Zq (ZdR toks p);have hpt:=hE.at.2;have i1:(p:Int)<1000:=by omega
 have i0:(0:Int)<=(p:Int):=by omega
 generalize hd (toks.drop p)=t at *;clear h hT hE hb0;unfold tokV strV at *;go_in;go_upto_region 1 with fail;have cX:=HX0.out.cells;generalize w.alloc zEx=W0 at *;obtain ⟨c0,c1,c2,f1,f2,hplW⟩:=cX;go_wp2_with fail;refine HK.out.mono ?_;rintro e W1 ⟨rfl,hb⟩;have HX1:=Zq (HX0.out.keep hb);have HB1:=Zq (HB.out.call hb);have hz1:=(hb.block _ hsz).trans HZ.out;have hsz1:w.heap.size<W1.heap.size:=(Yaa.1 hz1).1;clear hb hsz HX0 HB HZ HK c0 c1 c2 f1 f2 hplW;have HX2:=Zq (HX1.out.alloc (.cells #[.int .i64 t.k,.string ⟨t.s.toArray⟩,.int .i64 t.n,.int .i64 t.p] 114));have HB2:=Zq (HB1.out.alloc (.cells #[.int .i64 t.k,.string ⟨t.s.toArray⟩,.int .i64 t.n,.int .i64 t.p] 114));have HT2:=Zq (HT0.out _ HB2.out);have hz2:=(Yah W1 (.cells #[.int .i64 t.k,.string ⟨t.s.toArray⟩,.int .i64 t.n,.int .i64 t.p] 114) _ hsz1).trans hz1;have ht2:=Yac W1 (.cells #[.int .i64 t.k,.string ⟨t.s.toArray⟩,.int .i64 t.n,.int .i64 t.p] 114);go_upto_region 4 with fail;generalize W1.alloc (.cells #[.int .i64 t.k,.string ⟨t.s.toArray⟩,.int .i64 t.n,.int .i64 t.p] 114)=W2 at *;have hsz2:w.heap.size<W2.heap.size:=(Yaa.1 hz2).1;clear hz1 HX1 HB1;obtain ⟨⟨d0,d1,d2,d3⟩,-⟩:=ZdP ht2;go_wp2_with fail;refine (HS.out _ HX2.out HT2.out).mono ?_;rintro e W3 ⟨rfl,hb,hx⟩;have hz3:=(hb.block _ hsz2 (by omega)).trans hz2;have hsz3:w.heap.size<W3.heap.size:=(Yaa.1 hz3).1;have HB3:=Zq (HB2.out.trans hb);clear hb hz2 ht2 hsz2 HB2 HX2 HT2 d0 d1 d2 d3 HS;go_wp2_with fail;refine (HR.out _ hx (HT0.out _ HB3.out)).mono ?_;clear hx HR;cases x with
 | out=>rintro e W4 ⟨-,h⟩; exact h.elim
 | bad q =>
  rintro e W4 ⟨hb4,⟨v,rfl,o,n,s0,a,l,c,rfl⟩,p',hx4⟩;have hz4:=(hb4.block _ hsz3 (by omega)).trans hz3;have hsz4:w.heap.size<W4.heap.size:=(Yaa.1 hz4).1;have HB4:=Zq (HB3.out.trans hb4);have HBV:=Zq (HB4.out.alloc (cEx o n s0 (.slice a l c)));have HXV:=Zq (hx4.alloc (cEx o n s0 (.slice a l c)));have hzV:=(Yah W4 (cEx o n s0 (.slice a l c)) _ hsz4).trans hz4;have hcV:=Yac W4 (cEx o n s0 (.slice a l c));unfold exV strV;go_upto_region 14 with fail;generalize W4.alloc (cEx o n s0 (.slice a l c))=V at *;have hlV:W4.heap.size<V.heap.size:=(Yaa.1 hcV).1;have hsV:w.heap.size<V.heap.size:=(Yaa.1 hzV).1;clear hz3 hz4 hb4 hx4 HB3 HB4;obtain ⟨⟨c0,c1,c2,c3⟩,-⟩:=ZdP hcV;go_wp2_with fail;refine (HMB.out _ _ _ HXV.out).mono ?_;rintro e V2 ⟨rfl,rfl⟩;obtain ⟨⟨g0,g1,g2,g3⟩,e0,e1,e2,e3⟩:=ZdP hzV;have HZF:=Zq hzV;go_wp2;refine Yaf (v:=exV o n s0 (.slice a l c)) ?_ rfl ?_
  . have hh:=ZdP (ZdM HZF.out (.int .i64 o) (.int .i64 n) (.string ⟨s0.toArray⟩) (.slice a l c));simp [results,Tryz.results237,go_sem,exV,strV,hh.1]
  . exact Zmb HBV.out hpl HXV.out _ _ _ _
 | ok ex r =>
  rintro e W4 ⟨hb4,⟨v,rfl,kv,rfl,hK⟩,p',hd4,hx4⟩;obtain ⟨ka,kc,rfl⟩:=hK.form;have hz4:=(hb4.block _ hsz3 (by omega)).trans hz3;have hsz4:w.heap.size<W4.heap.size:=(Yaa.1 hz4).1;have HB4:=Zq (HB3.out.trans hb4);have hEr:=HEN.out ex r rfl;have hat:toks[p']?=some (hd r):=(by rw [<-hd4] at hEr |-; exact hEr.at.1);have HKV:Hid (KV (gp (fun b=>w.heap.size<b/\b≠W4.heap.size) (W4.alloc (cEx ex.op ex.n ex.s (.slice ka ex.ks.length kc)))) (.slice ka ex.ks.length kc) ex.ks):=Zq (hK.mono (ZdJ fun b hb hl=>⟨⟨by omega,by omega⟩,Yah W4 _ b hl⟩));have HBV:=Zq (HB4.out.alloc (cEx ex.op ex.n ex.s (.slice ka ex.ks.length kc)));have HXV:=Zq (hx4.alloc (cEx ex.op ex.n ex.s (.slice ka ex.ks.length kc)));have hzV:=(Yah W4 (cEx ex.op ex.n ex.s (.slice ka ex.ks.length kc)) _ hsz4).trans hz4;have hcV:=Yac W4 (cEx ex.op ex.n ex.s (.slice ka ex.ks.length kc));unfold exV strV;go_upto_region 14 with fail;generalize W4.alloc (cEx ex.op ex.n ex.s (.slice ka ex.ks.length kc))=V at *;have hlV:W4.heap.size<V.heap.size:=(Yaa.1 hcV).1;have hsV:w.heap.size<V.heap.size:=(Yaa.1 hzV).1;have HD:=Zq hd4;have hTV:=HT0.out _ HBV.out;clear hz3 hz4 hb4 hx4 HB3 HB4 hK hd4 hEr;cases hsg:isSg [41] (hd r) with
  | false =>
   have HXX:Hid ((PR.ok ex r).then (fun e r=>if isSg [41] (hd r) then PR.ok e r.tail else .bad (hd r).p) = .bad (hd r).p):=Zq (by simp only [PR.then]; rw [if_neg (by simp [hsg])]);go_wp2_with fail;refine (HMN.out _ _ _ HXV.out hTV hat hsg).mono ?_;rintro e V2 ⟨rfl,hb5,hx5⟩;have hz5:=(hb5.block _ hsV (by omega)).trans hzV;have hc5:=(hb5.block _ hlV (by omega)).trans hcV;have HB5:=Zq (HBV.out.trans hb5);have HX5:=Zq hx5;obtain ⟨⟨c0,c1,c2,c3⟩,-⟩:=ZdP hc5;clear hb5 hx5 hzV hcV hsg hat hTV;obtain ⟨⟨g0,g1,g2,g3⟩,e0,e1,e2,e3⟩:=ZdP hz5;have HZF:=Zq hz5;go_wp2;refine Yaf (v:=exV ex.op ex.n ex.s (.slice ka ex.ks.length kc)) ?_ rfl ?_
   . have hh:=ZdP (ZdM HZF.out (.int .i64 ex.op) (.int .i64 ex.n) (.string ⟨ex.s.toArray⟩) (.slice ka ex.ks.length kc));simp [results,Tryz.results237,go_sem,exV,strV,hh.1]
   . rw [HXX.out]; exact Zmb HB5.out hpl HX5.out _ _ _ _
  | true =>
   have HXX:Hid ((PR.ok ex r).then (fun e r=>if isSg [41] (hd r) then PR.ok e r.tail else .bad (hd r).p) = .ok ex r.tail):=Zq (by simp only [PR.then]; rw [if_pos hsg]);go_wp2_with fail;refine (HMY.out _ _ _ HXV.out hTV hat hsg).mono ?_;rintro e V2 ⟨rfl,hb5,hx5⟩;have hz5:=(hb5.block _ hsV (by omega)).trans hzV;have hc5:=(hb5.block _ hlV (by omega)).trans hcV;have HB5:=Zq (HBV.out.trans hb5);have HX5:=Zq hx5;have HK5:Hid (KV (gp (fun b=>w.heap.size<b) V2) (.slice ka ex.ks.length kc) ex.ks):=Zq (HKV.out.mono (ZdJ fun b hb hl=>⟨hb.1,hb5.block _ hl (by omega)⟩));have HD5:Hid (toks.drop (p'+1)=r.tail):=Zq (by rw [<-ZdR,HD.out]);obtain ⟨⟨c0,c1,c2,c3⟩,-⟩:=ZdP hc5;clear hb5 hx5 hzV hcV hsg hat hTV;obtain ⟨⟨g0,g1,g2,g3⟩,e0,e1,e2,e3⟩:=ZdP hz5;have HZF:=Zq hz5;go_wp2;refine Yaf (v:=exV ex.op ex.n ex.s (.slice ka ex.ks.length kc)) ?_ rfl ?_
   . have hh:=ZdP (ZdM HZF.out (.int .i64 ex.op) (.int .i64 ex.n) (.string ⟨ex.s.toArray⟩) (.slice ka ex.ks.length kc));simp [results,Tryz.results237,go_sem,exV,strV,hh.1]
   . rw [HXX.out,Ex.eta ex];exact Zma HB5.out hpl HK5.out HX5.out HD5.out _ _ _ _
theorem Zmu (B p:Nat) (toks:List Tok) (tv:Value) (w:World) (s:Bs) (h:XS w B tv p (-1)) (hT:TokV (gb B w) tv toks) (hl:toks.length<=1000) (hpt:p<toks.length) (hs:word s=false):Calls Tryz.prog 242 #[.pointer (some ⟨B,0,none⟩),strV s] w (RRes B tv toks (.ok (.mk 4 0 s []) (toks.drop (p+1))) w):=by
 have hpl:=h.cells.2.2.2.2.2;have i1:(p:Int)<1000:=by omega
 have i0:(0:Int)<=(p:Int):=by omega
 have HX0:=Zq ((h.setI ((p:Int)+1) (p':=p+1) (by omega)).alloc zEx);have HB0:=Zq (((But.refl B w).setPb 1 (.int .i64 ((p:Int)+1))).alloc zEx);have HT0:Hid (∀ W,But B w W->TokV (gb B W) tv toks):=Zq (fun W hb=>SlV.mono hT hb.gb);have hz0:=Yac (w.setCell ⟨B,1,none⟩ (.int .i64 ((p:Int)+1))) zEx;rw [show (w.setCell ⟨B,1,none⟩ (.int .i64 ((p:Int)+1))).heap.size=w.heap.size by simp [World.setCell]] at hz0;have HZ0:=Zq hz0;obtain ⟨-,c1,-,f1,-,-⟩:=h.cells;have a1:=Zdw hpl c1;have hfr:∀ o:Obj,(w.alloc o).frozen? ⟨B,1,none⟩=false:=fun o=>(h.alloc o).cells.2.2.2.1;have n1:¬ w.heap.size=B:=by omega
 have q0:(s == [116,114,117,101])=false:=Zr (fun e=>by subst e; revert hs; decide);have q1:(s == [102,97,108,115,101])=false:=Zr (fun e=>by subst e; revert hs; decide);have q2:(s == [105,102])=false:=Zr (fun e=>by subst e; revert hs; decide);have q3:(s == [108,101,110])=false:=Zr (fun e=>by subst e; revert hs; decide);have q4:(s == [99,97,116])=false:=Zr (fun e=>by subst e; revert hs; decide);have q5:(s == [99,117,116])=false:=Zr (fun e=>by subst e; revert hs; decide);have q6:(s == [117,112])=false:=Zr (fun e=>by subst e; revert hs; decide);have q7:(s == [104,97,115])=false:=Zr (fun e=>by subst e; revert hs; decide);clear h hT hz0 c1 f1 hs;unfold strV at *;go_in;go_upto_region 2 with fail;generalize (w.setCell ⟨B,1,none⟩ (.int .i64 ((p:Int)+1))).alloc zEx=W0 at *;have hsz0:w.heap.size<W0.heap.size:=(Yaa.1 HZ0.out).1;clear a1 hfr;have hz0:=HZ0.out;obtain ⟨⟨g0,g1,g2,g3⟩,e0,e1,e2,e3⟩:=ZdP hz0;have HZF:=Zq hz0;go_wp2;refine Yaf (v:=exV 4 0 s (.slice none 0 0)) ?_ rfl ?_
 . have hh:=ZdP (ZdM HZF.out (.int .i64 4) (.int .i64 0) (.string ⟨s.toArray⟩) (.slice none 0 0));simp [results,Tryz.results242,go_sem,exV,strV,hh.1]
 . exact Zma HB0.out hpl (KV.nil _) HX0.out rfl _ _ _ _
theorem Zmv (B p:Nat) (toks:List Tok) (tv:Value) (w:World) (s:Bs) (h:XS w B tv p (-1)) (hT:TokV (gb B w) tv toks) (hl:toks.length<=1000) (hpt:p<toks.length) (hs:s=wTrue):Calls Tryz.prog 242 #[.pointer (some ⟨B,0,none⟩),strV s] w (RRes B tv toks (.ok (.mk 3 1 [] []) (toks.drop (p+1))) w):=by
 have hpl:=h.cells.2.2.2.2.2;have i1:(p:Int)<1000:=by omega
 have i0:(0:Int)<=(p:Int):=by omega
 have HX0:=Zq ((h.setI ((p:Int)+1) (p':=p+1) (by omega)).alloc zEx);have HB0:=Zq (((But.refl B w).setPb 1 (.int .i64 ((p:Int)+1))).alloc zEx);have HT0:Hid (∀ W,But B w W->TokV (gb B W) tv toks):=Zq (fun W hb=>SlV.mono hT hb.gb);have hz0:=Yac (w.setCell ⟨B,1,none⟩ (.int .i64 ((p:Int)+1))) zEx;rw [show (w.setCell ⟨B,1,none⟩ (.int .i64 ((p:Int)+1))).heap.size=w.heap.size by simp [World.setCell]] at hz0;have HZ0:=Zq hz0;obtain ⟨-,c1,-,f1,-,-⟩:=h.cells;have a1:=Zdw hpl c1;have hfr:∀ o:Obj,(w.alloc o).frozen? ⟨B,1,none⟩=false:=fun o=>(h.alloc o).cells.2.2.2.1;have n1:¬ w.heap.size=B:=by omega
 have q0:(s == [116,114,117,101])=true:=by rw [hs]; decide
 clear h hT hz0 c1 f1 hs;unfold strV at *;go_in;go_upto_region 2 with fail;generalize (w.setCell ⟨B,1,none⟩ (.int .i64 ((p:Int)+1))).alloc zEx=W0 at *;have hsz0:w.heap.size<W0.heap.size:=(Yaa.1 HZ0.out).1;clear a1 hfr;have hz0:=HZ0.out;obtain ⟨⟨g0,g1,g2,g3⟩,e0,e1,e2,e3⟩:=ZdP hz0;have HZF:=Zq hz0;go_wp2;refine Yaf (v:=exV 3 1 [] (.slice none 0 0)) ?_ rfl ?_
 . have hh:=ZdP (ZdM HZF.out (.int .i64 3) (.int .i64 1) (.string ⟨#[]⟩) (.slice none 0 0));simp [results,Tryz.results242,go_sem,exV,strV,hh.1]
 . exact Zma HB0.out hpl (KV.nil _) HX0.out rfl _ _ _ _
theorem Zmw (B p:Nat) (toks:List Tok) (tv:Value) (w:World) (s:Bs) (h:XS w B tv p (-1)) (hT:TokV (gb B w) tv toks) (hl:toks.length<=1000) (hpt:p<toks.length) (hs:s=wFalse):Calls Tryz.prog 242 #[.pointer (some ⟨B,0,none⟩),strV s] w (RRes B tv toks (.ok (.mk 3 0 [] []) (toks.drop (p+1))) w):=by
 have hpl:=h.cells.2.2.2.2.2;have i1:(p:Int)<1000:=by omega
 have i0:(0:Int)<=(p:Int):=by omega
 have HX0:=Zq ((h.setI ((p:Int)+1) (p':=p+1) (by omega)).alloc zEx);have HB0:=Zq (((But.refl B w).setPb 1 (.int .i64 ((p:Int)+1))).alloc zEx);have HT0:Hid (∀ W,But B w W->TokV (gb B W) tv toks):=Zq (fun W hb=>SlV.mono hT hb.gb);have hz0:=Yac (w.setCell ⟨B,1,none⟩ (.int .i64 ((p:Int)+1))) zEx;rw [show (w.setCell ⟨B,1,none⟩ (.int .i64 ((p:Int)+1))).heap.size=w.heap.size by simp [World.setCell]] at hz0;have HZ0:=Zq hz0;obtain ⟨-,c1,-,f1,-,-⟩:=h.cells;have a1:=Zdw hpl c1;have hfr:∀ o:Obj,(w.alloc o).frozen? ⟨B,1,none⟩=false:=fun o=>(h.alloc o).cells.2.2.2.1;have n1:¬ w.heap.size=B:=by omega
 have q0:(s == [116,114,117,101])=false:=Zr (fun e=>by subst e; revert hs; decide);have q1:(s == [102,97,108,115,101])=true:=by rw [hs]; decide
 clear h hT hz0 c1 f1 hs;unfold strV at *;go_in;go_upto_region 2 with fail;generalize (w.setCell ⟨B,1,none⟩ (.int .i64 ((p:Int)+1))).alloc zEx=W0 at *;have hsz0:w.heap.size<W0.heap.size:=(Yaa.1 HZ0.out).1;clear a1 hfr;have hz0:=HZ0.out;obtain ⟨⟨g0,g1,g2,g3⟩,e0,e1,e2,e3⟩:=ZdP hz0;have HZF:=Zq hz0;go_wp2;refine Yaf (v:=exV 3 0 [] (.slice none 0 0)) ?_ rfl ?_
 . have hh:=ZdP (ZdM HZF.out (.int .i64 3) (.int .i64 0) (.string ⟨#[]⟩) (.slice none 0 0));simp [results,Tryz.results242,go_sem,exV,strV,hh.1]
 . exact Zma HB0.out hpl (KV.nil _) HX0.out rfl _ _ _ _
theorem Zmx (B p:Nat) (toks:List Tok) (tv:Value) (w:World) (s:Bs) (h:XS w B tv p (-1)) (hT:TokV (gb B w) tv toks) (hl:toks.length<=1000) (hpt:p<toks.length) (op n:Int) (hs:(s=wIf/\op=18/\n=3)\/(s=wLen/\op=19/\n=1)\/(s=wCat/\op=20/\n=2)\/(s=wCut/\op=21/\n=2)\/(s=wUp/\op=23/\n=1)) (x:PR)
 (hrec:∀ W,XS W B tv (p+1) (-1)->TokV (gb B W) tv toks->Calls Tryz.prog 248 #[.pointer (some ⟨B,0,none⟩),.int .i64 op,.int .i64 n] W (RRes B tv toks x W)):Calls Tryz.prog 242 #[.pointer (some ⟨B,0,none⟩),strV s] w (RRes B tv toks x w):=by
 have hpl:=h.cells.2.2.2.2.2;have i1:(p:Int)<1000:=by omega
 have i0:(0:Int)<=(p:Int):=by omega
 have HX0:=Zq ((h.setI ((p:Int)+1) (p':=p+1) (by omega)).alloc zEx);have HB0:=Zq (((But.refl B w).setPb 1 (.int .i64 ((p:Int)+1))).alloc zEx);have HT0:Hid (∀ W,But B w W->TokV (gb B W) tv toks):=Zq (fun W hb=>SlV.mono hT hb.gb);have hz0:=Yac (w.setCell ⟨B,1,none⟩ (.int .i64 ((p:Int)+1))) zEx;rw [show (w.setCell ⟨B,1,none⟩ (.int .i64 ((p:Int)+1))).heap.size=w.heap.size by simp [World.setCell]] at hz0;have HZ0:=Zq hz0;obtain ⟨-,c1,-,f1,-,-⟩:=h.cells;have a1:=Zdw hpl c1;have hfr:∀ o:Obj,(w.alloc o).frozen? ⟨B,1,none⟩=false:=fun o=>(h.alloc o).cells.2.2.2.1;have n1:¬ w.heap.size=B:=by omega
 rcases hs with ⟨hs,rfl,rfl⟩|⟨hs,rfl,rfl⟩|⟨hs,rfl,rfl⟩|⟨hs,rfl,rfl⟩|⟨hs,rfl,rfl⟩;all_goals
  (first|have q0:(s == [116,114,117,101])=false:=Zr (fun e=>by subst e; revert hs; decide)|have q0:(s == [116,114,117,101])=true:=(by rw [hs]; decide));(first|have q1:(s == [102,97,108,115,101])=false:=Zr (fun e=>by subst e; revert hs; decide)|have q1:(s == [102,97,108,115,101])=true:=(by rw [hs]; decide));(first|have q2:(s == [105,102])=false:=Zr (fun e=>by subst e; revert hs; decide)|have q2:(s == [105,102])=true:=(by rw [hs]; decide));(first|have q3:(s == [108,101,110])=false:=Zr (fun e=>by subst e; revert hs; decide)|have q3:(s == [108,101,110])=true:=(by rw [hs]; decide));(first|have q4:(s == [99,97,116])=false:=Zr (fun e=>by subst e; revert hs; decide)|have q4:(s == [99,97,116])=true:=(by rw [hs]; decide));(first|have q5:(s == [99,117,116])=false:=Zr (fun e=>by subst e; revert hs; decide)|have q5:(s == [99,117,116])=true:=(by rw [hs]; decide));(first|have q6:(s == [117,112])=false:=Zr (fun e=>by subst e; revert hs; decide)|have q6:(s == [117,112])=true:=(by rw [hs]; decide));have HR:=Zq hrec;clear h hT hz0 c1 f1 hs hrec;unfold strV at *;go_in;go_upto_region 2 with fail;generalize (w.setCell ⟨B,1,none⟩ (.int .i64 ((p:Int)+1))).alloc zEx=W0 at *;have hsz0:w.heap.size<W0.heap.size:=(Yaa.1 HZ0.out).1;clear a1 hfr;go_wp2_with fail;refine (HR.out _ HX0.out (HT0.out _ HB0.out)).mono ?_;have hz1:=HZ0.out;have hsz1:=hsz0;clear hsz0 HX0 HR HZ0;generalize W0=W1 at *;cases x with
  | out=>rintro e W2 ⟨-,h⟩; exact h.elim
  | bad q =>
   rintro e W2 ⟨hb2,⟨v,rfl,o,n,s0,a,l,c,rfl⟩,p',hx2⟩;have hz2:=(hb2.block _ hsz1 (by omega)).trans hz1;obtain ⟨⟨c0,c1,c2,c3⟩,f0,f1,f2,f3⟩:=ZdP hz2;have HZ2:=Zq hz2;have HB2:=Zq (HB0.out.trans hb2);have HX2:=Zq hx2;clear hz1 hz2 hb2 hx2;unfold exV strV;go_wp2;refine Yaf (v:=exV o n s0 (.slice a l c)) ?_ rfl ?_
   . have hh:=ZdP (ZdM HZ2.out (.int .i64 o) (.int .i64 n) (.string ⟨s0.toArray⟩) (.slice a l c));simp [results,Tryz.results242,go_sem,exV,strV,hh.1]
   . exact Zmb HB2.out hpl HX2.out _ _ _ _
  | ok ex r =>
   rintro e W2 ⟨hb2,⟨v,rfl,kv,rfl,hK⟩,p',hd2,hx2⟩;obtain ⟨ka,kc,rfl⟩:=hK.form;have hz2:=(hb2.block _ hsz1 (by omega)).trans hz1;obtain ⟨⟨c0,c1,c2,c3⟩,f0,f1,f2,f3⟩:=ZdP hz2;have HZ2:=Zq hz2;have HB2:=Zq (HB0.out.trans hb2);have HX2:=Zq hx2;have HK2:=Zq (KV.mono (h':=gp (fun b=>w.heap.size<b) W2) (ZdJ fun b hb hl=>⟨by omega,rfl⟩) hK);have HD:=Zq hd2;clear hz1 hz2 hb2 hx2 hK hd2;unfold exV strV;go_wp2;refine Yaf (v:=exV ex.op ex.n ex.s (.slice ka ex.ks.length kc)) ?_ rfl ?_
   . have hh:=ZdP (ZdM HZ2.out (.int .i64 ex.op) (.int .i64 ex.n) (.string ⟨ex.s.toArray⟩) (.slice ka ex.ks.length kc));simp [results,Tryz.results242,go_sem,exV,strV,hh.1]
   . rw [Ex.eta ex];exact Zma HB2.out hpl HK2.out HX2.out HD.out _ _ _ _
theorem Zmy (B p:Nat) (toks:List Tok) (tv:Value) (w:World) (s:Bs) (h:XS w B tv p (-1)) (hT:TokV (gb B w) tv toks) (hl:toks.length<=1000) (hpt:p<toks.length) (hs:s=wHas) (t:Tok) (ht:toks[p+1]?=some t) (hsg:isSg [40] t=false):Calls Tryz.prog 242 #[.pointer (some ⟨B,0,none⟩),strV s] w (RRes B tv toks (.bad t.p) w):=by
 have HM:=Zq (fun W h hT=>Zmk [40] B (p+1) toks t tv W h hT ht hl hsg);have hpl:=h.cells.2.2.2.2.2;have i1:(p:Int)<1000:=by omega
 have i0:(0:Int)<=(p:Int):=by omega
 have HX0:=Zq ((h.setI ((p:Int)+1) (p':=p+1) (by omega)).alloc zEx);have HB0:=Zq (((But.refl B w).setPb 1 (.int .i64 ((p:Int)+1))).alloc zEx);have HT0:Hid (∀ W,But B w W->TokV (gb B W) tv toks):=Zq (fun W hb=>SlV.mono hT hb.gb);have hz0:=Yac (w.setCell ⟨B,1,none⟩ (.int .i64 ((p:Int)+1))) zEx;rw [show (w.setCell ⟨B,1,none⟩ (.int .i64 ((p:Int)+1))).heap.size=w.heap.size by simp [World.setCell]] at hz0;have HZ0:=Zq hz0;obtain ⟨-,c1,-,f1,-,-⟩:=h.cells;have a1:=Zdw hpl c1;have hfr:∀ o:Obj,(w.alloc o).frozen? ⟨B,1,none⟩=false:=fun o=>(h.alloc o).cells.2.2.2.1;have n1:¬ w.heap.size=B:=by omega
 have q0:(s == [116,114,117,101])=false:=Zr (fun e=>by subst e; revert hs; decide);have q1:(s == [102,97,108,115,101])=false:=Zr (fun e=>by subst e; revert hs; decide);have q2:(s == [105,102])=false:=Zr (fun e=>by subst e; revert hs; decide);have q3:(s == [108,101,110])=false:=Zr (fun e=>by subst e; revert hs; decide);have q4:(s == [99,97,116])=false:=Zr (fun e=>by subst e; revert hs; decide);have q5:(s == [99,117,116])=false:=Zr (fun e=>by subst e; revert hs; decide);have q6:(s == [117,112])=false:=Zr (fun e=>by subst e; revert hs; decide);have q7:(s == [104,97,115])=true:=by rw [hs]; decide
 clear h hT hz0 c1 f1 hs ht hsg;unfold strV at *;go_in;go_upto_region 2 with fail;generalize (w.setCell ⟨B,1,none⟩ (.int .i64 ((p:Int)+1))).alloc zEx=W0 at *;have hsz0:w.heap.size<W0.heap.size:=(Yaa.1 HZ0.out).1;clear a1 hfr;go_wp2_with fail;refine (HM.out _ HX0.out (HT0.out _ HB0.out)).mono ?_;rintro e W1 ⟨rfl,hb,hx⟩;have hz1:=(hb.block _ hsz0 (by omega)).trans HZ0.out;have HB1:=Zq (HB0.out.trans hb);have HX1:=Zq hx;obtain ⟨c0,c1,c2,f1,f2,-⟩:=hx.cells;have i5:(0:Int)<=(t.p:Int):=by omega
 clear hb hx HZ0 HB0 HX0 HM hsz0;obtain ⟨⟨g0,g1,g2,g3⟩,e0,e1,e2,e3⟩:=ZdP hz1;have HZF:=Zq hz1;go_wp2;refine Yaf (v:=exV 0 0 [] (.slice none 0 0)) ?_ rfl ?_
 . have hh:=ZdP (ZdM HZF.out (.int .i64 0) (.int .i64 0) (.string ⟨#[]⟩) (.slice none 0 0));simp [results,Tryz.results242,go_sem,exV,strV,hh.1]
 . exact Zmb HB1.out hpl HX1.out _ _ _ _
theorem Zmz (B p:Nat) (toks:List Tok) (tv:Value) (w:World) (s:Bs) (h:XS w B tv p (-1)) (hT:TokV (gb B w) tv toks) (hl:toks.length<=1000) (hpt:p<toks.length) (hs:s=wHas) (t0 t:Tok) (ht0:toks[p+1]?=some t0) (hs0:isSg [40] t0=true) (ht:toks[p+1+1]?=some t) (hres:∀ (s:Bs) (w:World),Calls Tryz.prog 98 #[.string ⟨s.toArray⟩] w fun e w'=>e = .returned (.bool (word s))/\Below w.heap.size w w') (x:PR)
 (hc:(t.k≠3/\x = .bad t.p)\/(t.k=3/\word t.s=true/\x = .bad t.p)\/(t.k=3/\word t.s=false/\∃ t3,toks[p+1+1+1]?=some t3/\((isSg [41] t3=false/\x = .bad t3.p)\/(isSg [41] t3=true/\x = .ok (.mk 22 0 [] [.mk 4 0 t.s []]) (toks.drop (p+4)))))) :
 Calls Tryz.prog 242 #[.pointer (some ⟨B,0,none⟩),strV s] w (RRes B tv toks x w):=by
 have HM:=Zq (fun W h hT=>Zml [40] B (p+1) toks t0 tv W h hT ht0 hl hs0);have HK:=Zq (fun W h hT=>Zmd B (p+1+1) (-1) toks t tv W h hT ht hl);have HRS:=Zq (hres t.s);unfold tokV strV at HK;have HC:Hid (_\/_):=Zq hc;have HL:=Zq hl;have j1:(p:Int)+1+1<1000:=by have:=(Yag.1 ht).1; omega
 have HW:=Zq (fun W h hT=>Zmj B (p+1+1) toks t tv W h hT ht hl);have hpl:=h.cells.2.2.2.2.2;have i1:(p:Int)<1000:=by omega
 have i0:(0:Int)<=(p:Int):=by omega
 have HX0:=Zq ((h.setI ((p:Int)+1) (p':=p+1) (by omega)).alloc zEx);have HB0:=Zq (((But.refl B w).setPb 1 (.int .i64 ((p:Int)+1))).alloc zEx);have HT0:Hid (∀ W,But B w W->TokV (gb B W) tv toks):=Zq (fun W hb=>SlV.mono hT hb.gb);have hz0:=Yac (w.setCell ⟨B,1,none⟩ (.int .i64 ((p:Int)+1))) zEx;rw [show (w.setCell ⟨B,1,none⟩ (.int .i64 ((p:Int)+1))).heap.size=w.heap.size by simp [World.setCell]] at hz0;have HZ0:=Zq hz0;obtain ⟨-,c1,-,f1,-,-⟩:=h.cells;have a1:=Zdw hpl c1;have hfr:∀ o:Obj,(w.alloc o).frozen? ⟨B,1,none⟩=false:=fun o=>(h.alloc o).cells.2.2.2.1;have n1:¬ w.heap.size=B:=by omega
 have q0:(s == [116,114,117,101])=false:=Zr (fun e=>by subst e; revert hs; decide);have q1:(s == [102,97,108,115,101])=false:=Zr (fun e=>by subst e; revert hs; decide);have q2:(s == [105,102])=false:=Zr (fun e=>by subst e; revert hs; decide);have q3:(s == [108,101,110])=false:=Zr (fun e=>by subst e; revert hs; decide);have q4:(s == [99,97,116])=false:=Zr (fun e=>by subst e; revert hs; decide);have q5:(s == [99,117,116])=false:=Zr (fun e=>by subst e; revert hs; decide);have q6:(s == [117,112])=false:=Zr (fun e=>by subst e; revert hs; decide);have q7:(s == [104,97,115])=true:=by rw [hs]; decide
 clear h hT hz0 c1 f1 hs ht0 hs0 ht hc hres hl;unfold strV at *;go_in;go_upto_region 2 with fail;generalize (w.setCell ⟨B,1,none⟩ (.int .i64 ((p:Int)+1))).alloc zEx=W0 at *;have hsz0:w.heap.size<W0.heap.size:=(Yaa.1 HZ0.out).1;clear a1 hfr;go_wp2_with fail;refine (HM.out _ HX0.out (HT0.out _ HB0.out)).mono ?_;rintro e W1 ⟨rfl,hb,hx⟩;have hz1:=(hb.block _ hsz0 (by omega)).trans HZ0.out;have hsz1:w.heap.size<W1.heap.size:=(Yaa.1 hz1).1;have HB1:=Zq (HB0.out.trans hb);have HX1:=Zq hx;obtain ⟨c0,c1,c2,f1,f2,-⟩:=hx.cells;clear hb hx HZ0 HB0 HX0 HM hsz0;go_wp2_with fail;refine (HK.out _ HX1.out (HT0.out _ HB1.out)).mono ?_;rintro e W2 ⟨rfl,hb⟩;have hz2:=(hb.block _ hsz1).trans hz1;have hsz2:w.heap.size<W2.heap.size:=(Yaa.1 hz2).1;have HB3:=Zq ((HB1.out.call hb).alloc (.cells #[.int .i64 t.k,.string ⟨t.s.toArray⟩,.int .i64 t.n,.int .i64 t.p] 114));have HX3:=Zq ((HX1.out.keep hb).alloc (.cells #[.int .i64 t.k,.string ⟨t.s.toArray⟩,.int .i64 t.n,.int .i64 t.p] 114));have hz3:=(Yah W2 (.cells #[.int .i64 t.k,.string ⟨t.s.toArray⟩,.int .i64 t.n,.int .i64 t.p] 114) _ hsz2).trans hz2;have ht3:=Yac W2 (.cells #[.int .i64 t.k,.string ⟨t.s.toArray⟩,.int .i64 t.n,.int .i64 t.p] 114);clear hb c0 c1 c2 f1 f2 hz1 hz2 HB1 HX1 HK hsz1;go_upto_region 22 with fail;generalize W2.alloc (.cells #[.int .i64 t.k,.string ⟨t.s.toArray⟩,.int .i64 t.n,.int .i64 t.p] 114)=W3 at *;have hsz3:w.heap.size<W3.heap.size:=(Yaa.1 hz3).1;have hszt:W2.heap.size<W3.heap.size:=(Yaa.1 ht3).1;have hne2:W2.heap.size≠w.heap.size:=by omega
 obtain ⟨⟨d0,d1,d2,d3⟩,-⟩:=ZdP ht3;rcases HC.out with ⟨hk,rfl⟩|⟨hk,hw,rfl⟩|⟨hk,hw,t3,ht3t,h3⟩;case inr.inr =>
  have K3:(t.k != 3)=false:=(by simp [hk]);rw [hw] at HRS;have H3:=Zq h3;have HT3:=Zq ht3t;clear hk hw HC h3 ht3t;go_wp2_with fail;refine (HRS.out _).mono ?_;rintro e W4 ⟨rfl,hb⟩;have hz4:=(hb.block _ hsz3).trans hz3;have ht4:=(hb.block _ hszt).trans ht3;have HB4:=Zq (HB3.out.call hb);have HX4:=Zq (HX3.out.keep hb);clear hb hz3 ht3 hsz3 d0 d1 d2 d3 HB3 HX3 hszt;obtain ⟨c0,c1,c2,f1,f2,-⟩:=HX4.out.cells;have HX5:=Zq (HX4.out.setI ((p:Int)+1+1+1) (p':=p+1+1+1) (by omega));have HB5:=Zq (HB4.out.setPb 1 (.int .i64 ((p:Int)+1+1+1)));have hz5:=(Yat W4 ⟨B,1,none⟩ (.int .i64 ((p:Int)+1+1+1)) w.heap.size (fun e=>n1 e)).trans hz4;have ht5:=(Yat W4 ⟨B,1,none⟩ (.int .i64 ((p:Int)+1+1+1)) W2.heap.size (fun e=>by have e:W2.heap.size=B:=e; omega)).trans ht4;clear hz4 ht4 HX4 HB4;go_upto_region 25 with fail;generalize W4.setCell ⟨B,1,none⟩ (.int .i64 ((p:Int)+1+1+1))=W5 at *;have hsz5:w.heap.size<W5.heap.size:=(Yaa.1 hz5).1;have hszt:W2.heap.size<W5.heap.size:=(Yaa.1 ht5).1;clear c0 c1 c2 f1 f2;rcases H3.out with ⟨hs3,rfl⟩|⟨hs3,rfl⟩
  case' inl=>have HM3:=Zq (fun W h hT=>Zmk [41] B (p+1+1+1) toks t3 tv W h hT HT3.out HL.out hs3)
  case' inr=>have HM3:=Zq (fun W h hT=>Zml [41] B (p+1+1+1) toks t3 tv W h hT HT3.out HL.out hs3)
  all_goals
   clear hs3 H3;go_wp2_with fail;refine (HM3.out _ HX5.out (HT0.out _ HB5.out)).mono ?_;rintro e W6 ⟨rfl,hb,hx⟩;have hz6:=(hb.block _ hsz5 (by omega)).trans hz5;have ht6:=(hb.block _ hszt (by omega)).trans ht5;have HB6:=Zq (HB5.out.trans hb);have HX6:=Zq hx;have HS6:=Zq (Yaa.1 hz6).1;obtain ⟨⟨d0,d1,d2,d3⟩,-⟩:=ZdP ht6;obtain ⟨⟨g0,g1,g2,g3⟩,e0,e1,e2,e3⟩:=ZdQ hz6;have HZ7:=Zq ((Yah W6 (cEx 4 0 t.s (.slice none 0 0)) _ HS6.out).trans hz6);clear hb hx hz5 ht5 hz6 ht6 hsz5 hszt hsz2;go_wp2;refine Yaf (v:=exV 22 0 [] (.slice (some ⟨W6.heap.size,0,none⟩) 1 1)) ?_ rfl ?_
   . have hh:=ZdP (ZdM HZ7.out (.int .i64 22) (.int .i64 0) (.string ⟨#[]⟩) (.slice (some ⟨W6.heap.size,0,none⟩) 1 1));simp [results,Tryz.results242,go_sem,exV,strV,hh.1]
   . first
     | exact Zmb (HB6.out.alloc _) hpl (HX6.out.alloc _) _ _ _ _
     | (· refine Zma (HB6.out.alloc _) hpl (KV.one (b:=W6.heap.size) (a := .mk 4 0 t.s []) (u := .slice none 0 0) (T:=83) ?_ (KV.nil _)) (HX6.out.alloc _) rfl _ _ _ _; unfold gp; rw [if_pos (by have:=HS6.out; omega)]; exact Yac W6 _)
 case' inl =>have K3:(t.k != 3)=true:=Yao.2 hk;clear hk HC;have HB4:=HB3;have HX4:=HX3;have hz4:=hz3;have hsz4:=hsz3
 case' inr.inl =>have K3:(t.k != 3)=false:=(by simp [hk]);rw [hw] at HRS;clear hk hw HC;go_wp2_with fail;refine (HRS.out _).mono ?_;rintro e W4 ⟨rfl,hb⟩;have hz4:=(hb.block _ hsz3).trans hz3;have hsz4:w.heap.size<W4.heap.size:=(Yaa.1 hz4).1;have HB4:=Zq (HB3.out.call hb);have HX4:=Zq (HX3.out.keep hb);clear hb hz3 ht3 hsz3 d0 d1 d2 d3 HB3 HX3 hszt
 all_goals
  go_wp2_with fail;refine (HW.out _ HX4.out (HT0.out _ HB4.out)).mono ?_;rintro e W5 ⟨rfl,hb,hx⟩;have hz5:=(hb.block _ hsz4 (by omega)).trans hz4;have HB5:=Zq (HB4.out.trans hb);have HX5:=Zq hx;clear hb hx;unfold exV strV;obtain ⟨⟨g0,g1,g2,g3⟩,e0,e1,e2,e3⟩:=ZdP hz5;have HZF:=Zq hz5;go_wp2;refine Yaf (v:=exV 0 0 [] (.slice none 0 0)) ?_ rfl ?_
  . have hh:=ZdP (ZdM HZF.out (.int .i64 0) (.int .i64 0) (.string ⟨#[]⟩) (.slice none 0 0));simp [results,Tryz.results242,go_sem,exV,strV,hh.1]
  . exact Zmb HB5.out hpl HX5.out _ _ _ _
end Go.Proofs.YtikannmgllejfaaGreatDoor
