/- The walk of palaverlaw12. -/
import Derived.Test.YtikannmgllejfaaGreatDoorKYC
import Derived.Test.YtikannmgllejfaaGreatDoorKYK
import Derived.BigRegion
set_option maxHeartbeats 16000000
set_option maxRecDepth 1000000
set_option linter.all false
namespace Go.Proofs.YtikannmgllejfaaGreatDoor
open Go.RowKit Pal
theorem ZsJ {ρ σ:Bs->Val} (e:Ex):Good e->(∀ s,Occ e s->ρ s=σ s)->ev ρ e=ev σ e:=by
 refine Ex.ind (P:=fun e=>Good e->(∀ s,Occ e s->ρ s=σ s)->ev ρ e=ev σ e) ?_ e;intro op n s ks ih hG h;cases hG with
 | mk _ _ _ _ ha hn hk =>
 have hl:∀ l:List Ex,(∀ k∈l,k∈ks)->evL ρ l=evL σ l:=by
  intro l;induction l with
  | nil=>intro _; rw [Zev,Zev]
  | cons a t iht =>intro hm;rw [Zew,Zew,iht (fun x hx=>hm x (by simp [hx])),ih a (hm a (by simp)) (hk a (hm a (by simp))) (fun x hx=>h x (.kid _ _ _ _ a x (hm a (by simp)) hx))]
 rw [Zeu,Zeu,hl ks (fun _ h=>h)];generalize (evL σ ks).getD 0 vNil=a;generalize (evL σ ks).getD 1 vNil=b;generalize (evL σ ks).getD 2 vNil=c;unfold evOp;by_cases h4:op=4
 . subst h4;simp only [show ¬ ((4:Int)=1) by omega,show ¬ ((4:Int)=2) by omega,show ¬ ((4:Int)=3) by omega,if_false,if_true];exact h s (.here _ _ _)
 . by_cases h22:op=22
   . subst h22;have hkid:ρ (kidS ks)=σ (kidS ks):=by
      have hlen:=Zd6 ha;have e1:arity 22=1:=(by decide);rw [e1] at hlen;obtain ⟨x,rfl⟩:∃ x,ks=[x]:=by
       match ks,(by omega:ks.length=1) with|[x],_=>exact ⟨x,rfl⟩
      unfold alone at ha;simp [kidOp] at ha;obtain ⟨op',n',s',ks'⟩:=x;have ho:op'=4:=ha.2.2.2;subst ho;exact h s' (.kid _ _ _ _ (.mk 4 n' s' ks') s' (by simp) (.here _ _ _))
     rw [hkid];simp
   . rw [if_neg h4,if_neg h4,if_neg h22,if_neg h22]
theorem ZsK:∀ (names:List Bs) (vals xs:List Val) (s:Bs),(∀ j:Nat,names[j]?=some s->vals[j]?=xs[j]?)->look names vals s=look names xs s:=by
 intro names;induction names with
 | nil=>intro vals xs s _; rfl
 | cons m ms ih =>
  intro vals xs s h;unfold look;by_cases hm:m=s
  . rw [if_pos hm,if_pos hm];have h0:=h 0 (by simp [hm]);cases vals<;>cases xs<;>simp at h0<;>simp [h0]
  . rw [if_neg hm,if_neg hm];refine ih vals.tail xs.tail s (fun j hj=>?_);have:=h (j+1) (by simpa using hj);simpa [List.getElem?_tail] using this
theorem ZsL {e:Ex} {names:List Bs} {vals xs:List Val} (hF:Fine e) (h:∀ (j:Nat) (s:Bs),names[j]?=some s->Occ e s->vals[j]?=xs[j]?):evalM e names vals=evalM e names xs:=by
 unfold evalM;split
 . rename_i hc;exact ZsJ e (Zel hF hc) (fun s hs=>ZsK names vals xs s (fun j hj=>h j s hj hs))
 . rfl
def markIn (i:Nat):List Int->List Bool->List Bool
 | [],I=>I
 | d::r,I=>markIn i r (I.set i (I.getD i false || I.getD d.toNat false))
def marksM (F:Form):List Int->List Bool->List Bool
 | [],I=>I
 | i::r,I=>marksM F r (markIn i.toNat (F.needs.getD i.toNat []) I)
theorem ZsM (i:Nat):∀ (ds:List Int) (I:List Bool),(markIn i ds I).length=I.length
 | [],_=>rfl
 | d::r,I=>by rw [markIn,ZsM i r,List.length_set]
theorem ZsN {i j:Nat} (h:i≠j):∀ (ds:List Int) (I:List Bool),(markIn i ds I)[j]?=I[j]?
 | [],_=>rfl
 | d::r,I=>by rw [markIn,ZsN h r,List.getElem?_set_ne h]
theorem ZsP {i:Nat}:∀ (ds:List Int) (I:List Bool),i<I.length->(markIn i ds I)[i]?=some false->I[i]?=some false/\∀ d∈ds,I.getD d.toNat false=false
 | [],I,_,h=>⟨h,fun d hd=>by cases hd⟩
 | d::r,I,hi,h=>by
  obtain ⟨h1,h2⟩:=ZsP r _ (by rw [List.length_set]; exact hi) h
  rw [List.getElem?_set_self hi] at h1
  have h1:(I.getD i false || I.getD d.toNat false)=false:=by simpa using h1
  rw [Bool.or_eq_false_iff] at h1
  have hii:I[i]?=some false:=by rw [Yad hi]; have:=h1.1; simp only [Yau,Yad hi,Option.getD_some] at this; rw [this]
  refine ⟨hii,fun x hx=>?_⟩
  rcases Ybc.1 hx with rfl|hx
  . exact h1.2
  . have h3:=h2 x hx
    by_cases hxi:x.toNat=i
    . rw [hxi]; exact h1.1
    . rw [Yau,List.getElem?_set_ne (Ne.symm hxi)] at h3
      rw [Yau]; exact h3
def Alike (n:Nat) (I:List Bool) (X Y:List Val):Prop:=∀ j,j<n->I[j]?=some false->X[j]?=Y[j]?
theorem ZsQ {l:List Fd} {F:Form} (hm:newM l = .ok F) {X Y:List Val} {i:Nat} (h:∀ d∈F.needs.getD i [],X[d.toNat]?=Y[d.toNat]?):workM F X i=workM F Y i:=by
 unfold workM;cases he:exM F 0 i with
 | none=>rfl
 | some e =>
  have hfe:=ZrA hm 0 i e he;by_cases hc:¬ check e=true
  . show evalM e _ X=evalM e _ Y;unfold evalM; rw [if_neg hc,if_neg hc]
  have hc:check e=true:=(by simpa using hc);refine ZsL hfe (fun j s hj hs=>?_);obtain ⟨-,-,-,h3,h4,-,-⟩:=Zjn hm;unfold exM at he;cases hx:F.es[i]? with
  | none=>rw [hx] at he; cases he
  | some x =>rw [hx] at he;simp only [if_true] at he;have hmem:(j:Int)∈F.needs.getD i []:=(by rw [h4,Yau,Yax,hx];simp only [Option.map_some,Option.getD_some];unfold needM;rw [he];rw [h3] at hj;exact Zgf.2 ⟨j,rfl,(Yag.1 hj).1,by rw [Yau,hj]; exact ZfB e (Zel hfe hc) s hs⟩);have:=h _ hmem;rwa [Int.toNat_natCast] at this
theorem ZsR {l:List Fd} {F:Form} (hm:newM l = .ok F) {n:Nat}:∀ (o:List Int) (X Y:List Val) (I:List Bool),X.length=n->Y.length=n->I.length=n->(∀ x∈o,0<=x/\x<(n:Int))->(∀ x∈o,∀ d∈F.needs.getD x.toNat [],0<=d/\d<(n:Int))->Alike n I X Y->Alike n (marksM F o I) (stepsM F o X) (stepsM F o Y)
 | [],_,_,_,_,_,_,_,_,h=>h
 | x::r,X,Y,I,hX,hY,hI,ho,hd,h=>by
  have hx:=ho x (List.mem_cons_self)
  refine ZsR hm r _ _ _ (by rw [List.length_set]; exact hX) (by rw [List.length_set]; exact hY) (by rw [ZsM]; exact hI) (fun y hy=>ho y (List.mem_cons_of_mem _ hy)) (fun y hy=>hd y (List.mem_cons_of_mem _ hy)) ?_
  intro j hj hf
  by_cases hji:x.toNat=j
  . subst hji
    obtain ⟨-,h2⟩:=ZsP _ _ (by rw [hI]; exact hj) hf
    rw [List.getElem?_set_self (by rw [hX]; exact hj),List.getElem?_set_self (by rw [hY]; exact hj),ZsQ hm (fun d hdd=>?_)]
    have hb:=hd x (List.mem_cons_self) d hdd
    refine h d.toNat (by omega) ?_
    have:=h2 d hdd
    rw [Yad (by rw [hI]; omega)]
    rw [Yau,Yad (by rw [hI]; omega),Option.getD_some] at this
    rw [this]
  . rw [ZsN hji] at hf
    rw [List.getElem?_set_ne hji,List.getElem?_set_ne hji]
    exact h j hj hf
attribute [local go_sem ↓] Go.wp_at_zero Go.wp_at_succ
theorem ZsS (N:Nat) (hN:N<=1000) (w:World):(Instr.makeSlice 34 (.int .i64 (N:Int)) (.int .i64 (N:Int))).run Tryz.prog w = .ok (.slice (some ⟨w.heap.size,0,none⟩) N N) (w.alloc (.cells (madeCells #[.bool false] N) 4)):=by obtain ⟨i0,hi,hz0,hz1,hz2⟩:=ZiF;have:=run_make (P:=Tryz.prog) w 34 4 i0 _ Tryz.underlying34 hi hz0 .i64 .i64 N N (by omega) (Int.le_refl _) (by rw [hz2]; omega) (by omega);rw [this,hz1];simp;rfl
theorem ZsT (N:Nat) (w:World) (hN:N<=1000):OwnB w.heap.size (w.alloc (.cells (madeCells #[.bool false] N) 4)) (.slice (some ⟨w.heap.size,0,none⟩) N N) (List.replicate N false):=by refine ⟨by simp,.inr ⟨w.heap.size,N,_,by simp,Nat.le_refl _,Yac _ _,by simp,by unfold maxLen; omega,by simp [size_madeCells],?_⟩⟩;rw [toList_madeCells_one];simp
section
variable {n0 : Nat} {W W' : World} {v : Value}
theorem OwnB.put {l:List Bool} {g n cap:Nat} (h:OwnB n0 W (.slice (some ⟨g,0,none⟩) n cap) l) {i:Nat} (hi:i<l.length) (y:Bool) :
 OwnB n0 (W.setCell ⟨g,i,none⟩ (.bool y)) (.slice (some ⟨g,0,none⟩) n cap) (l.set i y):=by
 obtain ⟨hl,hh⟩:=h;refine ⟨by simp,?_⟩;rcases hh with ⟨h0,-⟩|⟨g',cap',cur,hv,hge,hg,h1,h2,h3,h4⟩
 . cases h0
 . simp only [Yaq,Yai,Ybd,and_true,true_and] at hv;obtain ⟨rfl,hn,rfl⟩:=hv;refine .inr ⟨g,cap,cur.setIfInBounds i (.bool y),by simp [hn],hge,?_,by simpa using h1,h2,by simpa using h3,?_⟩
   . simp [World.setCell,Yap,hg]
   . rw [List.length_set,List.map_set,<-h4];simp [List.take_set]
theorem OwnB.spot {l:List Bool} {g n cap:Nat} (h:OwnB n0 W (.slice (some ⟨g,0,none⟩) n cap) l) {i:Nat} (hi:i<l.length):(∃ x,W.cell? ⟨g,i,none⟩=some x)/\W.frozen? ⟨g,i,none⟩=false/\g<W.heap.size/\n0<=g:=by
 obtain ⟨hl,hh⟩:=h;rcases hh with ⟨h0,-⟩|⟨g',cap',cur,hv,hge,hg,h1,h2,h3,h4⟩
 . cases h0
 . simp only [Yaq,Yai,Ybd,and_true,true_and] at hv;obtain ⟨rfl,hn,rfl⟩:=hv;have a0:i<cur.size:=(by omega);refine ⟨⟨cur[i],?_⟩,?_,(Yaa.1 hg).1,hge⟩<;>simp [World.cell?,World.frozen?,hg,a0]
theorem OwnI.form {l:List Int} (h:OwnI n0 W v l):∃ a cap,v = .slice a l.length cap:=by
 rcases h.2 with ⟨hv,h0⟩|⟨g,cap,cur,hv,-⟩
 . exact ⟨none,0,by rw [hv,h0]⟩
 . exact ⟨_,cap,hv⟩
theorem OwnI.few {l:List Int} (h:OwnI n0 W v l):l.length<=9223372036854775807:=by
 rcases h.2 with ⟨hv,h0⟩|⟨g,cap,cur,hv,hge,hg,h1,h2,-⟩
 . omega
 . unfold maxLen at h2; omega
theorem OwnI.at {l:List Int} {a:Option Addr} {n cap:Nat} (h:OwnI n0 W (.slice a n cap) l) {j:Nat} {x:Int} (hj:l[j]?=some x):∃ b,a=some ⟨b,0,none⟩/\W.cell? ⟨b,j,none⟩=some (.int .i64 x):=by
 have hlt:=(Yag.1 hj).1;rcases h.2 with ⟨hv,h0⟩|⟨g,c,cur,hv,hge,hg,h1,h2,h3,h4⟩
 . omega
 . simp only [Yaq] at hv;obtain ⟨rfl,rfl,rfl⟩:=hv;refine ⟨g,rfl,?_⟩;have hx:(l.map (Value.int .i64))[j]?=some (.int .i64 x):=(by rw [Yax,hj]; rfl);rw [<-h4,List.getElem?_take,if_pos (by omega)] at hx;rw [cell_of_row W g j cur _ (0,0) hg];simpa using hx
end
theorem ZsU {b:Nat} {F:Form} (i:Nat) (nd:List Int) (w:World) (s:SchV (gh w) b F) (hi:i<F.l.length) (hl:F.l.length<=24) (hn:F.needs[i]?=some nd):Calls Tryz.prog 21 #[.pointer (some ⟨b,0,none⟩),.int .i64 i] w fun r W=>∃ v,r = .returned v/\OwnI w.heap.size W v nd/\Below w.heap.size w W:=by
 obtain ⟨g,cap,mb,ov,xs,nds,p⟩:=s;obtain ⟨b0,b1,b2⟩:=ZjW (h:=gh w) p;obtain ⟨f,hf⟩:∃ f,F.l[i]?=some f:=⟨_,Yad hi⟩;obtain ⟨v,hv⟩:∃ v,nds[i]?=some v:=⟨_,Yad (by rw [p.nlen]; exact hi)⟩;have h20:=ZjX p hf (Zi8 _ _ _ _ _);have hxd:nds.getD i nilS=v:=by simp [List.getD,hv]
 rw [hxd] at h20;have hiv:=p.needs i v nd hv hn;obtain ⟨oa,oc,rfl,hol⟩:=Zd0 hiv;have HLI:=Zq (ZjT (gh w) (.slice oa nd.length oc) nd w (GH.le.refl _) hiv);have q1:¬ (i:Int)<0:=by omega
 have q2:¬ (F.l.length:Int)<=(i:Int):=by omega
 have q3:¬ F.l.length<=i:=by omega
 have q4:(i:Int)<(F.l.length:Int):=by omega
 have q5:(0:Int)<=(i:Int):=by omega
 unfold OwnI;clear p hf hv hxd hiv hn;generalize F.l.length=n at *;go_in;go_wp2_with fail;refine HLI.out.mono ?_;rintro r W ⟨v,rfl,h1,h2⟩;go_wp2;try rw [Yae]
 go_ret;exact ⟨_,rfl,h1,h2⟩
theorem ZsV {W:World} {B g i0 i1 i2:Nat} (hb:B≠g) (y0 y1 y2:Value):(((W.setCell ⟨g,i0,none⟩ y0).setCell ⟨g,i1,none⟩ y1).setCell ⟨g,i2,none⟩ y2).heap[B]?=W.heap[B]?:=by rw [Yat _ _ _ _ (fun e=>hb e),Yat _ _ _ _ (fun e=>hb e),Yat _ _ _ _ (fun e=>hb e)]
structure Mk (W:World) (m g N:Nat) (vo:Value) (o:List Int) (I:List Bool) (wr:World):Prop where
 below:Below W.heap.size W wr
 row:OwnB W.heap.size wr (.slice (some ⟨g,0,none⟩) N N) I
 ord:OwnI m wr vo o
 lt:g<m
 ge:W.heap.size<=g
 len:I.length=N
 big:m<=wr.heap.size
section
variable {W wr wr' : World} {m g N : Nat} {vo : Value} {o : List Int} {I : List Bool}
theorem Mk.call (h:Mk W m g N vo o I wr) (hb:Below wr.heap.size wr wr'):Mk W m g N vo o I wr' :=
 ⟨h.below.seq hb,h.row.keep hb,h.ord.keep hb,h.lt,h.ge,h.len,Nat.le_trans h.big hb.size⟩
theorem Mk.put (h:Mk W m g N vo o I wr) {i:Nat} (hi:i<N) (y:Bool):Mk W m g N vo o (I.set i y) (wr.setCell ⟨g,i,none⟩ (.bool y)) :=
 ⟨h.below.setCell (p:=⟨g,i,none⟩) h.ge _,h.row.put (by rw [h.len]; exact hi) y,ZsC h.ord h.lt,h.lt,h.ge,by rw [List.length_set]; exact h.len,by have:=h.big; simpa [World.setCell] using this⟩
end
theorem ZsW {x:Val} {t:Int} (h:fitsV x t=true) (hn:I64 x.n):VOk x:=by unfold fitsV at h;rw [Bool.and_eq_true] at h;exact .of h.1 hn
theorem ZsX {ns:List Bs} {x:X3} {d:Int} (h:d∈needM ns x):0<=d/\d<ns.length:=by
 unfold needM at h;cases hx:x.1 with
 | none=>rw [hx] at h; cases h
 | some e =>rw [hx] at h;obtain ⟨j,rfl,hj,_⟩:=Zgf.1 h;omega
theorem ZsY {l:List Fd} {F:Form} (hm:newM l = .ok F) {i:Nat} {nd:List Int} (h:F.needs[i]?=some nd):∀ d∈nd,0<=d/\d<(F.l.length:Int):=by obtain ⟨-,-,-,h3,h4,-⟩:=Zjn hm;intro d hd;rw [h4,Yax] at h;obtain ⟨x,-,rfl⟩:=Option.map_eq_some_iff.1 h;have:=ZsX hd;rw [show (Fd.names l).length=l.length by simp [Fd.names]] at this;rw [h3]; exact this
attribute [local go_sem ↓] Go.wp_at_zero Go.wp_at_succ
theorem apart_walk (l:List Fd) (v:Value) (n:Int) (vals:List Val) (vv:Value) (at0:Int) (x:Val) (w:World) (hL:Lay2 w) (hF:FdsV (gh w) v l/\l.length<=9223372036854775807) (h0:∀ f∈l,Fd0 f) (hn : -9223372036854775808<=n/\n<=9223372036854775807)
 (hA:ValsV (gh w) vv vals) (hAs:∀ v∈vals,I64 v.k/\I64 v.n/\v.s.length<=9223372036854775807) (hAn:NilV vv) (hat : -9223372036854775808<=at0/\at0<=9223372036854775807) (hx:I64 x.k/\I64 x.n/\x.s.length<=9223372036854775807) :
 Calls Tryz.prog 5 #[v,.int .i64 n,vv,.int .i64 at0,.agg #[.int .i64 x.k,.int .i64 x.n,strV x.s]] w (yesPost w):=by
 obtain ⟨hF,hlen⟩:=hF;have K0:=Zq ((Kept.start w).new (.cells #[.int .i64 x.k,.int .i64 x.n,.string ⟨x.s.toArray⟩] 48));have HPK:=Zq (fun W (hb:Below w.heap.size w W)=>Zsg l v n W (hF.mono (Zah hb)) hlen h0 hn);obtain ⟨va,vc,rfl⟩:=hF.form;have HL:=Zq (fun W (hb:Below w.heap.size w W)=>hL.lay.below hb);have HA:=Zq (fun W (hb:Below w.heap.size w W)=>hA.mono (Zah hb));have HAS:Hid (∀ x∈vals,I64 x.n/\x.s.length<=9223372036854775807):=Zq (fun x hx=>(hAs x hx).2);have HAW:=Zq (fun W (hb:Below w.heap.size w W)=>Zsy W (HL.out W hb));have HAT:=Zq hat;have HFT:=Zq (fun t W=>ZqB x t W hx.2.2);have HXO:Hid (∀ t,fitsV x t=true->VOk x):=Zq (fun t h=>ZsW h hx.2.1);obtain ⟨xa,xc,rfl,-⟩:=hA.form;unfold pickPost at HPK;unfold yesPost at HAW |-;unfold strV;generalize l.length=ll at *;obtain ⟨m,hm⟩:∃ m,vals.length=m:=⟨_,rfl⟩;rw [hm] at HA |-;clear hL hF hlen h0 hn hA hAs hAn hm hat hx;go_in;go_upto_region 1 with fail;generalize w.alloc (.cells #[.int .i64 x.k,.int .i64 x.n,.string ⟨x.s.toArray⟩] 48)=W0 at *;go_wp2_with fail;refine (HPK.out W0 K0.out.below).mono ?_;rintro r W1 ⟨hb1,v1,l1,F,rfl,hf1,hl1,hs1,hm1⟩;have K1:=Zq (K0.out.call hb1);have HBO:=Zq (Zsd l1 F v1 W1 (HL.out W1 K1.out.below) hf1 hl1 hs1 hm1);obtain ⟨fa,fc,rfl⟩:=hf1.form;have HP:=Zq (ZrD hm1);have HOL:=Zq (Zsu hm1);have HM:=Zq hm1;unfold bothPost at HBO;generalize l1.length=k1 at *;clear hb1 hf1 hl1 hs1 hm1 HPK K0;go_wp2_with fail;refine HBO.out.mono ?_;rintro r W2 ⟨hb2,b,b2,rfl,hs2,hr2⟩;have K2:=Zq (K1.out.call hb2);obtain ⟨N,hN⟩:∃ N,F.l.length=N:=⟨_,rfl⟩;have h1:=HP.out.one;have h24:=HP.out.most;rw [hN] at h1 h24;have HN:=Zq hN;obtain ⟨k,hk⟩:∃ k:Nat,at0 % (N:Int)=(k:Int):=⟨(at0 % (N:Int)).toNat,by have:=Int.emod_nonneg at0 (show (N:Int)≠0 by omega); omega⟩;have hkn:k<N:=by have:=Int.emod_lt_of_pos at0 (show (0:Int)<N by omega); omega
 have HPL:=Zq (ZqL at0 N W2 HAT.out (by omega) (by omega));rw [hk] at HPL;have HS:=Zq (fun W (hb:Below W2.heap.size W2 W)=>hs2.mono (Zah hb));have HR:=Zq (fun W (hb:Below W2.heap.size W2 W)=>hr2.mono (Zah hb));have HY:=Zq (fun W (hb:Below W2.heap.size W2 W)=>HL.out W (K2.out.below.seq hb));have HAX:=Zq (fun W (hb:Below W2.heap.size W2 W)=>HAW.out W (K2.out.below.seq hb));have HWW:=Zq (fun W (hb:Below W2.heap.size W2 W)=>K2.out.below.seq hb);have HXB:=Zq (fun W (hb:Below W2.heap.size W2 W)=>ZeG ((hb.block _ K2.out.lt).trans K2.out.at0));have HFI:=Zq (fun W (hb:Below W2.heap.size W2 W)=>Zso W (HR.out W hb) HP.out vals _ false (HA.out W (K2.out.below.seq hb)) HAS.out);unfold filledPost at HFI;have HFF:=Zq (ZrS (F:=F) (vals:=vals) (fun x hx=>(HAS.out x hx).1));have HFL:Hid ((filledM F vals).length=N):=Zq ((ZrQ F vals).trans hN);generalize filledM F vals=c0 at *;clear hb2 hs2 hr2 HBO K1 HL HAW hk HAT HA HAS;obtain ⟨lv,ev,hv,nv0,ov,xs,nds,p⟩:=HR.out W2 (Yab _ _);obtain ⟨la,lc,rfl⟩:=p.rb.fds.form;have hbox:W2.heap[b2]?=_:=p.box;have c0':W2.cell? ⟨b2,0,none⟩=some (.slice la F.l.length lc):=by simp [World.cell?,hbox]
 have c4:W2.cell? ⟨b2,4,none⟩=some (hv 0):=by simp [World.cell?,hbox]
 have hff:=p.rb.fds;rw [hN] at c0' hff;obtain ⟨f,hf⟩:∃ f,F.l[k]?=some f:=⟨_,Yad (by rw [hN]; exact hkn)⟩;obtain ⟨y,hy⟩:∃ x,xs[k]?=some x:=⟨_,Yad (by rw [p.xlen,hN]; exact hkn)⟩;obtain ⟨hb,ho,hc,hh1,hh2⟩:=Zru p hy (k:=0) (by decide);have hhf:hasF F.es (k:Int)=(prj 0 y).isSome:=Zr6 p.es hy;obtain ⟨z,hz⟩:∃ z,(prj 0 y).isSome=z:=⟨_,rfl⟩;rw [hz] at hh2 hhf;rw [hh1,hN] at c4;obtain ⟨fb,fo,rfl,-,f1,-,-,-⟩:=hff.at hf;obtain ⟨ty,hty⟩:∃ t,f.t=t:=⟨_,rfl⟩;rw [hty] at f1;have HHF:=Zq hhf;have hj1:(k:Int)<N:=by omega
 have hj0:(0:Int)<=(k:Int):=by omega
 obtain ⟨⟨x0,x1,x2⟩,-⟩:=HXB.out W2 (Yab _ _);clear p hbox hff hy hz hh1 hhf hf hty hN;go_wp2_with fail;refine HPL.out.mono ?_;rintro r W' ⟨rfl,rfl⟩;clear HPL;cases z with
 | true =>go_upto_region 5 with fail;go_quiet (fail);go_wp2_with fail;refine (HAX.out _ (Pal.Ybb (Yab _ _) _)).mono ?_;rintro r W3 ⟨rfl,hb3⟩;have HB3:=Zq (HWW.out _ ((Pal.Ybb (Yab W2.heap.size W2) _).seq hb3));clear hb3;go_wp2;(try rw [Yae]);go_ret;exact ⟨rfl,HB3.out⟩
 | false =>
  go_upto_region 5 with fail;have HBD:=Zq (Yab W2.heap.size W2).drew;have HFT5:=Zq (HFT.out ty);have HXT:Hid (fitsV x ty=true->VOk x):=Zq (HXO.out ty);clear HFT HXO;generalize fitsV x ty=ft at *;go_region_held3 (fun w'=>(w'.cell? ⟨b2,0,none⟩=some (.slice (some ⟨fb,fo,none⟩) N lc)/\w'.cell? ⟨fb,fo+k*5+1,none⟩=some (.int .i64 ty)/\w'.cell? ⟨w.heap.size,0,none⟩=some (.int .i64 x.k)/\w'.cell? ⟨w.heap.size,1,none⟩=some (.int .i64 x.n)/\w'.cell? ⟨w.heap.size,2,none⟩=some (.string ⟨x.s.toArray⟩)/\w'.cell? ⟨b2,4,none⟩=some (.slice (some ⟨hb,ho,none⟩) N hc)/\w'.cell? ⟨hb,ho+k,none⟩=some (.bool false))) (go_keep)
   ((first
    | (go_at_call 19; refine (HFT5.out _).mono ?_; rintro r W3 ⟨rfl,hb3⟩; have HB3:=Zq (HBD.out.seq hb3); have d0:=Zsm hb3 c0'; have d1:=Zsm hb3 f1; have d2:=Zsm hb3 x0; have d3:=Zsm hb3 x1; have d4:=Zsm hb3 x2; have d5:=Zsm hb3 c4; have d6:=Zsm hb3 hh2; clear hb3)))
  clear c0' f1 x0 x1 x2 c4 hh2 HBD HFT5 d0 d1 d2 d3 d4 d5 d6;cases ft with
  | false =>go_wp2_with fail;refine (HAX.out _ HB3.out).mono ?_;rintro r W4 ⟨rfl,hb4⟩;have HB4:=Zq (HWW.out _ (HB3.out.seq hb4));clear hb4;go_wp2;(try rw [Yae]);go_ret;exact ⟨rfl,HB4.out⟩
  | true =>
   have HXK:=Zq (HXT.out rfl);clear HXT;go_wp2_with fail;refine (HFI.out W3 HB3.out).mono ?_;rintro r W4 ⟨hb4,vv4,nv4,rfl,hov4,hoi4⟩;have hv4:=hov4.toV;have hi4:=hoi4.toV (by rw [List.length_replicate,HN.out]; omega);have hnil:NilV vv4:=(by obtain ⟨g,c,hv,-⟩:=hov4.spot (i:=0) (by rw [HFL.out]; omega);intro q q2 he;rw [hv] at he; cases he);have HB4:=Zq (HB3.out.seq hb4);have KA:=Zq ((Kept.start W4).new (.cells #[vv4,nv4,.bool false] 32));have HV5:=Zq (hv4.mono (Zah KA.out.below));have HI5:=Zq (hi4.mono (Zah KA.out.below));have HNL:=Zq hnil;obtain ⟨ga,gc,rfl,-⟩:=hv4.form;obtain ⟨ia,ic,rfl,-⟩:=Zd0 hi4;clear hb4 hov4 hoi4 hv4 hi4 hnil HFI;simp only [List.length_replicate,HN.out,HFL.out] at KA HI5 HV5 HNL;rw [List.length_replicate,HN.out,HFL.out];go_upto_region 8 with fail;generalize W4.alloc (.cells #[.slice ga N gc,.slice ia N ic,.bool false] 32)=W5 at *;have HB5:=Zq (HB4.out.seq KA.out.below);have HST:=Zq (ZsD c0 _ (.slice ga N gc) (.slice ia N ic) false W5 HV5.out HI5.out HNL.out (by rw [HFL.out]; omega));have KA5:=Zq (fun W (hb:Below W5.heap.size W5 W)=>ZeG (KA.out.call hb).at0);obtain ⟨⟨s0,s1,s2⟩,-⟩:=KA5.out W5 (Yab _ _);unfold statePost at HST;generalize W4.heap.size=A at *;clear KA HB4 HNL HI5;go_wp2_with fail;refine HST.out.mono ?_;rintro r W6 ⟨hb6,vv6,nv6,rfl,hov6,hoi6⟩;obtain ⟨g6,c6,hv6,hge6,hcap6,-⟩:=hov6.spot (i:=k) (by rw [HFL.out]; exact hkn);subst hv6;obtain ⟨ia6,ic6,rfl,-⟩:=Zd0 (hoi6.toV (by rw [List.length_replicate]; omega));have hlt6:=hov6.lt;rw [HFL.out] at hov6 hcap6 |-;rw [List.length_replicate];have KB:=Zq (((Kept.start W5).call hb6).new (.cells #[.slice (some ⟨g6,0,none⟩) N c6,.slice ia6 N ic6,.bool false] 32));have HO7:=Zq (hov6.keep ((Yab W6.heap.size W6).alloc Zs (.cells #[.slice (some ⟨g6,0,none⟩) N c6,.slice ia6 N ic6,.bool false] 32)));clear hb6 hov6 hoi6 HST s0 s1 s2;go_upto_region 9 with fail;generalize W6.alloc (.cells #[.slice (some ⟨g6,0,none⟩) N c6,.slice ia6 N ic6,.bool false] 32)=W7 at *;obtain ⟨B,hB⟩:∃ B,W6.heap.size=B:=⟨_,rfl⟩;rw [hB] at KB hlt6;simp only [hB];clear hB;obtain ⟨⟨s0,s1,s2⟩,-⟩:=ZeG KB.out.at0;obtain ⟨⟨x0,x1,x2⟩,-⟩:=HXB.out W7 (HB5.out.seq KB.out.below);obtain ⟨g',lc',hv',-,-,-,⟨y0,h0⟩,⟨y1,h1'⟩,⟨y2,h2⟩,q0,q1,q2⟩:=HO7.out.spot (i:=k) (by rw [HFL.out]; exact hkn);simp only [Yaq,Yai,Ybd,and_true,true_and] at hv';obtain ⟨rfl,-,-⟩:=hv';go_upto_region 10 with fail;have HB8:Hid (Below W5.heap.size W5 (((W7.setCell ⟨g6,k*3,none⟩ (.int .i64 x.k)).setCell ⟨g6,k*3+1,none⟩ (.int .i64 x.n)).setCell ⟨g6,k*3+2,none⟩ (.string ⟨x.s.toArray⟩))) :=
    Zq (((KB.out.below.setCell (p:=⟨g6,k*3,none⟩) hge6 _).setCell (p:=⟨g6,k*3+1,none⟩) hge6 _).setCell (p:=⟨g6,k*3+2,none⟩) hge6 _)
   have HO8:Hid (OwnV W5.heap.size (((W7.setCell ⟨g6,k*3,none⟩ (.int .i64 x.k)).setCell ⟨g6,k*3+1,none⟩ (.int .i64 x.n)).setCell ⟨g6,k*3+2,none⟩ (.string ⟨x.s.toArray⟩)) (.slice (some ⟨g6,0,none⟩) N c6) (c0.set k x)) :=
    Zq (HO7.out.put (by rw [HFL.out]; exact hkn) x)
   have HBX:Hid ((((W7.setCell ⟨g6,k*3,none⟩ (.int .i64 x.k)).setCell ⟨g6,k*3+1,none⟩ (.int .i64 x.n)).setCell ⟨g6,k*3+2,none⟩ (.string ⟨x.s.toArray⟩)).heap[B]?=some (.cells #[.slice (some ⟨g6,0,none⟩) N c6,.slice ia6 N ic6,.bool false] 32 (0,0))) :=
    Zq ((ZsV (by omega) _ _ _).trans KB.out.at0)
   clear s0 s1 s2 x0 x1 x2 h0 h1' h2 q0 q1 q2 HO7 KB;generalize ((W7.setCell ⟨g6,k*3,none⟩ (.int .i64 x.k)).setCell ⟨g6,k*3+1,none⟩ (.int .i64 x.n)).setCell ⟨g6,k*3+2,none⟩ (.string ⟨x.s.toArray⟩)=W8 at *;have HB28:=Zq (HB5.out.seq HB8.out);obtain ⟨⟨s0,s1,s2⟩,-⟩:=KA5.out W8 HB8.out;have HV8:=Zq (HV5.out.mono (Zah HB8.out));have HCF:Hid (VFine (c0.set k x)):=Zq (ZrG HFF.out HXK.out);have HCL:Hid ((c0.set k x).length=N):=Zq (by rw [List.length_set]; exact HFL.out);have HVA:=Zq (Zr0 W8 (HS.out W8 HB28.out) HP.out (HY.out W8 HB28.out) c0 _ (.slice ia N ic) false HV8.out HFF.out HOL.out);have HKE:Hid (∀ j:Nat,hasF F.es (j:Int)=false->(valuesM F (c0.set k x))[j]?=(c0.set k x)[j]?):=Zq (fun j hj=>ZrL HP.out hj (HCL.out.trans HN.out.symm));have HUL:Hid ((valuesM F c0).length=N):=Zq ((Zrz F c0).trans HN.out);have HYL:Hid ((valuesM F (c0.set k x)).length=N):=Zq ((Zrz F _).trans HN.out);unfold ownVPost at HVA;clear HV5 HB5 KA5 HB8;go_wp2_with fail;refine HVA.out.mono ?_;rintro r W9 ⟨hb9,v9,rfl,ho9⟩;have HB9:=Zq (HB28.out.seq hb9);have HV9:=Zq ho9.toV;obtain ⟨a9,c9,rfl,-⟩:=ho9.toV.form;have hx9:=HO8.out.keep hb9;have HVB:=Zq (Zr0 W9 (HS.out W9 HB9.out) HP.out (HY.out W9 HB9.out) (c0.set k x) _ (.slice ia6 N ic6) false hx9.toV HCF.out HOL.out);obtain ⟨⟨t0,t1,t2⟩,-⟩:=ZeG ((hb9.block _ (Yaa.1 HBX.out).1).trans HBX.out);unfold ownVPost at HVB;rw [HUL.out] at HV9 |-;clear hb9 ho9 hx9 HVA s0 s1 s2 HV8 HO8 HBX;go_wp2_with fail;refine HVB.out.mono ?_;rintro r W10 ⟨hb10,v10,rfl,ho10⟩;have HB10:=Zq (HB9.out.seq hb10);have HU10:=Zq (HV9.out.mono (Zah hb10));have HV10:=Zq ho10.toV;obtain ⟨a10,c10,rfl,-⟩:=HV10.out.form;obtain ⟨la',lc'',e0⟩:=Zsz (HR.out W10 HB10.out);rw [HN.out] at e0;rw [HYL.out] at HV10 |-;clear hb10 ho10 HVB t0 t1 t2 HV9;have z1:((N:Int) != (N:Int))=false:=(by simp);have hmB:=fun W=>ZsS N (by omega) W;have HOB:=Zq (ZsT N W10 (by omega));have HBA:=Zq ((Yab W10.heap.size W10).alloc Zs (.cells (madeCells #[.bool false] N) 4));go_upto_region 15 with fail;have hsz:(W10.alloc (.cells (madeCells #[.bool false] N) 4)).heap.size=W10.heap.size+1:=(by simp);generalize W10.alloc (.cells (madeCells #[.bool false] N) 4)=W11 at *;obtain ⟨⟨y0,h0⟩,q0,hgl,-⟩:=HOB.out.spot (i:=k) (by rw [List.length_replicate]; exact hkn);clear e0 hmB;go_upto_region 16 with fail;have HM12:Hid (Mk W10 (W10.heap.size+1) W10.heap.size N (.slice none 0 0) [] ((List.replicate N false).set k true) (W11.setCell ⟨W10.heap.size,k,none⟩ (.bool true))) :=
    Zq ⟨HBA.out.setCell (p:=⟨W10.heap.size,k,none⟩) Zs _,HOB.out.put (by rw [List.length_replicate]; exact hkn) true,⟨rfl,.inl ⟨rfl,rfl⟩⟩,by omega,Nat.le_refl _,by simp,by simp [World.setCell]; omega⟩
   clear h0 q0 hgl HOB HBA hsz;generalize W11.setCell ⟨W10.heap.size,k,none⟩ (.bool true)=W12 at *;have HOR:=Zq (ZrY W12 (HS.out W12 (HB10.out.seq HM12.out.below)));have HAL:Hid (Alike N (marksM F F.order ((List.replicate N false).set k true)) (valuesM F c0) (valuesM F (c0.set k x))):=Zq (by
    unfold valuesM;rw [HN.out,Zri HFL.out,Zri HCL.out];refine ZsR HM.out F.order _ _ _ HFL.out HCL.out (by simp) (fun y hy=>?_) (fun y hy d hd=>?_) (fun j hj hf=>?_)
    . have:=HP.out.order y hy;rw [HN.out] at this;exact ⟨this.1,this.2.1⟩
    . rw [Yau] at hd;cases hq:F.needs[y.toNat]? with
      | none=>rw [hq] at hd; simp at hd
      | some nd =>rw [hq] at hd;have:=ZsY HM.out hq d (by simpa using hd);rw [HN.out] at this;exact this
    . by_cases hjk:k=j
      . subst hjk;rw [List.getElem?_set_self (by simpa using hj)] at hf;cases hf
      . rw [List.getElem?_set_ne hjk])
   go_wp2_with fail;refine HOR.out.mono ?_;rintro r W13 ⟨v13,rfl,ho13,hb13⟩;obtain ⟨a13,c13,rfl⟩:=OwnI.form (l:=F.order) ho13;have HM13:Hid (Mk W10 W12.heap.size W10.heap.size N (.slice a13 F.order.length c13) F.order ((List.replicate N false).set k true) W13):=Zq (by have h:=HM12.out;exact ⟨h.below.seq hb13,h.row.keep hb13,ho13,by have:=h.big; have:=h.lt; omega,h.ge,h.len,hb13.size⟩);obtain ⟨R,hR⟩:∃ R,marksM F F.order ((List.replicate N false).set k true)=R:=⟨_,rfl⟩;have HR0:=Zq hR;obtain ⟨ol,hol⟩:∃ n,F.order.length=n:=⟨_,rfl⟩;have HOLN:=Zq hol;rw [hR] at HAL;have hob:ol<=24:=(by rw [<-hol]; exact HOL.out);rw [hol] at HM13 |-;clear ho13 hb13 HOR HM12 hR hol;generalize W12.heap.size=m12 at *;go_upto_region 18 with fail;go_loopg [21] ol (fun gk i wr=>∃ (j:Nat) (I:List Bool),i = .int .i64 j/\j+gk=ol/\Hid (Mk W10 m12 W10.heap.size N (.slice a13 ol c13) F.order I wr)/\Hid (marksM F (F.order.drop j) I=R));(case atStart=>exact ⟨0,_,rfl,by omega,HM13,Zq (by rw [List.drop_zero]; exact HR0.out)⟩);case round =>
    obtain ⟨j,I,rfl,hg,HMK,HMR⟩:=hrel;clear HM13 HR0;by_cases hlt:j<ol
    . obtain ⟨xx,hxx⟩:∃ x,F.order[j]?=some x:=⟨_,Yad (by rw [HOLN.out]; exact hlt)⟩;have hin:=HP.out.order xx (Yay hxx);rw [HN.out] at hin;obtain ⟨i,rfl⟩:∃ i:Nat,xx=(i:Int):=⟨xx.toNat,by omega⟩;have hiN:i<N:=(by omega);obtain ⟨nd,hnd⟩:=HP.out.nd i (by rw [HN.out]; exact hiN);obtain ⟨ob,rfl,o0⟩:=HMK.out.ord.at hxx;have HNE:=Zq (ZsU i nd wr (HS.out wr (HB10.out.seq HMK.out.below)) (by rw [HN.out]; exact hiN) (by rw [HN.out]; exact h24) hnd);have HBD:=Zq (ZsY HM.out hnd);rw [HN.out] at HBD;have HMS:Hid (marksM F (F.order.drop (j+1)) (markIn i nd I)=R):=Zq (by have h:=HMR.out;obtain ⟨hj',hge⟩:=Yag.1 hxx;rw [Yas hj',hge,marksM,Int.toNat_natCast,Yau,hnd] at h;exact h);have HXX:=Zq hxx;obtain ⟨gn,rfl⟩:∃ gn,gk=gn+1:=⟨gk - 1,by omega⟩;have hj2:(j:Int)<ol:=(by omega);have hj3:(0:Int)<=(j:Int):=(by omega);clear hin hnd hxx HMR;go_wp2_with fail;refine HNE.out.mono ?_;rintro r W14 ⟨v14,rfl,ho14,hb14⟩;obtain ⟨a14,c14,rfl⟩:=ho14.form;have HM14:=Zq (HMK.out.call hb14);have HO14:=Zq ho14;have HLT:Hid (W10.heap.size<wr.heap.size):=Zq (by have:=HMK.out.lt; have:=HMK.out.big; omega);obtain ⟨nl,hnl⟩:∃ n,nd.length=n:=⟨_,rfl⟩;obtain ⟨RI,hRI⟩:∃ R,markIn i nd I=R:=⟨_,rfl⟩;have HNL:=Zq hnl;have HRI:=Zq hRI;rw [hRI] at HMS;have hnb:=ho14.few;rw [hnl] at HO14 hnb |-;clear ho14 hb14 hnl hRI HNE HMK o0;go_upto_region 22 with fail;generalize wr.heap.size=m14 at *;go_loopg [23] nl (fun gk2 i2 wq=>∃ (j2:Nat) (I2:List Bool),i2 = .int .i64 j2/\j2+gk2=nl/\Hid (Mk W10 m12 W10.heap.size N (.slice (some ⟨ob,0,none⟩) ol c13) F.order I2 wq)/\Hid (OwnI m14 wq (.slice a14 nl c14) nd)/\Hid (markIn i (nd.drop j2) I2=RI));(case atStart=>exact ⟨0,I,rfl,by omega,HM14,HO14,Zq (by rw [List.drop_zero]; exact HRI.out)⟩);case round =>
       obtain ⟨j2,I2,rfl,hg2,HMQ,HOQ,HMI⟩:=hrel;clear HM14 HO14 HRI;by_cases hlt2:j2<nl
       . obtain ⟨dd,hdd⟩:∃ x,nd[j2]?=some x:=⟨_,Yad (by rw [HNL.out]; exact hlt2)⟩;have hd:=HBD.out dd (Yay hdd);obtain ⟨d,rfl⟩:∃ d:Nat,dd=(d:Int):=⟨dd.toNat,by omega⟩;have hdN:d<N:=(by omega);obtain ⟨nb,rfl,n0⟩:=HOQ.out.at hdd;obtain ⟨p1,hp1⟩:∃ b,I2[i]?=some b:=⟨_,Yad (by rw [HMQ.out.len]; exact hiN)⟩;obtain ⟨p2,hp2⟩:∃ b,I2[d]?=some b:=⟨_,Yad (by rw [HMQ.out.len]; exact hdN)⟩;obtain ⟨g1,hg1,m1⟩:=HMQ.out.row.at hp1;obtain rfl:W10.heap.size=g1:=(by simpa using hg1);obtain ⟨g2,hg2',m2⟩:=HMQ.out.row.at hp2;obtain rfl:W10.heap.size=g2:=(by simpa using hg2');obtain ⟨g3,hg3,o0⟩:=HMQ.out.ord.at HXX.out;obtain rfl:ob=g3:=(by simpa using hg3);have hfz:=(HMQ.out.row.spot (i:=i) (by rw [HMQ.out.len]; exact hiN)).2.1;have HMI2:Hid (markIn i (nd.drop (j2+1)) (I2.set i (p1 || p2))=RI):=Zq (by have h:=HMI.out;obtain ⟨hj',hge⟩:=Yag.1 hdd;rw [Yas hj',hge,markIn,Int.toNat_natCast,Yau,Yau,hp1,hp2] at h;exact h);obtain ⟨gm,rfl⟩:∃ gn,gk=gn+1:=⟨gk - 1,by omega⟩;have hk1:(j2:Int)<nl:=(by omega);have hk2:(0:Int)<=(j2:Int):=(by omega);have hi1:(0:Int)<=(i:Int):=(by omega);have hi2:(i:Int)<N:=(by omega);have hd1:(0:Int)<=(d:Int):=(by omega);have hd2:(d:Int)<N:=(by omega);clear hdd hd hp1 hp2 hg1 hg2' hg3 HMI;cases p1<;>cases p2;all_goals go_upto_region 24 with fail;go_region;all_goals go_wp2;go_roundg gm;(case rel=>exact ⟨j2+1,_,by go_num,by omega,Zq ((HMQ.out.put hiN _).call (Yab _ _).drew),Zq (OwnI.keep (l:=nd) (ZsC HOQ.out HLT.out) (Yab _ _).drew),HMI2⟩);case measure=>omega
       . have hj:j2=nl:=(by omega);subst hj;have HIR:Hid (I2=RI):=Zq (by rw [<-HMI.out,Yar (by rw [HNL.out]; exact Nat.le_refl _)]; rfl);have hk1:¬ (j2:Int)<j2:=(by omega);clear HMI;go_wp2;go_roundg gn;(case rel=>exact ⟨j+1,I2,by go_num,by omega,HMQ,Zq (by rw [HIR.out]; exact HMS.out)⟩);case measure=>omega
    . have hj:j=ol:=(by omega);subst hj;have HIR:Hid (I=R):=Zq (by rw [<-HMR.out,Yar (by rw [HOLN.out]; exact Nat.le_refl _)]; rfl);have hj2:¬ (j:Int)<j:=(by omega);have HMW:=Zq (fun W (hb:Below wr.heap.size wr W)=>HMK.out.call hb);rw [HIR.out] at HMW;have HBW:=Zq (fun W (hb:Below wr.heap.size wr W)=>HB10.out.seq (HMK.out.below.seq hb));have HUW:=Zq (fun W (hb:Below wr.heap.size wr W)=>HU10.out.mono (Zah (HMK.out.below.seq hb)));have HVW:=Zq (fun W (hb:Below wr.heap.size wr W)=>HV10.out.mono (Zah (HMK.out.below.seq hb)));have HFK:Hid ((valuesM F (c0.set k x))[k]?=some x):=Zq (by rw [HKE.out k HHF.out,List.getElem?_set_self (by rw [HFL.out]; exact hkn)]);generalize valuesM F (c0.set k x)=Y at *;generalize valuesM F c0=X at *;clear HMR HMK HU10 HV10 HKE;go_upto_region 26 with fail;go_loopg [24] N (fun gk i wq=>∃ j:Nat,i = .int .i64 j/\j+gk=N/\Hid (Below wr.heap.size wr wq));(case atStart=>exact ⟨0,rfl,by omega,Zq (Yab _ _)⟩);case round =>
       obtain ⟨i,rfl,hg',HB⟩:=hrel;by_cases hlt3:i<N
       . obtain ⟨gn,rfl⟩:∃ gn,gk=gn+1:=⟨gk - 1,by omega⟩;have hm:=HMW.out wr HB.out;obtain ⟨p1,hp1⟩:∃ b,R[i]?=some b:=⟨_,Yad (by rw [hm.len]; exact hlt3)⟩;obtain ⟨g1,hg1,m1⟩:=hm.row.at hp1;obtain rfl:W10.heap.size=g1:=(by simpa using hg1);have hi1:(0:Int)<=(i:Int):=(by omega);have hi2:(i:Int)<N:=(by omega);clear hm hg1;cases p1 with
         | true =>clear hp1;go_upto_region 28 with fail;go_quiet (fail);go_wp2;go_roundg gn;(case rel=>exact ⟨i+1,by go_num,by omega,Zq (Pal.Ybb HB.out _)⟩);case measure=>omega
         | false =>obtain ⟨x',hx'⟩:∃ x,X[i]?=some x:=⟨_,Yad (by rw [HUL.out]; exact hlt3)⟩;have hy':Y[i]?=some x':=(by rw [<-HAL.out i hlt3 hp1]; exact hx');obtain ⟨b6,o6,rfl,x0,x1,x2⟩:=(HUW.out wr HB.out).at hx';obtain ⟨b3,o3,rfl,y0,y1,y2⟩:=(HVW.out wr HB.out).at hy';unfold strV at x2 y2;clear hp1 hx' hy';go_upto_region 28 with fail;go_quiet (fail);go_wp2;go_roundg gn;(case rel=>exact ⟨i+1,by go_num,by omega,Zq (Pal.Ybb HB.out _)⟩);case measure=>omega
       . have hi:i=N:=(by omega);subst hi;have hi2:¬ (i:Int)<i:=(by omega);obtain ⟨b3,o3,rfl,y0,y1,y2⟩:=(HVW.out wr HB.out).at HFK.out;have HBQ:=Zq (HBW.out wr HB.out);obtain ⟨⟨x0,x1,x2⟩,-⟩:=HXB.out wr HBQ.out;unfold strV at y2;have HBD:=Zq (HBQ.out.drew);go_upto_region 30 with fail;go_region_held3 (fun w'=>(w'.cell? ⟨b3,o3+k*3,none⟩=some (.int .i64 x.k)/\w'.cell? ⟨b3,o3+k*3+1,none⟩=some (.int .i64 x.n)/\w'.cell? ⟨b3,o3+k*3+2,none⟩=some (.string ⟨x.s.toArray⟩)/\w'.cell? ⟨w.heap.size,0,none⟩=some (.int .i64 x.k)/\w'.cell? ⟨w.heap.size,1,none⟩=some (.int .i64 x.n)/\w'.cell? ⟨w.heap.size,2,none⟩=some (.string ⟨x.s.toArray⟩))) (go_keep)
          ((first
           | (go_at_call 14; refine (HAX.out _ HBD.out).mono ?_; rintro r W20 ⟨rfl,hb20⟩; have HB20:=Zq (HWW.out _ (HBD.out.seq hb20)); have d0:=Zsm hb20 y0; have d1:=Zsm hb20 y1; have d2:=Zsm hb20 y2; have d3:=Zsm hb20 x0; have d4:=Zsm hb20 x1; have d5:=Zsm hb20 x2; clear hb20)))
         all_goals go_wp2;(try rw [Yae]);go_ret;exact ⟨rfl,HB20.out⟩
end Go.Proofs.YtikannmgllejfaaGreatDoor
