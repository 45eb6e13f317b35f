/- The walk of (*schema. -/
import Derived.Test.YtikannmgllejfaaGreatDoorKUA
import Derived.Test.YtikannmgllejfaaGreatDoorKR4
import Derived.Test.YtikannmgllejfaaGreatDoorKUE
import Derived.Test.YtikannmgllejfaaGreatDoorKUB
import Derived.Deep.MidRow
set_option maxHeartbeats 8000000
set_option maxRecDepth 1000000
set_option linter.all false
namespace Go.Proofs.YtikannmgllejfaaGreatDoor
open Go.RowKit Pal
inductive Thin:Ex->Prop
 | mk (op n:Int) (s:Bs) (ks:List Ex) (hl:ks.length<=1000) (hk:∀ k∈ks,Thin k):Thin (.mk op n s ks)
theorem Thin.parts {op n:Int} {s:Bs} {ks:List Ex} (h:Thin (.mk op n s ks)):ks.length<=1000/\∀ k∈ks,Thin k:=by cases h with|mk _ _ _ _ a b=>exact ⟨a,b⟩
section
variable {n0:Nat} {tau:Tag} {W W':World} {l:List (Ex × Value)} {sv:Value}
theorem CpIn.keep (h:CpIn n0 tau W l sv) (hb:Below W.heap.size W W'):CpIn n0 tau W' l sv :=
 ⟨h.row.call hb,fun x hx=>(h.k x hx).mono (ZdJ fun b hb2 hl=>⟨hb2,hb.block _ hl⟩),fun b hb2=>⟨(h.ge b hb2).1,by have:=(h.ge b hb2).2; have:=hb.size; omega⟩⟩
theorem CpIn.kv (h:CpIn n0 tau W l sv):KV (gp (fun b=>n0<=b) W) sv (l.map Prod.fst):=by
 obtain ⟨a,cap,hv,h1,h2,h3,h4⟩:=SlV.ofRow exCells l (⟨.mk 0 0 [] [],.nilIface⟩:Ex × Value) (by decide) Zgv h.row;have ht:=h.row.tag;subst hv;have hlm:l.length=(l.map Prod.fst).length:=by simp
 rw [hlm] at h1 h2 h4 |-;have hbk:∀ b off,a=some ⟨b,off,none⟩->n0<=b:=by intro b off e;subst e;exact (h.ge b (ht b rfl)).1
 have hcell:∀ (b off i:Nat) (x:Value),a=some ⟨b,off,none⟩->(gh W).cell b i=some x->(gp (fun b=>n0<=b) W).cell b i=some x:=by intro b off i x e hc;unfold GH.cell gp;rw [if_pos (hbk b off e)];exact hc
 have hget:∀ (j:Nat) (k:Ex),(l.map Prod.fst)[j]?=some k->j<(l.map Prod.fst).length/\∃ x∈l,l.getD j ⟨.mk 0 0 [] [],.nilIface⟩=x/\x.1=k:=by
  intro j k hj;obtain ⟨hjl,-⟩:=Yag.1 hj;rw [Yax] at hj;cases hx:l[j]? with
  | none=>rw [hx] at hj; cases hj
  | some x =>rw [hx] at hj;simp only [Option.map_some,Yai] at hj;refine ⟨hjl,x,Yay hx,?_,hj⟩;rw [Yau,hx]; rfl
 refine .mk (l.map Prod.fst) a cap (fun j=>(l.getD j ⟨.mk 0 0 [] [],.nilIface⟩).2) (fun e=>?_) h2 h3 (fun j k hj=>?_) (fun j k hj=>?_)
 . have:=h1 e;exact ⟨Yal this.1,this.2⟩
 . obtain ⟨hjl,x,hx,hg,rfl⟩:=hget j k hj;have e0:=h4 j 0 _ hjl (by simp only [hg]; rfl);have e1:=h4 j 1 _ hjl (by simp only [hg]; rfl);have e2:=h4 j 2 _ hjl (by simp only [hg]; rfl);have e3:=h4 j 3 _ hjl (by simp only [hg]; rfl);obtain ⟨b,off,ha,c0⟩:=e0;obtain ⟨b1,off1,ha1,c1⟩:=e1;obtain ⟨b2,off2,ha2,c2⟩:=e2;obtain ⟨b3,off3,ha3,c3⟩:=e3;rw [ha] at ha1 ha2 ha3;simp only [Yai,Ybd,and_true] at ha1 ha2 ha3;obtain ⟨rfl,rfl⟩:=ha1;obtain ⟨rfl,rfl⟩:=ha2;obtain ⟨rfl,rfl⟩:=ha3;refine ⟨b,off,ha,?_,?_,?_,?_⟩
   . have:=hcell b off _ _ ha c0; rw [show off+(4*j+0)=off+j*4 by omega] at this; exact this
   . have:=hcell b off _ _ ha c1; rw [show off+(4*j+1)=off+j*4+1 by omega] at this; exact this
   . have:=hcell b off _ _ ha c2; rw [show off+(4*j+2)=off+j*4+2 by omega] at this; exact this
   . have:=hcell b off _ _ ha c3; rw [show off+(4*j+3)=off+j*4+3 by omega] at this; simp only [hg]; exact this
 . obtain ⟨hjl,x,hx,hg,rfl⟩:=hget j k hj;simp only [hg];exact (h.k x hx).mono (ZdJ fun b hb _=>⟨hb.1,rfl⟩)
theorem CpIn.app {t':Tag} {w':World} {v':Value} {e:Ex} {u:Value} (h:CpIn n0 tau W l sv) (hn:n0<=W.heap.size) (hr:Row t' 1 w' 83 4 v' (l.length+1) (l.flatMap exCells++exCells (e,u)))
 (he:Evo tau W t' w' (·=1)) (hu:KV (gp (fun b=>n0<=b/\tau b≠1) W) u e.ks) :
 (∃ t2,CpIn n0 t2 w' (l++[(e,u)]) v')/\∀ w0:World,Below n0 w0 W->Below n0 w0 w':=by
 have nt:∀ b,b<n0->tau b≠1:=fun b hb e=>by have:=(h.ge b e).1; omega
 have hblk:∀ b,b<W.heap.size->tau b≠1->w'.heap[b]?=W.heap[b]?:=fun b hb hn=>he.block b hb hn;have hlive:∀ b,v'.ownBlock=some b->b<w'.heap.size:=by
  intro b hb;rcases hr.own.2 with ⟨rfl,hn⟩|⟨g,cap,cur,rfl,hbg,hgg,hn,hc,hs,ht⟩
  . simp [Value.ownBlock] at hb
  . simp [Value.ownBlock] at hb;subst hb;exact (Yaa.1 hgg).1
 have hs:=he.size;have hnew:∀ b,b<w'.heap.size->t' b=1->n0<=b:=by
  intro b hb e;by_cases hbl:b<W.heap.size
  . rw [he.tag b hbl] at e; exact (h.ge b e).1
  . omega
 have hfl:(l++[(e,u)]).flatMap exCells=l.flatMap exCells++exCells (e,u):=by rw [List.flatMap_append]; simp
 have hkk:∀ (u:Value) (ks:List Ex),KV (gp (fun b=>n0<=b/\tau b≠1) W) u ks->KV (gp (fun b=>n0<=b/\(if b<w'.heap.size then t' b else 0)≠1) w') u ks:=fun u ks hk =>
  hk.mono (ZdJ fun b hb hl=>⟨⟨hb.1,by rw [if_pos (by omega),he.tag b hl]; exact hb.2⟩,hblk b hl hb.2⟩)
 refine ⟨⟨fun b=>if b<w'.heap.size then t' b else 0,⟨?_,?_,?_⟩⟩,?_⟩
 . rw [hfl,Yak];exact ⟨hr.own,fun g hg=>by show (if g<w'.heap.size then t' g else 0)=1;rw [if_pos (hlive g hg)]; exact hr.tag g hg⟩
 . intro x hx;rcases List.mem_append.1 hx with hx|hx
   . exact hkk _ _ (h.k x hx)
   . obtain rfl:=List.mem_singleton.1 hx;exact hkk _ _ hu
 . intro b hb;by_cases hbl:b<w'.heap.size
   . rw [if_pos hbl] at hb;exact ⟨hnew b hbl hb,hbl⟩
   . rw [if_neg hbl] at hb; omega
 . intro w0 h0;exact ⟨he.os.trans h0.os,he.tape.trans h0.tape,he.output.trans h0.output,Nat.le_trans h0.size hs,fun b hb=>(hblk b (by omega) (nt b hb)).trans (h0.block b hb)⟩
end
theorem Zor (e:Ex):∀ (deep left m:Nat),left<=1000->chk e deep left=some m->Thin e/\m<left:=by
 refine Ex.ind (P:=fun e=>∀ (deep left m:Nat),left<=1000->chk e deep left=some m->Thin e/\m<left) ?_ e;intro op n s ks ih deep left m h1000 h;by_cases hb:left=0\/24<deep\/alone op n s ks=false
 . rw [Zdn hb] at h; cases h
 rw [Zdo hb] at h;have hl:left≠0:=fun h=>hb (.inl h);have go:∀ (l:List Ex),(∀ k∈l,k∈ks)->∀ (left m:Nat),left<=1000->chkL l (deep+1) left=some m->(∀ k∈l,Thin k)/\l.length+m<=left:=by
  intro l;induction l with
  | nil=>intro _ left m _ h; rw [Zdl] at h; cases h; exact ⟨fun k hk=>(by cases hk),by simp⟩
  | cons k l2 ih2 =>
   intro hm left m hl h;rw [Zdm] at h;cases h1:chk k (deep+1) left with
   | none=>rw [h1] at h; cases h
   | some x =>
    rw [h1,Option.bind_some] at h;obtain ⟨a1,a2⟩:=ih k (hm k (by simp)) _ _ _ hl h1;obtain ⟨b1,b2⟩:=ih2 (fun y hy=>hm y (by simp [hy])) x m (by omega) h;refine ⟨fun y hy=>?_,by simp only [List.length_cons]; omega⟩;rcases Ybc.1 hy with rfl|hy
    . exact a1
    . exact b1 y hy
 obtain ⟨c1,c2⟩:=go ks (fun _ h=>h) _ _ (by omega) h;exact ⟨.mk _ _ _ _ (by omega) c1,by omega⟩
theorem Zos {e:Ex} (h:check e=true):Thin e:=by obtain ⟨z,hz⟩:∃ z,chk e 1 128=some z:=Option.isSome_iff_exists.1 h;exact (Zor e 1 128 z (by omega) hz).1
theorem Zot (e:Ex):∀ (v:Value) (w:World),Thin e->KV (gh w) v e.ks->Calls Tryz.prog 84 #[exV e.op e.n e.s v] w (copyPost e w):=by
 refine Ex.ind (P:=fun e=>∀ (v:Value) (w:World),Thin e->KV (gh w) v e.ks->Calls Tryz.prog 84 #[exV e.op e.n e.s v] w (copyPost e w)) ?_ e;intro op n s ks ih v w hS hK;simp only [Ex.op,Ex.n,Ex.s,Ex.ks] at hK |-;obtain ⟨i0,hi,hz0,hz1,hz2⟩:=info_parts infoEx;obtain ⟨a,cap,rfl⟩:=hK.form;have hkc:=hK.cap;obtain ⟨hl1,hkids⟩:=hS.parts;have HI:=Zq ih;have HK:=Zq hK;have HS:=Zq hkids;obtain ⟨len,hlen⟩:∃ len,ks.length=len:=⟨_,rfl⟩;have HLEN:=Zq hlen;rw [hlen] at HK hkc hl1;unfold exV strV;rw [hlen];have hb1:=(Yab w.heap.size w).alloc Zs (cEx op n s (.slice a len cap));have hb2:=hb1.alloc hb1.size zEx;have e1:=Yac w (cEx op n s (.slice a len cap));have e2:=Yac (w.alloc (cEx op n s (.slice a len cap))) zEx;have e1':=(Yah (w.alloc (cEx op n s (.slice a len cap))) zEx w.heap.size (by simp)).trans e1;have hsz1:(w.alloc (cEx op n s (.slice a len cap))).heap.size=w.heap.size+1:=by simp
 rw [hsz1] at e2;have hsz2:((w.alloc (cEx op n s (.slice a len cap))).alloc zEx).heap.size=w.heap.size+2:=by simp
 have HB2:=Zq hb2;have HE1:=Zq e1';have HE2:=Zq e2;have HSZ2:=Zq hsz2;clear hS hkids ih hK hlen hb1 hb2 e1 e2 e1' hsz1 hsz2;go_in;go_upto_region 1 with fail;generalize (w.alloc (cEx op n s (.slice a len cap))).alloc zEx=w2 at *;obtain ⟨⟨-,-,-,x3⟩,-⟩:=ZdP HE1.out;go_wp2_with fail;clear x3;go_loopg [3,9] len (fun g l i wr=>∃ (tau:Tag) (k:Nat) (lst:List (Ex × Value)),i = .int .i64 k/\Hid (CpIn (w.heap.size+2) tau wr lst l)/\Hid (Below (w.heap.size+2) w2 wr)/\Hid (lst.map Prod.fst=ks.take k)/\lst.length=k/\k+g=len);case atStart=>exact ⟨T0,0,[],rfl,Zq ⟨Row.nil _ _ _ _ _,fun x hx=>(by cases hx),fun b hb=>(by cases hb)⟩,Zq (Yab _ _),Zq rfl,rfl,by omega⟩
 case round =>
  obtain ⟨tau,k,lst,rfl,HC,HB,HM,hlk,hg⟩:=hrel;subst hlk;obtain ⟨la,lc,rfl⟩:=HC.out.row.form;have hwz:w.heap.size+2<=wr.heap.size:=(by have:=HB.out.size; have:=HSZ2.out; omega);have hx:=(HB.out.block w.heap.size (by omega)).trans HE1.out;have hy:=(HB.out.block (w.heap.size+1) (by omega)).trans HE2.out;have HX:=Zq hx;have HY:=Zq hy;by_cases hlt2:lst.length<len
  . have hkl:lst.length<ks.length:=(by have:=HLEN.out; omega);have hbw:Below w.heap.size w wr:=HB2.out.trans (HB.out.mono (by omega));have hKr:=HK.out.keep hbw;obtain ⟨bb,off,u,rfl,d0,d1,d2,d3,hKu⟩:=hKr.at (Yad hkl);obtain ⟨ua,uc,rfl⟩:=hKu.form;have hmem:ks[lst.length]∈ks:=List.getElem_mem hkl;have htk:ks.take (lst.length+1)=ks.take lst.length++[ks[lst.length]]:=(by rw [List.take_succ_eq_append_getElem hkl]);have HTK:=Zq htk;have HSM:=Zq (HS.out _ hmem);have HIM:=Zq (HI.out ks[lst.length] hmem);unfold strV at d2;have HKU:=Zq hKu;clear hKr hKu htk hmem hbw hx hy;generalize ks[lst.length]=y at *;have hbn:Below wr.heap.size wr (wr.alloc (cEx y.op y.n y.s (.slice ua y.ks.length uc))):=(Yab _ _).alloc Zs _;have hlx:=HIM.out (.slice ua y.ks.length uc) _ HSM.out (HKU.out.keep hbn);unfold copyPost exV strV at hlx;have HLX:=Zq hlx;have HCN:=Zq (HC.out.keep hbn);have HBN:Hid (Below (w.heap.size+2) w2 (wr.alloc (cEx y.op y.n y.s (.slice ua y.ks.length uc)))):=Zq (HB.out.trans (hbn.mono hwz));have hwn:w.heap.size+2<=(wr.alloc (cEx y.op y.n y.s (.slice ua y.ks.length uc))).heap.size:=(by have:=hbn.size; omega);have HWN:=Zq hwn;clear hlx hbn hwn HIM HKU HC HB HX HY;go_wp2_with fail;generalize wr.alloc (cEx y.op y.n y.s (.slice ua y.ks.length uc))=WN at *;refine HLX.out.mono ?_;rintro r W3 ⟨hb3,v3,rfl,hk3⟩;obtain ⟨va,vc,rfl⟩:=hk3.form;have hsw3:=hb3.size;have hwn:=HWN.out;have HC3:=Zq (HCN.out.keep hb3);have hrow:=HC3.out.row;have HB3:Hid (Below (w.heap.size+2) w2 W3):=Zq (HBN.out.trans (hb3.mono hwn));have HK3:Hid (KV (gp (fun b=>w.heap.size+2<=b/\tau b≠1) W3) (.slice va y.ks.length vc) y.ks):=Zq (hk3.mono (ZdJ fun b hb hl=>⟨⟨by omega,fun h=>by have:=(HCN.out.ge b h).2; omega⟩,rfl⟩));clear hk3 hb3 d0 d1 d2 d3 hwz;go_wp2_with (at_builtin; refine Zac rfl _ _ 36 rfl 83 i0 _ 4 56 Tryz.underlying36 hi hz0 hz1 hz2 rfl (by decide) rfl hrow #[.int .i64 y.op,.int .i64 y.n,.string ⟨y.s.toArray⟩,.slice va y.ks.length vc] 83 (0,0) _ rfl ?c0 rfl ?c1 ?c2 ?c3 ?_);(case c0=>simp);(case c1=>first|exact ⟨rfl,rfl,rfl,rfl⟩|(intro u hu; simp at hu; rcases hu with rfl|rfl|rfl|rfl<;>rfl));(case c2=>unfold maxLen; omega);(case c3=>omega);intro v' t' w' hr3 he;obtain ⟨⟨t2,hcp⟩,hbl⟩:=HC3.out.app (e:=y) (u := .slice va y.ks.length vc) (by omega) hr3 he HK3.out;have HCP:=Zq hcp;have HBL:=Zq (hbl w2 HB3.out);clear hr3 he hrow hcp hbl;go_wp2;go_roundg (gk - 1);(case rel=>exact ⟨t2,lst.length+1,lst++[(y,.slice va y.ks.length vc)],by go_num,HCP,HBL,Zq (by rw [Ybe,HM.out,HTK.out]; rfl),by rw [Yak]; rfl,by omega⟩);case measure=>omega
  . obtain ⟨⟨x0,x1,x2,x3⟩,f0,f1,f2,f3⟩:=ZdP hx;obtain ⟨⟨y0,y1,y2,y3⟩,g0,g1,g2,g3⟩:=ZdP hy;clear hx hy;have hmk:Hid (lst.map Prod.fst=ks):=Zq (by rw [HM.out]; exact List.take_of_length_le (by have:=HLEN.out; omega));have hne:¬ w.heap.size+1=w.heap.size:=(by omega);go_wp2;have hz:=(Yat wr ⟨w.heap.size,3,none⟩ (.slice la lst.length lc) (w.heap.size+1) (fun e=>by simp at e)).trans HY.out;have hh:=ZdP (ZdM hz (.int .i64 op) (.int .i64 n) (.string ⟨s.toArray⟩) (.slice la lst.length lc));refine Yaf (v := .agg #[.int .i64 op,.int .i64 n,.string ⟨s.toArray⟩,.slice la lst.length lc]) (by simp [results,Tryz.results84,go_sem,hh.1]) rfl ?_;have hbw:Below w.heap.size w wr:=HB2.out.trans (HB.out.mono (by omega));have h1:=hbw.setCell (p:=⟨w.heap.size,3,none⟩) Zs (.slice la lst.length lc);have h2:=((((h1.setCell (p:=⟨w.heap.size+1,0,none⟩) (Nat.le_succ _) (.int .i64 op)).setCell (p:=⟨w.heap.size+1,1,none⟩) (Nat.le_succ _) (.int .i64 n)).setCell (p:=⟨w.heap.size+1,2,none⟩) (Nat.le_succ _) (.string ⟨s.toArray⟩)).setCell (p:=⟨w.heap.size+1,3,none⟩) (Nat.le_succ _) (.slice la lst.length lc));refine ⟨h2,_,rfl,?_⟩;have hkv:=HC.out.kv;rw [hmk.out] at hkv;refine hkv.mono (ZdJ fun b hb hl=>⟨by omega,?_⟩);rw [ZdN (by omega),Yat _ _ _ _ (fun e=>by simp at e; omega)]
attribute [local go_sem ↓] Go.wp_at_zero Go.wp_at_succ
def exprPost (o:OV) (w:World) (r:Ending) (w':World):Prop :=
 Below w.heap.size w w'/\(match o with
  | none=>r = .returned (.tuple #[.agg #[.int .i64 0,.int .i64 0,.string ⟨#[]⟩,.slice none 0 0],.bool false])
  | some x=>∃ a c,r = .returned (.tuple #[.agg #[.int .i64 x.1.op,.int .i64 x.1.n,.string ⟨x.1.s.toArray⟩,.slice a x.1.ks.length c],.bool true])/\KV (gn w.heap.size w') (.slice a x.1.ks.length c) x.1.ks)
theorem Zou (f:Fd) (x:XV) (nv:Value) {k:Nat} (hk:k<3) {j:Nat} (hj:j<4):(fdCells f x.1 x.2.1 x.2.2 nv)[5+4*k+j]?=(exOf (prj k x))[j]?:=by obtain ⟨a,b,c⟩:=x;rcases (by omega:k=0\/k=1\/k=2) with rfl|rfl|rfl<;>rcases (by omega:j=0\/j=1\/j=2\/j=3) with rfl|rfl|rfl|rfl<;>cases a<;>cases b<;>cases c<;>rfl
theorem Zov (f:Fd) (x:XV) (nv:Value) {k:Nat} (hk:k<3):(fdCells f x.1 x.2.1 x.2.2 nv)[17+k]?=some (.bool (prj k x).isSome):=by obtain ⟨a,b,c⟩:=x;rcases (by omega:k=0\/k=1\/k=2) with rfl|rfl|rfl<;>cases a<;>cases b<;>cases c<;>rfl
theorem Zow {b:Nat} {F:Form} {g cap mb:Nat} {ov:Value} {xs:List XV} {nds:List Value} {k:Nat} (hk3:k<3) (kk:Int) (hkk:kk=(k:Int)) (w:World) (p:SchP (gh w) b F g cap mb ov xs nds) (i:Nat) (x:XV) (hx:xs[i]?=some x) (h24:F.l.length<=24)
 (hk:∀ y,prj k x=some y->KV (gh w) y.2 y.1.ks/\Thin y.1):Calls Tryz.prog 61 #[.pointer (some ⟨b,0,none⟩),.int .i64 i,.int .i64 kk] w (exprPost (prj k x) w):=by
 have HB:=Zq ((Yab w.heap.size w).alloc Zs zEx);have p0:=p.mono (Zah HB.out);obtain ⟨b0,b1,b2⟩:=ZjW (h:=gh w) p0;have hi:i<F.l.length:=by rw [<-p.xlen]; exact (Yag.1 hx).1
 obtain ⟨f,hf⟩:∃ f,F.l[i]?=some f:=⟨_,Yad hi⟩;have hxd:xs.getD i noX=x:=by simp [List.getD,hx]
 have hh:(w.alloc zEx).cell? ⟨g,i*21+(17+k),none⟩=some (.bool (prj k x).isSome):=ZjX p0 hf (j:=17+k) (by rw [hxd]; exact Zov _ _ _ hk3);have q1:¬ (i:Int)<0:=by omega
 have q2:¬ (F.l.length:Int)<=(i:Int):=by omega
 have q3:¬ F.l.length<=i:=by omega
 have q4:(i:Int)<(F.l.length:Int):=by omega
 have q5:(0:Int)<=(i:Int):=by omega
 have hz:=Yac w zEx;have HZ:=Zq hz;unfold exprPost;cases ho:prj k x with
 | none =>
  rw [ho] at hh;simp only [Option.isSome_none] at hh |-;clear p p0 hf hx hxd hk ho hz b1 b2;generalize F.l.length=n at *;rcases (by omega:k=0\/k=1\/k=2) with rfl|rfl|rfl;all_goals
   (first|(obtain rfl:kk=0:=hkk)|(obtain rfl:kk=1:=hkk)|(obtain rfl:kk=2:=hkk));simp only [<-Nat.add_assoc,Nat.mul_zero,Nat.mul_one,Nat.add_zero,Nat.reduceMul] at hh;go_in;go_upto_region 1 with fail;generalize w.alloc zEx=W0 at *;have hzl:=(Yaa.1 HZ.out).1;obtain ⟨⟨y0,y1,y2,y3⟩,n0,n1,n2,n3⟩:=ZdP HZ.out;go_wp2;(try rw [Yae]);have h4:=ZdP (ZdM HZ.out (.int .i64 0) (.int .i64 0) (.string ⟨#[]⟩) (.slice none 0 0));first
    | (refine Yaf (v := .tuple #[.agg #[.int .i64 0,.int .i64 0,.string ⟨#[]⟩,.slice none 0 0],.bool false]) (by simp [results,Tryz.results61,go_sem,h4.1]) rfl ?_; exact ⟨Zhx HB.out Zs _ _ _ _,rfl⟩)
    | (refine Yaf (v := .tuple #[.agg #[.int .i64 0,.int .i64 0,.string ⟨#[]⟩,.slice none 0 0],.bool false]) (by simp [results,Tryz.results61,go_sem,(ZdP HZ.out).1]) rfl ?_; exact ⟨HB.out,rfl⟩)
 | some y =>
  obtain ⟨e,v⟩:=y;obtain ⟨hkv,hth⟩:=hk _ ho;simp only at hkv hth;obtain ⟨xa,xc,rfl⟩:=hkv.form;rw [ho] at hh;simp only [Option.isSome_some] at hh |-;have ex:∀ (j:Nat) (u:Value),j<4->(exOf (prj k x))[j]?=some u->(w.alloc zEx).cell? ⟨g,i*21+(5+4*k+j),none⟩=some u:=fun j u hj hu=>ZjX p0 hf (j:=5+4*k+j) (by rw [hxd,Zou _ _ _ hk3 hj]; exact hu);rw [ho] at ex;have e0:=ex 0 (.int .i64 e.op) (by decide) rfl;have e1:=ex 1 (.int .i64 e.n) (by decide) rfl;have e2:=ex 2 (.string ⟨e.s.toArray⟩) (by decide) rfl;have e3:=ex 3 (.slice xa e.ks.length xc) (by decide) rfl;have HOW:=Zq (Zot e (.slice xa e.ks.length xc) _ hth (hkv.keep HB.out));unfold copyPost exV strV at HOW;clear p p0 hf hx hxd hk ho ex hkv hth hz b1 b2;generalize F.l.length=n at *;rcases (by omega:k=0\/k=1\/k=2) with rfl|rfl|rfl;all_goals
   (first|(obtain rfl:kk=0:=hkk)|(obtain rfl:kk=1:=hkk)|(obtain rfl:kk=2:=hkk));simp only [<-Nat.add_assoc,Nat.mul_zero,Nat.mul_one,Nat.add_zero,Nat.reduceMul] at hh e0 e1 e2 e3;go_in;go_upto_region 1 with fail;generalize w.alloc zEx=W0 at *;go_wp2_with fail;refine HOW.out.mono ?_;rintro r W ⟨hb,v2,rfl,hk2⟩;obtain ⟨ka,kc,rfl⟩:=hk2.form;have hzl:=(Yaa.1 HZ.out).1;have hz2:=(hb.block _ hzl).trans HZ.out;have HZ2:=Zq hz2;have HB2:=Zq (HB.out.seq hb);have HK2:=Zq hk2;obtain ⟨⟨y0,y1,y2,y3⟩,n0,n1,n2,n3⟩:=ZdP hz2;have HZL:=Zq hzl;clear hz2 hb hk2 hzl;go_wp2;(try rw [Yae]);have h4:=ZdP (ZdM HZ2.out (.int .i64 e.op) (.int .i64 e.n) (.string ⟨e.s.toArray⟩) (.slice ka e.ks.length kc));refine Yaf (v := .tuple #[.agg #[.int .i64 e.op,.int .i64 e.n,.string ⟨e.s.toArray⟩,.slice ka e.ks.length kc],.bool true]) (by simp [results,Tryz.results61,go_sem,h4.1]) rfl ?_;refine ⟨Zhx HB2.out Zs _ _ _ _,ka,kc,rfl,HK2.out.mono fun q o hq=>?_⟩;have hq2:(if W0.heap.size<=q then W.heap[q]? else none)=some o:=hq;split at hq2
   . rename_i hle;have hne:q≠w.heap.size:=(by have:=HZL.out; omega);show (if w.heap.size<=q then _ else none)=some o;rw [if_pos (by have:=HZL.out; omega),<-hq2];exact ZdN hne _ _ _ _
   . cases hq2
theorem Zox {b:Nat} (o:OV) (i:Int) (w:World) (h:∀ W,Below w.heap.size w W->Calls Tryz.prog 61 #[.pointer (some ⟨b,0,none⟩),.int .i64 i,.int .i64 0] W (exprPost o W)) :
 Calls Tryz.prog 58 #[.pointer (some ⟨b,0,none⟩),.int .i64 i] w (exprPost o w):=by
 have HB:=Zq ((Yab w.heap.size w).alloc Zs zEx);have HZ:=Zq (Yac w zEx);have HE:=Zq (h _ HB.out);unfold exprPost at HE |-;clear h;go_in;go_upto_region 1 with fail;generalize w.alloc zEx=W0 at *;cases o with
 | none =>simp only at HE |-;go_wp2_with fail;refine HE.out.mono ?_;rintro r W ⟨hb,rfl⟩;have hzl:=(Yaa.1 HZ.out).1;have HZ2:=Zq ((hb.block _ hzl).trans HZ.out);have HB2:=Zq (HB.out.seq hb);obtain ⟨⟨y0,y1,y2,y3⟩,n0,n1,n2,n3⟩:=ZdP HZ2.out;clear hb hzl;go_wp2;(try rw [Yae]);have h4:=ZdP (ZdM HZ2.out (.int .i64 0) (.int .i64 0) (.string ⟨#[]⟩) (.slice none 0 0));refine Yaf (v := .tuple #[.agg #[.int .i64 0,.int .i64 0,.string ⟨#[]⟩,.slice none 0 0],.bool false]) (by simp [results,Tryz.results58,go_sem,h4.1]) rfl ?_;exact ⟨Zhx HB2.out Zs _ _ _ _,rfl⟩
 | some y =>
  obtain ⟨e,v⟩:=y;simp only at HE |-;go_wp2_with fail;refine HE.out.mono ?_;rintro r W ⟨hb,ka,kc,rfl,hk2⟩;have hzl:=(Yaa.1 HZ.out).1;have HZ2:=Zq ((hb.block _ hzl).trans HZ.out);have HB2:=Zq (HB.out.seq hb);obtain ⟨⟨y0,y1,y2,y3⟩,n0,n1,n2,n3⟩:=ZdP HZ2.out;have HK2:=Zq hk2;have HZL:=Zq hzl;clear hb hk2 hzl;go_wp2;(try rw [Yae]);have h4:=ZdP (ZdM HZ2.out (.int .i64 e.op) (.int .i64 e.n) (.string ⟨e.s.toArray⟩) (.slice ka e.ks.length kc));refine Yaf (v := .tuple #[.agg #[.int .i64 e.op,.int .i64 e.n,.string ⟨e.s.toArray⟩,.slice ka e.ks.length kc],.bool true]) (by simp [results,Tryz.results58,go_sem,h4.1]) rfl ?_;refine ⟨Zhx HB2.out Zs _ _ _ _,ka,kc,rfl,HK2.out.mono fun q o hq=>?_⟩;have hq2:(if W0.heap.size<=q then W.heap[q]? else none)=some o:=hq;split at hq2
  . rename_i hle;have hne:q≠w.heap.size:=(by have:=HZL.out; omega);show (if w.heap.size<=q then _ else none)=some o;rw [if_pos (by have:=HZL.out; omega),<-hq2];exact ZdN hne _ _ _ _
  . cases hq2
theorem Zoy {b:Nat} (o:OV) (i:Int) (w:World) (h:∀ W,Below w.heap.size w W->Calls Tryz.prog 61 #[.pointer (some ⟨b,0,none⟩),.int .i64 i,.int .i64 1] W (exprPost o W)) :
 Calls Tryz.prog 38 #[.pointer (some ⟨b,0,none⟩),.int .i64 i] w (exprPost o w):=by
 have HB:=Zq ((Yab w.heap.size w).alloc Zs zEx);have HZ:=Zq (Yac w zEx);have HE:=Zq (h _ HB.out);unfold exprPost at HE |-;clear h;go_in;go_upto_region 1 with fail;generalize w.alloc zEx=W0 at *;cases o with
 | none =>simp only at HE |-;go_wp2_with fail;refine HE.out.mono ?_;rintro r W ⟨hb,rfl⟩;have hzl:=(Yaa.1 HZ.out).1;have HZ2:=Zq ((hb.block _ hzl).trans HZ.out);have HB2:=Zq (HB.out.seq hb);obtain ⟨⟨y0,y1,y2,y3⟩,n0,n1,n2,n3⟩:=ZdP HZ2.out;clear hb hzl;go_wp2;(try rw [Yae]);have h4:=ZdP (ZdM HZ2.out (.int .i64 0) (.int .i64 0) (.string ⟨#[]⟩) (.slice none 0 0));refine Yaf (v := .tuple #[.agg #[.int .i64 0,.int .i64 0,.string ⟨#[]⟩,.slice none 0 0],.bool false]) (by simp [results,Tryz.results38,go_sem,h4.1]) rfl ?_;exact ⟨Zhx HB2.out Zs _ _ _ _,rfl⟩
 | some y =>
  obtain ⟨e,v⟩:=y;simp only at HE |-;go_wp2_with fail;refine HE.out.mono ?_;rintro r W ⟨hb,ka,kc,rfl,hk2⟩;have hzl:=(Yaa.1 HZ.out).1;have HZ2:=Zq ((hb.block _ hzl).trans HZ.out);have HB2:=Zq (HB.out.seq hb);obtain ⟨⟨y0,y1,y2,y3⟩,n0,n1,n2,n3⟩:=ZdP HZ2.out;have HK2:=Zq hk2;have HZL:=Zq hzl;clear hb hk2 hzl;go_wp2;(try rw [Yae]);have h4:=ZdP (ZdM HZ2.out (.int .i64 e.op) (.int .i64 e.n) (.string ⟨e.s.toArray⟩) (.slice ka e.ks.length kc));refine Yaf (v := .tuple #[.agg #[.int .i64 e.op,.int .i64 e.n,.string ⟨e.s.toArray⟩,.slice ka e.ks.length kc],.bool true]) (by simp [results,Tryz.results38,go_sem,h4.1]) rfl ?_;refine ⟨Zhx HB2.out Zs _ _ _ _,ka,kc,rfl,HK2.out.mono fun q o hq=>?_⟩;have hq2:(if W0.heap.size<=q then W.heap[q]? else none)=some o:=hq;split at hq2
  . rename_i hle;have hne:q≠w.heap.size:=(by have:=HZL.out; omega);show (if w.heap.size<=q then _ else none)=some o;rw [if_pos (by have:=HZL.out; omega),<-hq2];exact ZdN hne _ _ _ _
  . cases hq2
theorem Zoz {b:Nat} (o:OV) (i:Int) (w:World) (h:∀ W,Below w.heap.size w W->Calls Tryz.prog 61 #[.pointer (some ⟨b,0,none⟩),.int .i64 i,.int .i64 2] W (exprPost o W)) :
 Calls Tryz.prog 37 #[.pointer (some ⟨b,0,none⟩),.int .i64 i] w (exprPost o w):=by
 have HB:=Zq ((Yab w.heap.size w).alloc Zs zEx);have HZ:=Zq (Yac w zEx);have HE:=Zq (h _ HB.out);unfold exprPost at HE |-;clear h;go_in;go_upto_region 1 with fail;generalize w.alloc zEx=W0 at *;cases o with
 | none =>simp only at HE |-;go_wp2_with fail;refine HE.out.mono ?_;rintro r W ⟨hb,rfl⟩;have hzl:=(Yaa.1 HZ.out).1;have HZ2:=Zq ((hb.block _ hzl).trans HZ.out);have HB2:=Zq (HB.out.seq hb);obtain ⟨⟨y0,y1,y2,y3⟩,n0,n1,n2,n3⟩:=ZdP HZ2.out;clear hb hzl;go_wp2;(try rw [Yae]);have h4:=ZdP (ZdM HZ2.out (.int .i64 0) (.int .i64 0) (.string ⟨#[]⟩) (.slice none 0 0));refine Yaf (v := .tuple #[.agg #[.int .i64 0,.int .i64 0,.string ⟨#[]⟩,.slice none 0 0],.bool false]) (by simp [results,Tryz.results37,go_sem,h4.1]) rfl ?_;exact ⟨Zhx HB2.out Zs _ _ _ _,rfl⟩
 | some y =>
  obtain ⟨e,v⟩:=y;simp only at HE |-;go_wp2_with fail;refine HE.out.mono ?_;rintro r W ⟨hb,ka,kc,rfl,hk2⟩;have hzl:=(Yaa.1 HZ.out).1;have HZ2:=Zq ((hb.block _ hzl).trans HZ.out);have HB2:=Zq (HB.out.seq hb);obtain ⟨⟨y0,y1,y2,y3⟩,n0,n1,n2,n3⟩:=ZdP HZ2.out;have HK2:=Zq hk2;have HZL:=Zq hzl;clear hb hk2 hzl;go_wp2;(try rw [Yae]);have h4:=ZdP (ZdM HZ2.out (.int .i64 e.op) (.int .i64 e.n) (.string ⟨e.s.toArray⟩) (.slice ka e.ks.length kc));refine Yaf (v := .tuple #[.agg #[.int .i64 e.op,.int .i64 e.n,.string ⟨e.s.toArray⟩,.slice ka e.ks.length kc],.bool true]) (by simp [results,Tryz.results37,go_sem,h4.1]) rfl ?_;refine ⟨Zhx HB2.out Zs _ _ _ _,ka,kc,rfl,HK2.out.mono fun q o hq=>?_⟩;have hq2:(if W0.heap.size<=q then W.heap[q]? else none)=some o:=hq;split at hq2
  . rename_i hle;have hne:q≠w.heap.size:=(by have:=HZL.out; omega);show (if w.heap.size<=q then _ else none)=some o;rw [if_pos (by have:=HZL.out; omega),<-hq2];exact ZdN hne _ _ _ _
  . cases hq2
attribute [local go_sem ↓] Go.wp_at_zero Go.wp_at_succ
theorem ZoA {W:World} {B:Nat} {x0 x1 x2 x3 x4:Value} {T:TypeId} (h:W.heap[B]?=some (.cells #[x0,x1,x2,x3,x4] T (0,0))) (y0 y1 y2 y3 y4:Value) :
 (((((W.setCell ⟨B,0,none⟩ y0).setCell ⟨B,1,none⟩ y1).setCell ⟨B,2,none⟩ y2).setCell ⟨B,3,none⟩ y3).setCell ⟨B,4,none⟩ y4).heap[B]?=some (.cells #[y0,y1,y2,y3,y4] T (0,0)):=by simp [World.setCell,Yap,h]
theorem ZoB {n:Nat} {a W:World} (h:Below n a W) {B:Nat} (hB:n<=B) (y0 y1 y2 y3 y4:Value):Below n a (((((W.setCell ⟨B,0,none⟩ y0).setCell ⟨B,1,none⟩ y1).setCell ⟨B,2,none⟩ y2).setCell ⟨B,3,none⟩ y3).setCell ⟨B,4,none⟩ y4) :=
 (Zhx h hB y0 y1 y2 y3).setCell (p:=⟨B,4,none⟩) hB _
theorem ZoC {W:World} {B:Nat} {x0 x1 x2 x3 x4:Value} {T:TypeId} (h:W.heap[B]?=some (.cells #[x0,x1,x2,x3,x4] T (0,0))) :
 W.frozen? ⟨B,0,none⟩=false/\W.frozen? ⟨B,1,none⟩=false/\W.frozen? ⟨B,2,none⟩=false/\W.frozen? ⟨B,3,none⟩=false/\W.frozen? ⟨B,4,none⟩=false:=by simp [World.frozen?,h]
theorem ZoD (f:Fd) (a b c:OV) (nv:Value):(fdCells f a b c nv)[0]?=some (.string ⟨f.n.toArray⟩)/\(fdCells f a b c nv)[1]?=some (.int .i64 f.t)/\(fdCells f a b c nv)[2]?=some (.string ⟨f.fo.toArray⟩)/\(fdCells f a b c nv)[3]?=some (.string ⟨f.ru.toArray⟩)/\(fdCells f a b c nv)[4]?=some (.string ⟨f.sh.toArray⟩):=⟨rfl,rfl,rfl,rfl,rfl⟩
theorem ZoE {b:Nat} {F:Form} (w:World) (s:SchV (gh w) b F) (i:Nat) (f:Fd) (hf:F.l[i]?=some f) (h24:F.l.length<=24) :
 Calls Tryz.prog 44 #[.pointer (some ⟨b,0,none⟩),.int .i64 i] w fun e w'=>e = .returned (.tuple #[fdV f,.bool true])/\Below w.heap.size w w':=by
 have HB:=Zq ((Yab w.heap.size w).alloc Zs (.cells #[.string ⟨#[]⟩,.int .i64 0,.string ⟨#[]⟩,.string ⟨#[]⟩,.string ⟨#[]⟩] 53));have HZ:=Zq (Yac w (.cells #[.string ⟨#[]⟩,.int .i64 0,.string ⟨#[]⟩,.string ⟨#[]⟩,.string ⟨#[]⟩] 53));obtain ⟨g,cap,mb,ov,xs,nds,p⟩:=s;have p0:=p.mono (Zah HB.out);obtain ⟨b0,-,-⟩:=ZjW (h:=gh w) p0;have hi:i<F.l.length:=(Yag.1 hf).1;have c0:=ZjX p0 hf (j:=0) (ZoD _ _ _ _ _).1;have c1:=ZjX p0 hf (j:=1) (ZoD _ _ _ _ _).2.1;have c2:=ZjX p0 hf (j:=2) (ZoD _ _ _ _ _).2.2.1;have c3:=ZjX p0 hf (j:=3) (ZoD _ _ _ _ _).2.2.2.1;have c4:=ZjX p0 hf (j:=4) (ZoD _ _ _ _ _).2.2.2.2;rw [Nat.add_zero] at c0;have q1:¬ (i:Int)<0:=by omega
 have q2:¬ (F.l.length:Int)<=(i:Int):=by omega
 have q3:¬ F.l.length<=i:=by omega
 have q4:(i:Int)<(F.l.length:Int):=by omega
 have q5:(0:Int)<=(i:Int):=by omega
 unfold fdV;obtain ⟨fn,ft,fo,ru,sh⟩:=f;simp only at c0 c1 c2 c3 c4 |-;clear p p0 hf;generalize F.l.length=n at *;go_in;go_upto_region 1 with fail;generalize w.alloc (.cells #[.string ⟨#[]⟩,.int .i64 0,.string ⟨#[]⟩,.string ⟨#[]⟩,.string ⟨#[]⟩] 53)=W0 at *;obtain ⟨y0,y1,y2,y3,y4⟩:=ZgB HZ.out;obtain ⟨n0,n1,n2,n3,n4⟩:=ZoC HZ.out;go_wp2;try rw [Yae]
 have h5:=ZgB (ZoA HZ.out (.string ⟨fn.toArray⟩) (.int .i64 ft) (.string ⟨fo.toArray⟩) (.string ⟨ru.toArray⟩) (.string ⟨sh.toArray⟩));refine Yaf (v := .tuple #[.agg #[.string ⟨fn.toArray⟩,.int .i64 ft,.string ⟨fo.toArray⟩,.string ⟨ru.toArray⟩,.string ⟨sh.toArray⟩],.bool true]) (by simp [results,Tryz.results44,go_sem,h5]) rfl ?_;exact ⟨rfl,ZoB HB.out Zs _ _ _ _ _⟩
attribute [local go_sem ↓] Go.wp_at_zero Go.wp_at_succ
theorem ZoF {h:GH} {o:OV} (hk:∀ y,o=some y->KV h y.2 y.1.ks):∀ v∈exOf o,v.oneCell'=true:=by
 cases o with
 | none=>intro v hv; simp [exOf] at hv; rcases hv with rfl|rfl|rfl|rfl<;>rfl
 | some y =>obtain ⟨a,c,hv⟩:=(hk y rfl).form;obtain ⟨e,v⟩:=y;simp only at hv;subst hv;intro v hv; simp [exOf] at hv; rcases hv with rfl|rfl|rfl|rfl<;>rfl
theorem ZoG {h:GH} (f:Fd) {a b c:OV} (ha:∀ y,a=some y->KV h y.2 y.1.ks) (hb:∀ y,b=some y->KV h y.2 y.1.ks) (hc:∀ y,c=some y->KV h y.2 y.1.ks) (va:Option Addr) (n vc:Nat):∀ v∈fdCells f a b c (.slice va n vc),v.oneCell'=true:=by
 intro v hv;unfold fdCells at hv;simp only [List.mem_append] at hv;rcases hv with (((h|h)|h)|h)|h
 . simp at h; rcases h with rfl|rfl|rfl|rfl|rfl<;>rfl
 . exact ZoF ha v h
 . exact ZoF hb v h
 . exact ZoF hc v h
 . simp at h; rcases h with rfl|rfl|rfl|rfl<;>rfl
theorem ZoH:∃ d,Tryz.prog.underlying 87=some d/\d.isRow=true:=by
 have h:(Tryz.prog.underlying 87).map TypeDesc.isRow=some true:=by kernel_rfl
 cases hq:Tryz.prog.underlying 87 with
 | none=>rw [hq] at h; cases h
 | some d=>rw [hq] at h; exact ⟨d,rfl,by simpa using h⟩
theorem ZoI:(Tryz.prog.info? 87).map (·.size)=some 21:=by kernel_rfl
theorem ZoJ {b:Nat} {F:Form} (w:World) (s:SchV (gh w) b F) (h24:F.l.length<=24) (hni:∀ i,i<F.l.length->∃ nd,F.needs[i]?=some nd) :
 Calls Tryz.prog 60 #[.pointer (some ⟨b,0,none⟩)] w (textsPost (Fd.names F.l) w):=by
 obtain ⟨g,cap,mb,ov,xs,nds,p⟩:=s;obtain ⟨b0,-,-⟩:=ZjW (h:=gh w) p;have HP:=Zq p;have HNI:=Zq hni;obtain ⟨n,hn⟩:∃ n,F.l.length=n:=⟨_,rfl⟩;rw [hn] at b0 h24;obtain ⟨dd,hdd,hddr⟩:=ZoH;have HDD:=Zq hdd;have HDR:=Zq hddr;obtain ⟨i0,hi,hz0,hz1,hz2⟩:=ZgF;have HN:=Zq hn;unfold textsPost;clear p hn hni hdd hddr;go_in;go_wp2_with fail;clear b0;go_loopg [3,11] n (fun g2 u3 i W=>∃ (k:Nat) (t:Tag),i = .int .i64 k/\k+g2=n/\Hid (Row t 1 W 9 1 u3 k (cellsS (Fd.names (F.l.take k))))/\Hid (Evo T0 w t W (·≠0)));case atStart=>exact ⟨0,T0,rfl,by omega,Zq (Row.nil _ _ _ _ _),Zq (Ybg _ _ _)⟩
 case round =>
  obtain ⟨k,t,rfl,hg,HR,HE⟩:=hrel;have hb:Below w.heap.size w wr:=HE.out.toBelow (by simp);by_cases hlt:k<n
  . obtain ⟨f,hf⟩:∃ f,F.l[k]?=some f:=⟨_,Yad (by have:=HN.out; omega)⟩;obtain ⟨x,hx⟩:∃ x,xs[k]?=some x:=⟨_,Yad (by rw [HP.out.xlen]; have:=HN.out; omega)⟩;obtain ⟨v,hv⟩:∃ v,nds[k]?=some v:=⟨_,Yad (by rw [HP.out.nlen]; have:=HN.out; omega)⟩;obtain ⟨nd,hnd⟩:=HNI.out k (by have:=HN.out; omega);obtain ⟨va,vc,rfl,-⟩:=Zd0 (HP.out.needs k v nd hv hnd);have hxd:xs.getD k noX=x:=(by simp [List.getD,hx]);have hnd2:nds.getD k nilS = .slice va nd.length vc:=(by simp [List.getD,hv]);have hka:=HP.out.ka x (Yay hx);have HT:Hid (F.l.take (k+1)=F.l.take k++[f]):=Zq (by rw [List.take_add_one,hf]; rfl);obtain ⟨C,hC⟩:∃ C,fdCells f x.1 x.2.1 x.2.2 (.slice va nd.length vc)=C:=⟨_,rfl⟩;have hcl:wr.rangeAt g (k*21) C:=fun j u hu=>ZjX (HP.out.mono (Zah hb)) hf (j:=j) (v:=u) (by rw [hxd,hnd2,hC]; exact hu);have h21:C.length=21:=(by rw [<-hC]; exact ZgA _ _ _ _ _);have hone:∀ u∈C,u.oneCell'=true:=(by rw [<-hC]; exact ZoG f hka.1 hka.2.1 hka.2.2 va nd.length vc);have hc0:C[0]?=some (.string ⟨f.n.toArray⟩):=(by rw [<-hC]; exact (ZoD _ _ _ _ _).1);have hsz:C.toArray.size=21:=(by simp [h21]);have HRA:=Zq hcl;have hki:(0:Int)<=(k:Int):=(by omega);have hst:=run_storeAt_new (P:=Tryz.prog) wr 87 #[.string ⟨#[]⟩,.int .i64 0,.string ⟨#[]⟩,.string ⟨#[]⟩,.string ⟨#[]⟩,.int .i64 0,.int .i64 0,.string ⟨#[]⟩,.slice none 0 0,.int .i64 0,.int .i64 0,.string ⟨#[]⟩,.slice none 0 0,.int .i64 0,.int .i64 0,.string ⟨#[]⟩,.slice none 0 0,.bool false,.bool false,.bool false,.slice none 0 0] C.toArray (by rw [hsz]; exact ZoI) (by rw [hsz]; rfl) (all_oneCell_toArray hone);have HST:=Zq hst;have hnew:(wr.alloc (.cells C.toArray 87)).cell? ⟨wr.heap.size,0,none⟩=some (.string ⟨f.n.toArray⟩):=(by rw [cell_of_row _ _ 0 C.toArray _ (0,0) (heap_alloc_last wr _)]; rw [List.getElem?_toArray]; exact hc0);have HRN:=Zq (HR.out.keep ((Ybg t wr (fun _=>False)).alloc 0 (.cells C.toArray 87)) (fun h=>h));have HEN:Hid (Evo T0 w (t.set wr.heap.size 0) (wr.alloc (.cells C.toArray 87)) (·≠0)):=Zq (HE.out.trans ((Ybg t wr (·≠0)).alloc 0 _));have H21:Hid ((Tryz.prog.info? 87).map (·.size)=some C.length):=Zq (by rw [h21]; exact ZoI);clear hst HR HE hb hf hx hv hnd hxd hnd2 hka hcl h21 hone hc0 hC hsz;go_wp2_with (first|(refine wpList_load_mid (op:=⟨_,_,_,_,_,_⟩) rfl _ _ rfl _ _ rfl C _ HRA.out HDD.out HDR.out H21.out ?_)|(refine Zay (o:=⟨none,_,_,_,_,_⟩) rfl rfl _ _ _ rfl rfl rfl HST.out ?_)|(at_builtin; refine Zac rfl _ _ 93 rfl 9 i0 _ 1 16 Tryz.underlying93 hi hz0 hz1 hz2 rfl (by decide) rfl HRN.out #[.string ⟨f.n.toArray⟩] 9 (0,0) _ rfl ?c0 rfl ?c1 ?c2 ?c3 ?_));(case c0=>simp);(case c1=>first|rfl|(intro u hu; obtain rfl:=List.mem_singleton.1 hu; rfl));(case c2=>unfold maxLen; omega);(case c3=>omega);intro v' t' w' hr he;have HR2:Hid (Row t' 1 w' 9 1 v' (k+1) (cellsS (Fd.names (F.l.take (k+1))))):=Zq (by rw [HT.out]; unfold Fd.names; rw [Ybe,ZfD]; simp only [List.map_cons,List.map_nil]; exact hr);have HE2:Hid (Evo T0 w t' w' (·≠0)):=Zq (HEN.out.trans (he.mono fun _ h=>by rw [h]; decide));clear hr he hnew HRA H21 HST HRN HEN;go_wp2_with fail;go_roundg (gk - 1);(case rel=>exact ⟨k+1,t',by go_num,by omega,HR2,HE2⟩);case measure=>omega
  . obtain rfl:k=n:=(by omega);have HB:=Zq hb;clear hb;go_wp2;go_ret;have hr:=HR.out;rw [<-HN.out,List.take_length] at hr;refine ⟨HB.out,_,rfl,?_⟩;rw [ZfC] at hr;exact (StrsV.ofRow hr).1
end Go.Proofs.YtikannmgllejfaaGreatDoor
