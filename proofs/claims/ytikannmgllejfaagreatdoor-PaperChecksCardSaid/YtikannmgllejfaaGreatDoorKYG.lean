/- The walks of palaverlaw12's both and pick, palaverlaw00. -/
import Derived.Test.YtikannmgllejfaaGreatDoorKYD
import Derived.Test.YtikannmgllejfaaGreatDoorKYC
import Derived.Test.YtikannmgllejfaaGreatDoorKUG
import Derived.Test.YtikannmgllejfaaGreatDoorKNO
set_option maxHeartbeats 8000000
set_option maxRecDepth 1000000
set_option linter.all false
namespace Go.Proofs.YtikannmgllejfaaGreatDoor
open Go.RowKit Pal
attribute [local go_sem ↓] Go.wp_at_zero Go.wp_at_succ
theorem Zr8 {b:Nat} {F:Form} (w:World) (s:SchV (gh w) b F) (P:Paper F) (hL:Lay (gh w)) (vs:List Val) (v:Value) (hV:ValsV (gh w) v vs) (hF:VFine vs) :
 Calls Tryz.prog 11 #[.pointer (some ⟨b,0,none⟩),v] w (ownBPost (truthsM F 2 vs) w):=by have HY:=Zq (Zr5 w s P hL (.inl ⟨rfl,rfl⟩) vs v hV hF);obtain ⟨va,vc,rfl,-⟩:=hV.form;generalize vs.length=m at *;unfold ownBPost at *;clear s P hL hV hF;go_in;go_wp2_with fail;refine HY.out.mono ?_;rintro r W ⟨hb,v,rfl,h⟩;go_wp2;go_ret;exact ⟨hb,_,rfl,h⟩
theorem Zr9 {b:Nat} {F:Form} (w:World) (s:SchV (gh w) b F) (P:Paper F) (hL:Lay (gh w)) (vs:List Val) (v:Value) (hV:ValsV (gh w) v vs) (hF:VFine vs) :
 Calls Tryz.prog 12 #[.pointer (some ⟨b,0,none⟩),v] w (ownBPost (truthsM F 1 vs) w):=by have HY:=Zq (Zr5 w s P hL (.inr ⟨rfl,rfl⟩) vs v hV hF);obtain ⟨va,vc,rfl,-⟩:=hV.form;generalize vs.length=m at *;unfold ownBPost at *;clear s P hL hV hF;go_in;go_wp2_with fail;refine HY.out.mono ?_;rintro r W ⟨hb,v,rfl,h⟩;go_wp2;go_ret;exact ⟨hb,_,rfl,h⟩
section
variable {n0 : Nat} {W W' : World} {v : Value} {l : List Bool}
theorem OwnB.keep (h:OwnB n0 W v l) (hb:Below W.heap.size W W'):OwnB n0 W' v l:=by
 obtain ⟨hl,h⟩:=h;refine ⟨hl,?_⟩;rcases h with h|⟨g,cap,cur,hv,hge,hg,hr⟩
 . exact .inl h
 . exact .inr ⟨g,cap,cur,hv,hge,(hb.block g (Yaa.1 hg).1).trans hg,hr⟩
theorem OwnB.form (h:OwnB n0 W v l):∃ a cap,v = .slice a l.length cap:=by
 rcases h.2 with ⟨hv,h0⟩|⟨g,cap,cur,hv,-⟩
 . exact ⟨none,0,by rw [hv,h0]⟩
 . exact ⟨_,cap,hv⟩
theorem OwnB.at {a:Option Addr} {n cap:Nat} (h:OwnB n0 W (.slice a n cap) l) {j:Nat} {x:Bool} (hj:l[j]?=some x):∃ b,a=some ⟨b,0,none⟩/\W.cell? ⟨b,j,none⟩=some (.bool x):=by
 have hlt:=(Yag.1 hj).1;rcases h.2 with ⟨hv,h0⟩|⟨g,c,cur,hv,hge,hg,h1,h2,h3,h4⟩
 . omega
 . simp only [Yaq] at hv;obtain ⟨rfl,rfl,rfl⟩:=hv;refine ⟨g,rfl,?_⟩;have hx:(l.map Value.bool)[j]?=some (.bool x):=(by rw [Yax,hj]; rfl);rw [<-h4,List.getElem?_take,if_pos (by omega)] at hx;rw [cell_of_row W g j cur _ (0,0) hg];simpa using hx
end
def gateM (F:Form) (l:List Val):Bool:=gateL (truthsM F 2 l) (truthsM F 1 l)
theorem Zsa (a b:Bool) (x y:List Bool):gateL (a::x) (b::y)=((!a || b)&&gateL x y):=rfl
theorem Zsb (F:Form) (k:Nat) (l:List Val):(truthsM F k l).length=F.l.length:=by unfold truthsM; simp
theorem Zsc {b:Nat} {F:Form} (w:World) (s:SchV (gh w) b F) (P:Paper F) (hL:Lay (gh w)) (vs:List Val) (v:Value) (hV:ValsV (gh w) v vs) (hF:VFine vs) :
 Calls Tryz.prog 13 #[.pointer (some ⟨b,0,none⟩),v] w fun r W=>r = .returned (.bool (gateM F vs))/\Below w.heap.size w W:=by
 have HS:=Zq (Zr8 w s P hL vs v hV hF);have HH:=Zq (fun W (hb:Below w.heap.size w W)=>Zr9 W (s.mono (Zah hb)) P (hL.below hb) vs v (hV.mono (Zah hb)) hF);have HX:Hid ((truthsM F 2 vs).length=F.l.length):=Zq (Zsb _ _ _);have HZ:Hid ((truthsM F 1 vs).length=F.l.length):=Zq (Zsb _ _ _);have HG:Hid (gateM F vs=gateL (truthsM F 2 vs) (truthsM F 1 vs)):=Zq rfl;have h24:=P.most;obtain ⟨va,vc,rfl,-⟩:=hV.form;generalize truthsM F 2 vs=A at *;generalize truthsM F 1 vs=B at *;generalize gateM F vs=R at *;generalize vs.length=m at *;generalize F.l.length=n at *;unfold ownBPost at HS HH;clear s P hL hV hF;go_in;go_wp2_with fail;refine HS.out.mono ?_;rintro r W1 ⟨hb1,v1,rfl,ho1⟩;obtain ⟨a1,c1,rfl⟩:=ho1.form;have HB1:=Zq hb1;have HO1:=Zq ho1;rw [HX.out] at HO1 |-;clear hb1 ho1 HS;go_wp2_with fail;refine (HH.out _ HB1.out).mono ?_;rintro r W2 ⟨hb2,v2,rfl,ho2⟩;obtain ⟨a2,c2,rfl⟩:=ho2.form;have HB2:=Zq (HB1.out.seq hb2);have HO2:=Zq ho2;have HO3:=Zq (HO1.out.keep hb2);rw [HZ.out] at HO2 |-;clear hb2 ho2 HH HO1 HB1;go_wp2_with fail;go_loopg [16] n (fun gk i wr=>∃ j:Nat,i = .int .i64 j/\j+gk=n/\wr=W2/\Hid (gateL (A.drop j) (B.drop j)=R));case atStart=>exact ⟨0,rfl,by omega,rfl,Zq HG.out.symm⟩
 case round =>
  obtain ⟨j,rfl,hg,rfl,HR⟩:=hrel;by_cases hlt:j<n
  . have hA:j<A.length:=(by rw [HX.out]; exact hlt);have hB:j<B.length:=(by rw [HZ.out]; exact hlt);obtain ⟨b1,rfl,k1⟩:=HO3.out.at (Yad hA);obtain ⟨b2,rfl,k2⟩:=HO2.out.at (Yad hB);have hr:=HR.out;rw [Yas hA,Yas hB,Zsa] at hr;generalize A[j]=x at *;generalize B[j]=y at *;obtain ⟨gn,rfl⟩:∃ gn,gk=gn+1:=⟨gk - 1,by omega⟩;have hj1:(j:Int)<n:=(by omega);clear hA hB HR;cases x with
    | false =>have HR2:Hid (gateL (A.drop (j+1)) (B.drop (j+1))=R):=Zq (by simpa using hr);clear hr;go_wp2;go_roundg gn;(case rel=>exact ⟨j+1,by go_num,by omega,rfl,HR2⟩);case measure=>omega
    | true =>
     cases y with
     | true =>have HR2:Hid (gateL (A.drop (j+1)) (B.drop (j+1))=R):=Zq (by simpa using hr);clear hr;go_wp2;go_roundg gn;(case rel=>exact ⟨j+1,by go_num,by omega,rfl,HR2⟩);case measure=>omega
     | false =>have HR2:Hid (R=false):=Zq (by simpa using hr.symm);clear hr;go_wp2;(try rw [Yae]);go_ret;exact ⟨by rw [HR2.out]; rfl,HB2.out⟩
  . have hj:j=n:=(by omega);subst hj;have HR2:Hid (R=true):=Zq (by rw [<-HR.out,Yar (by rw [HX.out]; exact Nat.le_refl _)]; rfl);clear HR;go_wp2;go_ret;exact ⟨by rw [HR2.out]; rfl,HB2.out⟩
attribute [local go_sem ↓] Go.wp_at_zero Go.wp_at_succ
def bothPost (F:Form) (w:World) (r:Ending) (W:World):Prop:=Below w.heap.size w W/\∃ b b2,r = .returned (.tuple #[.pointer (some ⟨b,0,none⟩),.pointer (some ⟨b2,0,none⟩),.bool true])/\SchV (gh W) b F/\RefV (gh W) b2 F
theorem Zsd (l:List Fd) (F:Form) (v:Value) (w:World) (hL:Lay (gh w)) (hF:FdsV (gh w) v l) (hl:l.length<=1000000) (hS:∀ f∈l,Short f) (hm:newM l = .ok F) :
 Calls Tryz.prog 7 #[v] w (bothPost F w):=by
 obtain ⟨va,vc,rfl⟩:=hF.form;have HFI:=Zq (Zj6 l (.slice va l.length vc) w hF hl);have HNEW:=Zq (fun v W (hb:Below w.heap.size w W) (h:FdsV (gh W) v l)=>ZjS l v W hl hS (hL.below hb) h);have HRF:=Zq (fun W (hb:Below w.heap.size w W)=>Zoq l (.slice va l.length vc) W hl hS (hF.mono (Zah hb)));unfold fdsPost at HFI;unfold newPost at HNEW;unfold refNewPost at HRF;rw [hm] at HNEW HRF;simp only at HNEW HRF;unfold bothPost;generalize l.length=n at *;clear hF hl hS hm hL;go_in;go_wp2_with fail;refine HFI.out.mono ?_;rintro r W1 ⟨hb1,fv,rfl,hfv⟩;obtain ⟨fa,fc,rfl⟩:=hfv.form;have HB1:=Zq hb1;have HN:=Zq (HNEW.out _ _ hb1 hfv);clear hb1 hfv HNEW HFI;go_wp2_with fail;refine HN.out.mono ?_;rintro r W2 ⟨hb2,b,rfl,hs2⟩;have HB2:=Zq (HB1.out.seq hb2);have HSC:=Zq hs2;clear hb2 hs2 HN;go_wp2_with fail;refine (HRF.out _ HB2.out).mono ?_;rintro r W3 ⟨hb3,b2,rfl,hr3⟩;have HB3:=Zq (HB2.out.seq hb3);have HSC3:=Zq (HSC.out.mono (Zah hb3));have HRV:=Zq hr3;clear hb3 hr3 HRF HSC;go_wp2;try rw [Yae]
 refine Yaf (v := .tuple #[.pointer (some ⟨b,0,none⟩),.pointer (some ⟨b2,0,none⟩),.bool true]) (by simp [results,Tryz.results7,go_sem]) rfl ⟨HB3.out,b,b2,rfl,HSC3.out,HRV.out⟩
theorem Zse {l:List Fd} (h:fewF l=true) (h0:∀ f∈l,Fd0 f):l.length<=1000000/\∀ f∈l,Short f:=by obtain ⟨h1,h2⟩:=Zj3 h;exact ⟨by omega,fun f hf=>⟨by have:=h2 f hf; omega,by have:=h2 f hf; omega,by have:=h2 f hf; omega,by have:=h2 f hf; omega,(h0 f hf).t⟩⟩
def made12Post (l:List Fd) (w:World) (r:Ending) (W:World):Prop:=Below w.heap.size w W/\((∃ F,newM l = .ok F/\∃ b,r = .returned (.pointer (some ⟨b,0,none⟩)))\/r = .returned (.pointer none))
theorem Zsf (l:List Fd) (v:Value) (w:World) (hF:FdsV (gh w) v l) (hl:l.length<=1000000) (hS:∀ f∈l,Short f) :
 Calls Tryz.prog 32 #[v] w (made12Post l w):=by
 obtain ⟨va,vc,rfl⟩:=hF.form;have HRF:=Zq (Zoq l (.slice va l.length vc) w hl hS hF);unfold refNewPost at HRF;unfold made12Post;clear hF hl hS;cases hm:newM l with
 | error z =>obtain ⟨i,e⟩:=z;rw [hm] at HRF;simp only at HRF;have he:(e != 0)=true:=(by have:=ZjK hm; simpa using this);generalize l.length=n at *;clear hm;go_in;go_wp2_with fail;refine HRF.out.mono ?_;rintro r W2 ⟨hb2,rfl⟩;go_wp2;(try rw [Yae]);go_ret;exact ⟨hb2,.inr rfl⟩
 | ok F =>rw [hm] at HRF;simp only at HRF;generalize l.length=n at *;clear hm;go_in;go_wp2_with fail;refine HRF.out.mono ?_;rintro r W2 ⟨hb2,b,rfl,-⟩;go_wp2;(try rw [Yae]);go_ret;exact ⟨hb2,.inl ⟨F,rfl,b,rfl⟩⟩
def pickPost (w:World) (r:Ending) (W:World):Prop:=Below w.heap.size w W/\∃ v l F,r = .returned v/\FdsV (gh W) v l/\l.length<=1000000/\(∀ f∈l,Short f)/\newM l = .ok F
theorem Zsg (l:List Fd) (v:Value) (n:Int) (w:World) (hF:FdsV (gh w) v l) (hlen:l.length<=9223372036854775807) (h0:∀ f∈l,Fd0 f) (hn : -9223372036854775808<=n/\n<=9223372036854775807) :
 Calls Tryz.prog 8 #[v,.int .i64 n] w (pickPost w):=by
 obtain ⟨va,vc,rfl⟩:=hF.form;have HFEW:=Zq (Zj2 l (.slice va l.length vc) w hF hlen (fun f hf=>⟨(h0 f hf).n,(h0 f hf).fo,(h0 f hf).ru,(h0 f hf).sh⟩));have HFO:=Zq (fun W=>ZqT n W hn);have HFN:Hid (∃ F,newM (formM n) = .ok F/\(formM n).length<=1000000/\∀ f∈formM n,Short f):=Zq (by obtain ⟨F,h⟩:=ZqV n; have:=ZqW n; exact ⟨F,h,by omega,this.2.2⟩);have HMA:Hid (fewF l=true->l.length<=1000000/\(∀ f∈l,Short f)):=Zq (fun h=>Zse h h0);have HMD:=Zq (fun h=>Zsf l (.slice va l.length vc) w hF (HMA.out h).1 (HMA.out h).2);have HF:=Zq hF;unfold fdsPost at HFO;unfold made12Post at HMD;unfold pickPost;obtain ⟨ll,hll⟩:∃ ll,l.length=ll:=⟨_,rfl⟩;rw [hll] at HFEW HF HMA HMD |-;have HLL:=Zq hll;clear hF hlen h0 hn hll;have hend:∀ W,Below w.heap.size w W->Calls Tryz.prog 33 #[.int .i64 n] W fun r W'=>Below w.heap.size w W'/\∃ v l F,r = .returned v/\FdsV (gh W') v l/\l.length<=1000000/\(∀ f∈l,Short f)/\newM l = .ok F:=by intro W hb;refine (HFO.out W).mono ?_;rintro r W' ⟨hb',v,rfl,hv⟩;obtain ⟨F,h1,h2,h3⟩:=HFN.out;exact ⟨hb.seq hb',v,_,F,rfl,hv,h2,h3,h1⟩
 have HEND:=Zq hend;clear hend HFO HFN;cases hfew:fewF l with
 | false =>rw [hfew] at HFEW;clear hfew HMD HMA;go_in;go_wp2_with fail;refine HFEW.out.mono ?_;rintro r W ⟨rfl,rfl⟩;go_wp2_with fail;refine (HEND.out _ (Yab _ _)).mono ?_;rintro r W ⟨hb,v,l',F,rfl,hr⟩;obtain ⟨xa,xc,rfl⟩:=hr.1.form;go_wp2;(try rw [Yae]);go_ret;exact ⟨hb,_,l',F,rfl,hr⟩
 | true =>
  rw [hfew] at HFEW;have HM:=Zq (HMD.out hfew);have HS:=Zq (HMA.out hfew);clear hfew HMD HMA;go_in;go_wp2_with fail;refine HFEW.out.mono ?_;rintro r W0 ⟨rfl,hw0⟩;subst hw0;go_wp2_with fail;refine HM.out.mono ?_;rintro r W ⟨hb,⟨F,hm,b,rfl⟩|rfl⟩
  . have HB:=Zq hb;have HMM:=Zq hm;clear hb hm;go_wp2;(try rw [Yae]);go_ret;exact ⟨HB.out,_,l,F,rfl,HF.out.mono (Zah HB.out),by rw [HLL.out]; exact HS.out.1,HS.out.2,HMM.out⟩
  . go_wp2_with fail;refine (HEND.out _ hb).mono ?_;rintro r W ⟨hb,v,l',F,rfl,hr⟩;obtain ⟨xa,xc,rfl⟩:=hr.1.form;go_wp2;(try rw [Yae]);go_ret;exact ⟨hb,_,l',F,rfl,hr⟩
end Go.Proofs.YtikannmgllejfaaGreatDoor
