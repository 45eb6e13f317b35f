/- The walks of the document's num, name. -/
import Derived.Test.YtikannmgllejfaaGreatDoorKRF
import Derived.Test.YtikannmgllejfaaGreatDoorKVc
import Derived.Deep.RegionHeld3
set_option maxHeartbeats 4000000
set_option maxRecDepth 1000000
set_option linter.all false
namespace Go.Proofs.YtikannmgllejfaaGreatDoor
open Go.RowKit Pal
def tkPost (B:Nat) (s:Bs) (pv:Value) (p:Nat) (w:World) (e:Ending) (w':World):Prop :=
 But B w w'/\match tok1 (s.drop p) with
  | some (kd,ts,n,z)=>e = .returned (.tuple #[tokV kd ts n p,.bool true])/\∃ k',LSt w' B s pv k' (p+z)
  | none=>∃ kd ts n,e = .returned (.tuple #[tokV kd ts n p,.bool false])
structure TW (w wr:World) (B TB:Nat) (s:Bs) (pv:Value) (k q:Nat) (kd:Int) (ts:Bs) (n:Int) (p:Nat):Prop where
 st:LSt wr B s pv k q
 but:But B w wr
 res:TkB wr w.heap.size 0 [] 0 0
 tok:TkB wr TB kd ts n p
 h1:B<w.heap.size
 h2:w.heap.size<TB
theorem TW.call {w wr W2:World} {B TB:Nat} {s:Bs} {pv:Value} {k q:Nat} {kd:Int} {ts:Bs} {n:Int} {p:Nat} (h:TW w wr B TB s pv k q kd ts n p) (hb:Below wr.heap.size wr W2):TW w W2 B TB s pv k q kd ts n p :=
 ⟨h.st.keep hb,h.but.call hb,h.res.keep hb,h.tok.keep hb,h.h1,h.h2⟩
theorem TW.esc {w wr W2:World} {B TB:Nat} {s:Bs} {pv:Value} {k q k' q':Nat} {kd:Int} {ts:Bs} {n:Int} {p:Nat} (h:TW w wr B TB s pv k q kd ts n p) (hb:But B wr W2) (hl:LSt W2 B s pv k' q'):TW w W2 B TB s pv k' q' kd ts n p :=
 ⟨hl,h.but.trans hb,h.res.but hb (by have:=h.h1; omega),h.tok.but hb (by have:=h.h1; have:=h.h2; omega),h.h1,h.h2⟩
theorem TW.setK {w wr:World} {B TB:Nat} {s:Bs} {pv:Value} {k q:Nat} {kd:Int} {ts:Bs} {n:Int} {p:Nat} (h:TW w wr B TB s pv k q kd ts n p) (x:Int) {k' q':Nat} (e:x=k') (ha:AtP s k' q'):TW w (wr.setCell ⟨B,2,none⟩ (.int .i64 x)) B TB s pv k' q' kd ts n p :=
 ⟨h.st.set x e ha,h.but.setPb 2 _,h.res.other (by have:=h.h1; simp; omega) _,h.tok.other (by have:=h.h1; have:=h.h2; simp; omega) _,h.h1,h.h2⟩
theorem TW.setN {w wr:World} {B TB:Nat} {s:Bs} {pv:Value} {k q:Nat} {kd:Int} {ts:Bs} {n:Int} {p:Nat} (h:TW w wr B TB s pv k q kd ts n p) (m:Int):TW w (wr.setCell ⟨TB,2,none⟩ (.int .i64 m)) B TB s pv k q kd ts m p :=
 ⟨h.st.other (by have:=h.h1; have:=h.h2; simp; omega) _,h.but.setNew (by have:=h.h2; simp; omega) _,h.res.other (by have:=h.h2; simp; omega) _,h.tok.setN m,h.h1,h.h2⟩
theorem TW.setS {w wr:World} {B TB:Nat} {s:Bs} {pv:Value} {k q:Nat} {kd:Int} {ts:Bs} {n:Int} {p:Nat} (h:TW w wr B TB s pv k q kd ts n p) (us:Bs):TW w (wr.setCell ⟨TB,1,none⟩ (.string ⟨us.toArray⟩)) B TB s pv k q kd us n p :=
 ⟨h.st.other (by have:=h.h1; have:=h.h2; simp; omega) _,h.but.setNew (by have:=h.h2; simp; omega) _,h.res.other (by have:=h.h2; simp; omega) _,h.tok.setS us,h.h1,h.h2⟩
theorem TW.drew {w wr:World} {B TB:Nat} {s:Bs} {pv:Value} {k q:Nat} {kd:Int} {ts:Bs} {n:Int} {p:Nat} (h:TW w wr B TB s pv k q kd ts n p):TW w wr.drew B TB s pv k q kd ts n p:=h.call (Yab _ _).drew
theorem TW.cells {w wr:World} {B TB:Nat} {s:Bs} {pv:Value} {k q:Nat} {kd:Int} {ts:Bs} {n:Int} {p:Nat} (h:TW w wr B TB s pv k q kd ts n p) :
 (wr.cell? ⟨TB,0,none⟩=some (.int .i64 kd)/\wr.cell? ⟨TB,1,none⟩=some (.string ⟨ts.toArray⟩)/\wr.cell? ⟨TB,2,none⟩=some (.int .i64 n)/\wr.cell? ⟨TB,3,none⟩=some (.int .i64 p))/\(wr.frozen? ⟨TB,1,none⟩=false/\wr.frozen? ⟨TB,2,none⟩=false) /\
 (wr.cell? ⟨w.heap.size,0,none⟩=some (.int .i64 0)/\wr.cell? ⟨w.heap.size,1,none⟩=some (.string ⟨#[]⟩)/\wr.cell? ⟨w.heap.size,2,none⟩=some (.int .i64 0)/\wr.cell? ⟨w.heap.size,3,none⟩=some (.int .i64 0))/\(wr.frozen? ⟨w.heap.size,0,none⟩=false/\wr.frozen? ⟨w.heap.size,1,none⟩=false/\wr.frozen? ⟨w.heap.size,2,none⟩=false/\wr.frozen? ⟨w.heap.size,3,none⟩=false):=by have a:=h.tok;have b:=h.res;unfold TkB at a b;exact ⟨(ZdP a).1,⟨(ZdP a).2.2.1,(ZdP a).2.2.2.1⟩,(ZdP b).1,(ZdP b).2⟩
theorem TW.done {w wr:World} {B TB:Nat} {s:Bs} {pv:Value} {k q:Nat} {kd:Int} {ts:Bs} {n:Int} {p:Nat} (h:TW w wr B TB s pv k q kd ts n p) {W:World} (hW:W=((((wr.setCell ⟨w.heap.size,0,none⟩ (.int .i64 kd)).setCell ⟨w.heap.size,1,none⟩ (.string ⟨ts.toArray⟩)).setCell ⟨w.heap.size,2,none⟩ (.int .i64 n)).setCell ⟨w.heap.size,3,none⟩ (.int .i64 p))) :
 LSt W B s pv k q/\But B w W/\(W.cell? ⟨w.heap.size,0,none⟩=some (.int .i64 kd)/\W.cell? ⟨w.heap.size,1,none⟩=some (.string ⟨ts.toArray⟩)/\W.cell? ⟨w.heap.size,2,none⟩=some (.int .i64 n)/\W.cell? ⟨w.heap.size,3,none⟩=some (.int .i64 p)):=by
 subst hW;have b:=h.res;unfold TkB at b;have hn:w.heap.size≠B:=by have:=h.h1; omega
 exact ⟨(((h.st.other hn _).other hn _).other hn _).other hn _,h.but.set4 Zs _ _ _ _,(ZdP (ZdM b _ _ _ _)).1⟩
theorem Zld (w:World):TkB (w.alloc (.cells #[.int .i64 0,.string ⟨#[]⟩,.int .i64 0,.int .i64 0] 114)) w.heap.size 0 [] 0 0:=Yac w _
theorem TW.make {w W:World} {B:Nat} {s:Bs} {pv:Value} {k q:Nat} (h:LSt w B s pv k q) (hb:Below (w.alloc (.cells #[.int .i64 0,.string ⟨#[]⟩,.int .i64 0,.int .i64 0] 114)).heap.size (w.alloc (.cells #[.int .i64 0,.string ⟨#[]⟩,.int .i64 0,.int .i64 0] 114)) W) (kd:Int) (p:Nat) :
 TW w (W.alloc (.cells #[.int .i64 kd,.string ⟨#[]⟩,.int .i64 0,.int .i64 p] 114)) B W.heap.size s pv k q kd [] 0 p:=by have hs:=hb.size;have hbn:Below W.heap.size W (W.alloc (.cells #[.int .i64 kd,.string ⟨#[]⟩,.int .i64 0,.int .i64 p] 114)):=(Yab _ _).alloc Zs _;exact ⟨((h.alloc _).keep hb).alloc _,(((But.refl B w).alloc _).call hb).alloc _,((Zld w).keep hb).keep hbn,Yac W _,h.cells.2.2.2.2,by simp at hs; omega⟩
theorem Zle {l:Bs} {n:Int} {ok:Bool} (h:cls (rn l)=2) (hn:l≠[]) :
 numR (l.take (run 2 2 l)) n ok=(if (9223372036854775807 - (rn l - 48)) / 10<n then numR ((l.drop 1).take (run 2 2 (l.drop 1))) n false else numR ((l.drop 1).take (run 2 2 (l.drop 1))) (n*10+(rn l - 48)) ok):=by obtain ⟨h1,h2,h3⟩:=Zkj hn h;have h4:=Zki h;rw [h1,Zkk,h2,h4.2.1]
theorem Zlf {l:Bs} (hn:l≠[]) (hc:cls (rn l)=2) :
 (∃ v,tok1 l=some (1,[],v,run 2 2 l)/\numR (l.take (run 2 2 l)) 0 true=(v,true))\/(tok1 l=none/\(numR (l.take (run 2 2 l)) 0 true).2=false):=by
 have hne:l.take (run 2 2 l)≠[]:=by rw [(Zkj hn hc).1]; simp
 have h:=Zke hne (Zbl _ l Zs);unfold tok1;rw [if_pos hc];cases hv:numOf (l.take (run 2 2 l)) with
 | none=>rw [hv] at h; exact .inr ⟨rfl,h⟩
 | some v=>rw [hv] at h; exact .inl ⟨v,rfl,h⟩
theorem Zlg {a b:Int} {s:Bs} {q:Nat} (h:¬ (clsAt s q=a\/clsAt s q=b)):run a b (s.drop q)=0:=by
 by_cases hq:q<s.length
 . rw [Zk8 hq] at h; exact Za4 h
 . rw [Yar (by omega),Za3]
theorem Zlh (s:Bs) (B k p:Nat) (pv:Value) (w:World) (hs:s.length<=1000000) (h:LSt w B s pv k p) (hP:PsV (gb B w) pv s) (hp:p<s.length) (hc:cls (rn (s.drop p))=2) :
 Calls Tryz.prog 137 #[.pointer (some ⟨B,0,none⟩)] w (tkPost B s pv p w):=by
 have hT:=Zq (Zlf (Zkf hp) hc);obtain ⟨a,cap,rfl⟩:=hP.form;obtain ⟨R,hR⟩:∃ R,numR ((s.drop p).take (run 2 2 (s.drop p))) 0 true=R:=⟨_,rfl⟩;obtain ⟨z,hz⟩:∃ z,run 2 2 (s.drop p)=z:=⟨_,rfl⟩;have HR:=Zq hR;have HZ:=Zq hz;have HP:=Zq hP;have HS:=Zq h;have hcl:=Zbk s;have hb0:Below w.heap.size w (w.alloc (.cells #[.int .i64 0,.string ⟨#[]⟩,.int .i64 0,.int .i64 0] 114)):=(Yab _ _).alloc Zs _;have HH:=Zq (Zlc s B k p _ _ hs (h.keep hb0) (hP.mono (But.below hb0).gb));have HCC:=Zq (fun k p w h hP=>Zlb s B k p (.slice a (cnt s) cap) w hs h hP);have HLT:=Zq (fun k p (h:AtP s k p)=>h.lt);generalize cnt s=n at *;have hn1:n<=1000000:=by omega
 clear hR hz h hP hc hs hb0;go_in;go_wp2_with fail;refine HH.out.mono ?_;rintro e W ⟨rfl,hb⟩;have HTW:=Zq (TW.make HS.out hb 1 p);clear hb HH HS;go_wp2;go_loopg [5] s.length (fun g ok wr=>∃ (k q:Nat) (m:Int) (b:Bool),ok = .bool b/\Hid (TW w wr B W.heap.size s (.slice a n cap) k q 1 [] m p)/\Hid (numR ((s.drop q).take (run 2 2 (s.drop q))) m b=R) /\
  (0<=m/\m<=9223372036854775807)/\Hid (q+run 2 2 (s.drop q)=p+z)/\s.length<=q+g/\q<=s.length)
 case atStart=>exact ⟨k,p,0,true,rfl,HTW,HR,⟨by omega,by omega⟩,Zq (by rw [HZ.out]),by omega,by omega⟩
 case round =>
  obtain ⟨k2,q,m,b,rfl,HL,HN,hm,HQ,hg,hq⟩:=hrel;have hP2:=HP.out.mono HL.out.but.gb;go_wp2_with fail;refine (HCC.out k2 q wr HL.out.st hP2).mono ?_;rintro e W2 ⟨rfl,hb2⟩;have HL2:=Zq (HL.out.call hb2);clear hb2 hP2 HL;obtain ⟨⟨t0,t1,t2,t3⟩,⟨tf1,tf2⟩,⟨r0,r1,r2,r3⟩,g0,g1,g2,g3⟩:=HL2.out.cells;by_cases hc:clsAt s q=2
  . obtain ⟨hql,hcq⟩:=Zla hc (by omega);have hlow:=Zki hcq;have hr2:=cls_2.1 hcq;have hnr:=Zle (n:=m) (ok:=b) hcq (Zkf hql);have hrun:=(Zkj (Zkf hql) hcq).2.2;have hst:=HL2.out.st.at'.step hql;rw [hlow.1] at hst;rw [List.drop_drop] at hnr hrun;rw [HN.out] at hnr;have HRUN:Hid (q+1+run 2 2 (s.drop (q+1))=p+z):=Zq (by have:=HQ.out; omega);have HST:=Zq hst;have hkl:k2<n:=(HLT.out _ _ HL2.out.st.at').2 hql;have hPg:PsV (gh W2) (.slice a n cap) s:=(HP.out.mono HL2.out.but.gb).mono (Zdu B W2);obtain ⟨bb,off,rfl,-,-,d2,-⟩:=hPg.at HL2.out.st.at' hql;obtain ⟨-,c1,c2,f2,-⟩:=HL2.out.st.cells;have hne1:¬ W.heap.size=B:=(by have:=HL2.out.h1; have:=HL2.out.h2; omega);have hne2:¬ B=W.heap.size:=fun h=>hne1 h.symm;generalize rn (s.drop q)=r at *;clear hcq hlow hrun hst hPg HQ HN t0 t1 t3 tf1 r0 r1 r2 r3 g0 g1 g2 g3;rw [hc];clear hc;by_cases hov:(9223372036854775807 - (r - 48)) / 10<m
    . rw [if_pos hov] at hnr;have HNR:=Zq hnr;clear hnr;go_wp2;go_region;go_wp2;go_roundg (gk - 1);(case rel=>exact ⟨k2+1,q+1,m,false,rfl,Zq (HL2.out.setK _ (by omega) HST.out).drew,Zq HNR.out.symm,hm,HRUN,by omega,by omega⟩);case measure=>omega
    . rw [if_neg hov] at hnr;have HNR:=Zq hnr;have hm2:m*10+(r - 48)<=9223372036854775807:=(by omega);clear hnr;go_wp2;go_region;go_wp2;go_roundg (gk - 1);(case rel=>exact ⟨k2+1,q+1,m*10+(r - 48),b,rfl,Zq ((HL2.out.setN _).setK _ (by omega) HST.out).drew,Zq HNR.out.symm,⟨by omega,hm2⟩,HRUN,by omega,by omega⟩);case measure=>omega
  . have q1:(clsAt s q == 2)=false:=Zr hc;have h0:=Zlg (a:=2) (b:=2) (fun h=>hc (h.elim id id));have HE:Hid (R=(m,b)/\q=p+z):=Zq ⟨by rw [<-HN.out,h0,List.take_zero,numR],by have:=HQ.out; omega⟩;clear hc h0 HN HQ;go_wp2;have hd:=HL2.out.done rfl;refine Yaf (v := .tuple #[.agg #[.int .i64 1,.string ⟨#[]⟩,.int .i64 m,.int .i64 p],.bool b]) (by simp [results,Tryz.results137,go_sem,hd.2.2]) rfl ?_;refine ⟨hd.2.1,?_⟩;obtain ⟨hRm,hqz⟩:=HE.out;rcases hT.out with ⟨v,ht,hv⟩|⟨ht,hv⟩
    . rw [HR.out,hRm] at hv;simp only [Yaw] at hv;obtain ⟨rfl,rfl⟩:=hv;rw [ht,HZ.out];exact ⟨rfl,k2,by rw [<-hqz]; exact hd.1⟩
    . rw [HR.out,hRm] at hv;simp only at hv;subst hv;rw [ht];exact ⟨1,[],m,rfl⟩
theorem Zli {W:World} {b:Nat} {v x:Value} (h:W.cell? ⟨b,3,none⟩=some x):(W.setCell ⟨b,1,none⟩ v).cell? ⟨b,3,none⟩=some x:=by
 unfold World.cell? at *;simp only [World.setCell,Yap,if_true] at *;cases hb:W.heap[b]? with
 | none=>rw [hb] at h; simp at h
 | some o =>rw [hb] at h;cases o<;>simp_all
theorem Zlj {W:World} {b B i j:Nat} {v x:Value} (hne:¬ B=b) (h:W.cell? ⟨B,i,none⟩=some x):(W.setCell ⟨b,j,none⟩ v).cell? ⟨B,i,none⟩=some x:=by unfold World.cell? at *;rw [Yat _ _ _ _ (fun e=>hne e)];exact h
theorem Zlk (s:Bs) (p q:Nat):(ByteArray.extract ⟨s.toArray⟩ p q)=⟨((s.drop p).take (q - p)).toArray⟩:=by apply ByteArray.ext;simp [ByteArray.data_extract,List.extract]
theorem Zll {l:Bs} (hc:cls (rn l)=1):tok1 l=if run 1 2 l<=24 then some (3,l.take (run 1 2 l),0,run 1 2 l) else none:=by unfold tok1;rw [if_neg (by omega),if_pos hc]
theorem Zlm (s:Bs) (B k p:Nat) (pv:Value) (w:World) (hs:s.length<=1000000) (h:LSt w B s pv k p) (hP:PsV (gb B w) pv s) (hp:p<s.length) (hc:cls (rn (s.drop p))=1) :
 Calls Tryz.prog 138 #[.pointer (some ⟨B,0,none⟩)] w (tkPost B s pv p w):=by
 have hT:=Zq (Zll hc);obtain ⟨a,cap,rfl⟩:=hP.form;obtain ⟨z,hz⟩:∃ z,run 1 2 (s.drop p)=z:=⟨_,rfl⟩;have HZ:=Zq hz;have HP:=Zq hP;have HS:=Zq h;have hcl:=Zbk s;have hb0:Below w.heap.size w (w.alloc (.cells #[.int .i64 0,.string ⟨#[]⟩,.int .i64 0,.int .i64 0] 114)):=(Yab _ _).alloc Zs _;have HH:=Zq (fun k p w h hP=>Zlc s B k p (.slice a (cnt s) cap) w hs h hP);have HH0:=Zq (Zlc s B k p _ _ hs (h.keep hb0) (hP.mono (But.below hb0).gb));have HCC:=Zq (fun k p w h hP=>Zlb s B k p (.slice a (cnt s) cap) w hs h hP);have HLT:=Zq (fun k p (h:AtP s k p)=>h.lt);generalize cnt s=n at *;have hn1:n<=1000000:=by omega
 clear hz hc h hP hb0;go_in;go_wp2_with fail;refine HH0.out.mono ?_;rintro e W ⟨rfl,hb⟩;have HTW:=Zq (TW.make HS.out hb 3 p);clear hb HH0 HS;go_wp2;go_loopg [] s.length (fun g wr=>∃ (k q:Nat),Hid (TW w wr B W.heap.size s (.slice a n cap) k q 3 [] 0 p)/\Hid (q+run 1 2 (s.drop q)=p+z)/\s.length<=q+g/\p<=q/\q<=s.length);case atStart=>exact ⟨k,p,HTW,Zq (by rw [HZ.out]),by omega,by omega,by omega⟩
 case round =>
  obtain ⟨k2,q,HL,HQ,hg,hpq,hq⟩:=hrel;have hP2:=HP.out.mono HL.out.but.gb;go_wp2_with fail;refine (HCC.out k2 q wr HL.out.st hP2).mono ?_;rintro e W2 ⟨rfl,hb2⟩;have HL2:=Zq (HL.out.call hb2);clear hb2 hP2 HL;have hgo:(clsAt s q=1\/clsAt s q=2)->q<s.length/\q+wd (s.drop q)<=s.length/\1<=wd (s.drop q)/\q+wd (s.drop q)+run 1 2 (s.drop (q+wd (s.drop q)))=p+z/\AtP s (k2+1) (q+wd (s.drop q)):=(by intro hc;have hql:q<s.length:=(by rcases hc with hc|hc<;>exact (Zla hc (by omega)).1);have hcq:cls (rn (s.drop q))=1\/cls (rn (s.drop q))=2:=(by rw [Zk8 hql] at hc; exact hc);have h1:=Za5 (Zkf hql) hcq;have h2:=ZaS (Zkf hql);have h3:=ZaQ (s.drop q);rw [Yav] at h2;rw [List.drop_drop] at h1;have:=HQ.out;exact ⟨hql,by omega,by omega,by omega,HL2.out.st.at'.step hql⟩);have HGO:=Zq hgo;clear hgo;by_cases hc:clsAt s q=1
  . obtain ⟨hql,g1,g2,g3,g4⟩:=HGO.out (.inl hc);have HR:=Zq g3;have HST:=Zq g4;obtain ⟨-,c1,c2,f2,-⟩:=HL2.out.st.cells;have hkl:k2<n:=(HLT.out _ _ HL2.out.st.at').2 hql;rw [hc];clear hc g3 g4 HGO HQ;generalize wd (s.drop q)=u at *;go_wp2;go_roundg (gk - 1);(case rel=>exact ⟨k2+1,q+u,Zq (HL2.out.setK _ (by omega) HST.out),HR,by omega,by omega,by omega⟩);case measure=>omega
  . have q1:(clsAt s q == 1)=false:=Zr hc;have hP3:=HP.out.mono HL2.out.but.gb;go_wp2_with fail;refine (HCC.out k2 q W2 HL2.out.st hP3).mono ?_;rintro e W3 ⟨rfl,hb3⟩;have HL3:=Zq (HL2.out.call hb3);clear hb3 hP3 HL2;by_cases hc2:clsAt s q=2
    . obtain ⟨hql,g1,g2,g3,g4⟩:=HGO.out (.inr hc2);have HR:=Zq g3;have HST:=Zq g4;obtain ⟨-,c1,c2,f2,-⟩:=HL3.out.st.cells;have hkl:k2<n:=(HLT.out _ _ HL3.out.st.at').2 hql;rw [hc2];clear hc hc2 g3 g4 HGO HQ q1;generalize wd (s.drop q)=u at *;go_wp2;go_roundg (gk - 1);(case rel=>exact ⟨k2+1,q+u,Zq (HL3.out.setK _ (by omega) HST.out),HR,by omega,by omega,by omega⟩);case measure=>omega
    . have q2:(clsAt s q == 2)=false:=Zr hc2;have h0:=Zlg (a:=1) (b:=2) (fun h=>h.elim hc hc2);have HE:Hid (q=p+z):=Zq (by have:=HQ.out; omega);have hP3:=Zq (HP.out.mono HL3.out.drew.but.gb);obtain ⟨⟨t0,t1,t2,t3⟩,⟨tf1,tf2⟩,-,-⟩:=HL3.out.cells;obtain ⟨c0,-,-,-,-⟩:=HL3.out.st.cells;have hne1:¬ W.heap.size=B:=(by have:=HL3.out.h1; have:=HL3.out.h2; omega);have hne2:¬ B=W.heap.size:=fun h=>hne1 h.symm;have hne3:¬ w.heap.size=W.heap.size:=(by have:=HL3.out.h1; have:=HL3.out.h2; omega);obtain ⟨sb,hsb⟩:∃ sb:ByteArray,(⟨s.toArray⟩:ByteArray)=sb:=⟨_,rfl⟩;have HX:Hid (sb.extract p q=⟨((s.drop p).take (q - p)).toArray⟩):=Zq (by rw [<-hsb]; exact Zlk s p q);have hqs:q<=sb.size:=(by rw [<-hsb]; simpa [ByteArray.size] using hq);rw [hsb] at c0;have HSB:=Zq hsb;clear hc hc2 h0 HQ HGO t0 t1 t2 hsb;go_wp2;go_region_held3 (fun w'=>(w'.cell? ⟨B,0,none⟩=some (.string sb)/\w'.cell? ⟨W.heap.size,3,none⟩=some (.int .i64 p))) (((try dsimp only); (repeat' apply And.intro); all_goals (first|go_keep|exact Zlj hne2 v0|exact Zli u3)))
       ((go_at_call 192; refine (HH.out k2 q W3.drew HL3.out.drew.st hP3.out).mono ?_; rintro r W4 ⟨rfl,hb4⟩; have HL4:=Zq (HL3.out.drew.call hb4); obtain ⟨⟨u0,u1,u2,u3⟩,⟨uf1,uf2⟩,-,-⟩:=HL4.out.cells; obtain ⟨v0,-,-,-,-⟩:=HL4.out.st.cells; rw [HSB.out] at v0; clear hb4))
      all_goals
       rw [HX.out];have HL5:=Zq (HL4.out.setS ((s.drop p).take (q - p)));have hln:((s.drop p).take (q - p)).length=z:=(by rw [List.length_take,Yav]; have:=HE.out; omega);obtain ⟨us,hus⟩:∃ us,(s.drop p).take (q - p)=us:=⟨_,rfl⟩;rw [hus] at HL5 hln |-;have HUS:=Zq hus;clear hus;generalize W4.setCell ⟨W.heap.size,1,none⟩ (.string ⟨us.toArray⟩)=W5 at *;clear u0 u1 u2 u3 uf1 uf2 v0 c0 t3 tf1 tf2 HX;obtain ⟨⟨t0,t1,t2,t3⟩,⟨tf1,tf2⟩,⟨r0,r1,r2,r3⟩,g0,g1,g2,g3⟩:=HL5.out.cells;obtain ⟨sb2,hsb2⟩:∃ sb:ByteArray,(⟨us.toArray⟩:ByteArray)=sb:=⟨_,rfl⟩;have hsz2:sb2.size=us.length:=(by rw [<-hsb2]; simp [ByteArray.size]);rw [hsb2] at t1;have HSB2:=Zq hsb2;obtain ⟨zz,hzz⟩:∃ zz,sb2.size=zz:=⟨_,rfl⟩;have hzle:zz<=1000000:=(by have:=HE.out; omega);have HZZ:Hid (zz=z):=Zq (by omega);clear hsb2 hsz2 hln;go_wp2;go_region;go_wp2;rw [<-HSB2.out];have hd:=HL5.out.done rfl;refine Yaf (v := .tuple #[.agg #[.int .i64 3,.string ⟨us.toArray⟩,.int .i64 0,.int .i64 p],.bool (decide ((zz:Int)<=24))]) (by simp [results,Tryz.results138,go_sem,hd.2.2]) rfl ?_;refine ⟨hd.2.1.drew,?_⟩;have ht:=hT.out;rw [HZ.out] at ht;have e1:(s.drop p).take z=us:=(by rw [<-HUS.out]; congr 1; have:=HE.out; omega);rw [e1] at ht;by_cases h24:z<=24
       . rw [if_pos h24] at ht;rw [ht];have hz24:(zz:Int)<=24:=(by have:=HZZ.out; omega);exact ⟨by rw [Yam hz24]; rfl,k2,by rw [<-HE.out]; exact hd.1.keep (Yab _ _).drew⟩
       . rw [if_neg h24] at ht;rw [ht];have hz24:¬ (zz:Int)<=24:=(by have:=HZZ.out; omega);exact ⟨3,us,0,by rw [Yaj hz24]; rfl⟩
end Go.Proofs.YtikannmgllejfaaGreatDoor
