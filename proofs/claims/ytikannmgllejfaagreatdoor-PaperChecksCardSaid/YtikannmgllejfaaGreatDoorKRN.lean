/- The walks of the document's look, Check. -/
import Derived.Test.YtikannmgllejfaaGreatDoorKR1
import Derived.Test.YtikannmgllejfaaGreatDoorKVc
import Derived.Deep.RegionHeld3
set_option maxHeartbeats 8000000
set_option maxRecDepth 1000000
set_option linter.all false
namespace Go.Proofs.YtikannmgllejfaaGreatDoor
open Go.RowKit Pal
def NB (W:World) (b:Nat) (c:Int):Prop:=W.heap[b]?=some (.cells #[.int .i64 c] 3 (0,0))
theorem NB.cells {W:World} {b:Nat} {c:Int} (h:NB W b c):W.cell? ⟨b,0,none⟩=some (.int .i64 c)/\W.frozen? ⟨b,0,none⟩=false/\b<W.heap.size:=by unfold NB at h;exact ⟨by simp [World.cell?,h],by simp [World.frozen?,h],(Yaa.1 h).1⟩
theorem NB.keep {W W':World} {b:Nat} {c:Int} (h:NB W b c) (hb:Below W.heap.size W W'):NB W' b c:=by unfold NB at *;rw [hb.block _ (Yaa.1 h).1]; exact h
theorem NB.set {W:World} {b:Nat} {c:Int} (h:NB W b c) (x:Int):NB (W.setCell ⟨b,0,none⟩ (.int .i64 x)) b x:=by unfold NB at *;simp [World.setCell,Yap,h]
def lookPost (r:Option Nat) (b:Nat) (w:World) (e:Ending) (w':World):Prop :=
 But b w w'/\match r with|some m=>e = .returned (.bool true)/\m<=128/\NB w' b (128 - m)|none=>e = .returned (.bool false)
def exO (op n:Int) (s:Bs) (v:Value):Obj := cEx op n s v
structure LkW (w wr:World) (b:Nat) (op n:Int) (s:Bs) (v:Value) (c:Int):Prop where
 but:But b w wr
 box:wr.heap[w.heap.size]?=some (exO op n s v)
 num:NB wr b c
 hlt:b<w.heap.size
theorem LkW.call {w wr W:World} {b:Nat} {op n:Int} {s:Bs} {v:Value} {c:Int} (h:LkW w wr b op n s v c) (hb:Below wr.heap.size wr W):LkW w W b op n s v c :=
 ⟨h.but.call hb,(hb.block _ (Yaa.1 h.box).1).trans h.box,h.num.keep hb,h.hlt⟩
theorem LkW.kid {w wr W:World} {b:Nat} {op n:Int} {s:Bs} {v:Value} {c c':Int} (h:LkW w wr b op n s v c) (hb:But b wr W) (hn:NB W b c'):LkW w W b op n s v c' :=
 ⟨h.but.trans hb,(hb.block _ (Yaa.1 h.box).1 (by have:=h.hlt; omega)).trans h.box,hn,h.hlt⟩
theorem LkW.cells {w wr:World} {b:Nat} {op n:Int} {s:Bs} {v:Value} {c:Int} (h:LkW w wr b op n s v c) :
 (wr.cell? ⟨w.heap.size,0,none⟩=some (.int .i64 op)/\wr.cell? ⟨w.heap.size,1,none⟩=some (.int .i64 n)/\wr.cell? ⟨w.heap.size,2,none⟩=some (.string ⟨s.toArray⟩)/\wr.cell? ⟨w.heap.size,3,none⟩=some v) /\
 wr.cell? ⟨b,0,none⟩=some (.int .i64 c)/\wr.frozen? ⟨b,0,none⟩=false:=by have h1:=h.box;unfold exO at h1;exact ⟨(ZdP h1).1,h.num.cells.1,h.num.cells.2.1⟩
theorem LkW.start {w:World} {b:Nat} (op n:Int) (s:Bs) (v:Value) {c:Int} (h:NB w b c) (x:Int) :
 LkW w ((w.setCell ⟨b,0,none⟩ (.int .i64 x)).alloc (cEx op n s v)) b op n s v x:=by have hlt:=h.cells.2.2;refine ⟨((But.refl b w).setPb 0 _).alloc _,?_,(h.set x).keep ((Yab _ _).alloc Zs _),hlt⟩;have:=Yac (w.setCell ⟨b,0,none⟩ (.int .i64 x)) (cEx op n s v);rw [show (w.setCell ⟨b,0,none⟩ (.int .i64 x)).heap.size=w.heap.size by simp [World.setCell]] at this;exact this
def headM (op n:Int) (s:Bs) (len:Nat):Bool:=decide ((len:Int)=arity op)&&plainM op n s
theorem ZmP {op n:Int} {s:Bs} {ks:List Ex} (h:headM op n s ks.length=false):alone op n s ks=false:=by rw [Zl2,<-Bool.and_assoc];unfold headM at h;rw [h]; rfl
theorem ZmQ (op n:Int) (s:Bs) (a:Option Addr) (len cap:Nat) (deep c b:Nat) (w:World) (hN:NB w b c) (h:(128<=c\/24<deep)\/(c<128/\deep<=24/\headM op n s len=false)) (hc:c<=128) (hd:deep<=1000) (hm:s.length<=9223372036854775806) :
 Calls Tryz.prog 144 #[.agg #[.int .i64 op,.int .i64 n,.string ⟨s.toArray⟩,.slice a len cap],.int .i64 deep,.pointer (some ⟨b,0,none⟩)] w (lookPost none b w):=by
 obtain ⟨n0,n1,hlt⟩:=hN.cells;have a0:=Zdw hlt n0;have hfr:∀ o:Obj,(w.alloc o).frozen? ⟨b,0,none⟩=false:=fun o=>(hN.keep ((Yab _ _).alloc Zs o)).cells.2.1;have hne:¬ w.heap.size=b:=by omega
 have HX:=Zq (LkW.start op n s (.slice a len cap) hN ((c:Int)+1));clear hN;go_in;go_upto_region 2 with fail;generalize (w.setCell ⟨b,0,none⟩ (.int .i64 ((c:Int)+1))).alloc (cEx op n s (.slice a len cap))=X at *;clear a0 hfr n0 n1;obtain ⟨⟨x0,x1,x2,x3⟩,y0,y1⟩:=HX.out.cells;obtain ⟨c1,hc1⟩:∃ c1:Int,(c:Int)+1=c1:=⟨_,rfl⟩;rw [hc1] at HX y0;rcases h with (h1|h1)|⟨h1,h2,h3⟩
 . have h1':128<c1:=(by omega);clear hc1;go_quiet ((fail));go_wp2;go_ret;exact ⟨HX.out.but.drewN _,rfl⟩
 . by_cases h1c:128<c1
   . clear hc1;go_quiet ((fail));go_wp2;go_ret;exact ⟨HX.out.but.drewN _,rfl⟩
   . have h1':24<(deep:Int):=(by omega);clear hc1;go_quiet ((fail));go_wp2;go_ret;exact ⟨HX.out.but.drewN _,rfl⟩
 . have ha:=fun w=>Zl1 op w;unfold headM at h3;have hpl:=fun w=>Zl3 op n s a len cap w hm;obtain ⟨ar,har⟩:∃ ar,arity op=ar:=⟨_,rfl⟩;obtain ⟨pm,hpm⟩:∃ pm,plainM op n s=pm:=⟨_,rfl⟩;rw [har,hpm] at h3;simp only [har] at ha;simp only [hpm] at hpl;have HA:=Zq ha;have HPL:=Zq hpl;have g1:¬ 128<c1:=(by omega);have g2:¬ 24<(deep:Int):=(by omega);have g2':¬ 24<deep:=(by omega);clear ha hpl har hpm hc1;by_cases har0:ar<0
   . clear h3;go_quiet ((go_at_call 196; exact Calls.quiet_of_same (HA.out _)));go_wp2;go_ret;exact ⟨HX.out.but.drewN _,rfl⟩
   . by_cases hlen:(len:Int)=ar
     . have hpf:pm=false:=(by rw [Yam hlen,Bool.true_and] at h3; exact h3);subst hpf;have q:((len:Int) != ar)=false:=(by simp [hlen]);have HLEN:=Zq hlen;clear h3 hlen;have j1:decide (ar<0)=false:=Yaj har0;have j2:decide (128<c1)=false:=Yaj g1;have j3:decide (24<(deep:Int))=false:=Yaj g2;have j4:decide (24<deep)=false:=Yaj g2';go_region_held3 (fun w'=>(w'.cell? ⟨b,0,none⟩=some (.int .i64 c1)/\w'.cell? ⟨w.heap.size,0,none⟩=some (.int .i64 op)/\w'.cell? ⟨w.heap.size,1,none⟩=some (.int .i64 n)/\w'.cell? ⟨w.heap.size,2,none⟩=some (.string ⟨s.toArray⟩)/\w'.cell? ⟨w.heap.size,3,none⟩=some (.slice a len cap))) (go_keep)
        ((first
         | (go_at_call 196; refine (HA.out _).mono ?_; rintro r W2 ⟨rfl,rfl⟩)
         | (go_at_call 197; refine (HPL.out _).mono ?_; rintro r W2 ⟨rfl,hb2⟩; have HX2:=Zq (HX.out.call ((Yab _ _).drew.seq hb2)); obtain ⟨⟨z0,z1,z2,z3⟩,z4,z5⟩:=HX2.out.cells; clear hb2)))
       all_goals go_wp2;go_ret;exact ⟨HX2.out.but,rfl⟩
     . have q:((len:Int) != ar)=true:=Yao.2 hlen;clear h3 hlen;go_quiet ((go_at_call 196; exact Calls.quiet_of_same (HA.out _)));go_wp2;go_ret;exact ⟨HX.out.but.drewN _,rfl⟩
theorem KV.atB {w:World} {b0:Nat} {a:Option Addr} {n cap:Nat} {ks:List Ex} (t:KV (gb b0 w) (.slice a n cap) ks) {j:Nat} {k:Ex} (hj:ks[j]?=some k) :
 ∃ b off u,a=some ⟨b,off,none⟩/\w.cell? ⟨b,off+j*4,none⟩=some (.int .i64 k.op)/\w.cell? ⟨b,off+j*4+1,none⟩=some (.int .i64 k.n)/\w.cell? ⟨b,off+j*4+2,none⟩=some (strV k.s)/\w.cell? ⟨b,off+j*4+3,none⟩=some u/\KV (gb b0 w) u k.ks:=by
 generalize hv:Value.slice a n cap=v at t;cases t with
 | mk _ a' cap' us hn hc hm hx hk =>simp only [Yaq] at hv;obtain ⟨rfl,rfl,rfl⟩:=hv;obtain ⟨b,off,ha,h0,h1,h2,h3⟩:=hx j k hj;exact ⟨b,off,us j,ha,(Zdu b0 w).at h0,(Zdu b0 w).at h1,(Zdu b0 w).at h2,(Zdu b0 w).at h3,hk j k hj⟩
theorem ZmR (e:Ex):∀ (v:Value) (deep c left b:Nat) (w:World),Fine e->c+left=128->deep<=25->NB w b c->KV (gb b w) v e.ks ->
 Calls Tryz.prog 144 #[exV e.op e.n e.s v,.int .i64 deep,.pointer (some ⟨b,0,none⟩)] w (lookPost (chk e deep left) b w):=by
 refine Ex.ind (P:=fun e=>∀ (v:Value) (deep c left b:Nat) (w:World),Fine e->c+left=128->deep<=25->NB w b c->KV (gb b w) v e.ks ->
  Calls Tryz.prog 144 #[exV e.op e.n e.s v,.int .i64 deep,.pointer (some ⟨b,0,none⟩)] w (lookPost (chk e deep left) b w)) ?_ e
 intro op n s ks ih v deep c left b w hF hcl hd hN hK;simp only [Ex.op,Ex.n,Ex.s,Ex.ks] at hK |-;obtain ⟨a,cap,rfl⟩:=hK.form;have hs:=hF.kids.1;unfold exV strV;by_cases hbad:(128<=c\/24<deep)\/(c<128/\deep<=24/\headM op n s ks.length=false)
 . have hno:chk (.mk op n s ks) deep left=none:=by
    refine Zdn ?_;rcases hbad with (h|h)|⟨_,_,h⟩
    . exact .inl (by omega)
    . exact .inr (.inl h)
    . exact .inr (.inr (ZmP h))
   rw [hno];exact ZmQ op n s a ks.length cap deep c b w hN hbad (by omega) (by omega) (by omega)
 have hc1:c<128:=by apply Classical.byContradiction;intro h; exact hbad (.inl (.inl (by omega)))
 have hd2:deep<=24:=by apply Classical.byContradiction;intro h; exact hbad (.inl (.inr (by omega)))
 have hh:headM op n s ks.length=true:=by
  cases h:headM op n s ks.length with
  | true=>rfl
  | false=>exact absurd (.inr ⟨hc1,hd2,h⟩) hbad
 have hal:alone op n s ks=decide (op=22->kidOp ks=4):=by rw [Zl2,<-Bool.and_assoc];unfold headM at hh;rw [hh,Bool.true_and]
 have hR:chk (.mk op n s ks) deep left=if alone op n s ks=false then none else chkL ks (deep+1) (left - 1):=by
  by_cases h:alone op n s ks=false
  . rw [if_pos h,Zdn (.inr (.inr h))]
  . rw [if_neg h,Zdo (by rintro (h'|h'|h'); omega; omega; exact h h')]
 have hkc:=hK.cap;have ha:=fun w=>Zl1 op w;have hpl:=fun w=>Zl3 op n s a ks.length cap w (by omega);have har:arity op=ks.length:=by unfold headM at hh;rw [Bool.and_eq_true,decide_eq_true_eq] at hh;exact hh.1.symm
 have hpm:plainM op n s=true:=by unfold headM at hh;rw [Bool.and_eq_true] at hh;exact hh.2
 simp only [har] at ha;simp only [hpm] at hpl;have HA:=Zq ha;have HPL:=Zq hpl;have HRR:=Zq hR;have HAL:=Zq hal;have HAR:=Zq har;have HF:=Zq hF.kids.2;have HI:=Zq ih;have HK:=Zq hK;obtain ⟨n0,n1,hlt⟩:=hN.cells;have a0:=Zdw hlt n0;have hfr:∀ o:Obj,(w.alloc o).frozen? ⟨b,0,none⟩=false:=fun o=>(hN.keep ((Yab _ _).alloc Zs o)).cells.2.1;have hne:¬ w.heap.size=b:=by omega
 have HX:=Zq (LkW.start op n s (.slice a ks.length cap) hN ((c:Int)+1));obtain ⟨R,hRe⟩:∃ R,chk (.mk op n s ks) deep left=R:=⟨_,rfl⟩;obtain ⟨X0,hX0⟩:∃ X0,chkL ks (deep+1) (left - 1)=X0:=⟨_,rfl⟩;rw [hRe,hX0] at HRR;rw [hRe];have HX0:=Zq hX0;clear hRe hX0;obtain ⟨len,hlen⟩:∃ len,ks.length=len:=⟨_,rfl⟩;have HLEN:=Zq hlen;rw [hlen] at HA HPL HK HX hkc |-;obtain ⟨c1,hc1e⟩:∃ c1:Nat,c+1=c1:=⟨_,rfl⟩;have hc1i:(c:Int)+1=(c1:Int):=by omega
 have HC1:=Zq hc1e;clear hN hbad hh hal hR ha hpl har hpm hF ih hK hlen hc1e;go_in;go_upto_region 2 with fail;rw [hc1i] at HX;try rw [hc1i]
 generalize (w.setCell ⟨b,0,none⟩ (.int .i64 (c1:Int))).alloc (cEx op n s (.slice a len cap))=X at *;clear a0 hfr n0 n1 hc1i;obtain ⟨⟨x0,x1,x2,x3⟩,y0,y1⟩:=HX.out.cells;have g1:¬ 128<(c1:Int):=by have:=HC1.out; omega
 have g1':¬ 128<c1:=by omega
 have g2:¬ 24<(deep:Int):=by omega
 have g2':¬ 24<deep:=by omega
 have g3:¬ (len:Int)<0:=by omega
 have q:((len:Int) != (len:Int))=false:=by simp
 have j1:decide ((len:Int)<0)=false:=Yaj g3;have j2:decide (128<(c1:Int))=false:=Yaj g1;have j2':decide (128<c1)=false:=Yaj g1';have j3:decide (24<(deep:Int))=false:=Yaj g2;have j4:decide (24<deep)=false:=Yaj g2';go_region_held3 (fun w'=>(w'.cell? ⟨b,0,none⟩=some (.int .i64 c1)/\w'.cell? ⟨w.heap.size,0,none⟩=some (.int .i64 op)/\w'.cell? ⟨w.heap.size,1,none⟩=some (.int .i64 n)/\w'.cell? ⟨w.heap.size,2,none⟩=some (.string ⟨s.toArray⟩)/\w'.cell? ⟨w.heap.size,3,none⟩=some (.slice a len cap))) (go_keep)
  ((first
   | (go_at_call 196; refine (HA.out _).mono ?_; rintro r W2 ⟨rfl,rfl⟩)
   | (go_at_call 197; refine (HPL.out _).mono ?_; rintro r W2 ⟨rfl,hb2⟩; have HX2:=Zq (HX.out.call ((Yab _ _).drew.seq hb2)); obtain ⟨⟨z0,z1,z2,z3⟩,z4,z5⟩:=HX2.out.cells; clear hb2)))
 all_goals
  clear x0 x1 x2 x3 y0 y1 g1 g1' g2 g2' g3 q HA HPL HX j1 j2 j2' j3 j4;go_wp2;clear z0 z1 z2 z3 z4 z5;go_loopg [7] len (fun g i wr=>∃ (k cc m:Nat),i = .int .i64 k/\Hid (LkW w wr b op n s (.slice a len cap) cc)/\cc+m=128/\k+g=len/\Hid (chkL (ks.drop k) (deep+1) m=X0)/\Hid (op=22->∀ j x,j<k->ks[j]?=some x->x.op=4));(case atStart=>exact ⟨0,c1,left - 1,rfl,HX2,by have:=HC1.out; omega,by omega,HX0,Zq (fun _ j x hj=>by omega)⟩);case round =>
   obtain ⟨k,cc,m,rfl,HW,hcm,hg,HC,H22⟩:=hrel;obtain ⟨⟨z0,z1,z2,z3⟩,z4,z5⟩:=HW.out.cells;by_cases hlt2:k<len
   . have hkl:k<ks.length:=(by have:=HLEN.out; omega);obtain ⟨bb,off,u,rfl,d0,d1,d2,d3,hKu⟩:=KV.atB (HK.out.mono HW.out.but.gb) (Yad hkl);obtain ⟨ua,uc,rfl⟩:=hKu.form;have hdr:ks.drop k=ks[k]::ks.drop (k+1):=Yas hkl;have hmem:ks[k]∈ks:=List.getElem_mem hkl;have hgk:=Yad hkl;have HGK:=Zq hgk;have hcc:=HC.out;rw [hdr,Zdm] at hcc;have HCC:=Zq hcc;have hlx:=HI.out ks[k] hmem (.slice ua ks[k].ks.length uc) (deep+1) cc m b wr (HF.out _ hmem) hcm (by omega) HW.out.num hKu;rw [show (((deep+1:Nat)):Int)=(deep:Int)+1 from by omega] at hlx;unfold lookPost exV strV at hlx;unfold strV at d2;have HLX:=Zq hlx;have HKO:Hid (len=1->op=22->k=0):=Zq (fun h _=>by omega);have hkc2:=hkc;clear hdr hgk hcc hlx hKu HC;generalize ks[k]=y at *;have hno:(chk y (deep+1) m=none\/(op=22/\¬ y.op=4))->R=none:=fun h=>by
      rw [HRR.out];split
      . rfl
      . rename_i hal;rcases h with h|⟨h,h'⟩
        . rw [<-HCC.out,h]; rfl
        . exfalso;apply hal;rw [HAL.out,decide_eq_false_iff_not];intro hh;have har:=HAR.out;rw [h,show arity 22=1 by decide] at har;have hk0:=HKO.out (by have:=HLEN.out; omega) h;subst hk0;have:=hh h
          match ks,HGK.out with
          | q::_,hq =>simp at hq;subst hq;exact h' this
     have HNO:=Zq hno;clear hno;have hway:(((op == 22)=true/\(y.op != 4)=true)/\R=none)\/((((op == 22)=true/\(y.op != 4)=false)\/(op == 22)=false)/\(op=22->y.op=4)):=by
      by_cases h22:op=22
      . by_cases h4:y.op=4
        . exact .inr ⟨.inl ⟨by simp [h22],by simp [h4]⟩,fun _=>h4⟩
        . exact .inl ⟨⟨by simp [h22],Yao.2 h4⟩,HNO.out (.inr ⟨h22,h4⟩)⟩
      . exact .inr ⟨.inr (Zr h22),fun h=>absurd h h22⟩
     rcases hway with ⟨⟨w1,w2⟩,hR⟩|⟨hw,hop⟩
     . have HR:=Zq hR;clear hR;go_wp2;(try rw [Yae]);go_ret;unfold lookPost;rw [HR.out];exact ⟨HW.out.but,rfl⟩
     . have HOP:=Zq hop;clear hop;cases hch:chk y (deep+1) m with
       | none =>have HR:=Zq (HNO.out (.inl hch));rw [hch] at HLX;clear hch;rcases hw with ⟨w1,w2⟩|w1;all_goals go_wp2_with fail;refine HLX.out.mono ?_;rintro e W3 ⟨hb3,rfl⟩;have HB3:=Zq (HW.out.but.trans hb3);clear hb3;go_wp2;(try rw [Yae]);go_ret;unfold lookPost;rw [HR.out];exact ⟨HB3.out,rfl⟩
       | some x =>
        rw [hch] at HLX HCC;have HCC2:Hid (chkL (ks.drop (k+1)) (deep+1) x=X0):=Zq (by rw [<-HCC.out]; rfl);have H22':Hid (op=22->∀ j z,j<k+1->ks[j]?=some z->z.op=4):=Zq (fun h j z hj hz=>by
         by_cases hjk:j<k
         . exact H22.out h j z hjk hz
         . obtain rfl:j=k:=(by omega);rw [HGK.out] at hz;obtain rfl:=Option.some.inj hz;exact HOP.out h)
        clear hch;rcases hw with ⟨w1,w2⟩|w1;all_goals go_wp2_with fail;refine HLX.out.mono ?_;rintro e W3 ⟨hb3,rfl,hx128,hnb⟩;have HW3:Hid (LkW w W3 b op n s _ ((128 - x:Nat):Int)):=Zq (HW.out.kid hb3 (by rw [show (((128 - x:Nat)):Int)=128 - (x:Int) by omega]; exact hnb));clear hb3 hnb;go_wp2;go_roundg (gk - 1);(case rel=>exact ⟨k+1,128 - x,x,by go_num,HW3,by omega,by omega,HCC2,H22'⟩);case measure=>omega
   . have hnil:ks.drop k=[]:=Yar (by have:=HLEN.out; omega);have HE:Hid (R=some m):=Zq (by
      rw [HRR.out,if_neg ?_]
      . rw [<-HC.out,hnil,Zdl]
      . rw [HAL.out,decide_eq_false_iff_not,Classical.not_not];intro h;have har:=HAR.out;rw [h,show arity 22=1 by decide] at har;have hl1:=HLEN.out;have hk1:0<k:=(by omega);have h22:=H22.out h;clear hl1
        match ks,h22,har with
        | q::r,hq,_=>exact hq 0 q hk1 rfl
        | [],_,hh=>simp at hh)
     clear hnil;go_wp2;go_ret;unfold lookPost;rw [HE.out];refine ⟨HW.out.but,rfl,by omega,?_⟩;have:=HW.out.num;rw [show (128:Int) - (m:Int)=(cc:Int) by omega];exact this
theorem ZmS (e:Ex) (v:Value) (w:World) (hF:Fine e) (hE:EV (gh w) v e) :
 Calls Tryz.prog 102 #[v] w fun r w'=>r = .returned (.bool (check e))/\Below w.heap.size w w':=by
 obtain ⟨kv,rfl,hK⟩:=hE;obtain ⟨a,cap,rfl⟩:=hK.form;have hb:=(Yab w.heap.size w).alloc Zs (cEx e.op e.n e.s (.slice a e.ks.length cap));have hb2:=hb.alloc hb.size (.cells #[.int .i64 0] 3);have hnb:NB ((w.alloc (cEx e.op e.n e.s (.slice a e.ks.length cap))).alloc (.cells #[.int .i64 0] 3)) (w.heap.size+1) 0:=by have:=Yac (w.alloc (cEx e.op e.n e.s (.slice a e.ks.length cap))) (.cells #[.int .i64 0] 3);simpa [NB] using this
 have hkb:KV (gb (w.heap.size+1) ((w.alloc (cEx e.op e.n e.s (.slice a e.ks.length cap))).alloc (.cells #[.int .i64 0] 3))) (.slice a e.ks.length cap) e.ks:=by refine KV.mono ?_ hK;intro b o h;have hlt:=(Yaa.1 h).1;unfold gb;rw [if_neg (by omega),hb2.block _ hlt];exact h
 have hl:=ZmR e (.slice a e.ks.length cap) 1 0 128 (w.heap.size+1) _ hF (by omega) (by omega) hnb hkb;have HC:Hid (check e=(chk e 1 128).isSome):=Zq rfl;unfold exV strV lookPost at hl;have HL:=Zq hl;have HB:=Zq hb2;have hbx:=Yah (w.alloc (cEx e.op e.n e.s (.slice a e.ks.length cap))) (.cells #[.int .i64 0] 3) w.heap.size (by simp);have hbx2:=hbx.trans (Yac w _);have HBX:=Zq hbx2;clear hl hkb hnb hb hb2 hbx hbx2;unfold exV strV;cases hc:chk e 1 128 with
 | none =>rw [hc] at HL HC;clear hc;go_in;go_wp2_with fail;refine HL.out.mono ?_;rintro r W ⟨hbt,rfl⟩;have HBT:=Zq hbt;go_wp2;go_ret;refine ⟨by rw [HC.out]; rfl,?_⟩;have hx:=HBT.out;have hh:=HB.out;exact ⟨hx.os.trans hh.os,hx.tape.trans hh.tape,hx.output.trans hh.output,Nat.le_trans hh.size hx.size,fun b hb=>(hx.block b (Nat.lt_of_lt_of_le hb hh.size) (by omega)).trans (hh.block b hb)⟩
 | some m =>rw [hc] at HL HC;clear hc;go_in;go_wp2_with fail;refine HL.out.mono ?_;rintro r W ⟨hbt,rfl,-,-⟩;have HBT:=Zq hbt;go_wp2;go_ret;refine ⟨by rw [HC.out]; rfl,?_⟩;have hx:=HBT.out;have hh:=HB.out;exact ⟨hx.os.trans hh.os,hx.tape.trans hh.tape,hx.output.trans hh.output,Nat.le_trans hh.size hx.size,fun b hb=>(hx.block b (Nat.lt_of_lt_of_le hb hh.size) (by omega)).trans (hh.block b hb)⟩
end Go.Proofs.YtikannmgllejfaaGreatDoor
