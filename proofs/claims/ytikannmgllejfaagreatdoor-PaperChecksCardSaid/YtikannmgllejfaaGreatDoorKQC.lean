/- The walks of the document's args; the levels by induction. -/
import Derived.Test.YtikannmgllejfaaGreatDoorKQB
import Derived.Test.YtikannmgllejfaaGreatDoorKVe
import Derived.Test.YtikannmgllejfaaGreatDoorKR1
import Derived.Test.YtikannmgllejfaaGreatDoorKRN
set_option maxHeartbeats 16000000
set_option maxRecDepth 1000000
set_option linter.all false
namespace Go.Proofs.YtikannmgllejfaaGreatDoor
open Go.RowKit Pal
theorem ZmT (pb p:Nat) (toks:List Tok) (tv:Value) (w:World) (op:Int) (hp:XS w pb tv p (-1)) (hT:TokV (gb pb w) tv toks) :
 ArIn w.heap.size pb (w.heap.size+1) T0 tv toks (call0 w op) p (-1) op [] (.slice none 0 0)/\But pb w (call0 w op):=by
 have hB:But pb w (call0 w op):=((But.refl pb w).alloc _).alloc _;have hpl:=hp.cells.2.2.2.2.2;refine ⟨⟨(hp.keep ((Yab w.heap.size w).alloc Zs _)).keep ((Yab _ _).alloc Zs _),?_,?_,?_,Row.nil _ _ _ _ _,by simp,fun b h=>by simp [T0] at h,by omega,hpl⟩,hB⟩
 . exact SlV.mono hT (fun b o hh=>by
    unfold gb at hh;unfold gp;split at hh
    . cases hh
    . rename_i hn;have hl:=(Yaa.1 hh).1;rw [if_pos ⟨hl,hn⟩,hB.block b hl hn]; exact hh)
 . unfold zeroE call0;rw [Yah _ _ _ (by simp)];exact Yac w _
 . have:=Yac (w.alloc zEx) (.cells #[.int .i64 op,.int .i64 0,.string ⟨#[]⟩,.slice none 0 0] 83);rw [show (w.alloc zEx).heap.size=w.heap.size+1 by simp] at this;exact this
theorem ArIn.bad {n0 pb B5:Nat} {tau:Tag} {tv:Value} {toks:List Tok} {W:World} {p q:Nat} {op:Int} {l:List (Ex × Value)} {sv:Value} (h:ArIn n0 pb B5 tau tv toks W p q op l sv):BadIn n0 pb B5 tv W q:=by obtain ⟨a,c,hv⟩:=h.row.form;have hc:=h.c;rw [hv] at hc;exact ⟨⟨p,h.st⟩,h.z,⟨op,0,[],a,l.length,c,hc⟩,h.lt,h.pb⟩
theorem ZmU (f:Nat) (B p:Nat) (toks:List Tok) (tv:Value) (w:World) (h:XS w B tv p (-1)) (hT:TokV (gb B w) tv toks) (hE:Ended (toks.drop p)) (hl:toks.length<=1000) (op:Int) (ar:Nat) (har:1<=ar/\ar<=3) (h22:op≠22) (X:PR)
 (hX:(if isSg [40] (hd (toks.drop p)) then parseJ f (.args op ar []) (toks.drop p).tail else .bad (hd (toks.drop p)).p)=X) (hne:X ≠ .out) (ih:∀ g,g<f->LvOK g) :
 Calls Tryz.prog 248 #[.pointer (some ⟨B,0,none⟩),.int .i64 op,.int .i64 ar] w (RRes B tv toks X w):=by
 obtain ⟨tin,hin,tz0,tz1,tz2⟩:=info_parts infoEx;obtain ⟨hA,hB⟩:=ZmT B p toks tv w op h hT;have hat:=hE.at.1;have hpl:=h.cells.2.2.2.2.2;have HI:=Zq ih;have HNE:=Zq hne;cases hsg:isSg [40] (hd (toks.drop p)) with
 | false =>
  have HM:=Zq (Zmk [40] B p toks _ tv _ hA.st hA.tokb hat hl hsg);have HA:=Zq hA;have HB:=Zq hB;rw [hsg,if_neg (by simp)] at hX;subst hX;generalize hd (toks.drop p)=t at *;unfold call0 at HA HB HM;unfold strV at HM;clear h hT hE hne ih hA hB hat hsg;go_in;go_upto_region 2 with fail;generalize ((w.alloc zEx).alloc (.cells #[.int .i64 op,.int .i64 0,.string ⟨#[]⟩,.slice none 0 0] 83))=W0 at *;go_wp2_with fail;refine HM.out.mono ?_;rintro e W1 ⟨rfl,hb,hx⟩;have HBI:=Zq (HA.out.but hb hx).bad;have HBW:=Zq (HB.out.trans hb);clear HM hb hx HA HB;go_wp2;go_loopg [8] 0 (fun g i wr=>∃ k:Nat,i = .int .i64 k/\k<=3/\Hid (BadIn w.heap.size B (w.heap.size+1) tv wr t.p)/\Hid (But B w wr));(case atStart=>exact ⟨0,rfl,by omega,HBI,HBW⟩);case round =>
   obtain ⟨k,rfl,hk3,HBJ,HBX⟩:=hrel;have hBI:=HBJ.out;clear HBI HBW HBJ;obtain ⟨pq,hxq⟩:=hBI.st;obtain ⟨o,n,s0,a,l,c,hcq⟩:=hBI.c;obtain ⟨⟨c0,c1,c2,c3⟩,-⟩:=ZdP hcq;have hzq:=hBI.z;unfold zeroE at hzq;obtain ⟨x0,x1,x2,y1,y2,-⟩:=hxq.cells;have i5:(0:Int)<=(t.p:Int):=(by omega);have i6:¬ (t.p:Int)<0:=(by omega);have HXQ:=Zq hxq;have HMB:=Zq (Zmm [41] B pq t.p tv _ hxq);unfold strV at *;clear hcq hBI hxq;by_cases hk:(k:Int)<(ar:Int);all_goals
    go_wp2_with fail;refine HMB.out.mono ?_;rintro e VQ ⟨rfl,rfl⟩;clear HMB;obtain ⟨⟨g0,g1,g2,g3⟩,e0,e1,e2,e3⟩:=ZdP hzq;have HZF:=Zq hzq;go_wp2;refine Yaf (v:=exV o n s0 (.slice a l c)) ?_ rfl ?_
    . have hh:=ZdP (ZdM HZF.out (.int .i64 o) (.int .i64 n) (.string ⟨s0.toArray⟩) (.slice a l c));simp [results,Tryz.results248,go_sem,exV,strV,hh.1]
    . exact Zmb HBX.out hpl HXQ.out _ _ _ _
 | true =>
  have HM:=Zq (Zml [40] B p toks _ tv _ hA.st hA.tokb hat hl hsg);have HA:=Zq hA;have HB:=Zq hB;rw [hsg,if_pos rfl,ZdR] at hX;have hE1:Ended (toks.drop (p+1)):=(by rw [<-ZdR]; exact hE.tail (by have:=Zbb hsg; omega));have HX:=Zq hX;have HE1:=Zq hE1;unfold call0 at HA HB HM;unfold strV at HM;clear h hT hE hne ih hA hB hat hsg hX hE1;go_in;go_upto_region 2 with fail;generalize ((w.alloc zEx).alloc (.cells #[.int .i64 op,.int .i64 0,.string ⟨#[]⟩,.slice none 0 0] 83))=W0 at *;go_wp2_with fail;refine HM.out.mono ?_;rintro e W1 ⟨rfl,hb,hx⟩;have HA1:=Zq (HA.out.but hb hx);have HB1:=Zq (HB.out.trans hb);clear HM hb hx HA HB;go_wp2;go_loopg [8] f (fun g i wr=>(∃ (tau:Tag) (p' left:Nat) (l:List (Ex × Value)) (sv:Value),i = .int .i64 l.length/\Hid (ArIn w.heap.size B (w.heap.size+1) tau tv toks wr p' (-1) op l sv)/\Hid (But B w wr)/\Hid (Ended (toks.drop p'))/\g<=f/\l.length+left=ar/\Hid (parseJ g (.args op left (l.map Prod.fst)) (toks.drop p')=X)) \/
   (∃ (k q:Nat),i = .int .i64 k/\k<=3/\X = .bad q/\Hid (BadIn w.heap.size B (w.heap.size+1) tv wr q)/\Hid (But B w wr)))
  (case atStart=>exact .inl ⟨T0,p+1,ar,[],_,rfl,HA1,HB1,HE1,Nat.le_refl _,by simp,HX⟩);case round =>
   clear HA1 HB1 HE1 HX;rcases hrel with ⟨tau,p',left,l,sv,rfl,HAn,HBn,HEn,hg,hleft,HXn⟩|⟨k,q,rfl,hk3,rfl,HBJ,HBX⟩;case inr =>
    have hBI:=HBJ.out;clear HBJ;obtain ⟨pq,hxq⟩:=hBI.st;obtain ⟨o,n,s0,a,l,c,hcq⟩:=hBI.c;obtain ⟨⟨c0,c1,c2,c3⟩,-⟩:=ZdP hcq;have hzq:=hBI.z;unfold zeroE at hzq;obtain ⟨x0,x1,x2,y1,y2,-⟩:=hxq.cells;have i5:(0:Int)<=(q:Int):=(by omega);have i6:¬ (q:Int)<0:=(by omega);have HXQ:=Zq hxq;have HMB:=Zq (Zmm [41] B pq q tv _ hxq);unfold strV at *;clear hcq hBI hxq;by_cases hk:(k:Int)<(ar:Int);all_goals
     go_wp2_with fail;refine HMB.out.mono ?_;rintro e VQ ⟨rfl,rfl⟩;clear HMB;obtain ⟨⟨g0,g1,g2,g3⟩,e0,e1,e2,e3⟩:=ZdP hzq;have HZF:=Zq hzq;go_wp2;refine Yaf (v:=exV o n s0 (.slice a l c)) ?_ rfl ?_
     . have hh:=ZdP (ZdM HZF.out (.int .i64 o) (.int .i64 n) (.string ⟨s0.toArray⟩) (.slice a l c));simp [results,Tryz.results248,go_sem,exV,strV,hh.1]
     . exact Zmb HBX.out hpl HXQ.out _ _ _ _
   case inl =>
   cases gk with
   | zero=>exact absurd HXn.out.symm HNE.out
   | succ g =>
   have HAT:=Zq HEn.out.at;obtain ⟨t,ht⟩:∃ t,hd (toks.drop p')=t:=⟨_,rfl⟩;rw [ht] at HAT;obtain ⟨x0,x1,x2,y1,y2,-⟩:=HAn.out.st.cells;cases left with
   | zero =>
    have hx:=HXn.out;rw [ZgX,ht] at hx;have hi:¬ ((l.length:Int)<(ar:Int)):=(by omega);cases hsg:isSg [41] t with
    | false =>
     rw [hsg,if_neg (by simp)] at hx;subst hx;have HM:=Zq (Zmk [41] B p' toks t tv _ HAn.out.st HAn.out.tokb HAT.out.1 hl hsg);unfold strV at HM;clear HXn ht hsg HNE;go_wp2_with fail;refine HM.out.mono ?_;rintro e W3 ⟨rfl,hb,hx⟩;have hA3:=HAn.out.but hb hx;have HB3:=Zq (HBn.out.trans hb);have HX3:=Zq hx;obtain ⟨ka,kc,hkv⟩:=hA3.row.form;subst hkv;obtain ⟨⟨c0,c1,c2,c3⟩,-⟩:=ZdP hA3.c;have hzq:=hA3.z;unfold zeroE at hzq;clear hb hx hA3 HM x0 x1 x2 y1 y2;obtain ⟨⟨g0,g1,g2,g3⟩,e0,e1,e2,e3⟩:=ZdP hzq;have HZF:=Zq hzq;go_wp2;refine Yaf (v:=exV op 0 [] (.slice ka l.length kc)) ?_ rfl ?_
     . have hh:=ZdP (ZdM HZF.out (.int .i64 op) (.int .i64 0) (.string ⟨#[]⟩) (.slice ka l.length kc));simp [results,Tryz.results248,go_sem,exV,strV,hh.1]
     . exact Zmb HB3.out hpl HX3.out _ _ _ _
    | true =>
     rw [hsg,if_pos rfl,ZdR] at hx;subst hx;have HM:=Zq (Zml [41] B p' toks t tv _ HAn.out.st HAn.out.tokb HAT.out.1 hl hsg);unfold strV at HM;clear HXn ht hsg HNE;go_wp2_with fail;refine HM.out.mono ?_;rintro e W3 ⟨rfl,hb,hx⟩;have hA3:=HAn.out.but hb hx;have HB3:=Zq (HBn.out.trans hb);have HX3:=Zq hx;have HK3:=Zq hA3.kv;obtain ⟨ka,kc,hkv⟩:=hA3.row.form;subst hkv;obtain ⟨⟨c0,c1,c2,c3⟩,-⟩:=ZdP hA3.c;have hzq:=hA3.z;unfold zeroE at hzq;clear hb hx hA3 HM x0 x1 x2 y1 y2;obtain ⟨⟨g0,g1,g2,g3⟩,e0,e1,e2,e3⟩:=ZdP hzq;have HZF:=Zq hzq;go_wp2;refine Yaf (v:=exV op 0 [] (.slice ka l.length kc)) ?_ rfl ?_
     . have hh:=ZdP (ZdM HZF.out (.int .i64 op) (.int .i64 0) (.string ⟨#[]⟩) (.slice ka l.length kc));simp [results,Tryz.results248,go_sem,exV,strV,hh.1]
     . exact Zma HB3.out hpl (HK3.out.mono (ZdJ fun b hb _=>⟨hb.1,rfl⟩)) HX3.out rfl _ _ _ _
   | succ left =>
    have hi:(l.length:Int)<(ar:Int):=(by omega);have hl3:l.length<=3:=(by omega);have hcase:l=[]\/(l≠[]/\isSg [44] t=false)\/(l≠[]/\isSg [44] t=true):=by
     by_cases h0:l=[]
     . exact .inl h0
     . cases isSg [44] t with
       | false=>exact .inr (.inl ⟨h0,rfl⟩)
       | true=>exact .inr (.inr ⟨h0,rfl⟩)
    rcases hcase with hl0|⟨hl0,hsg⟩|⟨hl0,hsg⟩
    case' inl =>have hi0:¬ ((0:Int)<(l.length:Int)):=(by rw [hl0]; simp);have HX4:Hid (argX g op left (l.map Prod.fst) (toks.drop p')=X):=Zq (by have:=HXn.out; rw [hl0,List.map_nil,ZgY] at this; rw [hl0]; exact this);have HA4:=HAn;have HB4:=HBn;have HE4:=HEn;clear HAn HBn HEn HXn hl0 ht HAT;generalize p'=q4 at *;go_upto_region 8 with fail
    case inr.inl =>have hi0:(0:Int)<(l.length:Int):=(by have:=List.length_pos_iff.2 hl0; omega);have hkn:l.map Prod.fst≠[]:=(by simpa using hl0);have hx:=HXn.out;rw [ZgZ hkn (by rw [ht]; exact hsg),ht] at hx;subst hx;have HM:=Zq (Zmk [44] B p' toks t tv _ HAn.out.st HAn.out.tokb HAT.out.1 hl hsg);unfold strV at HM;clear HXn ht hsg hkn hl0 HNE;go_wp2_with fail;refine HM.out.mono ?_;rintro e W3 ⟨rfl,hb,hx⟩;have HBI:=Zq (HAn.out.but hb hx).bad;have HB3:=Zq (HBn.out.trans hb);clear x0 x1 x2 y1 y2;obtain ⟨x0,x1,x2,y1,y2,-⟩:=hx.cells;have i6:¬ (t.p:Int)<0:=(by omega);clear hb hx HM;go_wp2;go_roundg g;(case rel=>exact .inr ⟨l.length+1,t.p,by go_num,by omega,rfl,HBI,HB3⟩);case measure=>omega
    case' inr.inr =>have hi0:(0:Int)<(l.length:Int):=(by have:=List.length_pos_iff.2 hl0; omega);have hkn:l.map Prod.fst≠[]:=(by simpa using hl0);have HM:=Zq (Zml [44] B p' toks t tv _ HAn.out.st HAn.out.tokb HAT.out.1 hl hsg);have HX4:Hid (argX g op left (l.map Prod.fst) (toks.drop (p'+1))=X):=Zq (by have:=HXn.out; rw [Zg0 hkn (by rw [ht]; exact hsg),ZdR] at this; exact this);have HE4:Hid (Ended (toks.drop (p'+1))):=Zq (by rw [<-ZdR]; exact HEn.out.tail (by rw [ht]; have:=Zbb hsg; omega));unfold strV at HM;clear HXn ht hsg hkn hl0;go_wp2_with fail;refine HM.out.mono ?_;rintro e W4 ⟨rfl,hb,hx⟩;have HA4:=Zq (HAn.out.but hb hx);have HB4:=Zq (HBn.out.trans hb);clear x0 x1 x2 y1 y2 HM hb hx HAn HBn HEn HAT;obtain ⟨x0,x1,x2,y1,y2,-⟩:=HA4.out.st.cells;generalize p'+1=q4 at *;go_upto_region 8 with fail
    all_goals
     have hx:=HX4.out;unfold argX at hx;rw [if_neg h22] at hx;have hy:parseJ g (.two 0) (toks.drop q4) ≠ .out:=fun h=>by rw [h] at hx; exact HNE.out hx.symm
     have hC0:∀ W,XS W B tv q4 (-1)->TokV (gb B W) tv toks->Calls Tryz.prog 99 #[.pointer (some ⟨B,0,none⟩)] W (RRes B tv toks (parseJ g (.two 0) (toks.drop q4)) W):=fun W h1 h2=>HI.out g (by omega) 0 B q4 toks tv W (by omega) h1 h2 HE4.out hl hy;have HP:=Zq (fun e r=>Zbe g (.two 0) (toks.drop q4) HE4.out e r);have HC:=Zq (hC0 _ HA4.out.st HA4.out.tokb);have HXX:=Zq hx;have HY:=Zq hy;clear hC0 hx HX4 hy;generalize parseJ g (.two 0) (toks.drop q4)=y at *;go_wp2_with fail;refine HC.out.mono ?_;clear HC x0 x1 x2 y1 y2;cases y with
     | out=>exact absurd rfl HY.out
     | bad q =>rintro e W5 ⟨hb5,⟨v,rfl,o,n,s0,a,lq,c,rfl⟩,pq,hx5⟩;have hx:=HXX.out;simp only [PR.then] at hx;subst hx;have HA6:=Zq ((HA4.out.but hb5 hx5).keep ((Yab _ _).alloc Zs (cEx o n s0 (.slice a lq c))));have HB6:=Zq ((HB4.out.trans hb5).alloc (cEx o n s0 (.slice a lq c)));have hd6:=Yac W5 (cEx o n s0 (.slice a lq c));clear hb5 hx5 HA4 HB4;unfold exV strV;go_upto_region 10 with fail;generalize W5.alloc (cEx o n s0 (.slice a lq c))=W6 at *;obtain ⟨⟨d0,d1,d2,d3⟩,-⟩:=ZdP hd6;obtain ⟨ka,kc,hkv⟩:=HA6.out.row.form;subst hkv;obtain ⟨⟨c0,c1,c2,c3⟩,-⟩:=ZdP HA6.out.c;have hrow:=HA6.out.row;clear hd6;go_wp2_with (at_builtin; refine Zac rfl _ _ 36 rfl 83 tin _ 4 56 Tryz.underlying36 hin tz0 tz1 tz2 rfl (by decide) rfl hrow #[.int .i64 o,.int .i64 n,.string ⟨s0.toArray⟩,.slice a lq c] 83 (0,0) _ rfl ?c0 rfl ?c1 ?c2 ?c3 ?_);(case c0=>simp);(case c1=>first|exact ⟨rfl,rfl,rfl,rfl⟩|(intro u hu; simp at hu; rcases hu with rfl|rfl|rfl|rfl<;>rfl));(case c2=>unfold maxLen; omega);(case c3=>omega);intro v' t' w' hr3 he3;obtain ⟨hBJ,hBf⟩:=HA6.out.junk hr3 he3;have HBJ:=Zq hBJ;have HB7:=Zq (hBf w rfl HB6.out);obtain ⟨va,vc,rfl⟩:=hr3.form;obtain ⟨⟨q0,q1,q2,q3⟩,q4',q5,q6,q7⟩:=ZdP (HA6.out.appc he3);clear hr3 he3 hBJ hBf hrow c0 c1 c2 c3 d0 d1 d2 d3;go_wp2;go_roundg g;(case rel=>exact .inr ⟨l.length+1,q,by go_num,by omega,rfl,HBJ,HB7⟩);case measure=>omega
     | ok e2 r2 =>rintro e W5 ⟨hb5,⟨v,rfl,kv2,rfl,hK⟩,p5,hd5,hx5⟩;obtain ⟨kb,kd,rfl⟩:=hK.form;have hx:=HXX.out;simp only [PR.then] at hx;have hA5:=HA4.out.but hb5 hx5;have HK6:=Zq (KV.mono (ZdJ fun b hb hl=>⟨hb,Yah W5 (cEx e2.op e2.n e2.s (.slice kb e2.ks.length kd)) _ hl⟩) (HA4.out.newk hK));have HA6:=Zq (hA5.keep ((Yab _ _).alloc Zs (cEx e2.op e2.n e2.s (.slice kb e2.ks.length kd))));have HB6:=Zq ((HB4.out.trans hb5).alloc (cEx e2.op e2.n e2.s (.slice kb e2.ks.length kd)));have hd6:=Yac W5 (cEx e2.op e2.n e2.s (.slice kb e2.ks.length kd));have HD5:=Zq hd5;have HX6:=Zq hx;clear hb5 hx5 HA4 HB4 hA5 hK hx hd5;unfold exV strV;go_upto_region 10 with fail;generalize W5.alloc (cEx e2.op e2.n e2.s (.slice kb e2.ks.length kd))=W6 at *;obtain ⟨⟨d0,d1,d2,d3⟩,-⟩:=ZdP hd6;obtain ⟨ka,kc,hkv⟩:=HA6.out.row.form;subst hkv;obtain ⟨⟨c0,c1,c2,c3⟩,-⟩:=ZdP HA6.out.c;have hrow:=HA6.out.row;clear hd6;go_wp2_with (at_builtin; refine Zac rfl _ _ 36 rfl 83 tin _ 4 56 Tryz.underlying36 hin tz0 tz1 tz2 rfl (by decide) rfl hrow #[.int .i64 e2.op,.int .i64 e2.n,.string ⟨e2.s.toArray⟩,.slice kb e2.ks.length kd] 83 (0,0) _ rfl ?c0 rfl ?c1 ?c2 ?c3 ?_);(case c0=>simp);(case c1=>first|exact ⟨rfl,rfl,rfl,rfl⟩|(intro u hu; simp at hu; rcases hu with rfl|rfl|rfl|rfl<;>rfl));(case c2=>unfold maxLen; omega);(case c3=>omega);intro v' t' w' hr3 he3;obtain ⟨t2,hA7,hBf⟩:=HA6.out.app (e:=e2) hr3 he3 HK6.out;have HA7:=Zq hA7;have HB7:=Zq (hBf w rfl HB6.out);have HX7:Hid (parseJ g (.args op left ((l++[(e2,Value.slice kb e2.ks.length kd)]).map Prod.fst)) (toks.drop p5)=X):=Zq (by rw [HD5.out,Ybe]; exact HX6.out);have HE7:Hid (Ended (toks.drop p5)):=Zq (by rw [HD5.out]; exact (HP.out e2 _ rfl).1);obtain ⟨va,vc,rfl⟩:=hr3.form;obtain ⟨⟨q0,q1,q2,q3⟩,q4',q5,q6,q7⟩:=ZdP (HA6.out.appc he3);clear hr3 he3 hA7 hBf hrow c0 c1 c2 c3 d0 d1 d2 d3;go_wp2;go_roundg g;(case rel=>exact .inl ⟨t2,p5,left,_,_,by rw [Yak]; go_num,HA7,HB7,HE7,by omega,by rw [Yak]; simp; omega,HX7⟩);case measure=>omega
theorem ZmV (B p:Nat) (toks:List Tok) (tv:Value) (w:World) (h:XS w B tv p (-1)) (hT:TokV (gb B w) tv toks) (hE:Ended (toks.drop p)) (hl:toks.length<=1000) (x:PR) (h1:isSg [45] (hd (toks.drop p))=false) (h2:isSg [33] (hd (toks.drop p))=false)
 (hrec:∀ W,XS W B tv p (-1)->TokV (gb B W) tv toks->Calls Tryz.prog 237 #[.pointer (some ⟨B,0,none⟩)] W (RRes B tv toks x W)) :
 Calls Tryz.prog 235 #[.pointer (some ⟨B,0,none⟩)] w (RRes B tv toks x w):=by
 have hpl:=h.cells.2.2.2.2.2;have hb0:=(Yab w.heap.size w).alloc Zs zEx;have HX0:=Zq (h.keep hb0);have HT0:Hid (∀ W,But B w W->TokV (gb B W) tv toks):=Zq (fun W hb=>SlV.mono hT hb.gb);have HN1:=Zq (fun W hx hT=>Zmg [45] B p toks _ tv W hx hT hE.at.1 hl h1);have HN2:=Zq (fun W hx hT=>Zmg [33] B p toks _ tv W hx hT hE.at.1 hl h2);have HR:=Zq hrec;have HZ:=Zq (Yac w zEx);have HB:=Zq (But.below (pb:=B) hb0);have hsz:w.heap.size<(w.alloc zEx).heap.size:=by simp
 clear h hT hE hrec h1 h2 hb0;unfold strV at HN1 HN2;go_in;go_upto_region 1 with fail;generalize w.alloc zEx=W0 at *;go_wp2_with fail;refine (HN1.out _ HX0.out (HT0.out _ HB.out)).mono ?_;rintro e V1 ⟨rfl,hb⟩;have HX1:=Zq (HX0.out.keep hb);have HBv1:=Zq (HB.out.call hb);have HZv1:=Zq ((hb.block _ hsz).trans HZ.out);have hszv1:w.heap.size<V1.heap.size:=(Yaa.1 HZv1.out).1;clear hb;go_wp2_with fail;refine (HN2.out _ HX1.out (HT0.out _ HBv1.out)).mono ?_;rintro e V2 ⟨rfl,hb⟩;have HX2:=Zq (HX1.out.keep hb);have HBv2:=Zq (HBv1.out.call hb);have HZv2:=Zq ((hb.block _ hszv1).trans HZv1.out);have hszv2:w.heap.size<V2.heap.size:=(Yaa.1 HZv2.out).1;clear hb;go_wp2_with fail;refine (HR.out _ HX2.out (HT0.out _ HBv2.out)).mono ?_;have HB1:=HBv2;have hz1:=HZv2.out;have hsz1:=hszv2;clear HX0 HX1 HX2 HB HBv1 HBv2 HZ HZv1 HZv2 hsz hszv1 hszv2 HR HN1 HN2;generalize V2=W1 at *;cases x with
 | out=>rintro e W2 ⟨-,h⟩; exact h.elim
 | bad q =>
  rintro e W2 ⟨hb2,⟨v,rfl,o,n,s0,a,l,c,rfl⟩,p',hx2⟩;have hz2:=(hb2.block _ hsz1 (by omega)).trans hz1;obtain ⟨⟨c0,c1,c2,c3⟩,f0,f1,f2,f3⟩:=ZdP hz2;have HZ2:=Zq hz2;have HB2:=Zq (HB1.out.trans hb2);have HX2:=Zq hx2;clear hz1 hz2 hb2 hx2;unfold exV strV;go_wp2;refine Yaf (v:=exV o n s0 (.slice a l c)) ?_ rfl ?_
  . have hh:=ZdP (ZdM HZ2.out (.int .i64 o) (.int .i64 n) (.string ⟨s0.toArray⟩) (.slice a l c));simp [results,Tryz.results235,go_sem,exV,strV,hh.1]
  . exact Zmb HB2.out hpl HX2.out _ _ _ _
 | ok ex r =>
  rintro e W2 ⟨hb2,⟨v,rfl,kv,rfl,hK⟩,p',hd2,hx2⟩;obtain ⟨ka,kc,rfl⟩:=hK.form;have hz2:=(hb2.block _ hsz1 (by omega)).trans hz1;obtain ⟨⟨c0,c1,c2,c3⟩,f0,f1,f2,f3⟩:=ZdP hz2;have HZ2:=Zq hz2;have HB2:=Zq (HB1.out.trans hb2);have HX2:=Zq hx2;have HK2:=Zq (KV.mono (h':=gp (fun b=>w.heap.size<b) W2) (ZdJ fun b hb hl=>⟨by omega,rfl⟩) hK);have HD:=Zq hd2;clear hz1 hz2 hb2 hx2 hK hd2;unfold exV strV;go_wp2;refine Yaf (v:=exV ex.op ex.n ex.s (.slice ka ex.ks.length kc)) ?_ rfl ?_
  . have hh:=ZdP (ZdM HZ2.out (.int .i64 ex.op) (.int .i64 ex.n) (.string ⟨ex.s.toArray⟩) (.slice ka ex.ks.length kc));simp [results,Tryz.results235,go_sem,exV,strV,hh.1]
  . rw [Ex.eta ex];exact Zma HB2.out hpl HK2.out HX2.out HD.out _ _ _ _
def UnOK (f:Nat):Prop:=∀ (B p:Nat) (toks:List Tok) (tv:Value) (w:World),XS w B tv p (-1)->TokV (gb B w) tv toks->Ended (toks.drop p)->toks.length<=1000->parseJ f .one (toks.drop p) ≠ .out ->
 Calls Tryz.prog 235 #[.pointer (some ⟨B,0,none⟩)] w (RRes B tv toks (parseJ f .one (toks.drop p)) w)
theorem ZmW (f B p:Nat) (toks:List Tok) (tv:Value) (w:World) (s:Bs) (h:XS w B tv p (-1)) (hT:TokV (gb B w) tv toks) (hE:Ended (toks.drop (p+1))) (hl:toks.length<=1000) (hpt:p<toks.length)
 (hne:namX f s (toks.drop (p+1)) ≠ .out) (ih:∀ g,g<f->LvOK g):Calls Tryz.prog 242 #[.pointer (some ⟨B,0,none⟩),strV s] w (RRes B tv toks (namX f s (toks.drop (p+1))) w):=by
 unfold namX at hne |-;by_cases hw:word s=false
 . rw [if_pos hw];exact Zmu B p toks tv w s h hT hl hpt hw
 rw [if_neg hw] at hne |-;by_cases h1:s=wTrue
 . rw [if_pos h1];exact Zmv B p toks tv w s h hT hl hpt h1
 rw [if_neg h1] at hne |-;by_cases h2:s=wFalse
 . rw [if_pos h2];exact Zmw B p toks tv w s h hT hl hpt h2
 rw [if_neg h2] at hne |-;have hc:=ZgU (by simpa using hw) h1 h2;unfold calls6 at hc;simp only [Ybc,List.mem_nil_iff,or_false] at hc;rcases hc with rfl|rfl|rfl|rfl|rfl|rfl
 . exact Zmx B p toks tv w _ h hT hl hpt 18 3 (.inl ⟨rfl,rfl,rfl⟩) _ (fun W hx hTW=>ZmU f B (p+1) toks tv W hx hTW hE hl 18 3 (by decide) (by decide) _ rfl hne ih)
 . exact Zmx B p toks tv w _ h hT hl hpt 19 1 (.inr (.inl ⟨rfl,rfl,rfl⟩)) _ (fun W hx hTW=>ZmU f B (p+1) toks tv W hx hTW hE hl 19 1 (by decide) (by decide) _ rfl hne ih)
 . exact Zmx B p toks tv w _ h hT hl hpt 20 2 (.inr (.inr (.inl ⟨rfl,rfl,rfl⟩))) _ (fun W hx hTW=>ZmU f B (p+1) toks tv W hx hTW hE hl 20 2 (by decide) (by decide) _ rfl hne ih)
 . exact Zmx B p toks tv w _ h hT hl hpt 21 2 (.inr (.inr (.inr (.inl ⟨rfl,rfl,rfl⟩)))) _ (fun W hx hTW=>ZmU f B (p+1) toks tv W hx hTW hE hl 21 2 (by decide) (by decide) _ rfl hne ih)
 . exact Zmx B p toks tv w _ h hT hl hpt 23 1 (.inr (.inr (.inr (.inr ⟨rfl,rfl,rfl⟩)))) _ (fun W hx hTW=>ZmU f B (p+1) toks tv W hx hTW hE hl 23 1 (by decide) (by decide) _ rfl hne ih)
 . have hat:=hE.at;cases hs0:isSg [40] (hd (toks.drop (p+1))) with
   | false =>rw [if_neg (by simp)];exact Zmy B p toks tv w _ h hT hl hpt rfl _ hat.1 hs0
   | true =>
    rw [hs0,if_pos rfl,ZdR] at hne;rw [if_pos rfl,ZdR];have hE2:Ended (toks.drop (p+1+1)):=(by rw [<-ZdR]; exact hE.tail (by have:=Zbb hs0; omega));have hat2:=hE2.at;have hres:=fun s w=>ZlV s w;show Calls _ _ _ _ (RRes B tv toks (parseJ f (.args 22 1 []) (toks.drop (p+1+1))) w);change parseJ f (.args 22 1 []) (toks.drop (p+1+1)) ≠ .out at hne;cases f with
    | zero=>exact absurd rfl hne
    | succ g =>
    rw [ZgY] at hne |-;unfold argX at hne |-;rw [if_pos rfl] at hne |-;by_cases hb:(hd (toks.drop (p+1+1))).k≠3\/word (hd (toks.drop (p+1+1))).s=true
    . rw [if_pos hb];by_cases hk:(hd (toks.drop (p+1+1))).k=3
      . exact Zmz B p toks tv w _ h hT hl hpt rfl _ _ hat.1 hs0 hat2.1 hres _ (.inr (.inl ⟨hk,hb.resolve_left (by simp [hk]),rfl⟩))
      . exact Zmz B p toks tv w _ h hT hl hpt rfl _ _ hat.1 hs0 hat2.1 hres _ (.inl ⟨hk,rfl⟩)
    . rw [if_neg hb,ZdR] at hne |-;have hk:(hd (toks.drop (p+1+1))).k=3:=Classical.byContradiction fun h=>hb (.inl h);have hw2:word (hd (toks.drop (p+1+1))).s=false:=by
       cases hx:word (hd (toks.drop (p+1+1))).s with
       | false=>rfl
       | true=>exact absurd (.inr hx) hb
      have hE3:Ended (toks.drop (p+1+1+1)):=(by rw [<-ZdR]; exact hE2.tail (by omega));have hat3:=hE3.at;cases g with
      | zero=>exact absurd rfl hne
      | succ g =>
      rw [ZgX] at hne |-;cases hs3:isSg [41] (hd (toks.drop (p+1+1+1))) with
      | false =>rw [if_neg (by simp)];exact Zmz B p toks tv w _ h hT hl hpt rfl _ _ hat.1 hs0 hat2.1 hres _ (.inr (.inr ⟨hk,hw2,_,hat3.1,.inl ⟨hs3,rfl⟩⟩))
      | true =>rw [if_pos rfl,ZdR];exact Zmz B p toks tv w _ h hT hl hpt rfl _ _ hat.1 hs0 hat2.1 hres _ (.inr (.inr ⟨hk,hw2,_,hat3.1,.inr ⟨hs3,rfl⟩⟩))
theorem ZmX (f:Nat) (ih:∀ g,g<=f->LvOK g/\UnOK g):UnOK (f+1):=by
 intro B p toks tv w h hT hE hl hne;have then_ne:∀ {x:PR} {k:Ex->List Tok->PR},x.then k ≠ .out->x ≠ .out:=fun h e=>by rw [e] at h; exact h rfl
 have htl:(toks.drop p).tail=toks.drop (p+1):=ZdR toks p;cases h1:isSg [45] (hd (toks.drop p)) with
 | true =>have hE1:Ended (toks.drop (p+1)):=(by rw [<-htl]; exact hE.tail (by have:=Zbb h1; omega));rw [Zg2 h1,htl] at hne |-;exact Zmn B p toks tv w h hT hE hl _ h1 (fun W hpW hTW=>(ih f Zs).2 B (p+1) toks tv W hpW hTW hE1 hl (then_ne hne))
 | false =>
 cases h2:isSg [33] (hd (toks.drop p)) with
 | true =>have hE1:Ended (toks.drop (p+1)):=(by rw [<-htl]; exact hE.tail (by have:=Zbb h2; omega));rw [Zg3 h1 h2,htl] at hne |-;exact Zmo B p toks tv w h hT hE hl _ h2 h1 (fun W hpW hTW=>(ih f Zs).2 B (p+1) toks tv W hpW hTW hE1 hl (then_ne hne))
 | false =>
 refine ZmV B p toks tv w h hT hE hl _ h1 h2 (fun W hx hTW=>?_);cases h3:isSg [40] (hd (toks.drop p)) with
 | true =>have hE1:Ended (toks.drop (p+1)):=(by rw [<-htl]; exact hE.tail (by have:=Zbb h3; omega));rw [Zg4 h1 h2 h3,htl] at hne |-;exact Zmt B p toks tv W hx hTW hE hl _ h3 (fun e r h=>(Zbe _ _ _ hE1 e r h).1) (fun W hpW hTW=>(ih f Zs).1 0 B (p+1) toks tv W (by omega) hpW hTW hE1 hl (then_ne hne))
 | false =>
 by_cases k1:(hd (toks.drop p)).k=1
 . rw [Zg5 h1 h2 h3 k1];exact Zmp B p toks tv W hx hTW hE hl k1
 by_cases k2:(hd (toks.drop p)).k=2
 . rw [Zg6 h1 h2 h3 k2];exact Zmq B p toks tv W hx hTW hE hl k2
 by_cases k3:(hd (toks.drop p)).k=3
 . have hE1:Ended (toks.drop (p+1)):=(by rw [<-htl]; exact hE.tail (by omega));rw [Zgw k3,htl] at hne |-;exact Zmr B p toks tv W hx hTW hE hl k3 _ (fun V hpV hTV=>ZmW f B p toks tv V _ hpV hTV hE1 hl hE.at.2 hne (fun g hg=>(ih g (by omega)).1))
 . rw [Zg7 h1 h2 h3 k1 k2 k3];exact Zms B p toks tv W hx hTW hE hl k1 k2 k3 h3
theorem ZmY (f:Nat) (ih:∀ g,g<=f->LvOK g/\UnOK g):LvOK (f+1):=by
 intro n B p toks tv w hn h hT hE hl hne;have ih1:∀ g,g<=f->LvOK g:=fun g hg=>(ih g hg).1
 match n,hn with
 | 0,_=>exact ZmI f B p toks tv w h hT hE hl _ rfl hne ih1
 | 1,_=>exact ZmJ f B p toks tv w h hT hE hl _ rfl hne ih1
 | 2,_=>exact ZmO f B p toks tv w h hT hE hl _ rfl hne ih1
 | 3,_=>exact ZmK f B p toks tv w h hT hE hl _ rfl hne ih1
 | 4,_=>exact ZmL f B p toks tv w h hT hE hl _ rfl hne ih1
 | 5,_ =>
  have he:parseJ (f+1) (.two 5) (toks.drop p)=parseJ f .one (toks.drop p):=by
   conv=>lhs; unfold parseJ
   rw [if_pos (by omega)]
  rw [he] at hne |-;exact (ih f Zs).2 B p toks tv w h hT hE hl hne
theorem ZmZ:∀ f,∀ g,g<=f->LvOK g/\UnOK g:=by
 intro f;induction f with
 | zero =>intro g hg;have:g=0:=(by omega);subst this;exact ⟨fun _ _ _ _ _ _ _ _ _ _ _ h=>absurd rfl h,fun _ _ _ _ _ _ _ _ _ h=>absurd rfl h⟩
 | succ f ih =>
  intro g hg;by_cases h:g<=f
  . exact ih g h
  . have:g=f+1:=(by omega);subst this;exact ⟨ZmY f ih,ZmX f ih⟩
theorem lvOK (f:Nat):LvOK f:=(ZmZ f f Zs).1
def rparsePost (s:Bs) (w:World) (e:Ending) (w':World):Prop :=
 Below w.heap.size w w'/\(match parseM s with
  | .error (p,k)=>e = .returned (.tuple #[zeroV,.int .i64 p,.int .i64 k])
  | .ok ex=>∃ v,e = .returned (.tuple #[v,.int .i64 0,.int .i64 0])/\EV (gn w.heap.size w') v ex)
theorem Zm0 (s:Bs) (w:World) (p:Nat) (k:Int) (hk:k=5\/k=7)
 (hc:Calls Tryz.prog 97 #[.string ⟨s.toArray⟩] (w.alloc zEx) fun e w'=>e = .returned (.tuple #[.slice none 0 0,.int .i64 p,.int .i64 k])/\Below (w.alloc zEx).heap.size (w.alloc zEx) w')
 (hm:parseM s = .error (p,k)):Calls Tryz.prog 74 #[.string ⟨s.toArray⟩] w (rparsePost s w):=by
 have HC:=Zq hc;have HM:=Zq hm;have HZ:=Zq (Yac w zEx);have HB:=Zq ((Yab w.heap.size w).alloc Zs zEx);have hsz:w.heap.size<(w.alloc zEx).heap.size:=by simp
 obtain ⟨sb,hsb⟩:∃ sb:ByteArray,(⟨s.toArray⟩:ByteArray)=sb:=⟨_,rfl⟩;rw [hsb] at HC |-;clear hc hm hsb;rcases hk with rfl|rfl
 . go_in;go_upto_region 1 with fail;generalize w.alloc zEx=W0 at *;go_wp2_with fail;refine HC.out.mono ?_;rintro e W ⟨rfl,hb⟩;have hz:=(hb.block _ hsz).trans HZ.out;have HBW:=Zq (HB.out.seq hb);clear hb HC HZ HB hsz;obtain ⟨⟨g0,g1,g2,g3⟩,e0,e1,e2,e3⟩:=ZdP hz;have HZF:=Zq hz;go_wp2;have hh:=ZdP (ZdM HZF.out (.int .i64 0) (.int .i64 0) (.string ⟨#[]⟩) (.slice none 0 0));refine Yaf (v := .tuple #[zeroV,.int .i64 p,.int .i64 5]) (by simp [results,Tryz.results74,go_sem,zeroV,hh.1]) rfl ⟨Below.set4 HBW.out Zs _ _ _ _,?_⟩;rw [HM.out]
 . go_in;go_upto_region 1 with fail;generalize w.alloc zEx=W0 at *;go_wp2_with fail;refine HC.out.mono ?_;rintro e W ⟨rfl,hb⟩;have hz:=(hb.block _ hsz).trans HZ.out;have HBW:=Zq (HB.out.seq hb);clear hb HC HZ HB hsz;obtain ⟨⟨g0,g1,g2,g3⟩,e0,e1,e2,e3⟩:=ZdP hz;have HZF:=Zq hz;go_wp2;have hh:=ZdP (ZdM HZF.out (.int .i64 0) (.int .i64 0) (.string ⟨#[]⟩) (.slice none 0 0));refine Yaf (v := .tuple #[zeroV,.int .i64 p,.int .i64 7]) (by simp [results,Tryz.results74,go_sem,zeroV,hh.1]) rfl ⟨Below.set4 HBW.out Zs _ _ _ _,?_⟩;rw [HM.out]
theorem Zm1 (s:Bs) (w:World) (ts:List Tok) (hs:s.length<=400) (hlx:lexAll s = .ok ts):Calls Tryz.prog 74 #[.string ⟨s.toArray⟩] w (rparsePost s w):=by
 have hF:=Zhn (l:=s) (by omega) hlx;have hM:parseM s=match readL ts with
  | .error q => .error (q,6)
  | .ok e=>if check e=true then .ok e else .error (0,7):=by
  unfold parseM
  rw [if_neg (by omega),hlx]
  rfl
 have hE:=hF.1;have hl:ts.length<=1000:=by have:=hF.2.1; omega
 have hne:parseJ (8*ts.length+8) (.two 0) ts ≠ .out:=Zbf _ _ _ hE (by simp only [Job.need]; omega) (fun n h=>by cases h; omega) (fun n e h=>by cases h);have hr:readL ts=match parseJ (8*ts.length+8) (.two 0) ts with
  | .out => .error 0
  | .bad p => .error p
  | .ok e r=>if (hd r).k=0 then .ok e else .error (hd r).p:=rfl
 have HFI:=Zq (fun e h=>Zhw (e:=e) hF.2.2 h);have HC:=Zq (ZlO s (w.alloc zEx) hs);unfold refLexPost at HC;simp only [hlx] at HC;have HPL:=Zq (fun e r=>Zbe (8*ts.length+8) (.two 0) ts hE e r);have HLV:=Zq (fun B v W h1 h2=>lvOK (8*ts.length+8) 0 B 0 ts v W (by omega) h1 h2 (by rw [List.drop_zero]; exact hE) hl (by rw [List.drop_zero]; exact hne));simp only [List.drop_zero] at HLV;have HM:=Zq hM;have HZ:=Zq (Yac w zEx);have HB:=Zq ((Yab w.heap.size w).alloc Zs zEx);have hsz:w.heap.size<(w.alloc zEx).heap.size:=by simp
 obtain ⟨sb,hsb⟩:∃ sb:ByteArray,(⟨s.toArray⟩:ByteArray)=sb:=⟨_,rfl⟩;rw [hsb] at HC |-;generalize parseJ (8*ts.length+8) (.two 0) ts=x at *;have HR:=Zq hr;have HNE:=Zq hne;clear hsb hF hM hlx hne hr hE hs;go_in;go_upto_region 1 with fail;generalize w.alloc zEx=W0 at *;go_wp2_with fail;refine HC.out.mono ?_;rintro e W1 ⟨hb,tv,rfl,hT1⟩;have hz1:=(hb.block _ hsz).trans HZ.out;have hsz1:w.heap.size<W1.heap.size:=(Yaa.1 hz1).1;have HB2:=Zq ((HB.out.seq hb).alloc (by have:=(HB.out.seq hb).size; omega) (.cells #[tv,.int .i64 0,.int .i64 (-1),.int .i64 0] 151));have hT2:TokV (gb W1.heap.size (W1.alloc (.cells #[tv,.int .i64 0,.int .i64 (-1),.int .i64 0] 151))) tv ts:=SlV.mono (SlV.mono hT1 (Zdv Zs)) (But.gb (But.below (pb:=W1.heap.size) ((Yab _ _).alloc Zs _)));have hX2:XS (W1.alloc (.cells #[tv,.int .i64 0,.int .i64 (-1),.int .i64 0] 151)) W1.heap.size tv 0 (-1):=Yac W1 (.cells #[tv,.int .i64 0,.int .i64 (-1),.int .i64 0] 151);have hz2:=(Yah W1 (.cells #[tv,.int .i64 0,.int .i64 (-1),.int .i64 0] 151) _ hsz1).trans hz1;obtain ⟨ta,tc,rfl⟩:=hT1.form;clear hb hz1 hT1 HC HZ HB hsz;go_upto_region 5 with fail;have hBs:w.heap.size<W1.heap.size:=hsz1;generalize W1.alloc (.cells #[(.slice ta ts.length tc),.int .i64 0,.int .i64 (-1),.int .i64 0] 151)=W2 at *;generalize W1.heap.size=B at *;have HCC:Calls Tryz.prog 99 #[.pointer (some ⟨B,0,none⟩)] W2 (RRes B (.slice ta ts.length tc) ts x W2):=HLV.out B _ W2 hX2 hT2;have HC:=Zq HCC;have HT2:=Zq hT2;have hsz2:w.heap.size<W2.heap.size:=(Yaa.1 hz2).1;clear HCC HLV hX2 hT2;go_wp2_with fail;refine HC.out.mono ?_;clear HC;cases x with
 | out=>exact absurd rfl HNE.out
 | bad q =>
  rintro e W3 ⟨hb3,⟨v,rfl,o,n,s0,a,l,c,rfl⟩,p',hx3⟩;have hz3:=(hb3.block _ hsz2 (by omega)).trans hz2;have hsz3:w.heap.size<W3.heap.size:=(Yaa.1 hz3).1;have HB4:=Zq (((But.below HB2.out).trans hb3).alloc (cEx o n s0 (.slice a l c)));have HX4:=Zq (hx3.alloc (cEx o n s0 (.slice a l c)));have hz4:=(Yah W3 (cEx o n s0 (.slice a l c)) _ hsz3).trans hz3;have HM4:Hid (parseM s = .error (q,6)):=Zq (by rw [HM.out,HR.out]);clear hb3 hx3 hz2 hz3 HB2 HM HR HPL HFI HNE;unfold exV strV;go_upto_region 6 with fail;generalize W3.alloc (cEx o n s0 (.slice a l c))=W4 at *;obtain ⟨c0,c1,c2,f1,f2,-⟩:=HX4.out.cells;have i5:(0:Int)<=(q:Int):=(by omega);have i6:¬ (q:Int)<0:=(by omega);obtain ⟨⟨g0,g1,g2,g3⟩,e0,e1,e2,e3⟩:=ZdP hz4;have HZF:=Zq hz4;go_wp2;go_region;go_wp2;have hh:=ZdP (ZdM HZF.out (.int .i64 0) (.int .i64 0) (.string ⟨#[]⟩) (.slice none 0 0));refine Yaf (v := .tuple #[zeroV,.int .i64 q,.int .i64 6]) (by simp [results,Tryz.results74,go_sem,zeroV,hh.1]) rfl ⟨?_,?_⟩
  . exact ((HB4.out.set4 Zs _ _ _ _).drew).toBelow (by omega)
  . rw [HM4.out]
 | ok ex r =>
  rintro e W3 ⟨hb3,⟨v,rfl,kv,rfl,hK⟩,p',hd3,hx3⟩;obtain ⟨ka,kc,rfl⟩:=hK.form;have hEr:=(HPL.out ex r rfl).1;have hat:ts[p']?=some (hd r):=(by rw [<-hd3] at hEr |-; exact hEr.at.1);have hz3:=(hb3.block _ hsz2 (by omega)).trans hz2;have hsz3:w.heap.size<W3.heap.size:=(Yaa.1 hz3).1;have HB4:=Zq (((But.below HB2.out).trans hb3).alloc (cEx ex.op ex.n ex.s (.slice ka ex.ks.length kc)));have HX4:=Zq (hx3.alloc (cEx ex.op ex.n ex.s (.slice ka ex.ks.length kc)));have HT4:Hid (TokV (gb B (W3.alloc (cEx ex.op ex.n ex.s (.slice ka ex.ks.length kc)))) (.slice ta ts.length tc) ts):=Zq (SlV.mono HT2.out (hb3.alloc (cEx ex.op ex.n ex.s (.slice ka ex.ks.length kc))).gb);have hz4:=(Yah W3 (cEx ex.op ex.n ex.s (.slice ka ex.ks.length kc)) _ hsz3).trans hz3;have hc4:=Yac W3 (cEx ex.op ex.n ex.s (.slice ka ex.ks.length kc));have HK4:Hid (KV (gp (fun b=>w.heap.size<b) (W3.alloc (cEx ex.op ex.n ex.s (.slice ka ex.ks.length kc)))) (.slice ka ex.ks.length kc) ex.ks):=Zq (hK.mono (ZdJ fun b hb hl=>⟨by omega,Yah W3 _ b hl⟩));clear hb3 hx3 hz2 hz3 HB2 HNE hK HPL hEr hd3;unfold exV strV;go_upto_region 6 with fail;generalize W3.alloc (cEx ex.op ex.n ex.s (.slice ka ex.ks.length kc))=W4 at *;have hszb:W3.heap.size<W4.heap.size:=(Yaa.1 hc4).1;have hneB:W3.heap.size≠B:=(by have:=HX4.out.cells.2.2.2.2.2; have:=HT2; intro e; have h1:=HX4.out; unfold XS at h1; rw [<-e,hc4] at h1; simp at h1);obtain ⟨t,ht⟩:∃ t,hd r=t:=⟨_,rfl⟩;rw [ht] at hat;have HTK:=Zq (Zmd B p' (-1) ts t _ W4 HX4.out HT4.out hat hl);have HWR:=Zq (fun W h1 h2=>Zmj B p' ts t (.slice ta ts.length tc) W h1 h2 hat hl);obtain ⟨fd0,fd1,fd3⟩:=Zme t.k ⟨t.s.toArray⟩ t.n t.p;unfold tokV strV at HTK;obtain ⟨c0,c1,c2,f1,f2,-⟩:=HX4.out.cells;go_wp2_with fail;refine HTK.out.mono ?_;rintro e W5 ⟨rfl,hb5⟩;have HB5:=Zq (HB4.out.call hb5);have HX5:=Zq (HX4.out.keep hb5);have HT5:=Zq (SlV.mono HT4.out (But.below (pb:=B) hb5).gb);have hz5:=(hb5.block _ (Yaa.1 hz4).1).trans hz4;have hc5:=(hb5.block _ hszb).trans hc4;have HK5:=Zq (HK4.out.mono (h':=gp (fun b=>w.heap.size<b) W5) (ZdJ fun b hb hl=>⟨hb,hb5.block _ hl⟩));clear hb5 hz4 hc4 HB4 HX4 HT4 HK4 HTK c0 c1 c2 f1 f2;by_cases hk:t.k=0
  . have q1:(t.k != 0)=false:=(by simp [hk]);have HRL:Hid (readL ts = .ok ex):=Zq (by rw [HR.out]; simp only [ht]; rw [if_pos hk]);obtain ⟨c0,c1,c2,f1,f2,-⟩:=HX5.out.cells;obtain ⟨⟨d0,d1,d2,d3⟩,-⟩:=ZdP hc5;have HCK:=Zq (ZmS ex (exV ex.op ex.n ex.s (.slice ka ex.ks.length kc)) W5 (HFI.out ex HRL.out) ⟨_,rfl,HK5.out.mono (ZdK _ _)⟩);obtain ⟨ck,hck⟩:∃ b,check ex=b:=⟨_,rfl⟩;rw [hck] at HCK;unfold exV strV at HCK;have HCE:=Zq hck;clear hk hck HR hat ht;go_wp2_with fail;refine HCK.out.mono ?_;rintro e W6 ⟨rfl,hb6⟩;have HB6:=Zq (HB5.out.call hb6);have hz6:=(hb6.block _ (Yaa.1 hz5).1).trans hz5;have hc6:=(hb6.block _ (Yaa.1 hc5).1).trans hc5;have HK6:=Zq (HK5.out.mono (h':=gp (fun b=>w.heap.size<b) W6) (ZdJ fun b hb hl=>⟨hb,hb6.block _ hl⟩));clear hb6 hz5 hc5 HB5 HX5 HT5 HK5 c0 c1 c2 f1 f2 d0 d1 d2 d3;obtain ⟨⟨d0,d1,d2,d3⟩,-⟩:=ZdP hc6;obtain ⟨⟨g0,g1,g2,g3⟩,e0,e1,e2,e3⟩:=ZdP hz6;have HZF:=Zq hz6;cases ck with
    | false =>
     have HM6:Hid (parseM s = .error (0,7)):=Zq (by rw [HM.out,HRL.out]; simp only [HCE.out]; rfl);go_wp2;have hh:=ZdP (ZdM HZF.out (.int .i64 0) (.int .i64 0) (.string ⟨#[]⟩) (.slice none 0 0));refine Yaf (v := .tuple #[zeroV,.int .i64 0,.int .i64 7]) (by simp [results,Tryz.results74,go_sem,zeroV,hh.1]) rfl ⟨?_,?_⟩
     . exact (HB6.out.set4 Zs _ _ _ _).toBelow (by omega)
     . rw [HM6.out]; rfl
    | true =>
     have HM6:Hid (parseM s = .ok ex):=Zq (by rw [HM.out,HRL.out]; simp only [HCE.out]; rfl);go_wp2;have hh:=ZdP (ZdM HZF.out (.int .i64 ex.op) (.int .i64 ex.n) (.string ⟨ex.s.toArray⟩) (.slice ka ex.ks.length kc));refine Yaf (v := .tuple #[exV ex.op ex.n ex.s (.slice ka ex.ks.length kc),.int .i64 0,.int .i64 0]) (by simp [results,Tryz.results74,go_sem,exV,strV,hh.1]) rfl ⟨?_,?_⟩
     . exact (HB6.out.set4 Zs _ _ _ _).toBelow (by omega)
     . rw [HM6.out];exact ⟨_,rfl,_,rfl,HK6.out.mono (ZdJ fun b hb _=>⟨by omega,ZdN (by omega) _ _ _ _⟩)⟩
  . have q1:(t.k != 0)=true:=Yao.2 hk;have HM6:Hid (parseM s = .error (t.p,6)):=Zq (by rw [HM.out,HR.out]; simp only [ht]; rw [if_neg hk]);clear hk HR hat ht HM;go_wp2_with fail;refine (HWR.out _ HX5.out HT5.out).mono ?_;rintro e W6 ⟨rfl,hb6,hx6⟩;have HB6:=Zq (HB5.out.trans hb6);have hz6:=(hb6.block _ (Yaa.1 hz5).1 (by omega)).trans hz5;clear HB5 HX5 HT5 HK5 hz5 hc5 hb6;obtain ⟨c0,c1,c2,f1,f2,-⟩:=hx6.cells;have i5:(0:Int)<=(t.p:Int):=(by omega);have i6:¬ (t.p:Int)<0:=(by omega);obtain ⟨⟨g0,g1,g2,g3⟩,e0,e1,e2,e3⟩:=ZdP hz6;have HZF:=Zq hz6;go_wp2;go_region;go_wp2;have hh:=ZdP (ZdM HZF.out (.int .i64 0) (.int .i64 0) (.string ⟨#[]⟩) (.slice none 0 0));refine Yaf (v := .tuple #[zeroV,.int .i64 t.p,.int .i64 6]) (by simp [results,Tryz.results74,go_sem,zeroV,hh.1]) rfl ⟨?_,?_⟩
    . exact ((HB6.out.set4 Zs _ _ _ _).drew).toBelow (by omega)
    . rw [HM6.out]
theorem Zm2 (s:Bs) (w:World) (hm:s.length<=9223372036854775807):Calls Tryz.prog 74 #[.string ⟨s.toArray⟩] w (rparsePost s w):=by
 by_cases hs:s.length<=400
 . cases hx:lexAll s with
   | error p =>
    refine Zm0 s w p 5 (.inl rfl) ((ZlO s _ hs).mono ?_) ?_
    . rintro e w' ⟨hb,hp⟩;rw [hx] at hp;exact ⟨hp,hb⟩
    . unfold parseM;rw [if_neg (by omega),hx]
   | ok ts=>exact Zm1 s w ts hs hx
 . refine Zm0 s w 400 7 (.inr rfl) ((ZlN s _ (by omega) hm).mono ?_) ?_
   . rintro e w' ⟨rfl,rfl⟩;exact ⟨rfl,Yab _ _⟩
   . unfold parseM;rw [if_pos (by omega)]
theorem Zm3 (s:ByteArray) (w:World) (hm:s.size<=9223372036854775807):Calls Tryz.prog 74 #[.string s] w (parsePost s w) :=
 Zm2 s.data.toList w (by rw [Zcg]; exact hm)
end Go.Proofs.YtikannmgllejfaaGreatDoor
