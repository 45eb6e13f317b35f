/- The walk of the document's Lex. -/
import Derived.Test.YtikannmgllejfaaGreatDoorKRJ
set_option maxHeartbeats 40000000
set_option maxRecDepth 1000000
set_option linter.all false
namespace Go.Proofs.YtikannmgllejfaaGreatDoor
open Go.RowKit Pal
def sg (j:Nat):Nat:=[43,45,42,47,37,40,41,44,61,60,62,38,124,33].getD j 0
def sgS:ByteArray:=⟨#[43,45,42,47,37,40,41,44,61,60,62,38,124,33]⟩
theorem ZlC (j:Nat):sg j<128:=by
 by_cases h:j<14
 . rcases (by omega:j=0\/j=1\/j=2\/j=3\/j=4\/j=5\/j=6\/j=7\/j=8\/j=9\/j=10\/j=11\/j=12\/j=13) with rfl|rfl|rfl|rfl|rfl|rfl|rfl|rfl|rfl|rfl|rfl|rfl|rfl|rfl<;>decide
 . unfold sg;rw [Yau,Yaz (by simp; omega)];decide
theorem sg_sign {c:Nat}:isSign1 c=true↔∃ j,j<14/\sg j=c:=by
 constructor
 . intro h;unfold isSign1 at h;rw [List.contains_iff_mem] at h;obtain ⟨j,hj,e⟩:=List.getElem_of_mem h;exact ⟨j,by simpa using hj,by unfold sg; rw [Yau,Yad hj]; exact e⟩
 . rintro ⟨j,hj,rfl⟩;rcases (by omega:j=0\/j=1\/j=2\/j=3\/j=4\/j=5\/j=6\/j=7\/j=8\/j=9\/j=10\/j=11\/j=12\/j=13) with rfl|rfl|rfl|rfl|rfl|rfl|rfl|rfl|rfl|rfl|rfl|rfl|rfl|rfl<;>decide
theorem ZlD (j:Nat) (hj:j<14) (W:World):(Instr.index 9 (.string sgS) (.int .i64 j)).run Tryz.prog W = .ok (.int .u8 (sg j)) W:=by rcases (by omega:j=0\/j=1\/j=2\/j=3\/j=4\/j=5\/j=6\/j=7\/j=8\/j=9\/j=10\/j=11\/j=12\/j=13) with rfl|rfl|rfl|rfl|rfl|rfl|rfl|rfl|rfl|rfl|rfl|rfl|rfl|rfl<;>kernel_rfl
theorem ZlE (j:Nat) (hj:j<14) (W:World):(Instr.slice 9 (.string sgS) (some (.int .i64 j)) (some (.int .i64 ((j:Int)+1))) none).run Tryz.prog W = .ok (.string ⟨#[(sg j).toUInt8]⟩) W:=by rcases (by omega:j=0\/j=1\/j=2\/j=3\/j=4\/j=5\/j=6\/j=7\/j=8\/j=9\/j=10\/j=11\/j=12\/j=13) with rfl|rfl|rfl|rfl|rfl|rfl|rfl|rfl|rfl|rfl|rfl|rfl|rfl|rfl<;>kernel_rfl
theorem ZlF {l:Bs}:rn l=61↔bk l 0=61:=by
 constructor
 . intro h; have:=ZaW (l:=l) (by omega); omega
 . intro h; have:=ZaT (l:=l) (by omega); omega
theorem ZlG {l:Bs} (hc:cls (rn l)=0) (hq:rn l≠34):tok1 l=(if (bk l 0=60\/bk l 0=62\/bk l 0=33)/\bk l 1=61 then some (4,l.take 2,0,2) else if isSign1 (bk l 0) then some (4,l.take 1,0,1) else none):=by have h:¬ bk l 0=34:=fun h=>hq (rn_34.2 h);unfold tok1;rw [if_neg (by omega),if_neg (by omega),if_neg h]
theorem ZlH {l:Bs} (hn:l≠[]):l.take 1=[(bk l 0).toUInt8]:=by
 cases l with
 | nil=>exact absurd rfl hn
 | cons c r =>show [c]=[(c.toNat).toUInt8];rw [Nat.toUInt8_eq,UInt8.ofNat_toNat]
theorem ZlI {l:Bs} (h:bk l 1=61):l.take 2=[(bk l 0).toUInt8]++[61]:=by
 have hlt:1<l.length:=ZaH (by omega)
 match l,hlt with
 | c::d::r,_ =>have hd:d=61:=(by have h:d.toNat=61:=h;exact UInt8.toNat.inj h);subst hd;show [c,61]=[(c.toNat).toUInt8]++[61];rw [Nat.toUInt8_eq,UInt8.ofNat_toNat]; rfl
def piE (p u:Nat) (r:Int) (bd:Bool):Obj := .cells #[.int .i64 p,.int .i64 u,.int .i32 r,.bool bd] 136 (0,0)
theorem ZlJ (a:Bs):((⟨a.toArray⟩:ByteArray)++⟨#[61]⟩)=⟨(a++[61]).toArray⟩:=by apply ByteArray.ext;simp
theorem TW.alloc2 {w wr:World} {B TB:Nat} {s:Bs} {pv:Value} {k q:Nat} {kd:Int} {ts:Bs} {n:Int} {p:Nat} (h:TW w wr B TB s pv k q kd ts n p) (o:Obj):TW w (wr.alloc o) B TB s pv k q kd ts n p:=h.call ((Yab _ _).alloc Zs _)
theorem ZlK (s:Bs) (B k p:Nat) (pv:Value) (w:World) (hs:s.length<=1000000) (h:LSt w B s pv k p) (hP:PsV (gb B w) pv s) (hp:p<s.length) (hc:cls (rn (s.drop p))=0) (hq:rn (s.drop p)≠34) :
 Calls Tryz.prog 140 #[.pointer (some ⟨B,0,none⟩)] w (tkPost B s pv p w):=by
 have hT:=Zq (ZlG hc hq);obtain ⟨a,cap,rfl⟩:=hP.form;have HP:=Zq hP;have HS:=Zq h;have hcl:=Zbk s;have hb0:Below w.heap.size w (w.alloc (.cells #[.int .i64 0,.string ⟨#[]⟩,.int .i64 0,.int .i64 0] 114)):=(Yab _ _).alloc Zs _;have HH:=Zq (Zlc s B k p _ _ hs (h.keep hb0) (hP.mono (But.below hb0).gb));have HLT:=Zq (fun k p (h:AtP s k p)=>h.lt);have hst:=h.at'.step hp;have HNE:=Zq (Zkf hp);have hlow:=fun h=>ZaW (l:=s.drop p) h;have hhi:¬ rn (s.drop p)<128->128<=bk (s.drop p) 0:=fun h=>by apply Classical.byContradiction;intro hh;have:=ZaT (l:=s.drop p) (by omega);omega
 have hbd:badB (s.drop p)=true->¬ rn (s.drop p)<128:=fun h=>by rw [(of_decide_eq_true h).1]; omega
 have hrr:=ZaV (s.drop p);have hkn:k<cnt s:=h.at'.lt.2 hp;have hi14:=ZlD;have HI:=Zq hi14;have HSL:=Zq ZlE;generalize cnt s=n at *;have hn1:n<=1000000:=by omega
 clear h hP hq hc hb0 hi14;go_in;go_wp2_with fail;refine HH.out.mono ?_;rintro e W ⟨rfl,hb⟩;have HTW:=Zq (TW.make HS.out hb 4 p);clear hb HH HS;have hne1:¬ W.heap.size=B:=by have:=HTW.out.h1; have:=HTW.out.h2; omega
 have hne2:¬ B=W.heap.size:=fun h=>hne1 h.symm;have hne3:¬ w.heap.size=W.heap.size:=by have:=HTW.out.h1; have:=HTW.out.h2; omega
 go_upto_region 2 with fail;have hWA:W.heap.size<(W.alloc (.cells #[.int .i64 4,.string ⟨#[]⟩,.int .i64 0,.int .i64 p] 114)).heap.size:=by simp
 generalize W.alloc (.cells #[.int .i64 4,.string ⟨#[]⟩,.int .i64 0,.int .i64 p] 114)=WA at *;obtain ⟨b,off,rfl,d0,d1,d2,d3⟩:=((HP.out.mono HTW.out.but.gb).mono (Zdu B WA)).at HTW.out.st.at' hp;obtain ⟨-,c1,c2,f2,-⟩:=HTW.out.st.cells;have HST:=Zq hst;have hbl:b<WA.heap.size:=Yan WA _ d0;have hBl:B<WA.heap.size:=Yan WA _ c1;have a0:=Zdw hbl d0;have a1:=Zdw hbl d1;have a2:=Zdw hbl d2;have a3:=Zdw hbl d3;have a4:=Zdw hBl c1;have a5:=Zdw hBl c2;have HLOW:=Zq hlow;have HHI:=Zq hhi;have HBD:=Zq hbd;generalize hr:rn (s.drop p)=r at *;generalize badB (s.drop p)=bd at *;generalize wd (s.drop p)=u at *;clear hst hlow hhi hbd hr;go_region;go_upto_region 3 with fail;generalize hX:(WA.alloc (.cells #[.int .i64 p,.int .i64 u,.int .i32 r,.bool bd] 136)).drew=X at *;have HX:Hid (TW w X B W.heap.size s (.slice (some ⟨b,off,none⟩) n cap) k p 4 [] 0 p):=Zq (by rw [<-hX]; exact (HTW.out.alloc2 _).drew);have hpc:X.heap[WA.heap.size]?=some (piE p u r bd):=by rw [<-hX];exact Yac WA _
 clear hX c1 c2 f2 d0 d1 d2 d3 a0 a1 a2 a3 a4 a5 hbl;have HPC:=Zq hpc;obtain ⟨⟨p0,p1,p2,p3⟩,-⟩:=ZdP (show X.heap[WA.heap.size]?=some (.cells #[.int .i64 p,.int .i64 u,.int .i32 r,.bool bd] 136 (0,0)) from hpc);clear hpc;obtain ⟨⟨t0,t1,t2,t3⟩,⟨tf1,tf2⟩,⟨r0,r1,r2,r3⟩,g0,g1,g2,g3⟩:=HX.out.cells;by_cases hb:bd=true\/¬ r<128
 . have HE:Hid (tok1 (s.drop p)=none):=Zq (by
    have h128:128<=r:=by
     rcases hb with h|h
     . have:=HBD.out h;omega
     . omega
    have h1:=HHI.out (by omega);have h2:isSign1 (bk (s.drop p) 0)=false:=by
     cases h:isSign1 (bk (s.drop p) 0) with
     | false=>rfl
     | true =>obtain ⟨j,hj,e⟩:=sg_sign.1 h;have:=ZlC j;omega
    rw [hT.out,if_neg (by omega),h2];rfl)
   have hb':bd=true\/(bd=false/\¬ r<128):=by
    cases bd with
    | true=>exact .inl rfl
    | false=>exact .inr ⟨rfl,hb.elim (fun h=>by cases h) id⟩
   clear hb;rcases hb' with h|⟨h,h1⟩;all_goals subst h;go_wp2;have hd:=HX.out.done rfl;refine Yaf (v := .tuple #[.agg #[.int .i64 4,.string ⟨#[]⟩,.int .i64 0,.int .i64 p],.bool false]) (by simp [results,Tryz.results140,go_sem,hd.2.2]) rfl ?_;refine ⟨hd.2.1,?_⟩;rw [HE.out];exact ⟨4,[],0,rfl⟩
 . obtain ⟨hb1,hr8⟩:bd=false/\r<128:=by
    refine ⟨?_,Classical.byContradiction fun h=>hb (.inr h)⟩;cases bd with
    | true=>exact absurd (.inl rfl) hb
    | false=>rfl
   subst hb1;clear hb;obtain ⟨h0,h1,h2⟩:=HLOW.out hr8;subst h2;generalize hbk:bk (s.drop p) 0=c0 at *;have HBK:=Zq hbk;subst h1;clear hbk;unfold sgS at HI HSL;go_wp2;clear t0 t1 t2 t3 tf1 tf2 r0 r1 r2 r3 g0 g1 g2 g3 p0 p1 p2 p3;go_loopg [7] 14 (fun g i wr=>∃ (j:Nat),i = .int .i64 j/\Hid (TW w wr B W.heap.size s (.slice (some ⟨b,off,none⟩) n cap) k p 4 [] 0 p)/\Hid (wr.heap[WA.heap.size]?=some (piE p 1 c0 false))/\Hid (∀ i,i<j->sg i≠c0)/\j+g=14/\j<=14);(case atStart=>exact ⟨0,rfl,HX,HPC,Zq (fun i hi=>by omega),by omega,by omega⟩);case round =>
    obtain ⟨j,rfl,HL,HPR,HN,hg,hj⟩:=hrel;obtain ⟨⟨t0,t1,t2,t3⟩,⟨tf1,tf2⟩,⟨r0,r1,r2,r3⟩,g0,g1,g2,g3⟩:=HL.out.cells;obtain ⟨-,c1,c2,f2,-⟩:=HL.out.st.cells;obtain ⟨⟨p0,p1,p2,p3⟩,-⟩:=ZdP (show wr.heap[WA.heap.size]?=some (.cells #[.int .i64 p,.int .i64 (1:Nat),.int .i32 (c0:Nat),.bool false] 136 (0,0)) from HPR.out);by_cases hj14:j<14
    . have hix:=fun W=>HI.out j hj14 W;have hsx:=fun W=>HSL.out j hj14 W;have hsl:=ZlC j;by_cases hm:sg j=c0
      . rw [hm] at hix hsx;have HM:Hid (isSign1 c0=true):=Zq (sg_sign.2 ⟨j,hj14,hm⟩);clear hm;go_wp2;go_region;go_upto_region 12 with fail;generalize hX2:((wr.setCell ⟨W.heap.size,1,none⟩ (.string ⟨#[UInt8.ofNat c0]⟩)).setCell ⟨B,2,none⟩ (.int .i64 ((k:Int)+1))).drew=X2;have HX2:Hid (TW w X2 B W.heap.size s (.slice (some ⟨b,off,none⟩) n cap) (k+1) (p+1) 4 [UInt8.ofNat c0] 0 p):=Zq (by rw [<-hX2]; exact ((HL.out.setS [UInt8.ofNat c0]).setK _ (by omega) HST.out).drew);have hk1b:k+1<=1000001:=(by omega);obtain ⟨k1,hk1e⟩:∃ k1,k+1=k1:=⟨_,rfl⟩;rw [hk1e] at HX2 hk1b;clear hk1e;have hpc2:X2.heap[WA.heap.size]?=some (.cells #[.int .i64 p,.int .i64 (1:Nat),.int .i32 (c0:Nat),.bool false] 136 (0,0)):=(by have hB1:=HX2.out.h1;have hB2:=HX2.out.h2;rw [<-hX2];show (World.setCell (World.setCell _ _ _) _ _).heap[WA.heap.size]?=_;rw [Yat _ _ _ _ (fun e=>by simp at e; omega),Yat _ _ _ _ (fun e=>by simp at e; omega)];exact HPR.out);obtain ⟨sx,hsx⟩:∃ sx:Bs,[UInt8.ofNat c0]=sx:=⟨_,rfl⟩;rw [hsx] at HX2;have hsxl:sx.length<=1:=(by rw [<-hsx]; exact Nat.le_refl _);have HSX:=Zq hsx;clear hsx;clear hX2 t0 t1 t2 t3 tf1 tf2 r0 r1 r2 r3 g0 g1 g2 g3 p0 p1 p2 p3 c1 c2 f2 hix hsx hsl HN;obtain ⟨⟨p0,p1,p2,p3⟩,-⟩:=ZdP hpc2;clear hpc2;obtain ⟨⟨t0,t1,t2,t3⟩,⟨tf1,tf2⟩,⟨r0,r1,r2,r3⟩,g0,g1,g2,g3⟩:=HX2.out.cells;obtain ⟨-,c1,c2,f2,-⟩:=HX2.out.st.cells;have HH1:Hid ((s.drop p).take 1=sx):=Zq (by rw [ZlH HNE.out,HBK.out,<-HSX.out]);have HB1:Hid (bk (s.drop p) 1=bk (s.drop (p+1)) 0):=Zq (by rw [ZaG,ZaG]);have hA':(c0=60\/c0=62\/c0=33)->(((c0:Int) == 60)=true)\/(((c0:Int) == 60)=false/\((c0:Int) == 62)=true)\/(((c0:Int) == 60)=false/\((c0:Int) == 62)=false/\((c0:Int) == 33)=true):=by
         rintro (rfl|rfl|rfl)
         . exact .inl rfl
         . exact .inr (.inl ⟨rfl,rfl⟩)
         . exact .inr (.inr ⟨rfl,rfl,rfl⟩)
        have HA':=Zq hA';clear hA';by_cases hA:c0=60\/c0=62\/c0=33
        . by_cases hin:p+1<s.length
          . have hk1:k1<n:=(HLT.out _ _ HX2.out.st.at').2 hin;obtain ⟨b',off',he,-,-,d2,-⟩:=((HP.out.mono HX2.out.but.gb).mono (Zdu B X2)).at HX2.out.st.at' hin;simp only [Yai,Ybd,and_true] at he;obtain ⟨rfl,rfl⟩:=he;have hst2:=HX2.out.st.at'.step hin;have h61:=ZlF (l:=s.drop (p+1));have hlow2:=fun h=>(ZaW (l:=s.drop (p+1)) h).2.2;have hrr2:=ZaV (s.drop (p+1));generalize rn (s.drop (p+1))=x at *;generalize wd (s.drop (p+1))=u2 at *;by_cases hx:x=61
            . have hu2:=hlow2 (by omega);subst hu2;have hb61:bk (s.drop p) 1=61:=(by rw [HB1.out]; exact h61.1 hx);have HE:Hid (tok1 (s.drop p)=some (4,sx++[61],0,2)):=Zq (by rw [hT.out,if_pos ⟨hA,hb61⟩,ZlI hb61,HBK.out,<-HSX.out]);have HST2:Hid (AtP s (k1+1) (p+2)):=Zq hst2;subst hx;clear h61 hlow2 hst2 hb61 HB1;rcases HA'.out hA with q1|⟨q1,q2⟩|⟨q1,q2,q3⟩;all_goals clear hA;go_wp2;go_quiet ((fail));go_upto_region 14 with fail;rw [ZlJ];have HX3:=Zq ((HX2.out.call (Ybb (Yab _ _) nq)).setS (sx++[61]));generalize (X2.drewN nq).setCell ⟨W.heap.size,1,none⟩ (.string ⟨(sx++[61]).toArray⟩)=X3 at *;clear t0 t1 t2 t3 tf1 tf2 r0 r1 r2 r3 g0 g1 g2 g3 p0 p1 p2 p3 c1 c2 f2 d2;obtain ⟨⟨t0,t1,t2,t3⟩,⟨tf1,tf2⟩,⟨r0,r1,r2,r3⟩,g0,g1,g2,g3⟩:=HX3.out.cells;obtain ⟨-,c1,c2,f2,-⟩:=HX3.out.st.cells;have hne4:¬ w.heap.size=B:=(by have:=HX3.out.h1; omega);have hne5:¬ B=w.heap.size:=fun h=>hne4 h.symm;go_upto_region 15 with fail;have HX4:=Zq (HX3.out.setK ((k1:Int)+1) (by omega) HST2.out);generalize X3.setCell ⟨B,2,none⟩ (.int .i64 ((k1:Int)+1))=X4 at *;clear t0 t1 t2 t3 tf1 tf2 r0 r1 r2 r3 g0 g1 g2 g3 c1 c2 f2;obtain ⟨⟨t0,t1,t2,t3⟩,⟨tf1,tf2⟩,⟨r0,r1,r2,r3⟩,g0,g1,g2,g3⟩:=HX4.out.cells;go_wp2;have hd:=HX4.out.done rfl;refine Yaf (v := .tuple #[.agg #[.int .i64 4,.string ⟨(sx++[61]).toArray⟩,.int .i64 0,.int .i64 p],.bool true]) (by simp [results,Tryz.results140,go_sem,hd.2.2]) rfl ?_;refine ⟨hd.2.1,?_⟩;rw [HE.out];exact ⟨rfl,k1+1,hd.1⟩
            . have HE:Hid (tok1 (s.drop p)=some (4,sx,0,1)):=Zq (by rw [hT.out,if_neg (fun h=>hx (h61.2 (by rw [<-HB1.out]; exact h.2))),if_pos HM.out,HH1.out]);have q61:(x == 61)=false:=Zr hx;clear h61 hlow2 hst2 hx HB1;rcases HA'.out hA with q1|⟨q1,q2⟩|⟨q1,q2,q3⟩;all_goals clear hA;go_wp2;go_quiet ((fail));go_wp2;have hd:=(HX2.out.call (Ybb (Yab _ _) nq)).done rfl;refine Yaf (v := .tuple #[.agg #[.int .i64 4,.string ⟨sx.toArray⟩,.int .i64 0,.int .i64 p],.bool true]) (by simp [results,Tryz.results140,go_sem,hd.2.2]) rfl ?_;refine ⟨hd.2.1,?_⟩;rw [HE.out];exact ⟨rfl,k1,hd.1⟩
          . have hk1:¬ k1<n:=fun x=>hin ((HLT.out _ _ HX2.out.st.at').1 x);have HE:Hid (tok1 (s.drop p)=some (4,sx,0,1)):=Zq (by rw [hT.out,if_neg (fun h=>by have h2:=h.2; rw [HB1.out,Yar (by omega),ZaI] at h2; omega),if_pos HM.out,HH1.out]);clear HB1;rcases HA'.out hA with q1|⟨q1,q2⟩|⟨q1,q2,q3⟩;all_goals clear hA;go_wp2;go_quiet ((fail));go_wp2;have hd:=(HX2.out.call (Ybb (Yab _ _) nq)).done rfl;refine Yaf (v := .tuple #[.agg #[.int .i64 4,.string ⟨sx.toArray⟩,.int .i64 0,.int .i64 p],.bool true]) (by simp [results,Tryz.results140,go_sem,hd.2.2]) rfl ?_;refine ⟨hd.2.1,?_⟩;rw [HE.out];exact ⟨rfl,k1,hd.1⟩
        . have HE:Hid (tok1 (s.drop p)=some (4,sx,0,1)):=Zq (by rw [hT.out,if_neg (fun h=>hA h.1),if_pos HM.out,HH1.out]);have q1:((c0:Int) == 60)=false:=Zr (by omega);have q2:((c0:Int) == 62)=false:=Zr (by omega);have q3:((c0:Int) == 33)=false:=Zr (by omega);clear HB1 hA;go_wp2;go_quiet ((fail));go_wp2;have hd:=(HX2.out.call (Ybb (Yab _ _) nq)).done rfl;refine Yaf (v := .tuple #[.agg #[.int .i64 4,.string ⟨sx.toArray⟩,.int .i64 0,.int .i64 p],.bool true]) (by simp [results,Tryz.results140,go_sem,hd.2.2]) rfl ?_;refine ⟨hd.2.1,?_⟩;rw [HE.out];exact ⟨rfl,k1,hd.1⟩
      . have q1:(((sg j:Nat):Int) != (c0:Int))=true:=(by simp; omega);have HN2:Hid (∀ i,i<j+1->sg i≠c0):=Zq (fun i hi=>by
         by_cases h:i<j
         . exact HN.out i h
         . obtain rfl:i=j:=(by omega);exact hm)
        clear hm hsx;go_wp2;go_region;go_wp2;go_roundg (gk - 1);(case rel=>exact ⟨j+1,by go_num,Zq HL.out.drew,Zq HPR.out,HN2,by omega,by omega⟩);case measure=>omega
    . have HE:Hid (tok1 (s.drop p)=none):=Zq (by
       have h2:isSign1 c0=false:=by
        cases h:isSign1 c0 with
        | false=>rfl
        | true =>obtain ⟨i,hi,e⟩:=sg_sign.1 h;exact absurd e (HN.out i (by omega))
       have h3:¬ (c0=60\/c0=62\/c0=33):=(by rintro (rfl|rfl|rfl)<;>cases h2);rw [hT.out,if_neg (fun h=>h3 h.1),h2];rfl)
      go_wp2;have hd:=HL.out.done rfl;refine Yaf (v := .tuple #[.agg #[.int .i64 4,.string ⟨#[]⟩,.int .i64 0,.int .i64 p],.bool false]) (by simp [results,Tryz.results140,go_sem,hd.2.2]) rfl ?_;refine ⟨hd.2.1,?_⟩;rw [HE.out];exact ⟨4,[],0,rfl⟩
theorem Evo.ofBut {t:Tag} {B k:Nat} {w w':World} (h:But B w w') (hB:t B=k):Evo t w t w' (·=k) :=
 ⟨h.os,h.tape,h.output,h.size,fun _ _=>rfl,fun b hb hk=>h.block b hb (fun e=>hk (by rw [e]; exact hB))⟩
theorem ZlL {t:Tag} {w:World} {B:Nat} (hB:t B≠0):(hz t w).le (gb B w):=fun b o h=>by
 unfold hz at h
 split at h
 . unfold gb
   rw [if_neg (fun e=>by subst e; contradiction)]
   exact h
 . cases h
structure LX (w0 wr:World) (tau:Tag) (B:Nat) (s:Bs) (pv:Value) (k q:Nat) (l:Value) (ts:List Tok):Prop where
 row:Row tau 1 wr 114 4 l ts.length (ts.flatMap tokCells)
 ev:Evo T0 w0 tau wr (·≠0)
 st:LSt wr B s pv k q
 tg:tau B=2
 hB:w0.heap.size<=B
section
variable {w0 wr W : World} {tau : Tag} {B : Nat} {s : Bs} {pv : Value} {k q : Nat} {l : Value} {ts : List Tok}
theorem LX.call (h:LX w0 wr tau B s pv k q l ts) (hb:Below wr.heap.size wr W):LX w0 W tau B s pv k q l ts:=⟨h.row.call hb,h.ev.call hb,h.st.keep hb,h.tg,h.hB⟩
theorem LX.but (h:LX w0 wr tau B s pv k q l ts) (hb:But B wr W) {k' q':Nat} (hl:LSt W B s pv k' q'):LX w0 W tau B s pv k' q' l ts :=
 ⟨h.row.keep (Evo.ofBut hb h.tg) (by omega),h.ev.trans ((Evo.ofBut hb h.tg).mono (fun x hx=>by omega)),hl,h.tg,h.hB⟩
theorem LX.ps (h:LX w0 wr tau B s pv k q l ts) (hp:PsV (gh w0) pv s):PsV (gb B wr) pv s:=by have h1:=h.ev.hz (by simp);rw [Zaf] at h1;exact (hp.mono h1).mono (ZlL (by rw [h.tg]; omega))
theorem LX.new (h:LX w0 wr tau B s pv k q l ts) (c:Array Value) (T:TypeId):LX w0 (wr.alloc (.cells c T (0,0))) (tau.set wr.heap.size 3) B s pv k q l ts:=by have hlt:=h.st.cells.2.2.2.2;exact ⟨h.row.keep (K:=fun _=>False) ((Ybg tau wr _).alloc 3 _) (fun x=>x),h.ev.alloc 3 _,h.st.alloc _,by rw [Tag.set_other _ _ _ (by omega)]; exact h.tg,h.hB⟩
theorem LX.put4 (h:LX w0 wr tau B s pv k q l ts) {TB:Nat} (ht:tau TB=3) (y0 y1 y2 y3:Value) :
 LX w0 ((((wr.setCell ⟨TB,0,none⟩ y0).setCell ⟨TB,1,none⟩ y1).setCell ⟨TB,2,none⟩ y2).setCell ⟨TB,3,none⟩ y3) tau B s pv k q l ts:=by
 have hne:TB≠B:=fun e=>by subst e; rw [h.tg] at ht; omega
 have e3:∀ {K:Nat->Prop},K 3->Evo tau wr tau ((((wr.setCell ⟨TB,0,none⟩ y0).setCell ⟨TB,1,none⟩ y1).setCell ⟨TB,2,none⟩ y2).setCell ⟨TB,3,none⟩ y3) K:=fun hk =>((((Ybg tau wr _).setCell ⟨TB,0,none⟩ y0 (by show _; simp only [ht]; exact hk)).setCell ⟨TB,1,none⟩ y1 (by show _; simp only [ht]; exact hk)).setCell ⟨TB,2,none⟩ y2 (by show _; simp only [ht]; exact hk)).setCell ⟨TB,3,none⟩ y3 (by show _; simp only [ht]; exact hk);exact ⟨h.row.keep (K:=fun k=>k=3) (e3 rfl) (by omega),h.ev.trans (e3 (by simp)),(((h.st.other hne _).other hne _).other hne _).other hne _,h.tg,h.hB⟩
theorem LX.app (h:LX w0 wr tau B s pv k q l ts) {t':Tag} {v':Value} {us:List Tok} (he:Evo tau wr t' W (·=1)) (hr:Row t' 1 W 114 4 v' us.length (us.flatMap tokCells)):LX w0 W t' B s pv k q v' us:=by have hlt:=h.st.cells.2.2.2.2;refine ⟨hr,h.ev.trans (he.mono (fun x hx=>by omega)),⟨?_,h.st.at'⟩,by rw [he.tag _ hlt]; exact h.tg,h.hB⟩;rw [he.block _ hlt (by rw [h.tg]; omega)];exact h.st.cell
end
theorem ZlM {l:Bs} (h:rn l=34):badB l=false:=by unfold badB;exact Yaj (by omega)
def refLexPost (s:Bs) (w:World) (e:Ending) (w':World):Prop :=
 Below w.heap.size w w'/\(match lexAll s with
  | .error p=>e = .returned (.tuple #[.slice none 0 0,.int .i64 p,.int .i64 5])
  | .ok ts=>∃ v,e = .returned (.tuple #[v,.int .i64 0,.int .i64 0])/\TokV (gh w') v ts)
theorem ZlN (s:Bs) (w:World) (hs:400<s.length) (hm:s.length<=9223372036854775807) :
 Calls Tryz.prog 97 #[.string ⟨s.toArray⟩] w fun e w'=>e = .returned (.tuple #[.slice none 0 0,.int .i64 400,.int .i64 7])/\w=w':=by
 obtain ⟨sb,hsb⟩:∃ sb:ByteArray,(⟨s.toArray⟩:ByteArray)=sb:=⟨_,rfl⟩;have h1:400<sb.size:=by rw [<-hsb]; simpa [ByteArray.size] using hs
 have h2:sb.size<=9223372036854775807:=by rw [<-hsb]; simpa [ByteArray.size] using hm
 rw [hsb];clear hsb hs hm;go_in;go_wp2;go_ret3;exact ⟨rfl,rfl⟩
theorem ZlO (s:Bs) (w:World) (hs:s.length<=400) :
 Calls Tryz.prog 97 #[.string ⟨s.toArray⟩] w (refLexPost s w):=by
 obtain ⟨i0,hi,hz0,hz1,hz2⟩:=info_parts ZcL;have hpc:=Zk5 ⟨s.toArray⟩ w (by simp [ByteArray.size]; omega);unfold piecesPost at hpc;simp only [List.toList_toArray] at hpc;obtain ⟨sb,hsb⟩:∃ sb:ByteArray,(⟨s.toArray⟩:ByteArray)=sb:=⟨_,rfl⟩;have h1:¬ 400<sb.size:=by rw [<-hsb]; simp [ByteArray.size]; omega
 have HSZ:Hid (sb.size=s.length):=Zq (by rw [<-hsb]; simp [ByteArray.size]);obtain ⟨R,hR⟩:∃ R,lexAll s=R:=⟨_,rfl⟩;have HRR:=Zq hR;rw [hsb] at hpc |-;have HSB:=Zq hsb;have HPP:=Zq hpc;clear hpc hsb hR;go_in;go_wp2_with fail;refine HPP.out.mono ?_;rintro e w0 ⟨hb0,pv,rfl,hpv⟩;have HPV:=Zq hpv;have HB0:=Zq hb0;obtain ⟨pa,pcap,rfl⟩:=hpv.form;have HLX:Hid (LX w0 (w0.alloc (.cells #[.string sb,.slice pa (cnt s) pcap,.int .i64 0] 195)) (T0.set w0.heap.size 2) w0.heap.size s (.slice pa (cnt s) pcap) 0 0 (.slice none 0 0) []):=Zq
  ⟨Row.nil _ _ _ _ _,(Ybg T0 w0 _).alloc 2 _,⟨by rw [HSB.out]; exact Yac w0 _,.zero⟩,Tag.set_same _ _ _,Nat.le_refl _⟩
 have hcl:=Zbk s;obtain ⟨n,hn⟩:∃ n,cnt s=n:=⟨_,rfl⟩;have HNN:=Zq hn;rw [hn] at HLX HPV hcl |-;clear hpv hb0 HPP hn;go_wp2;have hs1:s.length<=1000000:=by omega
 have HCC:=Zq (fun k q w h hP=>Zlb s w0.heap.size k q (.slice pa n pcap) w hs1 h hP);have HLT:Hid (∀ k p,AtP s k p->(k<cnt s↔p<s.length)):=Zq (fun k p h=>h.lt);have hj0:Hid (join [] (lexL (s.length+1) 0 (s.drop 0))=R):=Zq (by rw [<-HRR.out];unfold lexAll;rw [List.drop_zero];generalize lexL (s.length+1) 0 s=X;cases X<;>simp [join]);go_loopg [6] s.length (fun g l wr=>∃ (tau:Tag) (k q f:Nat) (ts:List Tok),Hid (LX w0 wr tau w0.heap.size s (.slice pa n pcap) k q l ts)/\Hid (join ts (lexL (f+1) q (s.drop q))=R)/\s.length<=q+f/\s.length<=q+g/\q<=s.length/\ts.length<=q);case atStart=>exact ⟨_,0,0,s.length,[],HLX,hj0,by omega,by omega,by omega,by simp⟩
 case round =>
  obtain ⟨tau,k,q,f,ts,HL0,HJ0,hf0,hg0,hq0,htl0⟩:=hrel;clear HLX hj0;obtain ⟨wo,hwo⟩:∃ wo,wo=wr:=⟨_,rfl⟩;subst hwo;obtain ⟨g0,hgg⟩:∃ g0,g0=gk:=⟨_,rfl⟩;subst hgg;obtain ⟨la,lc,rfl⟩:=HL0.out.row.form;go_wp2;go_loopg [] s.length (fun g wr=>∃ (k q f:Nat),Hid (LX w0 wr tau w0.heap.size s (.slice pa n pcap) k q (.slice la ts.length lc) ts)/\Hid (join ts (lexL (f+1) q (s.drop q))=R)/\s.length<=q+f/\s.length<=q+g/\s.length<=q+g0/\q<=s.length/\ts.length<=q);(case atStart=>exact ⟨k,q,f,HL0,HJ0,hf0,by omega,hg0,hq0,htl0⟩);case round =>
   obtain ⟨k,q,f,HL,HJ,hf,hg,hg2,hq,htl⟩:=hrel;clear HL0 HJ0;go_wp2_with fail;refine (HCC.out k q wr HL.out.st (HL.out.ps HPV.out)).mono ?_;rintro e W2 ⟨rfl,hb2⟩;have HL2:=Zq (HL.out.call hb2);clear hb2 HL;by_cases hc3:clsAt s q=3
   . obtain ⟨hin,hcq⟩:=Zla hc3 (by omega);obtain ⟨-,c1,c2,f2,-⟩:=HL2.out.st.cells;have hst:=HL2.out.st.at'.step hin;have HST:=Zq hst;have hwl:=ZaS (Zkf hin);have hwp:=ZaQ (s.drop q);rw [Yav] at hwl;obtain ⟨f,rfl⟩:∃ f',f=f'+1:=⟨f - 1,by omega⟩;have HJ2:Hid (join ts (lexL (f+1) (q+wd (s.drop q)) (s.drop (q+wd (s.drop q))))=R):=Zq (by rw [<-HJ.out,ZcI (Zkf hin) hcq,List.drop_drop]);have hk1:k<=1000000:=(by have:=HL2.out.st.at'.le; omega);rw [hc3];clear hc3 hcq hst HJ;generalize wd (s.drop q)=u at *;go_wp2;go_roundg (gk - 1);(case rel=>exact ⟨k+1,q+u,f,Zq (HL2.out.but ((But.refl _ _).setPb 2 _) (HL2.out.st.set _ (by omega) HST.out)),HJ2,by omega,by omega,by omega,by omega,by omega⟩);case measure=>omega
   . have q3:(clsAt s q == 3)=false:=Zr hc3;go_wp2_with fail;refine (HCC.out k q W2 HL2.out.st (HL2.out.ps HPV.out)).mono ?_;rintro e W3 ⟨rfl,hb3⟩;have HL3:=Zq (HL2.out.call hb3);clear hb3 HL2;by_cases hin:q<s.length
     . rw [Zk8 hin];have hcc:=Zk8 hin;have hne:=Zkf hin;have h3n:cls (rn (s.drop q))≠3:=fun h=>hc3 (by rw [hcc]; exact h);obtain ⟨f,rfl⟩:∃ f',f=f'+1:=⟨f - 1,by omega⟩;have HE0:Hid (tok1 (s.drop q)=none->R = .error q):=Zq (fun h=>by rw [<-HJ.out,ZcJ hne h3n h]; rfl);have HE1:Hid (∀ kd us m z,tok1 (s.drop q)=some (kd,us,m,z)->join (ts++[⟨kd,us,m,q⟩]) (lexL (f+1) (q+z) (s.drop (q+z)))=R):=Zq (fun kd us m z h=>by rw [<-HJ.out,ZcK hne h3n h,ZcG,List.drop_drop]);have HE2:Hid (∀ kd us m z,tok1 (s.drop q)=some (kd,us,m,z)->1<=z/\q+z<=s.length):=Zq (fun kd us m z h=>by have h1:=Zba hne h;have h2:=ZaQ (s.drop q);have h3:=h1.1.le;rw [Yav] at h3;omega);have HLA:=Zq (HL3.out.new #[.int .i64 0,.string ⟨#[]⟩,.int .i64 0,.int .i64 0] 114);have HZA:=Zq (Yac W3 (.cells #[.int .i64 0,.string ⟨#[]⟩,.int .i64 0,.int .i64 0] 114));have htg3:(tau.set W3.heap.size 3) W3.heap.size=3:=Tag.set_same _ _ _;have hsA:W3.heap.size<(W3.alloc (.cells #[.int .i64 0,.string ⟨#[]⟩,.int .i64 0,.int .i64 0] 114)).heap.size:=(by simp);have HTG3:=Zq htg3;have hBW:w0.heap.size<W3.heap.size:=HL3.out.st.cells.2.2.2.2;have hWs:w.heap.size<=w0.heap.size:=HB0.out.size;have hrr:=ZaV (s.drop q);have hcr:=Zap (rn (s.drop q));have hkn:k<cnt s:=(HLT.out _ _ HL3.out.st.at').2 hin;have HPA:=Zq (HLA.out.ps HPV.out);clear htg3 hcc hne;have hrest:(cls (rn (s.drop q))=2)\/(cls (rn (s.drop q))=1)\/(cls (rn (s.drop q))=0/\rn (s.drop q)=34)\/(cls (rn (s.drop q))=0/\rn (s.drop q)≠34):=by
        by_cases h:rn (s.drop q)=34
        . rcases hcr with h'|h'|h'|h'
          . exact .inr (.inr (.inl ⟨h',h⟩))
          . exact .inr (.inl h')
          . exact .inl h'
          . exact absurd h' h3n
        . rcases hcr with h'|h'|h'|h'
          . exact .inr (.inr (.inr ⟨h',h⟩))
          . exact .inr (.inl h')
          . exact .inl h'
          . exact absurd h' h3n
       have hkn2:k<n:=(by have:=HNN.out; omega);obtain ⟨b,off,hpa,hd⟩:=(HPA.out.mono (Zdu _ _)).at HLA.out.st.at' hin;subst hpa;have HD:=Zq hd;clear hd;clear hcr h3n hc3 q3;rcases hrest with hw|hw|⟨hw,h34⟩|⟨hw,h34⟩;all_goals
        first
         | (have HC:=Zq (Zlh s w0.heap.size k q _ _ hs1 HLA.out.st HPA.out hin hw); rw [hw]; clear hw; go_wp2_with fail; refine HC.out.mono ?_; have HLB:=HLA; have HZB:=HZA; have HPB:=HPA; have hsB:=hsA; clear HC HLA HZA HPA hsA)
         | (have HC:=Zq (Zlm s w0.heap.size k q _ _ hs1 HLA.out.st HPA.out hin hw); rw [hw]; clear hw; go_wp2_with fail; refine HC.out.mono ?_; have HLB:=HLA; have HZB:=HZA; have HPB:=HPA; have hsB:=hsA; clear HC HLA HZA HPA hsA)
         | (have HC:=Zq (fun pv W h hP=>ZlB s w0.heap.size k q pv W hs1 h hP hin h34); have HW:=Zq hw; rw [hw]; clear hw; have hb0:=ZlM h34; obtain ⟨d0,d1,d2,d3⟩:=HD.out; obtain ⟨-,c1,c2,f2,-⟩:=HLA.out.st.cells; rw [hb0] at d3; rw [h34] at d2; clear hb0; go_wp2; go_quiet ((fail)); clear d0 d1 d2 d3 c1 c2 f2; have HLB:=Zq (HLA.out.call (Ybb (Yab _ _) nq)); have HZB:Hid (((W3.alloc (.cells #[.int .i64 0,.string ⟨#[]⟩,.int .i64 0,.int .i64 0] 114)).drewN nq).heap[W3.heap.size]?=some (.cells #[.int .i64 0,.string ⟨#[]⟩,.int .i64 0,.int .i64 0] 114 (0,0))):=Zq HZA.out; have HPB:=Zq (HLB.out.ps HPV.out); have hsB:W3.heap.size<((W3.alloc (.cells #[.int .i64 0,.string ⟨#[]⟩,.int .i64 0,.int .i64 0] 114)).drewN nq).heap.size:=hsA; go_wp2_with fail; refine (HC.out _ _ HLB.out.st HPB.out).mono ?_; clear HC HLA HZA HPA hsA)
         | (have HC:=Zq (fun pv W h hP=>ZlK s w0.heap.size k q pv W hs1 h hP hin hw h34); have HW:=Zq hw; rw [hw]; clear hw; obtain ⟨d0,d1,d2,d3⟩:=HD.out; obtain ⟨-,c1,c2,f2,-⟩:=HLA.out.st.cells; have q34:(rn (s.drop q) == 34)=false:=Zr h34; have H34:=Zq h34; clear h34; go_wp2; go_quiet ((fail)); clear d0 d1 d2 d3 c1 c2 f2 q34; have h34:=H34.out; have HLB:=Zq (HLA.out.call (Ybb (Yab _ _) nq)); have HZB:Hid (((W3.alloc (.cells #[.int .i64 0,.string ⟨#[]⟩,.int .i64 0,.int .i64 0] 114)).drewN nq).heap[W3.heap.size]?=some (.cells #[.int .i64 0,.string ⟨#[]⟩,.int .i64 0,.int .i64 0] 114 (0,0))):=Zq HZA.out; have HPB:=Zq (HLB.out.ps HPV.out); have hsB:W3.heap.size<((W3.alloc (.cells #[.int .i64 0,.string ⟨#[]⟩,.int .i64 0,.int .i64 0] 114)).drewN nq).heap.size:=hsA; go_wp2_with fail; refine (HC.out _ _ HLB.out.st HPB.out).mono ?_; clear HC HLA HZA HPA hsA)
       all_goals
        rintro e W5 ⟨hbt,hm⟩;have HNX:Hid (∀ k' q',LSt W5 w0.heap.size s (.slice (some ⟨b,off,none⟩) n pcap) k' q'->LX w0 W5 (tau.set W3.heap.size 3) w0.heap.size s (.slice (some ⟨b,off,none⟩) n pcap) k' q' (.slice la ts.length lc) ts):=Zq (fun k' q' hl=>HLB.out.but hbt hl);have HBE:=Zq ((HLB.out.ev.trans ((Evo.ofBut hbt HLB.out.tg).mono (K':=(·≠0)) (fun x hx=>by omega))).toBelow (by simp));have hz5:W5.heap[W3.heap.size]?=some (.cells #[.int .i64 0,.string ⟨#[]⟩,.int .i64 0,.int .i64 0] 114 (0,0)):=(hbt.block _ hsB (by omega)).trans HZB.out;have HZ5:=Zq hz5;obtain ⟨⟨z0,z1,z2,z3⟩,y0,y1,y2,y3⟩:=ZdP hz5;clear hz5 hbt HLB HZB HPB hsB;cases htk:tok1 (s.drop q) with
        | none =>rw [htk] at hm;obtain ⟨kd,us,m,rfl⟩:=hm;have HE:=Zq (HE0.out htk);clear htk HE1 HE2 HNX;simp only [tokV,strV];have hh:=ZdP (ZdM HZ5.out (.int .i64 kd) (.string ⟨us.toArray⟩) (.int .i64 m) (.int .i64 q));go_upto_region 18 with fail;have HBX:=Zq ((((HBE.out.setCell (p:=⟨W3.heap.size,0,none⟩) (by show _<=W3.heap.size; omega) (.int .i64 kd)).setCell (p:=⟨W3.heap.size,1,none⟩) (by show _<=W3.heap.size; omega) (.string ⟨us.toArray⟩)).setCell (p:=⟨W3.heap.size,2,none⟩) (by show _<=W3.heap.size; omega) (.int .i64 m)).setCell (p:=⟨W3.heap.size,3,none⟩) (by show _<=W3.heap.size; omega) (.int .i64 q));generalize ((((W5.setCell ⟨W3.heap.size,0,none⟩ (.int .i64 kd)).setCell ⟨W3.heap.size,1,none⟩ (.string ⟨us.toArray⟩)).setCell ⟨W3.heap.size,2,none⟩ (.int .i64 m)).setCell ⟨W3.heap.size,3,none⟩ (.int .i64 q))=X at *;clear z0 z1 z2 z3 y0 y1 y2 y3;obtain ⟨⟨z0,z1,z2,z3⟩,y0,y1,y2,y3⟩:=hh;go_wp2;go_region;go_wp2;(try rw [Yae]);go_ret3;refine ⟨HB0.out.seq (HBX.out.drew),?_⟩;rw [HRR.out,HE.out];rfl
        | some x =>obtain ⟨kd,us,m,z⟩:=x;rw [htk] at hm;obtain ⟨rfl,k',hl⟩:=hm;have HJ2:=Zq (HE1.out _ _ _ _ htk);obtain ⟨hz1',hz2'⟩:=HE2.out _ _ _ _ htk;have HL6:=Zq (HNX.out k' (q+z) hl);have HX6:=Zq (HL6.out.put4 HTG3.out (.int .i64 kd) (.string ⟨us.toArray⟩) (.int .i64 m) (.int .i64 q));clear htk HE0 HE1 HE2 HNX hl;simp only [tokV,strV];have hh:=ZdP (ZdM HZ5.out (.int .i64 kd) (.string ⟨us.toArray⟩) (.int .i64 m) (.int .i64 q));go_upto_region 18 with fail;generalize ((((W5.setCell ⟨W3.heap.size,0,none⟩ (.int .i64 kd)).setCell ⟨W3.heap.size,1,none⟩ (.string ⟨us.toArray⟩)).setCell ⟨W3.heap.size,2,none⟩ (.int .i64 m)).setCell ⟨W3.heap.size,3,none⟩ (.int .i64 q))=X at *;clear z0 z1 z2 z3 y0 y1 y2 y3;obtain ⟨⟨z0,z1,z2,z3⟩,y0,y1,y2,y3⟩:=hh;have hrow:=HX6.out.row;have htl2:ts.length<=1000:=(by omega);go_wp2_with (at_builtin; refine Zac rfl _ _ 110 rfl 114 i0 _ 4 40 Tryz.underlying110 hi hz0 hz1 hz2 rfl (by decide) rfl hrow #[.int .i64 kd,.string ⟨us.toArray⟩,.int .i64 m,.int .i64 q] 114 (0,0) _ rfl ?c0 rfl ?c1 ?c2 ?c3 ?_);(case c0=>simp);(case c1=>first|exact ⟨rfl,rfl,rfl,rfl⟩|(intro u hu; simp at hu; rcases hu with rfl|rfl|rfl|rfl<;>rfl));(case c2=>unfold maxLen; omega);(case c3=>omega);intro v' t' w' hr3 he;have hfl:(ts.flatMap tokCells)++tokCells ⟨kd,us,m,q⟩=(ts++[(⟨kd,us,m,q⟩:Tok)]).flatMap tokCells:=(by rw [List.flatMap_append]; simp);have hr4:Row t' 1 w' 114 4 v' (ts++[(⟨kd,us,m,q⟩:Tok)]).length ((ts++[(⟨kd,us,m,q⟩:Tok)]).flatMap tokCells):=(by rw [<-hfl,Yak]; exact hr3);have HX8:=Zq (HX6.out.app he hr4);clear hr3 hr4 hfl he hrow;go_wp2;go_roundg (g0 - 1);(case rel=>exact ⟨t',k',q+z,f,ts++[⟨kd,us,m,q⟩],HX8,HJ2,by omega,by omega,by omega,by rw [Yak]; simp; omega⟩);case measure=>omega
     . have HE:Hid (R = .ok (ts++[⟨0,[],0,sb.size⟩])):=Zq (by have hnil:s.drop q=[]:=Yar (by omega);rw [<-HJ.out,ZcH hnil,show q=sb.size by have:=HSZ.out; omega]; rfl);rw [Zk9 hin];have hct:ts.length<=400:=(by omega);have hrow:=HL3.out.row;clear hc3 q3 HJ;go_wp2_with (at_builtin; refine Zac rfl _ _ 110 rfl 114 i0 _ 4 40 Tryz.underlying110 hi hz0 hz1 hz2 rfl (by decide) rfl hrow #[.int .i64 0,.string ⟨#[]⟩,.int .i64 0,.int .i64 sb.size] 114 (0,0) _ rfl ?c0 rfl ?c1 ?c2 ?c3 ?_);(case c0=>simp);(case c1=>first|exact ⟨rfl,rfl,rfl,rfl⟩|(intro u hu; simp at hu; rcases hu with rfl|rfl|rfl|rfl<;>rfl));(case c2=>unfold maxLen; omega);(case c3=>omega);intro v' t' w' hr3 he;have HEV:=Zq (HL3.out.ev.trans (he.mono (K':=(·≠0)) (by intro x hx; omega)));obtain ⟨va,vc,hv⟩:=hr3.form;have hfl:(ts.flatMap tokCells)++tokCells ⟨0,[],0,sb.size⟩=(ts++[(⟨0,[],0,sb.size⟩:Tok)]).flatMap tokCells:=(by rw [List.flatMap_append]; simp);have hr4:Row t' 1 w' 114 4 v' (ts++[(⟨0,[],0,sb.size⟩:Tok)]).length ((ts++[(⟨0,[],0,sb.size⟩:Tok)]).flatMap tokCells):=(by rw [<-hfl,Yak]; exact hr3);have HV:=Zq (SlV.ofRow tokCells _ noTok (by decide) ZcF hr4);clear hr3 hr4 hfl he hrow;go_wp2;(try rw [Yae]);go_ret3;refine ⟨HB0.out.seq (HEV.out.toBelow (by simp)),?_⟩;rw [HRR.out,HE.out];exact ⟨_,rfl,HV.out⟩
end Go.Proofs.YtikannmgllejfaaGreatDoor
