/- The walk of the document's text. -/
import Derived.Test.YtikannmgllejfaaGreatDoorKRG
import Derived.Test.YtikannmgllejfaaGreatDoorKPl
import Derived.Laws.BytesArg
set_option maxHeartbeats 4000000
set_option maxRecDepth 1000000
set_option linter.all false
namespace Go.Proofs.YtikannmgllejfaaGreatDoor
open Go.RowKit Pal
def escPost (B:Nat) (s:Bs) (pv:Value) (p0:Nat) (w:World) (e:Ending) (w':World):Prop :=
 But B w w'/\match escL (s.drop p0) with
  | some (r,z)=>e = .returned (.tuple #[.int .i32 r,.bool true])/\∃ k',LSt w' B s pv k' (p0+z)
  | none=>∃ r:Int,e = .returned (.tuple #[.int .i32 r,.bool false])
theorem Zln {l:Bs}:rn l=117↔bk l 0=117:=by
 constructor
 . intro h; have:=ZaW (l:=l) (by omega); omega
 . intro h; have:=ZaT (l:=l) (by omega); omega
theorem Zlo {l:Bs} (h1:bk l 1≠34) (h2:bk l 1≠92) (h3:bk l 1≠117):escL l=none:=by unfold escL;rw [if_neg (by omega),if_neg h3]
theorem Zlp {l:Bs} (h:bk l 1=34\/bk l 1=92):escL l=some (((bk l 1:Nat):Int),2):=by unfold escL;rw [if_pos h]
theorem Zlq {l:Bs} {k:Nat} {v:Int} (h:hexD (bk l (2+k))=some v):hxN l (k+1)=hxN l k*16+v:=by show hxN l k*16+(hexD (bk l (2+k))).getD 0=_;rw [h]; rfl
theorem Zlr (l:Bs) (k:Nat) (hk:k<4):0<=hxN l k/\hxN l k<4096:=by
 have hr:=Zb6 l k;have hp:(16:Int) ^ k<=4096:=by rcases (by omega:k=0\/k=1\/k=2\/k=3) with rfl|rfl|rfl|rfl<;>decide
 omega
theorem Zls (s:Bs) (B k p0:Nat) (pv:Value) (w:World) (hs:s.length<=1000000) (h:LSt w B s pv k (p0+1)) (hP:PsV (gb B w) pv s) :
 Calls Tryz.prog 193 #[.pointer (some ⟨B,0,none⟩)] w (escPost B s pv p0 w):=by
 obtain ⟨a,cap,rfl⟩:=hP.form;obtain ⟨c0,c1,c2,f2,hlt⟩:=h.cells;have hle:=h.at'.le.1;have hcl:=Zbk s;have HLT:=Zq (fun k p (h:AtP s k p)=>h.lt);have HP:=Zq hP;have HS:=Zq h;have hk1:bk (s.drop p0) 1=bk (s.drop (p0+1)) 0:=by rw [ZaG,ZaG]
 generalize cnt s=n at *;have hn1:n<=1000000:=by omega
 by_cases hp:p0+1<s.length
 . have hkn:k<n:=(HLT.out _ _ HS.out.at').2 hp;obtain ⟨b,off,rfl,-,-,d2,-⟩:=(hP.mono (Zdu B w)).at h.at' hp;have hst:=h.at'.step hp;have h34:=rn_34 (l:=s.drop (p0+1));have h92:=rn_92 (l:=s.drop (p0+1));have h117:=Zln (l:=s.drop (p0+1));have hrr:=ZaV (s.drop (p0+1));have hlow:=fun h=>ZaW (l:=s.drop (p0+1)) h;generalize hr:rn (s.drop (p0+1))=r at *;clear hP h c0;by_cases hq:r=34\/r=92
   . have hl2:=hlow (by omega);have HE:Hid (escL (s.drop p0)=some (r,2)):=Zq (by rw [Zlp (by rw [hk1]; rcases hq with h|h; exact .inl (h34.1 h); exact .inr (h92.1 h)),hk1,hl2.2.1]);have HST:Hid (AtP s (k+1) (p0+2)):=Zq (by rw [hl2.2.2] at hst; exact hst);clear hk1 hst h34 h92 h117 hlow hl2 hr HLT;rcases hq with rfl|rfl
     . go_in;go_wp2;go_region;go_wp2;go_region;go_wp2;go_ret2;refine ⟨((But.refl B w).setPb 2 _).drew.drew,?_⟩;rw [HE.out];exact ⟨rfl,k+1,((HS.out.set _ (by omega) HST.out).keep (Yab _ _).drew).keep (Yab _ _).drew⟩
     . go_in;go_wp2;go_region;go_wp2;go_region;go_wp2;go_ret2;refine ⟨((But.refl B w).setPb 2 _).drew.drew,?_⟩;rw [HE.out];exact ⟨rfl,k+1,((HS.out.set _ (by omega) HST.out).keep (Yab _ _).drew).keep (Yab _ _).drew⟩
   . have q1:(r == 34)=false:=Zr (fun h=>hq (.inl h));have q2:(r == 92)=false:=Zr (fun h=>hq (.inr h));by_cases hu:r=117
     . subst hu;have hl2:=hlow (by omega);have hb1:bk (s.drop p0) 1=117:=(by rw [hk1]; exact h117.1 rfl);rw [hl2.2.2] at hst;have HST:=Zq hst;have HB1:=Zq hb1;clear hk1 hst h34 h92 h117 hlow hl2 hr hq q1 q2 hb1;have hd0:decide (n<=k)=false:=(by simpa using hkn);go_in;go_wp2;go_region;go_wp2;go_region;go_wp2;clear d2;go_loopg [5,6] 4 (fun g v i wr=>∃ (j k':Nat),i = .int .i64 j/\v = .int .i32 (hxN (s.drop p0) j)/\Hid (LSt wr B s (.slice (some ⟨b,off,none⟩) n cap) k' (p0+2+j))/\Hid (But B w wr)/\j<=4/\j+g=4/\Hid (∀ i,i<j->(hexD (bk (s.drop p0) (2+i))).isSome=true));(case atStart=>exact ⟨0,k+1,rfl,rfl,Zq (((HS.out.set _ (by omega) HST.out).keep (Yab _ _).drew).keep (Yab _ _).drew),Zq ((But.refl B w).setPb 2 _).drew.drew,by omega,by omega,Zq (fun i hi=>by omega)⟩);case round =>
        obtain ⟨j,k',rfl,rfl,HL,HB,hj,hg,HX⟩:=hrel;obtain ⟨-,e1,e2,g2,-⟩:=HL.out.cells;by_cases hj4:j<4
        . have hsm:=Zlr (s.drop p0) j hj4;have hbk:bk (s.drop p0) (2+j)=bk (s.drop (p0+2+j)) 0:=(by rw [ZaG,ZaG]; congr 1; omega);by_cases hin:p0+2+j<s.length
          . have hkn':k'<n:=(HLT.out _ _ HL.out.at').2 hin;obtain ⟨b',off',he,-,-,d2,-⟩:=((HP.out.mono HB.out.gb).mono (Zdu B wr)).at HL.out.at' hin;simp only [Yai,Ybd,and_true] at he;obtain ⟨rfl,rfl⟩:=he;have hst:=HL.out.at'.step hin;have hx:=Zkl (l:=s.drop (p0+2+j));have hrr:=ZaV (s.drop (p0+2+j));rw [<-hbk] at hx;generalize rn (s.drop (p0+2+j))=c at *;by_cases h1:48<=c/\c<=57
            . obtain ⟨hd,hw⟩:=hx.1 h1;rw [hw] at hst;have HV:=Zq (Zlq hd);have HST2:Hid (AtP s (k'+1) (p0+2+(j+1))):=Zq hst;have HX2:Hid (∀ i,i<j+1->(hexD (bk (s.drop p0) (2+i))).isSome=true):=Zq (fun i hi=>by
               by_cases h:i<j
               . exact HX.out i h
               . obtain rfl:i=j:=(by omega);rw [hd]; rfl)
              obtain ⟨h1a,h1b⟩:=h1;clear hd hw hst hx hbk HX;generalize hxN (s.drop p0) j=v at *;go_wp2;go_region;go_wp2;go_region;go_wp2;go_roundg (gk - 1);(case rel=>exact ⟨j+1,k'+1,by go_num,by rw [HV.out]; congr 1; omega,Zq (((HL.out.set _ (by omega) HST2.out).keep (Yab _ _).drew).keep (Yab _ _).drew),Zq (HB.out.setPb 2 _).drew.drew,by omega,by omega,HX2⟩);case measure=>omega
            . by_cases h2:97<=c/\c<=102
              . obtain ⟨hd,hw⟩:=hx.2.1 h2;rw [hw] at hst;have HV:=Zq (Zlq hd);have HST2:Hid (AtP s (k'+1) (p0+2+(j+1))):=Zq hst;have HX2:Hid (∀ i,i<j+1->(hexD (bk (s.drop p0) (2+i))).isSome=true):=Zq (fun i hi=>by
                 by_cases h:i<j
                 . exact HX.out i h
                 . obtain rfl:i=j:=(by omega);rw [hd]; rfl)
                obtain ⟨h2a,h2b⟩:=h2;have h1':¬ c<=57:=(by omega);have h1'':48<=c:=(by omega);clear hd hw hst hx hbk HX h1;generalize hxN (s.drop p0) j=v at *;go_wp2;go_region;go_wp2;go_region;go_wp2;go_roundg (gk - 1);(case rel=>exact ⟨j+1,k'+1,by go_num,by rw [HV.out]; congr 1; omega,Zq (((HL.out.set _ (by omega) HST2.out).keep (Yab _ _).drew).keep (Yab _ _).drew),Zq (HB.out.setPb 2 _).drew.drew,by omega,by omega,HX2⟩);case measure=>omega
              . have HE:=Zq (Zb9 HB1.out hj4 (hx.2.2 h1 h2));clear hx hst hbk HX;generalize hxN (s.drop p0) j=v at *;rcases (by omega:c<48\/(57<c/\c<97)\/102<c) with h3|⟨h3,h4⟩|h3;all_goals clear h1 h2;go_wp2;go_region;go_wp2;go_region;go_wp2;go_ret2;refine ⟨(HB.out.setPb 2 _).drew.drew,?_⟩;rw [HE.out];exact ⟨0,rfl⟩
          . have hkn':¬ k'<n:=fun x=>hin ((HLT.out _ _ HL.out.at').1 x);have HE:=Zq (Zb9 HB1.out hj4 (by rw [hbk,Yar (by omega),ZaI]; rfl));clear hbk HX;generalize hxN (s.drop p0) j=v at *;go_wp2;go_region;go_wp2;go_ret2;refine ⟨HB.out.drew,?_⟩;rw [HE.out];exact ⟨0,rfl⟩
        . obtain rfl:j=4:=(by omega);have HE:=Zq (Zb8 HB1.out HX.out);have hr4:=Zb6 (s.drop p0) 4;clear HX;generalize hxN (s.drop p0) 4=v at *;by_cases hv:55296<=v/\v<=57343
          . obtain ⟨v1,v2⟩:=hv;have q1:decide (v<55296)=false:=(by simpa using v1);have q2:decide (57343<v)=false:=(by simpa using v2);go_wp2;go_ret2;refine ⟨HB.out,?_⟩;rw [HE.out,if_pos ⟨v1,v2⟩];exact ⟨v,rfl⟩
          . have HV:=Zq hv;rcases (by omega:v<55296\/57343<v) with h3|h3;all_goals clear hv;go_wp2;go_ret2;refine ⟨HB.out,?_⟩;rw [HE.out,if_neg HV.out];exact ⟨rfl,k',HL.out⟩
     . have q3:(r == 117)=false:=Zr hu;have HE:=Zq (Zlo (l:=s.drop p0) (by rw [hk1]; exact fun h=>hq (.inl (h34.2 h))) (by rw [hk1]; exact fun h=>hq (.inr (h92.2 h))) (by rw [hk1]; exact fun h=>hu (h117.2 h)));have q4:(r != 117)=true:=Yao.2 hu;clear hk1 hst h34 h92 h117 hlow hr HLT hq hu;go_in;go_wp2;go_region;go_wp2;go_region;go_wp2;go_ret2;refine ⟨((But.refl B w).setPb 2 _).drew.drew,?_⟩;rw [HE.out];exact ⟨0,rfl⟩
 . have hkn:¬ k<n:=fun x=>hp ((HLT.out _ _ HS.out.at').1 x);have hb0:bk (s.drop p0) 1=0:=(by rw [hk1,Yar (by omega),ZaI]);have HE:=Zq (Zlo (l:=s.drop p0) (by omega) (by omega) (by omega));clear hP h c0 hk1 hb0 HLT;go_in;go_wp2;go_region;go_wp2;go_ret2;refine ⟨(But.refl B w).drew,?_⟩;rw [HE.out];exact ⟨0,rfl⟩
theorem Zlt (xs:List Int) (w:World) (n:Nat) (hn:xs.length=n) (C:Array Value) (hC:C=(xs.map (Value.int .u8)).toArray) :
 (convert 220 9 (.slice (some ⟨w.heap.size,0,none⟩) n n)).run Tryz.prog (w.alloc (.cells C 5)) = .ok (.string ⟨(xs.map fun x=>x.toNat.toUInt8).toArray⟩) (w.alloc (.cells C 5)):=by subst hC;refine (run_convert_bytes_arg (P:=Tryz.prog) (w.alloc (.cells (xs.map (Value.int .u8)).toArray 5)) 220 5 Tryz.underlying220 Tryz.underlying5 w.heap.size 0 n n xs hn (fun i hi=>?_) 9 Tryz.underlying9).trans rfl;have hb:=Yac w (.cells (xs.map (Value.int .u8)).toArray 5);simp only [World.cell?,hb,Nat.zero_add,List.getElem?_toArray,Yax];rw [Yad (by omega)];simp [List.getD,Yad (show i<xs.length by omega)]
theorem Zlu (r:Int) (w:World) (h0:0<=r) (h1:r<128) :
 Calls Tryz.prog 194 #[.int .i32 r] w fun e w'=>e = .returned (.string ⟨(Lib.encodeRune r).toArray⟩)/\Below w.heap.size w w':=by
 have HE:Hid (Lib.encodeRuneZ r=[r]):=Zq (Lib.encodeRuneZ_one h0 (by omega));have hlo:0<=r:=by omega
 have hhi:r<=1114111:=by omega
 have kc:=Zlt [r] w 1 rfl #[.int .u8 (r)] rfl;go_in;go_wp2;go_ret;exact ⟨by unfold Lib.encodeRune; rw [HE.out]; rfl,(Yab _ _).alloc Zs _⟩
theorem Zlv (r:Int) (w:World) (h0:¬ r<128) (h1:r<2048) :
 Calls Tryz.prog 194 #[.int .i32 r] w fun e w'=>e = .returned (.string ⟨(Lib.encodeRune r).toArray⟩)/\Below w.heap.size w w':=by
 have HE:Hid (Lib.encodeRuneZ r=[192+r / 64,128+r % 64]):=Zq (Lib.encodeRuneZ_two (by omega) (by omega));have hlo:0<=r:=by omega
 have hhi:r<=1114111:=by omega
 have kc:=Zlt [192+r / 64,128+r % 64] w 2 rfl #[.int .u8 (192+r / 64),.int .u8 (128+r % 64)] rfl;go_in;go_wp2;go_ret;exact ⟨by unfold Lib.encodeRune; rw [HE.out]; rfl,(Yab _ _).alloc Zs _⟩
theorem Zlw (r:Int) (w:World) (h0:¬ r<128) (h1:¬ r<2048) (h2:r<65536) (h3:¬ (55296<=r/\r<=57343)) :
 Calls Tryz.prog 194 #[.int .i32 r] w fun e w'=>e = .returned (.string ⟨(Lib.encodeRune r).toArray⟩)/\Below w.heap.size w w':=by
 have HE:Hid (Lib.encodeRuneZ r=[224+r / 4096,128+r / 64 % 64,128+r % 64]):=Zq (Lib.encodeRuneZ_three (by omega));have hlo:0<=r:=by omega
 have hhi:r<=1114111:=by omega
 have kc:=Zlt [224+r / 4096,128+r / 64 % 64,128+r % 64] w 3 rfl #[.int .u8 (224+r / 4096),.int .u8 (128+r / 64 % 64),.int .u8 (128+r % 64)] rfl;go_in;go_wp2;go_ret;exact ⟨by unfold Lib.encodeRune; rw [HE.out]; rfl,(Yab _ _).alloc Zs _⟩
theorem Zlx (r:Int) (w:World) (h0:¬ r<128) (h1:¬ r<2048) (h2:¬ r<65536) (h3:r<=1114111) :
 Calls Tryz.prog 194 #[.int .i32 r] w fun e w'=>e = .returned (.string ⟨(Lib.encodeRune r).toArray⟩)/\Below w.heap.size w w':=by
 have HE:Hid (Lib.encodeRuneZ r=[240+r / 262144,128+r / 4096 % 64,128+r / 64 % 64,128+r % 64]):=Zq (Lib.encodeRuneZ_four (by omega) (by omega));have hlo:0<=r:=by omega
 have hhi:r<=1114111:=by omega
 have kc:=Zlt [240+r / 262144,128+r / 4096 % 64,128+r / 64 % 64,128+r % 64] w 4 rfl #[.int .u8 (240+r / 262144),.int .u8 (128+r / 4096 % 64),.int .u8 (128+r / 64 % 64),.int .u8 (128+r % 64)] rfl;go_in;go_wp2;go_ret;exact ⟨by unfold Lib.encodeRune; rw [HE.out]; rfl,(Yab _ _).alloc Zs _⟩
theorem Zly (r:Int) (w:World) (h:scalar r) :
 Calls Tryz.prog 194 #[.int .i32 r] w fun e w'=>e = .returned (.string ⟨(Lib.encodeRune r).toArray⟩)/\Below w.heap.size w w':=by
 obtain ⟨h0,h1,h2⟩:=h;by_cases c1:r<128
 . exact Zlu r w h0 c1
 by_cases c2:r<2048
 . exact Zlv r w c1 c2
 by_cases c3:r<65536
 . exact Zlw r w c1 c2 c3 h2
 . exact Zlx r w c1 c2 c3 h1
theorem Zlz (a b:Bs):((⟨a.toArray⟩:ByteArray)++⟨b.toArray⟩)=⟨(a++b).toArray⟩:=by apply ByteArray.ext;simp
def tkR (x:Option (Bs × Nat × Nat)):Option (Int × Bs × Int × Nat):=match x with|some (t,n,z)=>if n<=100 then some (2,t,0,1+z) else none|none=>none
theorem ZlA {l:Bs} (hn:l≠[]) (hq:rn l=34):tok1 l=tkR (unqL l.length (l.drop 1)):=by
 have h:=rn_34.1 hq;have hc:cls (rn l)=0:=by rw [hq]; decide
 unfold tok1;rw [if_neg (by omega),if_neg (by omega),if_pos h];cases unqL l.length (l.drop 1) with
 | none=>rfl
 | some x=>rfl
theorem TW.alloc {w wr:World} {B TB:Nat} {s:Bs} {pv:Value} {k q:Nat} {kd:Int} {ts:Bs} {n:Int} {p:Nat} (h:TW w wr B TB s pv k q kd ts n p) (o:Obj):TW w (wr.alloc o) B TB s pv k q kd ts n p:=h.call ((Yab _ _).alloc Zs _)
theorem ZlB (s:Bs) (B k p:Nat) (pv:Value) (w:World) (hs:s.length<=1000000) (h:LSt w B s pv k p) (hP:PsV (gb B w) pv s) (hp:p<s.length) (hq:rn (s.drop p)=34) :
 Calls Tryz.prog 139 #[.pointer (some ⟨B,0,none⟩)] w (tkPost B s pv p w):=by
 obtain ⟨a,cap,rfl⟩:=hP.form;obtain ⟨R,hR⟩:∃ R,unqL (s.drop p).length (s.drop (p+1))=R:=⟨_,rfl⟩;have HR:=Zq hR;have hT:Hid (tok1 (s.drop p)=tkR R):=Zq (by rw [ZlA (Zkf hp) hq,List.drop_drop,hR]);have HP:=Zq hP;have HS:=Zq h;have hcl:=Zbk s;have hb0:Below w.heap.size w (w.alloc (.cells #[.int .i64 0,.string ⟨#[]⟩,.int .i64 0,.int .i64 0] 114)):=(Yab _ _).alloc Zs _;have HH:=Zq (Zlc s B k p _ _ hs (h.keep hb0) (hP.mono (But.below hb0).gb));have HEE:=Zq (fun k p w h hP=>Zls s B k p (.slice a (cnt s) cap) w hs h hP);have HLT:=Zq (fun k p (h:AtP s k p)=>h.lt);have hst:=h.at'.step hp;rw [(ZaW (l:=s.drop p) (by omega)).2.2] at hst;have HST:=Zq hst;generalize cnt s=n at *;have hn1:n<=1000000:=by omega
 have hpl:(s.drop p).length=s.length - p:=Yav;have HPL:=Zq hpl;clear hR h hP hq hb0 hst hpl;go_in;go_wp2_with fail;refine HH.out.mono ?_;rintro e W ⟨rfl,hb⟩;have HTW:=Zq (TW.make HS.out hb 2 p);clear hb HH HS;obtain ⟨-,c1,c2,f2,-⟩:=HTW.out.st.cells;have hne1:¬ W.heap.size=B:=by have:=HTW.out.h1; have:=HTW.out.h2; omega
 have hne2:¬ B=W.heap.size:=fun h=>hne1 h.symm;have hkk:k<=1000000:=by have:=HTW.out.st.at'.le; omega
 go_upto_region 2 with fail;generalize W.alloc (.cells #[.int .i64 2,.string ⟨#[]⟩,.int .i64 0,.int .i64 p] 114)=WA at *;go_wp2;clear c1 c2 f2;go_loopg [5] s.length (fun g n5 wr=>∃ (k q m f:Nat) (acc:Bs),n5 = .int .i64 m/\Hid (TW w wr B W.heap.size s (.slice a n cap) k q 2 acc 0 p)/\Hid (pre acc m (q - (p+1)) (unqL f (s.drop q))=R)/\s.length<=q+f/\s.length<=q+g/\q<=s.length/\p+1<=q/\m<=q/\acc.length<=4*m);case atStart =>
  refine ⟨k+1,p+1,0,(s.drop p).length,[],rfl,Zq (HTW.out.setK _ (by omega) HST.out),Zq ?_,by have:=HPL.out; omega,by omega,by omega,by omega,by omega,by simp⟩;rw [HR.out,Nat.sub_self];cases R with
  | none=>rfl
  | some x=>simp [pre]
 case round =>
  obtain ⟨k2,q,m,f,acc,rfl,HL,HJ,hf,hg,hql,hpq,hmq,hacc⟩:=hrel;obtain ⟨⟨t0,t1,t2,t3⟩,⟨tf1,tf2⟩,⟨r0,r1,r2,r3⟩,g0,g1,g2,g3⟩:=HL.out.cells;obtain ⟨-,c1,c2,f2,-⟩:=HL.out.st.cells;have hne3:¬ w.heap.size=W.heap.size:=(by have:=HL.out.h1; have:=HL.out.h2; omega);have hPg:PsV (gh wr) (.slice a n cap) s:=(HP.out.mono HL.out.but.gb).mono (Zdu B wr);by_cases hin:q<s.length
  . have hkn:k2<n:=(HLT.out _ _ HL.out.st.at').2 hin;obtain ⟨f,rfl⟩:∃ f',f=f'+1:=⟨f - 1,by omega⟩;obtain ⟨b,off,rfl,d0,d1,d2,d3⟩:=hPg.at HL.out.st.at' hin;have hbl:b<wr.heap.size:=Yan wr _ d0;have hBl:B<wr.heap.size:=Yan wr _ c1;have a0:=Zdw hbl d0;have a1:=Zdw hbl d1;have a2:=Zdw hbl d2;have a3:=Zdw hbl d3;have a4:=Zdw hBl c1;have a5:=Zdw hBl c2;have hstq:=HL.out.st.at'.step hin;have HSTQ:=Zq hstq;have hne:=Zkf hin;have hwl:=ZaS hne;have hwp:=ZaQ (s.drop q);rw [Yav] at hwl;have HNE:=Zq hne;have hbb:badIn (s.drop q)↔(badB (s.drop q)=true\/rn (s.drop q)<32\/(127<=rn (s.drop q)/\rn (s.drop q)<=159)):=(by unfold badIn badB;rw [decide_eq_true_iff]);have hb65:badB (s.drop q)=true->rn (s.drop q)=65533:=fun h=>(of_decide_eq_true h).1;have hno:(badB (s.drop q)=true\/rn (s.drop q)<32\/(127<=rn (s.drop q)/\rn (s.drop q)<=159))->R=none:=fun h=>by have h34:rn (s.drop q)≠34:=(by rcases h with h|h|h; (have:=hb65 h; omega); omega; omega);have h92:rn (s.drop q)≠92:=(by rcases h with h|h|h; (have:=hb65 h; omega); omega; omega);rw [<-HJ.out,Zck hne h34 h92 (hbb.2 h)]; rfl
    have hyes:rn (s.drop q)=34->R=some (acc,m,q - (p+1)+1):=fun h=>by rw [<-HJ.out,Zcj hne h]; simp [pre]
    have hesc:rn (s.drop q)=92->(escL (s.drop q)=none->R=none)/\(∀ r z,escL (s.drop q)=some (r,z)->pre (acc++Lib.encodeRune r) (m+1) (q+z - (p+1)) (unqL f (s.drop (q+z)))=R):=fun h=>by refine ⟨fun he=>by rw [<-HJ.out,Zcn hne h he]; rfl,fun r z he=>?_⟩;rw [<-HJ.out,Zcm hne h he,Zco,List.drop_drop];congr 1;omega
    have hgo:rn (s.drop q)≠34->rn (s.drop q)≠92->¬ (badB (s.drop q)=true\/rn (s.drop q)<32\/(127<=rn (s.drop q)/\rn (s.drop q)<=159))->pre (acc++Lib.encodeRune (rn (s.drop q))) (m+1) (q+wd (s.drop q) - (p+1)) (unqL f (s.drop (q+wd (s.drop q))))=R:=fun h1 h2 h3=>by rw [<-HJ.out,Zcl hne h1 h2 (fun h=>h3 (hbb.1 h)),Zco,List.drop_drop];congr 1;omega
    have hsc:=Zbq (s.drop q);have hlow:=fun h=>(ZaW (l:=s.drop q) h).2.2;have hrr:=ZaV (s.drop q);have HLOW:=Zq hlow;have HNO:=Zq hno;have HYES:=Zq hyes;have HESC:=Zq hesc;have HGO:=Zq hgo;have HSC:=Zq hsc;have H65:=Zq hb65;generalize rn (s.drop q)=r at *;generalize badB (s.drop q)=bd at *;generalize wd (s.drop q)=u at *;clear hPg hstq hbb hb65 hno hyes hesc hgo hne HJ hsc hlow;go_wp2;go_region;go_wp2;go_region;go_upto_region 7 with fail;generalize hX:((wr.setCell ⟨B,2,none⟩ (.int .i64 ((k2:Int)+1))).alloc (.cells #[.int .i64 q,.int .i64 u,.int .i32 r,.bool bd] 136)).drew.drew=X;have HX:Hid (TW w X B W.heap.size s (.slice (some ⟨b,off,none⟩) n cap) (k2+1) (q+u) 2 acc 0 p):=Zq (by rw [<-hX]; exact (((HL.out.setK _ (by omega) HSTQ.out).alloc _).drew).drew);have hpc:X.heap[wr.heap.size]?=some (.cells #[.int .i64 q,.int .i64 u,.int .i32 r,.bool bd] 136 (0,0)):=(by rw [<-hX];have:=Yac (wr.setCell ⟨B,2,none⟩ (.int .i64 ((k2:Int)+1))) (.cells #[.int .i64 q,.int .i64 u,.int .i32 r,.bool bd] 136);rw [show (wr.setCell ⟨B,2,none⟩ (.int .i64 ((k2:Int)+1))).heap.size=wr.heap.size by simp [World.setCell]] at this;exact this);clear hX t0 t1 t2 t3 tf1 tf2 r0 r1 r2 r3 g0 g1 g2 g3 c1 c2 f2 d0 d1 d2 d3 a0 a1 a2 a3 a4 a5;obtain ⟨⟨p0,p1,p2,p3⟩,-⟩:=ZdP hpc;have HPC:=Zq hpc;clear hpc;obtain ⟨⟨t0,t1,t2,t3⟩,⟨tf1,tf2⟩,⟨r0,r1,r2,r3⟩,g0,g1,g2,g3⟩:=HX.out.cells;obtain ⟨-,c1,c2,f2,-⟩:=HX.out.st.cells;by_cases hb:bd=true\/r<32\/(127<=r/\r<=159)
    . have HE:=Zq (HNO.out hb);have hb':bd=true\/(bd=false/\r<32)\/(bd=false/\¬ r<32/\127<=r/\r<=159):=by
       cases bd with
       | true=>exact .inl rfl
       | false =>
        rcases hb with h|h|⟨h1,h2⟩
        . cases h
        . exact .inr (.inl ⟨rfl,h⟩)
        . exact .inr (.inr ⟨rfl,by omega,h1,h2⟩)
      clear hb;rcases hb' with h|⟨h,h1⟩|⟨h,h1,h2,h3⟩;all_goals subst h;go_wp2;have hd:=HX.out.done rfl;refine Yaf (v := .tuple #[.agg #[.int .i64 2,.string ⟨acc.toArray⟩,.int .i64 0,.int .i64 p],.bool false]) (by simp [results,Tryz.results139,go_sem,hd.2.2]) rfl ?_;refine ⟨hd.2.1,?_⟩;rw [hT.out,HE.out];exact ⟨2,acc,0,rfl⟩
    . obtain ⟨hb1,hb2,hb3⟩:bd=false/\¬ r<32/\(r<127\/159<r):=by
       refine ⟨?_,fun h=>hb (.inr (.inl h)),?_⟩
       . cases bd with
         | true=>exact absurd (.inl rfl) hb
         | false=>rfl
       . by_cases h:r<127
         . exact .inl h
         . exact .inr (by omega)
      have HB:=Zq hb;subst hb1;clear hb;by_cases h34:r=34
      . have HE:=Zq (HYES.out h34);subst h34;clear hb3;go_wp2;have hd:=HX.out.done rfl;refine Yaf (v := .tuple #[.agg #[.int .i64 2,.string ⟨acc.toArray⟩,.int .i64 0,.int .i64 p],.bool (decide ((m:Int)<=100))]) (by simp [results,Tryz.results139,go_sem,hd.2.2]) rfl ?_;refine ⟨hd.2.1,?_⟩;rw [hT.out,HE.out];unfold tkR;simp only;by_cases hm:m<=100
        . rw [if_pos hm];refine ⟨by rw [Yam (show (m:Int)<=100 by omega)]; rfl,k2+1,?_⟩;have e:p+(1+(q - (p+1)+1))=q+u:=(by rw [HLOW.out (by omega)]; omega);rw [e];exact hd.1
        . rw [if_neg hm];exact ⟨2,acc,0,by rw [Yaj (show ¬ (m:Int)<=100 by omega)]; rfl⟩
      . have q34:(r == 34)=false:=Zr h34;by_cases h92:r=92
        . have hu:u=1:=HLOW.out (by omega);subst hu;subst h92;have hes:=HESC.out rfl;have hrg:∀ x z,escL (s.drop q)=some (x,z)->scalar x/\2<=z:=fun x z h=>by have:=Zch h;exact ⟨⟨this.1,by omega,this.2.2.1⟩,this.2.2.2⟩
          have HES:=Zq hes;have HRG:=Zq hrg;have HEX:=Zq (HEE.out (k2+1) q X HX.out.st (HP.out.mono HX.out.but.gb));clear hes hrg hb3 h34;unfold escPost at HEX;cases he:escL (s.drop q) with
          | none =>rw [he] at HEX;have HE:=Zq (HES.out.1 he);clear he;go_wp2_with fail;refine HEX.out.mono ?_;rintro e X1 ⟨hb1,r1',rfl⟩;have hk1:TkB X1 W.heap.size 2 acc 0 p:=HX.out.tok.but hb1 (fun e=>hne1 e);have hk2:TkB X1 w.heap.size 0 [] 0 0:=HX.out.res.but hb1 (fun e=>by have:=HX.out.h1; omega);have HB2:=Zq (HX.out.but.trans hb1);unfold TkB at hk1 hk2;have HK2:=Zq hk2;clear t0 t1 t2 t3 tf1 tf2 r0 r1 r2 r3 g0 g1 g2 g3 c1 c2 f2 p0 p1 p2 p3 hb1;obtain ⟨⟨t0,t1,t2,t3⟩,-⟩:=ZdP hk1;obtain ⟨⟨r0,r1,r2,r3⟩,g0,g1,g2,g3⟩:=ZdP hk2;clear hk1 hk2;go_wp2;have hh:=ZdP (ZdM HK2.out (.int .i64 2) (.string ⟨acc.toArray⟩) (.int .i64 0) (.int .i64 p));refine Yaf (v := .tuple #[.agg #[.int .i64 2,.string ⟨acc.toArray⟩,.int .i64 0,.int .i64 p],.bool false]) (by simp [results,Tryz.results139,go_sem,hh.1]) rfl ?_;refine ⟨HB2.out.set4 Zs _ _ _ _,?_⟩;rw [hT.out,HE.out];exact ⟨2,acc,0,rfl⟩
          | some xz =>obtain ⟨x,z⟩:=xz;rw [he] at HEX;have HG:=Zq (HES.out.2 x z he);have HSX:=Zq (HRG.out x z he).1;have hz2:=(HRG.out x z he).2;have HBY:=Zq (fun w=>Zly x w HSX.out);have hel:=Zbr x;clear he;go_wp2_with fail;refine HEX.out.mono ?_;rintro e X1 ⟨hb1,rfl,k3,hl⟩;have HX1:=Zq (HX.out.esc hb1 hl);have hqz:=hl.at'.le.1;clear t0 t1 t2 t3 tf1 tf2 r0 r1 r2 r3 g0 g1 g2 g3 c1 c2 f2 p0 p1 p2 p3 hb1 hl HES HRG;obtain ⟨⟨t0,t1,t2,t3⟩,⟨tf1,tf2⟩,-,-⟩:=HX1.out.cells;generalize Lib.encodeRune x=en at *;have hov:¬ 9223372036854775807<acc.length+en.length:=(by omega);go_wp2;go_region_with (go_at_call 194; refine (HBY.out _).mono ?_; rintro e X2 ⟨rfl,hb2⟩; have HX2:=Zq (HX1.out.drew.call hb2); obtain ⟨⟨u0,u1,u2,u3⟩,⟨uf1,uf2⟩,-,-⟩:=HX2.out.cells; clear hb2);all_goals rw [Zlz];have HX3:=Zq (HX2.out.setS (acc++en));clear u0 u1 u2 u3 uf1 uf2 t0 t1 t2 t3 tf1 tf2;go_wp2;go_roundg (gk - 1);(case rel=>exact ⟨k3,q+z,m+1,f,acc++en,by go_num,HX3,HG,by omega,by omega,by omega,by omega,by omega,by rw [Yak]; omega⟩);case measure=>omega
        . have q92:(r == 92)=false:=Zr h92;have HG:=Zq (HGO.out h34 h92 HB.out);have HBY:=Zq (fun w=>Zly r w HSC.out);have hel:=Zbr r;generalize Lib.encodeRune r=en at *;have hov:¬ 9223372036854775807<acc.length+en.length:=(by omega);clear h34 h92;rcases hb3 with hb3|hb3;all_goals go_wp2;go_region_with (go_at_call 194; refine (HBY.out _).mono ?_; rintro e X2 ⟨rfl,hb2⟩; have HX2:=Zq (HX.out.drew.call hb2); obtain ⟨⟨u0,u1,u2,u3⟩,⟨uf1,uf2⟩,-,-⟩:=HX2.out.cells; clear hb2);all_goals rw [Zlz];have HX3:=Zq (HX2.out.setS (acc++en));clear u0 u1 u2 u3 uf1 uf2 t0 t1 t2 t3 tf1 tf2 r0 r1 r2 r3 g0 g1 g2 g3 c1 c2 f2 p0 p1 p2 p3;go_wp2;go_roundg (gk - 1);(case rel=>exact ⟨k2+1,q+u,m+1,f,acc++en,by go_num,HX3,HG,by omega,by omega,by omega,by omega,by omega,by rw [Yak]; omega⟩);case measure=>omega
  . have hkn:¬ k2<n:=fun x=>hin ((HLT.out _ _ HL.out.st.at').1 x);have HE:Hid (R=none):=Zq (by rw [<-HJ.out,Yar (by omega),Zci]; rfl);clear hPg HJ;go_wp2;go_region;go_wp2;have hd:=HL.out.done rfl;refine Yaf (v := .tuple #[.agg #[.int .i64 2,.string ⟨acc.toArray⟩,.int .i64 0,.int .i64 p],.bool false]) (by simp [results,Tryz.results139,go_sem,hd.2.2]) rfl ?_;refine ⟨hd.2.1.drew,?_⟩;rw [hT.out,HE.out];exact ⟨2,acc,0,rfl⟩
end Go.Proofs.YtikannmgllejfaaGreatDoor
