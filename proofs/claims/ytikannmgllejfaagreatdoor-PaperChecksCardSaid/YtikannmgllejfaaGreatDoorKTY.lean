/- The walks of palaverref08. -/
import Derived.Test.YtikannmgllejfaaGreatDoorKR4
import Derived.Test.YtikannmgllejfaaGreatDoorKT3
import Derived.Test.YtikannmgllejfaaGreatDoorKSD
import Derived.BigQuiet
import Derived.Deep.QuietTactic
set_option maxHeartbeats 8000000
set_option maxRecDepth 1000000
set_option linter.all false
namespace Go.Proofs.YtikannmgllejfaaGreatDoor
open Go.RowKit Pal
theorem Znh (s:Bs) (names:List Bs) (types:List Int) (nv tv:Value) (w:World) (hN:StrsV (gh w) nv names) (hT:IntsV (gh w) tv types) :
 Calls Tryz.prog 145 #[strV s,nv,tv] w fun e w'=>e = .returned (.int .i64 (findT names types s))/\w=w':=by
 obtain ⟨na,nc,rfl⟩:=hN.form;obtain ⟨ta,tc,rfl,htl⟩:=Zd0 hT;have hnl:names.length<=9223372036854775807:=by obtain ⟨_,_,hv,_,h1,h2,_⟩:=hN;simp only [Yaq] at hv;unfold maxLen at h2;omega
 obtain ⟨R,hR⟩:∃ R,findT names types s=R:=⟨_,rfl⟩;rw [hR];have HR:=Zq hR;clear hR;unfold strV;go_in;go_wp2;go_loopg [7] names.length (fun g i wr=>∃ k:Nat,i = .int .i64 k/\k+g=names.length/\wr=w/\Hid (findT (names.drop k) (types.drop k) s=R));case atStart=>exact ⟨0,rfl,by omega,rfl,Zq HR.out⟩
 case round =>
  obtain ⟨k,rfl,hg,rfl,HC⟩:=hrel;by_cases hlt:k<names.length
  . obtain ⟨b,off,rfl,c0⟩:=hN.at (Yad hlt);unfold strV at c0;have hdr:names.drop k=names[k]::names.drop (k+1):=Yas hlt;by_cases hs:names[k]=s
    . have hc:=HC.out;rw [hdr,Zd2 hs] at hc;have q:(names[k] != s)=false:=(by simp [hs]);have qe:(names[k] == s)=true:=(by simp [hs]);by_cases hlt2:k<types.length
      . rw [Yas hlt2] at hc;simp only at hc;obtain ⟨b2,off2,rfl,c2⟩:=ZdZ hT (Yad hlt2);generalize types[k]=t at *;have HD:=Zq hc;have q2:(decide (types.length<=k))=false:=Yaj (by omega);have q3:¬ types.length<=k:=(by omega);clear hc hdr HC hN hT;by_cases h1:t<1
        . have HE:Hid (R=0):=Zq (by rw [<-HD.out,if_neg (fun h=>by omega)]);clear hs;go_wp2;(try rw [Yae]);go_ret;exact ⟨by rw [HE.out]; rfl,rfl⟩
        . by_cases h2:3<t
          . have HE:Hid (R=0):=Zq (by rw [<-HD.out,if_neg (fun h=>by omega)]);clear hs;go_wp2;(try rw [Yae]);go_ret;exact ⟨by rw [HE.out]; rfl,rfl⟩
          . have HE:Hid (R=t):=Zq (by rw [<-HD.out,if_pos ⟨by omega,by omega⟩]);clear hs;go_wp2;(try rw [Yae]);go_ret;exact ⟨by rw [HE.out]; rfl,rfl⟩
      . rw [Yar (by omega)] at hc;have HE:Hid (R=0):=Zq (by rw [<-hc]);have q3:types.length<=k:=(by omega);clear hc hdr HC hs hN hT;go_wp2;(try rw [Yae]);go_ret;exact ⟨by rw [HE.out]; rfl,rfl⟩
    . have hc:=HC.out;rw [hdr,Zd3 hs,List.tail_drop] at hc;have HD:=Zq hc;have q:(names[k] != s)=true:=Yao.2 hs;have qe:(names[k] == s)=false:=Zr hs;clear hc hdr HC hs;go_wp2;go_roundg (gk - 1);(case rel=>exact ⟨k+1,by go_num,by omega,rfl,Zq HD.out⟩);case measure=>omega
  . have HE:Hid (R=0):=Zq (by rw [<-HC.out,Yar (by omega),Zd1]);clear HC;go_wp2;go_ret;exact ⟨by rw [HE.out]; rfl,rfl⟩
def allT (t:Int) (ts:List Int):Bool:=ts.all (fun x=>x == t)
theorem Zni (t:Int) (ts:List Int) (tv:Value) (w:World) (hT:IntsV (gh w) tv ts) :
 Calls Tryz.prog 198 #[tv,.int .i64 t] w fun e w'=>e = .returned (.bool (allT t ts))/\w=w':=by
 obtain ⟨ta,tc,rfl,htl⟩:=Zd0 hT;obtain ⟨R,hR⟩:∃ R,allT t ts=R:=⟨_,rfl⟩;rw [hR];have HR:=Zq hR;clear hR;go_in;go_wp2;go_loopg [5] ts.length (fun g i wr=>∃ k:Nat,i = .int .i64 k/\k+g=ts.length/\wr=w/\Hid (allT t (ts.drop k)=R));case atStart=>exact ⟨0,rfl,by omega,rfl,Zq HR.out⟩
 case round =>
  obtain ⟨k,rfl,hg,rfl,HC⟩:=hrel;by_cases hlt:k<ts.length
  . obtain ⟨b2,off2,rfl,c2⟩:=ZdZ hT (Yad hlt);have hc:=HC.out;rw [Yas hlt] at hc;unfold allT at hc;rw [List.all_cons] at hc;generalize ts[k]=x at *;by_cases hx:x=t
    . have q:(x != t)=false:=(by simp [hx]);have HD:Hid (allT t (ts.drop (k+1))=R):=Zq (by rw [<-hc]; simp [hx,allT]);clear hc HC hx;go_wp2;go_roundg (gk - 1);(case rel=>exact ⟨k+1,by go_num,by omega,rfl,HD⟩);case measure=>omega
    . have q:(x != t)=true:=Yao.2 hx;have HE:Hid (R=false):=Zq (by rw [<-hc,Zr hx]; rfl);clear hc HC hx;go_wp2;(try rw [Yae]);go_ret;exact ⟨by rw [HE.out]; rfl,rfl⟩
  . have HE:Hid (R=true):=Zq (by rw [<-HC.out,Yar (by omega)]; rfl);clear HC;go_wp2;go_ret;exact ⟨by rw [HE.out]; rfl,rfl⟩
theorem Znj (t a:Int):allT t [a]=decide (a=t):=by unfold allT; simp only [List.all_cons,List.all_nil,Bool.and_true]; rw [Bool.eq_iff_iff]; simp
theorem Znk (t a b:Int):allT t [a,b]=decide (a=t/\b=t):=by unfold allT; simp only [List.all_cons,List.all_nil,Bool.and_true]; rw [Bool.eq_iff_iff]; simp
def ofPost8 (op:Int) (ts:List Int) (w:World) (e:Ending) (w':World):Prop:=e = .returned (.int .i64 (made op (ts.getD 0 0) (ts.getD 1 0) (ts.getD 2 0)))/\Below w.heap.size w w'
theorem Znl (op t r:Int) (ts:List Int) (tv:Value) (w:World) (hT:IntsV (gh w) tv ts)
 (h:(op=5\/op=7\/op=8\/op=9\/op=10\/op=11)/\t=1/\r=1\/(op=6\/op=16\/op=17)/\t=2/\r=2\/(op=20\/op=23)/\t=3/\r=3)
 (hm:made op (ts.getD 0 0) (ts.getD 1 0) (ts.getD 2 0)=if allT t ts=true then r else 0) :
 Calls Tryz.prog 146 #[.int .i64 op,tv] w (ofPost8 op ts w):=by
 have HM:=Zq hm;have HA:=Zq (Zni t ts tv w hT);clear hm hT;cases ha:allT t ts with
 | true =>
  rw [ha] at HA HM;clear ha;rcases h with ⟨h,rfl,rfl⟩|⟨h,rfl,rfl⟩|⟨h,rfl,rfl⟩
  . rcases h with rfl|rfl|rfl|rfl|rfl|rfl;all_goals go_in;go_wp2_with fail;refine HA.out.mono ?_;rintro e W ⟨rfl,rfl⟩;go_wp2;go_ret;exact ⟨by rw [HM.out]; rfl,Yab _ _⟩
  . rcases h with rfl|rfl|rfl;all_goals go_in;go_wp2_with fail;refine HA.out.mono ?_;rintro e W ⟨rfl,rfl⟩;go_wp2;go_ret;exact ⟨by rw [HM.out]; rfl,Yab _ _⟩
  . rcases h with rfl|rfl;all_goals go_in;go_wp2_with fail;refine HA.out.mono ?_;rintro e W ⟨rfl,rfl⟩;go_wp2;go_ret;exact ⟨by rw [HM.out]; rfl,Yab _ _⟩
 | false =>
  rw [ha] at HA HM;clear ha;rcases h with ⟨h,rfl,rfl⟩|⟨h,rfl,rfl⟩|⟨h,rfl,rfl⟩
  . rcases h with rfl|rfl|rfl|rfl|rfl|rfl;all_goals go_in;go_wp2_with fail;refine HA.out.mono ?_;rintro e W ⟨rfl,rfl⟩;go_wp2;go_ret;exact ⟨by rw [HM.out]; rfl,Yab _ _⟩
  . rcases h with rfl|rfl|rfl;all_goals go_in;go_wp2_with fail;refine HA.out.mono ?_;rintro e W ⟨rfl,rfl⟩;go_wp2;go_ret;exact ⟨by rw [HM.out]; rfl,Yab _ _⟩
  . rcases h with rfl|rfl;all_goals go_in;go_wp2_with fail;refine HA.out.mono ?_;rintro e W ⟨rfl,rfl⟩;go_wp2;go_ret;exact ⟨by rw [HM.out]; rfl,Yab _ _⟩
theorem Znm (w:World) (n:Nat):Below w.heap.size w (w.drewN n):=⟨rfl,rfl,rfl,Nat.le_refl _,fun _ _=>rfl⟩
theorem Znn {w:World} {tv:Value} {a b:Int} (hT:IntsV (gh w) tv [a,b]):∃ b0 off tc,tv = .slice (some ⟨b0,off,none⟩) 2 tc/\w.cell? ⟨b0,off,none⟩=some (.int .i64 a)/\w.cell? ⟨b0,off+1,none⟩=some (.int .i64 b):=by obtain ⟨ta,tc,rfl,-⟩:=Zd0 hT;obtain ⟨b0,off,rfl,c0⟩:=ZdZ (j:=0) hT rfl;obtain ⟨b1,off1,hx,c1⟩:=ZdZ (j:=1) hT rfl;simp only [Yai,Ybd,and_true] at hx;obtain ⟨rfl,rfl⟩:=hx;exact ⟨b0,off,tc,rfl,c0,c1⟩
theorem Zno {w:World} {tv:Value} {a b c:Int} (hT:IntsV (gh w) tv [a,b,c]):∃ b0 off tc,tv = .slice (some ⟨b0,off,none⟩) 3 tc/\w.cell? ⟨b0,off,none⟩=some (.int .i64 a)/\w.cell? ⟨b0,off+1,none⟩=some (.int .i64 b)/\w.cell? ⟨b0,off+2,none⟩=some (.int .i64 c):=by obtain ⟨ta,tc,rfl,-⟩:=Zd0 hT;obtain ⟨b0,off,rfl,c0⟩:=ZdZ (j:=0) hT rfl;obtain ⟨b1,off1,hx,c1⟩:=ZdZ (j:=1) hT rfl;obtain ⟨b2,off2,hy,c2⟩:=ZdZ (j:=2) hT rfl;simp only [Yai,Ybd,and_true] at hx hy;obtain ⟨rfl,rfl⟩:=hx;obtain ⟨rfl,rfl⟩:=hy;exact ⟨b0,off,tc,rfl,c0,c1,c2⟩
theorem Znp {w:World} {tv:Value} {a:Int} (hT:IntsV (gh w) tv [a]):∃ b0 off tc,tv = .slice (some ⟨b0,off,none⟩) 1 tc/\w.cell? ⟨b0,off,none⟩=some (.int .i64 a):=by obtain ⟨ta,tc,rfl,-⟩:=Zd0 hT;obtain ⟨b0,off,rfl,c0⟩:=ZdZ (j:=0) hT rfl;exact ⟨b0,off,tc,rfl,c0⟩
theorem Znq (op a b:Int) (tv:Value) (w:World) (hT:IntsV (gh w) tv [a,b]) (ho:op=12\/op=13) :
 Calls Tryz.prog 146 #[.int .i64 op,tv] w (ofPost8 op [a,b] w):=by
 obtain ⟨b0,off,tc,rfl,c0,c1⟩:=Znn hT;have HM:Hid (made op ([a,b].getD 0 0) ([a,b].getD 1 0) ([a,b].getD 2 0)=if a=b then 2 else 0):=Zq (by rcases ho with rfl|rfl<;>rfl);clear hT;by_cases h:a=b
 . have HM2:Hid (made op ([a,b].getD 0 0) ([a,b].getD 1 0) ([a,b].getD 2 0)=2):=Zq (by rw [HM.out,if_pos h]);have q:(a == b)=true:=(by simp [h]);clear h HM;rcases ho with rfl|rfl;all_goals go_in;go_wp2;go_quiet ((fail));go_wp2;go_ret;exact ⟨by rw [HM2.out]; rfl,Znm _ _⟩
 . have HM2:Hid (made op ([a,b].getD 0 0) ([a,b].getD 1 0) ([a,b].getD 2 0)=0):=Zq (by rw [HM.out,if_neg h]);have q:(a == b)=false:=Zr h;clear h HM;rcases ho with rfl|rfl;all_goals go_in;go_wp2;go_quiet ((fail));go_wp2;go_ret;exact ⟨by rw [HM2.out]; rfl,Znm _ _⟩
theorem Znr (op a b:Int) (tv:Value) (w:World) (hT:IntsV (gh w) tv [a,b]) (ho:op=14\/op=15) (ha:1<=a/\a<=3) (hb:1<=b/\b<=3) :
 Calls Tryz.prog 146 #[.int .i64 op,tv] w (ofPost8 op [a,b] w):=by
 have HM:Hid (made op ([a,b].getD 0 0) ([a,b].getD 1 0) ([a,b].getD 2 0)=if a=b/\a≠2 then 2 else 0):=Zq (by rcases ho with rfl|rfl<;>rfl);have H1:=Zq (Zni 1 [a,b] tv w hT);have H3:=Zq (Zni 3 [a,b] tv w hT);rw [Znk] at H1 H3;clear hT;by_cases h1:a=1/\b=1
 . have HM2:Hid (made op ([a,b].getD 0 0) ([a,b].getD 1 0) ([a,b].getD 2 0)=2):=Zq (by rw [HM.out,if_pos (by omega)]);rw [Yam h1] at H1;clear h1 HM H3 ha hb;rcases ho with rfl|rfl;all_goals go_in;go_wp2_with fail;refine H1.out.mono ?_;rintro e W ⟨rfl,rfl⟩;go_wp2;go_ret;exact ⟨by rw [HM2.out]; rfl,Yab _ _⟩
 rw [Yaj h1] at H1;by_cases h3:a=3/\b=3
 . have HM2:Hid (made op ([a,b].getD 0 0) ([a,b].getD 1 0) ([a,b].getD 2 0)=2):=Zq (by rw [HM.out,if_pos (by omega)]);rw [Yam h3] at H3;clear h1 h3 HM ha hb;rcases ho with rfl|rfl;all_goals go_in;go_wp2_with fail;refine H1.out.mono ?_;rintro e W ⟨rfl,rfl⟩;go_wp2_with fail;refine H3.out.mono ?_;rintro e W ⟨rfl,rfl⟩;go_wp2;go_ret;exact ⟨by rw [HM2.out]; rfl,Yab _ _⟩
 . have HM2:Hid (made op ([a,b].getD 0 0) ([a,b].getD 1 0) ([a,b].getD 2 0)=0):=Zq (by rw [HM.out,if_neg (by omega)]);rw [Yaj h3] at H3;clear h1 h3 HM ha hb;rcases ho with rfl|rfl;all_goals go_in;go_wp2_with fail;refine H1.out.mono ?_;rintro e W ⟨rfl,rfl⟩;go_wp2_with fail;refine H3.out.mono ?_;rintro e W ⟨rfl,rfl⟩;go_wp2;go_ret;exact ⟨by rw [HM2.out]; rfl,Yab _ _⟩
theorem Zns (a b c:Int) (tv:Value) (w:World) (hT:IntsV (gh w) tv [a,b,c]) :
 Calls Tryz.prog 146 #[.int .i64 18,tv] w (ofPost8 18 [a,b,c] w):=by
 obtain ⟨b0,off,tc,rfl,c0,c1,c2⟩:=Zno hT;have HM:Hid (made 18 ([a,b,c].getD 0 0) ([a,b,c].getD 1 0) ([a,b,c].getD 2 0)=if a=2/\b=c then b else 0):=Zq rfl;clear hT;by_cases h:a=2
 . have q:(a == 2)=true:=(by simp [h]);by_cases h':b=c
   . have HM2:Hid (made 18 ([a,b,c].getD 0 0) ([a,b,c].getD 1 0) ([a,b,c].getD 2 0)=b):=Zq (by rw [HM.out,if_pos ⟨h,h'⟩]);have q':(b == c)=true:=(by simp [h']);clear h h' HM;go_in;go_wp2;go_quiet ((fail));go_wp2;go_ret;exact ⟨by rw [HM2.out]; rfl,Znm _ _⟩
   . have HM2:Hid (made 18 ([a,b,c].getD 0 0) ([a,b,c].getD 1 0) ([a,b,c].getD 2 0)=0):=Zq (by rw [HM.out,if_neg (by omega)]);have q':(b == c)=false:=Zr h';clear h h' HM;go_in;go_wp2;go_quiet ((fail));go_wp2;go_ret;exact ⟨by rw [HM2.out]; rfl,Znm _ _⟩
 . have HM2:Hid (made 18 ([a,b,c].getD 0 0) ([a,b,c].getD 1 0) ([a,b,c].getD 2 0)=0):=Zq (by rw [HM.out,if_neg (by omega)]);have q:(a == 2)=false:=Zr h;clear h HM;go_in;go_wp2;go_quiet ((fail));go_wp2;go_ret;exact ⟨by rw [HM2.out]; rfl,Znm _ _⟩
theorem Znt (a:Int) (tv:Value) (w:World) (hT:IntsV (gh w) tv [a]) :
 Calls Tryz.prog 146 #[.int .i64 19,tv] w (ofPost8 19 [a] w):=by
 obtain ⟨b0,off,tc,rfl,c0⟩:=Znp hT;have HM:Hid (made 19 ([a].getD 0 0) ([a].getD 1 0) ([a].getD 2 0)=if a=3 then 1 else 0):=Zq rfl;clear hT;by_cases h:a=3
 . have HM2:Hid (made 19 ([a].getD 0 0) ([a].getD 1 0) ([a].getD 2 0)=1):=Zq (by rw [HM.out,if_pos h]);have q:(a == 3)=true:=(by simp [h]);clear h HM;go_in;go_wp2;go_ret;exact ⟨by rw [HM2.out]; rfl,Yab _ _⟩
 . have HM2:Hid (made 19 ([a].getD 0 0) ([a].getD 1 0) ([a].getD 2 0)=0):=Zq (by rw [HM.out,if_neg h]);have q:(a == 3)=false:=Zr h;clear h HM;go_in;go_wp2;go_ret;exact ⟨by rw [HM2.out]; rfl,Yab _ _⟩
theorem Znu (a b:Int) (tv:Value) (w:World) (hT:IntsV (gh w) tv [a,b]) :
 Calls Tryz.prog 146 #[.int .i64 21,tv] w (ofPost8 21 [a,b] w):=by
 obtain ⟨b0,off,tc,rfl,c0,c1⟩:=Znn hT;have HM:Hid (made 21 ([a,b].getD 0 0) ([a,b].getD 1 0) ([a,b].getD 2 0)=if a=3/\b=1 then 3 else 0):=Zq rfl;clear hT;by_cases h:a=3
 . have q:(a == 3)=true:=(by simp [h]);by_cases h':b=1
   . have HM2:Hid (made 21 ([a,b].getD 0 0) ([a,b].getD 1 0) ([a,b].getD 2 0)=3):=Zq (by rw [HM.out,if_pos ⟨h,h'⟩]);have q':(b == 1)=true:=(by simp [h']);clear h h' HM;go_in;go_wp2;go_ret;exact ⟨by rw [HM2.out]; rfl,Yab _ _⟩
   . have HM2:Hid (made 21 ([a,b].getD 0 0) ([a,b].getD 1 0) ([a,b].getD 2 0)=0):=Zq (by rw [HM.out,if_neg (by omega)]);have q':(b == 1)=false:=Zr h';clear h h' HM;go_in;go_wp2;go_ret;exact ⟨by rw [HM2.out]; rfl,Yab _ _⟩
 . have HM2:Hid (made 21 ([a,b].getD 0 0) ([a,b].getD 1 0) ([a,b].getD 2 0)=0):=Zq (by rw [HM.out,if_neg (by omega)]);have q:(a == 3)=false:=Zr h;clear h HM;go_in;go_wp2;go_ret;exact ⟨by rw [HM2.out]; rfl,Yab _ _⟩
theorem Znv (ts:List Int) (tv:Value) (w:World) :
 Calls Tryz.prog 146 #[.int .i64 22,tv] w (ofPost8 22 ts w):=by have HM:Hid (made 22 (ts.getD 0 0) (ts.getD 1 0) (ts.getD 2 0)=2):=Zq rfl;go_in;go_wp2;go_ret;exact ⟨by rw [HM.out]; rfl,Yab _ _⟩
theorem Znw {op:Int} {n:Nat} (h:(n:Int)=arity op) (h5:¬ (op=1\/op=2\/op=3\/op=4)) :
 (n=1/\(op=5\/op=6\/op=19\/op=22\/op=23))\/(n=2/\(7<=op/\op<=17\/op=20\/op=21))\/(n=3/\op=18):=by
 unfold arity at h;split at h
 . omega
 . split at h
   . omega
   . split at h
     . omega
     . split at h
       . omega
       . omega
theorem Znx (op:Int) (ts:List Int) (tv:Value) (w:World) (hT:IntsV (gh w) tv ts) (hl:(ts.length:Int)=arity op) (h5:¬ (op=1\/op=2\/op=3\/op=4)) (h3:∀ t∈ts,1<=t/\t<=3) :
 Calls Tryz.prog 146 #[.int .i64 op,tv] w (ofPost8 op ts w):=by
 rcases Znw hl h5 with ⟨hn,ho⟩|⟨hn,ho⟩|⟨hn,ho⟩
 . match ts,hn,hT,h3 with
   | [a],_,hT,h3 =>
    rcases ho with rfl|rfl|rfl|rfl|rfl
    . exact Znl 5 1 1 [a] tv w hT (.inl ⟨by decide,rfl,rfl⟩) (by rw [Znj]; simp [made])
    . exact Znl 6 2 2 [a] tv w hT (.inr (.inl ⟨by decide,rfl,rfl⟩)) (by rw [Znj]; simp [made])
    . exact Znt a tv w hT
    . exact Znv [a] tv w
    . exact Znl 23 3 3 [a] tv w hT (.inr (.inr ⟨by decide,rfl,rfl⟩)) (by rw [Znj]; simp [made])
 . match ts,hn,hT,h3 with
   | [a,b],_,hT,h3 =>
    have ha:=h3 a (by simp)
    have hb:=h3 b (by simp)
    rcases (by omega:op=7\/op=8\/op=9\/op=10\/op=11\/op=12\/op=13\/op=14\/op=15\/op=16\/op=17\/op=20\/op=21) with rfl|rfl|rfl|rfl|rfl|rfl|rfl|rfl|rfl|rfl|rfl|rfl|rfl
    . exact Znl 7 1 1 [a,b] tv w hT (.inl ⟨by decide,rfl,rfl⟩) (by rw [Znk]; simp [made])
    . exact Znl 8 1 1 [a,b] tv w hT (.inl ⟨by decide,rfl,rfl⟩) (by rw [Znk]; simp [made])
    . exact Znl 9 1 1 [a,b] tv w hT (.inl ⟨by decide,rfl,rfl⟩) (by rw [Znk]; simp [made])
    . exact Znl 10 1 1 [a,b] tv w hT (.inl ⟨by decide,rfl,rfl⟩) (by rw [Znk]; simp [made])
    . exact Znl 11 1 1 [a,b] tv w hT (.inl ⟨by decide,rfl,rfl⟩) (by rw [Znk]; simp [made])
    . exact Znq 12 a b tv w hT (.inl rfl)
    . exact Znq 13 a b tv w hT (.inr rfl)
    . exact Znr 14 a b tv w hT (.inl rfl) ha hb
    . exact Znr 15 a b tv w hT (.inr rfl) ha hb
    . exact Znl 16 2 2 [a,b] tv w hT (.inr (.inl ⟨by decide,rfl,rfl⟩)) (by rw [Znk]; simp [made])
    . exact Znl 17 2 2 [a,b] tv w hT (.inr (.inl ⟨by decide,rfl,rfl⟩)) (by rw [Znk]; simp [made])
    . exact Znl 20 3 3 [a,b] tv w hT (.inr (.inr ⟨by decide,rfl,rfl⟩)) (by rw [Znk]; simp [made])
    . exact Znu a b tv w hT
 . match ts,hn,hT,h3 with
   | [a,b,c],_,hT,h3 =>
    subst ho
    exact Zns a b c tv w hT
structure RwIn (n0:Nat) (tau:Tag) (W:World) (T:TypeId) (c:Nat) (sv:Value) (n:Nat) (xs:List Value):Prop where
 row:Row tau 1 W T c sv n xs
 ge:∀ b,tau b=1->n0<=b/\b<W.heap.size
section
variable {n0 : Nat} {tau : Tag} {W W' : World} {T : TypeId} {c : Nat} {sv : Value} {n : Nat} {xs : List Value}
theorem RwIn.start (n0:Nat) (W:World) (T:TypeId) (c:Nat):RwIn n0 T0 W T c (.slice none 0 0) 0 []:=⟨Row.nil _ _ _ _ _,fun b hb=>by cases hb⟩
theorem RwIn.keep (h:RwIn n0 tau W T c sv n xs) (hb:Below W.heap.size W W'):RwIn n0 tau W' T c sv n xs :=
 ⟨h.row.call hb,fun b hb2=>⟨(h.ge b hb2).1,by have:=(h.ge b hb2).2; have:=hb.size; omega⟩⟩
theorem RwIn.app {t':Tag} {w':World} {v':Value} {m:Nat} {ys:List Value} (h:RwIn n0 tau W T c sv n xs) (hn:n0<=W.heap.size) (hr:Row t' 1 w' T c v' m ys) (he:Evo tau W t' w' (·=1)) :
 (∃ t2,RwIn n0 t2 w' T c v' m ys)/\∀ w0:World,Below n0 w0 W->Below n0 w0 w':=by
 have nt:∀ b,b<n0->tau b≠1:=fun b hb e=>by have:=(h.ge b e).1; omega
 have hlive:∀ b,v'.ownBlock=some b->b<w'.heap.size:=by
  intro b hb;rcases hr.own.2 with ⟨rfl,hn⟩|⟨g,cap,cur,rfl,hbg,hgg,hn,hc,hs,ht⟩
  . simp [Value.ownBlock] at hb
  . simp [Value.ownBlock] at hb;subst hb;exact (Yaa.1 hgg).1
 have hs:=he.size;refine ⟨⟨fun b=>if b<w'.heap.size then t' b else 0,⟨hr.own,fun g hg=>?_⟩,fun b hb=>?_⟩,fun w0 h0=>?_⟩
 . show (if g<w'.heap.size then t' g else 0)=1;rw [if_pos (hlive g hg)]; exact hr.tag g hg
 . have hb:(if b<w'.heap.size then t' b else 0)=1:=hb;by_cases hbl:b<w'.heap.size
   . rw [if_pos hbl] at hb;refine ⟨?_,hbl⟩;by_cases hb2:b<W.heap.size
     . rw [he.tag b hb2] at hb; exact (h.ge b hb).1
     . omega
   . rw [if_neg hbl] at hb; omega
 . exact ⟨he.os.trans h0.os,he.tape.trans h0.tape,he.output.trans h0.output,Nat.le_trans h0.size hs,fun b hb=>(he.block b (by omega) (nt b hb)).trans (h0.block b hb)⟩
end
theorem Zny:(Tryz.prog.info? 3).map (fun i=>(i.zero,i.size,i.bytes))=some (some (.int .i64 0),1,8):=by kernel_rfl
theorem Znz:(Tryz.prog.info? 9).map (fun i=>(i.zero,i.size,i.bytes))=some (some (.string ⟨#[]⟩),1,16):=by kernel_rfl
theorem ZnA:(Tryz.prog.info? 48).map (fun i=>(i.zero,i.size,i.bytes))=some (some (.agg #[.int .i64 0,.int .i64 0,.string ⟨#[]⟩]),3,32):=by kernel_rfl
theorem ZnB {names:List Bs} {types:List Int}:∀ (l1 l2:List Ex),typL names types (l1++l2)=(match typL names types l1 with | .error e => .error e | .ok a=>match typL names types l2 with | .error e => .error e | .ok b => .ok (a++b)):=by
 intro l1;induction l1 with
 | nil=>intro l2; rw [List.nil_append,Zfb]; cases typL names types l2<;>rfl
 | cons k ks ih =>
  intro l2;rw [List.cons_append,Zfn,Zfn,ih];cases typ names types k with
  | error e=>rfl
  | ok t =>
   cases typL names types ks with
   | error e=>rfl
   | ok a =>
    cases typL names types l2 with
    | error e=>rfl
    | ok b=>rfl
theorem ZnC {names:List Bs} {types:List Int}:∀ (l:List Ex) (ts:List Int),typL names types l = .ok ts->ts.length=l.length:=by
 intro l;induction l with
 | nil=>intro ts h; rw [Zfb] at h; cases h; rfl
 | cons k ks ih =>intro ts h;obtain ⟨t,us,_,h2,rfl⟩:=Zfo h;rw [List.length_cons,List.length_cons,ih us h2]
theorem ZnD:∀ (names:List Bs) (types:List Int) (s:Bs),findT names types s=0\/(1<=findT names types s/\findT names types s<=3):=by
 intro names;induction names with
 | nil=>intro types s; exact .inl (Zd1 types s)
 | cons m ms ih =>
  intro types s;by_cases h:m=s
  . rw [Zd2 h];cases types with
    | nil=>exact .inl rfl
    | cons t ts=>simp only; split<;>omega
  . rw [Zd3 h]; exact ih _ _
theorem ZnE {op a b c:Int} (hb:b=0\/(1<=b/\b<=3)):made op a b c=0\/(1<=made op a b c/\made op a b c<=3):=by
 unfold made
 repeat' split
 all_goals omega
theorem ZnF {names:List Bs} {types:List Int} (e:Ex):∀ t,typ names types e = .ok t->1<=t/\t<=3:=by
 refine Ex.ind (P:=fun e=>∀ t,typ names types e = .ok t->1<=t/\t<=3) ?_ e;intro op n s ks ih t h;have hl:∀ (l:List Ex),(∀ k∈l,k∈ks)->∀ ts,typL names types l = .ok ts->∀ t∈ts,1<=t/\t<=3:=by
  intro l;induction l with
  | nil=>intro _ ts h t ht; rw [Zfb] at h; cases h; cases ht
  | cons k l2 ih2 =>
   intro hm ts h t ht;obtain ⟨u,us,h1,h2,rfl⟩:=Zfo h;rcases Ybc.1 ht with rfl|ht
   . exact ih k (hm k (by simp)) _ h1
   . exact ih2 (fun x hx=>hm x (by simp [hx])) us h2 t ht
 rw [Zfm] at h;cases htl:typL names types ks with
 | error e=>rw [htl] at h; cases h
 | ok ts =>
  rw [htl] at h;simp only at h;split at h
  . split at h
    . cases h
    . simp only [Except.ok.injEq] at h;subst h;rcases ZnD names types s with h'|h'
      . omega
      . exact h'
  . split at h
    . cases h
    . rename_i hm;simp only [Except.ok.injEq] at h;subst h;have hb:ts.getD 1 0=0\/(1<=ts.getD 1 0/\ts.getD 1 0<=3):=by
       rw [Yau];cases hg:ts[1]? with
       | none=>exact .inl rfl
       | some x=>exact .inr (hl ks (fun _ h=>h) ts htl x (Yay hg))
      rcases ZnE (op:=op) (a:=ts.getD 0 0) (c:=ts.getD 2 0) hb with h'|h'
      . omega
      . exact h'
theorem ZnG {names:List Bs} {types:List Int}:∀ (l:List Ex) (ts:List Int),typL names types l = .ok ts->∀ t∈ts,1<=t/\t<=3:=by
 intro l;induction l with
 | nil=>intro ts h t ht; rw [Zfb] at h; cases h; cases ht
 | cons k l2 ih2 =>
  intro ts h t ht;obtain ⟨u,us,h1,h2,rfl⟩:=Zfo h;rcases Ybc.1 ht with rfl|ht
  . exact ZnF k _ h1
  . exact ih2 us h2 t ht
def tOf (r:Except Int Int):Int:=match r with | .ok t=>t | .error _=>0
def fOf (r:Except Int Int):Int:=match r with | .ok _=>0 | .error f=>f
def typ2Post (t f:Int) (w:World) (e:Ending) (w':World):Prop:=e = .returned (.tuple #[.int .i64 t,.int .i64 f])/\Below w.heap.size w w'
theorem ZnH (ts:List Int) (t:Int):(ts++[t]).map (Value.int .i64)=ts.map (Value.int .i64)++[.int .i64 t]:=by simp
theorem ZnI (names:List Bs) (types:List Int) (nv tv:Value) (e:Ex):∀ (v:Value) (w:World),Good e->KV (gh w) v e.ks->StrsV (gh w) nv names->IntsV (gh w) tv types ->
 Calls Tryz.prog 103 #[exV e.op e.n e.s v,nv,tv] w (typ2Post (tOf (typ names types e)) (fOf (typ names types e)) w):=by
 refine Ex.ind (P:=fun e=>∀ (v:Value) (w:World),Good e->KV (gh w) v e.ks->StrsV (gh w) nv names->IntsV (gh w) tv types ->
  Calls Tryz.prog 103 #[exV e.op e.n e.s v,nv,tv] w (typ2Post (tOf (typ names types e)) (fOf (typ names types e)) w)) ?_ e
 intro op n s ks ih v w hG hK hN hT;simp only [Ex.op,Ex.n,Ex.s,Ex.ks] at hK |-;obtain ⟨i0,hi,hz0,hz1,hz2⟩:=info_parts Zny;obtain ⟨ha,hkg⟩:alone op n s ks=true/\∀ k∈ks,Good k:=by cases hG with|mk _ _ _ _ ha hn hk=>exact ⟨ha,hk⟩
 have hal:=Zd6 ha;have hb1:=(Yab w.heap.size w).alloc Zs (cEx op n s v);have HB1:=Zq hb1;obtain ⟨R,hR⟩:∃ R,typ names types (.mk op n s ks)=R:=⟨_,rfl⟩;rw [hR];rw [Zfm] at hR;obtain ⟨a,cap,rfl⟩:=hK.form;by_cases h4:op=1\/op=2\/op=3\/op=4
 . have e0:arity op=0:=(by rcases h4 with rfl|rfl|rfl|rfl<;>rfl);have hk0:ks=[]:=Yal (by rw [e0] at hal; omega);subst hk0;rw [Zfb] at hR;simp only at hR;have HF:=Zq (Znh s names types nv tv (w.alloc (cEx op n s (.slice a 0 cap))) (hN.mono (Zah hb1)) (hT.mono (Zah hb1)));clear hN hT hK hG ha hal hkg ih hb1;unfold exV strV at *;rcases h4 with rfl|rfl|rfl|rfl
   . have HR:Hid (R = .ok 1):=Zq hR.symm;clear hR HF;go_in;go_wp2;go_ret2;rw [HR.out];exact ⟨rfl,HB1.out⟩
   . have HR:Hid (R = .ok 3):=Zq hR.symm;clear hR HF;go_in;go_wp2;go_ret2;rw [HR.out];exact ⟨rfl,HB1.out⟩
   . have HR:Hid (R = .ok 2):=Zq hR.symm;clear hR HF;go_in;go_wp2;go_ret2;rw [HR.out];exact ⟨rfl,HB1.out⟩
   . rw [if_pos rfl] at hR;generalize findT names types s=t at *;by_cases ht:t=0
     . have HR:Hid (R = .error 9):=Zq (by rw [<-hR,if_pos ht]);subst ht;clear hR;go_in;go_wp2_with fail;refine HF.out.mono ?_;rintro r W ⟨rfl,rfl⟩;go_wp2;go_ret2;rw [HR.out];exact ⟨rfl,HB1.out⟩
     . have HR:Hid (R = .ok t):=Zq (by rw [<-hR,if_neg ht]);have q:(t == 0)=false:=Zr ht;clear hR ht;go_in;go_wp2_with fail;refine HF.out.mono ?_;rintro r W ⟨rfl,rfl⟩;go_wp2;go_ret2;rw [HR.out];exact ⟨rfl,HB1.out⟩
 . have q1:(op == 1)=false:=Zr (by omega);have q2:(op == 2)=false:=Zr (by omega);have q3:(op == 3)=false:=Zr (by omega);have q4:(op == 4)=false:=Zr (by omega);have hl3:ks.length<=3:=(by rcases Znw hal h4 with h|h|h<;>omega);have hR2:R=(match typL names types ks with | .error e => .error e | .ok ts=>if made op (ts.getD 0 0) (ts.getD 1 0) (ts.getD 2 0)=0 then .error 8 else .ok (made op (ts.getD 0 0) (ts.getD 1 0) (ts.getD 2 0))):=by
    rw [<-hR];cases typL names types ks with
    | error e=>rfl
    | ok ts=>simp only; rw [if_neg (by omega)]
   have HR2:=Zq hR2;have HOF:=Zq (fun ts (ht:typL names types ks = .ok ts) tv W (hT:IntsV (gh W) tv ts)=>Znx op ts tv W hT (by rw [ZnC ks ts ht]; exact hal) h4 (ZnG ks ts ht));have HI:=Zq (fun k hk v W (hK:KV (gh W) v k.ks) (hN:StrsV (gh W) nv names) (hT:IntsV (gh W) tv types)=>ih k hk v W (hkg k hk) hK hN hT);have HK:=Zq hK;have HN:=Zq hN;have HT:=Zq hT;obtain ⟨len,hlen⟩:∃ len,ks.length=len:=⟨_,rfl⟩;have HLEN:=Zq hlen;have hkc:=hK.cap;rw [hlen] at HK hl3 hkc HB1;unfold exV strV;rw [hlen];have e1:=Yac w (cEx op n s (.slice a len cap));have hsz1:(w.alloc (cEx op n s (.slice a len cap))).heap.size=w.heap.size+1:=(by simp);have HE1:=Zq e1;have HSZ1:=Zq hsz1;clear hb1 hG hK hN hT ha hal hkg ih hR hR2 h4 e1 hsz1 hlen;go_in;go_upto_region 13 with fail;generalize w.alloc (cEx op n s (.slice a len cap))=w1 at *;go_wp2;go_loopg [9,10] len (fun g l i wr=>∃ (tau:Tag) (k:Nat) (ts:List Int),i = .int .i64 k/\Hid (RwIn (w.heap.size+1) tau wr 3 1 l k (ts.map (Value.int .i64)))/\Hid (Below (w.heap.size+1) w1 wr)/\Hid (typL names types (ks.take k) = .ok ts)/\ts.length=k/\k+g=len);(case atStart=>exact ⟨T0,0,[],rfl,Zq (RwIn.start _ _ _ _),Zq (Yab _ _),Zq (by rw [List.take_zero]; exact Zfb _ _),rfl,by omega⟩);case round =>
    obtain ⟨tau,k,ts,rfl,HC,HB,HM,hlk,hg⟩:=hrel;obtain ⟨la,lc,rfl⟩:=HC.out.row.form;have hwz:w.heap.size+1<=wr.heap.size:=(by have:=HB.out.size; have:=HSZ1.out; omega);have hx:=(HB.out.block w.heap.size (by omega)).trans HE1.out;have HX:=Zq hx;obtain ⟨⟨x0,x1,x2,x3⟩,-⟩:=ZdP hx;have HBW:Hid (Below w.heap.size w wr):=Zq (HB1.out.trans (HB.out.mono (by omega)));clear hx;by_cases hlt2:k<len
    . have hkl:k<ks.length:=(by have:=HLEN.out; omega);have hKr:=HK.out.keep HBW.out;obtain ⟨bb,off,u,rfl,d0,d1,d2,d3,hKu⟩:=hKr.at (Yad hkl);obtain ⟨ua,uc,rfl⟩:=hKu.form;have hmem:ks[k]∈ks:=List.getElem_mem hkl;have htk:ks.take (k+1)=ks.take k++[ks[k]]:=(by rw [List.take_succ_eq_append_getElem hkl]);have hdk:ks=ks.take k++ks[k]::ks.drop (k+1):=(by rw [<-Yas hkl,List.take_append_drop]);have hlx:=HI.out ks[k] hmem (.slice ua ks[k].ks.length uc) wr hKu (HN.out.mono (Zah HBW.out)) (HT.out.mono (Zah HBW.out));unfold exV strV at hlx;unfold strV at d2;have HLX:=Zq hlx;have HTK:=Zq (And.intro htk hdk);clear hKr hKu hlx htk hdk hmem;generalize ks[k]=y at *;cases hty:typ names types y with
      | error f =>have hf:=Zfh names types y f hty;have HR3:Hid (R = .error f):=Zq (by rw [HR2.out];have e1:typL names types ks = .error f:=(by rw [HTK.out.2,ZnB,HM.out,Zfn,hty]);rw [e1]);rw [hty] at HLX;have qf:(f != 0)=true:=Yao.2 (by omega);have tf:tOf (.error f)=0:=rfl;have ff:fOf (.error f)=f:=rfl;rw [tf,ff] at HLX;clear hf hty tf ff;go_wp2_with fail;refine HLX.out.mono ?_;rintro r W3 ⟨rfl,hb3⟩;have hbF:=HBW.out.seq hb3;go_wp2;(try rw [Yae]);go_ret2;rw [HR3.out];exact ⟨rfl,hbF⟩
      | ok t =>have HM2:Hid (typL names types (ks.take (k+1)) = .ok (ts++[t])):=Zq (by rw [HTK.out.1,ZnB,HM.out,Zfn,hty,Zfb]);rw [hty] at HLX;have tf:tOf (.ok t)=t:=rfl;have ff:fOf (.ok t)=0:=rfl;rw [tf,ff] at HLX;clear hty tf ff;go_wp2_with fail;refine HLX.out.mono ?_;rintro r W3 ⟨rfl,hb3⟩;have hsw3:=hb3.size;have HC3:=Zq (HC.out.keep hb3);have hrow:=HC3.out.row;have HB3:Hid (Below (w.heap.size+1) w1 W3):=Zq (HB.out.trans (hb3.mono hwz));clear hb3 x0 x1 x2 x3 d0 d1 d2 d3;go_wp2_with (at_builtin; refine Zac rfl _ _ 30 rfl 3 i0 _ 1 8 Tryz.underlying30 hi hz0 hz1 hz2 rfl (by decide) rfl hrow #[.int .i64 t] 3 (0,0) _ rfl ?c0 rfl ?c1 ?c2 ?c3 ?_);(case c0=>simp);(case c1=>first|(intro u hu; obtain rfl:=List.mem_singleton.1 hu; rfl)|(show _=_; rfl)|exact ⟨rfl,trivial⟩|exact ⟨rfl⟩|trivial);(case c2=>unfold maxLen; omega);(case c3=>omega);intro v' t' w' hr3 he;have hr4:Row t' 1 w' 3 1 v' (k+1) ((ts++[t]).map (Value.int .i64)):=(by rw [ZnH]; exact hr3);obtain ⟨⟨t2,hcp⟩,hbl⟩:=HC3.out.app (by omega) hr4 he;have HCP:=Zq hcp;have HBL:=Zq (hbl w1 HB3.out);clear hr3 hr4 he hrow hcp hbl;go_wp2;go_roundg (gk - 1);(case rel=>exact ⟨t2,k+1,ts++[t],by go_num,HCP,HBL,HM2,by rw [Yak,List.length_cons,List.length_nil]; omega,by omega⟩);case measure=>omega
    . have hks:ks.take k=ks:=List.take_of_length_le (by have:=HLEN.out; omega);have htl:=HM.out;rw [hks] at htl;have hiv:IntsV (gh wr) (.slice la k lc) ts:=IntsV.ofOwn (B:=0) (by have:=HC.out.row.own; rw [<-hlk] at this; rw [<-hlk]; exact this) (by omega);have hof:=HOF.out ts htl _ wr hiv;have hR3:=HR2.out;rw [htl] at hR3;simp only at hR3;unfold ofPost8 at hof;generalize made op (ts.getD 0 0) (ts.getD 1 0) (ts.getD 2 0)=m at *;have HO:=Zq hof;by_cases hm:m=0
      . have HR4:Hid (R = .error 8):=Zq (by rw [hR3,if_pos hm]);subst hm;clear hR3 hof htl hks hiv;go_wp2_with fail;refine HO.out.mono ?_;rintro r W3 ⟨rfl,hb3⟩;have hbF:=HBW.out.seq hb3;go_wp2;go_ret2;rw [HR4.out];exact ⟨rfl,hbF⟩
      . have HR4:Hid (R = .ok m):=Zq (by rw [hR3,if_neg hm]);have qm:(m == 0)=false:=Zr hm;clear hR3 hof htl hks hiv hm;go_wp2_with fail;refine HO.out.mono ?_;rintro r W3 ⟨rfl,hb3⟩;have hbF:=HBW.out.seq hb3;go_wp2;go_ret2;rw [HR4.out];exact ⟨rfl,hbF⟩
theorem ZnJ {e:Ex} {names:List Bs} {types:List Int} (h:check e=true):typeOf e names types=(tOf (typ names types e),fOf (typ names types e)):=by unfold typeOf;rw [if_pos h];cases typ names types e<;>rfl
theorem ZnK {e:Ex} {names:List Bs} {types:List Int} (h:check e=false):typeOf e names types=(0,6):=by unfold typeOf;rw [if_neg (by rw [h]; decide)]
theorem ZnL (e:Ex) (names:List Bs) (types:List Int) (v nv tv:Value) (w:World) (hF:Fine e) (hE:EV (gh w) v e) (hN:StrsV (gh w) nv names) (hT:IntsV (gh w) tv types) :
 Calls Tryz.prog 75 #[v,nv,tv] w (typ2Post (typeOf e names types).1 (typeOf e names types).2 w):=by
 have HE:=Zq hE;have HN:=Zq hN;have HT:=Zq hT;obtain ⟨kv,rfl,hK⟩:=hE;obtain ⟨a,cap,rfl⟩:=hK.form;have HK:=Zq hK;have K0:=Zq ((Kept.start w).new (cEx e.op e.n e.s (.slice a e.ks.length cap)));obtain ⟨ck,hck⟩:∃ c,check e=c:=⟨_,rfl⟩;have HC:=Zq (fun W (hb:Below w.heap.size w W)=>hck▸ZmS e _ W hF (HE.out.keep hb));have HTY:Hid (ck=true->∀ W,Below w.heap.size w W->Calls Tryz.prog 103 #[exV e.op e.n e.s (.slice a e.ks.length cap),nv,tv] W (typ2Post (typeOf e names types).1 (typeOf e names types).2 W)):=Zq (fun h W hb=>by rw [ZnJ (hck.trans h)];exact ZnI names types nv tv e _ W (Zel hF (hck.trans h)) (HK.out.keep hb) (HN.out.mono (Zah hb)) (HT.out.mono (Zah hb)));have HNO:Hid (ck=false->typeOf e names types=(0,6)):=Zq (fun h=>ZnK (hck.trans h));unfold exV strV at *;generalize typeOf e names types=R at *;obtain ⟨x0,x1,x2,x3⟩:=(ZdP K0.out.at0).1;clear hF hN hT hK hck;go_in;go_wp2_with fail;refine (HC.out _ K0.out.below).mono ?_;generalize w.alloc (cEx e.op e.n e.s (.slice a e.ks.length cap))=W0 at *;rintro r W1 ⟨rfl,hb⟩;have K1:=Zq (K0.out.call hb);clear hb x0 x1 x2 x3 HC K0;cases ck with
 | false =>have hn:=HNO.out (by first|rfl|trivial);subst hn;have hbF:=K1.out.below;clear HNO HTY;go_wp2;go_ret2;exact ⟨rfl,hbF⟩
 | true =>obtain ⟨x0,x1,x2,x3⟩:=(ZdP K1.out.at0).1;have HQ:=Zq (HTY.out (by first|rfl|trivial));clear HTY HNO;go_wp2_with fail;refine (HQ.out _ K1.out.below).mono ?_;rintro r W2 ⟨rfl,hb⟩;have hbF:=K1.out.below.seq hb;clear hb x0 x1 x2 x3;go_wp2;go_ret2;exact ⟨rfl,hbF⟩
def valCells (x:Val):List Value:=[.int .i64 x.k,.int .i64 x.n,strV x.s]
theorem ZnN (x:Val):(valCells x).length=3:=rfl
theorem ZnO {h:GH} {v:Value} {l:List Val} (s:SlV h v l.length 3 (fun j=>valCells (l.getD j vNil))):ValsV h v l:=by
 obtain ⟨a,cap,hv,h1,h2,h3,h4⟩:=s;refine ⟨a,cap,hv,fun h=>Yal (h1 h).1,h2,h3,fun j x hj=>?_⟩;have hl:=(Yag.1 hj).1;have hg:l.getD j vNil=x:=by rw [Yau,hj]; rfl
 obtain ⟨b,off,ha,c0⟩:=h4 j 0 (.int .i64 x.k) hl (by show (valCells (l.getD j vNil))[0]?=_; rw [hg]; rfl);obtain ⟨b1,off1,ha1,c1⟩:=h4 j 1 (.int .i64 x.n) hl (by show (valCells (l.getD j vNil))[1]?=_; rw [hg]; rfl);obtain ⟨b2,off2,ha2,c2⟩:=h4 j 2 (strV x.s) hl (by show (valCells (l.getD j vNil))[2]?=_; rw [hg]; rfl);rw [ha] at ha1 ha2;simp only [Yai,Ybd,and_true] at ha1 ha2;obtain ⟨rfl,rfl⟩:=ha1;obtain ⟨rfl,rfl⟩:=ha2;refine ⟨b,off,ha,?_,?_,?_⟩
 . rw [show off+(3*j+0)=off+j*3 by omega] at c0; exact c0
 . rw [show off+(3*j+1)=off+j*3+1 by omega] at c1; exact c1
 . rw [show off+(3*j+2)=off+j*3+2 by omega] at c2; exact c2
theorem ZnP {α:Type} (g:α->List Value) (sz:Nat) (hs:0<sz) (hg:∀ a,(g a).length=sz):∀ (l:List α) (j:Nat) (u:Value),(l.flatMap g)[j]?=some u->∃ i c x,l[i]?=some x/\(g x)[c]?=some u/\j=i*sz+c:=by
 intro l;induction l with
 | nil=>intro j u h; simp at h
 | cons x xs ih =>
  intro j u h;rw [List.flatMap_cons] at h;by_cases hj:j<sz
  . rw [List.getElem?_append_left (by rw [hg]; exact hj)] at h;exact ⟨0,j,x,rfl,h,by omega⟩
  . rw [List.getElem?_append_right (by rw [hg]; omega),hg] at h;obtain ⟨i,c,y,h1,h2,h3⟩:=ih _ u h;exact ⟨i+1,c,y,by simpa using h1,h2,by rw [Nat.succ_mul]; omega⟩
end Go.Proofs.YtikannmgllejfaaGreatDoor
