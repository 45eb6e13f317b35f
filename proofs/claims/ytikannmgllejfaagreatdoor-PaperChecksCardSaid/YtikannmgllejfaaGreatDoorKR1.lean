/- The walks of value. -/
import Derived.Test.YtikannmgllejfaaGreatDoorKRF
import Derived.Test.YtikannmgllejfaaGreatDoorKRL
import Derived.Test.YtikannmgllejfaaGreatDoorKVb
import Derived.Test.YtikannmgllejfaaGreatDoorKPl
import Derived.Test.YtikannmgllejfaaGreatDoorKVa
import Derived.Lib.QuoteBits
import Derived.Lib.LaidTab
import Derived.Lib.SmallJoins
import Derived.Lib.AppendIntMem
import Derived.Test.YtikannmgllejfaaGreatDoorRows
import Derived.Test.YtikannmgllejfaaGreatDoorKSb
import Derived.PinnedBridge
import Derived.Lib.LaidU8T
import Derived.LaidLaws
import Derived.Lay
import Derived.Stop.Joined
import Derived.ProofKit
import Derived.OpenShut
import Derived.Deep.Matrix
import Derived.Deep.Grids
set_option maxHeartbeats 4000000
set_option maxRecDepth 1000000
set_option linter.all false
namespace Go.Proofs.YtikannmgllejfaaGreatDoor
open Go.RowKit Pal
theorem ZlP (k n:Int) (s:Bs) (w:World) (h:¬ (k=0\/k=1\/k=2\/k=3\/k=4)) :
 Calls Tryz.prog 41 #[.agg #[.int .i64 k,.int .i64 n,strV s]] w fun e w'=>e = .returned (.bool false)/\Below w.heap.size w w':=by have e0:(k == 0)=false:=Zr (by omega);have e1:(k == 1)=false:=Zr (by omega);have e2:(k == 2)=false:=Zr (by omega);have e3:(k == 3)=false:=Zr (by omega);have e4:(k == 4)=false:=Zr (by omega);clear h;unfold strV;go_in;go_wp2;go_ret;exact ⟨rfl,(Yab _ _).alloc Zs _⟩
theorem ZlQ (k n:Int) (s:Bs) (w:World) (h:k=0\/k=1) :
 Calls Tryz.prog 41 #[.agg #[.int .i64 k,.int .i64 n,strV s]] w fun e w'=>e = .returned (.bool (okV ⟨k,n,s⟩))/\Below w.heap.size w w':=by
 have HB:Hid (Below w.heap.size w w):=Zq (Yab _ _);by_cases hs:s=[]
 . subst hs;rcases h with rfl|rfl
   . by_cases hn:n=0
     . have E:Hid (okV ⟨0,n,[]⟩=true):=Zq (by unfold okV; simp [hn]);have q:(n == 0)=true:=(by simp [hn]);clear hn;unfold strV;go_in;go_wp2;go_ret;exact ⟨by rw [E.out]; rfl,HB.out.alloc Zs _⟩
     . have E:Hid (okV ⟨0,n,[]⟩=false):=Zq (by unfold okV; simp [hn]);have q:(n == 0)=false:=Zr hn;clear hn;unfold strV;go_in;go_wp2;go_ret;exact ⟨by rw [E.out]; rfl,HB.out.alloc Zs _⟩
   . have E:Hid (okV ⟨1,n,[]⟩=true):=Zq (by unfold okV; simp);unfold strV;go_in;go_wp2;go_ret;exact ⟨by rw [E.out]; rfl,HB.out.alloc Zs _⟩
 . have E:Hid (okV ⟨k,n,s⟩=false):=Zq (by unfold okV; rcases h with rfl|rfl<;>simp [hs]);have q:=ZcZ hs;clear hs;unfold strV;rcases h with rfl|rfl
   . by_cases hn:n=0
     . have q2:(n == 0)=true:=(by simp [hn]);clear hn;go_in;go_wp2;go_ret;exact ⟨by rw [E.out]; rfl,HB.out.alloc Zs _⟩
     . have q2:(n == 0)=false:=Zr hn;clear hn;go_in;go_wp2;go_ret;exact ⟨by rw [E.out]; rfl,HB.out.alloc Zs _⟩
   . go_in;go_wp2;go_ret;exact ⟨by rw [E.out]; rfl,HB.out.alloc Zs _⟩
theorem ZlR (n:Int) (s:Bs) (w:World) :
 Calls Tryz.prog 41 #[.agg #[.int .i64 2,.int .i64 n,strV s]] w fun e w'=>e = .returned (.bool (okV ⟨2,n,s⟩))/\Below w.heap.size w w':=by
 have HB:Hid (Below w.heap.size w w):=Zq (Yab _ _);have E:Hid (okV ⟨2,n,s⟩=(decide (n=0\/n=1)&&List.isEmpty s)):=Zq (by unfold okV; cases s<;>simp);by_cases h0:n=0
 . have E2:Hid (okV ⟨2,n,s⟩=List.isEmpty s):=Zq (by rw [E.out]; simp [h0]);have q:(n == 0)=true:=(by simp [h0]);clear h0 E;unfold strV;go_in;go_wp2;go_ret;exact ⟨by rw [E2.out]; rfl,HB.out.alloc Zs _⟩
 . have q:(n == 0)=false:=Zr h0;by_cases h1:n=1
   . have E2:Hid (okV ⟨2,n,s⟩=List.isEmpty s):=Zq (by rw [E.out]; simp [h1]);have q1:(n == 1)=true:=(by simp [h1]);clear h0 h1 E;unfold strV;go_in;go_wp2;go_ret;exact ⟨by rw [E2.out]; rfl,HB.out.alloc Zs _⟩
   . have E2:Hid (okV ⟨2,n,s⟩=false):=Zq (by rw [E.out]; simp [h0,h1]);have q1:(n == 1)=false:=Zr h1;clear h0 h1 E;unfold strV;go_in;go_wp2;go_ret;exact ⟨by rw [E2.out]; rfl,HB.out.alloc Zs _⟩
theorem ZlS (n:Int) (s:Bs) (w:World) :
 Calls Tryz.prog 41 #[.agg #[.int .i64 4,.int .i64 n,strV s]] w fun e w'=>e = .returned (.bool (okV ⟨4,n,s⟩))/\Below w.heap.size w w':=by
 have HB:Hid (Below w.heap.size w w):=Zq (Yab _ _);have E:Hid (okV ⟨4,n,s⟩=(decide (1<=n/\n<=4)&&List.isEmpty s)):=Zq (by unfold okV; cases s<;>simp);by_cases h0:1<=n
 . by_cases h1:n<=4
   . have E2:Hid (okV ⟨4,n,s⟩=List.isEmpty s):=Zq (by rw [E.out,Yam ⟨h0,h1⟩]; rfl);unfold strV;go_in;go_wp2;go_ret;exact ⟨by rw [E2.out]; rfl,HB.out.alloc Zs _⟩
   . have E2:Hid (okV ⟨4,n,s⟩=false):=Zq (by rw [E.out,Yaj (fun h=>h1 h.2)]; rfl);unfold strV;go_in;go_wp2;go_ret;exact ⟨by rw [E2.out]; rfl,HB.out.alloc Zs _⟩
 . have E2:Hid (okV ⟨4,n,s⟩=false):=Zq (by rw [E.out,Yaj (fun h=>h0 h.1)]; rfl);unfold strV;go_in;go_wp2;go_ret;exact ⟨by rw [E2.out]; rfl,HB.out.alloc Zs _⟩
theorem ZlT (n:Int) (s:Bs) (w:World) (hm:s.length<=9223372036854775807) :
 Calls Tryz.prog 41 #[.agg #[.int .i64 3,.int .i64 n,strV s]] w fun e w'=>e = .returned (.bool (okV ⟨3,n,s⟩))/\Below w.heap.size w w':=by
 have HB:Hid (Below w.heap.size w w):=Zq (Yab _ _);have E:Hid (okV ⟨3,n,s⟩=(decide (n=0)&&textOk s)):=Zq (by unfold okV; simp);have hz:(⟨s.toArray⟩:ByteArray).size=s.length:=by simp [ByteArray.size]
 have hd:(⟨s.toArray⟩:ByteArray).data.toList=s:=by simp
 by_cases h0:n=0
 . have E2:Hid (okV ⟨3,n,s⟩=textOk s):=Zq (by rw [E.out]; simp [h0]);have q:(n == 0)=true:=(by simp [h0]);by_cases h4:s.length<=400
   . have hb0:=HB.out.alloc Zs (.cells #[.int .i64 3,.int .i64 n,strV s] 48);have hv:=Zk7 ⟨s.toArray⟩ (w.alloc (.cells #[.int .i64 3,.int .i64 n,strV s] 48)) (by omega);have hc:=fun W=>Zk6 ⟨s.toArray⟩ W (by omega);have hz0:=Yac w (.cells #[.int .i64 3,.int .i64 n,strV s] 48);rw [hd] at hv;simp only [hd] at hc;have HV:=Zq hv;have HC:=Zq hc;have HB0:=Zq hb0;have HZ:=Zq hz0;have E3:Hid (textOk s=(val s&&decide (cnt s<=100))):=Zq (by unfold textOk; rw [Yam h4]; rfl);clear E hv hc hb0 hz0 hd hz h0;unfold strV at *;cases hvs:val s with
     | false =>have E4:Hid (okV ⟨3,n,s⟩=false):=Zq (by rw [E2.out,E3.out,hvs]; rfl);rw [hvs] at HV;go_in;go_wp2_with fail;refine HV.out.mono ?_;rintro e W1 ⟨rfl,hb1⟩;go_wp2;go_ret;exact ⟨by rw [E4.out]; rfl,HB0.out.seq hb1⟩
     | true =>
      have E4:Hid (okV ⟨3,n,s⟩=decide ((cnt s:Int)<=100)):=Zq (by
       rw [E2.out,E3.out,hvs,Bool.true_and];by_cases h:cnt s<=100
       . rw [Yam h,Yam (by omega)]
       . rw [Yaj h,Yaj (by omega)])
      rw [hvs] at HV;go_in;go_wp2_with fail;refine HV.out.mono ?_;rintro e W1 ⟨rfl,hb1⟩;have hzW:=(hb1.block _ (by simp)).trans HZ.out;have c2:W1.cell? ⟨w.heap.size,2,none⟩=some (.string ⟨s.toArray⟩):=(by simp [World.cell?,hzW]);have hb2:=HB0.out.seq hb1;clear hb1 hzW;go_wp2_with fail;refine (HC.out _).mono ?_;rintro e W2 ⟨rfl,hb3⟩;have hb4:=hb2.seq hb3;go_wp2;go_ret;exact ⟨by rw [E4.out]; rfl,hb4⟩
   . have E4:Hid (okV ⟨3,n,s⟩=false):=Zq (by rw [E2.out]; unfold textOk; rw [Yaj h4]; rfl);have q4:decide ((s.length:Int)<=400)=false:=Yaj (by omega);clear E h0 hd hz;unfold strV;go_in;go_wp2;go_ret;exact ⟨by rw [E4.out]; rfl,HB.out.alloc Zs _⟩
 . have q:(n == 0)=false:=Zr h0;have E2:Hid (okV ⟨3,n,s⟩=false):=Zq (by rw [E.out]; simp [h0]);clear h0 E;unfold strV;go_in;go_wp2;go_ret;exact ⟨by rw [E2.out]; rfl,HB.out.alloc Zs _⟩
theorem ZlU (k n:Int) (s:Bs) (w:World) (hm:s.length<=9223372036854775807) :
 Calls Tryz.prog 41 #[.agg #[.int .i64 k,.int .i64 n,strV s]] w fun e w'=>e = .returned (.bool (okV ⟨k,n,s⟩))/\Below w.heap.size w w':=by
 by_cases h:k=0\/k=1\/k=2\/k=3\/k=4
 . rcases h with h|h|h|h|h
   . exact ZlQ k n s w (.inl h)
   . exact ZlQ k n s w (.inr h)
   . subst h; exact ZlR n s w
   . subst h; exact ZlT n s w hm
   . subst h; exact ZlS n s w
 . have e:okV ⟨k,n,s⟩=false:=(by unfold okV;rw [if_neg (fun x=>h (by simp_all)),if_neg (fun x=>h (by simp_all)),if_neg (fun x=>h (by simp_all)),if_neg (fun x=>h (by simp_all)),if_neg (fun x=>h (by simp_all))]);rw [e];exact ZlP k n s w h
def words8:List Bs:=[wTrue,wFalse,wIf,wLen,wCat,wCut,wHas,wUp]
theorem ZlV (s:Bs) (w:World):Calls Tryz.prog 98 #[.string ⟨s.toArray⟩] w fun e w'=>e = .returned (.bool (word s))/\Below w.heap.size w w':=by
 obtain ⟨R,hR⟩:∃ R,word s=R:=⟨_,rfl⟩;rw [hR];have HR:=Zq hR;have hl:=StrsV.lay (w:=w.alloc (.cells (words8.map strV).toArray 9)) (b:=w.heap.size) words8 9 (Yac w _) (by simp [maxLen,words8]);have hb:Below w.heap.size w (w.alloc (.cells (words8.map strV).toArray 9)):=(Yab _ _).alloc Zs _;simp only [words8,List.map_cons,List.map_nil,strV,wTrue,wFalse,wIf,wLen,wCat,wCut,wHas,wUp,List.length_cons,List.length_nil,Nat.zero_add,Nat.reduceAdd] at hl hb;have HL:=Zq hl;have HB:=Zq hb;clear hR hl hb;go_in;go_wp2;have HL2:Hid (StrsV (gh _) _ words8):=HL;generalize (w.alloc _)=W at *;go_loopg [4] 8 (fun g i wr=>∃ j:Nat,i = .int .i64 j/\wr=W/\j+g=8/\Hid (∀ i,i<j->words8[i]?≠some s));case atStart=>exact ⟨0,rfl,rfl,by omega,Zq (fun i hi=>by omega)⟩
 case round =>
  obtain ⟨j,rfl,rfl,hg,HN⟩:=hrel;by_cases hj:j<8
  . have hj8:j<words8.length:=(by simpa [words8] using hj);obtain ⟨b,off,he,c0⟩:=HL2.out.at (Yad hj8);simp only [Yai,Ybd,and_true] at he;obtain ⟨rfl,rfl⟩:=he;have hgg:=Yad hj8;have HG:=Zq hgg;unfold strV at c0;generalize words8[j]=x at *;rw [Nat.zero_add] at c0;clear hgg;by_cases hx:x=s
    . have q:(x == s)=true:=(by simp [hx]);have HE:Hid (R=true):=Zq (by rw [<-HR.out];unfold word;rw [List.contains_iff_mem];exact Yay (by rw [<-hx]; exact HG.out));clear hx;go_wp2;(try rw [Yae]);go_ret;exact ⟨by rw [HE.out]; rfl,HB.out⟩
    . have q:(x == s)=false:=ZcO hx;have HN2:Hid (∀ i,i<j+1->words8[i]?≠some s):=Zq (fun i hi h=>by
       by_cases h2:i<j
       . exact HN.out i h2 h
       . obtain rfl:i=j:=(by omega);rw [HG.out] at h;exact hx (Option.some.inj h))
      clear hx;go_wp2;go_roundg (gk - 1);(case rel=>exact ⟨j+1,by go_num,rfl,by omega,HN2⟩);case measure=>omega
  . have HE:Hid (R=false):=Zq (by
     rw [<-HR.out];cases h:word s with
     | false=>rfl
     | true =>unfold word at h;rw [List.contains_iff_mem] at h;obtain ⟨i,hi,e⟩:=List.getElem_of_mem h;exact absurd (by rw [<-e]; exact Yad hi) (HN.out i (by simp at hi; omega)))
    go_wp2;(try rw [Yae]);go_ret;exact ⟨by rw [HE.out]; rfl,HB.out⟩
def nameOf (ts:List Tok) (s:Bs):Bool:=match ts with|[t,_]=>decide (t.k=3/\t.s=s)&&!word s|_=>false
theorem ZlW {s:Bs} {ts:List Tok} (hl:¬ 400<s.length) (h:lexAll s = .ok ts):isName s=nameOf ts s:=by unfold isName nameOf;rw [h,Yam (by omega),Bool.true_and];rcases ts with _|⟨t,_|⟨u,_|⟨v,r⟩⟩⟩<;>rfl
theorem ZlX {s:Bs} {p:Nat} (h:lexAll s = .error p):isName s=false:=by unfold isName;rw [h];simp
theorem ZlY (s:Bs) (w:World) (hm:s.length<=9223372036854775807):Calls Tryz.prog 72 #[.string ⟨s.toArray⟩] w fun e w'=>e = .returned (.bool (isName s))/\Below w.heap.size w w':=by
 by_cases hl:400<s.length
 . have HX:=Zq (ZlN s w hl hm);have HE:Hid (isName s=false):=Zq (by unfold isName; rw [Yaj (by omega)]; rfl);clear hl;go_in;go_wp2_with fail;refine HX.out.mono ?_;rintro e W ⟨rfl,rfl⟩;go_wp2;go_ret;exact ⟨by rw [HE.out]; rfl,Yab _ _⟩
 . have hx:=ZlO s w (by omega);unfold refLexPost at hx;cases hlx:lexAll s with
   | error p =>rw [hlx] at hx;have HX:=Zq hx;have HE:Hid (isName s=false):=Zq (ZlX hlx);clear hx hlx;go_in;go_wp2_with fail;refine HX.out.mono ?_;rintro e W ⟨hb,rfl⟩;go_wp2;go_ret;exact ⟨by rw [HE.out]; rfl,hb⟩
   | ok ts =>
    rw [hlx] at hx;have HX:=Zq hx;have HI:=Zq (ZlW hl hlx);clear hx hlx;go_in;go_wp2_with fail;refine HX.out.mono ?_;rintro e W ⟨hb,v,rfl,hv⟩;obtain ⟨a,cap,rfl⟩:=hv.form;by_cases h2:ts.length=2
    . match ts,h2 with
      | [t,t2],_ =>
       have hv':TokV (gh W) (.slice a 2 cap) [t,t2]:=hv
       obtain ⟨b,off,rfl,c0,c1,-,-⟩:=hv'.at (j:=0) (x:=t) rfl
       simp only [Nat.zero_mul,Nat.add_zero] at c0 c1
       unfold strV at c1
       have HI2:Hid (isName s=(decide (t.k=3/\t.s=s)&&!word s)):=HI
       simp only [List.length_cons,List.length_nil,Nat.zero_add]
       clear hv hv' HI HX
       by_cases hk:t.k=3
       . have q1:(t.k == 3)=true:=by simp [hk]
         by_cases hs:t.s=s
         . have q2:(t.s == s)=true:=by simp [hs]
           have HE:Hid (isName s=!word s):=Zq (by rw [HI2.out,Yam ⟨hk,hs⟩,Bool.true_and])
           have HRS:=Zq (ZlV s W)
           clear hk hs HI2
           go_wp2_with fail
           refine HRS.out.mono ?_
           rintro e W2 ⟨rfl,hb2⟩
           have hb3:=hb.seq hb2
           generalize word s=wd' at *
           go_wp2
           go_ret
           exact ⟨by rw [HE.out]; rfl,hb3⟩
         . have q2:(t.s == s)=false:=ZcO hs
           have HE:Hid (isName s=false):=Zq (by rw [HI2.out,Yaj (fun h=>hs h.2),Bool.false_and])
           clear hk hs HI2
           go_wp2
           go_ret
           exact ⟨by rw [HE.out]; rfl,hb⟩
       . have q1:(t.k == 3)=false:=Zr hk
         have HE:Hid (isName s=false):=Zq (by rw [HI2.out,Yaj (fun h=>hk h.1),Bool.false_and])
         clear hk HI2
         go_wp2
         go_ret
         exact ⟨by rw [HE.out]; rfl,hb⟩
    . have q0:((ts.length:Int) == 2)=false:=Zr (by omega);have HE:Hid (isName s=false):=Zq (by
       rw [HI.out]
       match ts,h2 with
       | [],_=>rfl
       | [_],_=>rfl
       | [_,_],h=>exact absurd rfl h
       | _::_::_::_,_=>rfl)
      clear hv h2 HI HX;go_wp2;go_ret;exact ⟨by rw [HE.out]; rfl,hb⟩
theorem ZlZ (op:Int) (w:World) (h:op=5\/op=6\/op=19\/op=22\/op=23\/op=20\/op=21\/op=18\/op=1\/op=2\/op=3\/op=4) :
 Calls Tryz.prog 196 #[.int .i64 op] w fun e w'=>e = .returned (.int .i64 (arity op))/\w'=w:=by rcases h with rfl|rfl|rfl|rfl|rfl|rfl|rfl|rfl|rfl|rfl|rfl|rfl;all_goals go_in;go_wp2;go_ret;exact ⟨rfl,rfl⟩
theorem Zl0 (op:Int) (w:World) (h:¬ (op=5\/op=6\/op=19\/op=22\/op=23\/op=20\/op=21\/op=18\/op=1\/op=2\/op=3\/op=4)) :
 Calls Tryz.prog 196 #[.int .i64 op] w fun e w'=>e = .returned (.int .i64 (arity op))/\w'=w:=by
 have e5:(op == 5)=false:=Zr (by omega);have e6:(op == 6)=false:=Zr (by omega);have e19:(op == 19)=false:=Zr (by omega);have e22:(op == 22)=false:=Zr (by omega);have e23:(op == 23)=false:=Zr (by omega);have e20:(op == 20)=false:=Zr (by omega);have e21:(op == 21)=false:=Zr (by omega);have e18:(op == 18)=false:=Zr (by omega);by_cases h7:7<=op/\op<=17
 . have HE:Hid (arity op=2):=Zq (by unfold arity; rw [if_neg (by omega),if_neg (by omega),if_pos (by omega)]);obtain ⟨h7,h17⟩:=h7;have g1:1<=op:=(by omega);have g4:¬ op<=4:=(by omega);clear h;go_in;go_wp2;go_ret;exact ⟨by rw [HE.out]; rfl,rfl⟩
 . have HE:Hid (arity op = -1):=Zq (by unfold arity; rw [if_neg (by omega),if_neg (by omega),if_neg (by omega),if_neg (by omega)]);rcases (by omega:op<1\/23<op) with h1|h1
   . clear h h7;go_in;go_wp2;go_ret;exact ⟨by rw [HE.out]; rfl,rfl⟩
   . have g4:¬ op<=4:=(by omega);have g7:7<=op:=(by omega);have g17:¬ op<=17:=(by omega);clear h h7;go_in;go_wp2;go_ret;exact ⟨by rw [HE.out]; rfl,rfl⟩
theorem Zl1 (op:Int) (w:World):Calls Tryz.prog 196 #[.int .i64 op] w fun e w'=>e = .returned (.int .i64 (arity op))/\w'=w:=by
 by_cases h:op=5\/op=6\/op=19\/op=22\/op=23\/op=20\/op=21\/op=18\/op=1\/op=2\/op=3\/op=4
 . exact ZlZ op w h
 . exact Zl0 op w h
def plainM (op n:Int) (s:Bs):Bool :=
 if op=1 then decide (0<=n)&&List.isEmpty s
 else if op=2 then decide (n=0)&&textOk s
 else if op=3 then (n == 0 || n == 1)&&List.isEmpty s
 else if op=4 then decide (n=0)&&isName s
 else decide (n=0)&&List.isEmpty s
theorem Zl2 (op n:Int) (s:Bs) (ks:List Ex):alone op n s ks=(decide ((ks.length:Int)=arity op)&&(plainM op n s&&decide (op=22->kidOp ks=4))):=by
 have d3:decide (n=0\/n=1)=(n == 0 || n == 1):=by rw [Bool.eq_iff_iff]; simp
 unfold alone plainM;congr 1;split
 . rw [Bool.decide_and,Zc9,Yam (show op=22->kidOp ks=4 by omega),Bool.and_true]
 split
 . rw [Yam (show op=22->kidOp ks=4 by omega),Bool.and_true]
 split
 . rw [Bool.decide_and,Zc9,d3,Yam (show op=22->kidOp ks=4 by omega),Bool.and_true]
 split
 . rw [Yam (show op=22->kidOp ks=4 by omega),Bool.and_true]
 . rw [Bool.decide_and,Bool.decide_and,Zc9,Bool.and_assoc]
theorem Zl3 (op n:Int) (s:Bs) (a:Option Addr) (len cap:Nat) (w:World) (hm:s.length<=9223372036854775806) :
 Calls Tryz.prog 197 #[.agg #[.int .i64 op,.int .i64 n,.string ⟨s.toArray⟩,.slice a len cap]] w fun e w'=>e = .returned (.bool (plainM op n s))/\Below w.heap.size w w':=by
 have HB:=Zq ((Yab w.heap.size w).alloc Zs (cEx op n s (.slice a len cap)));by_cases h1:op=1
 . subst h1;cases hd:decide (0<=n)<;>cases he:List.isEmpty s;all_goals have hd':=hd;simp at hd';have HE:Hid (plainM 1 n s=(decide (0<=n)&&List.isEmpty s)):=Zq (by unfold plainM; rw [if_pos rfl]);rw [hd,he] at HE;clear hd;go_in;go_wp2;go_ret;exact ⟨by rw [HE.out]; rfl,HB.out⟩
 by_cases h2:op=2
 . subst h2;by_cases hn:n=0
   . have q:(n == 0)=true:=(by simp [hn]);have HE:Hid (plainM 2 n s=okV ⟨3,0,s⟩):=Zq (by unfold plainM; rw [if_neg (by decide),if_pos rfl,Yam hn]; simp [okV]);have hc:=fun w=>ZlU 3 0 s w (by omega);unfold strV at hc;have HC:=Zq hc;clear hn h1 hc;go_in;go_wp2_with fail;refine (HC.out _).mono ?_;rintro e W ⟨rfl,hb⟩;have hb2:=HB.out.seq hb;generalize okV ⟨3,0,s⟩=x at *;go_wp2;go_ret;exact ⟨by rw [HE.out]; rfl,hb2⟩
   . have q:(n == 0)=false:=Zr hn;have HE:Hid (plainM 2 n s=false):=Zq (by unfold plainM; rw [if_neg (by decide),if_pos rfl,Yaj hn]; rfl);clear hn h1;go_in;go_wp2;go_ret;exact ⟨by rw [HE.out]; rfl,HB.out⟩
 by_cases h3:op=3
 . subst h3;cases q0:(n == 0)<;>cases q1:(n == 1)<;>cases he:List.isEmpty s;all_goals have HE:Hid (plainM 3 n s=((n == 0 || n == 1)&&List.isEmpty s)):=Zq (by unfold plainM; rw [if_neg (by decide),if_neg (by decide),if_pos rfl]);rw [q0,q1,he] at HE;clear h1 h2;go_in;go_wp2;go_ret;exact ⟨by rw [HE.out]; rfl,HB.out⟩
 by_cases h4:op=4
 . subst h4;by_cases hn:n=0
   . have q:(n == 0)=true:=(by simp [hn]);have HE:Hid (plainM 4 n s=isName s):=Zq (by unfold plainM; rw [if_neg (by decide),if_neg (by decide),if_neg (by decide),if_pos rfl,Yam hn]; simp);have HC:=Zq (fun w=>ZlY s w (by omega));clear hn h1 h2 h3;go_in;go_wp2_with fail;refine (HC.out _).mono ?_;rintro e W ⟨rfl,hb⟩;have hb2:=HB.out.seq hb;generalize isName s=x at *;go_wp2;go_ret;exact ⟨by rw [HE.out]; rfl,hb2⟩
   . have q:(n == 0)=false:=Zr hn;have HE:Hid (plainM 4 n s=false):=Zq (by unfold plainM; rw [if_neg (by decide),if_neg (by decide),if_neg (by decide),if_pos rfl,Yaj hn]; rfl);clear hn h1 h2 h3;go_in;go_wp2;go_ret;exact ⟨by rw [HE.out]; rfl,HB.out⟩
 . have e1:(op == 1)=false:=Zr h1;have e2:(op == 2)=false:=Zr h2;have e3:(op == 3)=false:=Zr h3;have e4:(op == 4)=false:=Zr h4;have HE0:Hid (plainM op n s=(decide (n=0)&&List.isEmpty s)):=Zq (by unfold plainM; rw [if_neg h1,if_neg h2,if_neg h3,if_neg h4]);have hn2:decide (n=0)=(n == 0):=(by rw [Bool.eq_iff_iff]; simp);rw [hn2] at HE0;clear h1 h2 h3 h4 hn2;cases q0:(n == 0)<;>cases he:List.isEmpty s;all_goals have HE:=HE0;rw [q0,he] at HE;clear HE0;go_in;go_wp2;go_ret;exact ⟨by rw [HE.out]; rfl,HB.out⟩
structure Lay2 (w:World):Prop where
 lay:Lay (gh w)
 pow : Lib.TabIs Tryz.prog w "internal/strconv.uint64pow10" .u64 Lib.pow10Tab
theorem pow_name : Tryz.prog.globalNamed "internal/strconv.uint64pow10" = some 5 := by kernel_rfl
theorem Lay2.below {w w':World} (l:Lay2 w) (hb:Below w.heap.size w w'):Lay2 w':=⟨l.lay.below hb,Go.Joins.tab_stays pow_name l.pow hb Zs⟩
theorem StrsV.ofRow {t:Tag} {k:Nat} {w:World} {e:TypeId} {v:Value} {n:Nat} {l:List Bs} (h:Row t k w e 1 v n (l.map strV)):StrsV (gh w) v l/\n=l.length:=by
 have hn:n=l.length:=by have:=h.len; simp at this; omega
 subst hn;refine ⟨?_,rfl⟩;rcases h.own.2 with ⟨rfl,hn⟩|⟨g,cap,cur,rfl,hb,hg,hn,hc,hs,ht⟩
 . exact ⟨none,0,by rw [hn],fun _=>Yal hn,by omega,by simp [maxLen],fun j s hj=>by have:=(Yag.1 hj).1; omega⟩
 . refine ⟨_,cap,rfl,fun h=>(by cases h),hn,hc,fun j s hj=>?_⟩;obtain ⟨g',cap',hv,_,_,hcc,_⟩:=h.get (j:=j) (x:=strV s) (by rw [Yax,hj]; rfl);simp only [Yaq,Yai,Ybd,and_true,true_and] at hv;obtain ⟨rfl,_⟩:=hv;exact ⟨g,0,rfl,by rw [Zad,Nat.zero_add]; exact hcc⟩
theorem wf_i64 {x:Int} (h:(Lit.int .i64 x).wf=true) : -9223372036854775808<=x/\x<=9223372036854775807:=by simpa [Lit.wf,IntKind.min,IntKind.max,IntKind.signed,IntKind.bits] using h
theorem Tryz.own:ownKnob Tryz.prog.godebug=none:=by kernel_rfl
theorem Zl4:Go.Proofs.U8Extra Tryz.prog Tryz.laysValid_ren:=⟨by kernel_rfl,by kernel_rfl,by kernel_rfl,by kernel_rfl,by kernel_rfl,by kernel_rfl,by kernel_rfl⟩
theorem errRange_name : Tryz.prog.globalNamed "strconv.ErrRange" = some 3 := by kernel_rfl
theorem errRange_type:(Tryz.prog.globals[3]?).map (·.type)=some 164:=by kernel_rfl
theorem Zl5 {W : World} (h3 : Go.Lib.VarReads Tryz.prog W "unicode/utf8.first" Rows.laid_unicode_utf8_first) (h4 : Go.Lib.VarReads Tryz.prog W "unicode/utf8.acceptRanges" Rows.laid_unicode_utf8_acceptRanges)
 (h5 : Go.Lib.VarReads Tryz.prog W "strconv.ErrRange" Rows.laid_strconv_ErrRange) : Lay (gh W) := by
 have e3:Rows.laid_unicode_utf8_first=Go.Lib.firstData:=Go.Pinned.utf8First_eq
 have e4:(Rows.laid_unicode_utf8_acceptRanges:DataW Unit)=Go.Lib.acceptData:=by kernel_rfl
 rw [e3] at h3
 rw [e4] at h4
 have ht:=utf8Tabs_of_readsT (U8Types.of196 Tryz.laysValid) Zl4 h3 h4
 refine ⟨fun c hc=>?_,fun i hi=>⟨?_,?_⟩,?_⟩
 . rw [Zad]; exact ht.1 c hc
 . rw [Zad]; exact (ht.2 i hi).1
 . rw [Zad]; exact (ht.2 i hi).2
 . obtain ⟨g,t,cs,fuel,p,hg,hty,hv,hd⟩:=h5
   obtain rfl:=Option.some.inj (errRange_name.symm.trans hg)
   obtain rfl:=Option.some.inj (errRange_type.symm.trans hty)
   obtain ⟨_,u,v,hcs,_⟩:=iface_of_trod Tryz.underlying164 hd
   have hc:=World.var?_cell hg hv 0
   refine ⟨u,v,?_⟩
   rw [Zad,hc,<-Array.getElem?_toList,hcs]; rfl
end Go.Proofs.YtikannmgllejfaaGreatDoor
namespace Pal
open Go Go.RowKit Go.ChangeShapes Go.WideShapes Go.ChangeAt Go.Deep
end Pal
namespace Go.Proofs.YtikannmgllejfaaGreatDoor
open Go.RowKit Pal
theorem pow_type:(Tryz.prog.globals[5]?).map (·.type)=some 294:=by kernel_rfl
theorem Zl6 {W : World} (h2 : Go.Lib.VarReads Tryz.prog W "internal/strconv.uint64pow10" Rows.laid_internal_strconv_uint64pow10) (h3 : Go.Lib.VarReads Tryz.prog W "unicode/utf8.first" Rows.laid_unicode_utf8_first) (h4 : Go.Lib.VarReads Tryz.prog W "unicode/utf8.acceptRanges" Rows.laid_unicode_utf8_acceptRanges)
 (h5 : Go.Lib.VarReads Tryz.prog W "strconv.ErrRange" Rows.laid_strconv_ErrRange) : Lay2 W := by
 refine ⟨Zl5 h3 h4 h5,?_⟩
 have e2:(Rows.laid_internal_strconv_uint64pow10:DataW Unit)=Go.Lib.tabData .u64 Go.Lib.pow10Tab:=by kernel_rfl
 rw [e2] at h2
 obtain ⟨g,t,cs,fuel,p,hg,hty,hv,hd⟩:=h2
 obtain rfl:=Option.some.inj (pow_name.symm.trans hg)
 obtain rfl:=Option.some.inj (pow_type.symm.trans hty)
 unfold Go.Lib.TabIs
 rw [hv,<-Go.Lib.cells_of_tab Tryz.underlying294 Tryz.underlying192 (by kernel_rfl) (by kernel_rfl) hd]
end Go.Proofs.YtikannmgllejfaaGreatDoor
