/- The walks of lex. -/
import Derived.Test.YtikannmgllejfaaGreatDoorKVa
import Derived.Test.YtikannmgllejfaaGreatDoorKPl
set_option maxHeartbeats 4000000
set_option maxRecDepth 1000000
set_option linter.all false
namespace Go.Proofs.YtikannmgllejfaaGreatDoor
open Go.RowKit Pal
theorem ZcO {s t:Bs} (h:¬ s=t):(s == t)=false:=Zr h
theorem ZcP (s:Bs) (w:World) (h:s∈[wTrue,wFalse,wIf,wLen,wCat,wCut,wHas,wUp]) :
 Calls Tryz.prog 66 #[strV s] w fun e w'=>e = .returned (.bool true)/\w=w':=by simp only [Ybc,List.mem_nil_iff,or_false] at h;rcases h with rfl|rfl|rfl|rfl|rfl|rfl|rfl|rfl;all_goals simp only [strV,wTrue,wFalse,wIf,wLen,wCat,wCut,wHas,wUp];go_in;go_wp2;go_ret;exact ⟨rfl,rfl⟩
theorem ZcQ (s:Bs) (w:World) (h1:¬ s=wTrue) (h2:¬ s=wFalse) (h3:¬ s=wIf) (h4:¬ s=wLen) (h5:¬ s=wCat) (h6:¬ s=wCut) (h7:¬ s=wHas) (h8:¬ s=wUp) :
 Calls Tryz.prog 66 #[strV s] w fun e w'=>e = .returned (.bool false)/\w=w':=by replace h1:=ZcO h1;replace h2:=ZcO h2;replace h3:=ZcO h3;replace h4:=ZcO h4;replace h5:=ZcO h5;replace h6:=ZcO h6;replace h7:=ZcO h7;replace h8:=ZcO h8;simp only [wTrue,wFalse,wIf,wLen,wCat,wCut,wHas,wUp] at *;unfold strV;go_in;go_wp2;go_ret;exact ⟨rfl,rfl⟩
theorem ZcR (s:Bs) (w:World) :
 Calls Tryz.prog 66 #[strV s] w fun e w'=>e = .returned (.bool (word s))/\w=w':=by
 by_cases h:s∈[wTrue,wFalse,wIf,wLen,wCat,wCut,wHas,wUp]
 . have e:word s=true:=(by unfold word; simpa using h);rw [e]; exact ZcP s w h
 . have e:word s=false:=(by unfold word; simpa using h);rw [e];simp only [Ybc,List.mem_nil_iff,or_false,not_or] at h;obtain ⟨h1,h2,h3,h4,h5,h6,h7,h8⟩:=h;exact ZcQ s w h1 h2 h3 h4 h5 h6 h7 h8
abbrev bs (s:Bs):ByteArray:=⟨s.toArray⟩
theorem ZcS (s:Bs):(bs s).data.toList=s:=by simp
theorem ZcT (s:Bs):(bs s).size=s.length:=by simp [ByteArray.size]
theorem ZcU (s:Bs) (w:World) (hm:s.length<=9223372036854775807) (hL:Lay (gh w)) :
 Calls Tryz.prog 86 #[strV s] w fun e w'=>e = .returned (.bool (textOk s))/\Below w.heap.size w w':=by
 by_cases h1:s.length<=400
 . have hv:=Zcy (bs s) w (by rw [ZcT]; omega) hL;rw [ZcS] at hv;have HV:=Zq hv;clear hv;cases h2:val s with
   | false =>have HT:Hid (textOk s=false):=Zq (by unfold textOk; rw [h2]; simp);rw [h2] at HV;clear h2;unfold strV;go_in;go_wp2_with fail;refine HV.out.mono ?_;rintro e W1 ⟨rfl,hb1⟩;go_wp2;go_ret;exact ⟨by rw [HT.out]; rfl,hb1⟩
   | true =>rw [h2] at HV;have HT:Hid (textOk s=decide (cnt s<=100)):=Zq (by unfold textOk; rw [h2,Yam h1]; simp);clear h2;unfold strV;go_in;go_wp2_with fail;refine HV.out.mono ?_;rintro e W1 ⟨rfl,hb1⟩;go_wp2_with fail;refine (Zcx (bs s) _ (by rw [ZcT]; omega)).mono ?_;rintro e W2 ⟨rfl,hb2⟩;rw [ZcS];go_wp2;go_ret;refine ⟨?_,hb1.seq hb2⟩;rw [HT.out];simp;omega
 . have HT:Hid (textOk s=false):=Zq (by unfold textOk; rw [Yaj h1]; rfl);unfold strV;go_in;go_wp2;go_ret;exact ⟨by rw [HT.out]; rfl,Yab _ _⟩
theorem ZcV (op:Int) (w:World) (h:op=5\/op=6\/op=19\/op=22\/op=23\/op=20\/op=21\/op=18) :
 Calls Tryz.prog 199 #[.int .i64 op] w fun e w'=>e = .returned (.int .i64 (arity op))/\w'=w:=by rcases h with rfl|rfl|rfl|rfl|rfl|rfl|rfl|rfl;all_goals go_in;go_wp2;go_ret;exact ⟨rfl,rfl⟩
theorem ZcW (op:Int) (w:World) (h:¬ (op=5\/op=6\/op=19\/op=22\/op=23\/op=20\/op=21\/op=18)) :
 Calls Tryz.prog 199 #[.int .i64 op] w fun e w'=>e = .returned (.int .i64 (arity op))/\w'=w:=by
 have e5:(op == 5)=false:=Zr (by omega);have e6:(op == 6)=false:=Zr (by omega);have e19:(op == 19)=false:=Zr (by omega);have e22:(op == 22)=false:=Zr (by omega);have e23:(op == 23)=false:=Zr (by omega);have e20:(op == 20)=false:=Zr (by omega);have e21:(op == 21)=false:=Zr (by omega);have e18:(op == 18)=false:=Zr (by omega);by_cases a1:1<=op
 . by_cases a2:op<=4
   . have E:Hid (arity op=0):=Zq (by unfold arity; rw [if_pos ⟨a1,a2⟩]);clear h;go_in;go_wp2;go_ret;exact ⟨by rw [E.out]; rfl,rfl⟩
   . by_cases a4:op<=17
     . have a3:7<=op:=(by omega);have E:Hid (arity op=2):=Zq (by unfold arity; rw [if_neg (by omega),if_neg (by omega),if_pos (by omega)]);clear h;go_in;go_wp2;go_ret;exact ⟨by rw [E.out]; rfl,rfl⟩
     . have a3:7<=op:=(by omega);have E:Hid (arity op = -1):=Zq (by unfold arity; rw [if_neg (by omega),if_neg (by omega),if_neg (by omega),if_neg (by omega)]);clear h;go_in;go_wp2;go_ret;exact ⟨by rw [E.out]; rfl,rfl⟩
 . have a3:¬ 7<=op:=(by omega);have E:Hid (arity op = -1):=Zq (by unfold arity; rw [if_neg (by omega),if_neg (by omega),if_neg (by omega),if_neg (by omega)]);clear h;go_in;go_wp2;go_ret;exact ⟨by rw [E.out]; rfl,rfl⟩
theorem ZcX (op:Int) (w:World) :
 Calls Tryz.prog 199 #[.int .i64 op] w fun e w'=>e = .returned (.int .i64 (arity op))/\w'=w:=by
 by_cases h:op=5\/op=6\/op=19\/op=22\/op=23\/op=20\/op=21\/op=18
 . exact ZcV op w h
 . exact ZcW op w h
def valV (v:Val):Value := .agg #[.int .i64 v.k,.int .i64 v.n,strV v.s]
theorem ZcY (k n:Int) (s:Bs) (w:World) (h:¬ (k=0\/k=1\/k=2\/k=3\/k=4)) :
 Calls Tryz.prog 64 #[.agg #[.int .i64 k,.int .i64 n,strV s]] w fun e w'=>e = .returned (.bool false)/\Below w.heap.size w w':=by have e0:(k == 0)=false:=Zr (by omega);have e1:(k == 1)=false:=Zr (by omega);have e2:(k == 2)=false:=Zr (by omega);have e3:(k == 3)=false:=Zr (by omega);have e4:(k == 4)=false:=Zr (by omega);clear h;unfold strV;go_in;go_wp2;go_ret;exact ⟨rfl,(Yab _ _).alloc Zs _⟩
theorem ZcZ {s:Bs} (h:¬ s=[]):List.isEmpty s=false:=by cases s with|nil=>exact absurd rfl h|cons a b=>rfl
theorem Zc0 (k n:Int) (s:Bs) (w:World) (h:k=0\/k=1) :
 Calls Tryz.prog 64 #[.agg #[.int .i64 k,.int .i64 n,strV s]] w fun e w'=>e = .returned (.bool (okV ⟨k,n,s⟩))/\Below w.heap.size w w':=by
 have HB:Hid (Below w.heap.size w w):=Zq (Yab _ _);by_cases hs:s=[]
 . subst hs;rcases h with rfl|rfl
   . by_cases hn:n=0
     . have E:Hid (okV ⟨0,n,[]⟩=true):=Zq (by unfold okV; simp [hn]);have q:(n == 0)=true:=(by simp [hn]);clear hn;unfold strV;go_in;go_wp2;go_ret;exact ⟨by rw [E.out]; rfl,HB.out.alloc Zs _⟩
     . have E:Hid (okV ⟨0,n,[]⟩=false):=Zq (by unfold okV; simp [hn]);have q:(n == 0)=false:=Zr hn;clear hn;unfold strV;go_in;go_wp2;go_ret;exact ⟨by rw [E.out]; rfl,HB.out.alloc Zs _⟩
   . have E:Hid (okV ⟨1,n,[]⟩=true):=Zq (by unfold okV; simp);unfold strV;go_in;go_wp2;go_ret;exact ⟨by rw [E.out]; rfl,HB.out.alloc Zs _⟩
 . have E:Hid (okV ⟨k,n,s⟩=false):=Zq (by unfold okV; rcases h with rfl|rfl<;>simp [hs]);have q:=ZcZ hs;clear hs;unfold strV;rcases h with rfl|rfl
   . by_cases hn:n=0
     . have q2:(n == 0)=true:=(by simp [hn]);clear hn;go_in;go_wp2;go_ret;exact ⟨by rw [E.out]; rfl,HB.out.alloc Zs _⟩
     . have q2:(n == 0)=false:=Zr hn;clear hn;go_in;go_wp2;go_ret;exact ⟨by rw [E.out]; rfl,HB.out.alloc Zs _⟩
   . go_in;go_wp2;go_ret;exact ⟨by rw [E.out]; rfl,HB.out.alloc Zs _⟩
theorem Zc1 (n:Int) (s:Bs) (w:World) :
 Calls Tryz.prog 64 #[.agg #[.int .i64 2,.int .i64 n,strV s]] w fun e w'=>e = .returned (.bool (okV ⟨2,n,s⟩))/\Below w.heap.size w w':=by
 have HB:Hid (Below w.heap.size w w):=Zq (Yab _ _);have E:Hid (okV ⟨2,n,s⟩=(decide (n=0\/n=1)&&List.isEmpty s)):=Zq (by unfold okV; cases s<;>simp);by_cases h0:n=0
 . have E2:Hid (okV ⟨2,n,s⟩=List.isEmpty s):=Zq (by rw [E.out]; simp [h0]);have q:(n == 0)=true:=(by simp [h0]);clear h0 E;unfold strV;go_in;go_wp2;go_ret;exact ⟨by rw [E2.out]; rfl,HB.out.alloc Zs _⟩
 . have q:(n == 0)=false:=Zr h0;by_cases h1:n=1
   . have E2:Hid (okV ⟨2,n,s⟩=List.isEmpty s):=Zq (by rw [E.out]; simp [h1]);have q1:(n == 1)=true:=(by simp [h1]);clear h0 h1 E;unfold strV;go_in;go_wp2;go_ret;exact ⟨by rw [E2.out]; rfl,HB.out.alloc Zs _⟩
   . have E2:Hid (okV ⟨2,n,s⟩=false):=Zq (by rw [E.out]; simp [h0,h1]);have q1:(n == 1)=false:=Zr h1;clear h0 h1 E;unfold strV;go_in;go_wp2;go_ret;exact ⟨by rw [E2.out]; rfl,HB.out.alloc Zs _⟩
theorem Zc2 (n:Int) (s:Bs) (w:World) (hm:s.length<=9223372036854775807) (hL:Lay (gh w)) :
 Calls Tryz.prog 64 #[.agg #[.int .i64 3,.int .i64 n,strV s]] w fun e w'=>e = .returned (.bool (okV ⟨3,n,s⟩))/\Below w.heap.size w w':=by
 have HB:Hid (Below w.heap.size w w):=Zq (Yab _ _);have E:Hid (okV ⟨3,n,s⟩=(decide (n=0)&&textOk s)):=Zq (by unfold okV; simp);by_cases h0:n=0
 . have E2:Hid (okV ⟨3,n,s⟩=textOk s):=Zq (by rw [E.out]; simp [h0]);have q:(n == 0)=true:=(by simp [h0]);have hv:=fun w hL=>ZcU s w hm hL;have HV:=Zq hv;clear h0 E hv;have hb0:=HB.out.alloc Zs (.cells #[.int .i64 3,.int .i64 n,strV s] 48);have hL1:=hL.below hb0;unfold strV at *;go_in;go_wp2_with fail;refine (HV.out _ hL1).mono ?_;rintro e W1 ⟨rfl,hb1⟩;go_wp2;go_ret;exact ⟨by rw [E2.out]; rfl,hb0.seq hb1⟩
 . have q:(n == 0)=false:=Zr h0;have E2:Hid (okV ⟨3,n,s⟩=false):=Zq (by rw [E.out]; simp [h0]);clear h0 E;unfold strV;go_in;go_wp2;go_ret;exact ⟨by rw [E2.out]; rfl,HB.out.alloc Zs _⟩
theorem Zc3 (n:Int) (s:Bs) (w:World) :
 Calls Tryz.prog 64 #[.agg #[.int .i64 4,.int .i64 n,strV s]] w fun e w'=>e = .returned (.bool (okV ⟨4,n,s⟩))/\Below w.heap.size w w':=by
 have HB:Hid (Below w.heap.size w w):=Zq (Yab _ _);have E:Hid (okV ⟨4,n,s⟩=(decide (1<=n/\n<=4)&&List.isEmpty s)):=Zq (by unfold okV; cases s<;>simp);by_cases h0:1<=n
 . by_cases h1:n<=4
   . have E2:Hid (okV ⟨4,n,s⟩=List.isEmpty s):=Zq (by rw [E.out,Yam ⟨h0,h1⟩]; rfl);unfold strV;go_in;go_wp2;go_ret;exact ⟨by rw [E2.out]; rfl,HB.out.alloc Zs _⟩
   . have E2:Hid (okV ⟨4,n,s⟩=false):=Zq (by rw [E.out,Yaj (fun h=>h1 h.2)]; rfl);unfold strV;go_in;go_wp2;go_ret;exact ⟨by rw [E2.out]; rfl,HB.out.alloc Zs _⟩
 . have E2:Hid (okV ⟨4,n,s⟩=false):=Zq (by rw [E.out,Yaj (fun h=>h0 h.1)]; rfl);unfold strV;go_in;go_wp2;go_ret;exact ⟨by rw [E2.out]; rfl,HB.out.alloc Zs _⟩
theorem ZsF (k n:Int) (s:Bs) (w:World) (hm:s.length<=9223372036854775807) (hL:Lay (gh w)) :
 Calls Tryz.prog 64 #[.agg #[.int .i64 k,.int .i64 n,strV s]] w fun e w'=>e = .returned (.bool (okV ⟨k,n,s⟩))/\Below w.heap.size w w':=by
 by_cases h:k=0\/k=1\/k=2\/k=3\/k=4
 . rcases h with h|h|h|h|h
   . exact Zc0 k n s w (.inl h)
   . exact Zc0 k n s w (.inr h)
   . subst h; exact Zc1 n s w
   . subst h; exact Zc2 n s w hm hL
   . subst h; exact Zc3 n s w
 . have e:okV ⟨k,n,s⟩=false:=(by unfold okV;rw [if_neg (fun x=>h (by simp_all)),if_neg (fun x=>h (by simp_all)),if_neg (fun x=>h (by simp_all)),if_neg (fun x=>h (by simp_all)),if_neg (fun x=>h (by simp_all))]);rw [e];exact ZcY k n s w h
theorem Zc4 (k n:Int) (s:Bs) (w:World) (hm:s.length<=9223372036854775806) (hL:Lay (gh w)) :
 Calls Tryz.prog 64 #[.agg #[.int .i64 k,.int .i64 n,strV s]] w fun e w'=>e = .returned (.bool (okV ⟨k,n,s⟩))/\Below w.heap.size w w':=ZsF k n s w (by omega) hL
theorem TokV.form {h:GH} {v:Value} {ts:List Tok} (t:TokV h v ts):∃ a cap,v = .slice a ts.length cap:=by obtain ⟨a,cap,hv,_⟩:=t;exact ⟨a,cap,hv⟩
theorem TokV.at {w:World} {a:Option Addr} {n cap:Nat} {ts:List Tok} (t:TokV (gh w) (.slice a n cap) ts) {j:Nat} {x:Tok} (hx:ts[j]?=some x) :
 ∃ b off,a=some ⟨b,off,none⟩/\w.cell? ⟨b,off+j*4,none⟩=some (.int .i64 x.k)/\w.cell? ⟨b,off+j*4+1,none⟩=some (strV x.s)/\w.cell? ⟨b,off+j*4+2,none⟩=some (.int .i64 x.n)/\w.cell? ⟨b,off+j*4+3,none⟩=some (.int .i64 x.p):=by
 obtain ⟨a',cap',hv,hn,hc,hm,hcell⟩:=t;simp only [Yaq] at hv;obtain ⟨rfl,rfl,rfl⟩:=hv;have hj:=(Yag.1 hx).1;have hd:ts.getD j noTok=x:=by rw [Yau,hx]; rfl
 have get:∀ c y,(tokCells x)[c]?=some y->∃ b off,a=some ⟨b,off,none⟩/\(gh w).cell b (off+(4*j+c))=some y:=fun c y h=>hcell j c y hj (by show (tokCells (ts.getD j noTok))[c]?=_; rw [hd]; exact h);obtain ⟨b,off,ha,h0⟩:=get 0 _ rfl;obtain ⟨b1,off1,ha1,h1⟩:=get 1 _ rfl;obtain ⟨b2,off2,ha2,h2⟩:=get 2 _ rfl;obtain ⟨b3,off3,ha3,h3⟩:=get 3 _ rfl;rw [ha] at ha1 ha2 ha3;simp only [Yai,Ybd,and_true] at ha1 ha2 ha3;obtain ⟨rfl,rfl⟩:=ha1;obtain ⟨rfl,rfl⟩:=ha2;obtain ⟨rfl,rfl⟩:=ha3;rw [Zad] at h0 h1 h2 h3;rw [Nat.mul_comm 4 j,<-Nat.add_assoc] at h0 h1 h2 h3;exact ⟨b,off,ha,h0,h1,h2,h3⟩
theorem Zc5 (s:Bs) (w:World) (h:400<s.length) (hm:s.length<=9223372036854775806) :
 Calls Tryz.prog 48 #[strV s] w fun e w'=>e = .returned (.bool false)/\Below w.heap.size w w':=by unfold strV;go_in;go_wp2_with fail;refine (ZcM (bs s) _ (by rw [ZcT]; exact h) (by rw [ZcT]; omega)).mono ?_;rintro e W1 ⟨rfl,rfl⟩;go_wp2;go_ret;exact ⟨rfl,Yab _ _⟩
theorem Zc6 (s:Bs) (w:World) (hm:s.length<=9223372036854775806) (hL:Lay (gh w)) :
 Calls Tryz.prog 48 #[strV s] w fun e w'=>e = .returned (.bool (isName s))/\Below w.heap.size w w':=by
 by_cases h4:s.length<=400
 . have hx:=ZcN (bs s) w (by rw [ZcT]; exact h4) hL;unfold lexPost at hx;rw [ZcS] at hx;have HI:Hid (isName s=(match lexAll s with | .ok [t,_]=>decide (t.k=3/\t.s=s)&&!word s|_=>false)):=Zq (by unfold isName; rw [Yam h4]; rfl);cases hl:lexAll s with
   | error p =>rw [hl] at hx HI;simp only at hx HI;have HX:=Zq hx;clear hx hl;unfold strV;go_in;go_wp2_with fail;refine HX.out.mono ?_;rintro e W1 ⟨hb1,rfl⟩;go_wp2;go_ret;exact ⟨by rw [HI.out]; rfl,hb1⟩
   | ok ts =>
    rw [hl] at hx HI;simp only at hx HI;have HX:=Zq hx;clear hx hl;unfold strV;go_in;go_wp2_with fail;refine HX.out.mono ?_;rintro e W1 ⟨hb1,v,rfl,hT⟩;obtain ⟨a,cap,rfl⟩:=hT.form;by_cases h2:ts.length=2
    . match ts,h2 with
      | [t,u],_ =>
       simp only at HI
       obtain ⟨b,off,rfl,c0,c1,c2,c3⟩:=hT.at (j:=0) (x:=t) rfl
       simp only [Nat.zero_mul,Nat.add_zero] at c0 c1 c2 c3
       clear hT c2 c3
       unfold strV at c1
       simp only [List.length_cons,List.length_nil,Nat.zero_add,Nat.reduceAdd]
       by_cases k3:t.k=3
       . have K3:(t.k == 3)=true:=by simp [k3]
         by_cases es:t.s=s
         . have ES:(t.s == s)=true:=by simp [es]
           have HI2:Hid (isName s=!word s):=Zq (by rw [HI.out]; simp [k3,es])
           clear k3 es HI
           go_wp2_with fail
           refine (ZcR s _).mono ?_
           rintro e W2 ⟨rfl,rfl⟩
           go_wp2
           go_ret
           exact ⟨by rw [HI2.out]; rfl,hb1⟩
         . have ES:(t.s == s)=false:=ZcO es
           have HI2:Hid (isName s=false):=Zq (by rw [HI.out]; simp [es])
           clear k3 es HI
           go_wp2
           go_ret
           exact ⟨by rw [HI2.out]; rfl,hb1⟩
       . have K3:(t.k == 3)=false:=Zr k3
         have HI2:Hid (isName s=false):=Zq (by rw [HI.out]; simp [k3])
         clear k3 HI
         go_wp2
         go_ret
         exact ⟨by rw [HI2.out]; rfl,hb1⟩
    . have HI2:Hid (isName s=false):=Zq (by
       rw [HI.out]
       match ts,h2 with
       | [],_=>rfl
       | [a],_=>rfl
       | a::b::c::d,_=>rfl)
      have K2:((ts.length:Int) == 2)=false:=Zr (by omega);clear h2 HI hT;go_wp2;go_ret;exact ⟨by rw [HI2.out]; rfl,hb1⟩
 . have e:isName s=false:=(by unfold isName; rw [Yaj h4]; rfl);rw [e];exact Zc5 s w (by omega) hm
inductive KV (h:GH):Value->List Ex->Prop
 | mk (ks:List Ex) (a:Option Addr) (cap:Nat) (us:Nat->Value) (hn:a=none->ks=[]/\cap=0) (hc:ks.length<=cap) (hm:cap<=maxLen)
  (hx:∀ j k,ks[j]?=some k->∃ b off,a=some ⟨b,off,none⟩/\h.cell b (off+j*4)=some (.int .i64 k.op)/\h.cell b (off+j*4+1)=some (.int .i64 k.n)/\h.cell b (off+j*4+2)=some (strV k.s)/\h.cell b (off+j*4+3)=some (us j))
  (hk:∀ (j:Nat) (k:Ex),ks[j]?=some k->KV h (us j) k.ks):KV h (.slice a ks.length cap) ks
theorem KV.mono {h h':GH} (l:h.le h') {v:Value} {ks:List Ex} (k:KV h v ks):KV h' v ks:=by
 induction k with
 | mk ks a cap us hn hc hm hx hk ih =>exact .mk ks a cap us hn hc hm (fun j k hj=>by obtain ⟨b,off,ha,h0,h1,h2,h3⟩:=hx j k hj;exact ⟨b,off,ha,l.cell h0,l.cell h1,l.cell h2,l.cell h3⟩) ih
theorem KV.keep {w w':World} {v:Value} {ks:List Ex} (k:KV (gh w) v ks) (hb:Below w.heap.size w w'):KV (gh w') v ks:=k.mono (Zah hb)
theorem KV.form {h:GH} {v:Value} {ks:List Ex} (k:KV h v ks):∃ a cap,v = .slice a ks.length cap:=by cases k with|mk _ a cap us=>exact ⟨a,cap,rfl⟩
theorem KV.nil (h:GH):KV h (.slice none 0 0) [] := .mk [] none 0 (fun _ => .nilIface) (fun _=>⟨rfl,rfl⟩) (by simp) (by simp [maxLen]) (fun j k hj=>by simp at hj) (fun j k hj=>by simp at hj)
theorem KV.at {w:World} {a:Option Addr} {n cap:Nat} {ks:List Ex} (t:KV (gh w) (.slice a n cap) ks) {j:Nat} {k:Ex} (hj:ks[j]?=some k) :
 ∃ b off u,a=some ⟨b,off,none⟩/\w.cell? ⟨b,off+j*4,none⟩=some (.int .i64 k.op)/\w.cell? ⟨b,off+j*4+1,none⟩=some (.int .i64 k.n)/\w.cell? ⟨b,off+j*4+2,none⟩=some (strV k.s)/\w.cell? ⟨b,off+j*4+3,none⟩=some u/\KV (gh w) u k.ks:=by
 generalize hv:Value.slice a n cap=v at t;cases t with
 | mk _ a' cap' us hn hc hm hx hk =>simp only [Yaq] at hv;obtain ⟨rfl,rfl,rfl⟩:=hv;obtain ⟨b,off,ha,h0,h1,h2,h3⟩:=hx j k hj;rw [Zad] at h0 h1 h2 h3;exact ⟨b,off,us j,ha,h0,h1,h2,h3,hk j k hj⟩
def exV (op n:Int) (s:Bs) (kv:Value):Value := .agg #[.int .i64 op,.int .i64 n,strV s,kv]
def EV (h:GH) (v:Value) (e:Ex):Prop:=∃ kv,v=exV e.op e.n e.s kv/\KV h kv e.ks
theorem EV.mono {h h':GH} (l:h.le h') {v:Value} {e:Ex} (k:EV h v e):EV h' v e:=by obtain ⟨kv,hv,hk⟩:=k; exact ⟨kv,hv,hk.mono l⟩
theorem EV.keep {w w':World} {v:Value} {e:Ex} (k:EV (gh w) v e) (hb:Below w.heap.size w w'):EV (gh w') v e:=k.mono (Zah hb)
theorem Zc7 {W:World} {B:Nat} {x0 x1 x2 x3:Value} {T:TypeId} (h:W.heap[B]?=some (.cells #[x0,x1,x2,x3] T (0,0))) :
 W.cell? ⟨B,0,none⟩=some x0/\W.cell? ⟨B,1,none⟩=some x1/\W.cell? ⟨B,2,none⟩=some x2/\W.cell? ⟨B,3,none⟩=some x3:=by simp [World.cell?,h]
theorem KV.cap {h:GH} {a:Option Addr} {n cap:Nat} {ks:List Ex} (k:KV h (.slice a n cap) ks):n=ks.length/\n<=cap/\cap<=9223372036854775807/\(a=none->n=0):=by
 generalize hv:Value.slice a n cap=vv at k;cases k with
 | mk _ a' cap' us hn hc hm hx hk =>simp only [Yaq] at hv;obtain ⟨rfl,rfl,rfl⟩:=hv;unfold maxLen at hm;exact ⟨rfl,hc,by omega,fun h=>by rw [(hn h).1]; rfl⟩
theorem Zc8 (op n:Int) (s:Bs) (a:Option Addr) (len cap:Nat) (w:World) (h:¬ (len:Int)=arity op) :
 Calls Tryz.prog 147 #[exV op n s (.slice a len cap)] w fun e w'=>e = .returned (.bool false)/\Below w.heap.size w w':=by have q:((len:Int) != arity op)=true:=Yao.2 h;have HK:=Zq (fun w=>ZcX op w);clear h;unfold exV strV;go_in;go_wp2;go_quiet ((go_at_call 199; exact Calls.quiet_of_same (HK.out _)));go_wp2;go_ret;exact ⟨rfl,Ybb ((Yab _ _).alloc Zs _) _⟩
theorem Zc9 (s:Bs):decide (s=[])=List.isEmpty s:=by cases s<;>simp
theorem Zda {n:Int} {s:Bs} {ks:List Ex} (h:(ks.length:Int)=arity 1):alone 1 n s ks=(decide (0<=n)&&List.isEmpty s):=by unfold alone;rw [Yam h,if_pos rfl,<-Zc9,Bool.true_and,Bool.decide_and]
theorem Zdb {n:Int} {s:Bs} {ks:List Ex} (h:(ks.length:Int)=arity 2):alone 2 n s ks=(decide (n=0)&&textOk s):=by unfold alone;rw [Yam h,if_neg (by omega),if_pos rfl,Bool.true_and]
theorem Zdc {n:Int} {s:Bs} {ks:List Ex} (h:(ks.length:Int)=arity 3):alone 3 n s ks=(decide (n=0\/n=1)&&List.isEmpty s):=by unfold alone;rw [Yam h,if_neg (by omega),if_neg (by omega),if_pos rfl,<-Zc9,Bool.true_and,Bool.decide_and]
theorem Zdd {n:Int} {s:Bs} {ks:List Ex} (h:(ks.length:Int)=arity 4):alone 4 n s ks=(decide (n=0)&&isName s):=by unfold alone;rw [Yam h,if_neg (by omega),if_neg (by omega),if_neg (by omega),if_pos rfl,Bool.true_and]
theorem Zde {op n:Int} {s:Bs} {ks:List Ex} (h:(ks.length:Int)=arity op) (h1:op≠1) (h2:op≠2) (h3:op≠3) (h4:op≠4):alone op n s ks=(decide (n=0)&&(List.isEmpty s&&decide (op=22->kidOp ks=4))):=by unfold alone;rw [Yam h,if_neg h1,if_neg h2,if_neg h3,if_neg h4,<-Zc9,Bool.true_and,Bool.decide_and,Bool.decide_and]
theorem Zdf (n:Int) (s:Bs) (a:Option Addr) (cap:Nat) (ks:List Ex) (w:World) (h:(ks.length:Int)=arity 1) :
 Calls Tryz.prog 147 #[exV 1 n s (.slice a ks.length cap)] w fun e w'=>e = .returned (.bool (alone 1 n s ks))/\Below w.heap.size w w':=by
 have q:((ks.length:Int) != arity 1)=false:=by rw [bne_eq_false_iff_eq]; exact h
 have HK:=Zq (fun w=>ZcX 1 w);have E:=Zq (Zda (n:=n) (s:=s) h);clear h;unfold exV strV;obtain ⟨d,hd⟩:∃ d,decide (0<=n)=d:=⟨_,rfl⟩;rw [hd] at E;cases d;all_goals have h0:=hd;simp at h0;clear hd;go_in;go_wp2;go_quiet ((go_at_call 199; exact Calls.quiet_of_same (HK.out _)));go_wp2;go_ret;exact ⟨by rw [E.out]; simp,Ybb ((Yab _ _).alloc Zs _) _⟩
theorem Zdg (n:Int) (s:Bs) (a:Option Addr) (cap:Nat) (ks:List Ex) (w:World) (h:(ks.length:Int)=arity 2) (hm:s.length<=9223372036854775806) (hL:Lay (gh w)) :
 Calls Tryz.prog 147 #[exV 2 n s (.slice a ks.length cap)] w fun e w'=>e = .returned (.bool (alone 2 n s ks))/\Below w.heap.size w w':=by
 have q:((ks.length:Int) != arity 2)=false:=by rw [bne_eq_false_iff_eq]; exact h
 have HK:=Zq (fun w=>ZcX 2 w);have E:=Zq (Zdb (n:=n) (s:=s) h);clear h;by_cases h0:n=0
 . have q0:(n == 0)=true:=(by simp [h0]);have E2:Hid (alone 2 n s ks=textOk s):=Zq (by rw [E.out,Yam h0]; rfl);have hok:okV ⟨3,0,s⟩=textOk s:=(by unfold okV; simp);have HV:=Zq (fun w hL=>Zc4 3 0 s w hm hL);have HO:=Zq hok;clear h0 E hok;unfold exV strV;unfold strV at HV;go_in;go_wp2;go_quiet ((go_at_call 199; exact Calls.quiet_of_same (HK.out _)));have hb:=Ybb ((Yab w.heap.size w).alloc Zs (cEx 2 n s (.slice a ks.length cap))) nq;go_wp2_with fail;refine (HV.out _ (hL.below hb)).mono ?_;rintro e W1 ⟨rfl,hb1⟩;rw [HO.out];have hb2:=hb.trans (hb1.mono hb.size);go_wp2;go_ret;exact ⟨by rw [E2.out]; rfl,hb2⟩
 . have q0:(n == 0)=false:=Zr h0;have E2:Hid (alone 2 n s ks=false):=Zq (by rw [E.out,Yaj h0]; rfl);clear h0 E;unfold exV strV;go_in;go_wp2;go_quiet ((go_at_call 199; exact Calls.quiet_of_same (HK.out _)));go_wp2;go_ret;exact ⟨by rw [E2.out]; rfl,Ybb ((Yab _ _).alloc Zs _) _⟩
theorem Zdh (n:Int) (s:Bs) (a:Option Addr) (cap:Nat) (ks:List Ex) (w:World) (h:(ks.length:Int)=arity 3) :
 Calls Tryz.prog 147 #[exV 3 n s (.slice a ks.length cap)] w fun e w'=>e = .returned (.bool (alone 3 n s ks))/\Below w.heap.size w w':=by
 have q:((ks.length:Int) != arity 3)=false:=by rw [bne_eq_false_iff_eq]; exact h
 have HK:=Zq (fun w=>ZcX 3 w);have E:=Zq (Zdc (n:=n) (s:=s) h);clear h;have go:∀ (b0 b1:Bool),(n == 0)=b0->(n == 1)=b1->decide (n=0\/n=1)=(b0 || b1):=by intro b0 b1 h0 h1;rw [<-h0,<-h1,Bool.eq_iff_iff]; simp
 unfold exV strV;cases h0:(n == 0)<;>cases h1:(n == 1);all_goals have E2:=Zq (go _ _ h0 h1);clear go;go_in;go_wp2;go_quiet ((go_at_call 199; exact Calls.quiet_of_same (HK.out _)));go_wp2;go_ret;exact ⟨by rw [E.out,E2.out]; simp,Ybb ((Yab _ _).alloc Zs _) _⟩
theorem Zdi (n:Int) (s:Bs) (a:Option Addr) (cap:Nat) (ks:List Ex) (w:World) (h:(ks.length:Int)=arity 4) (hm:s.length<=9223372036854775806) (hL:Lay (gh w)) :
 Calls Tryz.prog 147 #[exV 4 n s (.slice a ks.length cap)] w fun e w'=>e = .returned (.bool (alone 4 n s ks))/\Below w.heap.size w w':=by
 have q:((ks.length:Int) != arity 4)=false:=by rw [bne_eq_false_iff_eq]; exact h
 have HK:=Zq (fun w=>ZcX 4 w);have E:=Zq (Zdd (n:=n) (s:=s) h);clear h;by_cases h0:n=0
 . have q0:(n == 0)=true:=(by simp [h0]);have E2:Hid (alone 4 n s ks=isName s):=Zq (by rw [E.out,Yam h0]; rfl);have HV:=Zq (fun w hL=>Zc6 s w hm hL);clear h0 E;unfold exV strV;unfold strV at HV;go_in;go_wp2;go_quiet ((go_at_call 199; exact Calls.quiet_of_same (HK.out _)));have hb:=Ybb ((Yab w.heap.size w).alloc Zs (cEx 4 n s (.slice a ks.length cap))) nq;go_wp2_with fail;refine (HV.out _ (hL.below hb)).mono ?_;rintro e W1 ⟨rfl,hb1⟩;have hb2:=hb.trans (hb1.mono hb.size);go_wp2;go_ret;exact ⟨by rw [E2.out]; rfl,hb2⟩
 . have q0:(n == 0)=false:=Zr h0;have E2:Hid (alone 4 n s ks=false):=Zq (by rw [E.out,Yaj h0]; rfl);clear h0 E;unfold exV strV;go_in;go_wp2;go_quiet ((go_at_call 199; exact Calls.quiet_of_same (HK.out _)));go_wp2;go_ret;exact ⟨by rw [E2.out]; rfl,Ybb ((Yab _ _).alloc Zs _) _⟩
theorem Zdj (op n : Int) (s : Bs) (v : Value) (ks : List Ex) (w : World) (h : (ks.length : Int) = arity op) (h1 : op ≠ 1) (h2 : op ≠ 2) (h3 : op ≠ 3) (h4 : op ≠ 4) (hK : KV (gh w) v ks) :
    Calls Tryz.prog 147 #[exV op n s v] w fun e w' => e = .returned (.bool (alone op n s ks)) /\ Below w.heap.size w w' := by
  obtain ⟨a, cap, rfl⟩ := hK.form
  have q : ((ks.length : Int) != arity op) = false := by rw [bne_eq_false_iff_eq]; exact h
  have HK := Zq (fun w => ZcX op w)
  have E := Zq (Zde (n := n) (s := s) h h1 h2 h3 h4)
  have e1 : (op == 1) = false := Zr h1
  have e2 : (op == 2) = false := Zr h2
  have e3 : (op == 3) = false := Zr h3
  have e4 : (op == 4) = false := Zr h4
  clear h1 h2 h3 h4
  by_cases h22 : op = 22
  . subst h22
    have hl : ks.length = 1 := by have : arity 22 = 1 := by decide
                                  omega
    match ks, hl with
    | [k], _ =>
      obtain ⟨b, off, u, rfl, c0, -, -, -, -⟩ := hK.at (j := 0) (k := k) rfl
      simp only [Nat.zero_mul, Nat.add_zero] at c0
      have hbl : b < w.heap.size := Yan w _ c0
      have c1 : ∀ o : Obj, (w.alloc o).cell? ⟨b, off, none⟩ = some (.int .i64 k.op) := fun o => by rw [World.cell?_alloc_past _ _ _ hbl]; exact c0
      have hcap : 1 <= cap := by
        generalize hv : Value.slice (some ⟨b, off, none⟩) ([k] : List Ex).length cap = vv at hK
        cases hK with
        | mk _ a' cap' us hn hc hm hx hk =>
          simp only [Yaq] at hv
          simp at hc; omega
      have E2 : Hid (alone 22 n s [k] = (decide (n = 0) && (List.isEmpty s && (k.op == 4)))) := Zq (by
        rw [E.out]
        have : decide (22 = (22 : Int) -> kidOp [k] = 4) = (k.op == 4) := by
          rw [Bool.eq_iff_iff]; simp [kidOp]
        rw [this])
      clear E hK h
      simp only [List.length_cons, List.length_nil, Nat.zero_add] at q |-
      unfold exV strV
      cases hn : (n == 0) <;> cases hs : List.isEmpty s
      all_goals
        have hn2 : Hid (decide (n = 0) = (n == 0)) := Zq (by rw [Bool.eq_iff_iff]; simp)
        have hn3 := Zq hn
        have hs3 := Zq hs
        go_in
        go_wp2
        go_quiet ((go_at_call 199; exact Calls.quiet_of_same (HK.out _)))
        go_wp2
        go_ret
        exact ⟨by rw [E2.out, hn2.out, hn3.out, hs3.out]; simp, Ybb ((Yab _ _).alloc Zs _) _⟩
  . have e22 : (op != 22) = true := Yao.2 h22
    have E2 : Hid (alone op n s ks = (decide (n = 0) && List.isEmpty s)) := Zq (by
      rw [E.out, Yam (fun h => absurd h h22), Bool.and_true])
    clear E hK h22 h
    unfold exV strV
    cases hn : (n == 0) <;> cases hs : List.isEmpty s
    all_goals
      have hn2 : Hid (decide (n = 0) = (n == 0)) := Zq (by rw [Bool.eq_iff_iff]; simp)
      have hn3 := Zq hn
      have hs3 := Zq hs
      go_in
      go_wp2
      go_quiet ((go_at_call 199; exact Calls.quiet_of_same (HK.out _)))
      go_wp2
      go_ret
      exact ⟨by rw [E2.out, hn2.out, hn3.out, hs3.out]; simp, Ybb ((Yab _ _).alloc Zs _) _⟩
theorem Zdk (op n:Int) (s:Bs) (v:Value) (ks:List Ex) (w:World) (hm:s.length<=9223372036854775806) (hL:Lay (gh w)) (hK:KV (gh w) v ks) :
 Calls Tryz.prog 147 #[exV op n s v] w fun e w'=>e = .returned (.bool (alone op n s ks))/\Below w.heap.size w w':=by
 by_cases h:(ks.length:Int)=arity op
 . by_cases h1:op=1
   . obtain ⟨a,cap,rfl⟩:=hK.form;subst h1; exact Zdf n s a cap ks w h
   by_cases h2:op=2
   . obtain ⟨a,cap,rfl⟩:=hK.form;subst h2; exact Zdg n s a cap ks w h hm hL
   by_cases h3:op=3
   . obtain ⟨a,cap,rfl⟩:=hK.form;subst h3; exact Zdh n s a cap ks w h
   by_cases h4:op=4
   . obtain ⟨a,cap,rfl⟩:=hK.form;subst h4; exact Zdi n s a cap ks w h hm hL
   exact Zdj op n s v ks w h h1 h2 h3 h4 hK
 . obtain ⟨a,cap,rfl⟩:=hK.form;have e:alone op n s ks=false:=(by unfold alone; rw [Yaj h]; rfl);rw [e];exact Zc8 op n s a ks.length cap w h
def holdsPost (r:Option Nat) (w:World) (e:Ending) (w':World):Prop :=
 (∃ m:Int,e = .returned (.tuple #[.int .i64 m,.bool r.isSome])/\∀ k,r=some k->m=k)/\Below w.heap.size w w'
theorem Fine.kids {op n:Int} {s:Bs} {ks:List Ex} (h:Fine (.mk op n s ks)):s.length<=140737488355328/\∀ k∈ks,Fine k:=by cases h with|mk _ _ _ _ ho hn hs hk=>exact ⟨hs,hk⟩
theorem Zdl (deep left:Nat):chkL [] deep left=some left:=by rw [chkL]
theorem Zdm (k:Ex) (ks:List Ex) (deep left:Nat):chkL (k::ks) deep left=(chk k deep left).bind fun m=>chkL ks deep m:=by rw [chkL]
theorem Zdn {op n:Int} {s:Bs} {ks:List Ex} {deep left:Nat} (h:left=0\/24<deep\/alone op n s ks=false):chk (.mk op n s ks) deep left=none:=by rw [chk,if_pos h]
theorem Zdo {op n:Int} {s:Bs} {ks:List Ex} {deep left:Nat} (h:¬ (left=0\/24<deep\/alone op n s ks=false)):chk (.mk op n s ks) deep left=chkL ks (deep+1) (left - 1):=by rw [chk,if_neg h]
theorem Zdp:∀ (e:Ex) (deep left m:Nat),chk e deep left=some m->m<=left:=by
 intro e;refine Ex.ind (P:=fun e=>∀ (deep left m:Nat),chk e deep left=some m->m<=left) ?_ e;intro op n s ks ih deep left m h;by_cases hc:left=0\/24<deep\/alone op n s ks=false
 . rw [Zdn hc] at h; cases h
 . rw [Zdo hc] at h;have go:∀ (l:List Ex),(∀ k∈l,k∈ks)->∀ (left m:Nat),chkL l (deep+1) left=some m->m<=left:=by
    intro l;induction l with
    | nil=>intro _ left m h; rw [Zdl] at h; cases h; exact Nat.le_refl _
    | cons a t iht =>
     intro hm left m h;rw [Zdm] at h;cases e:chk a (deep+1) left with
     | none=>rw [e] at h; cases h
     | some x =>rw [e] at h;have h1:=ih a (hm a (by simp)) _ _ _ e;have h2:=iht (fun k hk=>hm k (by simp [hk])) x m h;omega
   have:=go ks (fun _ h=>h) _ _ h;omega
theorem Zdq (op n:Int) (s:Bs) (v:Value) (ks:List Ex) (deep left:Nat) (w:World) (h:left=0\/24<deep) (hl:left<=128) (hd:deep<=1000) :
 Calls Tryz.prog 106 #[exV op n s v,.int .i64 left,.int .i64 deep] w (holdsPost (chk (.mk op n s ks) deep left) w):=by
 rw [Zdn (h.elim .inl (fun x => .inr (.inl x)))];unfold exV strV;by_cases h0:left=0
 . subst h0;go_in;go_wp2;go_ret2;exact ⟨⟨_,rfl,fun k hk=>by cases hk⟩,(Yab _ _).alloc Zs _⟩
 . have h1:24<deep:=(by omega);have h2:1<=left:=(by omega);clear h h0;go_in;go_wp2;go_ret2;exact ⟨⟨_,rfl,fun k hk=>by cases hk⟩,(Yab _ _).alloc Zs _⟩
theorem Zdr (op n:Int) (s:Bs) (v:Value) (ks:List Ex) (deep left:Nat) (w:World) (h:alone op n s ks=false) (hl:left<=128) (h1:1<=left) (hd:deep<=24) (hs:s.length<=9223372036854775806) (hL:Lay (gh w)) (hK:KV (gh w) v ks) :
 Calls Tryz.prog 106 #[exV op n s v,.int .i64 left,.int .i64 deep] w (holdsPost (chk (.mk op n s ks) deep left) w):=by rw [Zdn (.inr (.inr h))];have HA:=Zq (fun w hL hK=>Zdk op n s v ks w hs hL hK);rw [h] at HA;obtain ⟨a,cap,rfl⟩:=hK.form;have hb:=(Yab w.heap.size w).alloc Zs (cEx op n s (.slice a ks.length cap));clear h;unfold exV strV at *;go_in;go_wp2_with fail;refine (HA.out _ (hL.below hb) (hK.keep hb)).mono ?_;rintro e W1 ⟨rfl,hb1⟩;have hb2:=hb.seq hb1;go_wp2;go_ret2;exact ⟨⟨_,rfl,fun k hk=>by cases hk⟩,hb2⟩
theorem Zds (e:Ex):∀ (v:Value) (deep left:Nat) (w:World),Fine e->left<=128->deep<=25->Lay (gh w)->KV (gh w) v e.ks ->
 Calls Tryz.prog 106 #[exV e.op e.n e.s v,.int .i64 left,.int .i64 deep] w (holdsPost (chk e deep left) w):=by
 refine Ex.ind (P:=fun e=>∀ (v:Value) (deep left:Nat) (w:World),Fine e->left<=128->deep<=25->Lay (gh w)->KV (gh w) v e.ks ->
  Calls Tryz.prog 106 #[exV e.op e.n e.s v,.int .i64 left,.int .i64 deep] w (holdsPost (chk e deep left) w)) ?_ e
 intro op n s ks ih v deep left w hF hl hd hL hK;simp only [Ex.op,Ex.n,Ex.s,Ex.ks] at hK |-;by_cases hc:left=0\/24<deep
 . exact Zdq op n s v ks deep left w hc hl (by omega)
 have hs:=hF.kids.1;by_cases ha:alone op n s ks=false
 . exact Zdr op n s v ks deep left w ha hl (by omega) (by omega) (by omega) hL hK
 have HA:=Zq (fun w hL hK=>Zdk op n s v ks w (by omega) hL hK);rw [Bool.not_eq_false] at ha;rw [ha] at HA;have hnc:¬ (left=0\/24<deep\/alone op n s ks=false):=by
  rintro (h|h|h)
  . exact hc (.inl h)
  . exact hc (.inr h)
  . rw [ha] at h; cases h
 rw [Zdo hnc];have h1:1<=left:=by omega
 have h2:deep<=24:=by omega
 obtain ⟨a,cap,rfl⟩:=hK.form;have hb:=(Yab w.heap.size w).alloc Zs (cEx op n s (.slice a ks.length cap));have HF:=Zq hF.kids.2;have HI:=Zq ih;obtain ⟨R,hR⟩:∃ R,chkL ks (deep+1) (left - 1)=R:=⟨_,rfl⟩;rw [hR];have HR:=Zq hR;have hlen:ks.length<=9223372036854775807:=by have:=hK.cap; omega
 clear hc ha hF ih hR hs hnc;unfold exV strV at *;go_in;go_wp2_with fail;refine (HA.out _ (hL.below hb) (hK.keep hb)).mono ?_;rintro e W1 ⟨rfl,hb1⟩;have hb2:=hb.seq hb1;have hblk:W1.heap[w.heap.size]?=some (cEx op n s (.slice a ks.length cap)):=by rw [hb1.block _ (by simp)]; exact Yac w _
 obtain ⟨-,-,-,c3⟩:=Zc7 hblk;clear hb hb1 HA hblk;go_wp2;clear c3;go_loopg [1,8,28] ks.length (fun g l ok i wr=>∃ (k m:Nat),i = .int .i64 k/\l = .int .i64 m/\ok = .bool true/\m<=128/\Below w.heap.size w wr/\k+g=ks.length/\Hid (chkL (ks.drop k) (deep+1) m=R));case atStart=>exact ⟨0,left - 1,rfl,by congr 1; omega,rfl,by omega,hb2,by omega,Zq HR.out⟩
 case round =>
  obtain ⟨k,m,rfl,rfl,rfl,hm,hbw,hg,HC⟩:=hrel;have hKr:=hK.keep hbw;by_cases hlt:k<ks.length
  . obtain ⟨b,off,u,rfl,c0,c1,c2,c3,hKu⟩:=hKr.at (Yad hlt);obtain ⟨ua,uc,rfl⟩:=hKu.form;have hdr:ks.drop k=ks[k]::ks.drop (k+1):=Yas hlt;have hmem:ks[k]∈ks:=List.getElem_mem hlt;have hfk:=HF.out _ hmem;have HCC:=HC.out;rw [hdr,Zdm] at HCC;have HD:=Zq HCC;have hbA:=hbw.alloc hbw.size (.cells #[.int .i64 ks[k].op,.int .i64 ks[k].n,.string ⟨ks[k].s.toArray⟩,.slice ua ks[k].ks.length uc] 83);have hlx:=HI.out ks[k] hmem (.slice ua ks[k].ks.length uc) (deep+1) m (wr.alloc (.cells #[.int .i64 ks[k].op,.int .i64 ks[k].n,.string ⟨ks[k].s.toArray⟩,.slice ua ks[k].ks.length uc] 83)) hfk hm (by omega) (hL.below hbA) (hKu.keep ((Yab _ _).alloc Zs _));rw [show (((deep+1:Nat)):Int)=(deep:Int)+1 from by omega] at hlx;unfold holdsPost at hlx;have HX:=Zq hlx;have hcap:=hK.cap;(try unfold strV at c2);clear hlx hdr HCC hmem hfk hKu hKr HC;have hmr:=Zdp ks[k] (deep+1) m;have HMR:=Zq hmr;clear hmr;cases hch:chk ks[k] (deep+1) m with
    | none =>rw [hch] at HX HD;have HD2:Hid (R=none):=Zq (by rw [<-HD.out]; rfl);clear hch HD;go_wp2_with fail;refine HX.out.mono ?_;rintro e W2 ⟨⟨m2,rfl,-⟩,hb3⟩;have hb4:=hbA.seq hb3;go_wp2;go_ret2;refine ⟨⟨m2,?_,fun k hk=>by rw [HD2.out] at hk; cases hk⟩,hb4⟩;rw [HD2.out]; rfl
    | some x =>rw [hch] at HX HD;have hx2:=HMR.out x hch;have HD2:Hid (chkL (ks.drop (k+1)) (deep+1) x=R):=Zq (by rw [<-HD.out]; rfl);clear hch HD;go_wp2_with fail;refine HX.out.mono ?_;rintro e W2 ⟨⟨m2,rfl,hm2⟩,hb3⟩;have hm3:m2=x:=hm2 x rfl;subst hm3;have hb4:=hbA.seq hb3;clear hm2;go_wp2;go_roundg (gk - 1);(case rel=>exact ⟨k+1,x,by go_num,rfl,rfl,by omega,hb4,by omega,Zq HD2.out⟩);case measure=>omega
  . have hnil:ks.drop k=[]:=Yar (by omega);have HD:Hid (R=some m):=Zq (by rw [<-HC.out,hnil,Zdl]);clear hnil;go_wp2;go_ret2;refine ⟨⟨m,?_,fun k hk=>by rw [HD.out] at hk; cases hk; rfl⟩,hbw⟩;rw [HD.out]; rfl
theorem Zdt (e:Ex) (v:Value) (w:World) (hF:Fine e) (hL:Lay (gh w)) (hE:EV (gh w) v e) :
 Calls Tryz.prog 81 #[v] w fun r w'=>r = .returned (.bool (check e))/\Below w.heap.size w w':=by obtain ⟨kv,rfl,hK⟩:=hE;obtain ⟨a,cap,rfl⟩:=hK.form;have hb:=(Yab w.heap.size w).alloc Zs (cEx e.op e.n e.s (.slice a e.ks.length cap));have hh:=Zds e (.slice a e.ks.length cap) 1 128 _ hF (by omega) (by omega) (hL.below hb) (hK.keep hb);have HC:Hid (check e=(chk e 1 128).isSome):=Zq rfl;unfold exV strV holdsPost at hh;have HH:=Zq hh;clear hh;unfold exV strV;go_in;go_wp2_with fail;refine HH.out.mono ?_;rintro r W1 ⟨⟨m,rfl,-⟩,hb1⟩;go_wp2;go_ret;exact ⟨by rw [HC.out]; rfl,hb.seq hb1⟩
structure But (pb:Nat) (w w':World):Prop where
 os:w'.os=w.os
 tape:w'.tape=w.tape
 output:w'.output=w.output
 size:w.heap.size<=w'.heap.size
 block:∀ b,b<w.heap.size->b≠pb->w'.heap[b]?=w.heap[b]?
theorem But.refl (pb:Nat) (w:World):But pb w w:=⟨rfl,rfl,rfl,Nat.le_refl _,fun _ _ _=>rfl⟩
theorem But.trans {pb:Nat} {a b c:World} (h:But pb a b) (g:But pb b c):But pb a c :=
 ⟨g.os.trans h.os,g.tape.trans h.tape,g.output.trans h.output,Nat.le_trans h.size g.size,fun x hx hn=>(g.block x (Nat.lt_of_lt_of_le hx h.size) hn).trans (h.block x hx hn)⟩
theorem But.call {pb:Nat} {a b c:World} (h:But pb a b) (g:Below b.heap.size b c):But pb a c :=
 h.trans ⟨g.os,g.tape,g.output,g.size,fun x hx _=>g.block x hx⟩
theorem But.below {pb:Nat} {a b:World} (g:Below a.heap.size a b):But pb a b:=(But.refl pb a).call g
theorem But.alloc {pb:Nat} {a b:World} (h:But pb a b) (o:Obj):But pb a (b.alloc o):=h.call ((Yab _ _).alloc Zs _)
theorem But.drewN {pb:Nat} {a b:World} (h:But pb a b) (n:Nat):But pb a (b.drewN n):=⟨h.os,h.tape,h.output,h.size,h.block⟩
theorem But.drew {pb:Nat} {a b:World} (h:But pb a b):But pb a b.drew:=⟨h.os,h.tape,h.output,h.size,h.block⟩
theorem But.setPb {pb:Nat} {a b:World} (h:But pb a b) (i:Nat) (v:Value):But pb a (b.setCell ⟨pb,i,none⟩ v) :=
 h.trans ⟨rfl,rfl,rfl,by simp [World.setCell],fun x _ hn=>Yat _ _ _ _ (fun e=>hn e)⟩
theorem But.setNew {pb:Nat} {a b:World} (h:But pb a b) {p:Addr} (hp:a.heap.size<=p.block) (v:Value):But pb a (b.setCell p v) :=
 ⟨h.os,h.tape,h.output,Nat.le_trans h.size (by simp [World.setCell]),fun x hx hn=>(Yat _ _ _ _ (fun e=>by omega)).trans (h.block x hx hn)⟩
theorem But.toBelow {pb:Nat} {w w':World} (h:But pb w w') (hp:w.heap.size<=pb):Below w.heap.size w w':=⟨h.os,h.tape,h.output,h.size,fun b hb=>h.block b hb (by omega)⟩
def gb (pb:Nat) (w:World):GH:=fun b=>if b=pb then none else w.heap[b]?
theorem Zdu (pb:Nat) (w:World):(gb pb w).le (gh w):=fun b o h=>by
 unfold gb at h
 split at h
 . cases h
 . exact h
theorem But.gb {pb:Nat} {w w':World} (h:But pb w w'):(gb pb w).le (gb pb w'):=fun b o hh=>by
 unfold Proofs.YtikannmgllejfaaGreatDoor.gb at hh |-
 split at hh
 . cases hh
 . rename_i hn
   rw [if_neg hn,h.block b (Yaa.1 hh).1 hn]; exact hh
theorem Zdv {pb:Nat} {w:World} (hp:w.heap.size<=pb):(gh w).le (gb pb w):=fun b o h=>by
 unfold gb
 have:=(Yaa.1 h).1
 rw [if_neg (by omega)]; exact h
def PSt (w:World) (pb:Nat) (tv:Value) (p:Nat):Prop:=w.heap[pb]?=some (.cells #[tv,.int .i64 p] 175 (0,0))
theorem PSt.cells {w:World} {pb:Nat} {tv:Value} {p:Nat} (h:PSt w pb tv p):w.cell? ⟨pb,0,none⟩=some tv/\w.cell? ⟨pb,1,none⟩=some (.int .i64 p)/\w.frozen? ⟨pb,1,none⟩=false/\pb<w.heap.size:=by unfold PSt at h;exact ⟨by simp [World.cell?,h],by simp [World.cell?,h],by simp [World.frozen?,h],(Yaa.1 h).1⟩
theorem PSt.keep {w w':World} {pb:Nat} {tv:Value} {p:Nat} (h:PSt w pb tv p) (hb:Below w.heap.size w w'):PSt w' pb tv p:=by unfold PSt at *;rw [hb.block _ (Yaa.1 h).1]; exact h
theorem PSt.set {w:World} {pb:Nat} {tv:Value} {p:Nat} (h:PSt w pb tv p) (q:Int) (q':Nat) (e:q=q'):PSt (w.setCell ⟨pb,1,none⟩ (.int .i64 q)) pb tv q':=by subst e;unfold PSt at *;simp [World.setCell,Yap,h]
def StrsV (h:GH) (v:Value) (l:List Bs):Prop:=∃ a cap,v = .slice a l.length cap/\(a=none->l=[])/\l.length<=cap/\cap<=maxLen/\∀ j s,l[j]?=some s->∃ b off,a=some ⟨b,off,none⟩/\h.cell b (off+j)=some (strV s)
theorem StrsV.mono {h h':GH} (l:h.le h') {v:Value} {ss:List Bs} (s:StrsV h v ss):StrsV h' v ss:=by obtain ⟨a,cap,hv,hn,hc,hm,hx⟩:=s;exact ⟨a,cap,hv,hn,hc,hm,fun j s hj=>let ⟨b,off,ha,hcc⟩:=hx j s hj; ⟨b,off,ha,l.cell hcc⟩⟩
theorem StrsV.lay {w:World} {b:Nat} (l:List Bs) (T:TypeId) (h:w.heap[b]?=some (.cells (l.map strV).toArray T (0,0))) (hm:l.length<=maxLen):StrsV (gh w) (.slice (some ⟨b,0,none⟩) l.length l.length) l:=by refine ⟨_,_,rfl,fun h=>(by cases h),Nat.le_refl _,hm,fun j s hj=>⟨b,0,rfl,?_⟩⟩;rw [Zad];simp [World.cell?,h,hj]
theorem Zdw {w:World} {b i:Nat} {v:Value} (hb:b<w.heap.size) (h:w.cell? ⟨b,i,none⟩=some v) (o:Obj):(w.alloc o).cell? ⟨b,i,none⟩=some v:=by rw [World.cell?_alloc_past _ _ _ hb]; exact h
theorem StrsV.at {w:World} {a:Option Addr} {n cap:Nat} {ss:List Bs} (t:StrsV (gh w) (.slice a n cap) ss) {j:Nat} {s:Bs} (hj:ss[j]?=some s):∃ b off,a=some ⟨b,off,none⟩/\w.cell? ⟨b,off+j,none⟩=some (strV s):=by obtain ⟨a',cap',hv,hn,hc,hm,hx⟩:=t;simp only [Yaq] at hv;obtain ⟨rfl,rfl,rfl⟩:=hv;obtain ⟨b,off,ha,hcc⟩:=hx j s hj;rw [Zad] at hcc;exact ⟨b,off,ha,hcc⟩
theorem StrsV.form {h:GH} {v:Value} {ss:List Bs} (t:StrsV h v ss):∃ a cap,v = .slice a ss.length cap:=by obtain ⟨a,cap,hv,_⟩:=t; exact ⟨a,cap,hv⟩
end Go.Proofs.YtikannmgllejfaaGreatDoor
