/- The document's lexer in memory; the walks of its class, here. -/
import Derived.Test.YtikannmgllejfaaGreatDoorKLs
import Derived.Lib.DecodeN
import Derived.Test.YtikannmgllejfaaGreatDoorKVb
import Derived.RegionTactic
import Derived.ChangeAlike
import Derived.Deep.QuietTactic
import Derived.BigQuiet
set_option maxHeartbeats 4000000
set_option maxRecDepth 1000000
set_option linter.all false
namespace Go.Proofs.YtikannmgllejfaaGreatDoor
open Go.RowKit Pal
def r4 (s:ByteArray) (i:Nat):Int:=(((bt s i - 240)*64+(bt s (i+1) - 128))*64+(bt s (i+2) - 128))*64+(bt s (i+3) - 128)
theorem ZkH (s:ByteArray) (i:Nat) (hi:i<s.size) (hs:s.size<=4611686018427387904) (h1:240<=(s[i]'hi).toNat) (h2:(s[i]'hi).toNat<=244) (g1:¬ goesOn s (i+1))  (w:World) :
 Calls Tryz.prog 111 #[.string s,.int .i64 i] w fun e w'=>e = .returned (pieceV i 1 65533 true)/\Below w.heap.size w w':=by have d1:decide (goesOn s (i+1))=false:=Yaj g1;go_in;go_wp2;refine wp_loop_rounds 5 ?_;rw [Yba];go_wp2_with fail;refine (Zkw s (i+1) _).mono ?_;rintro e w1 ⟨rfl,rfl⟩;rw [if_neg g1,d1];go_wp2;refine Yaf (v:=pieceV i 1 65533 true) ?_ rfl ⟨rfl,(Yab _ _).alloc Zs _⟩;simp [results,Tryz.results111,go_sem,pieceV]
theorem ZkI (s:ByteArray) (i:Nat) (hi:i<s.size) (hs:s.size<=4611686018427387904) (h1:240<=(s[i]'hi).toNat) (h2:(s[i]'hi).toNat<=244) (g1:goesOn s (i+1)) (g2:¬ goesOn s (i+2))  (w:World) :
 Calls Tryz.prog 111 #[.string s,.int .i64 i] w fun e w'=>e = .returned (pieceV i 1 65533 true)/\Below w.heap.size w w':=by have d1:decide (goesOn s (i+1))=true:=Yam g1;have b1:=Zkr s (i+1);have d2:decide (goesOn s (i+2))=false:=Yaj g2;go_in;go_wp2;refine wp_loop_rounds 5 ?_;rw [Yba];go_wp2_with fail;refine (Zkw s (i+1) _).mono ?_;rintro e w1 ⟨rfl,rfl⟩;rw [if_pos g1,d1];go_wp2;rw [Yba];go_wp2_with fail;refine (Zkw s (i+2) _).mono ?_;rintro e w1 ⟨rfl,rfl⟩;rw [if_neg g2,d2];go_wp2;refine Yaf (v:=pieceV i 1 65533 true) ?_ rfl ⟨rfl,(Yab _ _).alloc Zs _⟩;simp [results,Tryz.results111,go_sem,pieceV]
theorem ZkJ (s:ByteArray) (i:Nat) (hi:i<s.size) (hs:s.size<=4611686018427387904) (h1:240<=(s[i]'hi).toNat) (h2:(s[i]'hi).toNat<=244) (g1:goesOn s (i+1)) (g2:goesOn s (i+2)) (g3:¬ goesOn s (i+3))  (w:World) :
 Calls Tryz.prog 111 #[.string s,.int .i64 i] w fun e w'=>e = .returned (pieceV i 1 65533 true)/\Below w.heap.size w w':=by have d1:decide (goesOn s (i+1))=true:=Yam g1;have b1:=Zkr s (i+1);have d2:decide (goesOn s (i+2))=true:=Yam g2;have b2:=Zkr s (i+2);have d3:decide (goesOn s (i+3))=false:=Yaj g3;go_in;go_wp2;refine wp_loop_rounds 5 ?_;rw [Yba];go_wp2_with fail;refine (Zkw s (i+1) _).mono ?_;rintro e w1 ⟨rfl,rfl⟩;rw [if_pos g1,d1];go_wp2;rw [Yba];go_wp2_with fail;refine (Zkw s (i+2) _).mono ?_;rintro e w1 ⟨rfl,rfl⟩;rw [if_pos g2,d2];go_wp2;rw [Yba];go_wp2_with fail;refine (Zkw s (i+3) _).mono ?_;rintro e w1 ⟨rfl,rfl⟩;rw [if_neg g3,d3];go_wp2;refine Yaf (v:=pieceV i 1 65533 true) ?_ rfl ⟨rfl,(Yab _ _).alloc Zs _⟩;simp [results,Tryz.results111,go_sem,pieceV]
theorem ZkK (s:ByteArray) (i:Nat) (hi:i<s.size) (hs:s.size<=4611686018427387904) (h1:240<=(s[i]'hi).toNat) (h2:(s[i]'hi).toNat<=244) (g1:goesOn s (i+1)) (g2:goesOn s (i+2)) (g3:goesOn s (i+3)) (hv1:65536<=r4 s i) (hv2:r4 s i<=1114111) (w:World) :
 Calls Tryz.prog 111 #[.string s,.int .i64 i] w fun e w'=>e = .returned (pieceV i 4 (r4 s i) false)/\Below w.heap.size w w':=by have d1:decide (goesOn s (i+1))=true:=Yam g1;have b1:=Zkr s (i+1);have d2:decide (goesOn s (i+2))=true:=Yam g2;have b2:=Zkr s (i+2);have d3:decide (goesOn s (i+3))=true:=Yam g3;have b3:=Zkr s (i+3);unfold r4 at hv1 hv2 |-;rw [Zkq hi] at hv1 hv2 |-;go_in;go_wp2;refine wp_loop_rounds 5 ?_;rw [Yba];go_wp2_with fail;refine (Zkw s (i+1) _).mono ?_;rintro e w1 ⟨rfl,rfl⟩;rw [if_pos g1,d1];go_wp2;rw [Yba];go_wp2_with fail;refine (Zkw s (i+2) _).mono ?_;rintro e w1 ⟨rfl,rfl⟩;rw [if_pos g2,d2];go_wp2;rw [Yba];go_wp2_with fail;refine (Zkw s (i+3) _).mono ?_;rintro e w1 ⟨rfl,rfl⟩;rw [if_pos g3,d3];go_wp2;rw [Yba];go_wp2;refine Yaf (v:=pieceV i 4 ((((((s[i]'hi).toNat - 240)*64+(bt s (i+1) - 128))*64+(bt s (i+2) - 128))*64+(bt s (i+3) - 128))) false) ?_ rfl ⟨rfl,(Yab _ _).alloc Zs _⟩;simp [results,Tryz.results111,go_sem,pieceV]
theorem ZkL (s:ByteArray) (i:Nat) (hi:i<s.size) (hs:s.size<=4611686018427387904) (h1:240<=(s[i]'hi).toNat) (h2:(s[i]'hi).toNat<=244) (g1:goesOn s (i+1)) (g2:goesOn s (i+2)) (g3:goesOn s (i+3)) (hv1:r4 s i<65536) (w:World) :
 Calls Tryz.prog 111 #[.string s,.int .i64 i] w fun e w'=>e = .returned (pieceV i 1 65533 true)/\Below w.heap.size w w':=by have d1:decide (goesOn s (i+1))=true:=Yam g1;have b1:=Zkr s (i+1);have d2:decide (goesOn s (i+2))=true:=Yam g2;have b2:=Zkr s (i+2);have d3:decide (goesOn s (i+3))=true:=Yam g3;have b3:=Zkr s (i+3);unfold r4 at hv1;rw [Zkq hi] at hv1;go_in;go_wp2;refine wp_loop_rounds 5 ?_;rw [Yba];go_wp2_with fail;refine (Zkw s (i+1) _).mono ?_;rintro e w1 ⟨rfl,rfl⟩;rw [if_pos g1,d1];go_wp2;rw [Yba];go_wp2_with fail;refine (Zkw s (i+2) _).mono ?_;rintro e w1 ⟨rfl,rfl⟩;rw [if_pos g2,d2];go_wp2;rw [Yba];go_wp2_with fail;refine (Zkw s (i+3) _).mono ?_;rintro e w1 ⟨rfl,rfl⟩;rw [if_pos g3,d3];go_wp2;rw [Yba];go_wp2;refine Yaf (v:=pieceV i 1 65533 true) ?_ rfl ⟨rfl,(Yab _ _).alloc Zs _⟩;simp [results,Tryz.results111,go_sem,pieceV]
theorem ZkM (s:ByteArray) (i:Nat) (hi:i<s.size) (hs:s.size<=4611686018427387904) (h1:240<=(s[i]'hi).toNat) (h2:(s[i]'hi).toNat<=244) (g1:goesOn s (i+1)) (g2:goesOn s (i+2)) (g3:goesOn s (i+3)) (hv1:1114111<r4 s i) (w:World) :
 Calls Tryz.prog 111 #[.string s,.int .i64 i] w fun e w'=>e = .returned (pieceV i 1 65533 true)/\Below w.heap.size w w':=by have d1:decide (goesOn s (i+1))=true:=Yam g1;have b1:=Zkr s (i+1);have d2:decide (goesOn s (i+2))=true:=Yam g2;have b2:=Zkr s (i+2);have d3:decide (goesOn s (i+3))=true:=Yam g3;have b3:=Zkr s (i+3);unfold r4 at hv1;rw [Zkq hi] at hv1;go_in;go_wp2;refine wp_loop_rounds 5 ?_;rw [Yba];go_wp2_with fail;refine (Zkw s (i+1) _).mono ?_;rintro e w1 ⟨rfl,rfl⟩;rw [if_pos g1,d1];go_wp2;rw [Yba];go_wp2_with fail;refine (Zkw s (i+2) _).mono ?_;rintro e w1 ⟨rfl,rfl⟩;rw [if_pos g2,d2];go_wp2;rw [Yba];go_wp2_with fail;refine (Zkw s (i+3) _).mono ?_;rintro e w1 ⟨rfl,rfl⟩;rw [if_pos g3,d3];go_wp2;rw [Yba];go_wp2;refine Yaf (v:=pieceV i 1 65533 true) ?_ rfl ⟨rfl,(Yab _ _).alloc Zs _⟩;simp [results,Tryz.results111,go_sem,pieceV]
theorem ZkN (s:ByteArray) (j:Nat):bt s j=((s.get! j).toNat:Int):=by
 by_cases h:j<s.size
 . rw [Zkq h];have:=get_at s j h;rw [Nat.add_zero] at this;rw [this]
 . have h1:bt s j=0:=(by simp [bt,h]);have h2:s.get! j=0:=(by have h':¬ j<s.data.size:=h;show s.data[j]! = 0;rw [getElem!_neg s.data j h']; rfl);rw [h1,h2]; rfl
def badP (s:ByteArray) (i:Nat):Bool:=decide (dRune s i=65533/\dLen s i=1)
theorem ZkO {s:ByteArray} {j:Nat} (h:goesOn s j):j<s.size:=by
 by_cases hh:j<s.size
 . exact hh
 . unfold goesOn bt at h; simp [hh] at h
theorem ZkP (s:ByteArray) (j:Nat):goesOn s j↔(s.get! j).toNat / 64=2:=by unfold goesOn;rw [ZkN];have:=(s.get! j).toNat_lt;omega
theorem ZkQ (s:ByteArray) (i:Nat):Utf8.decode s i=Lib.decodeN (s.size - i) (s.get! i).toNat (s.get! (i+1)).toNat (s.get! (i+2)).toNat (s.get! (i+3)).toNat:=Lib.decode_at s i
theorem ZkR {s:ByteArray} {i:Nat} (h:Utf8.decode s i=(65533,1)):dRune s i=65533/\dLen s i=1/\badP s i=true:=by
 have h1:dRune s i=65533:=by unfold dRune; rw [h]; rfl
 have h2:dLen s i=1:=by unfold dLen; rw [h]
 exact ⟨h1,h2,Yam ⟨h1,h2⟩⟩
theorem ZkS {s:ByteArray} {i:Nat} {r n:Nat} (h:Utf8.decode s i=(r,n)) (hn:n≠1\/r<128):dRune s i=r/\dLen s i=n/\badP s i=false:=by
 have h1:dRune s i=r:=by unfold dRune; rw [h]
 have h2:dLen s i=n:=by unfold dLen; rw [h]
 exact ⟨h1,h2,Yaj (fun hh=>by omega)⟩
section
variable (n b0 b1 b2 b3 : Nat) (h0 : b0 < 256) (h1 : b1 < 256) (h2 : b2 < 256) (h3 : b3 < 256)
include h0 h1 h2 h3
theorem ZkT (h:128<=b0) (h':b0<194):Lib.decodeN n b0 b1 b2 b3=(65533,1):=by
 unfold Lib.decodeN;rw [if_neg (by omega)];split
 . rw [if_neg (by omega)]
 . rw [if_neg (by omega),if_neg (by omega)]
theorem ZkU (h:244<b0):Lib.decodeN n b0 b1 b2 b3=(65533,1):=by
 unfold Lib.decodeN;rw [if_neg (by omega),if_neg (by omega),if_neg (by omega)];split
 . rw [if_neg (by omega)]
 . rfl
theorem ZkV (h:194<=b0) (h':b0<=223):Lib.decodeN n b0 b1 b2 b3=if 1<n/\b1 / 64=2 then ((b0 - 192)*64+(b1 - 128),2) else (65533,1):=by
 unfold Lib.decodeN;rw [if_neg (by omega)];by_cases hc:1<n/\b1 / 64=2
 . rw [if_pos ⟨by omega,hc⟩,if_pos (by omega),if_pos hc];have:b0 % 32*64+b1 % 64=(b0 - 192)*64+(b1 - 128):=(by omega);rw [this]
 . rw [if_neg (fun hh=>hc hh.2),if_neg (by omega),if_neg (by omega),if_neg hc]
theorem ZkW (h:224<=b0) (h':b0<=239):Lib.decodeN n b0 b1 b2 b3 =
 if (1<n/\b1 / 64=2)/\(2<n/\b2 / 64=2)/\2048<=((b0 - 224)*64+(b1 - 128))*64+(b2 - 128)/\(((b0 - 224)*64+(b1 - 128))*64+(b2 - 128)<55296\/57343<((b0 - 224)*64+(b1 - 128))*64+(b2 - 128)) then (((b0 - 224)*64+(b1 - 128))*64+(b2 - 128),3) else (65533,1):=by
 unfold Lib.decodeN;rw [if_neg (by omega),if_neg (by omega)];by_cases hc:(1<n/\b1 / 64=2)/\(2<n/\b2 / 64=2)
 . rw [if_pos ⟨by omega,hc⟩];have:b0 % 16*4096+b1 % 64*64+b2 % 64=((b0 - 224)*64+(b1 - 128))*64+(b2 - 128):=(by omega);rw [this];generalize ((b0 - 224)*64+(b1 - 128))*64+(b2 - 128)=v at *;by_cases hv:2048<=v/\(v<55296\/57343<v)
   . rw [if_pos (by omega),if_pos ⟨hc.1,hc.2,hv⟩]
   . rw [if_neg (by omega),if_neg (fun hh=>hv hh.2.2)]
 . rw [if_neg (fun hh=>hc hh.2),if_neg (by omega),if_neg (fun hh=>hc ⟨hh.1,hh.2.1⟩)]
theorem ZkX (h:240<=b0) (h':b0<=244):Lib.decodeN n b0 b1 b2 b3 =
 if (1<n/\b1 / 64=2)/\(2<n/\b2 / 64=2)/\(3<n/\b3 / 64=2)/\65536<=(((b0 - 240)*64+(b1 - 128))*64+(b2 - 128))*64+(b3 - 128)/\(((b0 - 240)*64+(b1 - 128))*64+(b2 - 128))*64+(b3 - 128)<=1114111 then ((((b0 - 240)*64+(b1 - 128))*64+(b2 - 128))*64+(b3 - 128),4) else (65533,1):=by
 unfold Lib.decodeN;rw [if_neg (by omega),if_neg (by omega),if_neg (by omega)];by_cases hc:(1<n/\b1 / 64=2)/\(2<n/\b2 / 64=2)/\(3<n/\b3 / 64=2)
 . rw [if_pos ⟨by omega,hc⟩];have:b0 % 8*262144+b1 % 64*4096+b2 % 64*64+b3 % 64=(((b0 - 240)*64+(b1 - 128))*64+(b2 - 128))*64+(b3 - 128):=(by omega);rw [this];generalize (((b0 - 240)*64+(b1 - 128))*64+(b2 - 128))*64+(b3 - 128)=v at *;by_cases hv:65536<=v/\v<=1114111
   . rw [if_pos (by omega),if_pos ⟨hc.1,hc.2.1,hc.2.2,hv⟩]
   . rw [if_neg (by omega),if_neg (fun hh=>hv hh.2.2.2)]
 . rw [if_neg (fun hh=>hc hh.2),if_neg (fun hh=>hc ⟨hh.1,hh.2.1,hh.2.2.1⟩)]
end
theorem u8b (s:ByteArray) (j:Nat):(s.get! j).toNat<256:=(s.get! j).toNat_lt
theorem ZkY {s:ByteArray} {i k:Nat}:goesOn s (i+k)↔(k<s.size - i/\(s.get! (i+k)).toNat / 64=2):=by rw [<-ZkP];exact ⟨fun h=>⟨by have:=ZkO h; omega,h⟩,fun h=>h.2⟩
def onePost (s:ByteArray) (i:Nat) (w:World) (e:Ending) (w':World):Prop:=e = .returned (pieceV i (dLen s i) (dRune s i) (badP s i))/\Below w.heap.size w w'
theorem ZkZ {s:ByteArray} {i:Nat} {w:World} (h:Utf8.decode s i=(65533,1)) {e:Ending} {w':World} (hp:e = .returned (pieceV i 1 65533 true)/\Below w.heap.size w w'):onePost s i w e w':=by obtain ⟨a,b,c⟩:=ZkR h;refine ⟨?_,hp.2⟩;rw [a,b,c]; exact hp.1
theorem Zk0 {s:ByteArray} {i r n:Nat} {w:World} (h:Utf8.decode s i=(r,n)) (hn:n≠1\/r<128) {x:Int} (hx:x=r) {e:Ending} {w':World} (hp:e = .returned (pieceV i n x false)/\Below w.heap.size w w'):onePost s i w e w':=by obtain ⟨a,b,c⟩:=ZkS h hn;refine ⟨?_,hp.2⟩;rw [a,b,c,<-hx]; exact hp.1
theorem Zk1 (s:ByteArray) (i:Nat) (hi:i<s.size) (hs:s.size<=4611686018427387904) (w:World) :
 Calls Tryz.prog 111 #[.string s,.int .i64 i] w (onePost s i w):=by
 have g0:(s.get! i).toNat=(s[i]'hi).toNat:=by have:=ZkN s i; rw [Zkq hi] at this; omega
 have d:=ZkQ s i;have c1:=@ZkY s i 1;have c2:=@ZkY s i 2;have c3:=@ZkY s i 3;have e0:=ZkN s i;have e1:=ZkN s (i+1);have e2:=ZkN s (i+2);have e3:=ZkN s (i+3);have l0:=u8b s i;have l1:=u8b s (i+1);have l2:=u8b s (i+2);have l3:=u8b s (i+3);by_cases a1:(s[i]'hi).toNat<128
 . refine (Zkx s i hi a1 w).mono fun e w' hp=>Zk0 (r:=(s[i]'hi).toNat) (n:=1) (decode_ascii s i hi a1) (.inr a1) (Zkq hi) hp
 rw [<-g0] at a1;by_cases a2:(s.get! i).toNat<194
 . rw [ZkT _ _ _ _ _ l0 l1 l2 l3 (by omega) a2] at d;exact (Zkz s i hi (by omega) (by omega) w).mono fun e w' hp=>ZkZ d hp
 by_cases a3:(s.get! i).toNat<=223
 . rw [ZkV _ _ _ _ _ l0 l1 l2 l3 (by omega) a3] at d;refine (Zky s i hi hs (by omega) (by omega) w).mono fun e w' hp=>?_;by_cases g:goesOn s (i+1)
   . rw [if_pos g] at hp;rw [if_pos (c1.1 g)] at d;have:=g; unfold goesOn at this;exact Zk0 d (.inl (by omega)) (by rw [<-g0,e1]; omega) hp
   . rw [if_neg g] at hp;rw [if_neg (fun h=>g (c1.2 h))] at d;exact ZkZ d hp
 by_cases a4:(s.get! i).toNat<=239
 . rw [ZkW _ _ _ _ _ l0 l1 l2 l3 (by omega) a4] at d;by_cases g1:goesOn s (i+1)
   . by_cases g2:goesOn s (i+2)
     . have t1:=g1; have t2:=g2;unfold goesOn at t1 t2;have er:r3 s i=(((((s.get! i).toNat - 224)*64+((s.get! (i+1)).toNat - 128))*64+((s.get! (i+2)).toNat - 128):Nat):Int):=(by unfold r3; omega);by_cases v1:r3 s i<2048
       . rw [if_neg (fun h=>by have:=h.2.2.1; omega)] at d;exact (ZkF s i hi hs (by omega) (by omega) g1 g2 v1 w).mono fun e w' hp=>ZkZ d hp
       by_cases v2:r3 s i<55296
       . rw [if_pos ⟨c1.1 g1,c2.1 g2,by omega,by omega⟩] at d;exact (ZkD s i hi hs (by omega) (by omega) g1 g2 (by omega) v2 w).mono fun e w' hp=>Zk0 d (.inl (by omega)) er hp
       by_cases v3:r3 s i<=57343
       . rw [if_neg (fun h=>by have:=h.2.2.2; omega)] at d;exact (ZkG s i hi hs (by omega) (by omega) g1 g2 (by omega) v3 w).mono fun e w' hp=>ZkZ d hp
       . rw [if_pos ⟨c1.1 g1,c2.1 g2,by omega,by omega⟩] at d;exact (ZkE s i hi hs (by omega) (by omega) g1 g2 (by omega) w).mono fun e w' hp=>Zk0 d (.inl (by omega)) er hp
     . rw [if_neg (fun h=>g2 (c2.2 h.2.1))] at d;exact (ZkC s i hi hs (by omega) (by omega) g1 g2 w).mono fun e w' hp=>ZkZ d hp
   . rw [if_neg (fun h=>g1 (c1.2 h.1))] at d;exact (ZkB s i hi hs (by omega) (by omega) g1 w).mono fun e w' hp=>ZkZ d hp
 by_cases a5:(s.get! i).toNat<=244
 . rw [ZkX _ _ _ _ _ l0 l1 l2 l3 (by omega) a5] at d;by_cases g1:goesOn s (i+1)
   . by_cases g2:goesOn s (i+2)
     . by_cases g3:goesOn s (i+3)
       . have t1:=g1; have t2:=g2; have t3:=g3;unfold goesOn at t1 t2 t3;have er:r4 s i=((((((s.get! i).toNat - 240)*64+((s.get! (i+1)).toNat - 128))*64+((s.get! (i+2)).toNat - 128))*64+((s.get! (i+3)).toNat - 128):Nat):Int):=(by unfold r4; omega);by_cases v1:r4 s i<65536
         . rw [if_neg (fun h=>by have:=h.2.2.2.1; omega)] at d;exact (ZkL s i hi hs (by omega) (by omega) g1 g2 g3 v1 w).mono fun e w' hp=>ZkZ d hp
         by_cases v2:r4 s i<=1114111
         . rw [if_pos ⟨c1.1 g1,c2.1 g2,c3.1 g3,by omega,by omega⟩] at d;exact (ZkK s i hi hs (by omega) (by omega) g1 g2 g3 (by omega) v2 w).mono fun e w' hp=>Zk0 d (.inl (by omega)) er hp
         . rw [if_neg (fun h=>by have:=h.2.2.2.2; omega)] at d;exact (ZkM s i hi hs (by omega) (by omega) g1 g2 g3 (by omega) w).mono fun e w' hp=>ZkZ d hp
       . rw [if_neg (fun h=>g3 (c3.2 h.2.2.1))] at d;exact (ZkJ s i hi hs (by omega) (by omega) g1 g2 g3 w).mono fun e w' hp=>ZkZ d hp
     . rw [if_neg (fun h=>g2 (c2.2 h.2.1))] at d;exact (ZkI s i hi hs (by omega) (by omega) g1 g2 w).mono fun e w' hp=>ZkZ d hp
   . rw [if_neg (fun h=>g1 (c1.2 h.1))] at d;exact (ZkH s i hi hs (by omega) (by omega) g1 w).mono fun e w' hp=>ZkZ d hp
 . rw [ZkU _ _ _ _ _ l0 l1 l2 l3 (by omega)] at d;exact (ZkA s i hi (by omega) w).mono fun e w' hp=>ZkZ d hp
def pcells (l:Bs) (p:Nat):List Value:=[.int .i64 p,.int .i64 (wd (l.drop p)),.int .i32 (rn (l.drop p)),.bool (badB (l.drop p))]
theorem Zk2 (l:Bs) (p:Nat):(pcells l p).length=4:=rfl
def PsV (h:GH) (v:Value) (l:Bs):Prop:=∃ ps:List Nat,SlV h v ps.length 4 (fun j=>pcells l (ps.getD j 0))/\ps.length=cnt l/\∀ k p,AtP l k p->p<l.length->ps[k]?=some p
theorem PsV.mono {h h':GH} {v:Value} {l:Bs} (s:PsV h v l) (k:h.le h'):PsV h' v l:=by obtain ⟨ps,hs,hn,hp⟩:=s;exact ⟨ps,hs.mono k,hn,hp⟩
theorem Zk3:(Tryz.prog.info? 136).map (fun i=>(i.zero,i.size,i.bytes))=some (some (.agg #[.int .i64 0,.int .i64 0,.int .i32 0,.bool false]),4,24):=by kernel_rfl
theorem Zk4 (s:ByteArray) (i:Nat):pieceV i (dLen s i) (dRune s i) (badP s i) = .agg #[.int .i64 i,.int .i64 (wd (s.data.toList.drop i)),.int .i32 (rn (s.data.toList.drop i)),.bool (badB (s.data.toList.drop i))]:=by unfold pieceV badP badB;rw [ZaM,ZaL]
def piecesPost (s:ByteArray) (w:World) (e:Ending) (w':World):Prop:=Below w.heap.size w w'/\∃ v,e = .returned v/\PsV (gh w') v s.data.toList
theorem Zk5 (s:ByteArray) (w:World) (hs:s.size<=1000000):Calls Tryz.prog 85 #[.string s] w (piecesPost s w):=by
 obtain ⟨i0,hi,hz0,hz1,hz2⟩:=info_parts Zk3;go_in;go_wp2;go_loopg [3,4] s.size (fun g l i wr=>∃ (tau:Tag) (k p:Nat) (ps:List Nat),i = .int .i64 p/\Row tau 1 wr 136 4 l ps.length (ps.flatMap (pcells s.data.toList))/\Evo T0 w tau wr (·≠0) /\
  AtP s.data.toList k p/\ps.length=k/\Hid (∀ j q,AtP s.data.toList j q->j<k->ps[j]?=some q)/\s.size<=p+g/\p<=s.size)
 case atStart=>exact ⟨T0,0,0,[],rfl,Row.nil _ _ _ _ _,Ybg _ _ _,.zero,rfl,Zq (fun j q _ h=>by omega),by omega,by omega⟩
 case round =>
  obtain ⟨tau,k,p,ps,rfl,hrow,hev,hat,rfl,HP,hg,hp⟩:=hrel;by_cases hlt:p<s.size
  . obtain ⟨g,rfl⟩:∃ g,gk=g+1:=⟨gk - 1,by omega⟩;obtain ⟨la,lc,rfl⟩:=hrow.form;have hone:=Zk1 s p hlt (by omega) wr;unfold onePost at hone;rw [Zk4] at hone;have hne:s.data.toList.drop p≠[]:=Zkf (by rw [Zcg]; exact hlt);have hst:=hat.step (by rw [Zcg]; exact hlt);have hwl:=ZaS hne;have hwp:=ZaQ (s.data.toList.drop p);rw [Yav,Zcg] at hwl;have hpc:pcells s.data.toList p=[.int .i64 p,.int .i64 (wd (s.data.toList.drop p)),.int .i32 (rn (s.data.toList.drop p)),.bool (badB (s.data.toList.drop p))]:=rfl;generalize wd (s.data.toList.drop p)=z at *;generalize rn (s.data.toList.drop p)=r at *;generalize badB (s.data.toList.drop p)=bd at *;have HPC:=Zq hpc;have HO:=Zq hone;have HST:=Zq hst;have HAT:=Zq hat;clear hone hne hpc hst hat;go_wp2_with fail;refine HO.out.mono ?_;rintro e W1 ⟨rfl,hb1⟩;have hrow1:=hrow.call hb1;have hev1:=hev.call hb1;have hrow2:=hrow1.keep (K:=fun _=>False) ((Ybg tau W1 _).alloc 3 (.cells #[.int .i64 p,.int .i64 z,.int .i32 r,.bool bd] 136 (0,0))) (fun h=>h);have hev2:=hev1.alloc 3 (.cells #[.int .i64 p,.int .i64 z,.int .i32 r,.bool bd] 136 (0,0));have hvar2:(W1.alloc (.cells #[.int .i64 p,.int .i64 z,.int .i32 r,.bool bd] 136 (0,0))).heap[W1.heap.size]?=some (.cells #[.int .i64 p,.int .i64 z,.int .i32 r,.bool bd] 136 (0,0)):=Yac W1 _;have htg2:(tau.set W1.heap.size 3) W1.heap.size=3:=Tag.set_same _ _ _;have hsz2:W1.heap.size<(W1.alloc (.cells #[.int .i64 p,.int .i64 z,.int .i32 r,.bool bd] 136 (0,0))).heap.size:=(by simp);clear hrow hev hb1 HO hrow1 hev1;go_wp2_with (at_builtin; refine Zac rfl _ _ 133 rfl 136 i0 _ 4 24 Tryz.underlying133 hi hz0 hz1 hz2 rfl (by decide) rfl hrow2 #[.int .i64 p,.int .i64 z,.int .i32 r,.bool bd] 136 (0,0) _ rfl ?c0 rfl ?c1 ?c2 ?c3 ?_);(case c0=>simp);(case c1=>first|exact ⟨rfl,rfl,rfl,rfl⟩|(intro u hu; simp at hu; rcases hu with rfl|rfl|rfl|rfl<;>rfl));(case c2=>unfold maxLen; have:=HAT.out.le; omega);(case c3=>have:=HAT.out.le; omega);intro v' t' w' hr3 he;have hev6:=hev2.trans (he.mono (K':=(·≠0)) (by intro x hx; omega));have hvar6:w'.heap[W1.heap.size]?=some (.cells #[.int .i64 p,.int .i64 z,.int .i32 r,.bool bd] 136 (0,0)):=(by rw [he.block _ hsz2 (by rw [htg2]; omega)]; exact hvar2);obtain ⟨x0,x1,x2,x3⟩:=Zc7 hvar6;have HR3:=Zq hr3;have HEV:=Zq hev6;clear he hr3 hev6 hvar6 hvar2 htg2 hev2 hrow2 hsz2;go_wp2;go_roundg g;case rel =>
     refine ⟨t',ps.length+1,p+z,ps++[p],by go_num,?_,HEV.out,HST.out,by rw [Yak]; rfl,Zq ?_,by omega,by omega⟩
     . have h:=HR3.out;have hf:(ps++[p]).flatMap (pcells s.data.toList)=ps.flatMap (pcells s.data.toList)++[.int .i64 p,.int .i64 z,.int .i32 r,.bool bd]:=(by rw [List.flatMap_append,<-HPC.out]; simp);rw [hf,Yak];exact h
     . intro j q hj hjk;by_cases hjk2:j<ps.length
       . rw [List.getElem?_append_left (by omega)];exact HP.out j q hj hjk2
       . obtain rfl:j=ps.length:=(by omega);rw [List.getElem?_append_right (by omega),Nat.sub_self,hj.uniq HAT.out];rfl
    case measure=>omega
  . have hpe:p=s.size:=(by omega);subst hpe;have hkc:ps.length=cnt s.data.toList:=(by have h:=hat.le;rw [Yar (by rw [Zcg]; omega),Zbu] at h;omega);obtain ⟨la,lc,rfl⟩:=hrow.form;have HV:=Zq (SlV.ofRow (pcells s.data.toList) ps 0 (by decide) (Zk2 _) hrow);have HB:=Zq (hev.toBelow (by simp));have hkl:ps.length=cnt s.data.toList:=hkc;have HKL:=Zq hkl;clear hrow hev hat hkc hkl;go_wp2;(try rw [Yae]);go_ret;refine ⟨HB.out,_,rfl,ps,HV.out,HKL.out,fun j q hj hq=>HP.out j q hj ?_⟩;have:=hj.lt;rw [Zcg] at *;have h2:=hj.lt.2 (by rw [Zcg]; exact hq);have:=HKL.out;omega
theorem PsV.form {h:GH} {v:Value} {l:Bs} (t:PsV h v l):∃ a cap,v = .slice a (cnt l) cap:=by obtain ⟨ps,⟨a,cap,hv,_⟩,hn,_⟩:=t;exact ⟨a,cap,by rw [hv,hn]⟩
theorem PsV.at {w:World} {a:Option Addr} {n cap:Nat} {l:Bs} (t:PsV (gh w) (.slice a n cap) l) {k p:Nat} (hat:AtP l k p) (hp:p<l.length) :
 ∃ b off,a=some ⟨b,off,none⟩/\w.cell? ⟨b,off+k*4,none⟩=some (.int .i64 p)/\w.cell? ⟨b,off+k*4+1,none⟩=some (.int .i64 (wd (l.drop p)))/\w.cell? ⟨b,off+k*4+2,none⟩=some (.int .i32 (rn (l.drop p)))/\w.cell? ⟨b,off+k*4+3,none⟩=some (.bool (badB (l.drop p))):=by
 obtain ⟨ps,⟨a',cap',hv,hn,hc,hm,hcell⟩,hpn,hps⟩:=t;simp only [Yaq] at hv;obtain ⟨rfl,rfl,rfl⟩:=hv;have hx:=hps k p hat hp;have hj:=(Yag.1 hx).1;have hd:ps.getD k 0=p:=by rw [Yau,hx]; rfl
 have get:∀ c y,(pcells l p)[c]?=some y->∃ b off,a=some ⟨b,off,none⟩/\(gh w).cell b (off+(4*k+c))=some y:=fun c y h=>hcell k c y hj (by show (pcells l (ps.getD k 0))[c]?=_; rw [hd]; exact h);obtain ⟨b,off,ha,h0⟩:=get 0 _ rfl;obtain ⟨b1,off1,ha1,h1⟩:=get 1 _ rfl;obtain ⟨b2,off2,ha2,h2⟩:=get 2 _ rfl;obtain ⟨b3,off3,ha3,h3⟩:=get 3 _ rfl;rw [ha] at ha1 ha2 ha3;simp only [Yai,Ybd,and_true] at ha1 ha2 ha3;obtain ⟨rfl,rfl⟩:=ha1;obtain ⟨rfl,rfl⟩:=ha2;obtain ⟨rfl,rfl⟩:=ha3;rw [Zad] at h0 h1 h2 h3;rw [Nat.mul_comm 4 k,<-Nat.add_assoc] at h0 h1 h2 h3;exact ⟨b,off,ha,h0,h1,h2,h3⟩
theorem Zk6 (s:ByteArray) (w:World) (hs:s.size<=1000000):Calls Tryz.prog 63 #[.string s] w fun e w'=>e = .returned (.int .i64 (cnt s.data.toList))/\Below w.heap.size w w':=by have HP:=Zq (Zk5 s w hs);go_in;go_wp2_with fail;refine HP.out.mono ?_;rintro e W ⟨hb,v,rfl,hv⟩;obtain ⟨a,cap,rfl⟩:=hv.form;clear hv;go_wp2;go_ret;exact ⟨rfl,hb⟩
theorem Zk7 (s:ByteArray) (w:World) (hs:s.size<=1000000):Calls Tryz.prog 62 #[.string s] w fun e w'=>e = .returned (.bool (val s.data.toList))/\Below w.heap.size w w':=by
 have HP:=Zq (Zk5 s w hs);obtain ⟨R,hR⟩:∃ R,val s.data.toList=R:=⟨_,rfl⟩;rw [hR];have HR:=Zq hR;have HCL:=Zq (Zbk s.data.toList);clear hR;go_in;go_wp2_with fail;refine HP.out.mono ?_;rintro e W ⟨hb,v,rfl,hv⟩;obtain ⟨a,cap,rfl⟩:=hv.form;have HV:=Zq hv;have HB:=Zq hb;obtain ⟨n,hn⟩:∃ n,cnt s.data.toList=n:=⟨_,rfl⟩;have HN:=Zq hn;rw [hn] at HV |-;have hn1:n<=1000000:=by have:=HCL.out; rw [Zcg] at this; omega
 clear hv hb hn HP;go_wp2;go_loopg [4] n (fun g i wr=>∃ k p:Nat,i = .int .i64 k/\k+g=n/\wr=W/\Hid (AtP s.data.toList k p)/\Hid (val (s.data.toList.drop p)=R));case atStart=>exact ⟨0,0,rfl,by omega,rfl,Zq .zero,Zq (by rw [List.drop_zero]; exact HR.out)⟩
 case round =>
  obtain ⟨k,p,rfl,hg,rfl,HA,HC⟩:=hrel;have hlp:=HA.out.lt;rw [HN.out] at hlp;by_cases hlt:k<n
  . have hp:=hlp.1 hlt;obtain ⟨b,off,rfl,c0,c1,c2,c3⟩:=HV.out.at HA.out hp;have hne:=Zkf hp;have hst:=HA.out.step hp;have hvc:=HC.out;rw [ZbA hne] at hvc;have HST:=Zq hst;clear hlp hne hst hp c0 c1 c2;cases hbd:badB (s.data.toList.drop p) with
    | true =>have HE:Hid (R=false):=Zq (by rw [<-hvc,if_pos (of_decide_eq_true hbd)]);rw [hbd] at c3;clear hvc hbd;go_wp2;(try rw [Yae]);go_ret;exact ⟨by rw [HE.out]; rfl,HB.out⟩
    | false =>have HE:Hid (val (s.data.toList.drop (p+wd (s.data.toList.drop p)))=R):=Zq (by rw [<-hvc,if_neg (of_decide_eq_false hbd),List.drop_drop]);rw [hbd] at c3;clear hvc hbd;go_wp2;go_roundg (gk - 1);(case rel=>exact ⟨k+1,p+wd (s.data.toList.drop p),by go_num,by omega,rfl,HST,HE⟩);case measure=>omega
  . have HE:Hid (R=true):=Zq (by have:¬ p<s.data.toList.length:=fun h=>hlt (hlp.2 h);rw [<-HC.out,Yar (by omega),Zbz]);clear hlp;go_wp2;(try rw [Yae]);go_ret;exact ⟨by rw [HE.out]; rfl,HB.out⟩
structure LSt (W:World) (B:Nat) (s:Bs) (pv:Value) (k p:Nat):Prop where
 cell:W.heap[B]?=some (.cells #[.string ⟨s.toArray⟩,pv,.int .i64 k] 195 (0,0))
 at':AtP s k p
theorem LSt.cells {W:World} {B:Nat} {s:Bs} {pv:Value} {k p:Nat} (h:LSt W B s pv k p) :
 W.cell? ⟨B,0,none⟩=some (.string ⟨s.toArray⟩)/\W.cell? ⟨B,1,none⟩=some pv/\W.cell? ⟨B,2,none⟩=some (.int .i64 k)/\W.frozen? ⟨B,2,none⟩=false/\B<W.heap.size:=by have h:=h.cell;exact ⟨by simp [World.cell?,h],by simp [World.cell?,h],by simp [World.cell?,h],by simp [World.frozen?,h],(Yaa.1 h).1⟩
theorem LSt.keep {W W':World} {B:Nat} {s:Bs} {pv:Value} {k p:Nat} (h:LSt W B s pv k p) (hb:Below W.heap.size W W'):LSt W' B s pv k p :=
 ⟨by rw [hb.block _ (Yaa.1 h.cell).1]; exact h.cell,h.at'⟩
theorem LSt.set {W:World} {B:Nat} {s:Bs} {pv:Value} {k p:Nat} (h:LSt W B s pv k p) (x:Int) {k' p':Nat} (e:x=k') (ha:AtP s k' p'):LSt (W.setCell ⟨B,2,none⟩ (.int .i64 x)) B s pv k' p':=by subst e;refine ⟨?_,ha⟩;have:=h.cell;simp [World.setCell,Yap,this]
theorem LSt.other {W:World} {B:Nat} {s:Bs} {pv:Value} {k p:Nat} (h:LSt W B s pv k p) {a:Addr} (ha:a.block≠B) (v:Value):LSt (W.setCell a v) B s pv k p :=
 ⟨by rw [Yat _ _ _ _ (fun e=>ha e.symm)]; exact h.cell,h.at'⟩
theorem LSt.alloc {W:World} {B:Nat} {s:Bs} {pv:Value} {k p:Nat} (h:LSt W B s pv k p) (o:Obj):LSt (W.alloc o) B s pv k p:=h.keep ((Yab _ _).alloc Zs _)
def TkB (W:World) (b:Nat) (kd:Int) (ts:Bs) (n:Int) (p:Nat):Prop:=W.heap[b]?=some (.cells #[.int .i64 kd,.string ⟨ts.toArray⟩,.int .i64 n,.int .i64 p] 114 (0,0))
theorem TkB.keep {W W':World} {b:Nat} {kd:Int} {ts:Bs} {n:Int} {p:Nat} (h:TkB W b kd ts n p) (hb:Below W.heap.size W W'):TkB W' b kd ts n p:=by unfold TkB at *;rw [hb.block _ (Yaa.1 h).1]; exact h
theorem TkB.but {W W':World} {B b:Nat} {kd:Int} {ts:Bs} {n:Int} {p:Nat} (h:TkB W b kd ts n p) (hb:But B W W') (hne:b≠B):TkB W' b kd ts n p:=by unfold TkB at *;rw [hb.block _ (Yaa.1 h).1 hne]; exact h
theorem TkB.other {W:World} {b:Nat} {kd:Int} {ts:Bs} {n:Int} {p:Nat} (h:TkB W b kd ts n p) {a:Addr} (ha:a.block≠b) (v:Value):TkB (W.setCell a v) b kd ts n p:=by unfold TkB at *;rw [Yat _ _ _ _ (fun e=>ha e.symm)]; exact h
theorem TkB.setN {W:World} {b:Nat} {kd:Int} {ts:Bs} {n:Int} {p:Nat} (h:TkB W b kd ts n p) (m:Int):TkB (W.setCell ⟨b,2,none⟩ (.int .i64 m)) b kd ts m p:=by unfold TkB at *;simp [World.setCell,Yap,h]
theorem TkB.setS {W:World} {b:Nat} {kd:Int} {ts:Bs} {n:Int} {p:Nat} (h:TkB W b kd ts n p) (us:Bs):TkB (W.setCell ⟨b,1,none⟩ (.string ⟨us.toArray⟩)) b kd us n p:=by unfold TkB at *;simp [World.setCell,Yap,h]
def clsAt (s:Bs) (p:Nat):Int:=if p<s.length then cls (rn (s.drop p)) else -1
theorem Zk8 {s:Bs} {p:Nat} (h:p<s.length):clsAt s p=cls (rn (s.drop p)):=if_pos h
theorem Zk9 {s:Bs} {p:Nat} (h:¬ p<s.length):clsAt s p = -1:=if_neg h
theorem Zla {s:Bs} {p:Nat} {c:Int} (h:clsAt s p=c) (hc:0<=c):p<s.length/\cls (rn (s.drop p))=c:=by
 unfold clsAt at h;split at h
 . exact ⟨by assumption,h⟩
 . omega
theorem Zlb (s:Bs) (B k p:Nat) (pv:Value) (w:World) (hs:s.length<=1000000) (h:LSt w B s pv k p) (hP:PsV (gb B w) pv s) :
 Calls Tryz.prog 136 #[.pointer (some ⟨B,0,none⟩)] w fun e w'=>e = .returned (.int .i64 (clsAt s p))/\Below w.heap.size w w':=by
 obtain ⟨c0,c1,c2,-,-⟩:=h.cells;obtain ⟨a,cap,rfl⟩:=hP.form;have hlt':=h.at'.lt;have hcl:=Zbk s;have hPg:PsV (gh w) (.slice a (cnt s) cap) s:=hP.mono (Zdu B w);by_cases hp:p<s.length
 . have hk:k<cnt s:=hlt'.2 hp;obtain ⟨b,off,rfl,d0,d1,d2,d3⟩:=hPg.at h.at' hp;have HE:=Zq (Zk8 hp);have hbc:=Zkh (l:=s.drop p);have hrr:=ZaV (s.drop p);generalize rn (s.drop p)=r at *;generalize cnt s=n at *;have hkn:k<=1000000:=(by omega);have HCL:=Zq (fun w=>Zkp r w (by omega));clear h hP hlt' hPg hp d0 d1 c0;cases hbd:badB (s.drop p) with
   | true =>have HZ:Hid (clsAt s p=0):=Zq (by rw [HE.out]; exact hbc hbd);rw [hbd] at d3;clear hbc hbd HE;go_in;go_wp2;go_region;go_wp2;go_region;go_wp2;go_ret;exact ⟨by rw [HZ.out]; rfl,(Yab _ _).drew.drew⟩
   | false =>rw [hbd] at d3;clear hbc hbd;go_in;go_wp2;go_region;go_wp2;go_region;go_wp2;go_quiet ((go_at_call 191; exact (HCL.out _).mono fun _ _ ⟨he,hw⟩=>⟨he,_,hw⟩));go_wp2;go_ret;exact ⟨by rw [HE.out]; rfl,Ybb ((Yab _ _).drew.drew) _⟩
 . have hk:¬ k<cnt s:=fun x=>hp (hlt'.1 x);have HZ:=Zq (Zk9 hp);generalize cnt s=n at *;clear h hP hlt' hPg hp c0;go_in;go_wp2;go_region;go_wp2;go_ret;exact ⟨by rw [HZ.out]; rfl,(Yab _ _).drew⟩
theorem Zlc (s:Bs) (B k p:Nat) (pv:Value) (w:World) (hs:s.length<=1000000) (h:LSt w B s pv k p) (hP:PsV (gb B w) pv s) :
 Calls Tryz.prog 192 #[.pointer (some ⟨B,0,none⟩)] w fun e w'=>e = .returned (.int .i64 p)/\Below w.heap.size w w':=by
 obtain ⟨c0,c1,c2,-,-⟩:=h.cells;obtain ⟨a,cap,rfl⟩:=hP.form;have hlt':=h.at'.lt;have hcl:=Zbk s;have hle:=h.at'.le;have hPg:PsV (gh w) (.slice a (cnt s) cap) s:=hP.mono (Zdu B w);by_cases hp:p<s.length
 . have hk:k<cnt s:=hlt'.2 hp;obtain ⟨b,off,rfl,d0,d1,d2,d3⟩:=hPg.at h.at' hp;generalize cnt s=n at *;have hkn:k<=1000000:=(by omega);clear h hP hlt' hPg hp d1 d2 d3 hle;go_in;go_wp2;go_region;go_wp2;go_region;go_wp2;go_ret;exact ⟨rfl,(Yab _ _).drew.drew⟩
 . have hk:¬ k<cnt s:=fun x=>hp (hlt'.1 x);have HE:Hid (s.length=p):=Zq (by omega);generalize cnt s=n at *;clear h hP hlt' hPg hp hle;go_in;go_wp2;go_region;go_wp2;go_ret;refine ⟨?_,(Yab _ _).drew⟩;have:=HE.out;simp [ByteArray.size,this]
end Go.Proofs.YtikannmgllejfaaGreatDoor
