/- The walk of chapter 1's one, at a first byte that announces . -/
import Derived.Test.YtikannmgllejfaaGreatDoorKPl
import Derived.Test.YtikannmgllejfaaGreatDoorProg
import Derived.Test.YtikannmgllejfaaGreatDoorKLx
import Derived.Handy
set_option maxHeartbeats 8000000
set_option maxRecDepth 1000000
set_option linter.all false
namespace Go.Proofs.YtikannmgllejfaaGreatDoor
open Go.RowKit Pal

def numR:Bs->Int->Bool->Int × Bool
 | [],n,ok=>(n,ok)
 | c::r,n,ok=>if (9223372036854775807 - ((c.toNat:Int) - 48)) / 10<n then numR r n false else numR r (n*10+((c.toNat:Int) - 48)) ok
theorem Zkb:∀ (l:Bs) (n:Int),(numR l n false).2=false:=by
 intro l;induction l with
 | nil=>intro n; rfl
 | cons c r ih=>intro n; unfold numR; split<;>exact ih _
def AllD (l:Bs):Prop:=∀ c∈l,48<=c.toNat/\c.toNat<=57
theorem Zkc:∀ (l:Bs) (acc u:Nat),Lib.parseUintM 18446744073709551615 acc l = .ok u->acc<=u:=by
 intro l;induction l with
 | nil=>intro acc u h; simp only [Lib.parseUintM,Lib.NumEnd.ok.injEq] at h; omega
 | cons c r ih =>
  intro acc u h;simp only [Lib.parseUintM] at h;split at h
  . split at h
    . cases h
    . split at h
      . cases h
      . have:=ih _ _ h; omega
  . cases h
theorem Zkd:∀ (l:Bs) (acc:Nat),AllD l->acc<9223372036854775808 ->
 (match Lib.parseUintM 18446744073709551615 acc l with | .ok u=>if u<9223372036854775808 then numR l acc true=((u:Int),true) else (numR l acc true).2=false|_=>(numR l acc true).2=false):=by
 intro l;induction l with
 | nil=>intro acc _ h; simp only [Lib.parseUintM]; rw [if_pos h]; rfl
 | cons c r ih =>
  intro acc hd h;have hc:=hd c (by simp);have hr:AllD r:=fun x hx=>hd x (by simp [hx]);have e:Lib.parseUintM 18446744073709551615 acc (c::r)=if 1844674407370955162<=acc then .range else if 18446744073709551615<acc*10+(c.toNat - 48) then .range else Lib.parseUintM 18446744073709551615 (acc*10+(c.toNat - 48)) r:=(by simp only [Lib.parseUintM]; rw [if_pos hc]);rw [e];have en:numR (c::r) acc true=if (9223372036854775807 - ((c.toNat:Int) - 48)) / 10<(acc:Int) then numR r acc false else numR r (acc*10+((c.toNat:Int) - 48)) true:=(by rw [numR]);rw [en];by_cases hb:acc*10+(c.toNat - 48)<9223372036854775808
  . rw [if_neg (by omega),if_neg (by omega),if_neg (by omega)];have:=ih (acc*10+(c.toNat - 48)) hr hb;have ec:((acc*10+(c.toNat - 48):Nat):Int)=(acc:Int)*10+((c.toNat:Int) - 48):=(by omega);rw [ec] at this;exact this
  . have hf:=Zkb r acc;rw [if_pos (by omega:(9223372036854775807 - ((c.toNat:Int) - 48)) / 10<(acc:Int))];split
    . rename_i u hu;split at hu
      . cases hu
      . split at hu
        . cases hu
        . have:=Zkc _ _ _ hu;rw [if_neg (by omega)]; exact hf
    . exact hf
theorem Zke {l:Bs} (hn:l≠[]) (hd:AllD l):(match numOf l with|some v=>numR l 0 true=(v,true)|none=>(numR l 0 true).2=false):=by
 have h:=Zkd l 0 hd (by omega);unfold numOf;cases l with
 | nil=>exact absurd rfl hn
 | cons c r =>
  have hc:=hd c (by simp);simp only [Lib.parseIntB];rw [if_neg (by omega:¬ (c.toNat=43\/c.toNat=45))];unfold Lib.parseUintB;rw [if_neg (by simp)];simp only [show (2 ^ 64 - 1:Nat)=18446744073709551615 by decide,show (2 ^ (64 - 1):Nat)=9223372036854775808 by decide];cases hp:Lib.parseUintM 18446744073709551615 0 (c::r);case ok u =>
   rw [hp] at h;simp only at h |-;by_cases hu:u<9223372036854775808
   . rw [if_pos hu] at h;rw [if_neg (by omega),if_neg (by omega)];simp only [show ¬ c.toNat=45 by omega,if_false];exact h
   . rw [if_neg hu] at h;rw [if_pos ⟨by omega,by omega⟩];exact h
  all_goals rw [hp] at h;exact h
inductive AtP (l:Bs):Nat->Nat->Prop
 | zero:AtP l 0 0
 | step {k p:Nat} (h:AtP l k p) (hp:p<l.length):AtP l (k+1) (p+wd (l.drop p))
theorem Zkf {l:Bs} {p:Nat} (h:p<l.length):l.drop p≠[]:=fun e=>by
 have:=congrArg List.length e
 rw [Yav] at this
 simp at this
 omega
theorem AtP.le {l:Bs} {k p:Nat} (h:AtP l k p):p<=l.length/\k+cnt (l.drop p)=cnt l/\k<=p:=by
 induction h with
 | zero=>exact ⟨Nat.zero_le _,by rw [List.drop_zero]; omega,Nat.le_refl _⟩
 | @step k p h hp ih =>obtain ⟨h1,h2,h3⟩:=ih;have hn:=Zkf hp;have hw:=ZaS hn;have hw1:=ZaQ (l.drop p);rw [Yav] at hw;rw [Zbv hn,List.drop_drop] at h2;exact ⟨by omega,by omega,by omega⟩
theorem Zkg {l:Bs} (h:l≠[]):0<cnt l:=by rw [Zbv h]; omega
theorem AtP.lt {l:Bs} {k p:Nat} (h:AtP l k p):k<cnt l↔p<l.length:=by
 obtain ⟨h1,h2,h3⟩:=h.le;constructor
 . intro hk;apply Classical.byContradiction;intro hp;rw [Yar (by omega),Zbu] at h2;omega
 . intro hp;have:=Zkg (Zkf hp);omega
theorem AtP.uniq {l:Bs} {k p:Nat} (h:AtP l k p):∀ {q},AtP l k q->p=q:=by
 induction h with
 | zero=>intro q g; cases g; rfl
 | @step k p h hp ih =>
  intro q g;cases g with
  | @step _ p' g hp' =>have:=ih g;subst this;rfl
def badB (l:Bs):Bool:=decide (rn l=65533/\wd l=1)
theorem Zkh {l:Bs} (h:badB l=true):cls (rn l)=0:=by have:=(of_decide_eq_true h).1;rw [this];decide
theorem Zki {l:Bs} (h:cls (rn l)=2):wd l=1/\rn l=bk l 0/\48<=bk l 0/\bk l 0<=57:=by have h1:=cls_2.1 h;have h2:=ZaW (l:=l) (by omega);exact ⟨h2.2.2,h2.2.1,by omega,by omega⟩
theorem Zkj {l:Bs} (hn:l≠[]) (h:cls (rn l)=2):l.take (run 2 2 l)=(l.headD 0)::(l.drop 1).take (run 2 2 (l.drop 1))/\(l.headD 0).toNat=bk l 0/\run 2 2 l=1+run 2 2 (l.drop 1):=by
 have h1:=Zki h;have h2:=Za5 hn (.inl h:cls (rn l)=2\/cls (rn l)=2);rw [h1.1] at h2;rw [h2];cases l with
 | nil=>exact absurd rfl hn
 | cons c r=>exact ⟨by rw [Nat.add_comm,List.take_succ_cons]; rfl,rfl,rfl⟩
theorem Zkk {c:UInt8} {r:Bs} {n:Int} {ok:Bool}:numR (c::r) n ok=if (9223372036854775807 - ((c.toNat:Int) - 48)) / 10<n then numR r n false else numR r (n*10+((c.toNat:Int) - 48)) ok:=by rw [numR]
theorem Zkl {l:Bs}:(48<=rn l/\rn l<=57->hexD (bk l 0)=some (rn l - 48)/\wd l=1)/\(97<=rn l/\rn l<=102->hexD (bk l 0)=some (rn l - 87)/\wd l=1)/\(¬ (48<=rn l/\rn l<=57)->¬ (97<=rn l/\rn l<=102)->hexD (bk l 0)=none):=by
 refine ⟨fun h=>?_,fun h=>?_,fun h g=>?_⟩
 . have h2:=ZaW (l:=l) (by omega);unfold hexD;rw [if_pos (by omega),h2.2.1];exact ⟨rfl,h2.2.2⟩
 . have h2:=ZaW (l:=l) (by omega);unfold hexD;rw [if_neg (by omega),if_pos (by omega),h2.2.1];exact ⟨rfl,h2.2.2⟩
 . unfold hexD;by_cases hb:bk l 0<128
   . have h2:=ZaT hb;rw [if_neg (by omega),if_neg (by omega)]
   . rw [if_neg (by omega),if_neg (by omega)]
theorem Zkp (r:Int) (w:World) (hr : -2147483648<=r/\r<=2147483647) :
 Calls Tryz.prog 191 #[.int .i32 r] w fun e w'=>e = .returned (.int .i64 (cls r))/\w'=w:=by
 rw [<-Zaq];rcases (by omega:r<9\/r=9\/r=10\/11<=r/\r<13\/r=13\/14<=r/\r<32\/r=32\/33<=r/\r<48\/48<=r/\r<58\/58<=r/\r<65\/65<=r/\r<91\/91<=r/\r<95\/r=95\/r=96\/97<=r/\r<123\/123<=r/\r<160\/r=160\/161<=r/\r<170\/r=170\/171<=r/\r<181\/r=181\/182<=r/\r<186\/r=186\/187<=r/\r<192\/192<=r/\r<215\/r=215\/216<=r/\r<247\/r=247\/248<=r/\r<592\/592<=r/\r<913\/913<=r/\r<930\/r=930\/931<=r/\r<938\/938<=r/\r<945\/945<=r/\r<970\/970<=r/\r<1040\/1040<=r/\r<1104\/1104<=r/\r<12288\/r=12288\/12289<=r/\r<19968\/19968<=r/\r<40960\/40960<=r) with h|h|h|h|h|h|h|h|h|h|h|h|h|h|h|h|h|h|h|h|h|h|h|h|h|h|h|h|h|h|h|h|h|h|h|h|h|h|h|h|h|h;all_goals
  have HH:=Zq h;have HR:=Zq hr;by_cases g48:48<=r<;>first|(exfalso; omega)|skip
  by_cases g97:97<=r<;>first|(exfalso; omega)|skip
  by_cases g65:65<=r<;>first|(exfalso; omega)|skip
  by_cases g192:192<=r<;>first|(exfalso; omega)|skip
  by_cases g913:913<=r<;>first|(exfalso; omega)|skip
  by_cases g945:945<=r<;>first|(exfalso; omega)|skip
  by_cases g1040:1040<=r<;>first|(exfalso; omega)|skip
  by_cases g19968:19968<=r<;>first|(exfalso; omega)|skip
  by_cases l57:r<=57<;>first|(exfalso; omega)|skip
  by_cases l122:r<=122<;>first|(exfalso; omega)|skip
  by_cases l90:r<=90<;>first|(exfalso; omega)|skip
  by_cases l591:r<=591<;>first|(exfalso; omega)|skip
  by_cases l937:r<=937<;>first|(exfalso; omega)|skip
  by_cases l969:r<=969<;>first|(exfalso; omega)|skip
  by_cases l1103:r<=1103<;>first|(exfalso; omega)|skip
  by_cases l40959:r<=40959<;>first|(exfalso; omega)|skip
  cases e9:r == 9<;>first|(exfalso; simp at e9; omega)|skip
  cases e10:r == 10<;>first|(exfalso; simp at e10; omega)|skip
  cases e13:r == 13<;>first|(exfalso; simp at e13; omega)|skip
  cases e32:r == 32<;>first|(exfalso; simp at e32; omega)|skip
  cases e95:r == 95<;>first|(exfalso; simp at e95; omega)|skip
  cases e160:r == 160<;>first|(exfalso; simp at e160; omega)|skip
  cases e170:r == 170<;>first|(exfalso; simp at e170; omega)|skip
  cases e181:r == 181<;>first|(exfalso; simp at e181; omega)|skip
  cases e186:r == 186<;>first|(exfalso; simp at e186; omega)|skip
  cases e215:r == 215<;>first|(exfalso; simp at e215; omega)|skip
  cases e247:r == 247<;>first|(exfalso; simp at e247; omega)|skip
  cases e930:r == 930<;>first|(exfalso; simp at e930; omega)|skip
  cases e12288:r == 12288<;>first|(exfalso; simp at e12288; omega)|skip
  cases m215:r != 215<;>first|(exfalso; simp at m215; omega)|skip
  cases m247:r != 247<;>first|(exfalso; simp at m247; omega)|skip
  cases m930:r != 930<;>first|(exfalso; simp at m930; omega)|skip
  clear h hr;go_in;go_wp2;go_ret;refine ⟨?_,rfl⟩;show Ending.returned (Value.int .i64 _)=_;have h:=HH.out;congr 2;unfold cls01;(repeat' split)<;>omega
def bt (s:ByteArray) (j:Nat):Int:=if h:j<s.size then (s[j]'h).toNat else 0
theorem Zkq {s:ByteArray} {j:Nat} (h:j<s.size):bt s j=((s[j]'h).toNat:Int):=by simp [bt,h]
theorem Zkr (s:ByteArray) (j:Nat):0<=bt s j/\bt s j<256:=by
 unfold bt;split
 . rename_i h;have:=(s[j]'h).toNat_lt;omega
 . omega
def goesOn (s:ByteArray) (j:Nat):Prop:=128<=bt s j/\bt s j<=191
instance (s:ByteArray) (j:Nat):Decidable (goesOn s j):=by unfold goesOn; infer_instance
theorem Zks (s:ByteArray) (i:Nat) (h:i<s.size) (h1:128<=(s[i]'h).toNat) (h2:(s[i]'h).toNat<=191) (w:World) :
 Calls Tryz.prog 161 #[.string s,.int .i64 i] w fun e w'=>e = .returned (.tuple #[.int .i32 ((s[i]'h).toNat - 128:Int),.bool true])/\w'=w:=by
 have e1:(((s[i]'h).toNat:Int) - 128) % 256=((s[i]'h).toNat:Int) - 128:=by omega
 go_in;go_wp2;go_ret2;exact ⟨rfl,rfl⟩
theorem Zkt (s:ByteArray) (i:Nat) (h:¬ i<s.size) (w:World) :
 Calls Tryz.prog 161 #[.string s,.int .i64 i] w fun e w'=>e = .returned (.tuple #[.int .i32 0,.bool false])/\w'=w:=by go_in;go_wp2;go_ret2;exact ⟨rfl,rfl⟩
theorem Zku (s:ByteArray) (i:Nat) (h:i<s.size) (h1:(s[i]'h).toNat<128) (w:World) :
 Calls Tryz.prog 161 #[.string s,.int .i64 i] w fun e w'=>e = .returned (.tuple #[.int .i32 0,.bool false])/\w'=w:=by go_in;go_wp2;go_ret2;exact ⟨rfl,rfl⟩
theorem Zkv (s:ByteArray) (i:Nat) (h:i<s.size) (h1:191<(s[i]'h).toNat) (w:World) :
 Calls Tryz.prog 161 #[.string s,.int .i64 i] w fun e w'=>e = .returned (.tuple #[.int .i32 0,.bool false])/\w'=w:=by go_in;go_wp2;go_ret2;exact ⟨rfl,rfl⟩
theorem Zkw (s:ByteArray) (i:Nat) (w:World) :
 Calls Tryz.prog 161 #[.string s,.int .i64 i] w fun e w'=>e = .returned (.tuple #[.int .i32 (if goesOn s i then bt s i - 128 else 0),.bool (decide (goesOn s i))])/\w'=w:=by
 by_cases h:i<s.size
 . have hb:=Zkq h;by_cases h1:(s[i]'h).toNat<128
   . have hg:¬ goesOn s i:=(by unfold goesOn; omega);rw [if_neg hg,Yaj hg];exact Zku s i h h1 w
   . by_cases h2:191<(s[i]'h).toNat
     . have hg:¬ goesOn s i:=(by unfold goesOn; omega);rw [if_neg hg,Yaj hg];exact Zkv s i h h2 w
     . have hg:goesOn s i:=(by unfold goesOn; omega);rw [if_pos hg,Yam hg,hb];exact Zks s i h (by omega) (by omega) w
 . have hb:bt s i=0:=(by simp [bt,h]);have hg:¬ goesOn s i:=(by unfold goesOn; omega);rw [if_neg hg,Yaj hg];exact Zkt s i h w
def hdN (c:Int):Nat:=if 194<=c/\c<=223 then 2 else if 224<=c/\c<=239 then 3 else if 240<=c/\c<=244 then 4 else 0
def pieceV (i n:Nat) (r:Int) (bad:Bool):Value := .agg #[.int .i64 i,.int .i64 n,.int .i32 r,.bool bad]
theorem Zkx (s:ByteArray) (i:Nat) (hi:i<s.size) (ha:(s[i]'hi).toNat<128) (w:World) :
 Calls Tryz.prog 111 #[.string s,.int .i64 i] w fun e w'=>e = .returned (pieceV i 1 (bt s i) false)/\Below w.heap.size w w':=by rw [Zkq hi];go_in;go_wp2;refine Yaf (v:=pieceV i 1 (s[i]'hi).toNat false) ?_ rfl ⟨rfl,(Yab _ _).alloc Zs _⟩;simp [results,Tryz.results111,go_sem,pieceV]
theorem Zky (s:ByteArray) (i:Nat) (hi:i<s.size) (hs:s.size<=4611686018427387904) (h1:194<=(s[i]'hi).toNat) (h2:(s[i]'hi).toNat<=223) (w:World) :
 Calls Tryz.prog 111 #[.string s,.int .i64 i] w fun e w'=>e = .returned (if goesOn s (i+1) then pieceV i 2 (((s[i]'hi).toNat - 192)*64+(bt s (i+1) - 128)) false else pieceV i 1 65533 true)/\Below w.heap.size w w':=by
 have hb:=Zkr s (i+1);go_in;go_wp2;refine wp_loop_rounds 3 ?_;rw [Yba];by_cases hg:goesOn s (i+1)
 . have hgd:decide (goesOn s (i+1))=true:=Yam hg;go_wp2_with fail;refine (Zkw s (i+1) _).mono ?_;rintro e w1 ⟨rfl,rfl⟩;rw [if_pos hg,hgd];go_wp2;rw [Yba];go_wp2;refine Yaf (v:=pieceV i 2 (((s[i]'hi).toNat - 192)*64+(bt s (i+1) - 128)) false) ?_ rfl ⟨rfl,(Yab _ _).alloc Zs _⟩;simp [results,Tryz.results111,go_sem,pieceV]
 . have hgd:decide (goesOn s (i+1))=false:=Yaj hg;go_wp2_with fail;refine (Zkw s (i+1) _).mono ?_;rintro e w1 ⟨rfl,rfl⟩;rw [if_neg hg,hgd];go_wp2;refine Yaf (v:=pieceV i 1 65533 true) ?_ rfl ⟨rfl,(Yab _ _).alloc Zs _⟩;simp [results,Tryz.results111,go_sem,pieceV]
theorem Zkz (s:ByteArray) (i:Nat) (hi:i<s.size) (h1:128<=(s[i]'hi).toNat) (h2:(s[i]'hi).toNat<194) (w:World) :
 Calls Tryz.prog 111 #[.string s,.int .i64 i] w fun e w'=>e = .returned (pieceV i 1 65533 true)/\Below w.heap.size w w':=by go_in;go_wp2;refine wp_loop_rounds 3 ?_;rw [Yba];go_wp2;refine Yaf (v:=pieceV i 1 65533 true) ?_ rfl ⟨rfl,(Yab _ _).alloc Zs _⟩;simp [results,Tryz.results111,go_sem,pieceV]
theorem ZkA (s:ByteArray) (i:Nat) (hi:i<s.size) (h1:244<(s[i]'hi).toNat) (w:World) :
 Calls Tryz.prog 111 #[.string s,.int .i64 i] w fun e w'=>e = .returned (pieceV i 1 65533 true)/\Below w.heap.size w w':=by go_in;go_wp2;refine wp_loop_rounds 3 ?_;rw [Yba];go_wp2;refine Yaf (v:=pieceV i 1 65533 true) ?_ rfl ⟨rfl,(Yab _ _).alloc Zs _⟩;simp [results,Tryz.results111,go_sem,pieceV]
def r3 (s:ByteArray) (i:Nat):Int:=((bt s i - 224)*64+(bt s (i+1) - 128))*64+(bt s (i+2) - 128)
theorem ZkB (s:ByteArray) (i:Nat) (hi:i<s.size) (hs:s.size<=4611686018427387904) (h1:224<=(s[i]'hi).toNat) (h2:(s[i]'hi).toNat<=239) (hg:¬ goesOn s (i+1)) (w:World) :
 Calls Tryz.prog 111 #[.string s,.int .i64 i] w fun e w'=>e = .returned (pieceV i 1 65533 true)/\Below w.heap.size w w':=by have hgd:decide (goesOn s (i+1))=false:=Yaj hg;go_in;go_wp2;refine wp_loop_rounds 4 ?_;rw [Yba];go_wp2_with fail;refine (Zkw s (i+1) _).mono ?_;rintro e w1 ⟨rfl,rfl⟩;rw [if_neg hg,hgd];go_wp2;refine Yaf (v:=pieceV i 1 65533 true) ?_ rfl ⟨rfl,(Yab _ _).alloc Zs _⟩;simp [results,Tryz.results111,go_sem,pieceV]
theorem ZkC (s:ByteArray) (i:Nat) (hi:i<s.size) (hs:s.size<=4611686018427387904) (h1:224<=(s[i]'hi).toNat) (h2:(s[i]'hi).toNat<=239) (hg:goesOn s (i+1)) (hk:¬ goesOn s (i+2)) (w:World) :
 Calls Tryz.prog 111 #[.string s,.int .i64 i] w fun e w'=>e = .returned (pieceV i 1 65533 true)/\Below w.heap.size w w':=by have hgd:decide (goesOn s (i+1))=true:=Yam hg;have hkd:decide (goesOn s (i+2))=false:=Yaj hk;have hb:=Zkr s (i+1);go_in;go_wp2;refine wp_loop_rounds 4 ?_;rw [Yba];go_wp2_with fail;refine (Zkw s (i+1) _).mono ?_;rintro e w1 ⟨rfl,rfl⟩;rw [if_pos hg,hgd];go_wp2;rw [Yba];go_wp2_with fail;refine (Zkw s (i+2) _).mono ?_;rintro e w1 ⟨rfl,rfl⟩;rw [if_neg hk,hkd];go_wp2;refine Yaf (v:=pieceV i 1 65533 true) ?_ rfl ⟨rfl,(Yab _ _).alloc Zs _⟩;simp [results,Tryz.results111,go_sem,pieceV]
theorem ZkD (s:ByteArray) (i:Nat) (hi:i<s.size) (hs:s.size<=4611686018427387904) (h1:224<=(s[i]'hi).toNat) (h2:(s[i]'hi).toNat<=239) (hg:goesOn s (i+1)) (hk:goesOn s (i+2)) (hv1:2048<=r3 s i) (hv2:r3 s i<55296) (w:World) :
 Calls Tryz.prog 111 #[.string s,.int .i64 i] w fun e w'=>e = .returned (pieceV i 3 (r3 s i) false)/\Below w.heap.size w w':=by have hgd:decide (goesOn s (i+1))=true:=Yam hg;have hkd:decide (goesOn s (i+2))=true:=Yam hk;have hb:=Zkr s (i+1);have hc:=Zkr s (i+2);unfold r3 at hv1 hv2 |-;rw [Zkq hi] at hv1 hv2 |-;go_in;go_wp2;refine wp_loop_rounds 4 ?_;rw [Yba];go_wp2_with fail;refine (Zkw s (i+1) _).mono ?_;rintro e w1 ⟨rfl,rfl⟩;rw [if_pos hg,hgd];go_wp2;rw [Yba];go_wp2_with fail;refine (Zkw s (i+2) _).mono ?_;rintro e w1 ⟨rfl,rfl⟩;rw [if_pos hk,hkd];go_wp2;rw [Yba];go_wp2;refine Yaf (v:=pieceV i 3 ((((s[i]'hi).toNat - 224)*64+(bt s (i+1) - 128))*64+(bt s (i+2) - 128)) false) ?_ rfl ⟨rfl,(Yab _ _).alloc Zs _⟩;simp [results,Tryz.results111,go_sem,pieceV]
theorem ZkE (s:ByteArray) (i:Nat) (hi:i<s.size) (hs:s.size<=4611686018427387904) (h1:224<=(s[i]'hi).toNat) (h2:(s[i]'hi).toNat<=239) (hg:goesOn s (i+1)) (hk:goesOn s (i+2)) (hv1:57343<r3 s i) (w:World) :
 Calls Tryz.prog 111 #[.string s,.int .i64 i] w fun e w'=>e = .returned (pieceV i 3 (r3 s i) false)/\Below w.heap.size w w':=by have hgd:decide (goesOn s (i+1))=true:=Yam hg;have hkd:decide (goesOn s (i+2))=true:=Yam hk;have hb:=Zkr s (i+1);have hc:=Zkr s (i+2);unfold r3 at hv1 |-;rw [Zkq hi] at hv1 |-;go_in;go_wp2;refine wp_loop_rounds 4 ?_;rw [Yba];go_wp2_with fail;refine (Zkw s (i+1) _).mono ?_;rintro e w1 ⟨rfl,rfl⟩;rw [if_pos hg,hgd];go_wp2;rw [Yba];go_wp2_with fail;refine (Zkw s (i+2) _).mono ?_;rintro e w1 ⟨rfl,rfl⟩;rw [if_pos hk,hkd];go_wp2;rw [Yba];go_wp2;refine Yaf (v:=pieceV i 3 ((((s[i]'hi).toNat - 224)*64+(bt s (i+1) - 128))*64+(bt s (i+2) - 128)) false) ?_ rfl ⟨rfl,(Yab _ _).alloc Zs _⟩;simp [results,Tryz.results111,go_sem,pieceV]
theorem ZkF (s:ByteArray) (i:Nat) (hi:i<s.size) (hs:s.size<=4611686018427387904) (h1:224<=(s[i]'hi).toNat) (h2:(s[i]'hi).toNat<=239) (hg:goesOn s (i+1)) (hk:goesOn s (i+2)) (hv1:r3 s i<2048) (w:World) :
 Calls Tryz.prog 111 #[.string s,.int .i64 i] w fun e w'=>e = .returned (pieceV i 1 65533 true)/\Below w.heap.size w w':=by have hgd:decide (goesOn s (i+1))=true:=Yam hg;have hkd:decide (goesOn s (i+2))=true:=Yam hk;have hb:=Zkr s (i+1);have hc:=Zkr s (i+2);unfold r3 at hv1;rw [Zkq hi] at hv1;go_in;go_wp2;refine wp_loop_rounds 4 ?_;rw [Yba];go_wp2_with fail;refine (Zkw s (i+1) _).mono ?_;rintro e w1 ⟨rfl,rfl⟩;rw [if_pos hg,hgd];go_wp2;rw [Yba];go_wp2_with fail;refine (Zkw s (i+2) _).mono ?_;rintro e w1 ⟨rfl,rfl⟩;rw [if_pos hk,hkd];go_wp2;rw [Yba];go_wp2;refine Yaf (v:=pieceV i 1 65533 true) ?_ rfl ⟨rfl,(Yab _ _).alloc Zs _⟩;simp [results,Tryz.results111,go_sem,pieceV]
theorem ZkG (s:ByteArray) (i:Nat) (hi:i<s.size) (hs:s.size<=4611686018427387904) (h1:224<=(s[i]'hi).toNat) (h2:(s[i]'hi).toNat<=239) (hg:goesOn s (i+1)) (hk:goesOn s (i+2)) (hv1:55296<=r3 s i) (hv2:r3 s i<=57343) (w:World) :
 Calls Tryz.prog 111 #[.string s,.int .i64 i] w fun e w'=>e = .returned (pieceV i 1 65533 true)/\Below w.heap.size w w':=by have hgd:decide (goesOn s (i+1))=true:=Yam hg;have hkd:decide (goesOn s (i+2))=true:=Yam hk;have hb:=Zkr s (i+1);have hc:=Zkr s (i+2);unfold r3 at hv1 hv2;rw [Zkq hi] at hv1 hv2;go_in;go_wp2;refine wp_loop_rounds 4 ?_;rw [Yba];go_wp2_with fail;refine (Zkw s (i+1) _).mono ?_;rintro e w1 ⟨rfl,rfl⟩;rw [if_pos hg,hgd];go_wp2;rw [Yba];go_wp2_with fail;refine (Zkw s (i+2) _).mono ?_;rintro e w1 ⟨rfl,rfl⟩;rw [if_pos hk,hkd];go_wp2;rw [Yba];go_wp2;refine Yaf (v:=pieceV i 1 65533 true) ?_ rfl ⟨rfl,(Yab _ _).alloc Zs _⟩;simp [results,Tryz.results111,go_sem,pieceV]
end Go.Proofs.YtikannmgllejfaaGreatDoor
