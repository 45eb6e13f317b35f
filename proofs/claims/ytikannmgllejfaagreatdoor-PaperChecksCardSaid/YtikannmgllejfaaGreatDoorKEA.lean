/- What expressions come to: it may be a value always; texts pu. -/
import Derived.Test.YtikannmgllejfaaGreatDoorKVb
import Derived.Test.YtikannmgllejfaaGreatDoorKVc
import Derived.Lib.MapLaws
set_option maxHeartbeats 2000000
set_option maxRecDepth 1000000
set_option linter.all false
namespace Go.Proofs.YtikannmgllejfaaGreatDoor
open Go.RowKit Pal
theorem ZdZ {w:World} {a:Option Addr} {n cap:Nat} {xs:List Int} (t:IntsV (gh w) (.slice a n cap) xs) {j:Nat} {x:Int} (hj:xs[j]?=some x):∃ b off,a=some ⟨b,off,none⟩/\w.cell? ⟨b,off+j,none⟩=some (.int .i64 x):=by obtain ⟨a',cap',hv,hn,hl,hx⟩:=t;simp only [Yaq] at hv;obtain ⟨rfl,rfl,rfl⟩:=hv;obtain ⟨b,off,ha,hc⟩:=hx j x hj;rw [Zad] at hc;exact ⟨b,off,ha,hc⟩
theorem Zd0 {h:GH} {v:Value} {xs:List Int} (t:IntsV h v xs):∃ a cap,v = .slice a xs.length cap/\xs.length<=17592186044416:=by obtain ⟨a,cap,hv,_,hl,_⟩:=t; exact ⟨a,cap,hv,hl⟩
theorem Zd1 (ts:List Int) (s:Bs):findT [] ts s=0:=by unfold findT; rfl
theorem Zd2 {m s:Bs} {ms:List Bs} {ts:List Int} (h:m=s):findT (m::ms) ts s=(match ts with|t::_=>if 1<=t/\t<=3 then t else 0|[]=>0):=by rw [findT.eq_def]; simp only; rw [if_pos h]; cases ts<;>rfl
theorem Zd3 {m s:Bs} {ms:List Bs} {ts:List Int} (h:¬ m=s):findT (m::ms) ts s=findT ms ts.tail s:=by rw [findT.eq_def]; simp only; rw [if_neg h]
def findPost (t:Int) (w:World) (e:Ending) (w':World):Prop:=e = .returned (.tuple #[.int .i64 t,.bool (decide (t≠0))])/\w=w'
theorem Zd4 (s:Bs) (names:List Bs) (types:List Int) (nv tv:Value) (w:World) (hN:StrsV (gh w) nv names) (hT:IntsV (gh w) tv types) :
 Calls Tryz.prog 122 #[strV s,nv,tv] w (findPost (findT names types s) w):=by
 obtain ⟨na,nc,rfl⟩:=hN.form;obtain ⟨ta,tc,rfl,htl⟩:=Zd0 hT;have hnl:names.length<=9223372036854775807:=by obtain ⟨_,_,hv,_,h1,h2,_⟩:=hN;simp only [Yaq] at hv;unfold maxLen at h2;omega
 obtain ⟨R,hR⟩:∃ R,findT names types s=R:=⟨_,rfl⟩;rw [hR];have HR:=Zq hR;clear hR;unfold strV;go_in;go_wp2;go_step3;go_wp2;go_step3;go_wp2;go_loopg [8,13] names.length (fun g m i wr=>∃ k:Nat,m = .int .i64 (-1)/\i = .int .i64 k/\k+g=names.length/\wr=w/\Hid (findT (names.drop k) (types.drop k) s=R));case atStart=>exact ⟨0,rfl,rfl,by omega,rfl,Zq HR.out⟩
 case round =>
  obtain ⟨k,rfl,rfl,hg,rfl,HC⟩:=hrel;have k0:¬ ((k:Int)<0):=(by omega);have k1:decide ((k:Int)<0)=false:=Yaj k0;by_cases hlt:k<names.length
  . obtain ⟨b,off,rfl,c0⟩:=hN.at (Yad hlt);unfold strV at c0;have hdr:names.drop k=names[k]::names.drop (k+1):=Yas hlt;by_cases hs:names[k]=s
    . have hc:=HC.out;rw [hdr,Zd2 hs] at hc;have q:(names[k] == s)=true:=(by simp [hs]);by_cases hlt2:k<types.length
      . rw [Yas hlt2] at hc;simp only at hc;obtain ⟨b2,off2,rfl,c2⟩:=ZdZ hT (Yad hlt2);generalize types[k]=t at *;have HD:=Zq hc;have q2:(decide (types.length<=k))=false:=Yaj (by omega);have q3:¬ types.length<=k:=(by omega);clear hc hdr HC hN hT;by_cases h1:1<=t
        . by_cases h2:t<=3
          . have HE:Hid (R=t):=Zq (by rw [<-HD.out,if_pos ⟨h1,h2⟩]);have HF:Hid (decide (t≠0)=true):=Zq (Yam (by omega));clear hs;go_wp2;(try rw [Yae]);go_ret2;refine ⟨?_,rfl⟩;rw [HE.out,HF.out]; rfl
          . have HE:Hid (R=0):=Zq (by rw [<-HD.out,if_neg (fun h=>h2 h.2)]);have h3:3<t:=(by omega);clear hs h2;go_wp2;(try rw [Yae]);go_ret2;(refine ⟨?_,rfl⟩; rw [HE.out]; rfl)
        . have HE:Hid (R=0):=Zq (by rw [<-HD.out,if_neg (fun h=>h1 h.1)]);have h3:t<1:=(by omega);clear hs h1;go_wp2;(try rw [Yae]);go_ret2;(refine ⟨?_,rfl⟩; rw [HE.out]; rfl)
      . rw [Yar (by omega)] at hc;have HE:Hid (R=0):=Zq (by rw [<-hc]);have q3:types.length<=k:=(by omega);clear hc hdr HC hs hN hT;go_wp2;(try rw [Yae]);go_ret2;(refine ⟨?_,rfl⟩; rw [HE.out]; rfl)
    . have hc:=HC.out;rw [hdr,Zd3 hs,List.tail_drop] at hc;have HD:=Zq hc;have q:(names[k] == s)=false:=ZcO hs;clear hc hdr HC hs;go_wp2;go_roundg (gk - 1);(case rel=>exact ⟨k+1,rfl,by go_num,by omega,rfl,Zq HD.out⟩);case measure=>omega
  . have HE:Hid (R=0):=Zq (by rw [<-HC.out,Yar (by omega),Zd1]);clear HC;go_wp2;(try rw [Yae]);go_ret2;(refine ⟨?_,rfl⟩; rw [HE.out]; rfl)
def madePost (t:Int) (w:World) (e:Ending) (w':World):Prop:=e = .returned (.int .i64 t)/\Below w.heap.size w w'
theorem Zd5 {t u:Int} (h:t=u) {w w':World} (hb:Below w.heap.size w w'):madePost u w (.returned (.int .i64 t)) w':=⟨by rw [h],hb⟩
theorem Zd6 {op n:Int} {s:Bs} {ks:List Ex} (h:alone op n s ks=true):(ks.length:Int)=arity op:=by unfold alone at h;rw [Bool.and_eq_true,decide_eq_true_eq] at h;exact h.1
theorem Zd7 {l:Bs} (hn:l≠[]) (h:¬ (rn l=65533/\wd l=1)):Lib.encodeRune (rn l)=l.take (wd l):=by have:=Lib.encode_decode l hn (by rw [Zbg]; intro hh; exact h ⟨by unfold rn; omega,hh.2⟩);rw [Zbg] at this;exact this
theorem Zd8 {l:Bs} (hn:l≠[]) (h:val l=true):Lib.encodeRune (rn l)=l.take (wd l)/\l=Lib.encodeRune (rn l)++l.drop (wd l)/\val (l.drop (wd l))=true/\scalar (rn l):=by
 rw [ZbA hn] at h;by_cases hc:rn l=65533/\wd l=1
 . rw [if_pos hc] at h; cases h
 . rw [if_neg hc] at h;have e:=Zd7 hn hc;exact ⟨e,by rw [e,List.take_append_drop],h,Zbq l⟩
theorem Zd9:∀ (n:Nat) (l:Bs),l.length<=n->l.length<=4*cnt l:=by
 intro n;induction n with
 | zero=>intro l h; omega
 | succ n ih =>
  intro l h;by_cases hn:l=[]
  . subst hn; simp
  have h1:=ih (l.drop (wd l)) (by have:=ZaX hn; omega);have h2:=ZaR l;rw [Zbv hn];rw [Yav] at h1;omega
theorem Zea:∀ (n:Nat) (a:Bs),a.length<=n->val a=true->∀ b,val (a++b)=val b/\cnt (a++b)=cnt a+cnt b:=by
 intro n;induction n with
 | zero=>intro a ha _ b; obtain rfl:=List.length_eq_zero_iff.1 (Nat.le_zero.1 ha); simp [Zbu]
 | succ n ih =>
  intro a ha hv b;by_cases hn:a=[]
  . subst hn; simp [Zbu]
  obtain ⟨-,he,hv',hs⟩:=Zd8 hn hv;have hlt:=ZaX hn;obtain ⟨i1,i2⟩:=ih (a.drop (wd a)) (by omega) hv' b;have e:a++b=Lib.encodeRune (rn a)++(a.drop (wd a)++b):=(by rw [<-List.append_assoc,<-he]);rw [e,ZbB hs,Zbx hs,i1,i2,Zbv hn];exact ⟨rfl,by omega⟩
theorem Zeb {a:Bs} (h:val a=true) (b:Bs):val (a++b)=val b:=(Zea _ a Zs h b).1
theorem Zec (n:Nat):takeP n []=[]:=by cases n<;>simp [takeP]
theorem Zed {n:Nat} {l:Bs} (hn:l≠[]):takeP (n+1) l=l.take (wd l)++takeP n (l.drop (wd l)):=by rw [takeP,if_neg hn]
theorem Zee:∀ (n:Nat) (l:Bs),val l=true->val (takeP n l)=true/\cnt (takeP n l)<=n/\cnt (takeP n l)<=cnt l
 | 0,l,_=>by simp [takeP,Zbz,Zbu]
 | n+1,l,hv=>by
  by_cases hn:l=[]
  . subst hn; rw [Zec]; simp [Zbz,Zbu]
  obtain ⟨he,-,hv',hs⟩:=Zd8 hn hv
  obtain ⟨i1,i2,i3⟩:=Zee n _ hv'
  rw [Zed hn,<-he,ZbB hs,Zbx hs,Zbv hn]
  exact ⟨i1,by omega,by omega⟩
theorem Zeg {r:Int} (h:scalar r):scalar (upr r):=by
 unfold upr scalar at *;split
 . omega
 . split<;>omega
theorem Zeh:∀ (f:Nat) (l:Bs),l.length<=f->val l=true->val (foldF f l)=true/\cnt (foldF f l)=cnt l:=by
 intro f;induction f with
 | zero=>intro l hl _; obtain rfl:=List.length_eq_zero_iff.1 (Nat.le_zero.1 hl); simp [foldF,Zbz,Zbu]
 | succ f ih =>
  intro l hl hv;by_cases hn:l=[]
  . subst hn; simp [foldF,Zbz,Zbu]
  obtain ⟨-,-,hv',hs⟩:=Zd8 hn hv;have hlt:=ZaX hn;obtain ⟨i1,i2⟩:=ih (l.drop (wd l)) (by omega) hv';have hne:¬ (rn l=65533/\wd l=1):=(by intro hc;rw [ZbA hn,if_pos hc] at hv;cases hv);unfold foldF;rw [if_neg hn,if_neg hne,ZbB (Zeg hs),Zbx (Zeg hs),i1,i2,Zbv hn];exact ⟨rfl,rfl⟩
theorem Zei {s:Bs} (hv:val s=true) (hc:cnt s<=100):textOk s=true:=by unfold textOk;have:=Zd9 _ s Zs;simp [hv,hc];omega
theorem Zej {s:Bs} (h:textOk s=true):s.length<=400/\val s=true/\cnt s<=100:=by unfold textOk at h;simp at h;exact ⟨h.1.1,h.1.2,h.2⟩
inductive VOk:Val->Prop
 | nil:VOk vNil
 | int (n:Int) (h : -9223372036854775808<=n/\n<=9223372036854775807):VOk (vInt n)
 | bool (b:Bool):VOk (vBool b)
 | text (s:Bs) (h:textOk s=true):VOk (vText s)
 | bad (n:Int) (h:1<=n/\n<=4):VOk (vBad n)
theorem VOk.of {v:Val} (h:okV v=true) (hn : -9223372036854775808<=v.n/\v.n<=9223372036854775807):VOk v:=by
 obtain ⟨k,n,s⟩:=v;unfold okV at h;simp only at h hn;by_cases h0:k=0
 . subst h0; simp at h; obtain ⟨rfl,rfl⟩:=h; exact .nil
 by_cases h1:k=1
 . subst h1; simp at h; subst h; exact .int n hn
 by_cases h2:k=2
 . subst h2; simp at h; obtain ⟨h,rfl⟩:=h;rcases h with rfl|rfl
   . exact .bool false
   . exact .bool true
 by_cases h3:k=3
 . subst h3; simp at h; obtain ⟨rfl,h⟩:=h; exact .text s h
 by_cases h4:k=4
 . subst h4; simp at h; obtain ⟨h,h',rfl⟩:=h; exact .bad n ⟨h,h'⟩
 rw [if_neg h0,if_neg h1,if_neg h2,if_neg h3,if_neg h4] at h;cases h
theorem VOk.ok {v:Val} (h:VOk v):okV v=true:=by
 cases h with
 | nil=>rfl
 | int n h=>simp [okV,vInt]
 | bool b=>cases b<;>simp [okV,vBool]
 | text s h=>simp [okV,vText,h]
 | bad n h=>simp [okV,vBad,h]
theorem look_ok (names:List Bs):∀ (vals:List Val) (s:Bs),(∀ v∈vals,-9223372036854775808<=v.n/\v.n<=9223372036854775807)->VOk (look names vals s):=by
 induction names with
 | nil=>intro vals s _; unfold look; exact .nil
 | cons m ms ih =>
  intro vals s h;unfold look;split
  . cases vals with
    | nil=>exact .nil
    | cons v vs =>
     simp only;split
     . exact .of (by assumption) (h v (by simp))
     . exact .nil
  . exact ih _ _ (fun v hv=>h v (List.mem_of_mem_tail hv))
inductive Good:Ex->Prop
 | mk (op n:Int) (s:Bs) (ks:List Ex) (ha:alone op n s ks=true) (hn : -9223372036854775808<=n/\n<=9223372036854775807) (hk:∀ k∈ks,Good k):Good (.mk op n s ks)
theorem Zek:∀ (e:Ex) (deep left:Nat),Fine e->(chk e deep left).isSome=true->Good e:=by
 intro e;refine Ex.ind (P:=fun e=>∀ (deep left:Nat),Fine e->(chk e deep left).isSome=true->Good e) ?_ e;intro op n s ks ih deep left hF h;by_cases hc:left=0\/24<deep\/alone op n s ks=false
 . rw [Zdn hc] at h; cases h
 . rw [Zdo hc] at h;have ha:alone op n s ks=true:=by
    cases hb:alone op n s ks with
    | true=>rfl
    | false=>exact absurd (.inr (.inr hb)) hc
   have hFk:=hF.kids.2;have hFn : -9223372036854775808<=n/\n<=9223372036854775807:=(by cases hF; assumption);refine .mk op n s ks ha hFn ?_;have go:∀ (l:List Ex),(∀ k∈l,k∈ks)->∀ left,(chkL l (deep+1) left).isSome=true->∀ k∈l,Good k:=by
    intro l;induction l with
    | nil=>intro _ _ _ k hk; cases hk
    | cons a t iht =>
     intro hm left h k hk;rw [Zdm] at h;cases hca:chk a (deep+1) left with
     | none=>rw [hca] at h; cases h
     | some m =>
      rw [hca,Option.bind_some] at h;rcases Ybc.1 hk with rfl|hk
      . exact ih k (hm k (by simp)) _ _ (hFk k (hm k (by simp))) (by rw [hca]; rfl)
      . exact iht (fun x hx=>hm x (by simp [hx])) m h k hk
   exact go ks (fun _ h=>h) _ h
theorem Zel {e:Ex} (hF:Fine e) (h:check e=true):Good e:=Zek e 1 128 hF h
theorem Zem {v:Val} (h:VOk v) (ks:List Int):(∃ u,need v ks = .error u/\VOk u)\/(need v ks = .ok v/\v.k∈ks):=by
 unfold need;split
 . exact .inl ⟨v,rfl,h⟩
 . split
   . rename_i h1 h2; exact .inr ⟨rfl,by simpa using h2⟩
   . exact .inl ⟨_,rfl,.bad 3 (by decide)⟩
theorem VOk.k1 {v:Val} (h:VOk v) (hk:v.k=1):∃ n,v=vInt n /\ -9223372036854775808<=n/\n<=9223372036854775807:=by
 cases h with
 | int n h=>exact ⟨n,rfl,h⟩
 | nil=>cases hk
 | bool b=>cases hk
 | text s h=>cases hk
 | bad n h=>cases hk
theorem VOk.k2 {v:Val} (h:VOk v) (hk:v.k=2):∃ b,v=vBool b:=by
 cases h with
 | bool b=>exact ⟨b,rfl⟩
 | nil=>cases hk
 | int n h=>cases hk
 | text s h=>cases hk
 | bad n h=>cases hk
theorem VOk.k3 {v:Val} (h:VOk v) (hk:v.k=3):∃ s,v=vText s/\textOk s=true:=by
 cases h with
 | text s h=>exact ⟨s,rfl,h⟩
 | nil=>cases hk
 | int n h=>cases hk
 | bool b=>cases hk
 | bad n h=>cases hk
theorem Zen (x:Int):VOk (fitM x):=by
 unfold fitM;split
 . exact .int x (by assumption)
 . exact .bad 1 (by decide)
theorem Zeo {a:Int} (b:Int) (h : -9223372036854775808<=a/\a<=9223372036854775807) : -9223372036854775808<=a.tmod b/\a.tmod b<=9223372036854775807:=by
 have h1:(a.tmod b).natAbs<=a.natAbs:=by rw [Int.natAbs_tmod]; exact Nat.mod_le _ _
 by_cases ha:0<=a
 . have h2:=Int.tmod_nonneg b ha;omega
 . have h2:=Int.tmod_nonneg b (a := -a) (by omega);rw [Int.neg_tmod] at h2;omega
theorem Zep {op a b:Int} (ha : -9223372036854775808<=a/\a<=9223372036854775807):VOk (arith op a b):=by
 unfold arith;split
 . exact Zen _
 split
 . exact Zen _
 split
 . exact Zen _
 split
 . exact .bad 2 (by decide)
 split
 . exact Zen _
 . exact .int _ (Zeo b ha)
theorem Zeq {op:Int} {a b:Val} (ha:VOk a) (hb:VOk b):VOk (numM op a b):=by
 unfold numM;rcases Zem ha [1] with ⟨u,hu,hk⟩|⟨hu,hk⟩
 . rw [hu]; exact hk
 rw [hu];simp only;split
 . exact Zen _
 rcases Zem hb [1] with ⟨u,hu,hk'⟩|⟨hu,hk'⟩
 . rw [hu]; exact hk'
 rw [hu];simp only;obtain ⟨n,rfl,hn⟩:=ha.k1 (by simpa using hk);exact Zep hn
theorem Zer {s:Bs} (h:val s=true):VOk (longM s):=by
 unfold longM;split
 . exact .bad 4 (by decide)
 . exact .text s (Zei h (by omega))
theorem Zes {op:Int} {a b:Val} (ha:VOk a) (hb:VOk b):VOk (textM op a b):=by
 unfold textM;rcases Zem ha [3] with ⟨u,hu,hk⟩|⟨hu,hk⟩
 . rw [hu]; exact hk
 rw [hu];simp only;obtain ⟨s,rfl,hs⟩:=ha.k3 (by simpa using hk);obtain ⟨s1,s2,s3⟩:=Zej hs;split
 . refine .int _ ?_;simp only [vText];omega
 split
 . exact Zer (Zeh _ _ Zs s2).1
 split
 . rcases Zem hb [1] with ⟨u,hu,hk'⟩|⟨hu,hk'⟩
   . rw [hu]; exact hk'
   rw [hu];exact Zer (Zee _ _ s2).1
 . rcases Zem hb [3] with ⟨u,hu,hk'⟩|⟨hu,hk'⟩
   . rw [hu]; exact hk'
   rw [hu];obtain ⟨t,rfl,ht⟩:=hb.k3 (by simpa using hk');exact Zer ((Zeb s2 t).trans (Zej ht).2.1)
theorem Zet {op:Int} {a b c:Val} (ha:VOk a) (hb:VOk b) (hc:VOk c):VOk (truthM op a b c):=by
 unfold truthM;split
 . rcases Zem ha [2] with ⟨u,hu,hk⟩|⟨hu,hk⟩
   . rw [hu]; exact hk
   rw [hu];simp only;split
   . exact .bool _
   split
   . split
     . exact hb
     . exact hc
   split
   . exact .bool _
   . rcases Zem hb [2] with ⟨u,hu,hk'⟩|⟨hu,hk'⟩
     . rw [hu]; exact hk'
     . rw [hu]; exact hb
 . rcases Zem ha (if op=14\/op=15 then [1,3] else [1,3,2]) with ⟨u,hu,hk⟩|⟨hu,hk⟩
   . rw [hu]; exact hk
   rw [hu];simp only;rcases Zem hb [a.k] with ⟨u,hu,hk'⟩|⟨hu,hk'⟩
   . rw [hu]; exact hk'
   rw [hu];simp only
   repeat' split
   all_goals exact .bool _
theorem Zeu (ρ:Bs->Val) (op n:Int) (s:Bs) (ks:List Ex):ev ρ (.mk op n s ks)=evOp ρ op n s ks ((evL ρ ks).getD 0 vNil) ((evL ρ ks).getD 1 vNil) ((evL ρ ks).getD 2 vNil):=by rw [ev]
theorem Zev (ρ:Bs->Val):evL ρ []=[]:=by rw [evL]
theorem Zew (ρ:Bs->Val) (k:Ex) (ks:List Ex):evL ρ (k::ks)=ev ρ k::evL ρ ks:=by rw [evL]
theorem Zex {ρ:Bs->Val} (hρ:∀ s,VOk (ρ s)) (e:Ex):Good e->VOk (ev ρ e):=by
 refine Ex.ind (P:=fun e=>Good e->VOk (ev ρ e)) ?_ e;intro op n s ks ih hG;cases hG with
 | mk _ _ _ _ ha hn hk =>
 have hkid:∀ (l:List Ex),(∀ k∈l,k∈ks)->∀ i,VOk ((evL ρ l).getD i vNil):=by
  intro l;induction l with
  | nil=>intro _ i; rw [Zev]; simp; exact .nil
  | cons a t iht =>
   intro hm i;rw [Zew];cases i with
   | zero=>simpa using ih a (hm a (by simp)) (hk a (hm a (by simp)))
   | succ i=>simpa using iht (fun x hx=>hm x (by simp [hx])) i
 have h0:=hkid ks (fun _ h=>h) 0;have h1:=hkid ks (fun _ h=>h) 1;have h2:=hkid ks (fun _ h=>h) 2;rw [Zeu];generalize (evL ρ ks).getD 0 vNil=a at *;generalize (evL ρ ks).getD 1 vNil=b at *;generalize (evL ρ ks).getD 2 vNil=c at *;unfold evOp;have hl:=Zd6 ha;split
 . exact .int n hn
 split
 . rename_i h; subst h;rw [Zdb hl,Bool.and_eq_true] at ha;exact .text s ha.2
 split
 . exact .bool _
 split
 . exact hρ s
 split
 . exact .bool _
 split
 . exact Zeq h0 h1
 split
 . exact Zes h0 h1
 . exact Zet h0 h1 h2
def strRet (l:Bs) (w:World) (e:Ending) (w':World):Prop:=e = .returned (strV l)/\Below w.heap.size w w'
theorem Zey {w:World} {b:Nat} (l:List Int) (T:TypeId) (h:w.heap[b]?=some (.cells (l.map (Value.int .i64)).toArray T (0,0))) (hm:l.length<=17592186044416):IntsV (gh w) (.slice (some ⟨b,0,none⟩) l.length l.length) l:=by refine ⟨_,_,rfl,fun h=>(by cases h),hm,fun j s hj=>⟨b,0,rfl,?_⟩⟩;rw [Zad];simp [World.cell?,h,hj]
def boxV (v:Val):Value :=
 if v.k=0 then .nilIface
 else if v.k=1 then .iface 2 (.int .i64 v.n)
 else if v.k=2 then .iface 4 (.bool (decide (v.n=1)))
 else if v.k=3 then .iface 9 (strV v.s)
 else .iface 48 (valV v)
theorem Zez:boxV vNil = .nilIface:=rfl
theorem ZeA (n:Int):boxV (vInt n) = .iface 2 (.int .i64 n):=rfl
theorem ZeB (b:Bool):boxV (vBool b) = .iface 4 (.bool b):=by cases b<;>rfl
theorem ZeC (s:Bs):boxV (vText s) = .iface 9 (strV s):=rfl
theorem ZeD (n:Int):boxV (vBad n) = .iface 48 (.agg #[.int .i64 4,.int .i64 n,.string ⟨#[]⟩]):=rfl
def ValsV (h:GH) (v:Value) (l:List Val):Prop:=∃ a cap,v = .slice a l.length cap/\(a=none->l=[])/\l.length<=cap/\cap<=maxLen /\
 ∀ j x,l[j]?=some x->∃ b off,a=some ⟨b,off,none⟩/\h.cell b (off+j*3)=some (.int .i64 x.k)/\h.cell b (off+j*3+1)=some (.int .i64 x.n)/\h.cell b (off+j*3+2)=some (strV x.s)
theorem ValsV.mono {h h':GH} (l:h.le h') {v:Value} {ss:List Val} (s:ValsV h v ss):ValsV h' v ss:=by obtain ⟨a,cap,hv,hn,hc,hm,hx⟩:=s;exact ⟨a,cap,hv,hn,hc,hm,fun j s hj=>let ⟨b,off,ha,h1,h2,h3⟩:=hx j s hj; ⟨b,off,ha,l.cell h1,l.cell h2,l.cell h3⟩⟩
theorem ValsV.form {h:GH} {v:Value} {ss:List Val} (t:ValsV h v ss):∃ a cap,v = .slice a ss.length cap/\ss.length<=cap/\cap<=9223372036854775807:=by obtain ⟨a,cap,hv,_,h1,h2,_⟩:=t;unfold maxLen at h2;exact ⟨a,cap,hv,h1,by omega⟩
theorem ValsV.at {w:World} {a:Option Addr} {n cap:Nat} {ss:List Val} (t:ValsV (gh w) (.slice a n cap) ss) {j:Nat} {x:Val} (hj:ss[j]?=some x) :
 ∃ b off,a=some ⟨b,off,none⟩/\w.cell? ⟨b,off+j*3,none⟩=some (.int .i64 x.k)/\w.cell? ⟨b,off+j*3+1,none⟩=some (.int .i64 x.n)/\w.cell? ⟨b,off+j*3+2,none⟩=some (strV x.s):=by obtain ⟨a',cap',hv,hn,hc,hm,hx⟩:=t;simp only [Yaq] at hv;obtain ⟨rfl,rfl,rfl⟩:=hv;obtain ⟨b,off,ha,h1,h2,h3⟩:=hx j x hj;rw [Zad] at h1 h2 h3;exact ⟨b,off,ha,h1,h2,h3⟩
theorem ZeE (h:GH):ValsV h (.slice none 0 0) []:=⟨none,0,rfl,fun _=>rfl,Nat.le_refl _,by simp [maxLen],fun j x hj=>by simp at hj⟩
theorem ValsV.one {w:World} {b:Nat} {x:Val} {T:TypeId} (h:w.heap[b]?=some (.cells #[.int .i64 x.k,.int .i64 x.n,strV x.s] T (0,0))):ValsV (gh w) (.slice (some ⟨b,0,none⟩) 1 1) [x]:=by
 refine ⟨_,1,rfl,fun h=>(by cases h),Nat.le_refl _,by simp [maxLen],fun j y hj=>⟨b,0,rfl,?_⟩⟩
 match j,hj with
 | 0,hj=>simp at hj; subst hj; simp [GH.cell,gh,h]
def VFine (l:List Val):Prop:=∀ v∈l,(-9223372036854775808<=v.n/\v.n<=9223372036854775807)/\v.s.length<=9223372036854775806
structure WithV (W:World) (p:Nat) (names:List Bs) (vals:List Val):Prop where
 lay:Lay (gh W)
 fine:VFine vals
 cell:∃ nv vv,W.heap[p]?=some (.cells #[nv,vv] 130 (0,0))/\StrsV (gh W) nv names/\ValsV (gh W) vv vals
theorem WithV.keep {W W':World} {p:Nat} {names:List Bs} {vals:List Val} (h:WithV W p names vals) (hb:Below W.heap.size W W'):WithV W' p names vals:=by obtain ⟨hl,hf,nv,vv,hc,hn,hv⟩:=h;have hp:p<W.heap.size:=(Yaa.1 hc).1;exact ⟨hl.below hb,hf,nv,vv,(hb.block _ hp).trans hc,hn.mono (Zah hb),hv.mono (Zah hb)⟩
theorem WithV.ok {W:World} {p:Nat} {names:List Bs} {vals:List Val} (h:WithV W p names vals) (s:Bs):VOk (look names vals s):=look_ok names vals s (fun v hv=>(h.fine v hv).1)
theorem ZeF {W:World} {B:Nat} {x0 x1:Value} {T:TypeId} (h:W.heap[B]?=some (.cells #[x0,x1] T (0,0))) :
 W.cell? ⟨B,0,none⟩=some x0/\W.cell? ⟨B,1,none⟩=some x1/\B<W.heap.size:=by refine ⟨by simp [World.cell?,h],by simp [World.cell?,h],(Yaa.1 h).1⟩
def boxPost (v:Val) (w:World) (e:Ending) (w':World):Prop:=e = .returned (boxV v)/\Below w.heap.size w w'
def EvP (names:List Bs) (vals:List Val) (e:Ex):Prop:=∀ (v:Value) (W:World) (p:Nat),WithV W p names vals->KV (gh W) v e.ks ->
 Calls Tryz.prog 83 #[.pointer (some ⟨p,0,none⟩),exV e.op e.n e.s v] W (boxPost (ev (look names vals) e) W)
def needV (r:Except Val Val):Val:=match r with | .ok v=>v | .error v=>v
def needB (r:Except Val Val):Bool:=match r with | .ok _=>true | .error _=>false
def needPost (r:Except Val Val) (w:World) (e:Ending) (w':World):Prop:=e = .returned (.tuple #[boxV (needV r),.bool (needB r)])/\Below w.heap.size w w'
theorem ZeG {W:World} {B:Nat} {x0 x1 x2:Value} {T:TypeId} (h:W.heap[B]?=some (.cells #[x0,x1,x2] T (0,0))) :
 (W.cell? ⟨B,0,none⟩=some x0/\W.cell? ⟨B,1,none⟩=some x1/\W.cell? ⟨B,2,none⟩=some x2)/\(W.frozen? ⟨B,0,none⟩=false/\W.frozen? ⟨B,1,none⟩=false/\W.frozen? ⟨B,2,none⟩=false):=by simp [World.cell?,World.frozen?,h]
theorem ZeH {W:World} {B:Nat} {x0 x1 x2:Value} {T:TypeId} (h:W.heap[B]?=some (.cells #[x0,x1,x2] T (0,0))) (y0 y1 y2:Value) :
 (((W.setCell ⟨B,0,none⟩ y0).setCell ⟨B,1,none⟩ y1).setCell ⟨B,2,none⟩ y2).heap[B]?=some (.cells #[y0,y1,y2] T (0,0)):=by simp [World.setCell,Yap,h]
theorem ZeJ {n:Nat} {a W:World} (h:Below n a W) {B:Nat} (hB:n<=B) (y0 y1 y2:Value):Below n a (((W.setCell ⟨B,0,none⟩ y0).setCell ⟨B,1,none⟩ y1).setCell ⟨B,2,none⟩ y2) :=
 ((h.setCell (p:=⟨B,0,none⟩) hB _).setCell (p:=⟨B,1,none⟩) hB _).setCell (p:=⟨B,2,none⟩) hB _
end Go.Proofs.YtikannmgllejfaaGreatDoor
