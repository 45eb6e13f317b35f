/- The copy of palaverlaw00. -/
import Derived.Test.YtikannmgllejfaaGreatDoorKTY
import Derived.Test.YtikannmgllejfaaGreatDoorKE15
import Derived.Test.YtikannmgllejfaaGreatDoorKR1
import Derived.Deep.RegionHeld3
import Derived.Test.YtikannmgllejfaaGreatDoorKSK
import Derived.Test.YtikannmgllejfaaGreatDoorKSb
import Derived.Test.YtikannmgllejfaaGreatDoorKR4
import Derived.Test.YtikannmgllejfaaGreatDoorKVp
import Derived.ProofKit
import Derived.OpenShut
import Derived.SliceStrings
import Derived.Test.YtikannmgllejfaaGreatDoorRows
import Derived.JoinedOf
set_option maxHeartbeats 8000000
set_option maxRecDepth 1000000
set_option linter.all false
namespace Go.Proofs.YtikannmgllejfaaGreatDoor
open Go.RowKit Pal
theorem ZqB (x:Val) (t:Int) (w:World) (hs:x.s.length<=9223372036854775807) :
 Calls Tryz.prog 19 #[.agg #[.int .i64 x.k,.int .i64 x.n,.string ⟨x.s.toArray⟩],.int .i64 t] w fun e w'=>e = .returned (.bool (fitsV x t))/\Below w.heap.size w w':=by
 have K0:=Zq ((Kept.start w).new (.cells #[.int .i64 x.k,.int .i64 x.n,.string ⟨x.s.toArray⟩] 48));have hc:=fun W=>ZlU x.k x.n x.s W hs;unfold strV at hc;obtain ⟨ok,hok⟩:∃ b,okV ⟨x.k,x.n,x.s⟩=b:=⟨_,rfl⟩;simp only [hok] at hc;have HC:=Zq hc;have HR:Hid (fitsV x t=(ok&&(decide (x.k=0) || decide (x.k=t)))):=Zq (by unfold fitsV; rw [<-hok]);generalize fitsV x t=R at *;obtain ⟨xk,hxk⟩:∃ k,x.k=k:=⟨_,rfl⟩;obtain ⟨xn,hxn⟩:∃ k,x.n=k:=⟨_,rfl⟩;obtain ⟨xs,hxs⟩:∃ s:ByteArray,(⟨x.s.toArray⟩:ByteArray)=s:=⟨_,rfl⟩;rw [hxk,hxn,hxs] at HC K0;rw [hxk] at HR;rw [hxk,hxn,hxs];clear hc hok hxk hxn hxs hs;obtain ⟨x0,x1,x2⟩:=(ZeG K0.out.at0).1;go_in;go_wp2_with fail;refine (HC.out _).mono ?_;generalize w.alloc (.cells #[.int .i64 xk,.int .i64 xn,.string xs] 48)=W0 at *;rintro r W1 ⟨rfl,hb⟩;have K1:=Zq (K0.out.call hb);clear hb x0 x1 x2 K0;have hbF:=K1.out.below;cases ok with
 | false =>have HE:Hid (R=false):=Zq (by rw [HR.out]; rfl);clear HR;go_wp2;go_ret;exact ⟨by rw [HE.out]; rfl,hbF⟩
 | true =>
  obtain ⟨x0,x1,x2⟩:=(ZeG K1.out.at0).1;by_cases h0:xk=0
  . have HE:Hid (R=true):=Zq (by rw [HR.out,Yam h0]; rfl);have q:(xk == 0)=true:=(by simp [h0]);clear HR h0;go_wp2;go_ret;exact ⟨by rw [HE.out]; rfl,hbF⟩
  . have q:(xk == 0)=false:=Zr h0;by_cases ht:xk=t
    . have HE:Hid (R=true):=Zq (by rw [HR.out,Yam ht,Bool.or_true]; rfl);have q2:(xk == t)=true:=(by simp [ht]);clear HR h0 ht;go_wp2;go_ret;exact ⟨by rw [HE.out]; rfl,hbF⟩
    . have HE:Hid (R=false):=Zq (by rw [HR.out,Yaj h0,Yaj ht]; rfl);have q2:(xk == t)=false:=Zr ht;clear HR h0 ht;go_wp2;go_ret;exact ⟨by rw [HE.out]; rfl,hbF⟩
attribute [local go_sem ↓] Go.wp_at_zero Go.wp_at_succ
theorem FdsV.lay {w:World} {b:Nat} (l:List Fd) (T:TypeId) (h:w.heap[b]?=some (.cells (l.flatMap inCells).toArray T (0,0))) (hm:l.length<=maxLen):FdsV (gh w) (.slice (some ⟨b,0,none⟩) l.length l.length) l:=by
 refine ⟨_,_,rfl,(fun h=>by cases h),Nat.le_refl _,hm,fun j c x hj hc=>⟨b,0,rfl,?_⟩⟩;rw [Zad];have hc':(inCells l[j])[c]?=some x:=by have:(inCells (l.getD j noFd))[c]?=some x:=hc; rwa [Zgc hj] at this
 have hcl:c<5:=(Yag.1 hc').1;have hg:=ZbU inCells 5 Zj5 l j c l[j] (Yad hj) hcl;rw [cell_of_row w b _ _ T (0,0) h,Nat.zero_add];simpa [hg] using hc'
theorem ZqH (v n:Int) (hn:0<n):v.tmod n=v % n\/v.tmod n=v % n - n:=by
 have e:=Int.tmod_eq_emod (a:=v) (b:=n);by_cases hc:0<=v\/n ∣ v
 . rw [if_pos hc] at e; left; omega
 . rw [if_neg hc] at e; right; omega
theorem ZqI {v n:Int} (h:v.tmod n<0) (hn:0<n):v % n=v.tmod n+n:=by have h1:=Int.emod_nonneg v (show n≠0 by omega);rcases ZqH v n hn with e|e<;>omega
theorem ZqJ {v n:Int} (h:¬ v.tmod n<0) (hn:0<n):v % n=v.tmod n:=by have h1:v % n<n:=Int.emod_lt_of_pos v hn;have e:=ZqH v n hn;generalize v % n=x at *;generalize v.tmod n=y at *;omega
theorem ZqK (v n:Int) (hn:0<n) : -n<=v.tmod n/\v.tmod n<n:=by have h1:v % n<n:=Int.emod_lt_of_pos v hn;have h2:0<=v % n:=Int.emod_nonneg v (show n≠0 by omega);have e:=ZqH v n hn;generalize v % n=x at *;generalize v.tmod n=y at *;omega
theorem ZqL (v n:Int) (w:World) (hv : -9223372036854775808<=v/\v<=9223372036854775807) (hn:0<n) (hm:n<=1000) :
 Calls Tryz.prog 18 #[.int .i64 v,.int .i64 n] w fun e w'=>e = .returned (.int .i64 (v % n))/\w=w':=by
 obtain ⟨hv1,hv2⟩:=hv;have hb:=ZqK v n hn;obtain ⟨hb1,hb2⟩:=hb;have q0:n≠0:=by omega
 have q1:(n == 0)=false:=Zr q0;have q2:(n == -1)=false:=Zr (by omega);by_cases h:v.tmod n<0
 . have HE:=Zq (ZqI h hn);go_in;go_wp2;go_ret;exact ⟨by rw [HE.out]; rfl,rfl⟩
 . have HE:=Zq (ZqJ h hn);go_in;go_wp2;go_ret;exact ⟨by rw [HE.out]; rfl,rfl⟩
attribute [local go_sem ↓] Go.wp_at_zero Go.wp_at_succ
def form0:List Fd:=[⟨[97],1,[],[97,32,62,61,32,48],[]⟩,⟨[98],1,[],[],[]⟩,⟨[115,117,109],1,[97,43,98],[115,117,109,32,60,32,49,48,48],[]⟩,⟨[98,105,103],2,[115,117,109,32,62,32,49,48],[],[]⟩,⟨[110,111,116,101],3,[],[108,101,110,40,110,111,116,101,41,32,60,32,50,48],[98,105,103]⟩]
def form1:List Fd:=[⟨[116,111,116,97,108],1,[112,114,105,99,101,32,42,32,97,109,111,117,110,116],[116,111,116,97,108,32,60,61,32,49,48,48,48],[]⟩,⟨[112,114,105,99,101],1,[],[],[]⟩,⟨[97,109,111,117,110,116],1,[],[97,109,111,117,110,116,32,62,32,48],[]⟩,⟨[99,111,117,112,111,110],3,[],[108,101,110,40,99,111,117,112,111,110,41,32,61,32,52],[97,109,111,117,110,116,32,62,32,53]⟩]
def form2:List Fd:=[⟨[102,105,114,115,116],3,[],[],[]⟩,⟨[108,97,115,116],3,[],[],[]⟩,⟨[102,117,108,108],3,[99,97,116,40,102,105,114,115,116,44,32,99,97,116,40,34,32,34,44,32,108,97,115,116,41,41],[108,101,110,40,102,117,108,108,41,32,62,32,51],[]⟩,⟨[108,111,117,100],2,[],[],[]⟩,⟨[115,104,111,117,116],3,[117,112,40,102,117,108,108,41],[],[108,111,117,100]⟩]
def form3:List Fd:=[⟨[119],2,[122,32,62,32,51,32,124,32,120,32,61,32,48],[],[]⟩,⟨[120],1,[],[],[]⟩,⟨[121],1,[105,102,40,104,97,115,40,120,41,44,32,120,32,37,32,55,44,32,48,41],[],[]⟩,⟨[122],1,[49,48,48,32,47,32,121],[122,32,62,32,45,53,48],[]⟩]
def form4:List Fd:=[⟨[110],1,[],[110,32,60,32,53,48],[]⟩,⟨[116],3,[99,117,116,40,115,44,32,110,41],[],[]⟩,⟨[115],3,[],[],[]⟩,⟨[102],2,[116,32,61,32,115],[102],[]⟩]
def formM (n:Int):List Fd:=if n % 5=0 then form0 else if n % 5=1 then form1 else if n % 5=2 then form2 else if n % 5=3 then form3 else form4
def blkPost (l:List Fd) (w:World) (e:Ending) (w':World):Prop:=Below w.heap.size w w'/\∃ b,e = .returned (.slice (some ⟨b,0,none⟩) l.length l.length)/\w.heap.size<=b/\w'.heap[b]?=some (.cells (l.flatMap inCells).toArray 53 (0,0))
theorem ZqM (n:Int) (w:World) (hn : -9223372036854775808<=n/\n<=9223372036854775807):Calls Tryz.prog 33 #[.int .i64 n] w (blkPost (formM n) w):=by
 have HP:=Zq (fun w=>ZqL n 5 w hn (by omega) (by omega));obtain ⟨p,hp⟩:∃ p,n % 5=p:=⟨_,rfl⟩;have hp0:0<=p/\p<5:=by omega
 rw [hp] at HP;have HM:Hid (formM n=if p=0 then form0 else if p=1 then form1 else if p=2 then form2 else if p=3 then form3 else form4):=Zq (by unfold formM; rw [hp]);unfold blkPost;clear hp hn;rcases (by omega:p=0\/p=1\/p=2\/p=3\/p=4) with rfl|rfl|rfl|rfl|rfl
 . have HM2:Hid (formM n=form0):=Zq (by rw [HM.out]; rfl);have HFV:=Zq (Yac w (.cells (form0.flatMap inCells).toArray 53));have HB:=Zq ((Yab w.heap.size w).alloc Zs (.cells (form0.flatMap inCells).toArray 53));clear HM hp0;go_in;go_wp2_with fail;refine (HP.out _).mono ?_;rintro r W ⟨rfl,rfl⟩;go_wp2;(try rw [Yae]);go_ret;rw [HM2.out];exact ⟨HB.out,_,rfl,Nat.le_refl _,HFV.out⟩
 . have HM2:Hid (formM n=form1):=Zq (by rw [HM.out]; rfl);have HFV:=Zq (Yac w (.cells (form1.flatMap inCells).toArray 53));have HB:=Zq ((Yab w.heap.size w).alloc Zs (.cells (form1.flatMap inCells).toArray 53));clear HM hp0;go_in;go_wp2_with fail;refine (HP.out _).mono ?_;rintro r W ⟨rfl,rfl⟩;go_wp2;(try rw [Yae]);go_ret;rw [HM2.out];exact ⟨HB.out,_,rfl,Nat.le_refl _,HFV.out⟩
 . have HM2:Hid (formM n=form2):=Zq (by rw [HM.out]; rfl);have HFV:=Zq (Yac w (.cells (form2.flatMap inCells).toArray 53));have HB:=Zq ((Yab w.heap.size w).alloc Zs (.cells (form2.flatMap inCells).toArray 53));clear HM hp0;go_in;go_wp2_with fail;refine (HP.out _).mono ?_;rintro r W ⟨rfl,rfl⟩;go_wp2;(try rw [Yae]);go_ret;rw [HM2.out];exact ⟨HB.out,_,rfl,Nat.le_refl _,HFV.out⟩
 . have HM2:Hid (formM n=form3):=Zq (by rw [HM.out]; rfl);have HFV:=Zq (Yac w (.cells (form3.flatMap inCells).toArray 53));have HB:=Zq ((Yab w.heap.size w).alloc Zs (.cells (form3.flatMap inCells).toArray 53));clear HM hp0;go_in;go_wp2_with fail;refine (HP.out _).mono ?_;rintro r W ⟨rfl,rfl⟩;go_wp2;(try rw [Yae]);go_ret;rw [HM2.out];exact ⟨HB.out,_,rfl,Nat.le_refl _,HFV.out⟩
 . have HM2:Hid (formM n=form4):=Zq (by rw [HM.out]; rfl);have HFV:=Zq (Yac w (.cells (form4.flatMap inCells).toArray 53));have HB:=Zq ((Yab w.heap.size w).alloc Zs (.cells (form4.flatMap inCells).toArray 53));clear HM hp0;go_in;go_wp2_with fail;refine (HP.out _).mono ?_;rintro r W ⟨rfl,rfl⟩;go_wp2;(try rw [Yae]);go_ret;rw [HM2.out];exact ⟨HB.out,_,rfl,Nat.le_refl _,HFV.out⟩
theorem ZqN (n:Int):(formM n).length<=5:=by
 unfold formM;split
 . decide
 . split
   . decide
   . split
     . decide
     . split<;>decide
theorem ZqO:(match newM form0 with | .ok _=>true | .error _=>false)=true:=by kernel_rfl
theorem ZqP:(match newM form1 with | .ok _=>true | .error _=>false)=true:=by kernel_rfl
theorem ZqQ:(match newM form2 with | .ok _=>true | .error _=>false)=true:=by kernel_rfl
theorem ZqR:(match newM form3 with | .ok _=>true | .error _=>false)=true:=by kernel_rfl
theorem ZqS:(match newM form4 with | .ok _=>true | .error _=>false)=true:=by kernel_rfl
theorem ZqT (n:Int) (w:World) (hn : -9223372036854775808<=n/\n<=9223372036854775807):Calls Tryz.prog 33 #[.int .i64 n] w (fdsPost (formM n) w):=by refine (ZqM n w hn).mono ?_;rintro r W ⟨hb,b,rfl,_,h⟩;have h5:=(ZqN n);exact ⟨hb,_,rfl,FdsV.lay _ _ h (by unfold maxLen; omega)⟩
theorem ZqU {l:List Fd} (h:(match newM l with | .ok _=>true | .error _=>false)=true):∃ F,newM l = .ok F:=by
 cases hm:newM l with
 | error e=>rw [hm] at h; cases h
 | ok F=>exact ⟨F,rfl⟩
theorem ZqV (n:Int):∃ F,newM (formM n) = .ok F:=by
 unfold formM;split
 . exact ZqU ZqO
 . split
   . exact ZqU ZqP
   . split
     . exact ZqU ZqQ
     . split
       . exact ZqU ZqR
       . exact ZqU ZqS
theorem ZqW (n:Int):(formM n).length<=5/\4<=(formM n).length/\∀ f∈formM n,Short f:=by
 have hs:∀ l:List Fd,(l.all fun f=>decide (f.n.length<=1000000)&&(decide (f.fo.length<=1000000)&&(decide (f.ru.length<=1000000)&&(decide (f.sh.length<=1000000)&&(decide (-9223372036854775808<=f.t)&&decide (f.t<=9223372036854775807))))))=true->∀ f∈l,Short f:=by intro l h f hf;have:=List.all_eq_true.1 h f hf;simp only [Bool.and_eq_true,decide_eq_true_eq] at this;exact ⟨this.1,this.2.1,this.2.2.1,this.2.2.2.1,this.2.2.2.2⟩
 unfold formM;split
 . exact ⟨by decide,by decide,hs _ (by kernel_rfl)⟩
 . split
   . exact ⟨by decide,by decide,hs _ (by kernel_rfl)⟩
   . split
     . exact ⟨by decide,by decide,hs _ (by kernel_rfl)⟩
     . split
       . exact ⟨by decide,by decide,hs _ (by kernel_rfl)⟩
       . exact ⟨by decide,by decide,hs _ (by kernel_rfl)⟩
open Go Go.RowKit Go.ChangeShapes Go.WideShapes Go.ChangeAt Pal
theorem len5 {α:Type} {l:List α} (h:l.length=5):∃ a b c d e,l=[a,b,c,d,e]:=by
 match l,h with|[a,b,c,d,e],_=>exact ⟨a,b,c,d,e,rfl⟩
structure Fd0 (f:Fd):Prop where
 n:f.n.length<=9223372036854775807
 t:I64 f.t
 fo:f.fo.length<=9223372036854775807
 ru:f.ru.length<=9223372036854775807
 sh:f.sh.length<=9223372036854775807
section
variable {H : Type} {enc : TypeId × Value -> H} {W : World} {sp : Nat -> Bool} {held : Bool} {fuel : Nat} {cs : List Value} {x : DataW H × List MemPlace}
theorem ZqX {s:ByteArray} (w:s.size<=maxLen):s.data.toList.length<=9223372036854775807:=by rw [Zm5] at w;unfold maxLen at w;simpa using w
theorem ZqY (h:DataW.trod enc Tryz.prog W 0 sp held fuel 53 cs=some x):∃ f:Fd,cs=inCells f/\Fd0 f:=by obtain ⟨xs,m,_,_,hl,hsz,hf⟩:=DataW.trod_struct Tryz.underlying53 h;rw [show Tryz.prog.cellsOf 53=5 by kernel_rfl] at hl;obtain ⟨a,b,c,d,e,rfl⟩:=len5 hl;have z:xs.length=5:=hsz;have h0:DataW.trod enc Tryz.prog W 0 sp held m 9 (([a,b,c,d,e].drop 0).take (Tryz.prog.cellsOf 9))=xs[0]?:=hf 0 _ rfl;have h1:DataW.trod enc Tryz.prog W 0 sp held m 3 (([a,b,c,d,e].drop 1).take (Tryz.prog.cellsOf 3))=xs[1]?:=hf 1 _ rfl;have h2:DataW.trod enc Tryz.prog W 0 sp held m 9 (([a,b,c,d,e].drop 2).take (Tryz.prog.cellsOf 9))=xs[2]?:=hf 2 _ rfl;have h3:DataW.trod enc Tryz.prog W 0 sp held m 9 (([a,b,c,d,e].drop 3).take (Tryz.prog.cellsOf 9))=xs[3]?:=hf 3 _ rfl;have h4:DataW.trod enc Tryz.prog W 0 sp held m 9 (([a,b,c,d,e].drop 4).take (Tryz.prog.cellsOf 9))=xs[4]?:=hf 4 _ rfl;rw [Yad (by omega)] at h0 h1 h2 h3 h4;rw [show Tryz.prog.cellsOf 9=1 by kernel_rfl] at h0 h2 h3 h4;rw [show Tryz.prog.cellsOf 3=1 by kernel_rfl] at h1;obtain ⟨s0,e0,_,w0⟩:=DataW.trod_string Tryz.underlying9 h0;obtain ⟨k,e1,_,w1⟩:=DataW.trod_int Tryz.underlying3 h1;obtain ⟨s2,e2,_,w2⟩:=DataW.trod_string Tryz.underlying9 h2;obtain ⟨s3,e3,_,w3⟩:=DataW.trod_string Tryz.underlying9 h3;obtain ⟨s4,e4,_,w4⟩:=DataW.trod_string Tryz.underlying9 h4;simp at e0 e1 e2 e3 e4;subst e0 e1 e2 e3 e4;exact ⟨⟨s0.data.toList,k,s2.data.toList,s3.data.toList,s4.data.toList⟩,by simp [inCells],ZqX w0,wf_i64 w1,ZqX w2,ZqX w3,ZqX w4⟩
theorem ZqZ (h:DataW.trod enc Tryz.prog W 0 sp held fuel 22 cs=some x) :
 ∃ (v:Value) (l:List Fd),cs=[v]/\(FdsV (gh W) v l/\l.length<=9223372036854775807)/\∀ f∈l,Fd0 f:=by
 rcases Zm4 Tryz.underlying22 (c:=5) (by kernel_rfl) (by decide) h with he|⟨ad,len,cap,n',hn',he,hlc,hcm,hel⟩
 . exact ⟨_,[],he,⟨⟨none,0,rfl,fun _=>⟨rfl,rfl⟩,Nat.le_refl _,by simp [maxLen],fun j c x hj=>by simp at hj⟩,by simp⟩,by simp⟩
 . have hq:∀ i,∃ q:Fd,i<len->ad=⟨ad.block,ad.off,none⟩/\(∀ j,j<5->W.cell? ⟨ad.block,ad.off+i*5+j,none⟩=(inCells q)[j]?)/\Fd0 q:=by
    intro i;by_cases hi:i<len
    . obtain ⟨ha,ci,y,hcl,hy,hcells⟩:=hel i hi;obtain ⟨v,rfl,hv⟩:=ZqY hy;exact ⟨v,fun _=>⟨ha,hcells,hv⟩⟩
    . exact ⟨noFd,fun h=>absurd h hi⟩
   obtain ⟨q,hq⟩:=Classical.axiomOfChoice hq;have hlen:((List.range len).map q).length=len:=(by simp);have hcm2:len<=9223372036854775807:=(by unfold maxLen at hcm; omega);have hget:∀ (j:Nat) (k:Fd),((List.range len).map q)[j]?=some k->j<len/\k=q j:=(by intro j k hj;have hlt:=(Yag.1 hj).1;rw [hlen] at hlt;rw [Yax,List.getElem?_range hlt] at hj;simp at hj;exact ⟨hlt,hj.symm⟩);refine ⟨_,(List.range len).map q,he,⟨⟨some ad,cap,by rw [hlen],(fun h=>by cases h),by rw [hlen]; exact hlc,hcm,fun j c x hj hc=>?_⟩,by rw [hlen]; exact hcm2⟩,fun k hk=>?_⟩
   . have hjl:j<len:=(by rwa [hlen] at hj);have hd:((List.range len).map q).getD j noFd=q j:=(by simp [List.getD,hjl]);have hc':(inCells (q j))[c]?=some x:=(by rw [<-hd]; exact hc);have hcl:c<5:=(Yag.1 hc').1;obtain ⟨ha,hcc,_⟩:=hq j hjl;refine ⟨ad.block,ad.off,by rw [<-ha],?_⟩;rw [Zad,show ad.off+(5*j+c)=ad.off+j*5+c by omega,hcc c hcl];exact hc'
   . obtain ⟨j,hj⟩:=List.getElem?_of_mem hk;obtain ⟨hlt,rfl⟩:=hget j k hj;exact (hq j hlt).2.2
end
section
variable {H : Type} {enc : TypeId × Value -> H} {W : World} {r : Go.Reach} {b0 : Nat} {v : Value} {d : DataW H} {ps : List MemPlace}
theorem Zq0 (hval:Value.okWide Tryz.prog W r b0 22 v) (h:DataW.Trod enc Tryz.prog W 0 (fun _=>true) true 22 v d ps) :
 ∃ l:List Fd,(FdsV (gh W) v l/\l.length<=9223372036854775807)/\∀ f∈l,Fd0 f:=by obtain ⟨a,len,cap,rfl⟩:=okWide_slice Tryz.underlying22 hval;obtain ⟨fuel,hf⟩:=h;obtain ⟨v,l,hx,hv⟩:=ZqZ hf;simp [Value.cells] at hx;subst hx;exact ⟨l,hv⟩
end
open Go.RowKit Go.ChangeShapes Go.WideShapes Go.ChangeAt
open Go
set_option maxRecDepth 1000000
theorem Zq1:laidOutB Tryz.prog=true:=by kernel_rfl
theorem Zq2:mapsRowed Tryz.prog=true:=by kernel_rfl
theorem Zq3:(true == Tryz.prog.plainKeys)=true:=by kernel_rfl
theorem Zq4:Tryz.prog.stopsHeard=true:=by kernel_rfl
theorem Zq5:Tryz.prog.mayEnter=true:=by kernel_rfl
theorem Zq6:(false == Tryz.prog.liftsFinal)=true:=by kernel_rfl
def OwnV (n0:Nat) (W:World) (v:Value) (l:List Val):Prop:=W.ownsRow n0 48 3 v l.length (l.flatMap valCells)
def ownVPost (l:List Val) (w:World) (r:Ending) (w':World):Prop:=Below w.heap.size w w'/\∃ v,r = .returned v/\OwnV w.heap.size w' v l
section
variable {n0 : Nat} {W W' : World} {v : Value} {l : List Val}
theorem Zq7 {xs:List Value} {e:TypeId} {c n:Nat} (h:W.ownsRow n0 e c v n xs):W.ownsRow 0 e c v n xs:=by
 obtain ⟨hl,h⟩:=h;refine ⟨hl,?_⟩;rcases h with h|⟨g,cap,cur,hv,-,hr⟩
 . exact .inl h
 . exact .inr ⟨g,cap,cur,hv,Nat.zero_le _,hr⟩
theorem OwnV.toV (h:OwnV n0 W v l):ValsV (gh W) v l:=by have hr:Row (fun _=>1) 1 W 48 3 v l.length (l.flatMap valCells):=⟨Zq7 h,fun _ _=>rfl⟩;exact ZnO (SlV.ofRow valCells l vNil (by decide) ZnN hr)
theorem OwnV.keep (h:OwnV n0 W v l) (hb:Below W.heap.size W W'):OwnV n0 W' v l:=by
 obtain ⟨hl,h⟩:=h;refine ⟨hl,?_⟩;rcases h with h|⟨g,cap,cur,hv,hge,hg,hr⟩
 . exact .inl h
 . exact .inr ⟨g,cap,cur,hv,hge,(hb.block g (Yaa.1 hg).1).trans hg,hr⟩
theorem Zq8 {tau:Tag} (h:RwIn n0 tau W 48 3 v l.length (l.flatMap valCells)):OwnV n0 W v l:=by
 obtain ⟨hl,hh⟩:=h.row.own;refine ⟨hl,?_⟩;rcases hh with hh|⟨g,cap,cur,hv,hge,hr⟩
 . exact .inl hh
 . exact .inr ⟨g,cap,cur,hv,(h.ge g (h.row.tag g (by rw [hv]; rfl))).1,hr⟩
theorem OwnV.spot (h:OwnV n0 W v l) {i:Nat} (hi:i<l.length):∃ g cap,v = .slice (some ⟨g,0,none⟩) l.length cap/\n0<=g/\l.length<=cap/\cap<=maxLen /\
 (∃ x0,W.cell? ⟨g,i*3,none⟩=some x0)/\(∃ x1,W.cell? ⟨g,i*3+1,none⟩=some x1)/\(∃ x2,W.cell? ⟨g,i*3+2,none⟩=some x2) /\
 W.frozen? ⟨g,i*3,none⟩=false/\W.frozen? ⟨g,i*3+1,none⟩=false/\W.frozen? ⟨g,i*3+2,none⟩=false:=by
 obtain ⟨hl,hh⟩:=h;rcases hh with ⟨-,h0⟩|⟨g,cap,cur,hv,hge,hg,h1,h2,h3,h4⟩
 . omega
 . have a0:i*3<cur.size:=(by omega);have a1:i*3+1<cur.size:=(by omega);have a2:i*3+2<cur.size:=(by omega);refine ⟨g,cap,hv,hge,h1,h2,⟨cur[i*3],?_⟩,⟨cur[i*3+1],?_⟩,⟨cur[i*3+2],?_⟩,?_,?_,?_⟩<;>simp [World.cell?,World.frozen?,hg,a0,a1,a2]
end
theorem Zq9 (y:Val):∀ (l:List Val) (i:Nat),i<l.length->(l.set i y).flatMap valCells=(((l.flatMap valCells).set (i*3) (.int .i64 y.k)).set (i*3+1) (.int .i64 y.n)).set (i*3+2) (strV y.s)
 | [],i,h=>by simp at h
 | x::l,0,_=>by simp [valCells]
 | x::l,i+1,h=>by
  have ih:=Zq9 y l i (by simpa using h)
  rw [List.set_cons_succ,List.flatMap_cons,List.flatMap_cons,ih,show (i+1)*3=i*3+1+1+1 by omega]
  simp [valCells,List.set_cons_succ]
theorem OwnV.put {n0:Nat} {W:World} {l:List Val} {g n cap:Nat} (h:OwnV n0 W (.slice (some ⟨g,0,none⟩) n cap) l) {i:Nat} (hi:i<l.length) (y:Val) :
 OwnV n0 (((W.setCell ⟨g,i*3,none⟩ (.int .i64 y.k)).setCell ⟨g,i*3+1,none⟩ (.int .i64 y.n)).setCell ⟨g,i*3+2,none⟩ (strV y.s)) (.slice (some ⟨g,0,none⟩) n cap) (l.set i y):=by
 obtain ⟨hl,hh⟩:=h;refine ⟨by rw [Zq9 y l i hi]; simpa using hl,?_⟩;rcases hh with ⟨h0,-⟩|⟨g',cap',cur,hv,hge,hg,h1,h2,h3,h4⟩
 . cases h0
 . simp only [Yaq,Yai,Ybd,and_true,true_and] at hv;obtain ⟨rfl,hn,rfl⟩:=hv;refine .inr ⟨g,cap,((cur.setIfInBounds (i*3) (.int .i64 y.k)).setIfInBounds (i*3+1) (.int .i64 y.n)).setIfInBounds (i*3+2) (strV y.s),by simp [hn],hge,?_,by simpa using h1,h2,by simpa using h3,?_⟩
   . simp [World.setCell,Yap,hg]
   . rw [Zq9 y l i hi,<-h4];simp [List.take_set]
section
variable {used names : List Bs} {vals other : List Val}
end
theorem Zrd (l:List Val) (v:Value) (w:World) (hT:ValsV (gh w) v l) (hnil:NilV v) (hl:l.length<=1000):Calls Tryz.prog 39 #[v] w (ownVPost l w):=by
 obtain ⟨i0,hi,hz0,hz1,hz2⟩:=info_parts ZnA;obtain ⟨a,cap,hv,hn,hl1,hl2,hc⟩:=hT;subst hv;have hn2:a=none->l.length=0/\cap=0:=fun h=>by subst h; exact hnil _ _ rfl
 have hnews:∀ j u,(l.flatMap valCells)[j]?=some u->∃ A,a=some A/\w.cell? (A.add j)=some u:=by
  intro j u hj;obtain ⟨i,c,x,hx,hcx,rfl⟩:=ZnP valCells 3 (by decide) ZnN l j u hj;obtain ⟨b,off,ha,h0,h1,h2⟩:=hc i x hx;rw [Zad] at h0 h1 h2;refine ⟨_,ha,?_⟩;rw [Go.WideShapes.add_plain]
  match c,hcx with
  | 0,hcx=>simp [valCells] at hcx; subst hcx; rw [show off+(i*3+0)=off+i*3 by omega]; exact h0
  | 1,hcx=>simp [valCells] at hcx; subst hcx; rw [show off+(i*3+1)=off+i*3+1 by omega]; exact h1
  | 2,hcx=>simp [valCells] at hcx; subst hcx; rw [show off+(i*3+2)=off+i*3+2 by omega]; exact h2
 have HN:=Zq hn2;have HW:=Zq hnews;obtain ⟨len,hlen⟩:∃ n,l.length=n:=⟨_,rfl⟩;have HLEN:=Zq hlen;rw [hlen] at HN hl |-;clear hn hn2 hnews hc hl1 hl2 hlen hnil;go_in;go_wp2_with (at_builtin; refine Zai rfl _ _ 23 rfl 48 i0 _ 3 32 Tryz.underlying23 hi hz0 hz1 hz2 rfl (by decide) rfl (Row.nil T0 1 w 48 3) a len cap (l.flatMap valCells) rfl HN.out ?cl HW.out ?c1 ?c2 ?c3 ?_);case cl=>rw [ZbV valCells 3 ZnN,HLEN.out]
 case c1=>intro u hu; obtain ⟨x,_,hx⟩:=List.mem_flatMap.1 hu; simp [valCells] at hx; rcases hx with rfl|rfl|rfl<;>rfl
 case c2=>unfold maxLen; omega
 case c3=>omega
 intro v' t' w' hr he;have hb:=he.toBelow (by decide);rw [<-HLEN.out] at hr;obtain ⟨⟨t2,hw⟩,-⟩:=(RwIn.start w.heap.size w 48 3).app Zs hr he;have HP:Hid (ownVPost l w (.returned v') w'):=Zq ⟨hb,v',rfl,Zq8 hw⟩;clear hr he hb hw;go_wp2;go_ret;exact HP.out
end Go.Proofs.YtikannmgllejfaaGreatDoor
