/- Texts as lists of bytes: pieces, runs of classes, tokens: pl. -/
import Derived.Test.YtikannmgllejfaaGreatDoorKLx
import Derived.Lib.DecodeN
import Derived.Lib.ParseIntBCases
import Derived.Lib.RuneBytes
import Derived.Lib.RuneCount
import Derived.Lib.ValidU
import Derived.Lib.ItoaMem
import Derived.Lib.Join
import Derived.Lib.Small
set_option linter.all false
namespace Go.Proofs.YtikannmgllejfaaGreatDoor
open Go.RowKit Pal

abbrev Bs:=List UInt8
def bk (l:Bs) (k:Nat):Nat:=(l.getD k 0).toNat
theorem ZaE (l:Bs) (k:Nat):bk l k<256:=(l.getD k 0).toNat_lt
theorem ZaF {l:Bs} {k:Nat} (h:l.length<=k):bk l k=0:=by unfold bk;rw [Yau,Yaz h]; rfl
theorem ZaG (l:Bs) (i k:Nat):bk (l.drop i) k=bk l (i+k):=by unfold bk;rw [Yau,Yau,List.getElem?_drop]
theorem ZaH {l:Bs} {k:Nat} (h:bk l k≠0):k<l.length:=by apply Classical.byContradiction;intro hh;exact h (ZaF (by omega))
theorem ZaI (k:Nat):bk [] k=0:=ZaF (by simp)
def decL (l:Bs):Nat × Nat:=Lib.decodeN l.length (bk l 0) (bk l 1) (bk l 2) (bk l 3)
def rn (l:Bs):Int:=(decL l).1
def wd (l:Bs):Nat:=(decL l).2
theorem ZaJ (s:ByteArray) (j:Nat):(s.get! j).toNat=bk s.data.toList j:=by
 unfold bk;by_cases h:j<s.size
 . have hj:j<s.data.size:=h;have e:s.get! j=s.data[j]'hj:=(by show s.data[j]! = _; rw [getElem!_pos s.data j hj]);rw [e,Yau,Yad (by simpa using hj)];simp
 . have hj:¬ j<s.data.size:=h;have e:s.get! j=0:=(by show s.data[j]! = _; rw [getElem!_neg s.data j hj]; rfl);rw [e,Yau,Yaz (by simpa using hj)];rfl
theorem ZaK (s:ByteArray) (i:Nat):Utf8.decode s i=decL (s.data.toList.drop i):=by rw [Lib.decode_at,ZaJ,ZaJ,ZaJ,ZaJ];unfold decL;rw [ZaG,ZaG,ZaG,ZaG,Yav];rfl
theorem ZaL (s:ByteArray) (i:Nat):dRune s i=rn (s.data.toList.drop i):=by unfold dRune rn; rw [ZaK]
theorem ZaM (s:ByteArray) (i:Nat):dLen s i=wd (s.data.toList.drop i):=by unfold dLen wd; rw [ZaK]
section
variable (n b0 b1 b2 b3 : Nat)
theorem ZaN:1<=(Lib.decodeN n b0 b1 b2 b3).2/\(Lib.decodeN n b0 b1 b2 b3).2<=4/\(1<=n->(Lib.decodeN n b0 b1 b2 b3).2<=n):=by
 unfold Lib.decodeN
 repeat' split
 all_goals (refine ⟨?_,?_,?_⟩<;>simp<;>omega)
theorem ZaO (h:b0<128):Lib.decodeN n b0 b1 b2 b3=(b0,1):=by unfold Lib.decodeN; rw [if_pos h]
theorem ZaP (h:128<=b0):128<=(Lib.decodeN n b0 b1 b2 b3).1/\(Lib.decodeN n b0 b1 b2 b3).1<=1114111:=by
 unfold Lib.decodeN;rw [if_neg (by omega)]
 repeat' split
 all_goals (constructor<;>simp<;>omega)
end
theorem ZaQ (l:Bs):1<=wd l:=(ZaN _ _ _ _ _).1
theorem ZaR (l:Bs):wd l<=4:=(ZaN _ _ _ _ _).2.1
theorem ZaS {l:Bs} (h:l≠[]):wd l<=l.length:=(ZaN _ _ _ _ _).2.2 (by cases l with|nil=>exact absurd rfl h|cons a b=>simp)
theorem ZaT {l:Bs} (h:bk l 0<128):rn l=bk l 0/\wd l=1:=by unfold rn wd decL;rw [ZaO _ _ _ _ _ h]; simp
theorem ZaU {l:Bs} (h:128<=bk l 0):128<=rn l/\rn l<=1114111:=by have:=ZaP l.length (bk l 0) (bk l 1) (bk l 2) (bk l 3) h;unfold rn decL; omega
theorem ZaV (l:Bs):0<=rn l/\rn l<=1114111:=by
 by_cases h:bk l 0<128
 . rw [(ZaT h).1]; omega
 . have:=ZaU (l:=l) (by omega); omega
theorem ZaW {l:Bs} (h:rn l<128):bk l 0<128/\rn l=bk l 0/\wd l=1:=by
 by_cases g:bk l 0<128
 . exact ⟨g,(ZaT g).1,(ZaT g).2⟩
 . have:=ZaU (l:=l) (by omega); omega
theorem ZaX {l:Bs} (h:l≠[]):(l.drop (wd l)).length<l.length:=by have:=ZaQ l;have:=ZaS h;rw [Yav]; omega
def runL (a b:Int):Nat->Bs->Nat
 | 0,_=>0
 | f+1,l=>if l=[] then 0 else if cls (rn l)=a\/cls (rn l)=b then wd l+runL a b f (l.drop (wd l)) else 0
theorem ZaY (a b:Int):∀ f l,runL a b f l<=l.length:=by
 intro f;induction f with
 | zero=>intro l; simp [runL]
 | succ f ih =>
  intro l;unfold runL;split
  . exact Nat.zero_le _
  . rename_i hn;split
    . have h1:=ih (l.drop (wd l));have h2:=ZaS hn;rw [Yav] at h1;omega
    . exact Nat.zero_le _
theorem ZaZ (s : ByteArray) (a b : Int) : ∀ f i, i <= s.size -> s.size <= i + f -> runFrom s a b i f = i + runL a b f (s.data.toList.drop i) := by
  intro f
  induction f with
  | zero => intro i h1 h2; have : i = s.size := by omega
            subst this; simp [runFrom, runL]
  | succ f ih =>
    intro i h1 h2
    have hl : (s.data.toList.drop i).length = s.size - i := by rw [Yav]; rfl
    by_cases h : i < s.size
    . have hne : s.data.toList.drop i ≠ [] := fun e => by rw [e] at hl; simp at hl; omega
      have hw := ZaS hne
      have hp := ZaQ (s.data.toList.drop i)
      rw [hl] at hw
      by_cases hc : cls (dRune s i) = a \/ cls (dRune s i) = b
      . rw [Zas h hc, ih _ (by rw [ZaM]; omega) (by rw [ZaM]; omega), ZaM]
        rw [ZaL] at hc
        conv => rhs; unfold runL
        rw [if_neg hne, if_pos hc, List.drop_drop]
        omega
      . rw [Zat h hc]
        rw [ZaL] at hc
        unfold runL
        rw [if_neg hne, if_neg hc]; rfl
    . have : i = s.size := by omega
      subst this
      have hnil : s.data.toList.drop s.size = [] := Yal (by rw [hl]; omega)
      rw [Zar _ (by omega)]
      unfold runL
      rw [if_pos hnil]; rfl
def run (a b:Int) (l:Bs):Nat:=runL a b l.length l
theorem Za0 (s:ByteArray) (a b:Int):runFrom s a b 0 s.size=run a b s.data.toList:=by rw [ZaZ s a b _ _ (Nat.zero_le _) (by omega)];simp [run]
theorem Za1 (a b:Int) (f:Nat):runL a b f []=0:=by cases f<;>simp [runL]
theorem Za2 (a b : Int) : ∀ f g l, l.length <= f -> l.length <= g -> runL a b f l = runL a b g l := by
  intro f
  induction f with
  | zero => intro g l h _; have : l = [] := Yal (by omega)
            subst this; rw [Za1, Za1]
  | succ f ih =>
    intro g l h1 h2
    by_cases hn : l = []
    . subst hn; rw [Za1, Za1]
    . have hd := ZaX hn
      cases g with
      | zero => exact absurd (Yal (by omega)) hn
      | succ g =>
        unfold runL
        rw [if_neg hn, if_neg hn, ih g (l.drop (wd l)) (by omega) (by omega)]
theorem Za3 (a b:Int):run a b []=0:=rfl
theorem Za4 {a b:Int} {l:Bs} (h:¬ (cls (rn l)=a\/cls (rn l)=b)):run a b l=0:=by
 unfold run;cases l with
 | nil=>rfl
 | cons c t=>simp only [List.length_cons]; unfold runL; rw [if_neg (by simp),if_neg h]
theorem Za5 {a b:Int} {l:Bs} (hn:l≠[]) (h:cls (rn l)=a\/cls (rn l)=b):run a b l=wd l+run a b (l.drop (wd l)):=by
 unfold run;have hd:=ZaX hn;cases l with
 | nil=>exact absurd rfl hn
 | cons c t =>
  simp only [List.length_cons] at hd |-;conv=>lhs; unfold runL
  rw [if_neg (by simp),if_pos h,Za2 a b _ ((c::t).drop (wd (c::t))).length _ (by omega) Zs]
theorem Za6 (a b:Int) (l:Bs):run a b l<=l.length:=ZaY _ _ _ _
inductive Reach:Bs->Nat->Prop
 | zero (l:Bs):Reach l 0
 | step {l:Bs} {z:Nat} (hn:l≠[]) (h:Reach (l.drop (wd l)) z):Reach l (wd l+z)
theorem Reach.le {l:Bs} {z:Nat} (h:Reach l z):z<=l.length:=by
 induction h with
 | zero l=>exact Nat.zero_le _
 | step hn h ih=>have:=ZaS hn; rw [Yav] at ih; omega
theorem Reach.trans {l:Bs} {y z:Nat} (h:Reach l y) (g:Reach (l.drop y) z):Reach l (y+z):=by
 induction h with
 | zero l=>simpa using g
 | step hn h ih =>rw [Nat.add_assoc];exact .step hn (ih (by rw [List.drop_drop]; exact g))
theorem Reach.tail {l:Bs} {z:Nat} (h:Reach l z) (hz:0<z):wd l<=z/\Reach (l.drop (wd l)) (z - wd l):=by
 cases h with
 | zero=>omega
 | step hn h=>exact ⟨by omega,by rw [Nat.add_sub_cancel_left]; exact h⟩
theorem Reach.run (a b : Int) : ∀ (k : Nat) (l : Bs), l.length <= k -> Reach l (run a b l) := by
  intro k
  induction k with
  | zero => intro l h; have : l = [] := Yal (by omega)
            subst this; exact .zero _
  | succ k ih =>
    intro l h
    by_cases hn : l = []
    . subst hn; exact .zero _
    . by_cases hc : cls (rn l) = a \/ cls (rn l) = b
      . rw [Za5 hn hc]
        exact .step hn (ih _ (by have := ZaX hn; omega))
      . rw [Za4 hc]; exact .zero _
theorem Reach.low {l:Bs} (hn:l≠[]) (h:bk l 0<128) {z:Nat} (g:Reach (l.drop 1) z):Reach l (1+z):=by have e:=(ZaT h).2;rw [<-e];exact .step hn (by rw [e]; exact g)
def hexD (c:Nat):Option Int:=if 48<=c/\c<=57 then some ((c:Int) - 48) else if 97<=c/\c<=102 then some ((c:Int) - 87) else none
def hex4 (a b c d:Int):Int:=((a*16+b)*16+c)*16+d
def escL (l:Bs):Option (Int × Nat) :=
 if bk l 1=34\/bk l 1=92 then some (bk l 1,2)
 else if bk l 1=117 then
  match hexD (bk l 2),hexD (bk l 3),hexD (bk l 4),hexD (bk l 5) with
  | some a,some b,some c,some d=>if 55296<=hex4 a b c d/\hex4 a b c d<=57343 then none else some (hex4 a b c d,6)
  | _,_,_,_=>none
 else none
def badIn (l:Bs):Prop:=(rn l=65533/\wd l=1)\/rn l<32\/(127<=rn l/\rn l<=159)
instance (l:Bs):Decidable (badIn l):=by unfold badIn; infer_instance
def unqL:Nat->Bs->Option (Bs × Nat × Nat)
 | 0,_=>none
 | f+1,l =>
  if l=[] then none
  else if rn l=34 then some ([],0,1)
  else if rn l=92 then
   match escL l with
   | none=>none
   | some (r,z) =>
    match unqL f (l.drop z) with
    | none=>none
    | some (t,n,y)=>some (Lib.encodeRune r++t,n+1,z+y)
  else if badIn l then none
  else
   match unqL f (l.drop (wd l)) with
   | none=>none
   | some (t,n,y)=>some (Lib.encodeRune (rn l)++t,n+1,wd l+y)
def numOf (l:Bs):Option Int:=match Lib.parseIntB 64 l with | .ok v=>some v|_=>none
def isSign1 (c:Nat):Bool:=[43,45,42,47,37,40,41,44,61,60,62,38,124,33].contains c
def tok1 (l:Bs):Option (Int × Bs × Int × Nat) :=
 if cls (rn l)=2 then
  match numOf (l.take (run 2 2 l)) with
  | some v=>some (1,[],v,run 2 2 l)
  | none=>none
 else if cls (rn l)=1 then (if run 1 2 l<=24 then some (3,l.take (run 1 2 l),0,run 1 2 l) else none)
 else if bk l 0=34 then
  match unqL l.length (l.drop 1) with
  | some (t,n,z)=>if n<=100 then some (2,t,0,1+z) else none
  | none=>none
 else if (bk l 0=60\/bk l 0=62\/bk l 0=33)/\bk l 1=61 then some (4,l.take 2,0,2)
 else if isSign1 (bk l 0) then some (4,l.take 1,0,1)
 else none
structure Tok where
 k:Int
 s:Bs
 n:Int
 p:Nat
def lexL:Nat->Nat->Bs->Except Nat (List Tok)
 | 0,p,_ => .error p
 | f+1,p,l =>
  if l=[] then .ok [⟨0,[],0,p⟩]
  else if cls (rn l)=3 then lexL f (p+wd l) (l.drop (wd l))
  else
   match tok1 l with
   | none => .error p
   | some (k,s,n,z) =>
    match lexL f (p+z) (l.drop z) with
    | .error q => .error q
    | .ok ts => .ok (⟨k,s,n,p⟩::ts)
def lexAll (l:Bs):Except Nat (List Tok):=lexL (l.length+1) 0 l
theorem rn_34 {l:Bs}:rn l=34↔bk l 0=34:=by
 constructor
 . intro h; have:=ZaW (l:=l) (by omega); omega
 . intro h; have:=ZaT (l:=l) (by omega); omega
theorem rn_92 {l:Bs}:rn l=92↔bk l 0=92:=by
 constructor
 . intro h; have:=ZaW (l:=l) (by omega); omega
 . intro h; have:=ZaT (l:=l) (by omega); omega
theorem Za7 {c:Nat} {v:Int} (h:hexD c=some v):0<=v/\v<16/\48<=c/\c<=102:=by
 unfold hexD at h;split at h
 . simp only [Yai] at h; omega
 . split at h
   . simp only [Yai] at h; omega
   . cases h
theorem Za8 {l:Bs} {r:Int} {z:Nat} (h0:bk l 0=92) (h:escL l=some (r,z)):Reach l z/\2<=z:=by
 have l0:l≠[]:=fun e=>by rw [e,ZaI] at h0; omega
 have step:∀ j,bk l j<128->bk l j≠0->∀ z,Reach (l.drop (j+1)) z->Reach (l.drop j) (1+z):=fun j h1 h2 z g =>
  Reach.low (l:=l.drop j) (fun e=>by have:=ZaH h2; have:=congrArg List.length e; rw [Yav] at this; simp at this; omega) (by rw [ZaG]; exact h1) (by rw [List.drop_drop]; exact g)
 have s0:=step 0 (by omega) (by omega);simp only [List.drop_zero] at s0;unfold escL at h;split at h
 . rename_i hc;simp only [Yai,Yaw] at h;obtain ⟨-,rfl⟩:=h;exact ⟨s0 1 (step 1 (by omega) (by omega) 0 (.zero _)),by omega⟩
 . split at h
   . rename_i hu;split at h
     . rename_i a b c d ha hb hc hd;have:=Za7 ha; have:=Za7 hb; have:=Za7 hc; have:=Za7 hd;split at h
       . cases h
       . simp only [Yai,Yaw] at h;obtain ⟨-,rfl⟩:=h;exact ⟨s0 5 (step 1 (by omega) (by omega) 4 (step 2 (by omega) (by omega) 3 (step 3 (by omega) (by omega) 2 (step 4 (by omega) (by omega) 1 (step 5 (by omega) (by omega) 0 (.zero _)))))),by omega⟩
     . cases h
   . cases h
theorem Za9:∀ (f:Nat) (l:Bs) (t:Bs) (n z:Nat),unqL f l=some (t,n,z)->Reach l z/\1<=z:=by
 intro f;induction f with
 | zero=>intro l t n z h; cases h
 | succ f ih =>
  intro l t n z h;unfold unqL at h;split at h
  . cases h
  . rename_i hn;split at h
    . rename_i hq;simp only [Yai,Yaw] at h;obtain ⟨-,-,rfl⟩:=h;have:=rn_34.1 hq;exact ⟨Reach.low hn (by omega) (.zero _),by omega⟩
    . split at h
      . rename_i hb;split at h
        . cases h
        . rename_i r y he;split at h
          . cases h
          . rename_i t' n' y' hu;simp only [Yai,Yaw] at h;obtain ⟨-,-,rfl⟩:=h;have g:=Za8 (rn_92.1 hb) he;exact ⟨g.1.trans (ih _ _ _ _ hu).1,by omega⟩
      . split at h
        . cases h
        . split at h
          . cases h
          . rename_i t' n' y' hu;simp only [Yai,Yaw] at h;obtain ⟨-,-,rfl⟩:=h;have:=ZaQ l;exact ⟨.step hn (ih _ _ _ _ hu).1,by omega⟩
theorem Zba {l:Bs} {k:Int} {s:Bs} {n:Int} {z:Nat} (hn:l≠[]) (h:tok1 l=some (k,s,n,z)):Reach l z/\wd l<=z:=by
 have hw:=ZaQ l;unfold tok1 at h;split at h
 . rename_i hc;split at h
   . simp only [Yai,Yaw] at h;obtain ⟨-,-,-,rfl⟩:=h;exact ⟨Reach.run 2 2 _ l Zs,by rw [Za5 hn (.inl hc)]; omega⟩
   . cases h
 . split at h
   . rename_i hc;split at h
     . simp only [Yai,Yaw] at h;obtain ⟨-,-,-,rfl⟩:=h;exact ⟨Reach.run 1 2 _ l Zs,by rw [Za5 hn (.inl hc)]; omega⟩
     . cases h
   . split at h
     . rename_i hq;have e:=(ZaT (l:=l) (by omega)).2;split at h
       . rename_i t m y hu;split at h
         . simp only [Yai,Yaw] at h;obtain ⟨-,-,-,rfl⟩:=h;exact ⟨Reach.low hn (by omega) (Za9 _ _ _ _ _ hu).1,by omega⟩
         . cases h
       . cases h
     . split at h
       . rename_i hc;simp only [Yai,Yaw] at h;obtain ⟨-,-,-,rfl⟩:=h;have e:=(ZaT (l:=l) (by omega)).2;have h1:1<l.length:=ZaH (by omega);have h2:bk (l.drop 1) 0<128:=(by rw [ZaG]; show bk l 1<128; omega);refine ⟨Reach.low hn (by omega) (z:=1) (Reach.low (z:=0) (fun e=>?_) h2 (.zero _)),by omega⟩;have:=congrArg List.length e;rw [Yav] at this;simp at this; omega
       . split at h
         . rename_i hs;simp only [Yai,Yaw] at h;obtain ⟨-,-,-,rfl⟩:=h;have hlt:bk l 0<128:=(by simp only [isSign1,List.contains_eq_mem,Ybc,List.mem_nil_iff,or_false,decide_eq_true_eq] at hs;omega);have e:=(ZaT hlt).2;exact ⟨Reach.low hn hlt (z:=0) (.zero _),by omega⟩
         . cases h

inductive Ex where
 | mk (op n:Int) (s:Bs) (ks:List Ex)
def Ex.op:Ex->Int | .mk o _ _ _=>o
def Ex.n:Ex->Int | .mk _ n _ _=>n
def Ex.s:Ex->Bs | .mk _ _ s _=>s
def Ex.ks:Ex->List Ex | .mk _ _ _ ks=>ks
theorem Ex.eta (e:Ex):e = .mk e.op e.n e.s e.ks:=by cases e; rfl
theorem Ex.ind {P:Ex->Prop} (h:∀ op n s ks,(∀ k∈ks,P k)->P (.mk op n s ks)) (e:Ex):P e :=
 Ex.rec (motive_1:=P) (motive_2:=fun l=>∀ k∈l,P k) (fun op n s ks ih=>h op n s ks ih) (fun k hk=>absurd hk (by simp))
  (fun a l ha hl k hk=>by
   rcases Ybc.1 hk with e|e
   . rw [e]; exact ha
   . exact hl k e) e
def wTrue:Bs:=[116,114,117,101]
def wFalse:Bs:=[102,97,108,115,101]
def wIf:Bs:=[105,102]
def wLen:Bs:=[108,101,110]
def wCat:Bs:=[99,97,116]
def wCut:Bs:=[99,117,116]
def wHas:Bs:=[104,97,115]
def wUp:Bs:=[117,112]
def word (s:Bs):Bool:=[wTrue,wFalse,wIf,wLen,wCat,wCut,wHas,wUp].contains s
def opOf (s:Bs):Int:=if s=wIf then 18 else if s=wLen then 19 else if s=wCat then 20 else if s=wCut then 21 else if s=wUp then 23 else 22
def arOf (s:Bs):Nat:=if s=wIf then 3 else if s=wLen then 1 else if s=wCat then 2 else if s=wCut then 2 else 1
def noTok:Tok:=⟨0,[],0,0⟩
def hd (ts:List Tok):Tok:=ts.headD noTok
def isSg (s:Bs) (t:Tok):Bool:=decide (t.k=4/\t.s=s)
def lv (n:Nat) (s:Bs):Option (Int × Bool) :=
 if n=0 then (if s=[124] then some (17,false) else none)
 else if n=1 then (if s=[38] then some (16,false) else none)
 else if n=2 then
  (if s=[61] then some (12,false) else if s=[33,61] then some (13,false) else if s=[60] then some (14,false) else if s=[60,61] then some (15,false)
   else if s=[62] then some (14,true) else if s=[62,61] then some (15,true) else none)
 else if n=3 then (if s=[43] then some (7,false) else if s=[45] then some (8,false) else none)
 else (if s=[42] then some (9,false) else if s=[47] then some (10,false) else if s=[37] then some (11,false) else none)
def lvT (n:Nat) (t:Tok):Option (Int × Bool):=if t.k=4 then lv n t.s else none
inductive Job where
 | two (n:Nat)
 | loop (n:Nat) (e:Ex)
 | one
 | args (op:Int) (left:Nat) (ks:List Ex)
inductive PR where
 | out
 | bad (p:Nat)
 | ok (e:Ex) (r:List Tok)
def PR.then (x:PR) (k:Ex->List Tok->PR):PR:=match x with | .out => .out | .bad p => .bad p | .ok e r=>k e r
def kidsOf (sw:Bool) (a b:Ex):List Ex:=if sw then [b,a] else [a,b]
def parseJ:Nat->Job->List Tok->PR
 | 0,_,_ => .out
 | f+1,.two n,ts=>if 4<n then parseJ f .one ts else (parseJ f (.two (n+1)) ts).then fun e r=>parseJ f (.loop n e) r
 | f+1,.loop n e,ts =>
  match lvT n (hd ts) with
  | none => .ok e ts
  | some (op,sw)=>(parseJ f (.two (n+1)) ts.tail).then fun e2 r =>
   if n=2 then .ok (.mk op 0 [] (kidsOf sw e e2)) r else parseJ f (.loop n (.mk op 0 [] (kidsOf sw e e2))) r
 | f+1,.one,ts =>
  if isSg [45] (hd ts) then (parseJ f .one ts.tail).then fun e r => .ok (.mk 5 0 [] [e]) r
  else if isSg [33] (hd ts) then (parseJ f .one ts.tail).then fun e r => .ok (.mk 6 0 [] [e]) r
  else if isSg [40] (hd ts) then (parseJ f (.two 0) ts.tail).then fun e r=>if isSg [41] (hd r) then .ok e r.tail else .bad (hd r).p
  else if (hd ts).k=1 then .ok (.mk 1 (hd ts).n [] []) ts.tail
  else if (hd ts).k=2 then .ok (.mk 2 0 (hd ts).s []) ts.tail
  else if (hd ts).k=3 then
   if word (hd ts).s=false then .ok (.mk 4 0 (hd ts).s []) ts.tail
   else if (hd ts).s=wTrue then .ok (.mk 3 1 [] []) ts.tail
   else if (hd ts).s=wFalse then .ok (.mk 3 0 [] []) ts.tail
   else if isSg [40] (hd ts.tail) then parseJ f (.args (opOf (hd ts).s) (arOf (hd ts).s) []) ts.tail.tail
   else .bad (hd ts.tail).p
  else .bad (hd ts).p
 | f+1,.args op left ks,ts =>
  match left with
  | 0=>if isSg [41] (hd ts) then .ok (.mk op 0 [] ks) ts.tail else .bad (hd ts).p
  | left+1 =>
   if ks≠[]/\isSg [44] (hd ts)=false then .bad (hd ts).p
   else
    if op=22 then
     if (hd (if ks=[] then ts else ts.tail)).k≠3\/word (hd (if ks=[] then ts else ts.tail)).s=true then .bad (hd (if ks=[] then ts else ts.tail)).p
     else parseJ f (.args op left (ks++[.mk 4 0 (hd (if ks=[] then ts else ts.tail)).s []])) (if ks=[] then ts else ts.tail).tail
    else (parseJ f (.two 0) (if ks=[] then ts else ts.tail)).then fun e r=>parseJ f (.args op left (ks++[e])) r
inductive Ended:List Tok->Prop
 | last (t:Tok) (h:t.k=0):Ended [t]
 | cons (t:Tok) {ts:List Tok} (h:Ended ts):Ended (t::ts)
theorem Ended.ne {ts:List Tok} (h:Ended ts):ts≠[]:=by cases h<;>simp
theorem Ended.tail {ts:List Tok} (h:Ended ts) (hk:(hd ts).k≠0):Ended ts.tail:=by
 cases h with
 | last t h=>exact absurd h hk
 | cons t h=>exact h
theorem Ended.len {ts:List Tok} (h:Ended ts):1<=ts.length:=by cases h<;>simp
theorem Zbb {s:Bs} {t:Tok} (h:isSg s t=true):t.k=4:=(of_decide_eq_true h).1
theorem Zbc {n:Nat} {t:Tok} {x:Int × Bool} (h:lvT n t=some x):t.k=4:=by
 unfold lvT at h;split at h
 . assumption
 . cases h
theorem Zbd {ts:List Tok} (h:ts≠[]):ts.tail.length+1=ts.length:=by cases ts with|nil=>exact absurd rfl h|cons a b=>simp
def Job.strict:Job->Bool | .two _ | .one | .args ..=>true | .loop ..=>false
theorem Zbe:∀ (f:Nat) (j:Job) (ts:List Tok),Ended ts->∀ e r,parseJ f j ts = .ok e r->Ended r/\r.length+(if j.strict then 1 else 0)<=ts.length:=by
 intro f;induction f with
 | zero=>intro j ts _ e r h; cases h
 | succ f ih =>
  have then_ok:∀ {x:PR} {k:Ex->List Tok->PR} {e r},x.then k = .ok e r->∃ e1 r1,x = .ok e1 r1/\k e1 r1 = .ok e r:=by
   intro x k e r h;cases x with
   | out=>cases h
   | bad p=>cases h
   | ok e1 r1=>exact ⟨e1,r1,rfl,h⟩
  intro j ts he e r h;cases j with
  | two n =>
   unfold parseJ at h;split at h
   . exact ih .one ts he e r h
   . obtain ⟨e1,r1,h1,h2⟩:=then_ok h;have g1:=ih _ _ he _ _ h1;have g2:=ih _ _ g1.1 _ _ h2;simp only [Job.strict,if_true,Bool.false_eq_true,if_false] at g1 g2 |-;exact ⟨g2.1,by omega⟩
  | loop n e0 =>
   unfold parseJ at h;split at h
   . simp only [PR.ok.injEq] at h;obtain ⟨rfl,rfl⟩:=h;exact ⟨he,by simp [Job.strict]⟩
   . rename_i op sw hl;obtain ⟨e1,r1,h1,h2⟩:=then_ok h;have k4:=Zbc hl;have ht:=he.tail (by omega);have hlen:=Zbd he.ne;have g1:=ih _ _ ht _ _ h1;simp only [Job.strict,if_true,Bool.false_eq_true,if_false] at g1 |-;split at h2
     . simp only [PR.ok.injEq] at h2;obtain ⟨rfl,rfl⟩:=h2;exact ⟨g1.1,by omega⟩
     . have g2:=ih _ _ g1.1 _ _ h2;simp only [Job.strict,Bool.false_eq_true,if_false] at g2;exact ⟨g2.1,by omega⟩
  | one =>
   have hlen:=Zbd he.ne;unfold parseJ at h;simp only [Job.strict,if_true];split at h
   . rename_i hs;obtain ⟨e1,r1,h1,h2⟩:=then_ok h;have g1:=ih _ _ (he.tail (by have:=Zbb hs; omega)) _ _ h1;simp only [PR.ok.injEq] at h2;obtain ⟨rfl,rfl⟩:=h2;exact ⟨g1.1,by omega⟩
   . split at h
     . rename_i hs;obtain ⟨e1,r1,h1,h2⟩:=then_ok h;have g1:=ih _ _ (he.tail (by have:=Zbb hs; omega)) _ _ h1;simp only [PR.ok.injEq] at h2;obtain ⟨rfl,rfl⟩:=h2;exact ⟨g1.1,by omega⟩
     . split at h
       . rename_i hs;obtain ⟨e1,r1,h1,h2⟩:=then_ok h;have g1:=ih _ _ (he.tail (by have:=Zbb hs; omega)) _ _ h1;split at h2
         . rename_i hs2;simp only [PR.ok.injEq] at h2;obtain ⟨rfl,rfl⟩:=h2;have:=Zbd g1.1.ne;exact ⟨g1.1.tail (by have:=Zbb hs2; omega),by omega⟩
         . cases h2
       . split at h
         . simp only [PR.ok.injEq] at h;obtain ⟨rfl,rfl⟩:=h;exact ⟨he.tail (by omega),by omega⟩
         . split at h
           . simp only [PR.ok.injEq] at h;obtain ⟨rfl,rfl⟩:=h;exact ⟨he.tail (by omega),by omega⟩
           . split at h
             . have ht:=he.tail (by omega);split at h
               . simp only [PR.ok.injEq] at h;obtain ⟨rfl,rfl⟩:=h;exact ⟨ht,by omega⟩
               . split at h
                 . simp only [PR.ok.injEq] at h;obtain ⟨rfl,rfl⟩:=h;exact ⟨ht,by omega⟩
                 . split at h
                   . simp only [PR.ok.injEq] at h;obtain ⟨rfl,rfl⟩:=h;exact ⟨ht,by omega⟩
                   . split at h
                     . rename_i hs;have:=Zbd ht.ne;have g1:=ih _ _ (ht.tail (by have:=Zbb hs; omega)) _ _ h;exact ⟨g1.1,by omega⟩
                     . cases h
             . cases h
  | args op left ks =>
   have hlen:=Zbd he.ne;unfold parseJ at h;simp only [Job.strict,if_true];cases left with
   | zero =>
    simp only at h;split at h
    . rename_i hs;simp only [PR.ok.injEq] at h;obtain ⟨rfl,rfl⟩:=h;exact ⟨he.tail (by have:=Zbb hs; omega),by omega⟩
    . cases h
   | succ left =>
    simp only at h;split at h
    . cases h
    . rename_i hc;have hx:Ended (if ks=[] then ts else ts.tail)/\(if ks=[] then ts else ts.tail).length<=ts.length:=by
       by_cases hk:ks=[]
       . rw [if_pos hk]; exact ⟨he,Nat.le_refl _⟩
       . rw [if_neg hk];have:isSg [44] (hd ts)=true:=by
          cases hb:isSg [44] (hd ts) with
          | true=>rfl
          | false=>exact absurd ⟨hk,hb⟩ hc
         exact ⟨he.tail (by have:=Zbb this; omega),by omega⟩
      generalize (if ks=[] then ts else ts.tail)=t1 at h hx;have hl1:=Zbd hx.1.ne;split at h
      . split at h
        . cases h
        . rename_i hk;have g1:=ih _ _ (hx.1.tail (by omega)) _ _ h;exact ⟨g1.1,by omega⟩
      . obtain ⟨e1,r1,h1,h2⟩:=then_ok h;have g1:=ih _ _ hx.1 _ _ h1;have g2:=ih _ _ g1.1 _ _ h2;simp only [Job.strict,if_true] at g1 g2;exact ⟨g2.1,by omega⟩
def Job.need:Job->Nat->Nat
 | .two n,k=>8*k+7 - min n 5
 | .loop _ _,k=>8*k+8
 | .one,k=>8*k+1
 | .args _ _ _,k=>8*k+8
theorem Zbf:∀ (f:Nat) (j:Job) (ts:List Tok),Ended ts->j.need ts.length<=f->(∀ n,j = .two n->n<=5)->(∀ n e,j = .loop n e->n<=4)->parseJ f j ts ≠ .out:=by
 intro f;induction f with
 | zero =>intro j ts he hn h5 _;have:=he.len;cases j<;>simp [Job.need] at hn<;>omega
 | succ f ih =>
  have then_ne:∀ {x:PR} {k:Ex->List Tok->PR},x ≠ .out->(∀ e r,x = .ok e r->k e r ≠ .out)->x.then k ≠ .out:=by
   intro x k hx hk;cases x with
   | out=>exact absurd rfl hx
   | bad p=>intro h; cases h
   | ok e1 r1=>exact hk e1 r1 rfl
  intro j ts he hn h5 h4;have hlen:=Zbd he.ne;cases j with
  | two n =>
   have hn5:=h5 n rfl;simp only [Job.need] at hn;unfold parseJ;split
   . exact ih _ _ he (by simp only [Job.need]; omega) (fun _ h=>by cases h) (fun _ _ h=>by cases h)
   . refine then_ne (ih _ _ he (by simp only [Job.need]; omega) (fun m h=>by cases h; omega) (fun _ _ h=>by cases h)) fun e r h1=>?_;have g:=Zbe _ _ _ he _ _ h1;simp only [Job.strict,if_true] at g;exact ih _ _ g.1 (by simp only [Job.need]; omega) (fun _ h=>by cases h) (fun m _ h=>by cases h; omega)
  | loop n e0 =>
   have hn4:=h4 n e0 rfl;simp only [Job.need] at hn;unfold parseJ;split
   . intro h; cases h
   . rename_i op sw hl;have ht:=he.tail (by have:=Zbc hl; omega);refine then_ne (ih _ _ ht (by simp only [Job.need]; omega) (fun m h=>by cases h; omega) (fun _ _ h=>by cases h)) fun e r h1=>?_;have g:=Zbe _ _ _ ht _ _ h1;simp only [Job.strict,if_true] at g;split
     . intro h; cases h
     . exact ih _ _ g.1 (by simp only [Job.need]; omega) (fun _ h=>by cases h) (fun m _ h=>by cases h; omega)
  | one =>
   simp only [Job.need] at hn;unfold parseJ;split
   . rename_i hs;have ht:=he.tail (by have:=Zbb hs; omega);refine then_ne (ih _ _ ht (by simp only [Job.need]; omega) (fun _ h=>by cases h) (fun _ _ h=>by cases h)) fun e r h1=>?_;intro h; cases h
   . split
     . rename_i hs;have ht:=he.tail (by have:=Zbb hs; omega);refine then_ne (ih _ _ ht (by simp only [Job.need]; omega) (fun _ h=>by cases h) (fun _ _ h=>by cases h)) fun e r h1=>?_;intro h; cases h
     . split
       . rename_i hs;have ht:=he.tail (by have:=Zbb hs; omega);refine then_ne (ih _ _ ht (by simp only [Job.need]; omega) (fun m h=>by cases h; omega) (fun _ _ h=>by cases h)) fun e r h1=>?_;split<;>(intro h; cases h)
       . split
         . intro h; cases h
         . split
           . intro h; cases h
           . split
             . have ht:=he.tail (by omega);have hl1:=Zbd ht.ne;split
               . intro h; cases h
               . split
                 . intro h; cases h
                 . split
                   . intro h; cases h
                   . split
                     . rename_i hs;exact ih _ _ (ht.tail (by have:=Zbb hs; omega)) (by simp only [Job.need]; omega) (fun _ h=>by cases h) (fun _ _ h=>by cases h)
                     . intro h; cases h
             . intro h; cases h
  | args op left ks =>
   simp only [Job.need] at hn;unfold parseJ;cases left with
   | zero =>simp only;split<;>(intro h; cases h)
   | succ left =>
    simp only;split
    . intro h; cases h
    . rename_i hc;have hx:Ended (if ks=[] then ts else ts.tail)/\(if ks=[] then ts else ts.tail).length<=ts.length:=by
       by_cases hk:ks=[]
       . rw [if_pos hk]; exact ⟨he,Nat.le_refl _⟩
       . rw [if_neg hk];have:isSg [44] (hd ts)=true:=by
          cases hb:isSg [44] (hd ts) with
          | true=>rfl
          | false=>exact absurd ⟨hk,hb⟩ hc
         exact ⟨he.tail (by have:=Zbb this; omega),by omega⟩
      generalize (if ks=[] then ts else ts.tail)=t1 at hx;have hl1:=Zbd hx.1.ne;split
      . split
        . intro h; cases h
        . rename_i hk;exact ih _ _ (hx.1.tail (by omega)) (by simp only [Job.need]; omega) (fun _ h=>by cases h) (fun _ _ h=>by cases h)
      . refine then_ne (ih _ _ hx.1 (by simp only [Job.need]; omega) (fun m h=>by cases h; omega) (fun _ _ h=>by cases h)) fun e r h1=>?_;have g:=Zbe _ _ _ hx.1 _ _ h1;simp only [Job.strict,if_true] at g;exact ih _ _ g.1 (by simp only [Job.need]; omega) (fun _ h=>by cases h) (fun _ _ h=>by cases h)
def readL (ts:List Tok):Except Nat Ex :=
 match parseJ (8*ts.length+8) (.two 0) ts with
 | .out => .error 0
 | .bad p => .error p
 | .ok e r=>if (hd r).k=0 then .ok e else .error (hd r).p

def cntF:Nat->Bs->Nat
 | 0,_=>0
 | f+1,l=>if l=[] then 0 else 1+cntF f (l.drop (wd l))
def cnt (l:Bs):Nat:=cntF l.length l
def valF:Nat->Bs->Bool
 | 0,_=>true
 | f+1,l=>if l=[] then true else if rn l=65533/\wd l=1 then false else valF f (l.drop (wd l))
def val (l:Bs):Bool:=valF l.length l
theorem Zbg (l:Bs):Lib.decodeL l=decL l:=by unfold Lib.decodeL;rw [ZaK];simp
theorem Zbh (l:Bs):Lib.validD l=val l:=by
 have h:∀ f l,Lib.validGoD f l=valF f l:=by
  intro f;induction f with
  | zero=>intro l; rfl
  | succ f ih =>
   intro l;unfold Lib.validGoD valF;rw [Zbg,ih];have e:((decL l).1=65533/\(decL l).2=1)↔(rn l=65533/\wd l=1):=(by unfold rn wd; omega);by_cases hn:l=[]
   . rw [if_pos hn,if_pos hn]
   . rw [if_neg hn,if_neg hn];by_cases hb:rn l=65533/\wd l=1
     . rw [if_pos hb,if_pos (e.2 hb)]
     . rw [if_neg hb,if_neg (fun x=>hb (e.1 x))];rfl
 exact h _ _
theorem Zbi (f:Nat):cntF f []=0:=by cases f<;>simp [cntF]
theorem Zbj (s:ByteArray):Lib.runeCount s=cnt s.data.toList:=by
 have h:∀ f i,i<=s.size->s.size<=i+f->Lib.runeCountFrom s f i=cntF f (s.data.toList.drop i):=by
  intro f;induction f with
  | zero=>intro i _ _; rfl
  | succ f ih =>
   intro i h1 h2;have hl:(s.data.toList.drop i).length=s.size - i:=(by rw [Yav]; rfl);unfold Lib.runeCountFrom cntF;by_cases h:i<s.size
   . have hne:s.data.toList.drop i≠[]:=fun e=>by rw [e] at hl; simp at hl; omega
     have hw:=ZaS hne;have hp:=ZaQ (s.data.toList.drop i);rw [hl] at hw;have e:(Utf8.decode s i).2=wd (s.data.toList.drop i):=(by rw [ZaK]; rfl);rw [if_pos h,if_neg hne,e,ih _ (by omega) (by omega),List.drop_drop]
   . have hnil:s.data.toList.drop i=[]:=Yal (by rw [hl]; omega);rw [if_neg h,if_pos hnil]
 unfold Lib.runeCount;rw [h _ _ (Nat.zero_le _) (by omega)];rfl
theorem Zbk (l:Bs):cnt l<=l.length:=by
 have h:∀ f l,cntF f l<=f:=by
  intro f;induction f with
  | zero=>intro l; exact Nat.le_refl _
  | succ f ih =>intro l;unfold cntF;have:=ih (l.drop (wd l));split<;>omega
 exact h _ _
def textOk (s:Bs):Bool:=decide (s.length<=400)&&val s&&decide (cnt s<=100)
def isName (s:Bs):Bool:=decide (s.length<=400)&&(match lexAll s with | .ok [t,_]=>decide (t.k=3/\t.s=s)&&!word s|_=>false)
def arity (op:Int):Int :=
 if 1<=op/\op<=4 then 0
 else if op=5\/op=6\/op=19\/op=22\/op=23 then 1
 else if (7<=op/\op<=17)\/op=20\/op=21 then 2
 else if op=18 then 3
 else -1
def kidOp (ks:List Ex):Int:=match ks with|k::_=>k.op|[]=>0
def alone (op n:Int) (s:Bs) (ks:List Ex):Bool :=
 decide ((ks.length:Int)=arity op) &&
 (if op=1 then decide (0<=n/\s=[])
  else if op=2 then decide (n=0)&&textOk s
  else if op=3 then decide ((n=0\/n=1)/\s=[])
  else if op=4 then decide (n=0)&&isName s
  else decide (n=0/\s=[]/\(op=22->kidOp ks=4)))
mutual
/-- So many parts are left. -/
def chk : Ex -> Nat -> Nat -> Option Nat
  | .mk op n s ks, deep, left => if left = 0 \/ 24 < deep \/ alone op n s ks = false then none else chkL ks (deep + 1) (left - 1)
def chkL : List Ex -> Nat -> Nat -> Option Nat
  | [], _, left => some left
  | k :: ks, deep, left => (chk k deep left).bind fun m => chkL ks deep m
end
def check (e:Ex):Bool:=(chk e 1 128).isSome
def parseM (l:Bs):Except (Nat × Int) Ex :=
 if 400<l.length then .error (400,7)
 else match lexAll l with
  | .error p => .error (p,5)
  | .ok ts=>match readL ts with
   | .error q => .error (q,6)
   | .ok e=>if check e=true then .ok e else .error (0,7)
def findT:List Bs->List Int->Bs->Int
 | [],_,_=>0
 | m::ms,ts,s=>if m=s then (match ts with|t::_=>if 1<=t/\t<=3 then t else 0|[]=>0) else findT ms ts.tail s
def made (op a b c:Int):Int :=
 if op=1 then 1
 else if op=2 then 3
 else if op=5 then (if a=1 then 1 else 0)
 else if 7<=op/\op<=11 then (if a=1/\b=1 then 1 else 0)
 else if op=6 then (if a=2 then 2 else 0)
 else if op=16\/op=17 then (if a=2/\b=2 then 2 else 0)
 else if op=12\/op=13 then (if a=b then 2 else 0)
 else if op=14\/op=15 then (if a=b/\a≠2 then 2 else 0)
 else if op=18 then (if a=2/\b=c then b else 0)
 else if op=19 then (if a=3 then 1 else 0)
 else if op=20 then (if a=3/\b=3 then 3 else 0)
 else if op=21 then (if a=3/\b=1 then 3 else 0)
 else if op=23 then (if a=3 then 3 else 0)
 else 2
mutual
/-- The type of an expression, or the error: 8, 9. -/
def typ (names : List Bs) (types : List Int) : Ex -> Except Int Int
  | .mk op _ s ks =>
    match typL names types ks with
    | .error e => .error e
    | .ok ts =>
      if op = 4 then (if findT names types s = 0 then .error 9 else .ok (findT names types s))
      else if made op (ts.getD 0 0) (ts.getD 1 0) (ts.getD 2 0) = 0 then .error 8 else .ok (made op (ts.getD 0 0) (ts.getD 1 0) (ts.getD 2 0))
def typL (names : List Bs) (types : List Int) : List Ex -> Except Int (List Int)
  | [] => .ok []
  | k :: ks =>
    match typ names types k with
    | .error e => .error e
    | .ok t =>
      match typL names types ks with
      | .error e => .error e
      | .ok ts => .ok (t :: ts)
end
def typeOf (e:Ex) (names:List Bs) (types:List Int):Int × Int :=
 if check e then (match typ names types e with | .ok t=>(t,0) | .error f=>(0,f)) else (0,6)

structure Val where
 k:Int
 n:Int
 s:Bs
def vNil:Val:=⟨0,0,[]⟩
def vInt (n:Int):Val:=⟨1,n,[]⟩
def vBool (b:Bool):Val:=⟨2,if b then 1 else 0,[]⟩
def vText (s:Bs):Val:=⟨3,0,s⟩
def vBad (n:Int):Val:=⟨4,n,[]⟩
def okV (v:Val):Bool :=
 if v.k=0 then decide (v.n=0/\v.s=[])
 else if v.k=1 then decide (v.s=[])
 else if v.k=2 then decide ((v.n=0\/v.n=1)/\v.s=[])
 else if v.k=3 then decide (v.n=0)&&textOk v.s
 else if v.k=4 then decide (1<=v.n/\v.n<=4/\v.s=[])
 else false
def look:List Bs->List Val->Bs->Val
 | [],_,_=>vNil
 | m::ms,vs,s=>if m=s then (match vs with|v::_=>if okV v then v else vNil|[]=>vNil) else look ms vs.tail s
def need (v:Val) (ks:List Int):Except Val Val:=if v.k=4 then .error v else if ks.contains v.k then .ok v else .error (vBad 3)
def fitM (x:Int):Val:=if -9223372036854775808<=x/\x<=9223372036854775807 then vInt x else vBad 1
def arith (op a b:Int):Val :=
 if op=7 then fitM (a+b)
 else if op=8 then fitM (a - b)
 else if op=9 then fitM (a*b)
 else if b=0 then vBad 2
 else if op=10 then fitM (a.tdiv b)
 else vInt (a.tmod b)
def numM (op:Int) (a b:Val):Val :=
 match need a [1] with
 | .error v=>v
 | .ok a=>if op=5 then fitM (0 - a.n) else
  match need b [1] with
  | .error v=>v
  | .ok b=>arith op a.n b.n
def takeP:Nat->Bs->Bs
 | 0,_=>[]
 | n+1,l=>if l=[] then [] else l.take (wd l)++takeP n (l.drop (wd l))
def upr (r:Int):Int :=
 if (97<=r/\r<=122)\/(224<=r/\r<=246)\/(248<=r/\r<=254)\/(945<=r/\r<=961)\/(963<=r/\r<=969)\/(1072<=r/\r<=1103) then r - 32
 else if r=962 then 931 else r
def foldF:Nat->Bs->Bs
 | 0,_=>[]
 | f+1,l=>if l=[] then [] else (if rn l=65533/\wd l=1 then l.take 1 else Lib.encodeRune (upr (rn l)))++foldF f (l.drop (wd l))
def fold (l:Bs):Bs:=foldF l.length l
def longM (s:Bs):Val:=if 100<cnt s then vBad 4 else vText s
def textM (op:Int) (a b:Val):Val :=
 match need a [3] with
 | .error v=>v
 | .ok a =>
  if op=19 then vInt (cnt a.s)
  else if op=23 then longM (fold a.s)
  else if op=21 then (match need b [1] with | .error v=>v | .ok b=>longM (takeP b.n.toNat a.s))
  else (match need b [3] with | .error v=>v | .ok b=>longM (a.s++b.s))
def lessV (a b:Val):Bool:=if a.k=3 then Op.bytesLess a.s b.s else if a.k=1 then decide (a.n<b.n) else false
def sameV (a b:Val):Bool:=decide (a.n=b.n/\a.s=b.s)
def truthM (op:Int) (a b c:Val):Val :=
 if op=6\/op=16\/op=17\/op=18 then
  match need a [2] with
  | .error v=>v
  | .ok a =>
   if op=6 then vBool (decide (a.n≠1))
   else if op=18 then (if a.n=1 then b else c)
   else if (a.n=1)=(op=17) then vBool (decide (a.n=1))
   else (match need b [2] with | .error v=>v | .ok b=>b)
 else
  match need a (if op=14\/op=15 then [1,3] else [1,3,2]) with
  | .error v=>v
  | .ok a =>
   match need b [a.k] with
   | .error v=>v
   | .ok b =>
    if op=12 then vBool (sameV a b)
    else if op=13 then vBool (!sameV a b)
    else if op=14 then vBool (lessV a b)
    else vBool (lessV a b || sameV a b)
def kidS (ks:List Ex):Bs:=match ks with|k::_=>k.s|[]=>[]
def evOp (ρ:Bs->Val) (op n:Int) (s:Bs) (ks:List Ex) (a b c:Val):Val :=
 if op=1 then vInt n
 else if op=2 then vText s
 else if op=3 then vBool (decide (n=1))
 else if op=4 then ρ s
 else if op=22 then vBool (decide (¬ ((ρ (kidS ks)).k=0\/(ρ (kidS ks)).k=4)))
 else if op=5\/(7<=op/\op<=11) then numM op a b
 else if op=19\/op=20\/op=21\/op=23 then textM op a b
 else truthM op a b c
mutual
def ev (ρ : Bs -> Val) : Ex -> Val
  | .mk op n s ks => evOp ρ op n s ks ((evL ρ ks).getD 0 vNil) ((evL ρ ks).getD 1 vNil) ((evL ρ ks).getD 2 vNil)
def evL (ρ : Bs -> Val) : List Ex -> List Val
  | [] => []
  | k :: ks => ev ρ k :: evL ρ ks
end
def evalM (e:Ex) (names:List Bs) (vals:List Val):Val:=if check e then ev (look names vals) e else vNil
inductive Fine:Ex->Prop
 | mk (op n:Int) (s:Bs) (ks:List Ex) (ho : -9223372036854775808<=op/\op<=9223372036854775807) (hn : -9223372036854775808<=n/\n<=9223372036854775807) (hs:s.length<=140737488355328) (hk:∀ k∈ks,Fine k):Fine (.mk op n s ks)
theorem cls_2 {r:Int}:cls r=2↔48<=r/\r<=57:=by
 constructor
 . intro h;unfold cls at h;split at h
   . cases h
   . split at h
     . cases h
     . split at h
       . assumption
       . split at h<;>cases h
 . exact Zam
theorem Zbl : ∀ (n : Nat) (l : Bs), l.length <= n -> ∀ c ∈ l.take (run 2 2 l), 48 <= c.toNat /\ c.toNat <= 57 := by
  intro n
  induction n with
  | zero => intro l h; have : l = [] := Yal (by omega)
            subst this; simp
  | succ n ih =>
    intro l h c hc
    cases l with
    | nil => simp at hc
    | cons x t =>
      by_cases hk : cls (rn (x :: t)) = 2
      . have hr := cls_2.1 hk
        have hl := ZaW (l := x :: t) (by omega)
        rw [Za5 (by simp) (.inl hk), hl.2.2] at hc
        rw [show 1 + run 2 2 ((x :: t).drop 1) = run 2 2 t + 1 from by rw [List.drop_one, List.tail_cons]; omega, List.take_succ_cons] at hc
        rcases Ybc.1 hc with e | e
        . have : bk (x :: t) 0 = x.toNat := rfl
          rw [e]; omega
        . exact ih t (by simp at h; omega) c e
      . rw [Za4 (fun h => hk (h.elim id id))] at hc
        simp at hc
theorem Zbm {l:Bs} (hn:l≠[]) (h:cls (rn l)=2):1<=run 2 2 l:=by rw [Za5 hn (.inl h)]; have:=ZaQ l; omega
theorem Zbn:∀ (l:Bs) (M acc:Nat),(∀ c∈l,48<=c.toNat/\c.toNat<=57)->(∃ v,Lib.parseUintM M acc l = .ok v)\/Lib.parseUintM M acc l = .range:=by
 intro l;induction l with
 | nil=>intro M acc _; exact .inl ⟨acc,rfl⟩
 | cons c t ih =>
  intro M acc hd;unfold Lib.parseUintM;rw [if_pos (hd c (by simp))];split
  . exact .inr rfl
  . split
    . exact .inr rfl
    . exact ih _ _ (fun x hx=>hd x (by simp [hx]))
theorem Zbo {l:Bs} (hn:l≠[]) (hd:∀ c∈l,48<=c.toNat/\c.toNat<=57):(∃ v,Lib.parseIntB 64 l = .ok v/\numOf l=some v)\/(Lib.parseIntB 64 l = .range/\numOf l=none):=by
 cases l with
 | nil=>exact absurd rfl hn
 | cons c t =>
  have hc:=hd c (by simp);have hm:=Zbn (c::t) (2 ^ 64 - 1) 0 hd;have hB:Lib.parseUintB 64 (c::t)=Lib.parseUintM (2 ^ 64 - 1) 0 (c::t):=(by unfold Lib.parseUintB; rw [if_neg (by simp)]);rw [<-hB] at hm;have e:(∃ v,Lib.parseIntB 64 (c::t) = .ok v)\/Lib.parseIntB 64 (c::t) = .range:=by
   rcases hm with ⟨u,hu⟩|hu
   . unfold Lib.parseIntB;simp only;rw [if_neg (by omega),hu];simp only;split
     . exact .inr rfl
     . split
       . exact .inr rfl
       . exact .inl ⟨_,rfl⟩
   . unfold Lib.parseIntB;simp only;rw [if_neg (by omega),hu];exact .inr rfl
  rcases e with ⟨v,e⟩|e
  . exact .inl ⟨v,e,by unfold numOf; rw [e]⟩
  . exact .inr ⟨e,by unfold numOf; rw [e]⟩
def scalar (r:Int):Prop:=0<=r/\r<=1114111/\¬ (55296<=r/\r<=57343)
theorem Zbp (n b0 b1 b2 b3:Nat) (h:b0<256):scalar ((Lib.decodeN n b0 b1 b2 b3).1:Int):=by
 unfold Lib.decodeN scalar
 repeat' split
 all_goals (first|(simp; done)|(simp; omega))
theorem Zbq (l:Bs):scalar (rn l):=Zbp _ _ _ _ _ (ZaE l 0)
theorem toU8 {x:Int} (_h0:0<=x) (h1:x<256):(x.toNat.toUInt8).toNat=x.toNat:=by simp; omega
theorem Zbr (r:Int):1<=(Lib.encodeRune r).length/\(Lib.encodeRune r).length<=4:=by have:=Lib.runeCells_le r; rw [Lib.runeCells_length] at this; exact this
theorem Zbs {r:Int} (h:scalar r) (t:Bs):rn (Lib.encodeRune r++t)=r/\wd (Lib.encodeRune r++t)=(Lib.encodeRune r).length:=by
 obtain ⟨h0,h1,h2⟩:=h;unfold Lib.encodeRune;by_cases a:r<=127
 . rw [Lib.encodeRuneZ_one h0 a];have e0:=toU8 (x:=r) h0 (by omega);have:=ZaT (l:=[r].map (fun x=>x.toNat.toUInt8)++t) (by show (r.toNat.toUInt8).toNat<128; omega);have e1:bk ([r].map (fun x=>x.toNat.toUInt8)++t) 0=r.toNat:=e0;rw [this.1,this.2,e1];simp; omega
 by_cases b:r<=2047
 . rw [Lib.encodeRuneZ_two (by omega) b];have e0:=toU8 (x:=192+r / 64) (by omega) (by omega);have e1:=toU8 (x:=128+r % 64) (by omega) (by omega);have hd:decL ([192+r / 64,128+r % 64].map (fun x=>x.toNat.toUInt8)++t)=(r.toNat,2):=(by unfold decL;show Lib.decodeN (t.length+2) ((192+r / 64).toNat.toUInt8).toNat ((128+r % 64).toNat.toUInt8).toNat _ _=_;rw [e0,e1];unfold Lib.decodeN;rw [if_neg (by omega),if_pos (by omega),if_pos (by omega)];refine Prod.ext ?_ rfl;show (192+r / 64).toNat % 32*64+(128+r % 64).toNat % 64=r.toNat;omega);unfold rn wd;rw [hd];refine ⟨by show ((r.toNat:Nat):Int)=r; omega,rfl⟩
 by_cases c:r<=65535
 . rw [Lib.encodeRuneZ_three (by omega)];have e0:=toU8 (x:=224+r / 4096) (by omega) (by omega);have e1:=toU8 (x:=128+r / 64 % 64) (by omega) (by omega);have e2:=toU8 (x:=128+r % 64) (by omega) (by omega);have hd:decL ([224+r / 4096,128+r / 64 % 64,128+r % 64].map (fun x=>x.toNat.toUInt8)++t)=(r.toNat,3):=(by unfold decL;show Lib.decodeN (t.length+3) ((224+r / 4096).toNat.toUInt8).toNat ((128+r / 64 % 64).toNat.toUInt8).toNat ((128+r % 64).toNat.toUInt8).toNat _=_;rw [e0,e1,e2];unfold Lib.decodeN;have v:(224+r / 4096).toNat % 16*4096+(128+r / 64 % 64).toNat % 64*64+(128+r % 64).toNat % 64=r.toNat:=(by omega);rw [v,if_neg (by omega),if_neg (by omega),if_pos (by omega),if_pos (by omega)]);unfold rn wd;rw [hd];refine ⟨by show ((r.toNat:Nat):Int)=r; omega,rfl⟩
 . rw [Lib.encodeRuneZ_four (by omega) h1];have e0:=toU8 (x:=240+r / 262144) (by omega) (by omega);have e1:=toU8 (x:=128+r / 4096 % 64) (by omega) (by omega);have e2:=toU8 (x:=128+r / 64 % 64) (by omega) (by omega);have e3:=toU8 (x:=128+r % 64) (by omega) (by omega);have hd:decL ([240+r / 262144,128+r / 4096 % 64,128+r / 64 % 64,128+r % 64].map (fun x=>x.toNat.toUInt8)++t)=(r.toNat,4):=(by unfold decL;show Lib.decodeN (t.length+4) ((240+r / 262144).toNat.toUInt8).toNat ((128+r / 4096 % 64).toNat.toUInt8).toNat ((128+r / 64 % 64).toNat.toUInt8).toNat ((128+r % 64).toNat.toUInt8).toNat=_;rw [e0,e1,e2,e3];unfold Lib.decodeN;have v:(240+r / 262144).toNat % 8*262144+(128+r / 4096 % 64).toNat % 64*4096+(128+r / 64 % 64).toNat % 64*64+(128+r % 64).toNat % 64=r.toNat:=(by omega);rw [v,if_neg (by omega),if_neg (by omega),if_neg (by omega),if_pos (by omega),if_pos (by omega)]);unfold rn wd;rw [hd];refine ⟨by show ((r.toNat:Nat):Int)=r; omega,rfl⟩
theorem Zbt : ∀ f g l, l.length <= f -> l.length <= g -> cntF f l = cntF g l := by
  intro f
  induction f with
  | zero => intro g l h _; have : l = [] := Yal (by omega)
            subst this; rw [Zbi, Zbi]
  | succ f ih =>
    intro g l h1 h2
    by_cases hn : l = []
    . subst hn; rw [Zbi, Zbi]
    . have hd := ZaX hn
      cases g with
      | zero => exact absurd (Yal (by omega)) hn
      | succ g =>
        unfold cntF
        rw [if_neg hn, if_neg hn, ih g (l.drop (wd l)) (by omega) (by omega)]
theorem Zbu:cnt []=0:=rfl
theorem Zbv {l:Bs} (hn:l≠[]):cnt l=1+cnt (l.drop (wd l)):=by
 unfold cnt;have hd:=ZaX hn;cases l with
 | nil=>exact absurd rfl hn
 | cons c t =>
  simp only [List.length_cons] at hd |-;conv=>lhs; unfold cntF
  rw [if_neg (by simp),Zbt _ ((c::t).drop (wd (c::t))).length _ (by omega) Zs]
theorem Zbw (r:Int) (t:Bs):Lib.encodeRune r++t≠[]:=fun h=>by
 have:=(Zbr r).1
 have h2:=congrArg List.length h
 rw [Yak,List.length_nil] at h2
 omega
theorem Zbx {r:Int} (h:scalar r) (t:Bs):cnt (Lib.encodeRune r++t)=1+cnt t:=by rw [Zbv (Zbw r t),(Zbs h t).2,List.drop_left]
theorem Zby : ∀ f g l, l.length <= f -> l.length <= g -> valF f l = valF g l := by
  intro f
  induction f with
  | zero => intro g l h _; have : l = [] := Yal (by omega)
            subst this; cases g <;> simp [valF]
  | succ f ih =>
    intro g l h1 h2
    by_cases hn : l = []
    . subst hn; cases g <;> simp [valF]
    . have hd := ZaX hn
      cases g with
      | zero => exact absurd (Yal (by omega)) hn
      | succ g =>
        unfold valF
        rw [if_neg hn, if_neg hn, ih g (l.drop (wd l)) (by omega) (by omega)]
theorem Zbz:val []=true:=rfl
theorem ZbA {l:Bs} (hn:l≠[]):val l=(if rn l=65533/\wd l=1 then false else val (l.drop (wd l))):=by
 unfold val;have hd:=ZaX hn;cases l with
 | nil=>exact absurd rfl hn
 | cons c t =>
  simp only [List.length_cons] at hd |-;conv=>lhs; unfold valF
  rw [if_neg (by simp),Zby _ ((c::t).drop (wd (c::t))).length _ (by omega) Zs]
theorem ZbB {r:Int} (h:scalar r) (t:Bs):val (Lib.encodeRune r++t)=val t:=by have hd:=Zbs h t;rw [ZbA (Zbw r t),hd.1,hd.2,List.drop_left,if_neg];rintro ⟨rfl,h2⟩;exact absurd h2 (by decide)
theorem ZbC {l:Bs} {r:Int} {z:Nat} (h:escL l=some (r,z)):scalar r:=by
 unfold escL at h;split at h
 . simp only [Yai,Yaw] at h;obtain ⟨rfl,rfl⟩:=h;have:=ZaE l 1;unfold scalar; omega
 . split at h
   . split at h
     . rename_i a b c d ha hb hc hd;have:=Za7 ha; have:=Za7 hb; have:=Za7 hc; have:=Za7 hd;split at h
       . cases h
       . simp only [Yai,Yaw] at h;obtain ⟨rfl,rfl⟩:=h;unfold hex4 scalar at *;omega
     . cases h
   . cases h
theorem ZbD:∀ (f:Nat) (l t:Bs) (n z:Nat),unqL f l=some (t,n,z)->cnt t=n/\val t=true/\t.length<=4*n:=by
 intro f;induction f with
 | zero=>intro l t n z h; cases h
 | succ f ih =>
  intro l t n z h;unfold unqL at h;split at h
  . cases h
  . split at h
    . simp only [Yai,Yaw] at h;obtain ⟨rfl,rfl,rfl⟩:=h;exact ⟨rfl,rfl,by simp⟩
    . split at h
      . split at h
        . cases h
        . rename_i r y he;split at h
          . cases h
          . rename_i t' n' y' hu;simp only [Yai,Yaw] at h;obtain ⟨rfl,rfl,rfl⟩:=h;have g:=ih _ _ _ _ hu;have s:=ZbC he;have:=Zbr r;exact ⟨by rw [Zbx s,g.1]; omega,by rw [ZbB s]; exact g.2.1,by rw [Yak]; omega⟩
      . split at h
        . cases h
        . split at h
          . cases h
          . rename_i t' n' y' hu;simp only [Yai,Yaw] at h;obtain ⟨rfl,rfl,rfl⟩:=h;have g:=ih _ _ _ _ hu;have s:=Zbq l;have:=Zbr (rn l);exact ⟨by rw [Zbx s,g.1]; omega,by rw [ZbB s]; exact g.2.1,by rw [Yak]; omega⟩
theorem ZbE:∀ (f:Nat) (l t:Bs) (n z:Nat),unqL f l=some (t,n,z)->n+1<=z:=by
 intro f;induction f with
 | zero=>intro l t n z h; cases h
 | succ f ih =>
  intro l t n z h;unfold unqL at h;split at h
  . cases h
  . split at h
    . simp only [Yai,Yaw] at h;omega
    . split at h
      . rename_i h92;split at h
        . cases h
        . rename_i r y he;split at h
          . cases h
          . rename_i t' n' y' hu;simp only [Yai,Yaw] at h;have g:=ih _ _ _ _ hu;have:=(Za8 (rn_92.1 h92) he).2;omega
      . split at h
        . cases h
        . split at h
          . cases h
          . rename_i t' n' y' hu;simp only [Yai,Yaw] at h;have g:=ih _ _ _ _ hu;have:=ZaQ l;omega
theorem ZbF {f:Nat} {l t:Bs} {n z:Nat} (h:unqL f l=some (t,n,z)):n+1<=l.length:=by have:=ZbE _ _ _ _ _ h;have:=(Za9 _ _ _ _ _ h).1.le;omega
end Go.Proofs.YtikannmgllejfaaGreatDoor
