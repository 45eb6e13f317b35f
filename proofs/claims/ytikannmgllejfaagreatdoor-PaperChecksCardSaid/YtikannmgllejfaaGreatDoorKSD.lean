/- The map of a form's names to their places, as it lies in mem. -/
import Derived.Test.YtikannmgllejfaaGreatDoorKEA
import Derived.Test.YtikannmgllejfaaGreatDoorKT3
import Derived.Test.YtikannmgllejfaaGreatDoorKLx
import Derived.Maps.OwnSet
set_option linter.all false
namespace Go.Proofs.YtikannmgllejfaaGreatDoor
open Go.RowKit Pal
theorem Zfm (names:List Bs) (types:List Int) (op n:Int) (s:Bs) (ks:List Ex):typ names types (.mk op n s ks)=(match typL names types ks with | .error e => .error e | .ok ts=>if op=4 then (if findT names types s=0 then .error 9 else .ok (findT names types s)) else if made op (ts.getD 0 0) (ts.getD 1 0) (ts.getD 2 0)=0 then .error 8 else .ok (made op (ts.getD 0 0) (ts.getD 1 0) (ts.getD 2 0))):=by rw [typ]; cases typL names types ks<;>rfl
theorem Zfn (names:List Bs) (types:List Int) (k:Ex) (ks:List Ex):typL names types (k::ks)=(match typ names types k with | .error e => .error e | .ok t=>match typL names types ks with | .error e => .error e | .ok ts => .ok (t::ts)):=by rw [typL]; cases typ names types k with
 | error e=>rfl
 | ok t=>cases typL names types ks<;>rfl
theorem Zfo {names:List Bs} {types:List Int} {k:Ex} {ks:List Ex} {ts:List Int} (h:typL names types (k::ks) = .ok ts):∃ t us,typ names types k = .ok t/\typL names types ks = .ok us/\ts=t::us:=by
 rw [Zfn] at h;cases h1:typ names types k with
 | error e=>rw [h1] at h; cases h
 | ok t =>
  rw [h1] at h;simp only at h;cases h2:typL names types ks with
  | error e=>rw [h2] at h; cases h
  | ok us=>rw [h2] at h; simp only [Except.ok.injEq] at h; exact ⟨t,us,rfl,rfl,h.symm⟩
def fitsV (v:Val) (t:Int):Bool:=okV v&&(decide (v.k=0) || decide (v.k=t))
inductive Occ:Ex->Bs->Prop
 | here (n:Int) (s:Bs) (ks:List Ex):Occ (.mk 4 n s ks) s
 | kid (op n:Int) (s:Bs) (ks:List Ex) (k:Ex) (x:Bs) (hk:k∈ks) (h:Occ k x):Occ (.mk op n s ks) x
def lead (s:Bs):List Bs->Nat
 | []=>0
 | a::l=>if Op.bytesLess a s=true then lead s l+1 else 0
def withM (l:List Bs) (s:Bs):List Bs:=if l[lead s l]?=some s then l else l.take (lead s l)++s::l.drop (lead s l)
theorem Zfp (s:Bs):∀ l,lead s l<=l.length
 | []=>Nat.le_refl _
 | a::l=>by
  have h:=Zfp s l
  unfold lead
  rw [List.length_cons]
  split<;>omega
theorem Zfq (l:List Bs) (s x:Bs):x∈withM l s↔x∈l\/x=s:=by
 unfold withM;split
 . rename_i h;have:=Yay h;constructor
   . exact .inl
   . rintro (h|rfl)
     . exact h
     . exact this
 . rw [List.mem_append,Ybc];have:x∈l↔x∈l.take (lead s l)\/x∈l.drop (lead s l):=(by rw [<-List.mem_append,List.take_append_drop]);rw [this];constructor
   . rintro (h|h|h)
     . exact .inl (.inl h)
     . exact .inr h
     . exact .inl (.inr h)
   . rintro ((h|h)|h)
     . exact .inl h
     . exact .inr (.inr h)
     . exact .inr (.inl h)
theorem Zfr (l:List Bs) (s:Bs):l.length<=(withM l s).length/\(withM l s).length<=l.length+1:=by
 unfold withM;split
 . omega
 . have:=Zfp s l;rw [Yak,List.length_cons,List.length_take,Yav];omega
theorem Zfs:∀ (ms l:List Bs),l.length<=(ms.foldl withM l).length/\(ms.foldl withM l).length<=l.length+ms.length
 | [],l=>⟨Nat.le_refl _,Nat.le_refl _⟩
 | m::ms,l=>by
  have h1:=Zfs ms (withM l m)
  have h2:=Zfr l m
  rw [List.foldl_cons,List.length_cons]
  omega
theorem Zft:∀ (ms l:List Bs) (x:Bs),x∈ms.foldl withM l↔x∈l\/x∈ms
 | [],l,x=>by simp
 | m::ms,l,x=>by
  rw [List.foldl_cons,Zft ms (withM l m) x,Zfq,Ybc,or_assoc]
mutual
/-- The names of an expression. -/
def namesM : Ex -> List Bs
  | .mk op _ s ks => if op = 4 then [s] else namesL ks []
def namesL : List Ex -> List Bs -> List Bs
  | [], l => l
  | k :: ks, l => namesL ks ((namesM k).foldl withM l)
end
theorem Zfu {n:Int} {s:Bs} {ks:List Ex}:namesM (.mk 4 n s ks)=[s]:=by rw [namesM,if_pos rfl]
theorem Zfv {op n:Int} {s:Bs} {ks:List Ex} (h:op≠4):namesM (.mk op n s ks)=namesL ks []:=by rw [namesM,if_neg h]
theorem Zfw (l:List Bs):namesL [] l=l:=by rw [namesL]
theorem Zfx (k:Ex) (ks:List Ex) (l:List Bs):namesL (k::ks) l=namesL ks ((namesM k).foldl withM l):=by rw [namesL]
theorem Zfy:∀ (ks:List Ex) (l:List Bs),l.length<=(namesL ks l).length
 | [],l=>by rw [Zfw]; exact Nat.le_refl _
 | k::ks,l=>by
  rw [Zfx]
  have h1:=Zfy ks ((namesM k).foldl withM l)
  have h2:=(Zfs (namesM k) l).1
  omega
theorem Zfz (e:Ex):∀ (deep left m:Nat),chk e deep left=some m->(namesM e).length+m<=left:=by
 refine Ex.ind (P:=fun e=>∀ (deep left m:Nat),chk e deep left=some m->(namesM e).length+m<=left) ?_ e;intro op n s ks ih deep left m h;by_cases hb:left=0\/24<deep\/alone op n s ks=false
 . rw [Zdn hb] at h; cases h
 rw [Zdo hb] at h;have hl:left≠0:=fun h=>hb (.inl h);have go:∀ (l:List Ex),(∀ k∈l,k∈ks)->∀ (acc:List Bs) (left m:Nat),chkL l (deep+1) left=some m->(namesL l acc).length+m<=acc.length+left:=by
  intro l;induction l with
  | nil=>intro _ acc left m h; rw [Zdl] at h; cases h; rw [Zfw]; omega
  | cons k l2 ih2 =>
   intro hm acc left m h;rw [Zdm] at h;cases h1:chk k (deep+1) left with
   | none=>rw [h1] at h; cases h
   | some x =>rw [h1,Option.bind_some] at h;have a1:=ih k (hm k (by simp)) _ _ _ h1;have a2:=ih2 (fun y hy=>hm y (by simp [hy])) ((namesM k).foldl withM acc) x m h;have a3:=(Zfs (namesM k) acc).2;rw [Zfx];omega
 by_cases h4:op=4
 . subst h4;rw [Zfu];have:=go ks (fun _ h=>h) [] _ _ h;have h0:0<=(namesL ks []).length:=Nat.zero_le _;simp at this |-;omega
 . rw [Zfv h4];have:=go ks (fun _ h=>h) [] _ _ h;simp at this;omega
theorem ZfA (e:Ex):∀ x,x∈namesM e->Occ e x:=by
 refine Ex.ind (P:=fun e=>∀ x,x∈namesM e->Occ e x) ?_ e;intro op n s ks ih x h;by_cases h4:op=4
 . subst h4;rw [Zfu] at h;obtain rfl:=List.mem_singleton.1 h;exact .here _ _ _
 . rw [Zfv h4] at h;have go:∀ (l:List Ex),(∀ k∈l,k∈ks)->∀ (acc:List Bs),x∈namesL l acc->x∈acc\/∃ k∈ks,x∈namesM k:=by
    intro l;induction l with
    | nil=>intro _ acc h; rw [Zfw] at h; exact .inl h
    | cons k l2 ih2 =>
     intro hm acc h;rw [Zfx] at h;rcases ih2 (fun y hy=>hm y (by simp [hy])) _ h with h|h
     . rcases (Zft _ _ _).1 h with h|h
       . exact .inl h
       . exact .inr ⟨k,hm k (by simp),h⟩
     . exact .inr h
   rcases go ks (fun _ h=>h) [] h with h|⟨k,hk,h⟩
   . cases h
   . exact .kid _ _ _ _ k x hk (ih k hk x h)
theorem ZfB (e:Ex):Good e->∀ x,Occ e x->x∈namesM e:=by
 refine Ex.ind (P:=fun e=>Good e->∀ x,Occ e x->x∈namesM e) ?_ e;intro op n s ks ih hG x h;cases hG with
 | mk _ _ _ _ ha hn hk =>
 cases h with
 | here=>rw [Zfu]; simp
 | kid _ _ _ _ k _ hkm h =>
  have h4:op≠4:=fun h4=>by subst h4;have:=Zd6 ha;have e:arity 4=0:=rfl;rw [e] at this;have:ks=[]:=Yal (by omega);subst this;cases hkm
  rw [Zfv h4];have go:∀ (l:List Ex) (acc:List Bs),(x∈acc\/∃ k∈l,x∈namesM k)->x∈namesL l acc:=by
   intro l;induction l with
   | nil=>intro acc h; rw [Zfw]; rcases h with h|⟨_,h,_⟩; exact h; cases h
   | cons k l2 ih2 =>
    intro acc h;rw [Zfx];refine ih2 _ ?_;rcases h with h|⟨k',hk',h⟩
    . exact .inl ((Zft _ _ _).2 (.inl h))
    . rcases Ybc.1 hk' with rfl|hk'
      . exact .inl ((Zft _ _ _).2 (.inr h))
      . exact .inr ⟨k',hk',h⟩
  exact go ks [] (.inr ⟨k,hkm,ih k hkm (hk k hkm) x h⟩)
def NmV (h:GH) (v:Value) (l:List Bs):Prop:=(l=[]/\v = .slice none 0 0)\/(l≠[]/\∃ b cap,v = .slice (some ⟨b,0,none⟩) l.length cap/\l.length<=cap/\cap<=maxLen/\∀ j s,l[j]?=some s->h.cell b j=some (strV s))
theorem NmV.mono {h h':GH} (k:h.le h') {v:Value} {l:List Bs} (t:NmV h v l):NmV h' v l:=by
 rcases t with t|⟨hn,b,cap,hv,h1,h2,hx⟩
 . exact .inl t
 . exact .inr ⟨hn,b,cap,hv,h1,h2,fun j s hj=>k.cell (hx j s hj)⟩
theorem NmV.strs {h:GH} {v:Value} {l:List Bs} (t:NmV h v l):StrsV h v l:=by
 rcases t with ⟨rfl,rfl⟩|⟨hn,b,cap,hv,h1,h2,hx⟩
 . exact ⟨none,0,rfl,fun _=>rfl,Nat.le_refl _,by simp [maxLen],fun j s hj=>by simp at hj⟩
 . exact ⟨_,cap,hv,(fun h=>by cases h),h1,h2,fun j s hj=>⟨b,0,rfl,by rw [Nat.zero_add]; exact hx j s hj⟩⟩
def cellsS (l:List Bs):List Value:=l.flatMap fun s=>[strV s]
theorem ZfC (l:List Bs):cellsS l=l.map strV:=by unfold cellsS; rw [<-List.map_eq_flatMap]
theorem ZfD (l m:List Bs):cellsS (l++m)=cellsS l++cellsS m:=by unfold cellsS; rw [List.flatMap_append]
theorem ZfE (l:List Bs):(cellsS l).length=l.length:=by rw [ZfC,Ybf]
theorem ZfF (l:List Bs):∀ u∈cellsS l,u.oneCell'=true:=by intro u hu;rw [ZfC] at hu;obtain ⟨x,_,rfl⟩:=List.mem_map.1 hu;rfl
theorem NmV.ofRow {t:Tag} {w:World} {T:TypeId} {v:Value} {n:Nat} {l:List Bs} (h:Row t 1 w T 1 v n (cellsS l)) (hl:l≠[]):NmV (gh w) v l:=by
 have hs:=SlV.ofRow (fun s=>[strV s]) l ([]:Bs) (by decide) (fun _=>rfl) h;obtain ⟨a,cap,hv,h1,h2,h3,h4⟩:=hs;rcases h.own.2 with ⟨hv2,hn⟩|⟨g,cap',cur,hv2,hbg,hgg,hn,hc,hcs,ht⟩
 . rw [hv] at hv2;simp only [Yaq] at hv2;exact absurd (Yal hv2.2.1) hl
 . rw [hv] at hv2;simp only [Yaq] at hv2;obtain ⟨rfl,-,-⟩:=hv2;refine .inr ⟨hl,g,cap,hv,h2,h3,fun j s hj=>?_⟩;have hlt:=(Yag.1 hj).1;obtain ⟨b,off,ha,hcc⟩:=h4 j 0 (strV s) hlt (by show [strV (l.getD j [])][0]?=_; rw [Yau,hj]; rfl);simp only [Yai,Ybd,and_true] at ha;obtain ⟨rfl,rfl⟩:=ha;rw [show 0+(1*j+0)=j by omega] at hcc;exact hcc
def namePost (l:List Bs) (w:World) (r:Ending) (w':World):Prop:=Below w.heap.size w w'/\∃ v,r = .returned v/\NmV (gh w') v l
theorem ZfG (w:World) (T:TypeId) (c:Nat):Row T0 1 w T c (.slice none 0 0) 0 []:=Row.nil _ _ _ _ _
end Go.Proofs.YtikannmgllejfaaGreatDoor
namespace Pal.Graph

def lst (n:Int) (xss:List (List Int)) (i:Nat):List Int:=((xss[i]?).getD []).filter fun k=>decide (0<=k)&&decide (k<n)
def isDone (done:List Bool) (k:Int):Bool:=done.getD k.toNat false
def freeB (n:Int) (xss:List (List Int)) (done:List Bool) (i:Nat):Bool:=(lst n xss i).all (isDone done)
def may (n:Int) (xss:List (List Int)) (done:List Bool) (i:Nat):Bool:=!(done.getD i false)&&freeB n xss done i
def pick (n:Int) (xss:List (List Int)) (done:List Bool):Option Nat:=(List.range n.toNat).find? (may n xss done)
def step (n:Int) (xss:List (List Int)) (s:List Int × List Bool):List Int × List Bool :=
 match pick n xss s.2 with
 | none=>s
 | some i=>(s.1++[(i:Int)],s.2.set i true)
def st (n:Int) (xss:List (List Int)):Nat->List Int × List Bool
 | 0=>([],List.replicate n.toNat false)
 | j+1=>step n xss (st n xss j)
theorem ZfH {n:Int} {xss:List (List Int)} {s:List Int × List Bool} (h:pick n xss s.2=none):step n xss s=s:=by simp [step,h]
theorem ZfI {n:Int} {xss:List (List Int)} {s:List Int × List Bool} {i:Nat} (h:pick n xss s.2=some i):step n xss s=(s.1++[(i:Int)],s.2.set i true):=by simp [step,h]
theorem pick_none_iff {n:Int} {xss:List (List Int)} {done:List Bool}:pick n xss done=none↔∀ i,i<n.toNat->may n xss done i=false:=by simp only [pick,List.find?_eq_none,List.mem_range];exact ⟨fun h i hi=>by simpa using h i hi,fun h i hi=>by simp [h i hi]⟩
theorem ZfJ {n:Int} {xss:List (List Int)} {done:List Bool} {i:Nat} (hi:i<n.toNat) (hm:may n xss done i=true) (hb:∀ j,j<i->may n xss done j=false):pick n xss done=some i:=by unfold pick;rw [List.find?_range_eq_some];exact ⟨hm,List.mem_range.2 hi,fun j hj=>by simp [hb j hj]⟩
theorem ZfK {n:Int} {xss:List (List Int)} {done:List Bool} {i:Nat} (h:pick n xss done=some i):i<n.toNat/\may n xss done i=true/\∀ j,j<i->may n xss done j=false:=by unfold pick at h;rw [List.find?_range_eq_some] at h;exact ⟨List.mem_range.1 h.2.1,h.1,fun j hj=>by simpa using h.2.2 j hj⟩
theorem ZfL {n : Int} {xss : List (List Int)} {j : Nat} (h : pick n xss (st n xss j).2 = none) : ∀ k, j <= k -> st n xss k = st n xss j := by
  intro k hk
  induction k with
  | zero => have : j = 0 := by omega
            rw [this]
  | succ k ih =>
    by_cases e : j = k + 1
    . rw [e]
    . have := ih (by omega)
      show step n xss (st n xss k) = _
      rw [this]; exact ZfH h
theorem st_len {n:Int} {xss:List (List Int)} (j:Nat):(st n xss j).2.length=n.toNat:=by
 induction j with
 | zero=>simp [st]
 | succ j ih =>
  show (step n xss _).2.length=_;cases h:pick n xss (st n xss j).2 with
  | none=>rw [ZfH h]; exact ih
  | some i=>rw [ZfI h]; simpa using ih
theorem ZfM {l:List Bool} {i:Nat} (hi:i<l.length) (h:l.getD i false=false):(l.set i true).count true=l.count true+1:=by
 induction l generalizing i with
 | nil=>simp at hi
 | cons a l ih =>
  cases i with
  | zero=>simp at h; subst h; simp
  | succ i =>simp only [List.set_cons_succ,List.count_cons];rw [ih (by simpa using hi) (by simpa using h)];omega
theorem st_count {n:Int} {xss:List (List Int)} (j:Nat):(st n xss j).2.count true=(st n xss j).1.length:=by
 induction j with
 | zero=>simp [st,List.count_replicate]
 | succ j ih =>
  show (step n xss _).2.count true=(step n xss _).1.length;cases h:pick n xss (st n xss j).2 with
  | none=>rw [ZfH h]; exact ih
  | some i =>rw [ZfI h];obtain ⟨h1,h2,_⟩:=ZfK h;simp only [may,Bool.and_eq_true,Bool.not_eq_true'] at h2;simp only [List.length_append,List.length_cons,List.length_nil];rw [ZfM (by rw [st_len]; exact h1) h2.1,ih]
theorem ZfN {n:Int} {xss:List (List Int)} {j i:Nat} (h:pick n xss (st n xss j).2=some i):(st n xss (j+1)).1.length=(st n xss j).1.length+1:=by show (step n xss _).1.length=_;rw [ZfI h]; simp
theorem ZfO {n:Int} {xss:List (List Int)} {j i:Nat} (h:pick n xss (st n xss j).2=some i):(st n xss j).1.length<n.toNat:=by obtain ⟨h1,h2,_⟩:=ZfK h;simp only [may,Bool.and_eq_true,Bool.not_eq_true'] at h2;have h3:=ZfM (l:=(st n xss j).2) (by rw [st_len]; exact h1) h2.1;have h4:=List.count_le_length (a:=true) (l:=(st n xss j).2.set i true);rw [List.length_set,st_len] at h4;rw [<-st_count]; omega
theorem ZfP {n:Int} {xss:List (List Int)} {j:Nat} (hl:(st n xss j).1.length=j) (h:pick n xss (st n xss j).2=none):st n xss n.toNat=st n xss j:=by refine ZfL h _ ?_;have h4:=List.count_le_length (a:=true) (l:=(st n xss j).2);rw [st_count,st_len,hl] at h4;exact h4
def left (done:List Bool) (k:Nat):List Int:=((List.range k).filter fun i=>!(done.getD i false)).map Int.ofNat
theorem ZfQ (done:List Bool) (k:Nat):left done (k+1)=left done k++(if done.getD k false then [] else [(k:Int)]):=by
 simp only [left,List.range_succ,List.filter_append,List.map_append];congr 1;by_cases h:done.getD k false=true
 . rw [if_pos h]; simp only [List.filter_cons,h]; rfl
 . rw [if_neg h]; simp only [Bool.not_eq_true] at h; simp only [List.filter_cons,h]; rfl
theorem ZfR (done:List Bool) (k:Nat):(left done k).length<=k:=by simp only [left,List.length_map];exact Nat.le_trans (List.length_filter_le _ _) (by simp)
def orderS (n:Int) (xss:List (List Int)):List Int × Bool :=
 if 0<=n/\n<=4096 then (if (st n xss n.toNat).1.length<n.toNat then ([],false) else ((st n xss n.toNat).1,true)) else ([],false)
def stuckS (n:Int) (xss:List (List Int)):List Int:=if 0<=n/\n<=4096 then left (st n xss n.toNat).2 n.toNat else []
end Pal.Graph

namespace Pal.Graph

def cntW (n:Int) (xss:List (List Int)) (I j:Nat) (i:Nat):Int:=if i<I then (lst n xss i).length else if i=I then j else 0
def cntB (n:Int) (xss:List (List Int)) (I j:Nat) (k i:Nat):Nat:=if i<I then (lst n xss i).count (k:Int) else if i=I then ((lst n xss I).take j).count (k:Int) else 0
structure BackOk (N:Nat) (xss:List (List Int)) (B:List (List Int)) (I j:Nat):Prop where
 len:B.length=N
 count:∀ (k:Nat) (l:List Int),B[k]?=some l->∀ i:Nat,l.count (i:Int)=cntB N xss I j k i
 range:∀ (k:Nat) (l:List Int),B[k]?=some l->∀ x∈l,0<=x/\x<(N:Int)
 short:∀ (k:Nat) (l:List Int),B[k]?=some l->l.length<=I*80+j
theorem ZfS {n:Int} {xss:List (List Int)} {i:Nat} {x:Int} (h:x∈lst n xss i):0<=x/\x<n:=by simp only [lst,List.mem_filter,Bool.and_eq_true,decide_eq_true_eq] at h; exact h.2
theorem ZfT {n:Int} {xss:List (List Int)} (h:∀ (i:Nat) (xs:List Int),xss[i]?=some xs->xs.length<=80) (i:Nat):(lst n xss i).length<=80:=by
 refine Nat.le_trans (List.length_filter_le _ _) ?_;cases e:xss[i]? with
 | none=>simp
 | some xs=>simpa using h i xs e
theorem ZfU (N:Nat) (xss:List (List Int)):BackOk N xss (List.replicate N []) 0 0:=by
 refine ⟨by simp,fun k l h i=>?_,fun k l h x hx=>?_,fun k l h=>?_⟩;all_goals
  rw [List.getElem?_replicate] at h;split at h
  . cases h; first|(simp [cntB])|(cases hx)
  . cases h
theorem ZfV (n:Int) (xss:List (List Int)) (I:Nat) (k i:Nat):cntB n xss I (lst n xss I).length k i=cntB n xss (I+1) 0 k i:=by
 unfold cntB;rw [List.take_length];by_cases h1:i<I
 . rw [if_pos h1,if_pos (by omega)]
 . rw [if_neg h1];by_cases h2:i=I
   . rw [if_pos h2,if_pos (by omega),h2]
   . rw [if_neg h2,if_neg (by omega)];split<;>simp
theorem ZfW {N:Nat} {xss:List (List Int)} {B:List (List Int)} {I:Nat} (h:BackOk N xss B I (lst N xss I).length) (hs:(lst N xss I).length<=80):BackOk N xss B (I+1) 0 :=
 ⟨h.len,fun k l hl i=>by rw [<-ZfV]; exact h.count k l hl i,h.range,fun k l hl=>by have:=h.short k l hl; omega⟩
theorem ZfX (n:Int) (xss:List (List Int)) (I:Nat) (i:Nat):cntW n xss I (lst n xss I).length i=cntW n xss (I+1) 0 i:=by
 unfold cntW;by_cases h1:i<I
 . rw [if_pos h1,if_pos (by omega)]
 . rw [if_neg h1];by_cases h2:i=I
   . rw [if_pos h2,if_pos (by omega),h2]
   . rw [if_neg h2,if_neg (by omega)];split<;>simp
theorem ZfY (n:Int) (xss:List (List Int)) (I j:Nat) (i:Nat):(if i=I then cntW n xss I j I+1 else cntW n xss I j i)=cntW n xss I (j+1) i:=by
 unfold cntW;by_cases h2:i=I
 . subst h2; simp
 . simp [h2]
theorem ZfZ {N:Nat} {xss:List (List Int)} {B:List (List Int)} {I j:Nat} {x:Int} {l:List Int} (h:BackOk N xss B I j) (hI:I<N) (hx:(lst N xss I)[j]?=some x) (hl:B[x.toNat]?=some l) :
 BackOk N xss (B.set x.toNat (l++[(I:Int)])) I (j+1):=by
 have hx0:=ZfS (List.mem_of_getElem? hx);have hxl:x.toNat<B.length:=(List.getElem?_eq_some_iff.1 hl).1;have hcase:∀ k l',(B.set x.toNat (l++[(I:Int)]))[k]?=some l'->(k=x.toNat/\l'=l++[(I:Int)])\/(k≠x.toNat/\B[k]?=some l'):=by
  intro k l' h';by_cases e:k=x.toNat
  . subst e; rw [List.getElem?_set_self hxl] at h'; cases h'; exact .inl ⟨rfl,rfl⟩
  . rw [List.getElem?_set_ne (by omega)] at h'; exact .inr ⟨e,h'⟩
 have htake:(lst N xss I).take (j+1)=(lst N xss I).take j++[x]:=by rw [List.take_add_one,hx]; rfl
 refine ⟨by simpa using h.len,fun k l' h' i=>?_,fun k l' h' y hy=>?_,fun k l' h'=>?_⟩
 . rcases hcase k l' h' with ⟨rfl,rfl⟩|⟨hne,h1⟩
   . have hc:=h.count _ l hl i;rw [List.count_append,hc];unfold cntB;rw [htake,List.count_append];by_cases h1:i<I
     . rw [if_pos h1,if_pos h1];have:(I:Int)≠(i:Int):=(by omega);simp [List.count_cons]; omega
     . rw [if_neg h1,if_neg h1];by_cases h2:i=I
       . rw [if_pos h2,if_pos h2,h2];have:x=((x.toNat:Nat):Int):=(by omega);rw [<-this]; simp
       . rw [if_neg h2,if_neg h2];simp [List.count_cons]; omega
   . have hc:=h.count _ l' h1 i;rw [hc];unfold cntB;rw [htake,List.count_append];have:¬ x=(k:Int):=(by omega);by_cases h1:i<I
     . rw [if_pos h1,if_pos h1]
     . rw [if_neg h1,if_neg h1];by_cases h2:i=I
       . rw [if_pos h2,if_pos h2]; simp [this]
       . rw [if_neg h2,if_neg h2]
 . rcases hcase k l' h' with ⟨rfl,rfl⟩|⟨hne,h1⟩
   . rcases List.mem_append.1 hy with hy|hy
     . exact h.range _ l hl y hy
     . simp at hy; subst hy; omega
   . exact h.range _ l' h1 y hy
 . rcases hcase k l' h' with ⟨rfl,rfl⟩|⟨hne,h1⟩
   . have:=h.short _ l hl; simp; omega
   . have:=h.short _ l' h1; omega
def g_need (n:Int) (xss:List (List Int)) (done:List Bool) (i:Nat):Int:=((lst n xss i).filter fun k=>!isDone done k).length
theorem Zf0 (n:Int) (xss:List (List Int)) (N:Nat) (i:Nat):g_need n xss (List.replicate N false) i=(lst n xss i).length:=by
 unfold g_need;have h:(fun k=>!isDone (List.replicate N false) k)=fun _=>true:=by funext k; by_cases hk:k.toNat<N<;>simp [isDone,hk]
 rw [h];exact congrArg (fun l:List Int=>(l.length:Int)) (List.filter_eq_self.2 (fun _ _=>rfl))
theorem need_zero {n:Int} {xss:List (List Int)} {done:List Bool} {i:Nat}:g_need n xss done i<=0↔freeB n xss done i=true:=by
 unfold g_need freeB;constructor
 . intro h;have h0:((lst n xss i).filter fun k=>!isDone done k)=[]:=List.eq_nil_of_length_eq_zero (by omega);rw [List.filter_eq_nil_iff] at h0;rw [List.all_eq_true];intro x hx; simpa using h0 x hx
 . intro h;rw [List.all_eq_true] at h;have h0:((lst n xss i).filter fun k=>!isDone done k)=[]:=(by rw [List.filter_eq_nil_iff]; intro x hx; simp [h x hx]);rw [h0]; simp
theorem Zf1 {n:Int} {xss:List (List Int)} {done:List Bool} {i:Nat} (hs:(lst n xss i).length<=80):0<=g_need n xss done i/\g_need n xss done i<=80:=by unfold g_need;have:=List.length_filter_le (fun k=>!isDone done k) (lst n xss i);omega
theorem Zf2 {done:List Bool} {i0:Nat} (hi:i0<done.length) {x:Int} (hx:0<=x):isDone (done.set i0 true) x=(decide (x=i0) || isDone done x):=by
 unfold isDone;by_cases h:x=i0
 . subst h; simp [hi]
 . have:i0≠x.toNat:=(by omega);simp [List.getElem?_set_ne this,h]
theorem Zf3 {n:Int} {xss:List (List Int)} {done:List Bool} {i0:Nat} (hi:i0<done.length) (h0:done.getD i0 false=false) (i:Nat) :
 g_need n xss done i - (lst n xss i).count (i0:Int)=g_need n xss (done.set i0 true) i:=by
 unfold g_need;have hm:∀ x∈lst n xss i,0<=x:=fun x hx=>(ZfS hx).1;generalize lst n xss i=l at hm;induction l with
 | nil=>simp
 | cons a l ih =>
  have ih:=ih (fun x hx=>hm x (by simp [hx]));have ha:=hm a (by simp);have hd:=Zf2 hi ha;by_cases e:a=i0
  . subst e;have hf:isDone done (i0:Int)=false:=(by simpa [isDone] using h0);simp only [List.filter_cons,hf,hd,decide_true,Bool.true_or,Bool.not_true,Bool.not_false,if_true,List.count_cons_self,List.length_cons];simp only [Bool.false_eq_true,if_false];omega
  . simp only [List.filter_cons,hd,e,decide_false,Bool.false_or,List.count_cons_of_ne (Ne.symm (Ne.symm e))];split
    . simp only [List.length_cons]; omega
    . exact ih
end Pal.Graph
namespace Go.Proofs.YtikannmgllejfaaGreatDoor
open Go.RowKit Pal

structure Fd where
 n:Bs
 t:Int
 fo:Bs
 ru:Bs
 sh:Bs
abbrev X3:=Option Ex × Option Ex × Option Ex
def namesOk:List Bs->Nat->List Fd->Option (Nat × Int)
 | _,_,[]=>none
 | seen,i,f::r=>if seen.contains f.n=true\/isName f.n=false then some (i,9) else if 1<=f.t/\f.t<=3 then namesOk (seen++[f.n]) (i+1) r else some (i,8)
def putM (ns:List Bs) (ts:List Int) (want:Int) (x:Bs):Except Int (Option Ex) :=
 if x=[] then .ok none
 else match parseM x with
  | .error (_,e) => .error e
  | .ok e=>if (typeOf e ns ts).2≠0 then .error (typeOf e ns ts).2 else if (typeOf e ns ts).1≠want then .error 8 else .ok (some e)
def readsM (ns:List Bs) (ts:List Int) (f:Fd):Except Int X3 :=
 match putM ns ts f.t f.fo with
 | .error e => .error e
 | .ok a =>
  match putM ns ts 2 f.ru with
  | .error e => .error e
  | .ok b =>
   match putM ns ts 2 f.sh with
   | .error e => .error e
   | .ok c => .ok (a,b,c)
def readAll (ns:List Bs) (ts:List Int):Nat->List Fd->Except (Nat × Int) (List X3)
 | _,[] => .ok []
 | i,f::r =>
  match readsM ns ts f with
  | .error e => .error (i,e)
  | .ok x =>
   match readAll ns ts (i+1) r with
   | .error e => .error e
   | .ok l => .ok (x::l)
def posM (ns:List Bs) (m:List Bs):List Int:=((List.range ns.length).filter fun j=>m.contains (ns.getD j [])).map Int.ofNat
def needM (ns:List Bs) (x:X3):List Int:=match x.1 with|none=>[]|some e=>posM ns (namesM e)
structure Form where
 l:List Fd
 es:List X3
 needs:List (List Int)
 order:List Int
def Fd.names (l:List Fd):List Bs:=l.map Fd.n
def Fd.types (l:List Fd):List Int:=l.map Fd.t
def hasF (es:List X3) (i:Int):Bool:=((es.getD i.toNat (none,none,none)).1).isSome
def newM (l:List Fd):Except (Nat × Int) Form :=
 if l.length<1\/24<l.length then .error (0,11)
 else match namesOk [] 0 l with
  | some x => .error x
  | none =>
   match readAll (Fd.names l) (Fd.types l) 0 l with
   | .error x => .error x
   | .ok es =>
    if (Graph.orderS l.length (es.map (needM (Fd.names l)))).2=true then
     .ok ⟨l,es,es.map (needM (Fd.names l)),(Graph.orderS l.length (es.map (needM (Fd.names l)))).1.filter (hasF es)⟩
    else .error (((Graph.stuckS l.length (es.map (needM (Fd.names l)))).headD 0).toNat,10)
def joinX (a:List X3) (x:Except (Nat × Int) (List X3)):Except (Nat × Int) (List X3):=match x with | .error e => .error e | .ok l => .ok (a++l)
theorem Zf4 (a b:List X3) (x:Except (Nat × Int) (List X3)):joinX a (joinX b x)=joinX (a++b) x:=by cases x<;>simp [joinX]
theorem Zf5 (x:Except (Nat × Int) (List X3)):joinX [] x=x:=by cases x<;>simp [joinX]
theorem Zf6 {ns:List Bs} {ts:List Int} {i:Nat} {f:Fd} {r:List Fd} {x:X3} (h:readsM ns ts f = .ok x):readAll ns ts i (f::r)=joinX [x] (readAll ns ts (i+1) r):=by simp only [readAll,h]; cases readAll ns ts (i+1) r<;>rfl
theorem Zf7 {ns:List Bs} {ts:List Int} {i:Nat} {f:Fd} {r:List Fd} {e:Int} (h:readsM ns ts f = .error e):readAll ns ts i (f::r) = .error (i,e):=by simp only [readAll,h]
theorem Zf8 {ns:List Bs} {ts:List Int}:∀ (r:List Fd) (i:Nat) (es:List X3),readAll ns ts i r = .ok es->es.length=r.length
 | [],_,es,h=>by simp only [readAll,Except.ok.injEq] at h; rw [<-h]; rfl
 | f::r,i,es,h=>by
  cases hx:readsM ns ts f with
  | error e=>rw [Zf7 hx] at h; cases h
  | ok x =>
   rw [Zf6 hx] at h
   cases hr:readAll ns ts (i+1) r with
   | error e=>rw [hr] at h; cases h
   | ok l =>
    rw [hr] at h
    simp only [joinX,Except.ok.injEq] at h
    rw [<-h,Yak,Zf8 r (i+1) l hr,List.length_cons,List.length_cons,List.length_nil]; omega
theorem Zf9 {ns:List Bs} {ts:List Int}:∀ (r:List Fd) (i:Nat) (es:List X3),readAll ns ts i r = .ok es->∀ (j:Nat) (f:Fd) (x:X3),r[j]?=some f->es[j]?=some x->readsM ns ts f = .ok x
 | [],_,es,_,j,f,x,hf,_=>by simp at hf
 | g::r,i,es,h,j,f,x,hf,hx=>by
  cases hg:readsM ns ts g with
  | error e=>rw [Zf7 hg] at h; cases h
  | ok y =>
   rw [Zf6 hg] at h
   cases hr:readAll ns ts (i+1) r with
   | error e=>rw [hr] at h; cases h
   | ok l =>
    rw [hr] at h
    simp only [joinX,Except.ok.injEq] at h
    subst h
    cases j with
    | zero=>simp at hf hx; subst hf; subst hx; exact hg
    | succ j=>simp at hf hx; exact Zf9 r (i+1) l hr j f x hf hx
theorem Zga {ns:List Bs} {ts:List Int} {want:Int} {x:Bs} {o:Option Ex} (h:putM ns ts want x = .ok o):(x=[]/\o=none)\/(x≠[]/\∃ e,o=some e/\parseM x = .ok e/\typeOf e ns ts=(want,0)):=by
 unfold putM at h;by_cases hx:x=[]
 . rw [if_pos hx] at h; cases h; exact .inl ⟨hx,rfl⟩
 . rw [if_neg hx] at h;cases hp:parseM x with
   | error q=>rw [hp] at h; cases h
   | ok e =>
    rw [hp] at h;simp only at h;by_cases h1:(typeOf e ns ts).2=0
    . rw [if_neg (by simp [h1])] at h;by_cases h2:(typeOf e ns ts).1=want
      . rw [if_neg (by simp [h2])] at h;cases h;exact .inr ⟨hx,e,rfl,rfl,Prod.ext h2 h1⟩
      . rw [if_pos h2] at h; cases h
    . rw [if_pos h1] at h; cases h
theorem Zgb {ns:List Bs} {ts:List Int} {f:Fd} {x:X3} (h:readsM ns ts f = .ok x):putM ns ts f.t f.fo = .ok x.1/\putM ns ts 2 f.ru = .ok x.2.1/\putM ns ts 2 f.sh = .ok x.2.2:=by
 unfold readsM at h;cases ha:putM ns ts f.t f.fo with
 | error e=>rw [ha] at h; cases h
 | ok a =>
  rw [ha] at h;cases hb:putM ns ts 2 f.ru with
  | error e=>simp only [hb] at h; cases h
  | ok b =>
   simp only [hb] at h;cases hc:putM ns ts 2 f.sh with
   | error e=>simp only [hc] at h; cases h
   | ok c=>simp only [hc,Except.ok.injEq] at h; subst h; exact ⟨rfl,rfl,rfl⟩
theorem Zgc {α:Type} {l:List α} {i:Nat} {d:α} (h:i<l.length):l.getD i d=l[i]:=by simp [List.getD,h]
theorem Zgd {n:Nat} {xss:List (List Int)} (hn:n<=4096) (h:(Graph.orderS n xss).2≠true):∃ x l,Graph.stuckS n xss=(x:Int)::l/\0<=x:=by
 have hc:(0:Int)<=n/\(n:Int)<=4096:=by omega
 unfold Graph.orderS at h;rw [if_pos hc] at h;by_cases hl:(Graph.st n xss (n:Int).toNat).1.length<(n:Int).toNat
 . unfold Graph.stuckS;rw [if_pos hc];have h1:=Graph.st_count (n:=(n:Int)) (xss:=xss) (n:Int).toNat;have h2:=Graph.st_len (n:=(n:Int)) (xss:=xss) (n:Int).toNat;have h3:∃ i,i<(n:Int).toNat/\(Graph.st n xss (n:Int).toNat).2.getD i false=false:=by
    refine Classical.byContradiction fun hno=>?_;have:(Graph.st n xss (n:Int).toNat).2.count true=(Graph.st n xss (n:Int).toNat).2.length:=by
     rw [List.count_eq_length];intro b hb;obtain ⟨i,hi,rfl⟩:=List.mem_iff_getElem.1 hb;cases hq:(Graph.st n xss (n:Int).toNat).2[i] with
     | true=>rfl
     | false=>exact absurd ⟨i,by omega,by rw [Zgc hi]; exact hq⟩ hno
    omega
   obtain ⟨i,hi,hg⟩:=h3;have hm:(i:Int)∈Graph.left (Graph.st n xss (n:Int).toNat).2 (n:Int).toNat:=(by unfold Graph.left;exact List.mem_map.2 ⟨i,List.mem_filter.2 ⟨List.mem_range.2 hi,by rw [hg]; rfl⟩,rfl⟩);cases hL:Graph.left (Graph.st n xss (n:Int).toNat).2 (n:Int).toNat with
   | nil=>rw [hL] at hm; cases hm
   | cons x l =>refine ⟨x,l,rfl,?_⟩;have hx:x∈Graph.left (Graph.st n xss (n:Int).toNat).2 (n:Int).toNat:=(by rw [hL]; exact List.mem_cons_self);unfold Graph.left at hx;obtain ⟨k,_,rfl⟩:=List.mem_map.1 hx;exact Int.natCast_nonneg k
 . rw [if_neg hl] at h; exact absurd rfl h
theorem Zge (ns m:List Bs):(posM ns m).length<=ns.length:=by unfold posM; rw [Ybf]; exact Nat.le_trans (List.length_filter_le _ _) (by rw [List.length_range]; exact Nat.le_refl _)
theorem Zgf {ns m:List Bs} {x:Int}:x∈posM ns m↔∃ j:Nat,x=j/\j<ns.length/\ns.getD j []∈m:=by
 unfold posM;constructor
 . intro h;obtain ⟨j,hj,rfl⟩:=List.mem_map.1 h;obtain ⟨h1,h2⟩:=List.mem_filter.1 hj;exact ⟨j,rfl,List.mem_range.1 h1,by simpa using h2⟩
 . rintro ⟨j,rfl,h1,h2⟩;exact List.mem_map.2 ⟨j,List.mem_filter.2 ⟨List.mem_range.2 h1,by simpa using h2⟩,rfl⟩
theorem Zgg (ns m:List Bs):(posM ns m).Pairwise (·<·):=by unfold posM;rw [List.pairwise_map];refine List.Pairwise.imp ?_ (List.Pairwise.filter _ (List.pairwise_lt_range (n:=ns.length)));intro a b h;exact Int.ofNat_lt.2 h
def posT:List Bs->Bs->Option Nat
 | [],_=>none
 | m::ms,s=>if m=s then some 0 else (posT ms s).map (·+1)
theorem posT_none {ns:List Bs} {s:Bs}:posT ns s=none↔ns.contains s=false:=by
 induction ns with
 | nil=>simp [posT]
 | cons m ms ih =>
  unfold posT;by_cases h:m=s
  . simp [h]
  . rw [if_neg h];have:(s == m)=false:=(by simp; exact fun e=>h e.symm);cases hp:posT ms s with
    | none=>simp only [Option.map_none,true_iff]; rw [List.contains_cons,this,(ih.1 hp)]; rfl
    | some j =>
     simp only [Option.map_some,List.contains_cons,this,Bool.false_or];constructor
     . intro e; cases e
     . intro e; rw [ih.2 e] at hp; cases hp
theorem Zgh:∀ {ns:List Bs} {s:Bs} {j:Nat},posT ns s=some j->ns[j]?=some s
 | [],_,_,h=>by simp [posT] at h
 | m::ms,s,j,h=>by
  unfold posT at h
  by_cases e:m=s
  . rw [if_pos e] at h; cases h; simp [e]
  . rw [if_neg e] at h
    cases hp:posT ms s with
    | none=>rw [hp] at h; cases h
    | some k=>rw [hp] at h; cases h; simpa using Zgh hp
theorem Zgi (ns:List Bs) (m s:Bs):posT (ns++[m]) s=match posT ns s with|some j=>some j|none=>if m=s then some ns.length else none:=by
 induction ns with
 | nil=>simp [posT]
 | cons a ms ih =>
  simp only [List.cons_append,posT];by_cases e:a=s
  . simp [e]
  . rw [if_neg e,if_neg e,ih];cases hp:posT ms s with
    | some j=>rfl
    | none =>
     by_cases e2:m=s
     . simp [e2]
     . simp [e2]
theorem Zgj:∀ (r:List Fd) (seen:List Bs) (i:Nat),namesOk seen i r=none->seen.Nodup->(seen++Fd.names r).Nodup/\(∀ f∈r,isName f.n=true/\1<=f.t/\f.t<=3)
 | [],seen,_,_,hs=>⟨by simpa [Fd.names] using hs,fun f hf=>by cases hf⟩
 | f::r,seen,i,h,hs=>by
  unfold namesOk at h
  by_cases h1:seen.contains f.n=true\/isName f.n=false
  . rw [if_pos h1] at h; cases h
  . rw [if_neg h1] at h
    by_cases h2:1<=f.t/\f.t<=3
    . rw [if_pos h2] at h
      have h3:f.n ∉ seen:=fun hm=>h1 (.inl (by simpa using hm))
      obtain ⟨g1,g2⟩:=Zgj r (seen++[f.n]) (i+1) h (by
       rw [List.nodup_append]
       exact ⟨hs,by simp,fun a ha b hb=>by simp at hb; subst hb; exact fun e=>h3 (e▸ha)⟩)
      refine ⟨by simpa [Fd.names] using g1,fun x hx=>?_⟩
      rcases Ybc.1 hx with rfl|hx
      . exact ⟨by simpa using fun e=>h1 (.inr e),h2⟩
      . exact g2 x hx
    . rw [if_neg h2] at h; cases h
theorem Zgk:∀ {l m:List Int},l.Pairwise (·<·)->m.Pairwise (·<·)->(∀ x,x∈l↔x∈m)->l=m
 | [],m,_,_,h=>by
  cases m with
  | nil=>rfl
  | cons b m=>have:=(h b).2 List.mem_cons_self; cases this
 | a::l,[],_,_,h=>by have:=(h a).1 List.mem_cons_self; cases this
 | a::l,b::m,hl,hm,h=>by
  obtain ⟨h1,h2⟩:=List.pairwise_cons.1 hl
  obtain ⟨g1,g2⟩:=List.pairwise_cons.1 hm
  have e:a=b:=by
   rcases Ybc.1 ((h a).1 List.mem_cons_self) with e|e
   . exact e
   . rcases Ybc.1 ((h b).2 List.mem_cons_self) with e'|e'
     . exact e'.symm
     . have q1:=g1 a e; have q2:=h1 b e'; omega
  subst e
  congr 1
  refine Zgk h2 g2 fun x=>?_
  constructor
  . intro hx
    rcases Ybc.1 ((h x).1 (List.mem_cons_of_mem _ hx)) with e|e
    . subst e; have:=h1 x hx; omega
    . exact e
  . intro hx
    rcases Ybc.1 ((h x).2 (List.mem_cons_of_mem _ hx)) with e|e
    . subst e; have:=g1 x hx; omega
    . exact e
open Go.RowKit Pal Go.Maps
theorem nm_law:Keyed Tryz.prog 9:=string_keyed Tryz.underlying9
theorem Zgl (w:World):(zeroValue 3).run Tryz.prog w = .ok (.int .i64 0) w:=by kernel_rfl
def NmAt (w:World) (b:Nat) (ns:List Bs):Prop :=
 ∃ (n:Nat) (D:DataW Unit),w.ownsMap Tryz.prog 9 (plainElem Tryz.prog 3) b n D/\n<=ns.length/\(∀ s:Bs,Maps.has D (.string s)=(posT ns s).isSome) /\
  ∀ (s:Bs) (j:Nat),posT ns s=some j->D.atKey (.string s) (.lit (.int .i64 0)) = .lit (.int .i64 j)
theorem NmAt.made (w:World):NmAt (w.alloc (.map #[] 0)) w.heap.size [] :=
 ⟨0,.map [],World.ownsMap_made _ _ _ _,Nat.le_refl _,fun s=>rfl,fun s j h=>by simp [posT] at h⟩
theorem NmAt.lt {w:World} {b:Nat} {ns:List Bs} (h:NmAt w b ns):b<w.heap.size:=by obtain ⟨n,D,h1,_⟩:=h; exact h1.lt
theorem NmAt.keep {w w':World} {b:Nat} {ns:List Bs} (h:NmAt w b ns) (hb:w'.heap[b]?=w.heap[b]?):NmAt w' b ns:=by obtain ⟨n,D,⟨es,clock,h1,r⟩,q⟩:=h;exact ⟨n,D,⟨es,clock,hb.trans h1,r⟩,q⟩
theorem Zgm (s:Bs) (hs:s.length<=maxLen):keyOf Tryz.prog 9 (.string ⟨s.toArray⟩)=some (.string s) :=
 WideMaps.keyOf_string_mk (P:=Tryz.prog) Tryz.underlying9 (s:=⟨s.toArray⟩) (by simpa [ByteArray.size] using hs)
theorem NmAt.atKey {ns:List Bs} {D:DataW Unit} (h1:∀ s:Bs,Maps.has D (.string s)=(posT ns s).isSome) (h2:∀ (s:Bs) (j:Nat),posT ns s=some j->D.atKey (.string s) (.lit (.int .i64 0)) = .lit (.int .i64 j)) (s:Bs) :
 D.atKey (.string s) (.lit (.int .i64 0)) = .lit (.int .i64 ((posT ns s).getD 0:Nat)):=by
 cases hp:posT ns s with
 | none=>rw [Maps.atKey_of_not_has (by rw [h1 s,hp]; rfl)]; rfl
 | some j=>exact h2 s j hp
theorem NmAt.look {w:World} {b:Nat} {ns:List Bs} (h:NmAt w b ns) (s:Bs) (hs:s.length<=maxLen) :
 (Instr.lookup 79 (.map (some b)) (.string ⟨s.toArray⟩) true).run Tryz.prog w = .ok (.tuple #[.int .i64 ((posT ns s).getD 0:Nat),.bool (posT ns s).isSome]) w:=by obtain ⟨n,D,h0,_,h1,h2⟩:=h;obtain ⟨v,ps,hr,hv⟩:=h0.look_ok nm_law Tryz.underlying79 (Zgl w) (zd := .lit (.int .i64 0)) (zp:=[]) (plainElem_int Tryz.underlying3 (by decide)) (Zgm s hs);obtain ⟨c,rfl,hc,_⟩:=plainElem_int_inv Tryz.underlying3 hv;rw [NmAt.atKey h1 h2 s] at hc;simp only [Yaw,DataW.lit.injEq,Lit.int.injEq,true_and] at hc;rw [hr,h1 s,<-hc.1]
theorem NmAt.get {w:World} {b:Nat} {ns:List Bs} (h:NmAt w b ns) (s:Bs) (hs:s.length<=maxLen) :
 (Instr.lookup 79 (.map (some b)) (.string ⟨s.toArray⟩) false).run Tryz.prog w = .ok (.int .i64 ((posT ns s).getD 0:Nat)) w:=by obtain ⟨n,D,h0,_,h1,h2⟩:=h;obtain ⟨c,hr,hc,_⟩:=h0.lookup_int nm_law Tryz.underlying79 Tryz.underlying3 (Zgl w) (Zgm s hs);rw [NmAt.atKey h1 h2 s] at hc;simp only [DataW.lit.injEq,Lit.int.injEq,true_and] at hc;rw [hr,<-hc]
theorem NmAt.store {w:World} {b:Nat} {ns:List Bs} (h:NmAt w b ns) (s:Bs) (hs:s.length<=maxLen) (hl:ns.length<=1000) (hp:posT ns s=none) :
 ∃ w',(Instr.mapUpdate 79 (.map (some b)) (.string ⟨s.toArray⟩) (.int .i64 ns.length)).run Tryz.prog w = .ok () w'/\NmAt w' b (ns++[s])/\w.mapTurned w' b:=by
 obtain ⟨n,D,h0,h3,h1,h2⟩:=h;have hwf:(Lit.int .i64 (ns.length:Int)).wf=true:=WalkArith.wf_i64 (by omega);obtain ⟨w',hr,ho,ht⟩:=h0.store nm_law Tryz.underlying79 (by unfold maxLen; omega) (Zgm s hs) (plainElem_int Tryz.underlying3 hwf);have hIs:=h0.isMap;have hkey:=nm_law.key (Zgm s hs);refine ⟨w',hr,⟨n+1,_,ho,by rw [Yak,List.length_singleton]; omega,fun x=>?_,fun x j hx=>?_⟩,ht⟩
 . rw [Zgi];by_cases e:x=s
   . subst e;rw [Maps.has_put_same hIs hkey,hp];simp
   . rw [Maps.has_put_other (fun h=>e (by cases h; rfl)),h1 x];cases posT ns x with
     | some j=>rfl
     | none=>simp [Ne.symm e]
 . rw [Zgi] at hx;by_cases e:x=s
   . subst e;rw [hp] at hx;simp at hx;subst hx;rw [Maps.atKey_put_same hIs hkey]
   . rw [Maps.atKey_put_other (fun h=>e (by cases h; rfl))];cases hq:posT ns x with
     | some i=>rw [hq] at hx; cases hx; exact h2 x _ hq
     | none=>rw [hq] at hx; simp [Ne.symm e] at hx
theorem Zgn {t:Tag} {w w':World} {b:Nat} {K:Nat->Prop} (h:w.mapTurned w' b) (hk:K (t b)):Evo t w t w' K:=by obtain ⟨h1,h2,h3,h4,h5⟩:=h.grown;exact ⟨h1,h2,h3,h4,fun _ _=>rfl,fun x hx hn=>h5 x hx (fun e=>by cases e; exact hn hk)⟩
end Go.Proofs.YtikannmgllejfaaGreatDoor
