/- The order of numbers that need each other, as plain law. -/
import Derived.Test.YtpfhhikbaeknpaaGreatDoorKT3
import Derived.Test.YtpfhhikbaeknpaaGreatDoorKLx
set_option linter.all false
namespace Go.Proofs.YtpfhhikbaeknpaaGreatDoor
open Go.RowKit Pal
theorem ZeL (names:List Bs) (types:List Int) (op n:Int) (s:Bs) (ks:List Ex):typ names types (.mk op n s ks)=(match typL names types ks with | .error e => .error e | .ok ts=>if op=4 then (if findT names types s=0 then .error 9 else .ok (findT names types s)) else if made op (ts.getD 0 0) (ts.getD 1 0) (ts.getD 2 0)=0 then .error 8 else .ok (made op (ts.getD 0 0) (ts.getD 1 0) (ts.getD 2 0))):=by rw [typ]; cases typL names types ks<;>rfl
theorem ZeM (names:List Bs) (types:List Int) (k:Ex) (ks:List Ex):typL names types (k::ks)=(match typ names types k with | .error e => .error e | .ok t=>match typL names types ks with | .error e => .error e | .ok ts => .ok (t::ts)):=by rw [typL]; cases typ names types k with
 | error e=>rfl
 | ok t=>cases typL names types ks<;>rfl
theorem ZeN {names:List Bs} {types:List Int} {k:Ex} {ks:List Ex} {ts:List Int} (h:typL names types (k::ks) = .ok ts):∃ t us,typ names types k = .ok t∧typL names types ks = .ok us∧ts=t::us:=by
 rw [ZeM] at h
 cases h1:typ names types k with
 | error e=>rw [h1] at h; cases h
 | ok t =>
  rw [h1] at h
  simp only at h
  cases h2:typL names types ks with
  | error e=>rw [h2] at h; cases h
  | ok us=>rw [h2] at h; simp only [Except.ok.injEq] at h; exact ⟨t,us,rfl,rfl,h.symm⟩
inductive Occ:Ex→Bs→Prop
 | here (n:Int) (s:Bs) (ks:List Ex):Occ (.mk 4 n s ks) s
 | kid (op n:Int) (s:Bs) (ks:List Ex) (k:Ex) (x:Bs) (hk:k∈ks) (h:Occ k x):Occ (.mk op n s ks) x
def lead (s:Bs):List Bs→Nat
 | []=>0
 | a::l=>if Op.bytesLess a s=true then lead s l+1 else 0
def withM (l:List Bs) (s:Bs):List Bs:=if l[lead s l]?=some s then l else l.take (lead s l)++s::l.drop (lead s l)
theorem ZeO (s:Bs):∀ l,lead s l≤l.length
 | []=>Nat.le_refl _
 | a::l=>by
  have h:=ZeO s l
  unfold lead
  rw [List.length_cons]
  split<;>omega
theorem ZeP (l:List Bs) (s x:Bs):x∈withM l s↔x∈l∨x=s:=by
 unfold withM
 split
 · rename_i h
   have:=List.mem_of_getElem? h
   constructor
   · exact .inl
   · rintro (h|rfl)
     · exact h
     · exact this
 · rw [List.mem_append,List.mem_cons]
   have:x∈l↔x∈l.take (lead s l)∨x∈l.drop (lead s l):=by rw [←List.mem_append,List.take_append_drop]
   rw [this]
   constructor
   · rintro (h|h|h)
     · exact .inl (.inl h)
     · exact .inr h
     · exact .inl (.inr h)
   · rintro ((h|h)|h)
     · exact .inl h
     · exact .inr (.inr h)
     · exact .inr (.inl h)
theorem ZeQ (l:List Bs) (s:Bs):l.length≤(withM l s).length∧(withM l s).length≤l.length+1:=by
 unfold withM
 split
 · omega
 · have:=ZeO s l
   rw [List.length_append,List.length_cons,List.length_take,List.length_drop]
   omega
theorem ZeR:∀ (ms l:List Bs),l.length≤(ms.foldl withM l).length∧(ms.foldl withM l).length≤l.length+ms.length
 | [],l=>⟨Nat.le_refl _,Nat.le_refl _⟩
 | m::ms,l=>by
  have h1:=ZeR ms (withM l m)
  have h2:=ZeQ l m
  rw [List.foldl_cons,List.length_cons]
  omega
theorem ZeS:∀ (ms l:List Bs) (x:Bs),x∈ms.foldl withM l↔x∈l∨x∈ms
 | [],l,x=>by simp
 | m::ms,l,x=>by
  rw [List.foldl_cons,ZeS ms (withM l m) x,ZeP,List.mem_cons,or_assoc]
mutual
/-- The names of an expression. -/
def namesM : Ex → List Bs
  | .mk op _ s ks => if op = 4 then [s] else namesL ks []
def namesL : List Ex → List Bs → List Bs
  | [], l => l
  | k :: ks, l => namesL ks ((namesM k).foldl withM l)
end
theorem ZeT {n:Int} {s:Bs} {ks:List Ex}:namesM (.mk 4 n s ks)=[s]:=by rw [namesM,if_pos rfl]
theorem ZeU {op n:Int} {s:Bs} {ks:List Ex} (h:op≠4):namesM (.mk op n s ks)=namesL ks []:=by rw [namesM,if_neg h]
theorem ZeV (l:List Bs):namesL [] l=l:=by rw [namesL]
theorem ZeW (k:Ex) (ks:List Ex) (l:List Bs):namesL (k::ks) l=namesL ks ((namesM k).foldl withM l):=by rw [namesL]
theorem ZeX:∀ (ks:List Ex) (l:List Bs),l.length≤(namesL ks l).length
 | [],l=>by rw [ZeV]; exact Nat.le_refl _
 | k::ks,l=>by
  rw [ZeW]
  have h1:=ZeX ks ((namesM k).foldl withM l)
  have h2:=(ZeR (namesM k) l).1
  omega
theorem ZeY (e:Ex):∀ (deep left m:Nat),chk e deep left=some m→(namesM e).length+m≤left:=by
 refine Ex.ind (P:=fun e=>∀ (deep left m:Nat),chk e deep left=some m→(namesM e).length+m≤left) ?_ e
 intro op n s ks ih deep left m h
 by_cases hb:left=0∨24<deep∨alone op n s ks=false
 · rw [Zdn hb] at h; cases h
 rw [Zdo hb] at h
 have hl:left≠0:=fun h=>hb (.inl h)
 have go:∀ (l:List Ex),(∀ k∈l,k∈ks)→∀ (acc:List Bs) (left m:Nat),chkL l (deep+1) left=some m→(namesL l acc).length+m≤acc.length+left:=by
  intro l
  induction l with
  | nil=>intro _ acc left m h; rw [Zdl] at h; cases h; rw [ZeV]; omega
  | cons k l2 ih2 =>
   intro hm acc left m h
   rw [Zdm] at h
   cases h1:chk k (deep+1) left with
   | none=>rw [h1] at h; cases h
   | some x =>
    rw [h1,Option.bind_some] at h
    have a1:=ih k (hm k (by simp)) _ _ _ h1
    have a2:=ih2 (fun y hy=>hm y (by simp [hy])) ((namesM k).foldl withM acc) x m h
    have a3:=(ZeR (namesM k) acc).2
    rw [ZeW]
    omega
 by_cases h4:op=4
 · subst h4
   rw [ZeT]
   have:=go ks (fun _ h=>h) [] _ _ h
   have h0:0≤(namesL ks []).length:=Nat.zero_le _
   simp at this ⊢
   omega
 · rw [ZeU h4]
   have:=go ks (fun _ h=>h) [] _ _ h
   simp at this
   omega
theorem ZeZ (e:Ex):∀ x,x∈namesM e→Occ e x:=by
 refine Ex.ind (P:=fun e=>∀ x,x∈namesM e→Occ e x) ?_ e
 intro op n s ks ih x h
 by_cases h4:op=4
 · subst h4
   rw [ZeT] at h
   obtain rfl:=List.mem_singleton.1 h
   exact .here _ _ _
 · rw [ZeU h4] at h
   have go:∀ (l:List Ex),(∀ k∈l,k∈ks)→∀ (acc:List Bs),x∈namesL l acc→x∈acc∨∃ k∈ks,x∈namesM k:=by
    intro l
    induction l with
    | nil=>intro _ acc h; rw [ZeV] at h; exact .inl h
    | cons k l2 ih2 =>
     intro hm acc h
     rw [ZeW] at h
     rcases ih2 (fun y hy=>hm y (by simp [hy])) _ h with h|h
     · rcases (ZeS _ _ _).1 h with h|h
       · exact .inl h
       · exact .inr ⟨k,hm k (by simp),h⟩
     · exact .inr h
   rcases go ks (fun _ h=>h) [] h with h|⟨k,hk,h⟩
   · cases h
   · exact .kid _ _ _ _ k x hk (ih k hk x h)
theorem Ze0 (e:Ex):Good e→∀ x,Occ e x→x∈namesM e:=by
 refine Ex.ind (P:=fun e=>Good e→∀ x,Occ e x→x∈namesM e) ?_ e
 intro op n s ks ih hG x h
 cases hG with
 | mk _ _ _ _ ha hn hk =>
 cases h with
 | here=>rw [ZeT]; simp
 | kid _ _ _ _ k _ hkm h =>
  have h4:op≠4:=fun h4=>by
   subst h4
   have:=Zd6 ha
   have e:arity 4=0:=rfl
   rw [e] at this
   have:ks=[]:=List.eq_nil_of_length_eq_zero (by omega)
   subst this
   cases hkm
  rw [ZeU h4]
  have go:∀ (l:List Ex) (acc:List Bs),(x∈acc∨∃ k∈l,x∈namesM k)→x∈namesL l acc:=by
   intro l
   induction l with
   | nil=>intro acc h; rw [ZeV]; rcases h with h|⟨_,h,_⟩; exact h; cases h
   | cons k l2 ih2 =>
    intro acc h
    rw [ZeW]
    refine ih2 _ ?_
    rcases h with h|⟨k',hk',h⟩
    · exact .inl ((ZeS _ _ _).2 (.inl h))
    · rcases List.mem_cons.1 hk' with rfl|hk'
      · exact .inl ((ZeS _ _ _).2 (.inr h))
      · exact .inr ⟨k',hk',h⟩
  exact go ks [] (.inr ⟨k,hkm,ih k hkm (hk k hkm) x h⟩)
def NmV (h:GH) (v:Value) (l:List Bs):Prop:=(l=[]∧v = .slice none 0 0)∨(l≠[]∧∃ b cap,v = .slice (some ⟨b,0,none⟩) l.length cap∧l.length≤cap∧cap≤maxLen∧∀ j s,l[j]?=some s→h.cell b j=some (strV s))
theorem NmV.mono {h h':GH} (k:h.le h') {v:Value} {l:List Bs} (t:NmV h v l):NmV h' v l:=by
 rcases t with t|⟨hn,b,cap,hv,h1,h2,hx⟩
 · exact .inl t
 · exact .inr ⟨hn,b,cap,hv,h1,h2,fun j s hj=>k.cell (hx j s hj)⟩
theorem NmV.strs {h:GH} {v:Value} {l:List Bs} (t:NmV h v l):StrsV h v l:=by
 rcases t with ⟨rfl,rfl⟩|⟨hn,b,cap,hv,h1,h2,hx⟩
 · exact ⟨none,0,rfl,fun _=>rfl,Nat.le_refl _,by simp [maxLen],fun j s hj=>by simp at hj⟩
 · exact ⟨_,cap,hv,(fun h=>by cases h),h1,h2,fun j s hj=>⟨b,0,rfl,by rw [Nat.zero_add]; exact hx j s hj⟩⟩
def cellsS (l:List Bs):List Value:=l.flatMap fun s=>[strV s]
theorem Ze1 (l:List Bs):cellsS l=l.map strV:=by unfold cellsS; rw [←List.map_eq_flatMap]
theorem Ze2 (l m:List Bs):cellsS (l++m)=cellsS l++cellsS m:=by unfold cellsS; rw [List.flatMap_append]
theorem Ze3 (l:List Bs):(cellsS l).length=l.length:=by rw [Ze1,List.length_map]
theorem Ze4 (l:List Bs):∀ u∈cellsS l,u.oneCell'=true:=by
 intro u hu
 rw [Ze1] at hu
 obtain ⟨x,_,rfl⟩:=List.mem_map.1 hu
 rfl
theorem NmV.ofRow {t:Tag} {w:World} {T:TypeId} {v:Value} {n:Nat} {l:List Bs} (h:Row t 1 w T 1 v n (cellsS l)) (hl:l≠[]):NmV (gh w) v l:=by
 have hs:=SlV.ofRow (fun s=>[strV s]) l ([]:Bs) (by decide) (fun _=>rfl) h
 obtain ⟨a,cap,hv,h1,h2,h3,h4⟩:=hs
 rcases h.own.2 with ⟨hv2,hn⟩|⟨g,cap',cur,hv2,hbg,hgg,hn,hc,hcs,ht⟩
 · rw [hv] at hv2
   simp only [Value.slice.injEq] at hv2
   exact absurd (List.eq_nil_of_length_eq_zero hv2.2.1) hl
 · rw [hv] at hv2
   simp only [Value.slice.injEq] at hv2
   obtain ⟨rfl,-,-⟩:=hv2
   refine .inr ⟨hl,g,cap,hv,h2,h3,fun j s hj=>?_⟩
   have hlt:=(List.getElem?_eq_some_iff.1 hj).1
   obtain ⟨b,off,ha,hcc⟩:=h4 j 0 (strV s) hlt (by show [strV (l.getD j [])][0]?=_; rw [List.getD_eq_getElem?_getD,hj]; rfl)
   simp only [Option.some.injEq,Addr.mk.injEq,and_true] at ha
   obtain ⟨rfl,rfl⟩:=ha
   rw [show 0+(1*j+0)=j by omega] at hcc
   exact hcc
def namePost (l:List Bs) (w:World) (r:Ending) (w':World):Prop:=Below w.heap.size w w'∧∃ v,r = .returned v∧NmV (gh w') v l
theorem Ze5 (w:World) (T:TypeId) (c:Nat):Row T0 1 w T c (.slice none 0 0) 0 []:=Row.nil _ _ _ _ _
end Go.Proofs.YtpfhhikbaeknpaaGreatDoor
namespace Pal.Graph

def lst (n:Int) (xss:List (List Int)) (i:Nat):List Int:=((xss[i]?).getD []).filter fun k=>decide (0≤k)&&decide (k<n)
def isDone (done:List Bool) (k:Int):Bool:=done.getD k.toNat false
def freeB (n:Int) (xss:List (List Int)) (done:List Bool) (i:Nat):Bool:=(lst n xss i).all (isDone done)
def may (n:Int) (xss:List (List Int)) (done:List Bool) (i:Nat):Bool:=!(done.getD i false)&&freeB n xss done i
def pick (n:Int) (xss:List (List Int)) (done:List Bool):Option Nat:=(List.range n.toNat).find? (may n xss done)
def step (n:Int) (xss:List (List Int)) (s:List Int × List Bool):List Int × List Bool :=
 match pick n xss s.2 with
 | none=>s
 | some i=>(s.1++[(i:Int)],s.2.set i true)
def st (n:Int) (xss:List (List Int)):Nat→List Int × List Bool
 | 0=>([],List.replicate n.toNat false)
 | j+1=>step n xss (st n xss j)
theorem Ze6 {n:Int} {xss:List (List Int)} {s:List Int × List Bool} (h:pick n xss s.2=none):step n xss s=s:=by simp [step,h]
theorem Ze7 {n:Int} {xss:List (List Int)} {s:List Int × List Bool} {i:Nat} (h:pick n xss s.2=some i):step n xss s=(s.1++[(i:Int)],s.2.set i true):=by simp [step,h]
theorem pick_none_iff {n:Int} {xss:List (List Int)} {done:List Bool}:pick n xss done=none↔∀ i,i<n.toNat→may n xss done i=false:=by
 simp only [pick,List.find?_eq_none,List.mem_range]
 exact ⟨fun h i hi=>by simpa using h i hi,fun h i hi=>by simp [h i hi]⟩
theorem Ze8 {n:Int} {xss:List (List Int)} {done:List Bool} {i:Nat} (hi:i<n.toNat) (hm:may n xss done i=true) (hb:∀ j,j<i→may n xss done j=false):pick n xss done=some i:=by
 unfold pick
 rw [List.find?_range_eq_some]
 exact ⟨hm,List.mem_range.2 hi,fun j hj=>by simp [hb j hj]⟩
theorem Ze9 {n:Int} {xss:List (List Int)} {done:List Bool} {i:Nat} (h:pick n xss done=some i):i<n.toNat∧may n xss done i=true∧∀ j,j<i→may n xss done j=false:=by
 unfold pick at h
 rw [List.find?_range_eq_some] at h
 exact ⟨List.mem_range.1 h.2.1,h.1,fun j hj=>by simpa using h.2.2 j hj⟩
theorem Zfa {n : Int} {xss : List (List Int)} {j : Nat} (h : pick n xss (st n xss j).2 = none) : ∀ k, j ≤ k → st n xss k = st n xss j := by
  intro k hk
  induction k with
  | zero => have : j = 0 := by omega
            rw [this]
  | succ k ih =>
    by_cases e : j = k + 1
    · rw [e]
    · have := ih (by omega)
      show step n xss (st n xss k) = _
      rw [this]; exact Ze6 h
theorem st_len {n:Int} {xss:List (List Int)} (j:Nat):(st n xss j).2.length=n.toNat:=by
 induction j with
 | zero=>simp [st]
 | succ j ih =>
  show (step n xss _).2.length=_
  cases h:pick n xss (st n xss j).2 with
  | none=>rw [Ze6 h]; exact ih
  | some i=>rw [Ze7 h]; simpa using ih
theorem Zfb {l:List Bool} {i:Nat} (hi:i<l.length) (h:l.getD i false=false):(l.set i true).count true=l.count true+1:=by
 induction l generalizing i with
 | nil=>simp at hi
 | cons a l ih =>
  cases i with
  | zero=>simp at h; subst h; simp
  | succ i =>
   simp only [List.set_cons_succ,List.count_cons]
   rw [ih (by simpa using hi) (by simpa using h)]
   omega
theorem st_count {n:Int} {xss:List (List Int)} (j:Nat):(st n xss j).2.count true=(st n xss j).1.length:=by
 induction j with
 | zero=>simp [st,List.count_replicate]
 | succ j ih =>
  show (step n xss _).2.count true=(step n xss _).1.length
  cases h:pick n xss (st n xss j).2 with
  | none=>rw [Ze6 h]; exact ih
  | some i =>
   rw [Ze7 h]
   obtain ⟨h1,h2,_⟩:=Ze9 h
   simp only [may,Bool.and_eq_true,Bool.not_eq_true'] at h2
   simp only [List.length_append,List.length_cons,List.length_nil]
   rw [Zfb (by rw [st_len]; exact h1) h2.1,ih]
theorem Zfc {n:Int} {xss:List (List Int)} {j i:Nat} (h:pick n xss (st n xss j).2=some i):(st n xss (j+1)).1.length=(st n xss j).1.length+1:=by
 show (step n xss _).1.length=_
 rw [Ze7 h]; simp
theorem Zfd {n:Int} {xss:List (List Int)} {j i:Nat} (h:pick n xss (st n xss j).2=some i):(st n xss j).1.length<n.toNat:=by
 obtain ⟨h1,h2,_⟩:=Ze9 h
 simp only [may,Bool.and_eq_true,Bool.not_eq_true'] at h2
 have h3:=Zfb (l:=(st n xss j).2) (by rw [st_len]; exact h1) h2.1
 have h4:=List.count_le_length (a:=true) (l:=(st n xss j).2.set i true)
 rw [List.length_set,st_len] at h4
 rw [←st_count]; omega
theorem Zfe {n:Int} {xss:List (List Int)} {j:Nat} (hl:(st n xss j).1.length=j) (h:pick n xss (st n xss j).2=none):st n xss n.toNat=st n xss j:=by
 refine Zfa h _ ?_
 have h4:=List.count_le_length (a:=true) (l:=(st n xss j).2)
 rw [st_count,st_len,hl] at h4
 exact h4
def left (done:List Bool) (k:Nat):List Int:=((List.range k).filter fun i=>!(done.getD i false)).map Int.ofNat
theorem Zff (done:List Bool) (k:Nat):left done (k+1)=left done k++(if done.getD k false then [] else [(k:Int)]):=by
 simp only [left,List.range_succ,List.filter_append,List.map_append]
 congr 1
 by_cases h:done.getD k false=true
 · rw [if_pos h]; simp only [List.filter_cons,h]; rfl
 · rw [if_neg h]; simp only [Bool.not_eq_true] at h; simp only [List.filter_cons,h]; rfl
theorem Zfg (done:List Bool) (k:Nat):(left done k).length≤k:=by
 simp only [left,List.length_map]
 exact Nat.le_trans (List.length_filter_le _ _) (by simp)
def orderS (n:Int) (xss:List (List Int)):List Int × Bool :=
 if 0≤n∧n≤4096 then (if (st n xss n.toNat).1.length<n.toNat then ([],false) else ((st n xss n.toNat).1,true)) else ([],false)
def stuckS (n:Int) (xss:List (List Int)):List Int:=if 0≤n∧n≤4096 then left (st n xss n.toNat).2 n.toNat else []
end Pal.Graph

namespace Pal.Graph

def cntW (n:Int) (xss:List (List Int)) (I j:Nat) (i:Nat):Int:=if i<I then (lst n xss i).length else if i=I then j else 0
def cntB (n:Int) (xss:List (List Int)) (I j:Nat) (k i:Nat):Nat:=if i<I then (lst n xss i).count (k:Int) else if i=I then ((lst n xss I).take j).count (k:Int) else 0
structure BackOk (N:Nat) (xss:List (List Int)) (B:List (List Int)) (I j:Nat):Prop where
 len:B.length=N
 count:∀ (k:Nat) (l:List Int),B[k]?=some l→∀ i:Nat,l.count (i:Int)=cntB N xss I j k i
 range:∀ (k:Nat) (l:List Int),B[k]?=some l→∀ x∈l,0≤x∧x<(N:Int)
 short:∀ (k:Nat) (l:List Int),B[k]?=some l→l.length≤I*80+j
theorem Zfh {n:Int} {xss:List (List Int)} {i:Nat} {x:Int} (h:x∈lst n xss i):0≤x∧x<n:=by
 simp only [lst,List.mem_filter,Bool.and_eq_true,decide_eq_true_eq] at h; exact h.2
theorem Zfi {n:Int} {xss:List (List Int)} (h:∀ (i:Nat) (xs:List Int),xss[i]?=some xs→xs.length≤80) (i:Nat):(lst n xss i).length≤80:=by
 refine Nat.le_trans (List.length_filter_le _ _) ?_
 cases e:xss[i]? with
 | none=>simp
 | some xs=>simpa using h i xs e
theorem Zfj (N:Nat) (xss:List (List Int)):BackOk N xss (List.replicate N []) 0 0:=by
 refine ⟨by simp,fun k l h i=>?_,fun k l h x hx=>?_,fun k l h=>?_⟩
 all_goals
  rw [List.getElem?_replicate] at h
  split at h
  · cases h; first|(simp [cntB])|(cases hx)
  · cases h
theorem Zfk (n:Int) (xss:List (List Int)) (I:Nat) (k i:Nat):cntB n xss I (lst n xss I).length k i=cntB n xss (I+1) 0 k i:=by
 unfold cntB
 rw [List.take_length]
 by_cases h1:i<I
 · rw [if_pos h1,if_pos (by omega)]
 · rw [if_neg h1]
   by_cases h2:i=I
   · rw [if_pos h2,if_pos (by omega),h2]
   · rw [if_neg h2,if_neg (by omega)]
     split<;>simp
theorem Zfl {N:Nat} {xss:List (List Int)} {B:List (List Int)} {I:Nat} (h:BackOk N xss B I (lst N xss I).length) (hs:(lst N xss I).length≤80):BackOk N xss B (I+1) 0 :=
 ⟨h.len,fun k l hl i=>by rw [←Zfk]; exact h.count k l hl i,h.range,fun k l hl=>by have:=h.short k l hl; omega⟩
theorem Zfm (n:Int) (xss:List (List Int)) (I:Nat) (i:Nat):cntW n xss I (lst n xss I).length i=cntW n xss (I+1) 0 i:=by
 unfold cntW
 by_cases h1:i<I
 · rw [if_pos h1,if_pos (by omega)]
 · rw [if_neg h1]
   by_cases h2:i=I
   · rw [if_pos h2,if_pos (by omega),h2]
   · rw [if_neg h2,if_neg (by omega)]
     split<;>simp
theorem Zfn (n:Int) (xss:List (List Int)) (I j:Nat) (i:Nat):(if i=I then cntW n xss I j I+1 else cntW n xss I j i)=cntW n xss I (j+1) i:=by
 unfold cntW
 by_cases h2:i=I
 · subst h2; simp
 · simp [h2]
theorem Zfo {N:Nat} {xss:List (List Int)} {B:List (List Int)} {I j:Nat} {x:Int} {l:List Int} (h:BackOk N xss B I j) (hI:I<N) (hx:(lst N xss I)[j]?=some x) (hl:B[x.toNat]?=some l) :
 BackOk N xss (B.set x.toNat (l++[(I:Int)])) I (j+1):=by
 have hx0:=Zfh (List.mem_of_getElem? hx)
 have hxl:x.toNat<B.length:=(List.getElem?_eq_some_iff.1 hl).1
 have hcase:∀ k l',(B.set x.toNat (l++[(I:Int)]))[k]?=some l'→(k=x.toNat∧l'=l++[(I:Int)])∨(k≠x.toNat∧B[k]?=some l'):=by
  intro k l' h'
  by_cases e:k=x.toNat
  · subst e; rw [List.getElem?_set_self hxl] at h'; cases h'; exact .inl ⟨rfl,rfl⟩
  · rw [List.getElem?_set_ne (by omega)] at h'; exact .inr ⟨e,h'⟩
 have htake:(lst N xss I).take (j+1)=(lst N xss I).take j++[x]:=by rw [List.take_add_one,hx]; rfl
 refine ⟨by simpa using h.len,fun k l' h' i=>?_,fun k l' h' y hy=>?_,fun k l' h'=>?_⟩
 · rcases hcase k l' h' with ⟨rfl,rfl⟩|⟨hne,h1⟩
   · have hc:=h.count _ l hl i
     rw [List.count_append,hc]
     unfold cntB
     rw [htake,List.count_append]
     by_cases h1:i<I
     · rw [if_pos h1,if_pos h1]
       have:(I:Int)≠(i:Int):=by omega
       simp [List.count_cons]; omega
     · rw [if_neg h1,if_neg h1]
       by_cases h2:i=I
       · rw [if_pos h2,if_pos h2,h2]
         have:x=((x.toNat:Nat):Int):=by omega
         rw [←this]; simp
       · rw [if_neg h2,if_neg h2]
         simp [List.count_cons]; omega
   · have hc:=h.count _ l' h1 i
     rw [hc]
     unfold cntB
     rw [htake,List.count_append]
     have:¬ x=(k:Int):=by omega
     by_cases h1:i<I
     · rw [if_pos h1,if_pos h1]
     · rw [if_neg h1,if_neg h1]
       by_cases h2:i=I
       · rw [if_pos h2,if_pos h2]; simp [this]
       · rw [if_neg h2,if_neg h2]
 · rcases hcase k l' h' with ⟨rfl,rfl⟩|⟨hne,h1⟩
   · rcases List.mem_append.1 hy with hy|hy
     · exact h.range _ l hl y hy
     · simp at hy; subst hy; omega
   · exact h.range _ l' h1 y hy
 · rcases hcase k l' h' with ⟨rfl,rfl⟩|⟨hne,h1⟩
   · have:=h.short _ l hl; simp; omega
   · have:=h.short _ l' h1; omega
def g_need (n:Int) (xss:List (List Int)) (done:List Bool) (i:Nat):Int:=((lst n xss i).filter fun k=>!isDone done k).length
theorem Zfp (n:Int) (xss:List (List Int)) (N:Nat) (i:Nat):g_need n xss (List.replicate N false) i=(lst n xss i).length:=by
 unfold g_need
 have h:(fun k=>!isDone (List.replicate N false) k)=fun _=>true:=by
  funext k; by_cases hk:k.toNat<N<;>simp [isDone,hk]
 rw [h]
 exact congrArg (fun l:List Int=>(l.length:Int)) (List.filter_eq_self.2 (fun _ _=>rfl))
theorem need_zero {n:Int} {xss:List (List Int)} {done:List Bool} {i:Nat}:g_need n xss done i≤0↔freeB n xss done i=true:=by
 unfold g_need freeB
 constructor
 · intro h
   have h0:((lst n xss i).filter fun k=>!isDone done k)=[]:=List.eq_nil_of_length_eq_zero (by omega)
   rw [List.filter_eq_nil_iff] at h0
   rw [List.all_eq_true]
   intro x hx; simpa using h0 x hx
 · intro h
   rw [List.all_eq_true] at h
   have h0:((lst n xss i).filter fun k=>!isDone done k)=[]:=by
    rw [List.filter_eq_nil_iff]; intro x hx; simp [h x hx]
   rw [h0]; simp
theorem Zfq {n:Int} {xss:List (List Int)} {done:List Bool} {i:Nat} (hs:(lst n xss i).length≤80):0≤g_need n xss done i∧g_need n xss done i≤80:=by
 unfold g_need
 have:=List.length_filter_le (fun k=>!isDone done k) (lst n xss i)
 omega
theorem Zfr {done:List Bool} {i0:Nat} (hi:i0<done.length) {x:Int} (hx:0≤x):isDone (done.set i0 true) x=(decide (x=i0) || isDone done x):=by
 unfold isDone
 by_cases h:x=i0
 · subst h; simp [hi]
 · have:i0≠x.toNat:=by omega
   simp [List.getElem?_set_ne this,h]
theorem Zfs {n:Int} {xss:List (List Int)} {done:List Bool} {i0:Nat} (hi:i0<done.length) (h0:done.getD i0 false=false) (i:Nat) :
 g_need n xss done i - (lst n xss i).count (i0:Int)=g_need n xss (done.set i0 true) i:=by
 unfold g_need
 have hm:∀ x∈lst n xss i,0≤x:=fun x hx=>(Zfh hx).1
 generalize lst n xss i=l at hm
 induction l with
 | nil=>simp
 | cons a l ih =>
  have ih:=ih (fun x hx=>hm x (by simp [hx]))
  have ha:=hm a (by simp)
  have hd:=Zfr hi ha
  by_cases e:a=i0
  · subst e
    have hf:isDone done (i0:Int)=false:=by simpa [isDone] using h0
    simp only [List.filter_cons,hf,hd,decide_true,Bool.true_or,Bool.not_true,Bool.not_false,if_true,List.count_cons_self,List.length_cons]
    simp only [Bool.false_eq_true,if_false]
    omega
  · simp only [List.filter_cons,hd,e,decide_false,Bool.false_or,List.count_cons_of_ne (Ne.symm (Ne.symm e))]
    split
    · simp only [List.length_cons]; omega
    · exact ih
end Pal.Graph
