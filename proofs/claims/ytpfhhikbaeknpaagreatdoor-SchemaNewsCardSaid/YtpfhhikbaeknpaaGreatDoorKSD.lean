/- The map of a form's names to their places, as it lies in mem. -/
import Derived.Test.YtpfhhikbaeknpaaGreatDoorKGA
import Derived.Maps.OwnSet
set_option linter.all false
namespace Go.Proofs.YtpfhhikbaeknpaaGreatDoor
open Go.RowKit Pal

structure Fd where
 n:Bs
 t:Int
 fo:Bs
 ru:Bs
 sh:Bs
abbrev X3:=Option Ex × Option Ex × Option Ex
def namesOk:List Bs→Nat→List Fd→Option (Nat × Int)
 | _,_,[]=>none
 | seen,i,f::r=>if seen.contains f.n=true∨isName f.n=false then some (i,9) else if 1≤f.t∧f.t≤3 then namesOk (seen++[f.n]) (i+1) r else some (i,8)
def putM (ns:List Bs) (ts:List Int) (want:Int) (x:Bs):Except Int (Option Ex) :=
 if x=[] then .ok none
 else match parseM x with
  | .error (_,e) => .error e
  | .ok e=>if (typeOf e ns ts).2≠0 then .error (typeOf e ns ts).2 else if (typeOf e ns ts).1≠want then .error 8 else .ok (some e)
def readsM (ns:List Bs) (ts:List Int) (f:Fd):Except Int X3 :=
 match putM ns ts f.t f.fo with
 | .error e => .error e
 | .ok a =>
  match putM ns ts 2 f.ru with
  | .error e => .error e
  | .ok b =>
   match putM ns ts 2 f.sh with
   | .error e => .error e
   | .ok c => .ok (a,b,c)
def readAll (ns:List Bs) (ts:List Int):Nat→List Fd→Except (Nat × Int) (List X3)
 | _,[] => .ok []
 | i,f::r =>
  match readsM ns ts f with
  | .error e => .error (i,e)
  | .ok x =>
   match readAll ns ts (i+1) r with
   | .error e => .error e
   | .ok l => .ok (x::l)
def posM (ns:List Bs) (m:List Bs):List Int:=((List.range ns.length).filter fun j=>m.contains (ns.getD j [])).map Int.ofNat
def needM (ns:List Bs) (x:X3):List Int:=match x.1 with|none=>[]|some e=>posM ns (namesM e)
structure Form where
 l:List Fd
 es:List X3
 needs:List (List Int)
 order:List Int
def Fd.names (l:List Fd):List Bs:=l.map Fd.n
def Fd.types (l:List Fd):List Int:=l.map Fd.t
def hasF (es:List X3) (i:Int):Bool:=((es.getD i.toNat (none,none,none)).1).isSome
def newM (l:List Fd):Except (Nat × Int) Form :=
 if l.length<1∨24<l.length then .error (0,11)
 else match namesOk [] 0 l with
  | some x => .error x
  | none =>
   match readAll (Fd.names l) (Fd.types l) 0 l with
   | .error x => .error x
   | .ok es =>
    if (Graph.orderS l.length (es.map (needM (Fd.names l)))).2=true then
     .ok ⟨l,es,es.map (needM (Fd.names l)),(Graph.orderS l.length (es.map (needM (Fd.names l)))).1.filter (hasF es)⟩
    else .error (((Graph.stuckS l.length (es.map (needM (Fd.names l)))).headD 0).toNat,10)
def joinX (a:List X3) (x:Except (Nat × Int) (List X3)):Except (Nat × Int) (List X3):=match x with | .error e => .error e | .ok l => .ok (a++l)
theorem Zft (a b:List X3) (x:Except (Nat × Int) (List X3)):joinX a (joinX b x)=joinX (a++b) x:=by cases x<;>simp [joinX]
theorem Zfu (x:Except (Nat × Int) (List X3)):joinX [] x=x:=by cases x<;>simp [joinX]
theorem Zfv {ns:List Bs} {ts:List Int} {i:Nat} {f:Fd} {r:List Fd} {x:X3} (h:readsM ns ts f = .ok x):readAll ns ts i (f::r)=joinX [x] (readAll ns ts (i+1) r):=by
 simp only [readAll,h]; cases readAll ns ts (i+1) r<;>rfl
theorem Zfw {ns:List Bs} {ts:List Int} {i:Nat} {f:Fd} {r:List Fd} {e:Int} (h:readsM ns ts f = .error e):readAll ns ts i (f::r) = .error (i,e):=by
 simp only [readAll,h]
theorem Zfx {ns:List Bs} {ts:List Int}:∀ (r:List Fd) (i:Nat) (es:List X3),readAll ns ts i r = .ok es→es.length=r.length
 | [],_,es,h=>by simp only [readAll,Except.ok.injEq] at h; rw [←h]; rfl
 | f::r,i,es,h=>by
  cases hx:readsM ns ts f with
  | error e=>rw [Zfw hx] at h; cases h
  | ok x =>
   rw [Zfv hx] at h
   cases hr:readAll ns ts (i+1) r with
   | error e=>rw [hr] at h; cases h
   | ok l =>
    rw [hr] at h
    simp only [joinX,Except.ok.injEq] at h
    rw [←h,List.length_append,Zfx r (i+1) l hr,List.length_cons,List.length_cons,List.length_nil]; omega
theorem Zfy {ns:List Bs} {ts:List Int}:∀ (r:List Fd) (i:Nat) (es:List X3),readAll ns ts i r = .ok es→∀ (j:Nat) (f:Fd) (x:X3),r[j]?=some f→es[j]?=some x→readsM ns ts f = .ok x
 | [],_,es,_,j,f,x,hf,_=>by simp at hf
 | g::r,i,es,h,j,f,x,hf,hx=>by
  cases hg:readsM ns ts g with
  | error e=>rw [Zfw hg] at h; cases h
  | ok y =>
   rw [Zfv hg] at h
   cases hr:readAll ns ts (i+1) r with
   | error e=>rw [hr] at h; cases h
   | ok l =>
    rw [hr] at h
    simp only [joinX,Except.ok.injEq] at h
    subst h
    cases j with
    | zero=>simp at hf hx; subst hf; subst hx; exact hg
    | succ j=>simp at hf hx; exact Zfy r (i+1) l hr j f x hf hx
theorem Zfz {ns:List Bs} {ts:List Int} {want:Int} {x:Bs} {o:Option Ex} (h:putM ns ts want x = .ok o):(x=[]∧o=none)∨(x≠[]∧∃ e,o=some e∧parseM x = .ok e∧typeOf e ns ts=(want,0)):=by
 unfold putM at h
 by_cases hx:x=[]
 · rw [if_pos hx] at h; cases h; exact .inl ⟨hx,rfl⟩
 · rw [if_neg hx] at h
   cases hp:parseM x with
   | error q=>rw [hp] at h; cases h
   | ok e =>
    rw [hp] at h
    simp only at h
    by_cases h1:(typeOf e ns ts).2=0
    · rw [if_neg (by simp [h1])] at h
      by_cases h2:(typeOf e ns ts).1=want
      · rw [if_neg (by simp [h2])] at h
        cases h
        exact .inr ⟨hx,e,rfl,rfl,Prod.ext h2 h1⟩
      · rw [if_pos h2] at h; cases h
    · rw [if_pos h1] at h; cases h
theorem ZfA {ns:List Bs} {ts:List Int} {f:Fd} {x:X3} (h:readsM ns ts f = .ok x):putM ns ts f.t f.fo = .ok x.1∧putM ns ts 2 f.ru = .ok x.2.1∧putM ns ts 2 f.sh = .ok x.2.2:=by
 unfold readsM at h
 cases ha:putM ns ts f.t f.fo with
 | error e=>rw [ha] at h; cases h
 | ok a =>
  rw [ha] at h
  cases hb:putM ns ts 2 f.ru with
  | error e=>simp only [hb] at h; cases h
  | ok b =>
   simp only [hb] at h
   cases hc:putM ns ts 2 f.sh with
   | error e=>simp only [hc] at h; cases h
   | ok c=>simp only [hc,Except.ok.injEq] at h; subst h; exact ⟨rfl,rfl,rfl⟩
theorem ZfB {α:Type} {l:List α} {i:Nat} {d:α} (h:i<l.length):l.getD i d=l[i]:=by simp [List.getD,h]
theorem ZfC {n:Nat} {xss:List (List Int)} (hn:n≤4096) (h:(Graph.orderS n xss).2≠true):∃ x l,Graph.stuckS n xss=(x:Int)::l∧0≤x:=by
 have hc:(0:Int)≤n∧(n:Int)≤4096:=by omega
 unfold Graph.orderS at h
 rw [if_pos hc] at h
 by_cases hl:(Graph.st n xss (n:Int).toNat).1.length<(n:Int).toNat
 · unfold Graph.stuckS
   rw [if_pos hc]
   have h1:=Graph.st_count (n:=(n:Int)) (xss:=xss) (n:Int).toNat
   have h2:=Graph.st_len (n:=(n:Int)) (xss:=xss) (n:Int).toNat
   have h3:∃ i,i<(n:Int).toNat∧(Graph.st n xss (n:Int).toNat).2.getD i false=false:=by
    refine Classical.byContradiction fun hno=>?_
    have:(Graph.st n xss (n:Int).toNat).2.count true=(Graph.st n xss (n:Int).toNat).2.length:=by
     rw [List.count_eq_length]
     intro b hb
     obtain ⟨i,hi,rfl⟩:=List.mem_iff_getElem.1 hb
     cases hq:(Graph.st n xss (n:Int).toNat).2[i] with
     | true=>rfl
     | false=>exact absurd ⟨i,by omega,by rw [ZfB hi]; exact hq⟩ hno
    omega
   obtain ⟨i,hi,hg⟩:=h3
   have hm:(i:Int)∈Graph.left (Graph.st n xss (n:Int).toNat).2 (n:Int).toNat:=by
    unfold Graph.left
    exact List.mem_map.2 ⟨i,List.mem_filter.2 ⟨List.mem_range.2 hi,by rw [hg]; rfl⟩,rfl⟩
   cases hL:Graph.left (Graph.st n xss (n:Int).toNat).2 (n:Int).toNat with
   | nil=>rw [hL] at hm; cases hm
   | cons x l =>
    refine ⟨x,l,rfl,?_⟩
    have hx:x∈Graph.left (Graph.st n xss (n:Int).toNat).2 (n:Int).toNat:=by rw [hL]; exact List.mem_cons_self
    unfold Graph.left at hx
    obtain ⟨k,_,rfl⟩:=List.mem_map.1 hx
    exact Int.natCast_nonneg k
 · rw [if_neg hl] at h; exact absurd rfl h
theorem ZfD (ns m:List Bs):(posM ns m).length≤ns.length:=by
 unfold posM; rw [List.length_map]; exact Nat.le_trans (List.length_filter_le _ _) (by rw [List.length_range]; exact Nat.le_refl _)
theorem ZfE {ns m:List Bs} {x:Int}:x∈posM ns m↔∃ j:Nat,x=j∧j<ns.length∧ns.getD j []∈m:=by
 unfold posM
 constructor
 · intro h
   obtain ⟨j,hj,rfl⟩:=List.mem_map.1 h
   obtain ⟨h1,h2⟩:=List.mem_filter.1 hj
   exact ⟨j,rfl,List.mem_range.1 h1,by simpa using h2⟩
 · rintro ⟨j,rfl,h1,h2⟩
   exact List.mem_map.2 ⟨j,List.mem_filter.2 ⟨List.mem_range.2 h1,by simpa using h2⟩,rfl⟩
theorem ZfF (ns m:List Bs):(posM ns m).Pairwise (·<·):=by
 unfold posM
 rw [List.pairwise_map]
 refine List.Pairwise.imp ?_ (List.Pairwise.filter _ (List.pairwise_lt_range (n:=ns.length)))
 intro a b h
 exact Int.ofNat_lt.2 h
def posT:List Bs→Bs→Option Nat
 | [],_=>none
 | m::ms,s=>if m=s then some 0 else (posT ms s).map (·+1)
theorem posT_none {ns:List Bs} {s:Bs}:posT ns s=none↔ns.contains s=false:=by
 induction ns with
 | nil=>simp [posT]
 | cons m ms ih =>
  unfold posT
  by_cases h:m=s
  · simp [h]
  · rw [if_neg h]
    have:(s == m)=false:=by simp; exact fun e=>h e.symm
    cases hp:posT ms s with
    | none=>simp only [Option.map_none,true_iff]; rw [List.contains_cons,this,(ih.1 hp)]; rfl
    | some j =>
     simp only [Option.map_some,List.contains_cons,this,Bool.false_or]
     constructor
     · intro e; cases e
     · intro e; rw [ih.2 e] at hp; cases hp
theorem ZfG:∀ {ns:List Bs} {s:Bs} {j:Nat},posT ns s=some j→ns[j]?=some s
 | [],_,_,h=>by simp [posT] at h
 | m::ms,s,j,h=>by
  unfold posT at h
  by_cases e:m=s
  · rw [if_pos e] at h; cases h; simp [e]
  · rw [if_neg e] at h
    cases hp:posT ms s with
    | none=>rw [hp] at h; cases h
    | some k=>rw [hp] at h; cases h; simpa using ZfG hp
theorem ZfH (ns:List Bs) (m s:Bs):posT (ns++[m]) s=match posT ns s with|some j=>some j|none=>if m=s then some ns.length else none:=by
 induction ns with
 | nil=>simp [posT]
 | cons a ms ih =>
  simp only [List.cons_append,posT]
  by_cases e:a=s
  · simp [e]
  · rw [if_neg e,if_neg e,ih]
    cases hp:posT ms s with
    | some j=>rfl
    | none =>
     by_cases e2:m=s
     · simp [e2]
     · simp [e2]
theorem ZfI:∀ (r:List Fd) (seen:List Bs) (i:Nat),namesOk seen i r=none→seen.Nodup→(seen++Fd.names r).Nodup∧(∀ f∈r,isName f.n=true∧1≤f.t∧f.t≤3)
 | [],seen,_,_,hs=>⟨by simpa [Fd.names] using hs,fun f hf=>by cases hf⟩
 | f::r,seen,i,h,hs=>by
  unfold namesOk at h
  by_cases h1:seen.contains f.n=true∨isName f.n=false
  · rw [if_pos h1] at h; cases h
  · rw [if_neg h1] at h
    by_cases h2:1≤f.t∧f.t≤3
    · rw [if_pos h2] at h
      have h3:f.n ∉ seen:=fun hm=>h1 (.inl (by simpa using hm))
      obtain ⟨g1,g2⟩:=ZfI r (seen++[f.n]) (i+1) h (by
       rw [List.nodup_append]
       exact ⟨hs,by simp,fun a ha b hb=>by simp at hb; subst hb; exact fun e=>h3 (e▸ha)⟩)
      refine ⟨by simpa [Fd.names] using g1,fun x hx=>?_⟩
      rcases List.mem_cons.1 hx with rfl|hx
      · exact ⟨by simpa using fun e=>h1 (.inr e),h2⟩
      · exact g2 x hx
    · rw [if_neg h2] at h; cases h
theorem ZfJ:∀ {l m:List Int},l.Pairwise (·<·)→m.Pairwise (·<·)→(∀ x,x∈l↔x∈m)→l=m
 | [],m,_,_,h=>by
  cases m with
  | nil=>rfl
  | cons b m=>have:=(h b).2 List.mem_cons_self; cases this
 | a::l,[],_,_,h=>by have:=(h a).1 List.mem_cons_self; cases this
 | a::l,b::m,hl,hm,h=>by
  obtain ⟨h1,h2⟩:=List.pairwise_cons.1 hl
  obtain ⟨g1,g2⟩:=List.pairwise_cons.1 hm
  have e:a=b:=by
   rcases List.mem_cons.1 ((h a).1 List.mem_cons_self) with e|e
   · exact e
   · rcases List.mem_cons.1 ((h b).2 List.mem_cons_self) with e'|e'
     · exact e'.symm
     · have q1:=g1 a e; have q2:=h1 b e'; omega
  subst e
  congr 1
  refine ZfJ h2 g2 fun x=>?_
  constructor
  · intro hx
    rcases List.mem_cons.1 ((h x).1 (List.mem_cons_of_mem _ hx)) with e|e
    · subst e; have:=h1 x hx; omega
    · exact e
  · intro hx
    rcases List.mem_cons.1 ((h x).2 (List.mem_cons_of_mem _ hx)) with e|e
    · subst e; have:=g1 x hx; omega
    · exact e
open Go.RowKit Pal Go.Maps
theorem nm_law:Keyed Tryz.prog 9:=string_keyed Tryz.underlying9
theorem ZfK (w:World):(zeroValue 3).run Tryz.prog w = .ok (.int .i64 0) w:=by kernel_rfl
def NmAt (w:World) (b:Nat) (ns:List Bs):Prop :=
 ∃ (n:Nat) (D:DataW Unit),w.ownsMap Tryz.prog 9 (plainElem Tryz.prog 3) b n D∧n≤ns.length∧(∀ s:Bs,Maps.has D (.string s)=(posT ns s).isSome) ∧
  ∀ (s:Bs) (j:Nat),posT ns s=some j→D.atKey (.string s) (.lit (.int .i64 0)) = .lit (.int .i64 j)
theorem NmAt.made (w:World):NmAt (w.alloc (.map #[] 0)) w.heap.size [] :=
 ⟨0,.map [],World.ownsMap_made _ _ _ _,Nat.le_refl _,fun s=>rfl,fun s j h=>by simp [posT] at h⟩
theorem NmAt.lt {w:World} {b:Nat} {ns:List Bs} (h:NmAt w b ns):b<w.heap.size:=by
 obtain ⟨n,D,h1,_⟩:=h; exact h1.lt
theorem NmAt.keep {w w':World} {b:Nat} {ns:List Bs} (h:NmAt w b ns) (hb:w'.heap[b]?=w.heap[b]?):NmAt w' b ns:=by
 obtain ⟨n,D,⟨es,clock,h1,r⟩,q⟩:=h
 exact ⟨n,D,⟨es,clock,hb.trans h1,r⟩,q⟩
theorem ZfL (s:Bs) (hs:s.length≤maxLen):keyOf Tryz.prog 9 (.string ⟨s.toArray⟩)=some (.string s) :=
 WideMaps.keyOf_string_mk (P:=Tryz.prog) Tryz.underlying9 (s:=⟨s.toArray⟩) (by simpa [ByteArray.size] using hs)
theorem NmAt.atKey {ns:List Bs} {D:DataW Unit} (h1:∀ s:Bs,Maps.has D (.string s)=(posT ns s).isSome) (h2:∀ (s:Bs) (j:Nat),posT ns s=some j→D.atKey (.string s) (.lit (.int .i64 0)) = .lit (.int .i64 j)) (s:Bs) :
 D.atKey (.string s) (.lit (.int .i64 0)) = .lit (.int .i64 ((posT ns s).getD 0:Nat)):=by
 cases hp:posT ns s with
 | none=>rw [Maps.atKey_of_not_has (by rw [h1 s,hp]; rfl)]; rfl
 | some j=>exact h2 s j hp
theorem NmAt.look {w:World} {b:Nat} {ns:List Bs} (h:NmAt w b ns) (s:Bs) (hs:s.length≤maxLen) :
 (Instr.lookup 54 (.map (some b)) (.string ⟨s.toArray⟩) true).run Tryz.prog w = .ok (.tuple #[.int .i64 ((posT ns s).getD 0:Nat),.bool (posT ns s).isSome]) w:=by
 obtain ⟨n,D,h0,_,h1,h2⟩:=h
 obtain ⟨v,ps,hr,hv⟩:=h0.look_ok nm_law Tryz.underlying54 (ZfK w) (zd := .lit (.int .i64 0)) (zp:=[]) (plainElem_int Tryz.underlying3 (by decide)) (ZfL s hs)
 obtain ⟨c,rfl,hc,_⟩:=plainElem_int_inv Tryz.underlying3 hv
 rw [NmAt.atKey h1 h2 s] at hc
 simp only [Prod.mk.injEq,DataW.lit.injEq,Lit.int.injEq,true_and] at hc
 rw [hr,h1 s,←hc.1]
theorem NmAt.get {w:World} {b:Nat} {ns:List Bs} (h:NmAt w b ns) (s:Bs) (hs:s.length≤maxLen) :
 (Instr.lookup 54 (.map (some b)) (.string ⟨s.toArray⟩) false).run Tryz.prog w = .ok (.int .i64 ((posT ns s).getD 0:Nat)) w:=by
 obtain ⟨n,D,h0,_,h1,h2⟩:=h
 obtain ⟨c,hr,hc,_⟩:=h0.lookup_int nm_law Tryz.underlying54 Tryz.underlying3 (ZfK w) (ZfL s hs)
 rw [NmAt.atKey h1 h2 s] at hc
 simp only [DataW.lit.injEq,Lit.int.injEq,true_and] at hc
 rw [hr,←hc]
theorem NmAt.store {w:World} {b:Nat} {ns:List Bs} (h:NmAt w b ns) (s:Bs) (hs:s.length≤maxLen) (hl:ns.length≤1000) (hp:posT ns s=none) :
 ∃ w',(Instr.mapUpdate 54 (.map (some b)) (.string ⟨s.toArray⟩) (.int .i64 ns.length)).run Tryz.prog w = .ok () w'∧NmAt w' b (ns++[s])∧w.mapTurned w' b:=by
 obtain ⟨n,D,h0,h3,h1,h2⟩:=h
 have hwf:(Lit.int .i64 (ns.length:Int)).wf=true:=WalkArith.wf_i64 (by omega)
 obtain ⟨w',hr,ho,ht⟩:=h0.store nm_law Tryz.underlying54 (by unfold maxLen; omega) (ZfL s hs) (plainElem_int Tryz.underlying3 hwf)
 have hIs:=h0.isMap
 have hkey:=nm_law.key (ZfL s hs)
 refine ⟨w',hr,⟨n+1,_,ho,by rw [List.length_append,List.length_singleton]; omega,fun x=>?_,fun x j hx=>?_⟩,ht⟩
 · rw [ZfH]
   by_cases e:x=s
   · subst e
     rw [Maps.has_put_same hIs hkey,hp]
     simp
   · rw [Maps.has_put_other (fun h=>e (by cases h; rfl)),h1 x]
     cases posT ns x with
     | some j=>rfl
     | none=>simp [Ne.symm e]
 · rw [ZfH] at hx
   by_cases e:x=s
   · subst e
     rw [hp] at hx
     simp at hx
     subst hx
     rw [Maps.atKey_put_same hIs hkey]
   · rw [Maps.atKey_put_other (fun h=>e (by cases h; rfl))]
     cases hq:posT ns x with
     | some i=>rw [hq] at hx; cases hx; exact h2 x _ hq
     | none=>rw [hq] at hx; simp [Ne.symm e] at hx
theorem ZfM {t:Tag} {w w':World} {b:Nat} {K:Nat→Prop} (h:w.mapTurned w' b) (hk:K (t b)):Evo t w t w' K:=by
 obtain ⟨h1,h2,h3,h4,h5⟩:=h.grown
 exact ⟨h1,h2,h3,h4,fun _ _=>rfl,fun x hx hn=>h5 x hx (fun e=>by cases e; exact hn hk)⟩
end Go.Proofs.YtpfhhikbaeknpaaGreatDoor
