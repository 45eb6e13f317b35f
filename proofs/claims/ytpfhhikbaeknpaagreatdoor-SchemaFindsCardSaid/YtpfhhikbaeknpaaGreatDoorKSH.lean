/- The walk of (*schema.Schema).links: what each field needs. Conditions: the form lies as it is said to, each formula may be, its names are the form's. -/
import Derived.Test.YtpfhhikbaeknpaaGreatDoorKSC
import Derived.Test.YtpfhhikbaeknpaaGreatDoorKPN
import Derived.Test.YtpfhhikbaeknpaaGreatDoorKGB
import Derived.Test.YtpfhhikbaeknpaaGreatDoorKSD
set_option linter.unusedSectionVars false
set_option linter.unusedSimpArgs false
set_option linter.unusedVariables false
namespace Go.Proofs.YtpfhhikbaeknpaaGreatDoor
open Go.RowKit Pal
attribute [local go_sem ↓] Go.wp_at_zero Go.wp_at_succ
theorem row_sort {t:Tag} {k:Nat} {w:World} {e:TypeId} {v:Value} {zs:List Int} (h:Row t k w e 1 v zs.length (zs.map (Value.int .i64))) (hne:zs≠[]) :
 ∃ g cap,v = .slice (some ⟨g,0,none⟩) zs.length cap∧g<w.heap.size∧Go.Sort.Holds (Value.int .i64) w g 0 zs.toArray ∧
  ∀ (n:Nat) (os:Array Obj) (ts:List Int),ts.length=zs.length→∃ t',Row t' k (Go.Sort.grow (Go.Sort.putRow (Value.int .i64) (Go.Sort.ahead w n) g 0 ts.toArray) os) e 1 v zs.length (ts.map (Value.int .i64))∧Evo t w t' (Go.Sort.grow (Go.Sort.putRow (Value.int .i64) (Go.Sort.ahead w n) g 0 ts.toArray) os) (·=k):=by
 have hz:0<zs.length:=List.length_pos_iff.2 hne
 have htag:=h.tag
 rcases h.own.2 with ⟨_,hn⟩|⟨g,cap,cur,rfl,hbase,hb,h1,h2,h3,h4⟩
 · omega
 have hg:g<w.heap.size:=(Array.getElem?_eq_some_iff.1 hb).1
 refine ⟨g,cap,rfl,hg,fun j hj=>?_,fun n os ts hl=>?_⟩
 · have hj':j<zs.length:=by simpa using hj
   refine ⟨?_,by simp [World.frozen?,hb]⟩
   have e1:(cur.toList.take zs.length)[j]?=(zs.map (Value.int .i64))[j]?:=by rw [←h4,Nat.mul_one]
   rw [List.getElem?_take_of_lt hj'] at e1
   simp only [World.cell?,hb,Nat.zero_add,Option.isSome_none,Bool.false_eq_true,if_false]
   rw [←Array.getElem?_toList,e1]
   simp [hj']
 · have e1:(Go.Sort.grow (Go.Sort.putRow (Value.int .i64) (Go.Sort.ahead w n) g 0 ts.toArray) os).heap[g]?=some (.cells (Go.Sort.putCells (Value.int .i64) 0 ts.toArray cur) e (0,0)):=by
    rw [Go.Sort.heap_grow_old _ _ (by simpa using hg)]
    simp [Go.Sort.putRow,Go.Sort.mapBlock,Go.Sort.ahead,Array.getElem?_modify,hb,Go.Sort.onCells]
   have e2:(Go.Sort.putCells (Value.int .i64) 0 ts.toArray cur).toList.take zs.length=ts.map (Value.int .i64):=by
    apply List.ext_getElem?
    intro j
    by_cases hj:j<ts.length
    · rw [List.getElem?_take_of_lt (by omega),Array.getElem?_toList]
      simp [Go.Sort.putCells,hj,show j<cur.size by omega]
    · rw [List.getElem?_take_eq_none (by omega),List.getElem?_eq_none (by simp; omega)]
   refine ⟨t.ext w.heap.size 0,⟨⟨by simp [hl],.inr ⟨g,cap,_,rfl,hbase,e1,h1,h2,by simp [Go.Sort.putCells,h3],by rw [Nat.mul_one]; exact e2⟩⟩,fun b hb'=>?_⟩,⟨rfl,rfl,rfl,by simp,Tag.ext_lt _ _ _,fun x hx hn=>?_⟩⟩
   · have:b=g:=by simp [Value.ownBlock] at hb'; exact hb'.symm
     subst this
     rw [Tag.ext_lt _ _ _ _ hg]; exact htag b rfl
   · rw [Go.Sort.heap_grow_old _ _ (by simpa using hx)]
     have hne:g≠x:=fun e=>hn (by rw [←e]; exact htag g rfl)
     simp [Go.Sort.putRow,Go.Sort.mapBlock,Go.Sort.ahead,Array.getElem?_modify,hne]
abbrev XV:=OV × OV × OV
def noX:XV:=(none,none,none)
def nilS:Value := .slice none 0 0
def RowsF (W:World) (g:Nat) (l:List Fd) (xs:List XV) (nds:List Value):Prop :=
 ∃ cur:Array Value,W.heap[g]?=some (.cells cur 65 (0,0))∧∀ i f,l[i]?=some f→∀ j v,(fdCells f (xs.getD i noX).1 (xs.getD i noX).2.1 (xs.getD i noX).2.2 (nds.getD i nilS))[j]?=some v→cur[i*21+j]?=some v
section
variable {W W' : World} {g : Nat} {l : List Fd} {xs : List XV} {nds : List Value}
theorem RowsF.lt (h:RowsF W g l xs nds):g<W.heap.size:=by obtain ⟨cur,h1,_⟩:=h; exact (Array.getElem?_eq_some_iff.1 h1).1
theorem RowsF.keep (h:RowsF W g l xs nds) (hb:W'.heap[g]?=W.heap[g]?):RowsF W' g l xs nds:=by obtain ⟨cur,h1,h2⟩:=h; exact ⟨cur,hb.trans h1,h2⟩
theorem RowsF.cell (h:RowsF W g l xs nds) {i j:Nat} {f:Fd} {v:Value} (hf:l[i]?=some f) (hj:(fdCells f (xs.getD i noX).1 (xs.getD i noX).2.1 (xs.getD i noX).2.2 (nds.getD i nilS))[j]?=some v) :
 W.cell? ⟨g,i*21+j,none⟩=some v∧W.frozen? ⟨g,i*21+j,none⟩=false:=by
 obtain ⟨cur,h1,h2⟩:=h
 have:=h2 i f hf j v hj
 exact ⟨by simp [World.cell?,h1,this],by simp [World.frozen?,h1]⟩
theorem fd_need (f:Fd) (a b c:OV) (nv:Value):(fdCells f a b c nv)[20]?=some nv:=by cases a<;>cases b<;>cases c<;>rfl
def fdFront (f:Fd) (a b c:OV):List Value:=[.string ⟨f.n.toArray⟩,.int .i64 f.t,.string ⟨f.fo.toArray⟩,.string ⟨f.ru.toArray⟩,.string ⟨f.sh.toArray⟩]++exOf a++exOf b++exOf c++[.bool a.isSome,.bool b.isSome,.bool c.isSome]
theorem fd_front (f:Fd) (a b c:OV) (x:Value):fdCells f a b c x=fdFront f a b c++[x]:=by simp [fdCells,fdFront]
theorem fdFront_len (f:Fd) (a b c:OV):(fdFront f a b c).length=20:=by simp [fdFront,exOf_len]
theorem fd_needOf (f:Fd) (a b c:OV) (nv nv':Value) {j:Nat} (hj:j≠20):(fdCells f a b c nv)[j]?=(fdCells f a b c nv')[j]?:=by
 have hl:=fdFront_len f a b c
 rw [fd_front,fd_front]
 by_cases hlt:j<20
 · rw [List.getElem?_append_left (by omega),List.getElem?_append_left (by omega)]
 · rw [List.getElem?_eq_none (by rw [List.length_append,List.length_singleton]; omega),List.getElem?_eq_none (by rw [List.length_append,List.length_singleton]; omega)]
theorem RowsF.need {c:Value} (h:RowsF W g l xs (nds++[c])) {i:Nat} (hi:nds.length=i) (v:Value):RowsF (W.setCell ⟨g,i*21+20,none⟩ v) g l xs (nds++[v]):=by
 subst hi
 obtain ⟨cur,h1,h2⟩:=h
 refine ⟨cur.setIfInBounds (nds.length*21+20) v,by simp [World.setCell,Array.getElem?_modify,h1],fun i f hf j x hx=>?_⟩
 rw [Array.getElem?_setIfInBounds]
 have hjl:j<21:=by
  have:=(List.getElem?_eq_some_iff.1 hx).1
  rw [fdCells_len] at this; exact this
 by_cases e:nds.length*21+20=i*21+j
 · have ei:i=nds.length:=by omega
   have ej:j=20:=by omega
   subst ei; subst ej
   have hold:=h2 _ f hf 20 _ (fd_need _ _ _ _ _)
   rw [if_pos rfl,if_pos (Array.getElem?_eq_some_iff.1 hold).1]
   rw [fd_need] at hx
   rw [←hx]
   simp [List.getD]
 · rw [if_neg e]
   by_cases ei:i=nds.length
   · subst ei
     have ej:j≠20:=by omega
     rw [fd_needOf _ _ _ _ _ ((nds++[c]).getD nds.length nilS) ej] at hx
     exact h2 _ f hf j x hx
   · have eg:(nds++[v]).getD i nilS=(nds++[c]).getD i nilS:=by
      simp only [List.getD,List.getElem?_append]
      by_cases hlt:i<nds.length
      · simp [hlt]
      · rw [if_neg hlt,if_neg hlt,List.getElem?_eq_none (by simp; omega),List.getElem?_eq_none (by simp; omega)]
     rw [eg] at hx
     exact h2 i f hf j x hx
theorem RowsF.nil (h:RowsF W g l xs nds):RowsF W g l xs (nds++[nilS]):=by
 obtain ⟨cur,h1,h2⟩:=h
 refine ⟨cur,h1,fun i f hf j x hx=>h2 i f hf j x ?_⟩
 have e:(nds++[nilS]).getD i nilS=nds.getD i nilS:=by
  simp only [List.getD,List.getElem?_append]
  by_cases hlt:i<nds.length
  · simp [hlt]
  · rw [if_neg hlt,List.getElem?_eq_none (by omega:nds.length≤i)]
    by_cases h0:i - nds.length=0
    · simp [h0]
    · rw [List.getElem?_eq_none (by simp; omega)]
 rw [←e]; exact hx
end
attribute [local go_sem ↓] Go.wp_at_zero Go.wp_at_succ
def tagG (g:Nat):Tag:=fun b=>if b=g then 5 else 0
def posN (ns:List Bs) (s:Bs):Int:=((posT ns s).getD 0:Nat)
theorem posN_at {ns:List Bs} {s:Bs} (h:s∈ns):∃ j:Nat,posN ns s=j∧ns[j]?=some s:=by
 cases hp:posT ns s with
 | none=>have:=posT_none.1 hp; simp at this; exact absurd h this
 | some j=>exact ⟨j,by unfold posN; rw [hp]; rfl,posT_some hp⟩
theorem sort_pos {ns m:List Bs} (hn:ns.Nodup) (hm:m.Nodup) (hs:∀ s∈m,s∈ns):((m.map (posN ns)).mergeSort fun x y=>decide (x≤y))=posM ns m:=by
 have hp:=List.mergeSort_perm (m.map (posN ns)) fun x y=>decide (x≤y)
 have hsorted:((m.map (posN ns)).mergeSort fun x y=>decide (x≤y)).Pairwise (fun a b=>decide (a≤b)=true) :=
  List.pairwise_mergeSort (fun a b c h1 h2=>by simp at *; omega) (fun a b=>by simp; omega) _
 have hnd:(m.map (posN ns)).Nodup:=by
  rw [List.nodup_iff_pairwise_ne,List.pairwise_map]
  refine List.Pairwise.imp_of_mem ?_ hm
  intro a b ha hb hne he
  obtain ⟨i,hi,hgi⟩:=posN_at (hs a ha)
  obtain ⟨j,hj,hgj⟩:=posN_at (hs b hb)
  rw [hi,hj] at he
  have:i=j:=by omega
  subst this
  rw [hgi] at hgj
  exact hne (by cases hgj; rfl)
 have hnd2:=hp.nodup_iff.2 hnd
 refine rise_ext ?_ (posM_sorted ns m) fun x=>?_
 · have:=hsorted.and hnd2
   refine this.imp ?_
   rintro a b ⟨h1,h2⟩
   simp at h1
   omega
 · rw [hp.mem_iff,List.mem_map,mem_posM]
   constructor
   · rintro ⟨s,hsm,rfl⟩
     obtain ⟨j,hj,hg⟩:=posN_at (hs s hsm)
     have hl:=(List.getElem?_eq_some_iff.1 hg).1
     exact ⟨j,hj,hl,by simp [List.getD,hg]; exact hsm⟩
   · rintro ⟨j,rfl,hl,hmem⟩
     refine ⟨ns.getD j [],hmem,?_⟩
     obtain ⟨i,hi,hgi⟩:=posN_at (hs _ hmem)
     rw [hi]
     have e:ns.getD j []=ns[j]:=getD_in hl
     rw [e,←List.getElem?_eq_getElem hl] at hgi
     have:=(List.getElem?_inj (by
      have:=(List.getElem?_eq_some_iff.1 (hgi.trans (List.getElem?_eq_getElem hl))).1; exact this) hn).1 (hgi)
     omega
structure Lk (w:World) (g:Nat) (l:List Fd) (xs:List XV) (N:List (List Int)) (t:Tag) (nv:Value) (nds:List Value) (cur:Value) (q:List Int) (W:World):Prop where
 ev:Evo (tagG g) w t W (·≠0)
 rows:RowsF W g l xs (nds++[cur])
 gt:t g=5
 outer:Row t 1 W 32 1 nv nds.length nds
 inner:∀ (i:Nat) (v:Value) (nd:List Int),nds[i]?=some v→N[i]?=some nd→Row t (10+i) W 3 1 v nd.length (nd.map (Value.int .i64))
 own:Row t (10+nds.length) W 3 1 cur q.length (q.map (Value.int .i64))
section
variable {w W W' : World} {g : Nat} {l : List Fd} {xs : List XV} {N : List (List Int)} {t t' : Tag} {nv cur : Value} {nds : List Value} {q : List Int}
theorem Lk.keep (h:Lk w g l xs N t nv nds cur q W) (ev:Evo t W t' W' (fun _=>False)):Lk w g l xs N t' nv nds cur q W':=by
 have hl:=h.rows.lt
 exact ⟨h.ev.trans (ev.mono fun _ h=>h.elim),h.rows.keep (ev.block _ hl (fun h=>h)),(ev.tag _ hl).trans h.gt,h.outer.keep ev (fun h=>h),fun i v nd h1 h2=>(h.inner i v nd h1 h2).keep ev (fun h=>h),h.own.keep ev (fun h=>h)⟩
theorem Lk.call (h:Lk w g l xs N t nv nds cur q W) (hb:Below W.heap.size W W'):Lk w g l xs N (t.ext W.heap.size 0) nv nds cur q W':=h.keep (Evo.below hb (Tag.ext_lt _ _ _))
theorem Lk.new (h:Lk w g l xs N t nv nds cur q W) (o:Obj):Lk w g l xs N (t.set W.heap.size 0) nv nds cur q (W.alloc o):=h.keep ((Evo.refl _ _ _).alloc 0 o)
theorem Lk.old (h:Lk w g l xs N t nv nds cur q W) {b:Nat} {o:Obj} (hb:w.heap[b]?=some o) (hn:b≠g):W.heap[b]?=some o:=by
 rw [h.ev.block b (Array.getElem?_eq_some_iff.1 hb).1 (by unfold tagG; rw [if_neg hn]; simp)]; exact hb
theorem Lk.le (h:Lk w g l xs N t nv nds cur q W):(gb g w).le (hz t W):=fun b o hh=>by
 unfold gb at hh
 split at hh
 · cases hh
 · rename_i hn
   have hl:=(Array.getElem?_eq_some_iff.1 hh).1
   unfold hz
   rw [h.ev.tag b hl,h.ev.block b hl (by unfold tagG; rw [if_neg hn]; simp)]
   unfold tagG
   rw [if_neg hn,if_pos rfl]; exact hh
theorem Lk.grow (h:Lk w g l xs N t nv nds cur q W) {cur':Value} {q':List Int} (hr:Row t' (10+nds.length) W' 3 1 cur' q'.length (q'.map (Value.int .i64))) (ev:Evo t W t' W' (·=10+nds.length)) :
 Lk w g l xs N t' nv nds cur' q' (W'.setCell ⟨g,nds.length*21+20,none⟩ cur'):=by
 have hl:=h.rows.lt
 have hg5:t' g=5:=(ev.tag _ hl).trans h.gt
 have e2:Evo t' W' t' (W'.setCell ⟨g,nds.length*21+20,none⟩ cur') (·=5):=(Evo.refl _ _ _).setCell _ _ hg5
 refine ⟨(h.ev.trans (ev.mono fun _ h=>by omega)).trans (e2.mono fun _ h=>by rw [h]; decide),(h.rows.keep (ev.block _ hl (by rw [h.gt]; omega))).need rfl _,hg5,(h.outer.keep ev (by omega)).keep e2 (by decide),fun i v nd h1 h2=>?_,hr.keep e2 (by omega)⟩
 have hi:=(List.getElem?_eq_some_iff.1 h1).1
 exact ((h.inner i v nd h1 h2).keep ev (by omega)).keep e2 (by omega)
theorem Lk.sorted (h:Lk w g l xs N t nv nds cur q W) {q':List Int} (hq:q'.length=q.length) (hr:Row t' (10+nds.length) W' 3 1 cur q'.length (q'.map (Value.int .i64))) (ev:Evo t W t' W' (·=10+nds.length)):Lk w g l xs N t' nv nds cur q' W':=by
 have hl:=h.rows.lt
 refine ⟨h.ev.trans (ev.mono fun _ h=>by omega),h.rows.keep (ev.block _ hl (by rw [h.gt]; omega)),(ev.tag _ hl).trans h.gt,h.outer.keep ev (by omega),fun i v nd h1 h2=>?_,hr⟩
 have hi:=(List.getElem?_eq_some_iff.1 h1).1
 exact (h.inner i v nd h1 h2).keep ev (by omega)
theorem Lk.next (h:Lk w g l xs N t nv nds cur q W) {nv':Value} (hq:N[nds.length]?=some q) (hr:Row t' 1 W' 32 1 nv' (nds.length+1) (nds++[cur])) (ev:Evo t W t' W' (·=1)):Lk w g l xs N t' nv' (nds++[cur]) nilS [] W':=by
 have hl:=h.rows.lt
 refine ⟨h.ev.trans (ev.mono fun _ h=>by rw [h]; decide),(h.rows.keep (ev.block _ hl (by rw [h.gt]; decide))).nil,(ev.tag _ hl).trans h.gt,by simpa using hr,fun i v nd h1 h2=>?_,Row.nil _ _ _ _ _⟩
 rw [List.getElem?_append] at h1
 by_cases hi:i<nds.length
 · rw [if_pos hi] at h1
   exact (h.inner i v nd h1 h2).keep ev (by omega)
 · rw [if_neg hi] at h1
   have hz:i=nds.length:=by
    have:=(List.getElem?_eq_some_iff.1 h1).1
    simp at this; omega
   subst hz
   simp at h1
   subst h1
   rw [hq] at h2
   cases h2
   exact h.own.keep ev (by omega)
end
end Go.Proofs.YtpfhhikbaeknpaaGreatDoor
