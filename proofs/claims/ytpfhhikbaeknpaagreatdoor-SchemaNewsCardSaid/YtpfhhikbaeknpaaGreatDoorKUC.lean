/- The walk of palaverref11. -/
import Derived.Test.YtpfhhikbaeknpaaGreatDoorKUB
import Derived.Test.YtpfhhikbaeknpaaGreatDoorKQC
import Derived.Test.YtpfhhikbaeknpaaGreatDoorKTY
import Derived.Deep.RegionHeld3
import Derived.Deep.RegionHeldLaw
import Derived.Deep.DrawnRows
set_option linter.all false
namespace Go.Proofs.YtpfhhikbaeknpaaGreatDoor
open Go.RowKit Pal
attribute [local go_sem ↓] Go.wp_at_zero Go.wp_at_succ
theorem ZnD {b g:Nat} (h:b≠g) (V:World) (i j:Nat) (u v:Value):(V.setCell ⟨b,i,none⟩ u).setCell ⟨g,j,none⟩ v=(V.setCell ⟨g,j,none⟩ v).setCell ⟨b,i,none⟩ u:=by
 unfold World.setCell
 congr 1
 apply Array.ext_getElem?
 intro x
 simp only [Array.getElem?_modify]
 by_cases h1:b=x
 · have h2:¬ g=x:=fun e=>h (h1.trans e.symm)
   simp [h1,h2]
 · simp [h1]
theorem Row.last4 {t:Tag} {k:Nat} {w:World} {e:TypeId} {g n cap:Nat} {xs:List Value} {z0 z1 z2 z3:Value} (h:Row t k w e 4 (.slice (some ⟨g,0,none⟩) (n+1) cap) (n+1) (xs++[z0,z1,z2,z3])) (hx:xs.length=n*4) (y0 y1 y2 y3:Value) :
 Row t k ((((w.setCell ⟨g,n*4,none⟩ y0).setCell ⟨g,n*4+1,none⟩ y1).setCell ⟨g,n*4+2,none⟩ y2).setCell ⟨g,n*4+3,none⟩ y3) e 4 (.slice (some ⟨g,0,none⟩) (n+1) cap) (n+1) (xs++[y0,y1,y2,y3]):=by
 refine ⟨⟨by simp [hx]; omega,?_⟩,h.tag⟩
 rcases h.own.2 with ⟨hv,hn⟩|⟨g',cap',cur,hv,hb,hg,hn,hc,hs,ht⟩
 · cases hv
 · simp only [Value.slice.injEq,Option.some.injEq,Addr.mk.injEq,and_true,true_and] at hv
   obtain ⟨rfl,rfl⟩:=hv
   refine .inr ⟨g,cap,(((cur.setIfInBounds (n*4) y0).setIfInBounds (n*4+1) y1).setIfInBounds (n*4+2) y2).setIfInBounds (n*4+3) y3,rfl,hb,?_,hn,hc,by simpa using hs,?_⟩
   · simp [World.setCell,Array.getElem?_modify,hg]
   · have e4:(n+1)*4=n*4+4:=by omega
     have hcs:n*4+4≤cur.size:=by omega
     rw [e4] at ht ⊢
     apply List.ext_getElem?
     intro j
     have hj0:(cur.toList.take (n*4+4))[j]?=(xs++[z0,z1,z2,z3])[j]?:=by rw [ht]
     by_cases hj:j<n*4
     · rw [List.getElem?_take_of_lt (by omega)] at hj0 ⊢
       rw [List.getElem?_append_left (by omega)] at hj0 ⊢
       rw [←hj0]
       simp only [Array.toList_setIfInBounds,List.getElem?_set]
       rw [if_neg (by omega),if_neg (by omega),if_neg (by omega),if_neg (by omega)]
     · by_cases hj4:j<n*4+4
       · rw [List.getElem?_take_of_lt (by omega),List.getElem?_append_right (by omega),hx]
         simp only [Array.toList_setIfInBounds,List.getElem?_set,List.length_set,Array.length_toList]
         rcases (by omega:j=n*4∨j=n*4+1∨j=n*4+2∨j=n*4+3) with rfl|rfl|rfl|rfl
         · rw [if_neg (by omega),if_neg (by omega),if_neg (by omega),if_pos rfl,if_pos (by omega),Nat.sub_self]; rfl
         · rw [if_neg (by omega),if_neg (by omega),if_pos rfl,if_pos (by omega),show n*4+1 - n*4=1 by omega]; rfl
         · rw [if_neg (by omega),if_pos rfl,if_pos (by omega),show n*4+2 - n*4=2 by omega]; rfl
         · rw [if_pos rfl,if_pos (by omega),show n*4+3 - n*4=3 by omega]; rfl
       · rw [List.getElem?_take_eq_none (by omega),List.getElem?_eq_none (by simp; omega)]
def PU (w:World) (l:List Fd) (b:Nat) (lv:Value) (ev hv:Nat→Value) (el:Nat→List OV) (hl:Nat→List Bool) (be:Nat) (o:OV) (t:Tag) (W:World):Prop :=
 DF w l b t lv ev hv el hl W∧t be=99∧W.heap[be]?=some (.cells (exOf o).toArray 61 (0,0))
def DFL (w:World) (l:List Fd) (b:Nat) (lv:Value) (ev hv:Nat→Value) (el:Nat→List OV) (hl:Nat→List Bool) (o:OV) (L:List (Nat × Obj)) (W:World):Prop :=
 ∃ t,DF w l b t lv ev hv el hl W∧(∀ x,o=some x→KV (hz t W) x.2 x.1.ks∧Fine x.1)∧∀ x∈L,(t x.1=0∨t x.1=99)∧W.heap[x.1]?=some x.2
section
variable {w : World} {l : List Fd} {b be : Nat} {t t' : Tag} {lv : Value} {ev hv : Nat → Value} {el : Nat → List OV} {hl : Nat → List Bool} {o : OV} {L : List (Nat × Obj)} {W W' : World}
theorem PU.lt (h:PU w l b lv ev hv el hl be o t W):be<W.heap.size:=(Array.getElem?_eq_some_iff.1 h.2.2).1
theorem PU.start (h:DF w l b t lv ev hv el hl W):PU w l b lv ev hv el hl W.heap.size none (t.set W.heap.size 99) (W.alloc (.cells #[.int .i64 0,.int .i64 0,.string ⟨#[]⟩,.slice none 0 0] 61)) :=
 ⟨h.keep9 ((Evo.refl _ _ _).alloc 99 _),Tag.set_same _ _ _,heap_alloc_new _ _⟩
theorem PU.call (h:PU w l b lv ev hv el hl be o t W) (hb:Below W.heap.size W W'):PU w l b lv ev hv el hl be o (t.ext W.heap.size 0) W' :=
 ⟨h.1.call hb,(Tag.ext_lt _ _ _ _ h.lt).trans h.2.1,(hb.block _ h.lt).trans h.2.2⟩
theorem PU.new (h:PU w l b lv ev hv el hl be o t W) (x:Obj):PU w l b lv ev hv el hl be o (t.set W.heap.size 0) (W.alloc x) :=
 ⟨h.1.new x,(Tag.set_other _ _ _ (by have:=h.lt; omega)).trans h.2.1,(Below.heap_alloc _ _ _ h.lt).trans h.2.2⟩
theorem PU.set (h:PU w l b lv ev hv el hl be o t W) (x:Ex × Value):PU w l b lv ev hv el hl be (some x) t ((((W.setCell ⟨be,0,none⟩ (.int .i64 x.1.op)).setCell ⟨be,1,none⟩ (.int .i64 x.1.n)).setCell ⟨be,2,none⟩ (.string ⟨x.1.s.toArray⟩)).setCell ⟨be,3,none⟩ x.2):=by
 have ht:=h.2.1
 refine ⟨h.1.keep9 (((((Evo.refl t W (·=99)).setCell ⟨be,0,none⟩ _ ht).setCell ⟨be,1,none⟩ _ ht).setCell ⟨be,2,none⟩ _ ht).setCell ⟨be,3,none⟩ _ ht),ht,?_⟩
 have h4:=h.2.2
 cases o with
 | none=>exact ZdM h4 _ _ _ _
 | some y=>exact ZdM h4 _ _ _ _
def PUX (w:World) (l:List Fd) (b:Nat) (lv:Value) (ev hv:Nat→Value) (el:Nat→List OV) (hl:Nat→List Bool) (be:Nat) (X:Ex) (xa:Option Addr) (xc bx:Nat) (W:World):Prop :=
 ∃ t,PU w l b lv ev hv el hl be none t W∧KV (hz t W) (.slice xa X.ks.length xc) X.ks∧W.heap[bx]?=some (.cells #[.int .i64 X.op,.int .i64 X.n,.string ⟨X.s.toArray⟩,.slice xa X.ks.length xc] 61 (0,0))
theorem PUX.start {X:Ex} {xa:Option Addr} {xc:Nat} (h:PU w l b lv ev hv el hl be none t W) (hb:Below W.heap.size W W') (hk:KV (gn W.heap.size W') (.slice xa X.ks.length xc) X.ks) :
 PUX w l b lv ev hv el hl be X xa xc W'.heap.size (W'.alloc (.cells #[.int .i64 X.op,.int .i64 X.n,.string ⟨X.s.toArray⟩,.slice xa X.ks.length xc] 61)) :=
 ⟨_,(h.call hb).new _,(hk.mono (ZiH t _ _)).mono (((Evo.refl _ W' (fun _=>False)).alloc 0 _).hz (fun h=>h)),heap_alloc_new _ _⟩
section
variable {X : Ex} {xa : Option Addr} {xc bx : Nat}
theorem PUX.call (h:PUX w l b lv ev hv el hl be X xa xc bx W) (hb:Below W.heap.size W W'):PUX w l b lv ev hv el hl be X xa xc bx W':=by
 obtain ⟨t,h1,h2,h3⟩:=h
 exact ⟨_,h1.call hb,h2.mono ((Evo.below hb (Tag.ext_lt t _ 0):Evo t W _ W' (fun _=>False)).hz (fun h=>h)),(hb.block _ (Array.getElem?_eq_some_iff.1 h3).1).trans h3⟩
theorem PUX.drew (h:PUX w l b lv ev hv el hl be X xa xc bx W):PUX w l b lv ev hv el hl be X xa xc bx W.drew:=h.call (Below.refl _ _).drew
theorem PUX.at0 (h:PUX w l b lv ev hv el hl be X xa xc bx W):W.cell? ⟨bx,0,none⟩=some (.int .i64 X.op)∧W.cell? ⟨bx,1,none⟩=some (.int .i64 X.n)∧W.cell? ⟨bx,2,none⟩=some (.string ⟨X.s.toArray⟩)∧W.cell? ⟨bx,3,none⟩=some (.slice xa X.ks.length xc):=by
 obtain ⟨t,h1,h2,h3⟩:=h; exact (ZdP h3).1
theorem PUX.kv (h:PUX w l b lv ev hv el hl be X xa xc bx W):KV (gh W) (.slice xa X.ks.length xc) X.ks:=by
 obtain ⟨t,h1,h2,h3⟩:=h; exact h2.mono (Zae _ _)
theorem PUX.fds (h:PUX w l b lv ev hv el hl be X xa xc bx W):FdsV (gh W) lv l:=by
 obtain ⟨t,h1,h2,h3⟩:=h; exact h1.1.fdsV
theorem PUX.below (h:PUX w l b lv ev hv el hl be X xa xc bx W):Below w.heap.size w W:=by
 obtain ⟨t,h1,h2,h3⟩:=h; exact h1.1.below
theorem PUX.box0 (h:PUX w l b lv ev hv el hl be X xa xc bx W):W.cell? ⟨b,0,none⟩=some lv:=by
 obtain ⟨t,h1,h2,h3⟩:=h
 have:=h1.1.box
 simp [World.cell?,this]
end
theorem PU.list (h:PU w l b lv ev hv el hl be o t W) (hk:∀ x,o=some x→KV (hz t W) x.2 x.1.ks∧Fine x.1):DFL w l b lv ev hv el hl o [(be,.cells (exOf o).toArray 61 (0,0))] W :=
 ⟨t,h.1,hk,fun x hx=>by obtain rfl:=List.mem_singleton.1 hx; exact ⟨.inr h.2.1,h.2.2⟩⟩
theorem DFL.alloc (h:DFL w l b lv ev hv el hl o L W) (x:Obj):DFL w l b lv ev hv el hl o ((W.heap.size,x)::L) (W.alloc x):=by
 obtain ⟨t,h1,hs,h2⟩:=h
 refine ⟨_,h1.new x,fun y hy=>⟨(hs y hy).1.mono (((Evo.refl t W (fun _=>False)).alloc 0 x).hz (fun h=>h)),(hs y hy).2⟩,fun y hy=>?_⟩
 rcases List.mem_cons.1 hy with rfl|hy
 · exact ⟨.inl (Tag.set_same _ _ _),heap_alloc_new _ _⟩
 · obtain ⟨q1,q2⟩:=h2 y hy
   have hl:=(Array.getElem?_eq_some_iff.1 q2).1
   rw [Tag.set_other _ _ _ (by omega)]
   exact ⟨q1,(Below.heap_alloc _ _ _ hl).trans q2⟩
theorem DFL.nil (h:DFL w l b lv ev hv el hl o L W):DFL w l b lv ev hv el hl o [] W:=by
 obtain ⟨t,h1,hs,h2⟩:=h
 exact ⟨t,h1,hs,fun x hx=>by cases hx⟩
theorem DFL.drew (h:DFL w l b lv ev hv el hl o L W):DFL w l b lv ev hv el hl o L W.drew:=by
 obtain ⟨t,h1,hs,h2⟩:=h
 exact ⟨t,h1.keep (Evo.refl _ _ _).drew,hs,h2⟩
theorem DFL.box (h:DFL w l b lv ev hv el hl o L W):W.heap[b]?=some (.cells #[lv,ev 0,ev 1,ev 2,hv 0,hv 1,hv 2,.slice none 0 0,.slice none 0 0] 79 (0,0)):=by
 obtain ⟨t,h1,_⟩:=h; exact h1.box
theorem DFL.lt (h:DFL w l b lv ev hv el hl o L W):b<W.heap.size:=by
 obtain ⟨t,h1,_⟩:=h; exact h1.lt
theorem ZnE (h:W.heap[b]?=some (.cells #[lv,ev 0,ev 1,ev 2,hv 0,hv 1,hv 2,.slice none 0 0,.slice none 0 0] 79 (0,0))) {k:Nat} (hk:k<3) :
 (W.cell? ⟨b,0,none⟩=some lv∧W.cell? ⟨b,1+k,none⟩=some (ev k)∧W.cell? ⟨b,4+k,none⟩=some (hv k))∧W.frozen? ⟨b,1+k,none⟩=false∧W.frozen? ⟨b,4+k,none⟩=false:=by
 rcases (by omega:k=0∨k=1∨k=2) with rfl|rfl|rfl<;>simp [World.cell?,World.frozen?,h]
theorem ZnF:∃ i0,Tryz.prog.info? 61=some i0∧i0.zero=some (.agg #[.int .i64 0,.int .i64 0,.string ⟨#[]⟩,.slice none 0 0])∧i0.size=4∧i0.bytes=56:=info_parts infoEx
theorem ZnG:∃ i0,Tryz.prog.info? 4=some i0∧i0.zero=some (.bool false)∧i0.size=1∧i0.bytes=1:=info_parts (show (Tryz.prog.info? 4).map (fun i=>(i.zero,i.size,i.bytes))=some (some (.bool false),1,1) by kernel_rfl)
theorem ZnH {ops:Array Oper} {oo:Oper} {y:Act} {K:Act→World→Prop} {Q:Exit→Act→World→Prop} {E:Prop} {g k n ec:Nat} {ea:Option Addr} {x0 x1 x2 x3:Value} (hgd:oo.guard=none) (s x:Operand)
 (ho:oo.op = .call { callee := .builtin .append,args:=#[s,x],argTypes:=#[59,59] })
 (hs:y.eval s = .slice ea n ec) (hx:y.eval x = .slice (some ⟨g,0,none⟩) 1 1) (hk:k<3) (hev:ev k = .slice ea n ec) (hn:(el k).length=n) (hn2:n≤1000) (hox:exOf o=[x0,x1,x2,x3]) (h:DFL w l b lv ev hv el hl o L W)
 (hm:(g,.cells #[.int .i64 0,.int .i64 0,.string ⟨#[]⟩,.slice none 0 0] 61 (0,0))∈L)
 (hK:∀ g2 c' w',g2≠b→(w'.cell? ⟨b,1+k,none⟩=some (.slice ea n ec)∧w'.frozen? ⟨b,1+k,none⟩=false)→((∃ z0,w'.cell? ⟨g2,n*4,none⟩=some z0)∧(∃ z1,w'.cell? ⟨g2,n*4+1,none⟩=some z1)∧(∃ z2,w'.cell? ⟨g2,n*4+2,none⟩=some z2)∧∃ z3,w'.cell? ⟨g2,n*4+3,none⟩=some z3) →
  (w'.frozen? ⟨g2,n*4,none⟩=false∧w'.frozen? ⟨g2,n*4+1,none⟩=false∧w'.frozen? ⟨g2,n*4+2,none⟩=false∧w'.frozen? ⟨g2,n*4+3,none⟩=false) →
  (∀ u∈L,w'.heap[u.1]?=some u.2∧u.1≠b∧u.1≠g2) →
  DFL w l b lv (updV ev k (.slice (some ⟨g2,0,none⟩) (n+1) c')) hv (updV el k (el k++[o])) hl o L (((((w'.setCell ⟨b,1+k,none⟩ (.slice (some ⟨g2,0,none⟩) (n+1) c')).setCell ⟨g2,n*4,none⟩ x0).setCell ⟨g2,n*4+1,none⟩ x1).setCell ⟨g2,n*4+2,none⟩ x2).setCell ⟨g2,n*4+3,none⟩ x3) →
  DFL w l b lv (updV ev k (.slice (some ⟨g2,0,none⟩) (n+1) c')) hv (updV el k (el k++[o])) hl o L (((((w'.setCell ⟨g2,n*4,none⟩ x0).setCell ⟨g2,n*4+1,none⟩ x1).setCell ⟨g2,n*4+2,none⟩ x2).setCell ⟨g2,n*4+3,none⟩ x3).setCell ⟨b,1+k,none⟩ (.slice (some ⟨g2,0,none⟩) (n+1) c')) →
  K (y.put oo.dst (.slice (some ⟨g2,0,none⟩) (n+1) c')) w') :
 if Region.wanted oo (yielded ops y.tmps)=true then Oper.wp Tryz.prog oo y W K Q else E:=by
 subst hn
 have hw:Region.wanted oo (yielded ops y.tmps)=true:=by simp [Region.wanted,hgd]
 rw [if_pos hw]
 obtain ⟨t,h1,hko,h2⟩:=h
 obtain ⟨i0,hi,hz0,hz1,hz2⟩:=ZnF
 obtain ⟨hg1,hg2⟩:=h2 _ hm
 have hrow:=h1.exs k hk
 rw [hev] at hrow
 obtain ⟨v',t',w',hrun,hr,he,_⟩:=Zaa (P:=Tryz.prog) oo.type 59 61 i0 _ 4 56 Tryz.underlying59 hi hz0 hz1 hz2 rfl (by decide) hrow ⟨g,0,none⟩ 1 1 [.int .i64 0,.int .i64 0,.string ⟨#[]⟩,.slice none 0 0] rfl (Zf8 hg2) (by simp [Value.oneCell']) (by unfold maxLen; omega) (by omega)
 obtain ⟨g2,c',rfl,hgl,hgt⟩:=ZiT hr (by omega)
 have hbl:=h1.lt
 have hbt':t' b=1:=(he.tag _ hbl).trans h1.bt
 have hne:g2≠b:=fun e=>by rw [e,hbt'] at hgt; omega
 have hxl:((el k).flatMap exOf).length=(el k).length*4:=ZbV exOf 4 ZfY _
 have hr4:=fun y0 y1 y2 y3=>Row.last4 hr hxl y0 y1 y2 y3
 have hbx:=(he.block _ hbl (by rw [h1.bt]; omega)).trans h1.box
 obtain ⟨⟨-,m0,-⟩,m1,-⟩:=ZnE hbx hk
 rw [hev] at m0
 obtain ⟨cur,hcur,hcs⟩:∃ cur:Array Value,w'.heap[g2]?=some (.cells cur 61 (0,0))∧(el k).length*4+4≤cur.size:=by
  rcases hr.own.2 with ⟨hv,_⟩|⟨g',cap',cur,hv,_,hg,h1,_,hs,_⟩
  · cases hv
  · simp only [Value.slice.injEq,Option.some.injEq,Addr.mk.injEq,and_true,true_and] at hv
    obtain ⟨rfl,rfl⟩:=hv
    exact ⟨cur,hg,by omega⟩
 have hc:∀ j,j<4→(∃ z,w'.cell? ⟨g2,(el k).length*4+j,none⟩=some z)∧w'.frozen? ⟨g2,(el k).length*4+j,none⟩=false:=fun j hj =>
  ⟨⟨cur[(el k).length*4+j]'(by omega),by simp [World.cell?,hcur,show (el k).length*4+j<cur.size by omega]⟩,by simp [World.frozen?,hcur]⟩
 have hL:∀ u∈L,w'.heap[u.1]?=some u.2:=fun u hu=>by
  obtain ⟨q1,q2⟩:=h2 u hu
  exact (he.block _ (Array.getElem?_eq_some_iff.1 q2).1 (by omega)).trans q2
 have ht4:t' g2=10+k:=hgt
 have e4:Evo t' w' t' ((((w'.setCell ⟨g2,(el k).length*4,none⟩ x0).setCell ⟨g2,(el k).length*4+1,none⟩ x1).setCell ⟨g2,(el k).length*4+2,none⟩ x2).setCell ⟨g2,(el k).length*4+3,none⟩ x3) (·=10+k) :=
  ((((Evo.refl t' w' _).setCell ⟨g2,_,none⟩ _ ht4).setCell ⟨g2,_,none⟩ _ ht4).setCell ⟨g2,_,none⟩ _ ht4).setCell ⟨g2,_,none⟩ _ ht4
 have hr5:Row t' (10+k) ((((w'.setCell ⟨g2,(el k).length*4,none⟩ x0).setCell ⟨g2,(el k).length*4+1,none⟩ x1).setCell ⟨g2,(el k).length*4+2,none⟩ x2).setCell ⟨g2,(el k).length*4+3,none⟩ x3) 61 4 (.slice (some ⟨g2,0,none⟩) ((el k).length+1) c') (el k++[o]).length ((el k++[o]).flatMap exOf):=by
  have h5:=hr4 x0 x1 x2 x3
  rw [List.flatMap_append,List.length_append,List.flatMap_cons,List.flatMap_nil,List.append_nil,hox]
  exact h5
 have hD:=h1.app1 hk hr5 (he.trans e4) hko
 have hbe:∀ u∈L,u.1≠b∧u.1≠g2:=fun u hu=>by
  obtain ⟨q1,q2⟩:=h2 u hu
  have hul:=(Array.getElem?_eq_some_iff.1 q2).1
  refine ⟨fun e=>by rw [e,h1.bt] at q1; omega,fun e=>?_⟩
  have:=he.tag _ hul
  rw [e,hgt] at this
  rw [e] at q1
  omega
 have comm:(((((w'.setCell ⟨b,1+k,none⟩ (.slice (some ⟨g2,0,none⟩) ((el k).length+1) c')).setCell ⟨g2,(el k).length*4,none⟩ x0).setCell ⟨g2,(el k).length*4+1,none⟩ x1).setCell ⟨g2,(el k).length*4+2,none⟩ x2).setCell ⟨g2,(el k).length*4+3,none⟩ x3)=(((((w'.setCell ⟨g2,(el k).length*4,none⟩ x0).setCell ⟨g2,(el k).length*4+1,none⟩ x1).setCell ⟨g2,(el k).length*4+2,none⟩ x2).setCell ⟨g2,(el k).length*4+3,none⟩ x3).setCell ⟨b,1+k,none⟩ (.slice (some ⟨g2,0,none⟩) ((el k).length+1) c')):=by
  have sw:∀ (V:World) (i j:Nat) (u v:Value),(V.setCell ⟨b,i,none⟩ u).setCell ⟨g2,j,none⟩ v=(V.setCell ⟨g2,j,none⟩ v).setCell ⟨b,i,none⟩ u:=fun V i j u v=>ZnD (Ne.symm hne) V i j u v
  rw [sw,sw,sw,sw]
 have hDL:DFL w l b lv (updV ev k (.slice (some ⟨g2,0,none⟩) ((el k).length+1) c')) hv (updV el k (el k++[o])) hl o L (((((w'.setCell ⟨g2,(el k).length*4,none⟩ x0).setCell ⟨g2,(el k).length*4+1,none⟩ x1).setCell ⟨g2,(el k).length*4+2,none⟩ x2).setCell ⟨g2,(el k).length*4+3,none⟩ x3).setCell ⟨b,1+k,none⟩ (.slice (some ⟨g2,0,none⟩) ((el k).length+1) c')):=by
  refine ⟨t',hD,fun u hu=>⟨((hko u hu).1.mono ((he.trans e4).hz (by omega))).mono (((Evo.refl t' _ (·=1)).setCell ⟨b,1+k,none⟩ _ hbt').hz (by decide)),(hko u hu).2⟩,fun u hu=>?_⟩
  obtain ⟨q1,q2⟩:=h2 u hu
  rw [he.tag _ (Array.getElem?_eq_some_iff.1 q2).1]
  refine ⟨q1,?_⟩
  obtain ⟨n1,n2⟩:=hbe u hu
  rw [Below.heap_setCell _ _ _ _ n1,Below.heap_setCell _ _ _ _ n2,Below.heap_setCell _ _ _ _ n2,Below.heap_setCell _ _ _ _ n2,Below.heap_setCell _ _ _ _ n2]
  exact hL u hu
 have hK2:=hK g2 c' w' hne ⟨m0,m1⟩ ⟨(hc 0 (by omega)).1,(hc 1 (by omega)).1,(hc 2 (by omega)).1,(hc 3 (by omega)).1⟩ ⟨(hc 0 (by omega)).2,(hc 1 (by omega)).2,(hc 2 (by omega)).2,(hc 3 (by omega)).2⟩ (fun u hu=>⟨hL u hu,hbe u hu⟩) (by rw [comm]; exact hDL) hDL
 unfold Oper.wp
 simp [execOp,ho,resolve,invoke,builtin,hs,hx,hrun,Result.andThen]
 exact hK2
theorem ZnI {ops:Array Oper} {oo:Oper} {y:Act} {K:Act→World→Prop} {Q:Exit→Act→World→Prop} {E:Prop} {g k n ec:Nat} {ea:Option Addr} {z:Bool} (hgd:oo.guard=none) (s x:Operand)
 (ho:oo.op = .call { callee := .builtin .append,args:=#[s,x],argTypes:=#[76,76] })
 (hs:y.eval s = .slice ea n ec) (hx:y.eval x = .slice (some ⟨g,0,none⟩) 1 1) (hk:k<3) (hev:hv k = .slice ea n ec) (hn:(hl k).length=n) (hn2:n≤1000) (h:DFL w l b lv ev hv el hl o L W)
 (hm:(g,.cells #[.bool z] 4 (0,0))∈L)
 (hK:∀ a' c' w',w'.cell? ⟨b,4+k,none⟩=some (.slice ea n ec)→w'.frozen? ⟨b,4+k,none⟩=false →
  (∃ t,DF w l b t lv ev (updV hv k (.slice a' (n+1) c')) el (updV hl k (hl k++[z])) (w'.setCell ⟨b,4+k,none⟩ (.slice a' (n+1) c'))) →
  K (y.put oo.dst (.slice a' (n+1) c')) w') :
 if Region.wanted oo (yielded ops y.tmps)=true then Oper.wp Tryz.prog oo y W K Q else E:=by
 subst hn
 have hw:Region.wanted oo (yielded ops y.tmps)=true:=by simp [Region.wanted,hgd]
 rw [if_pos hw]
 obtain ⟨t,h1,hko,h2⟩:=h
 obtain ⟨i0,hi,hz0,hz1,hz2⟩:=ZnG
 obtain ⟨hg1,hg2⟩:=h2 _ hm
 have hrow:=h1.has k hk
 rw [hev] at hrow
 obtain ⟨v',t',w',hrun,hr,he,_⟩:=Zaa (P:=Tryz.prog) oo.type 76 4 i0 (.bool false) 1 1 Tryz.underlying76 hi hz0 hz1 hz2 rfl (by decide) hrow ⟨g,0,none⟩ 1 1 [.bool z] rfl (Zf8 hg2) (by simp [Value.oneCell']) (by unfold maxLen; omega) (by omega)
 obtain ⟨a',c',rfl⟩:=hr.form
 have hr':Row t' (20+k) w' 4 1 (.slice a' ((hl k).length+1) c') (hl k++[z]).length ((hl k++[z]).flatMap boolC):=by
  rw [List.flatMap_append,List.length_append]; exact hr
 have hbx:=(he.block _ h1.lt (by rw [h1.bt]; omega)).trans h1.box
 obtain ⟨⟨-,-,m0⟩,-,m1⟩:=ZnE hbx hk
 rw [hev] at m0
 have hK2:=hK a' c' w' m0 m1 ⟨t',h1.app2 hk hr' he⟩
 unfold Oper.wp
 simp [execOp,ho,resolve,invoke,builtin,hs,hx,hrun,Result.andThen]
 exact hK2
end
end Go.Proofs.YtpfhhikbaeknpaaGreatDoor
