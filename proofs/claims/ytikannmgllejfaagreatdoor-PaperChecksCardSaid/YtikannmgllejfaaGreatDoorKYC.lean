/- The walks of paper's full, Work, Values. -/
import Derived.Test.YtikannmgllejfaaGreatDoorKNO
import Derived.Laws.CopyRow
import Derived.Laws.OwnMore
import Derived.Laws.StructEq
import Derived.ChangeKeysEq
import Derived.Test.YtikannmgllejfaaGreatDoorKUG
import Derived.Test.YtikannmgllejfaaGreatDoorKUK
import Derived.Test.YtikannmgllejfaaGreatDoorKVb
import Derived.Test.YtikannmgllejfaaGreatDoorKPl
import Derived.Test.YtikannmgllejfaaGreatDoorKVa
import Derived.Lib.QuoteBits
import Derived.Test.YtikannmgllejfaaGreatDoorKVc
import Derived.Deep.RegionHeld3
import Derived.Test.YtikannmgllejfaaGreatDoorKSB
import Derived.Test.YtikannmgllejfaaGreatDoorKR4
set_option maxHeartbeats 8000000
set_option maxRecDepth 1000000
set_option linter.all false
namespace Go.Proofs.YtikannmgllejfaaGreatDoor
open Go.RowKit Pal
theorem Zre {P:Program} (w:World) (dT sT ty elem:TypeId) (sz g n cap:Nat) (sp:Option Addr) (m sc:Nat) (cur:Array Value) (t:TypeId) (cs:List Value) (hu:P.underlying dT=some (.slice elem)) (hs:(P.info? elem).map (·.size)=some sz) (hg:w.heap[g]?=some (.cells cur t (0,0)))
 (hn:cs.length=Nat.min m n*sz) (hsrc:∀ j v,cs[j]?=some v->∃ A,sp=some A/\w.cell? (A.add j)=some v) (hfit:cs.length<=cur.size) (h1:∀ v∈cs,v.oneCell'=true) :
 (Builtin.copy_ #[dT,sT] ty #[.slice (some ⟨g,0,none⟩) n cap,.slice sp m sc]).run P w = .ok (goInt (Nat.min m n)) (w.setRow g (cs++cur.toList.drop cs.length).toArray):=by
 have hst:=run_storeCells_at P g 0 t cs 0 cur w hg (by simpa using hfit) h1;simp only [Nat.add_zero,Nat.zero_add,List.take_zero,List.nil_append] at hst;cases hq:P.info? elem with
 | none=>simp [hq] at hs
 | some i =>
  have hi:i.size=sz:=(by simpa [hq] using hs);cases sp with
  | none =>
   obtain rfl:cs=[]:=by
    cases cs with
    | nil=>rfl
    | cons v l=>obtain ⟨A,h,-⟩:=hsrc 0 v rfl; cases h
   simp only [List.length_nil,List.nil_append,List.drop_zero,Array.toArray_toList] at hst;simp [Builtin.copy_,run_underlying hu,Builtin.lenOf,Builtin.firstCells,sizeOf,typeInfo,hq,hst]
  | some A =>have hl:=run_loadCells_list (P:=P) w A cs (fun j v hj=>by obtain ⟨A',h,hc⟩:=hsrc j v hj; cases h; exact hc);rw [hn] at hl;simp [Builtin.copy_,run_underlying hu,Builtin.lenOf,Builtin.firstCells,sizeOf,typeInfo,hq,hi,hl,hst]
theorem Zrf (a b c:Value):∀ n,(madeCells #[a,b,c] (n*3)).toList=(List.replicate n [a,b,c]).flatten
 | 0=>by simp [madeCells]
 | n+1=>by
  have ih:=Zrf a b c n
  rw [List.replicate_succ',List.flatten_append,<-ih]
  apply List.ext_getElem?
  intro j
  by_cases h:j<n*3
  . rw [List.getElem?_append_left (by simpa [madeCells] using h)]
    simp [madeCells,h,show j<(n+1)*3 by omega]
  . rw [List.getElem?_append_right (by simp [madeCells]; omega)]
    simp only [madeCells,Array.toList_map,Array.toList_range,Ybf,List.length_range]
    by_cases h2:j<(n+1)*3
    . rcases (by omega:j=n*3\/j=n*3+1\/j=n*3+2) with rfl|rfl|rfl
      . simp
      . simp [show n*3+1<(n+1)*3 by omega,show (n*3+1) % 3=1 by omega]
      . simp [show n*3+2<(n+1)*3 by omega,show (n*3+2) % 3=2 by omega]
    . simp [h2]; omega
theorem Zrg:∀ (l:List Val) (k:Nat),(l.flatMap valCells).drop (k*3)=(l.drop k).flatMap valCells
 | [],k=>by simp
 | x::l,0=>by simp
 | x::l,k+1=>by
  rw [List.flatMap_cons,List.drop_append,Yar (by rw [ZnN]; omega),List.nil_append,ZnN,show (k+1)*3 - 3=k*3 by omega,Zrg l k,List.drop_succ_cons]
def fillM (n:Nat) (l:List Val):List Val:=l.take n++(List.replicate n vNil).drop (l.take n).length
theorem Zrh (n:Nat) (l:List Val):(fillM n l).length=n:=by unfold fillM; simp; omega
theorem Zri {n:Nat} {l:List Val} (h:l.length=n):fillM n l=l:=by unfold fillM;rw [List.take_of_length_le (by omega),Yar (by simp; omega),List.append_nil]
theorem Zrj {n:Nat} {l:List Val} (h:VFine l):VFine (fillM n l):=by
 intro v hv;unfold fillM at hv;rcases List.mem_append.1 hv with hv|hv
 . exact h v (List.mem_of_mem_take hv)
 . obtain rfl:=List.eq_of_mem_replicate (List.mem_of_mem_drop hv);exact ⟨by decide,by decide⟩
theorem Zrk (N:Nat) (hN:N<=1000) (w:World):(Instr.makeSlice 23 (.int .i64 (N:Int)) (.int .i64 (N:Int))).run Tryz.prog w = .ok (.slice (some ⟨w.heap.size,0,none⟩) N N) (w.alloc (.cells (madeCells #[.int .i64 0,.int .i64 0,.string ⟨#[]⟩] (N*3)) 48)):=by obtain ⟨i0,hi,hz0,hz1,hz2⟩:=info_parts ZnA;have:=run_make (P:=Tryz.prog) w 23 48 i0 _ Tryz.underlying23 hi hz0 .i64 .i64 N N (by omega) (Int.le_refl _) (by rw [hz2]; omega) (by omega);rw [this,hz1];rfl
theorem Zrl (N:Nat) (w:World) (hN:N<=1000):OwnV w.heap.size (w.alloc (.cells (madeCells #[.int .i64 0,.int .i64 0,.string ⟨#[]⟩] (N*3)) 48)) (.slice (some ⟨w.heap.size,0,none⟩) N N) (List.replicate N vNil):=by
 have hf:(List.replicate N vNil).flatMap valCells=(madeCells #[.int .i64 0,.int .i64 0,.string ⟨#[]⟩] (N*3)).toList:=by rw [Zrf,List.flatMap_def,List.map_replicate]; rfl
 refine ⟨by rw [hf]; simp [size_madeCells],.inr ⟨w.heap.size,N,_,by simp,Nat.le_refl _,Yac _ _,by simp,by unfold maxLen; omega,size_madeCells _ _,?_⟩⟩;rw [hf,List.take_of_length_le (by simp [size_madeCells])]
theorem Zrm {w:World} (dT sT ty:TypeId) (hu:Tryz.prog.underlying dT=some (.slice 48)) (n0 g n cap:Nat) (sp:Option Addr) (m sc:Nat) (ds ss:List Val)
 (hD:OwnV n0 w (.slice (some ⟨g,0,none⟩) n cap) ds) (hS:ValsV (gh w) (.slice sp m sc) ss) :
 ∃ w',(Builtin.copy_ #[dT,sT] ty #[.slice (some ⟨g,0,none⟩) n cap,.slice sp m sc]).run Tryz.prog w = .ok (goInt (Nat.min m n)) w'/\OwnV n0 w' (.slice (some ⟨g,0,none⟩) n cap) (ss.take n++ds.drop (ss.take n).length)/\Below n0 w w':=by
 obtain ⟨i0,hi,hz0,hz1,hz2⟩:=info_parts ZnA;obtain ⟨hl,hh⟩:=hD;obtain ⟨a',cap',hv',hnil,hc1,hc2,hc⟩:=hS;simp only [Yaq] at hv';obtain ⟨rfl,rfl,rfl⟩:=hv';rcases hh with ⟨h0,-⟩|⟨g',cap2,cur,hv,hge,hg,h1,h2,h3,h4⟩
 . cases h0
 . simp only [Yaq,Yai,Ybd,and_true,true_and] at hv;obtain ⟨rfl,rfl,rfl⟩:=hv;have hcl:((ss.take ds.length).flatMap valCells).length=Nat.min ss.length ds.length*3:=(by rw [ZbV valCells 3 ZnN,List.length_take,Nat.min_comm]);have hrun:=Zre (P:=Tryz.prog) w dT sT ty 48 3 g ds.length cap sp ss.length sc cur 48 ((ss.take ds.length).flatMap valCells) hu (by rw [hi]; simp [hz1]) hg hcl (by
    intro j u hj;obtain ⟨i,c,x,hx,hcx,rfl⟩:=ZnP valCells 3 (by decide) ZnN _ j u hj;have hx2:ss[i]?=some x:=by
     rw [List.getElem?_take] at hx;split at hx
     . exact hx
     . cases hx
    obtain ⟨b,off,ha,k0,k1,k2⟩:=hc i x hx2;rw [Zad] at k0 k1 k2;refine ⟨_,ha,?_⟩;rw [Go.WideShapes.add_plain]
    match c,hcx with
    | 0,hcx=>simp [valCells] at hcx; subst hcx; rw [show off+(i*3+0)=off+i*3 by omega]; exact k0
    | 1,hcx=>simp [valCells] at hcx; subst hcx; rw [show off+(i*3+1)=off+i*3+1 by omega]; exact k1
    | 2,hcx=>simp [valCells] at hcx; subst hcx; rw [show off+(i*3+2)=off+i*3+2 by omega]; exact k2) (by rw [hcl,h3]; have:Nat.min ss.length ds.length<=ds.length:=Nat.min_le_right _ _; omega) (by
    intro u hu;obtain ⟨x,_,hx⟩:=List.mem_flatMap.1 hu;simp [valCells] at hx;rcases hx with rfl|rfl|rfl<;>rfl)
   obtain ⟨row,hrow⟩:∃ r,((ss.take ds.length).flatMap valCells++cur.toList.drop ((ss.take ds.length).flatMap valCells).length).toArray=r:=⟨_,rfl⟩;rw [hrow] at hrun;refine ⟨_,hrun,?_,(Yab _ _).trans ⟨rfl,rfl,rfl,by simp [World.setRow],fun k hk=>setRow_other w g k _ (by omega)⟩⟩;have hk:(ss.take ds.length).length=Nat.min ss.length ds.length:=(by rw [List.length_take,Nat.min_comm]);have hk2:Nat.min ss.length ds.length<=ds.length:=Nat.min_le_right _ _;have hnl:(ss.take ds.length++ds.drop (ss.take ds.length).length).length=ds.length:=(by rw [Yak,Yav]; omega);have hcz:cur.toList.length=cap*3:=(by simpa using h3);have hcs:((ss.take ds.length).flatMap valCells++cur.toList.drop ((ss.take ds.length).flatMap valCells).length).length=cap*3:=(by rw [Yak,Yav,hcl,hcz]; omega);subst hrow;refine ⟨by rw [ZbV valCells 3 ZnN],.inr ⟨g,cap,_,by rw [hnl],hge,setRow_heap w g cur _ _ _ hg,by rw [hnl]; exact h1,h2,by rw [List.size_toArray,hcs],?_⟩⟩;rw [hnl,List.flatMap_append,<-Zrg,<-h4,hk,List.drop_take,List.take_append,List.take_of_length_le (by rw [hcl]; omega),hcl]
attribute [local go_sem ↓] Go.wp_at_zero Go.wp_at_succ
attribute [local go_sem ↓] Go.wp_at_zero Go.wp_at_succ
def outE (o:OV):Ex:=match o with|none => .mk 0 0 [] []|some y=>y.1
def exOut (e:Ex) (u:Bool) (w:World) (r:Ending) (w':World):Prop :=
 Below w.heap.size w w'/\∃ a c,r = .returned (.tuple #[.agg #[.int .i64 e.op,.int .i64 e.n,.string ⟨e.s.toArray⟩,.slice a e.ks.length c],.bool u])/\KV (gh w') (.slice a e.ks.length c) e.ks
theorem Zrt {o:OV} {w:World} {r:Ending} {w':World} (h:exprPost o w r w'):exOut (outE o) o.isSome w r w':=by
 unfold exprPost at h;cases o with
 | none=>exact ⟨h.1,none,0,h.2,KV.nil _⟩
 | some y =>obtain ⟨hb,a,c,hr,hk⟩:=h;exact ⟨hb,a,c,hr,hk.mono (ZdK _ _)⟩
theorem SlV.cell1 {W:World} {v:Value} {n:Nat} {f:Nat->List Value} (s:SlV (gh W) v n 1 f) {j:Nat} (hj:j<n) {x:Value} (hx:(f j)[0]?=some x) :
 ∃ b off cap,v = .slice (some ⟨b,off,none⟩) n cap/\W.cell? ⟨b,off+j,none⟩=some x:=by obtain ⟨a,cap,hv,_,_,_,h⟩:=s;obtain ⟨b,off,rfl,hc⟩:=h j 0 x hj hx;refine ⟨b,off,cap,hv,?_⟩;rw [show 1*j+0=j by omega] at hc;exact hc
theorem Zru {W:World} {b:Nat} {F:Form} {lv:Value} {ev hv:Nat->Value} {nv ov:Value} {xs:List XV} {nds:List Value} (r:RefP (gh W) b F lv ev hv nv ov xs nds) {i k:Nat} {x:XV} (hx:xs[i]?=some x) (hk:k<3) :
 ∃ hb ho hc,hv k = .slice (some ⟨hb,ho,none⟩) F.l.length hc/\W.cell? ⟨hb,ho+i,none⟩=some (.bool (prj k x).isSome):=by
 have hi:i<xs.length:=(Yag.1 hx).1;have hxd:xs.getD i noX=x:=by simp [List.getD,hx]
 obtain ⟨hb,ho,hc,h1,h2⟩:=(r.rb.hs k hk).cell1 (j:=i) hi (x := .bool (prj k x).isSome) (by simp only [hxd]; rfl);exact ⟨hb,ho,hc,by rw [<-r.xlen]; exact h1,h2⟩
def ThinF (F:Form):Prop:=∀ y∈F.es,(∀ e,y.1=some e->Thin e)/\(∀ e,y.2.1=some e->Thin e)/\∀ e,y.2.2=some e->Thin e
theorem Zrv {l:List Fd} {F:Form} (h:newM l = .ok F):ThinF F:=by obtain ⟨-,-,hr,-⟩:=Zjn h;intro y hy;obtain ⟨i,hi⟩:=List.getElem?_of_mem hy;have hlen:=Zf8 l 0 _ hr;have hil:=(Yag.1 hi).1;obtain ⟨f,hf⟩:∃ f,l[i]?=some f:=⟨_,Yad (by omega)⟩;have hx:=Zf9 l 0 _ hr i f y hf hi;obtain ⟨h1,h2,h3⟩:=Zgb hx;exact ⟨fun e he=>Zos (Zjt (e:=e) (by rw [h1,he])).2.1,fun e he=>Zos (Zjt (e:=e) (by rw [h2,he])).2.1,fun e he=>Zos (Zjt (e:=e) (by rw [h3,he])).2.1⟩
theorem Zrw {h:GH} {b:Nat} {F:Form} {g cap mb:Nat} {ov:Value} {xs:List XV} {nds:List Value} (p:SchP h b F g cap mb ov xs nds) (ht:ThinF F) {i:Nat} {x:XV} (hx:xs[i]?=some x) {k:Nat} (hk:k<3) :
 ∀ y,prj k x=some y->KV h y.2 y.1.ks/\Thin y.1:=by
 have hm:x3 x∈F.es:=by rw [p.es]; exact List.mem_map.2 ⟨x,Yay hx,rfl⟩
 obtain ⟨t1,t2,t3⟩:=ht _ hm;obtain ⟨k1,k2,k3⟩:=p.ka x (Yay hx);rcases (by omega:k=0\/k=1\/k=2) with rfl|rfl|rfl
 . intro y hy;exact ⟨k1 y hy,t1 _ (by show ovE x.1=_; rw [show x.1=some y from hy]; rfl)⟩
 . intro y hy;exact ⟨k2 y hy,t2 _ (by show ovE x.2.1=_; rw [show x.2.1=some y from hy]; rfl)⟩
 . intro y hy;exact ⟨k3 y hy,t3 _ (by show ovE x.2.2=_; rw [show x.2.2=some y from hy]; rfl)⟩
def exM (F:Form) (k i:Nat):Option Ex:=match F.es[i]? with|none=>none|some x=>if k=0 then x.1 else if k=1 then x.2.1 else x.2.2
def workM (F:Form) (l:List Val) (i:Nat):Val:=match exM F 0 i with|none=>vNil|some e=>evalM e (Fd.names F.l) l
def stepsM (F:Form):List Int->List Val->List Val
 | [],l=>l
 | i::r,l=>stepsM F r (l.set i.toNat (workM F l i.toNat))
def valuesM (F:Form) (l:List Val):List Val:=stepsM F F.order (fillM F.l.length l)
def yesV (v:Val):Bool:=decide (v.k=2)&&(decide (v.n=1)&&decide (v.s=[]))
def truthK (F:Form) (k:Nat) (l:List Val) (i:Nat):Bool:=match exM F k i with|none=>true|some e=>yesV (evalM e (Fd.names F.l) l)
def truthsM (F:Form) (k:Nat) (l:List Val):List Bool:=(List.range F.l.length).map (truthK F k (fillM F.l.length l))
def gateL:List Bool->List Bool->Bool
 | a::x,b::y=>(!a || b)&&gateL x y
 | _,_=>true
theorem Zry (F:Form):∀ (o:List Int) (l:List Val),(stepsM F o l).length=l.length
 | [],_=>rfl
 | i::r,l=>by rw [stepsM,Zry F r,List.length_set]
theorem Zrz (F:Form) (l:List Val):(valuesM F l).length=F.l.length:=by unfold valuesM; rw [Zry,Zrh]
def FineF (F:Form):Prop:=∀ k i e,exM F k i=some e->Fine e
theorem ZrA {l:List Fd} {F:Form} (h:newM l = .ok F):FineF F:=by
 obtain ⟨-,-,hr,-⟩:=Zjn h;intro k i e he;unfold exM at he;cases hi:F.es[i]? with
 | none=>rw [hi] at he; cases he
 | some y =>
  rw [hi] at he;have hlen:=Zf8 l 0 _ hr;have hil:=(Yag.1 hi).1;obtain ⟨f,hf⟩:∃ f,l[i]?=some f:=⟨_,Yad (by omega)⟩;obtain ⟨h1,h2,h3⟩:=Zgb (Zf9 l 0 _ hr i f y hf hi);simp only at he;split at he
  . exact (Zjt (e:=e) (by rw [h1,he])).1
  split at he
  . exact (Zjt (e:=e) (by rw [h2,he])).1
  . exact (Zjt (e:=e) (by rw [h3,he])).1
theorem ZrB {l:List Fd} {F:Form} (h:newM l = .ok F):∀ x∈F.order,0<=x/\x<(F.l.length:Int)/\hasF F.es x=true:=by obtain ⟨h0,h1,h2,h3,h4,h5,h6⟩:=Zjn h;obtain ⟨g1,g2⟩:=Zjp (by omega) h5;have O:=Graph.ord_st l.length F.needs l.length;rw [g1] at h6;intro x hx;rw [h6] at hx;obtain ⟨a,b⟩:=List.mem_filter.1 hx;rw [h3];exact ⟨(O.mem x a).1,(O.mem x a).2.1,b⟩
theorem ZrC {F:Form} {i:Nat} (h:hasF F.es i=true):∃ e,exM F 0 i=some e:=by
 unfold hasF at h;unfold exM;rw [Int.toNat_natCast,Yau] at h;cases hi:F.es[i]? with
 | none=>rw [hi] at h; cases h
 | some x =>
  rw [hi] at h;simp only [Option.getD_some] at h;cases hx:x.1 with
  | none=>rw [hx] at h; cases h
  | some e=>exact ⟨e,by simp [hx]⟩
structure Paper (F:Form):Prop where
 one:1<=F.l.length
 most:F.l.length<=24
 eslen:F.es.length=F.l.length
 thin:ThinF F
 fine:FineF F
 nd:∀ i,i<F.l.length->∃ nd,F.needs[i]?=some nd
 order:∀ x∈F.order,0<=x/\x<(F.l.length:Int)/\hasF F.es x=true
theorem ZrD {l:List Fd} {F:Form} (h:newM l = .ok F):Paper F:=by obtain ⟨h0,h1,h2,h3,-⟩:=Zjn h;exact ⟨by rw [h3]; omega,by rw [h3]; omega,by rw [h3]; exact (Zjo h).1,Zrv h,ZrA h,fun i hi=>⟨_,Yad (by rw [(Zjo h).2,<-h3]; exact hi)⟩,ZrB h⟩
theorem ZrE {e:Ex} {ns:List Bs} {l:List Val} (hF:Fine e) (hl:VFine l):VOk (evalM e ns l):=by
 unfold evalM;split
 . exact Zex (fun s=>look_ok ns l s (fun v hv=>(hl v hv).1)) e (Zel hF (by assumption))
 . exact .nil
theorem ZrF {v:Val} (h:VOk v):(-9223372036854775808<=v.n/\v.n<=9223372036854775807)/\v.s.length<=9223372036854775806:=by
 cases h with
 | nil=>exact ⟨by decide,by decide⟩
 | int n h=>exact ⟨h,by simp [vInt]⟩
 | bool b=>cases b<;>exact ⟨by decide,by decide⟩
 | text s h=>exact ⟨by simp [vText],by have:=(Zej h).1; simp only [vText]; omega⟩
 | bad n h=>exact ⟨by simp only [vBad]; omega,by simp [vBad]⟩
theorem ZrG {l:List Val} {v:Val} {i:Nat} (h:VFine l) (hv:VOk v):VFine (l.set i v):=by
 intro x hx;rcases List.mem_or_eq_of_mem_set hx with hx|rfl
 . exact h x hx
 . exact ZrF hv
theorem ZrK (F:Form) {i:Nat}:∀ (o:List Int) (l:List Val),(∀ x∈o,x.toNat≠i)->(stepsM F o l)[i]?=l[i]?
 | [],_,_=>rfl
 | x::r,l,h=>by
  rw [stepsM,ZrK F r _ (fun y hy=>h y (List.mem_cons_of_mem _ hy)),List.getElem?_set_ne (h x (List.mem_cons_self))]
theorem ZrL {F:Form} (P:Paper F) {i:Nat} (hi:hasF F.es i=false) {l:List Val} (hl:l.length=F.l.length):(valuesM F l)[i]?=l[i]?:=by unfold valuesM;rw [Zri hl,ZrK];intro x hx hxi;have:=P.order x hx;rw [show x=(i:Int) by omega,hi] at this;cases this.2.2
def fillV (F:Form) (vals:List Val) (i:Nat):Val:=if hasF F.es (i:Int)=true then vNil else match vals[i]?,F.l[i]? with|some v,some f=>if fitsV v f.t=true then v else vNil|_,_=>vNil
def fillTo (F:Form) (vals:List Val) (i:Nat):List Val:=(List.range i).map (fillV F vals)++List.replicate (F.l.length - i) vNil
def filledM (F:Form) (vals:List Val):List Val:=(List.range F.l.length).map (fillV F vals)
theorem ZrM {F:Form} {vals:List Val} {i:Nat} (h:i<=F.l.length):(fillTo F vals i).length=F.l.length:=by unfold fillTo; simp; omega
theorem ZrN {F:Form} {vals:List Val} {i:Nat} (h:i<F.l.length):(fillTo F vals i).set i (fillV F vals i)=fillTo F vals (i+1):=by unfold fillTo;rw [List.set_append_right _ _ (by simp),List.range_succ,Ybe,Ybf,List.length_range,Nat.sub_self,show F.l.length - i=(F.l.length - (i+1))+1 by omega,List.replicate_succ,List.set_cons_zero,List.append_assoc];rfl
theorem ZrO {F:Form} {vals:List Val} {i:Nat} (h:i<F.l.length) (e:fillV F vals i=vNil):fillTo F vals i=fillTo F vals (i+1):=by unfold fillTo;rw [List.range_succ,Ybe,show F.l.length - i=(F.l.length - (i+1))+1 by omega,List.replicate_succ,List.append_assoc];simp [e]
theorem ZrP (F:Form) (vals:List Val):fillTo F vals F.l.length=filledM F vals:=by unfold fillTo filledM; simp
theorem ZrQ (F:Form) (vals:List Val):(filledM F vals).length=F.l.length:=by unfold filledM; simp
theorem ZrR {F:Form} {vals:List Val} (hv:∀ v∈vals,I64 v.n) (i:Nat):VOk (fillV F vals i):=by
 unfold fillV;split
 . exact .nil
 . split
   . rename_i v f hx _;split
     . rename_i h;unfold fitsV at h;rw [Bool.and_eq_true] at h;exact .of h.1 (hv v (Yay hx))
     . exact .nil
   . exact .nil
theorem ZrS {F:Form} {vals:List Val} (hv:∀ v∈vals,I64 v.n):VFine (filledM F vals):=by intro v h;unfold filledM at h;obtain ⟨i,-,rfl⟩:=List.mem_map.1 h;exact ZrF (ZrR hv i)
attribute [local go_sem ↓] Go.wp_at_zero Go.wp_at_succ
theorem ZrT {b:Nat} {F:Form} (w:World) (s:SchV (gh w) b F) (h24:F.l.length<=24) (vs:List Val) (v:Value) (hV:ValsV (gh w) v vs) :
 Calls Tryz.prog 34 #[.pointer (some ⟨b,0,none⟩),v] w (ownVPost (fillM F.l.length vs) w):=by
 obtain ⟨va,vc,rfl,-⟩:=hV.form;have HLN:=Zq (ZjY w s);unfold ownVPost fillM;generalize F.l.length=n at *;have hmk:=Zrk n (by omega) w;have HOW:=Zq (Zrl n w (by omega));have HB:=Zq ((Yab w.heap.size w).alloc Zs (.cells (madeCells #[.int .i64 0,.int .i64 0,.string ⟨#[]⟩] (n*3)) 48));have HV:=Zq (hV.mono (Zah HB.out));obtain ⟨m,hm⟩:∃ m,vs.length=m:=⟨_,rfl⟩;rw [hm] at HV |-;obtain ⟨w',hcp,ho,hb⟩:=Zrm 23 23 3 Tryz.underlying23 w.heap.size w.heap.size n n va m vc (List.replicate n vNil) vs HOW.out HV.out;have HO:=Zq ho;have HB2:=Zq (HB.out.trans hb);have hn0:(0:Int)<=(n:Int):=by omega
 clear s hV hm ho hb HOW HV HB;go_in;go_wp2_with fail;refine HLN.out.mono ?_;rintro r W ⟨rfl,rfl⟩;go_wp2;go_ret;exact ⟨HB2.out,_,rfl,HO.out⟩
theorem ZrU {b:Nat} {F:Form} {w:World} (s:SchV (gh w) b F) (P:Paper F) {i:Nat} (hi:i<F.l.length):∃ x:XV,(∀ k,k<3->ovE (prj k x)=exM F k i) /\
 ∀ W,Below w.heap.size w W->Calls Tryz.prog 58 #[.pointer (some ⟨b,0,none⟩),.int .i64 i] W (exOut (outE (prj 0 x)) (prj 0 x).isSome W) /\
  Calls Tryz.prog 38 #[.pointer (some ⟨b,0,none⟩),.int .i64 i] W (exOut (outE (prj 1 x)) (prj 1 x).isSome W) /\
  Calls Tryz.prog 37 #[.pointer (some ⟨b,0,none⟩),.int .i64 i] W (exOut (outE (prj 2 x)) (prj 2 x).isSome W):=by
 obtain ⟨g,cap,mb,ov,xs,nds,p⟩:=s;obtain ⟨x,hx⟩:∃ x,xs[i]?=some x:=⟨_,Yad (by rw [p.xlen]; exact hi)⟩;have hs:∀ W,Below w.heap.size w W->SchP (gh W) b F g cap mb ov xs nds:=fun W hb=>p.mono (Zah hb);have hex:F.es[i]?=some (x3 x):=by rw [p.es,Yax,hx]; rfl
 refine ⟨x,fun k hk=>?_,fun W hb=>⟨?_,?_,?_⟩⟩
 . unfold exM;rw [hex];rcases (by omega:k=0\/k=1\/k=2) with rfl|rfl|rfl<;>rfl
 . exact (Zox (prj 0 x) i W (fun W2 hb2=>Zow (k:=0) (by decide) 0 rfl W2 (hs W2 (hb.seq hb2)) i x hx P.most (Zrw (hs W2 (hb.seq hb2)) P.thin hx (by decide)))).mono fun _ _ h=>Zrt h
 . exact (Zoy (prj 1 x) i W (fun W2 hb2=>Zow (k:=1) (by decide) 1 rfl W2 (hs W2 (hb.seq hb2)) i x hx P.most (Zrw (hs W2 (hb.seq hb2)) P.thin hx (by decide)))).mono fun _ _ h=>Zrt h
 . exact (Zoz (prj 2 x) i W (fun W2 hb2=>Zow (k:=2) (by decide) 2 rfl W2 (hs W2 (hb.seq hb2)) i x hx P.most (Zrw (hs W2 (hb.seq hb2)) P.thin hx (by decide)))).mono fun _ _ h=>Zrt h
theorem ZrV {o:OV} {e:Ex} (h:ovE o=some e):outE o=e/\o.isSome=true:=by
 cases o with
 | none=>cases h
 | some y=>cases h; exact ⟨rfl,rfl⟩
theorem ZrW {o:OV} (h:ovE o=none):o.isSome=false:=by
 cases o with
 | none=>rfl
 | some y=>cases h
theorem ZrX {b:Nat} {F:Form} (w:World) (s:SchV (gh w) b F) (P:Paper F) (hL:Lay (gh w)) {i:Nat} (hi:i<F.l.length) {e:Ex} (he:exM F 0 i=some e) (vs:List Val) (v:Value) (hV:ValsV (gh w) v vs) (hF:VFine vs) :
 Calls Tryz.prog 35 #[.pointer (some ⟨b,0,none⟩),.int .i64 i,v] w (valPost (evalM e (Fd.names F.l) vs) w):=by
 obtain ⟨va,vc,rfl,-⟩:=hV.form;obtain ⟨x,hx,hfo⟩:=ZrU s P hi;obtain ⟨h1,h2⟩:=ZrV ((hx 0 (by decide)).trans he);have HFO:=Zq (fun W hb=>(hfo W hb).1);rw [h1,h2] at HFO;unfold exOut at HFO;have HNM:=Zq (fun W (hb:Below w.heap.size w W)=>ZoJ W (s.mono (Zah hb)) P.most P.nd);have HEV:=Zq (fun W a c nv (hb:Below w.heap.size w W) (hK:KV (gh W) (.slice a e.ks.length c) e.ks) (hN:StrsV (gh W) nv (Fd.names F.l))=>Zqu e (Fd.names F.l) vs _ nv _ W (P.fine 0 i e he) hF (hL.below hb) ⟨_,rfl,hK⟩ hN (hV.mono (Zah hb)));unfold textsPost at HNM;unfold valPost exV strV at HEV;unfold valPost;generalize evalM e (Fd.names F.l) vs=y at *;generalize Fd.names F.l=ns at *;generalize vs.length=vl at *;have K0:=Zq ((Kept.start w).new (.cells #[.int .i64 0,.int .i64 0,.string ⟨#[]⟩] 48));clear s P hL hi he hV hF hx hfo h1 h2;go_in;go_upto_region 1 with fail;generalize w.alloc (.cells #[.int .i64 0,.int .i64 0,.string ⟨#[]⟩] 48)=W0 at *;go_wp2_with fail;refine (HFO.out _ K0.out.below).mono ?_;rintro r W1 ⟨hb1,ea,ec,rfl,hk1⟩;have K1:=Zq ((K0.out.call hb1).new (cEx e.op e.n e.s (.slice ea e.ks.length ec)));have HK1:=Zq (hk1.keep ((Yab W1.heap.size W1).alloc Zs (cEx e.op e.n e.s (.slice ea e.ks.length ec))));have hlt:=(K0.out.call hb1).lt;clear hb1 hk1 HFO K0;go_upto_region 2 with fail;generalize W1.alloc (cEx e.op e.n e.s (.slice ea e.ks.length ec))=W2 at *;generalize W1.heap.size=be at *;have hne:be≠w.heap.size:=by omega
 have hne2:w.heap.size≠be:=by omega
 clear hlt;have KK:=Zq K1.out.drew;have HK:=Zq (HK1.out.keep (Yab W2.heap.size W2).drew);obtain ⟨⟨g0,g1,g2,g3⟩,-⟩:=ZdP KK.out.at0;clear K1 HK1;go_region_held3 (fun w'=>(w'.cell? ⟨be,0,none⟩=some (.int .i64 e.op)/\w'.cell? ⟨be,1,none⟩=some (.int .i64 e.n)/\w'.cell? ⟨be,2,none⟩=some (.string ⟨e.s.toArray⟩)/\w'.cell? ⟨be,3,none⟩=some (.slice ea e.ks.length ec))) (go_keep)
  ((first
   | (go_at_call 60; refine (HNM.out _ KK.out.below).mono ?_; rintro r W3 ⟨hb,v3,rfl,hs3⟩; obtain ⟨sa,sc,rfl⟩:=hs3.form; have HK:=Zq (HK.out.keep hb); have KK:=Zq (KK.out.call hb); have HS:=Zq hs3; have hg:=(ZdP KK.out.at0).1; obtain ⟨g0,g1,g2,g3⟩:=hg; clear hb hs3)
   | (go_at_call 59; refine (HEV.out _ _ _ _ KK.out.below HK.out HS.out).mono ?_; rintro r W4 ⟨rfl,hb⟩; have KK:=Zq (KK.out.call hb); have hg:=(ZdP KK.out.at0).1; obtain ⟨g0,g1,g2,g3⟩:=hg; obtain ⟨⟨x0,x1,x2⟩,f0,f1,f2⟩:=ZeG KK.out.tail.at0; clear hb; unfold valV strV)))
 all_goals go_wp2;(try rw [Yae]);have hh:=ZeG (ZeH KK.out.tail.at0 (.int .i64 y.k) (.int .i64 y.n) (.string ⟨y.s.toArray⟩));refine Yaf (v:=valV y) (by simp [results,Tryz.results35,go_sem,valV,strV,hh.1]) rfl ⟨rfl,ZeJ KK.out.below Zs _ _ _⟩
theorem ZrY {b:Nat} {F:Form} (w:World) (s:SchV (gh w) b F):Calls Tryz.prog 20 #[.pointer (some ⟨b,0,none⟩)] w fun r W=>∃ v,r = .returned v/\W.ownsRow w.heap.size 3 1 v F.order.length (F.order.map (Value.int .i64))/\Below w.heap.size w W:=by obtain ⟨g,cap,mb,ov,xs,nds,p⟩:=s;obtain ⟨b0,b1,b2⟩:=ZjW (h:=gh w) p;obtain ⟨oa,oc,rfl,hol⟩:=Zd0 p.order;have HLI:=Zq (ZjT (gh w) (.slice oa F.order.length oc) F.order w (GH.le.refl _) p.order);clear p;go_in;go_wp2_with fail;refine HLI.out.mono ?_;rintro r W ⟨v,rfl,h1,h2⟩;go_wp2;go_ret;exact ⟨_,rfl,h1,h2⟩
theorem ZrZ {w:World} {B g:Nat} {e:TypeId} {v:Value} {xs:List Int} (h:w.ownsRow B e 1 v xs.length (xs.map (Value.int .i64))) (hg:g<B) (hl:xs.length<=17592186044416):IntsV (gb g w) v xs:=by
 obtain ⟨a,cap,hv,hn,h1,hc⟩:=IntsV.ofOwn h hl;refine ⟨a,cap,hv,hn,h1,fun j x hx=>?_⟩;obtain ⟨b,off,ha,hcell⟩:=hc j x hx;have hlt:=(h.lt b (by rw [hv,ha]; rfl)).1;refine ⟨b,off,ha,?_⟩;have hne:b≠g:=by omega
 unfold GH.cell gb at *;rw [if_neg hne];exact hcell
theorem IntsV.atB {w:World} {g n cap:Nat} {a:Option Addr} {xs:List Int} (h:IntsV (gb g w) (.slice a n cap) xs) {j:Nat} {x:Int} (hj:xs[j]?=some x):∃ b off,a=some ⟨b,off,none⟩/\w.cell? ⟨b,off+j,none⟩=some (.int .i64 x):=by obtain ⟨a',cap',hv,-,-,hc⟩:=h.mono (Zdu g w);simp only [Yaq] at hv;obtain ⟨rfl,-,-⟩:=hv;obtain ⟨b,off,ha,hcell⟩:=hc j x hj;rw [Zad] at hcell;exact ⟨b,off,ha,hcell⟩
theorem OwnV.base {n0 n1:Nat} {W:World} {v:Value} {l:List Val} (h:OwnV n0 W v l) (hn:n1<=n0):OwnV n1 W v l:=by
 obtain ⟨hl,hh⟩:=h;refine ⟨hl,?_⟩;rcases hh with h|⟨g,cap,cur,hv,hge,hr⟩
 . exact .inl h
 . exact .inr ⟨g,cap,cur,hv,by omega,hr⟩
theorem OwnV.lt {n0:Nat} {W:World} {l:List Val} {g n cap:Nat} (h:OwnV n0 W (.slice (some ⟨g,0,none⟩) n cap) l):g<W.heap.size:=by
 obtain ⟨-,hh⟩:=h;rcases hh with ⟨h0,-⟩|⟨g',c',cur,hv,-,hg,-⟩
 . cases h0
 . simp only [Yaq,Yai,Ybd,and_true,true_and] at hv;rw [hv.1]; exact (Yaa.1 hg).1
theorem Zr0 {b:Nat} {F:Form} (w:World) (s:SchV (gh w) b F) (P:Paper F) (hL:Lay (gh w)) (vs:List Val) (vv nv:Value) (cl:Bool) (hV:ValsV (gh w) vv vs) (hF:VFine vs) (hol:F.order.length<=24) :
 Calls Tryz.prog 9 #[.pointer (some ⟨b,0,none⟩),.agg #[vv,nv,.bool cl]] w (ownVPost (valuesM F vs) w):=by
 have K0:=Zq ((Kept.start w).new (.cells #[vv,nv,.bool cl] 32));have HV:=Zq (hV.mono (Zah K0.out.below));have HS:=Zq (fun W (hb:Below w.heap.size w W)=>s.mono (Zah hb));have HFU:=Zq (ZrT _ (HS.out _ K0.out.below) P.most vs vv HV.out);have HWK:=Zq (fun (i:Nat) (hi:i<F.l.length) e (he:exM F 0 i=some e) c v W (hb:Below w.heap.size w W) (hv:ValsV (gh W) v c) (hf:VFine c)=>ZrX W (HS.out W hb) P (hL.below hb) hi he c v hv hf);have HP:=Zq P;have HFF:Hid (VFine (fillM F.l.length vs)):=Zq (Zrj hF);have HFL:Hid ((fillM F.l.length vs).length=F.l.length):=Zq (Zrh _ _);have HR:Hid (stepsM F F.order (fillM F.l.length vs)=valuesM F vs):=Zq rfl;have HOR:=Zq (fun W hb=>ZrY W (HS.out W hb));obtain ⟨va,vc,rfl,-⟩:=hV.form;generalize fillM F.l.length vs=c0 at *;generalize valuesM F vs=R at *;obtain ⟨ol,hoe⟩:∃ n,F.order.length=n:=⟨_,rfl⟩;rw [hoe] at HOR hol;have HOL:=Zq hoe;generalize vs.length=m at *;unfold ownVPost at HFU |-;unfold valPost at HWK;clear s P hL hV hF HV hoe;obtain ⟨k0,k1,k2⟩:=(ZeG K0.out.at0).1;go_in;go_wp2_with fail;refine HFU.out.mono ?_;clear HFU k0 k1 k2;generalize w.alloc (.cells #[.slice va m vc,nv,.bool cl] 32)=W0 at *;rintro r W1 ⟨hb1,lv,rfl,ho⟩;have HB1:=Zq (K0.out.below.seq hb1);have hn0:=HP.out.one;have hfl:=HFL.out;obtain ⟨g,lc,hlv,hgw,-⟩:=ho.spot (i:=0) (by omega);rw [hlv] at ho |-;have hgl:=ho.lt;have HOW:=Zq (ho.base K0.out.below.size);have hgw2:w.heap.size<=g:=by have:=K0.out.below.size; omega
 have HOR1:=Zq (HOR.out _ HB1.out);clear hb1 ho hlv hn0 HOR hgw K0 hfl;go_wp2_with fail;refine HOR1.out.mono ?_;rintro r W2 ⟨ov,rfl,hov,hb2⟩;have HO2:=Zq (HOW.out.keep hb2);have HB2:=Zq (HB1.out.seq hb2);rw [<-HOL.out] at hov;have HI2:=Zq (ZrZ hov hgl (by rw [HOL.out]; omega));obtain ⟨oa,oc,rfl,-⟩:=Zd0 (IntsV.ofOwn hov (by rw [HOL.out]; omega));rw [HOL.out] at HI2 |-;clear hb2 hov HOR1 HOW hgl HB1;go_wp2_with fail;go_loopg [15] ol (fun gk i wr=>∃ (k:Nat) (c:List Val),i = .int .i64 k/\k+gk=ol/\Hid (OwnV w.heap.size wr (.slice (some ⟨g,0,none⟩) c0.length lc) c)/\Hid (But g W2 wr)/\Hid (VFine c)/\Hid (c.length=c0.length)/\Hid (stepsM F (F.order.drop k) c=R));case atStart=>exact ⟨0,c0,rfl,by omega,HO2,Zq (But.refl _ _),HFF,Zq rfl,Zq HR.out⟩
 case round =>
  obtain ⟨k,c,rfl,hg,HO,HBt,HCF,HCL,HST⟩:=hrel;clear HO2 HFF HR;have HBW:=Zq (HB2.out.trans (HBt.out.toBelow' hgw2 HB2.out.size));by_cases hlt:k<ol
  . obtain ⟨z,hz⟩:∃ z,F.order[k]?=some z:=⟨_,Yad (by rw [HOL.out]; exact hlt)⟩;obtain ⟨z0,z1,z2⟩:=HP.out.order z (Yay hz);obtain ⟨zn,rfl⟩:∃ zn:Nat,z=zn:=⟨z.toNat,by omega⟩;obtain ⟨e,he⟩:=ZrC z2;obtain ⟨ob,oo,rfl,hoc⟩:=IntsV.atB (HI2.out.mono HBt.out.gb) hz;have hW:=HWK.out zn (by omega) e he c _ _ HBW.out HO.out.toV HCF.out;have HWX:=Zq hW;have hcl:=HCL.out;have hfl2:=HFL.out;obtain ⟨g',lc',hv,-,-,-,⟨x0,h0⟩,⟨x1,h1⟩,⟨x2,h2⟩,f0,f1,f2⟩:=HO.out.spot (i:=zn) (by omega);simp only [Yaq,Yai,Ybd,and_true,true_and] at hv;obtain ⟨rfl,-,-⟩:=hv;have hd:F.order.drop k=(zn:Int)::F.order.drop (k+1):=(by have hk:k<F.order.length:=(by rw [HOL.out]; exact hlt);have:F.order[k]=(zn:Int):=(Yag.1 hz).2;rw [<-this]; exact Yas hk);have HNX:Hid (stepsM F (F.order.drop (k+1)) (c.set zn (evalM e (Fd.names F.l) c))=R):=Zq (by rw [<-HST.out,hd,stepsM,Int.toNat_natCast];unfold workM;rw [he]);have HVY:=Zq (ZrG (i:=zn) HCF.out (ZrE (ns:=Fd.names F.l) (HP.out.fine 0 zn e he) HCF.out));have hzl:zn<c0.length:=(by omega);obtain ⟨gn,rfl⟩:∃ gn,gk=gn+1:=⟨gk - 1,by omega⟩;clear hW hd hz z0 z1 z2 he hcl hfl2 h0 h1 h2 f0 f1 f2 HWK HST;generalize evalM e (Fd.names F.l) c=y at *;go_wp2_with fail;refine HWX.out.mono ?_;rintro r W5 ⟨rfl,hb5⟩;have HO5:=Zq (HO.out.keep hb5);have HBt5:=Zq (HBt.out.call hb5);have hcl:=HCL.out;obtain ⟨g',lc',hv,-,-,-,⟨x0,h0⟩,⟨x1,h1⟩,⟨x2,h2⟩,f0,f1,f2⟩:=HO5.out.spot (i:=zn) (by omega);simp only [Yaq,Yai,Ybd,and_true,true_and] at hv;obtain ⟨rfl,-,-⟩:=hv;clear hb5 HO HBt HWX hoc hcl;unfold valV strV;go_wp2;go_roundg gn;(case rel=>exact ⟨k+1,c.set zn y,by go_num,by omega,Zq (HO5.out.put (by have:=HCL.out; omega) y),Zq (((HBt5.out.setPb _ _).setPb _ _).setPb _ _),HVY,Zq (by rw [List.length_set]; exact HCL.out),HNX⟩);case measure=>omega
  . have hk:k=ol:=(by omega);subst hk;have HE:Hid (c=R):=Zq (by have:=HST.out; rw [<-HOL.out,List.drop_length] at this; exact this);clear HST HWK;go_wp2;go_ret;exact ⟨HBW.out,_,rfl,by have:=HO.out; rw [HE.out] at this; exact this⟩
end Go.Proofs.YtikannmgllejfaaGreatDoor
