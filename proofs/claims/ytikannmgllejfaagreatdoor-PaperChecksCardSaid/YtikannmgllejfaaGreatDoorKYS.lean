/- Walks. -/
import Derived.Test.YtikannmgllejfaaGreatDoorKR4
import Derived.ChangeArms
import Derived.Test.YtikannmgllejfaaGreatDoorKYK
import Derived.BigQuiet
set_option maxRecDepth 1000000
set_option linter.all false
set_option maxHeartbeats 8000000
namespace Go.Proofs.YtikannmgllejfaaGreatDoor
open Go Go.RowKit Go.ChangeShapes Go.WideShapes Go.ChangeAt Pal
structure Stt where
 vs:List Val
 ns:List Int
 cl:Bool
structure SttV (W:World) (v:Value) (x:Stt):Prop where
 form:∃ vv nv,v = .agg #[vv,nv,.bool x.cl]/\ValsV (gh W) vv x.vs/\NumsV (gh W) nv x.ns/\NilV vv
 vals:∀ v∈x.vs,I64 v.k/\I64 v.n/\v.s.length<=9223372036854775807
 nums:∀ n∈x.ns,I64 n
theorem ZsZ {H:Type} {enc:TypeId × Value->H} {W:World} {r:Go.Reach} {b0:Nat} {v:Value} {d:DataW H} {ps:List MemPlace} (hval:Value.okWide Tryz.prog W r b0 32 v) (h:DataW.Trod enc Tryz.prog W 0 (fun _=>true) true 32 v d ps) :
 ∃ x:Stt,SttV W v x:=by
 obtain ⟨cs,rfl,_⟩:=okWide_struct Tryz.underlying32 hval;obtain ⟨fuel,hf⟩:=h;obtain ⟨xs,m,_,_,hl,hsz,hg⟩:=DataW.trod_struct Tryz.underlying32 hf;rw [show Tryz.prog.cellsOf 32=3 by kernel_rfl] at hl;obtain ⟨a,b,c,hx⟩:=len3 hl;rw [hx] at hg;have z:xs.length=3:=hsz;have h0:DataW.trod enc Tryz.prog W 0 (fun _=>true) true m 23 (([a,b,c].drop 0).take (Tryz.prog.cellsOf 23))=xs[0]?:=hg 0 _ rfl;have h1:DataW.trod enc Tryz.prog W 0 (fun _=>true) true m 30 (([a,b,c].drop 1).take (Tryz.prog.cellsOf 30))=xs[1]?:=hg 1 _ rfl;have h2:DataW.trod enc Tryz.prog W 0 (fun _=>true) true m 4 (([a,b,c].drop 2).take (Tryz.prog.cellsOf 4))=xs[2]?:=hg 2 _ rfl;rw [Yad (by omega)] at h0 h1 h2;rw [show Tryz.prog.cellsOf 23=1 by kernel_rfl] at h0;rw [show Tryz.prog.cellsOf 30=1 by kernel_rfl] at h1;rw [show Tryz.prog.cellsOf 4=1 by kernel_rfl] at h2;obtain ⟨vv,vs,e0,hV,hvs⟩:=Zm7 h0;obtain ⟨nv,ns,e1,hN,hns⟩:=ZsH h1;obtain ⟨cl,e2,_⟩:=DataW.trod_bool Tryz.underlying4 h2;simp at e0 e1 e2;subst e0 e1 e2;refine ⟨⟨vs,ns,cl⟩,⟨⟨a,b,?_,hV,hN,?_⟩,hvs,hns⟩⟩
 . simp [Value.cells] at hx;congr 1;exact Array.ext' (by simpa using hx)
 . obtain ⟨av,cv,rfl,-⟩:=hV.form;exact Znb Tryz.underlying23 (c:=3) (by kernel_rfl) (by decide) ⟨m,h0⟩
end Go.Proofs.YtikannmgllejfaaGreatDoor

namespace Go.Proofs.YtikannmgllejfaaGreatDoor
open Go.RowKit Pal
attribute [local go_sem ↓] Go.wp_at_zero Go.wp_at_succ
section
variable {P : Program} {l rest : List Oper} {Q : Exit -> Act -> World -> Prop} {md : Region.Mode} {S : World -> Prop} {oi : Oper} {v : Value} {n fuel i id : Nat} {ord : List Nat} {a : Act} {w : World}
theorem Zs0 {k:Nat} (h:l.drop k=oi::rest):l.toArray[k]?=some oi:=by have e:=congrArg (fun x=>x[0]?) h;simpa using e
def lsr (n:Nat) (ord:List Nat):Array Bool:=((List.range n).map fun j=>!ord.contains j).toArray
theorem Zs1 (h:ord.contains i=false):(lsr n (i::ord)).setIfInBounds i true=lsr n ord:=by
 unfold lsr;rw [List.setIfInBounds_toArray];congr 1;refine List.ext_getElem? fun j=>?_;by_cases hj:j=i
 . subst hj;by_cases hn:j<n
   . simp [List.getElem?_set,hn,h];simpa using h
   . simp [List.getElem?_set,hn]
 . rw [List.getElem?_set_ne (fun e=>hj e.symm)];by_cases hn:j<n
   . simp [hn,hj]
   . simp [hn]
theorem regO (hn:l.length=n) (ho:lsr n ord=Array.replicate n false) (hm:P.follows .mixedOrders=true) (hS:S w.drew) (h:S w.drew->wpAnyH P .any l.toArray Q S n (lsr n ord) a w.drew):(Code.region id l.toArray true).wp P Q a w:=by refine wp_region_held_drew hm hS fun h'=>?_;rw [show l.toArray.size=n by simpa using hn,<-ho];exact h h'
theorem Zs2 (hi:l.drop i=oi::rest) (ho:ord.contains i=false) (hs:Region.noSelect l.toArray=true) (hf:Region.free md l.toArray (lsr n (i::ord)) i=true) (hr:(Region.ready md l.toArray (lsr n (i::ord))).contains i=true)
 (hQ:∀ c a w,Q (.panic c) (a.put oi.dst v) w->Q (.panic c) a w) (hw:Region.wanted oi (yielded l.toArray a.tmps)=true) (hy:∀ w,S w->(execOp a.eval oi).run P w = .ok (.value v) w) (hS:S w)
 (h:wpAnyH P md l.toArray Q S fuel (lsr n ord) (a.put oi.dst v) w):wpAnyH P md l.toArray Q S (fuel+1) (lsr n (i::ord)) a w :=
 wpAnyH_take (Zs0 hi) hs hf hr hQ (.inl ⟨hw,hy⟩) hS (by rw [Zs1 ho]; exact h)
theorem offO (hi:l.drop i=oi::rest) (ho:ord.contains i=false) (hs:Region.noSelect l.toArray=true) (hf:Region.free md l.toArray (lsr n (i::ord)) i=true) (hr:(Region.ready md l.toArray (lsr n (i::ord))).contains i=true)
 (hQ:∀ c a w,Q (.panic c) (a.put oi.dst undef) w->Q (.panic c) a w) (hw:Region.wanted oi (yielded l.toArray a.tmps)=false) (hS:S w)
 (h:wpAnyH P md l.toArray Q S fuel (lsr n ord) (a.put oi.dst undef) w):wpAnyH P md l.toArray Q S (fuel+1) (lsr n (i::ord)) a w :=
 wpAnyH_take (Zs0 hi) hs hf hr hQ (.inr ⟨hw,rfl⟩) hS (by rw [Zs1 ho]; exact h)
theorem Zs3 (hi:l.drop i=oi::rest) (ho:ord.contains i=false) (hr:Region.ready md l.toArray (lsr n (i::ord))=[i]) (hw:Region.wanted oi (yielded l.toArray a.tmps)=true)
 (h:∀ K':Act->World->Prop,Shut (∀ a w,S w->(S w->wpAnyH P md l.toArray Q S fuel (lsr n ord) a w)->K' a w)->Oper.wp P oi a w K' Q):wpAnyH P md l.toArray Q S (fuel+1) (lsr n (i::ord)) a w:=by refine wpAnyH_ready hr (by simp) (AllReadyH.cons (Zs0 hi) (fun K' hK=>?_) AllReadyH.nil);rw [if_pos hw];rw [Zs1 ho] at hK;exact h K' hK
theorem Zs4 (hr:Region.ready md l.toArray (lsr n [])=[]) (h:Q .normal a w):wpAnyH P md l.toArray Q S 0 (lsr n []) a w:=wpAnyH_done hr h _
end
theorem Zs5 (F:Form):∀ k i,i+k<=F.l.length->chkM F (List.replicate F.l.length vNil) (List.replicate F.l.length 0) k i=true
 | 0,_,_=>rfl
 | k+1,i,h=>by
  have e1:(List.replicate F.l.length vNil).getD i vNil=vNil:=by rw [Yau,List.getElem?_replicate,if_pos (by omega)]; rfl
  have e2:(List.replicate F.l.length (0:Int)).getD i 0=0:=by rw [Yau,List.getElem?_replicate,if_pos (by omega)]; rfl
  have e3:∀ t,fitsV vNil t=true:=fun t=>by unfold fitsV; simp [vNil,okV]
  have e:checkI F (List.replicate F.l.length vNil) (List.replicate F.l.length 0) i=true:=by
   unfold checkI
   rw [e1,e2,e3]
   simp [vNil]
  unfold chkM
  rw [e,Zs5 F k (i+1) (by omega)]
  rfl
theorem Zs6 (F:Form):checkM F (List.replicate F.l.length vNil) (List.replicate F.l.length 0)=true:=Zs5 F _ _ (by omega)
def checkS (F:Form) (vs:List Val) (ns:List Int):Bool:=decide (vs.length=F.l.length)&&(decide (ns.length=F.l.length)&&checkM F vs ns)
theorem Zs7 {b:Nat} {F:Form} (w:World) (s:SchV (gh w) b F) (P:Paper F) (va na:Option Addr) (m1 m2 vc nc:Nat) (cl:Bool) (hm1:m1<=100) (hm2:m2<=100) (hne:m1≠F.l.length\/m2≠F.l.length) :
 Calls Tryz.prog 23 #[.pointer (some ⟨b,0,none⟩),.agg #[.slice va m1 vc,.slice na m2 nc,.bool cl]] w fun r W=>r = .returned (.bool false)/\Below w.heap.size w W:=by
 have K0:=Zq ((Kept.start w).new (.cells #[.slice va m1 vc,.slice na m2 nc,.bool cl] 32));have HLN:=Zq (fun W (hb:Below w.heap.size w W)=>ZjY W (s.mono (Zah hb)));have h24:=P.most;generalize F.l.length=n at *;clear s P;obtain ⟨k0,k1,k2⟩:=(ZeG K0.out.at0).1;by_cases h1:m1=n
 . have h2:m2≠n:=(by omega);subst h1;have q1:((m1:Int) != (m1:Int))=false:=(by simp);have q2:((m2:Int) != (m1:Int))=true:=(by simpa using fun h=>h2 (by omega));clear hne h2;go_in;go_upto_region 1 with fail;generalize w.alloc (.cells #[.slice va m1 vc,.slice na m2 nc,.bool cl] 32)=W0 at *;have HLQ:=Zq (fun q=>(HLN.out (W0.drewN q) (Pal.Ybb K0.out.below q)).mono (R':=fun e w'=>e = .returned (.int .i64 m1)/\w'=W0.drewN q) fun _ _ h=>⟨h.1,h.2.symm⟩);go_quiet ((go_at_call 43; exact Calls.quiet_of_same (HLQ.out _)));go_wp2;go_ret;exact ⟨rfl,Pal.Ybb K0.out.below _⟩
 . have q1:((m1:Int) != (n:Int))=true:=(by simpa using fun h=>h1 (by omega));clear hne h1;go_in;go_upto_region 1 with fail;generalize w.alloc (.cells #[.slice va m1 vc,.slice na m2 nc,.bool cl] 32)=W0 at *;have HLQ:=Zq (fun q=>(HLN.out (W0.drewN q) (Pal.Ybb K0.out.below q)).mono (R':=fun e w'=>e = .returned (.int .i64 n)/\w'=W0.drewN q) fun _ _ h=>⟨h.1,h.2.symm⟩);go_quiet ((go_at_call 43; exact Calls.quiet_of_same (HLQ.out _)));go_wp2;go_ret;exact ⟨rfl,Pal.Ybb K0.out.below _⟩
theorem Zs8 {b:Nat} {F:Form} (w:World) (s:SchV (gh w) b F) (P:Paper F) (hL:Lay (gh w)) (vs:List Val) (ns:List Int) (vv nv:Value) (cl:Bool) (hV:ValsV (gh w) vv vs) (hN:IntsV (gh w) nv ns) (hv:∀ x∈vs,x.s.length<=9223372036854775807) (hl:vs.length<=100) (hl2:ns.length<=100) :
 Calls Tryz.prog 23 #[.pointer (some ⟨b,0,none⟩),.agg #[vv,nv,.bool cl]] w fun r W=>r = .returned (.bool (checkS F vs ns))/\Below w.heap.size w W:=by
 by_cases h:vs.length=F.l.length/\ns.length=F.l.length
 . have e:checkS F vs ns=checkM F vs ns:=(by unfold checkS; rw [Yam h.1,Yam h.2]; rfl);rw [e];exact Zst w s P hL vs ns vv nv cl hV hN hv h.1 h.2
 . have e:checkS F vs ns=false:=by
    unfold checkS;by_cases h1:vs.length=F.l.length
    . rw [Yaj (fun h2=>h ⟨h1,h2⟩)]; simp
    . rw [Yaj h1]; rfl
   rw [e];obtain ⟨va,vc,rfl,-⟩:=hV.form;obtain ⟨na,nc,rfl,-⟩:=Zd0 hN;exact Zs7 w s P va na _ _ vc nc cl hl hl2 (by omega)
theorem Zs9 {b:Nat} {F:Form} (w:World) (r:RefV (gh w) b F) (P:Paper F) (va na:Option Addr) (m1 m2 vc nc:Nat) (cl:Bool) (hm1:m1<=100) (hm2:m2<=100) (hne:m1≠F.l.length\/m2≠F.l.length) :
 Calls Tryz.prog 24 #[.pointer (some ⟨b,0,none⟩),.agg #[.slice va m1 vc,.slice na m2 nc,.bool cl]] w fun r W=>r = .returned (.bool false)/\Below w.heap.size w W:=by
 have K0:=Zq ((Kept.start w).new (.cells #[.slice va m1 vc,.slice na m2 nc,.bool cl] 32));obtain ⟨la,lc,c0⟩:=Zsz (r.mono (Zah K0.out.below));have h24:=P.most;generalize F.l.length=n at *;clear r P;obtain ⟨k0,k1,k2⟩:=(ZeG K0.out.at0).1;by_cases h1:m1=n
 . have h2:m2≠n:=(by omega);subst h1;have q1:((m1:Int) != (m1:Int))=false:=(by simp);have q2:((m2:Int) != (m1:Int))=true:=(by simpa using fun h=>h2 (by omega));clear hne h2;go_in;go_upto_region 1 with fail;generalize w.alloc (.cells #[.slice va m1 vc,.slice na m2 nc,.bool cl] 32)=W0 at *;go_quiet (fail);go_wp2;go_ret;exact ⟨rfl,Pal.Ybb K0.out.below _⟩
 . have q1:((m1:Int) != (n:Int))=true:=(by simpa using fun h=>h1 (by omega));clear hne h1;go_in;go_upto_region 1 with fail;generalize w.alloc (.cells #[.slice va m1 vc,.slice na m2 nc,.bool cl] 32)=W0 at *;go_quiet (fail);go_wp2;go_ret;exact ⟨rfl,Pal.Ybb K0.out.below _⟩
theorem Zta {b:Nat} {F:Form} (w:World) (r:RefV (gh w) b F) (P:Paper F) (vs:List Val) (ns:List Int) (vv nv:Value) (cl:Bool) (hV:ValsV (gh w) vv vs) (hN:IntsV (gh w) nv ns) (hv:∀ x∈vs,x.s.length<=9223372036854775807) (hl:vs.length=F.l.length) (hl2:ns.length=F.l.length) :
 Calls Tryz.prog 24 #[.pointer (some ⟨b,0,none⟩),.agg #[vv,nv,.bool cl]] w fun r W=>r = .returned (.bool (checkM F vs ns))/\Below w.heap.size w W:=by
 have K0:=Zq ((Kept.start w).new (.cells #[vv,nv,.bool cl] 32));have HR0:=Zq (fun W (hb:Below w.heap.size w W)=>r.mono (Zah hb));have HV:=Zq (fun W (hb:Below w.heap.size w W)=>hV.mono (Zah hb));have HI:=Zq (fun W (hb:Below w.heap.size w W)=>hN.mono (Zah hb));have HVF:=Zq hv;have HR:Hid (chkM F vs ns F.l.length 0=checkM F vs ns):=Zq rfl;generalize checkM F vs ns=R at *;obtain ⟨va,vc,rfl,-⟩:=hV.form;obtain ⟨na,nc,rfl,-⟩:=Zd0 hN;have h24:=P.most;rw [hl] at HV;rw [hl2] at HI;have HL1:=Zq hl;have HL2:=Zq hl2;rw [hl,hl2] at K0 |-;obtain ⟨la,lc,c0⟩:=Zsz (r.mono (Zah K0.out.below));obtain ⟨n,hn⟩:∃ n,F.l.length=n:=⟨_,rfl⟩;rw [hn] at HV HI HR HL1 HL2 K0 h24 c0 |-;have HN:=Zq hn;clear r P hV hN hv hl hl2 hn;obtain ⟨k0,k1,k2⟩:=(ZeG K0.out.at0).1;have q1:((n:Int) != (n:Int))=false:=by simp
 go_in;go_upto_region 1 with fail;generalize w.alloc (.cells #[.slice va n vc,.slice na n nc,.bool cl] 32)=W0 at *;go_quiet (fail);generalize hwd:W0.drewN _=Wd;have K1:Hid (Kept w Wd ((w.heap.size,.cells #[.slice va n vc,.slice na n nc,.bool cl] 32)::[])):=Zq (by rw [<-hwd]; exact K0.out.call (Pal.Ybb (Yab _ _) _));clear hwd k0 k1 k2 K0 c0;go_upto_region 4 with fail;go_loopg [5] n (fun gk i wr=>∃ j:Nat,i = .int .i64 j/\j+gk=n/\Hid (Kept w wr ((w.heap.size,.cells #[.slice va n vc,.slice na n nc,.bool cl] 32)::[]))/\Hid (chkM F vs ns gk j=R));case atStart=>exact ⟨0,rfl,by omega,K1,HR⟩
 case round =>
  obtain ⟨j,rfl,hg,K,HC⟩:=hrel;clear HR K1;obtain ⟨lv,ev,hv,nv0,ov,xs,nds,p⟩:=HR0.out wr K.out.below;obtain ⟨ga,gc,rfl⟩:=p.rb.fds.form;have hbox:wr.heap[b]?=_:=p.box;have c0:wr.cell? ⟨b,0,none⟩=some (.slice ga F.l.length gc):=(by simp [World.cell?,hbox]);have c4:wr.cell? ⟨b,4,none⟩=some (hv 0):=(by simp [World.cell?,hbox]);have hff:=p.rb.fds;rw [HN.out] at c0 hff;obtain ⟨⟨k0,k1,k2⟩,-⟩:=ZeG K.out.at0;by_cases hlt:j<n
  . obtain ⟨f,hf⟩:∃ f,F.l[j]?=some f:=⟨_,Yad (by rw [HN.out]; exact hlt)⟩;obtain ⟨y,hy⟩:∃ x,xs[j]?=some x:=⟨_,Yad (by rw [p.xlen,HN.out]; exact hlt)⟩;obtain ⟨x,hx⟩:∃ x,vs[j]?=some x:=⟨_,Yad (by rw [HL1.out]; exact hlt)⟩;obtain ⟨z,hz⟩:∃ z,ns[j]?=some z:=⟨_,Yad (by rw [HL2.out]; exact hlt)⟩;obtain ⟨gn,rfl⟩:∃ k,gk=k+1:=⟨gk - 1,by omega⟩;obtain ⟨hb,ho,hc,hh1,hh2⟩:=Zru p hy (k:=0) (by decide);have hhf:hasF F.es (j:Int)=(prj 0 y).isSome:=Zr6 p.es hy;obtain ⟨hh,hhe⟩:∃ h,(prj 0 y).isSome=h:=⟨_,rfl⟩;rw [hhe] at hh2 hhf;rw [hh1,HN.out] at c4;have HCI:Hid ((fitsV x f.t&&(decide (0<=z)&&(decide (z<=1099511627776)&&(!hh || (decide (x.k=0)&&decide (z=0))))))=checkI F vs ns j):=Zq (by unfold checkI;rw [Yau,Yau,Yau,hx,hz,hf,hhf]; rfl);have HC2:Hid ((checkI F vs ns j&&chkM F vs ns gn (j+1))=R):=HC;have hxs:=HVF.out x (Yay hx);have HFT:=Zq (fun W=>ZqB x f.t W hxs);obtain ⟨fb,fo,rfl,-,f1,-,-,-⟩:=hff.at hf;obtain ⟨vb,vo,rfl,v0,v1,v2⟩:=(HV.out wr K.out.below).at hx;obtain ⟨ib,io,rfl,i0⟩:=Zss (HI.out wr K.out.below) hz;have hj1:(j:Int)<n:=(by omega);have hj0:(0:Int)<=(j:Int):=(by omega);unfold strV at v2;generalize fitsV x f.t=ft at *;obtain ⟨ty,hty⟩:∃ t,f.t=t:=⟨_,rfl⟩;rw [hty] at f1 HFT;have KD:=Zq K.out.drew;clear HC p hbox hff hf hy hx hz hh1 hhf hhe hxs hty HV HI HVF HR0 HN HL1 HL2;go_upto_region 6 with fail;refine regO (n:=31) (ord:=[0,1,2,3,4,5,6,7,8,9,10,11,12,13,14,15,16,17,18,19,20,21,22,23,24,25,26,27,28,29,30]) (S:=(fun w'=>(w'.cell? ⟨w.heap.size,0,none⟩=some (.slice (some ⟨vb,vo,none⟩) n vc)/\w'.cell? ⟨w.heap.size,1,none⟩=some (.slice (some ⟨ib,io,none⟩) n nc)/\w'.cell? ⟨b,0,none⟩=some (.slice (some ⟨fb,fo,none⟩) n gc)/\w'.cell? ⟨fb,fo+j*5+1,none⟩=some (.int .i64 ty)/\w'.cell? ⟨ib,io+j,none⟩=some (.int .i64 z)/\w'.cell? ⟨vb,vo+j*3,none⟩=some (.int .i64 x.k)/\w'.cell? ⟨vb,vo+j*3+1,none⟩=some (.int .i64 x.n)/\w'.cell? ⟨vb,vo+j*3+2,none⟩=some (.string ⟨x.s.toArray⟩)))) rfl (by kernel_rfl) (by kernel_rfl) (by go_keep) (fun hHeld=>?_);repeat (first
     | (refine Zs2 (v:=?_) rfl rfl (by kernel_rfl) (by kernel_rfl) (by kernel_rfl) (fun _ _ _ h=>h) (by rfl) ?_ (by assumption) ?_
        rotate_left
        (focus (intro w hSw; (try dsimp only at hSw); go_simp; (try with_reducible rfl); done))
        try simp only [Act.put,List.setIfInBounds_toArray,List.set_cons_zero,List.set_cons_succ])
     | fail)
    refine Zs3 rfl rfl (by kernel_rfl) (by rfl) (fun KK hK=>?_);go_simp;go_wp2_with (go_at_call 19; refine (HFT.out _).mono ?_; rintro r W3 ⟨rfl,hb3⟩; have K3:=Zq (KD.out.call hb3); have d0:=Zsm hb3 k0; have d1:=Zsm hb3 k1; have d2:=Zsm hb3 c0; have d3:=Zsm hb3 f1; have d4:=Zsm hb3 i0; have d5:=Zsm hb3 v0; have d6:=Zsm hb3 v1; have d7:=Zsm hb3 v2; have d8:=Zsm hb3 c4; have d9:=Zsm hb3 hh2; clear hb3);refine hK.out _ _ ⟨d0,d1,d2,d3,d4,d5,d6,d7⟩ (fun hHeld2=>?_);(try simp only [Act.put,List.setIfInBounds_toArray,List.set_cons_zero,List.set_cons_succ]);clear hK KK hHeld k0 k1 k2 c0 c4 f1 i0 v0 v1 v2 hh2 K KD HFT;cases ft with
    | false =>
     have HE:Hid (R=false):=Zq (by rw [<-HC2.out,<-HCI.out]; simp);clear HC2 HCI;repeat (first
      | (refine Zs2 (v:=?_) rfl rfl (by kernel_rfl) (by kernel_rfl) (by kernel_rfl) (fun _ _ _ h=>h) (by rfl) ?_ (by assumption) ?_
         rotate_left
         (focus (intro w hSw; (try dsimp only at hSw); go_simp; (try with_reducible rfl); done))
         try simp only [Act.put,List.setIfInBounds_toArray,List.set_cons_zero,List.set_cons_succ])
      | (refine offO rfl rfl (by kernel_rfl) (by kernel_rfl) (by kernel_rfl) (fun _ _ _ h=>h) (by rfl) (by assumption) ?_
         try simp only [Act.put,List.setIfInBounds_toArray,List.set_cons_zero,List.set_cons_succ])
      | fail)
     refine Zs4 (by kernel_rfl) ?_;clear hHeld2 d0 d1 d2 d3 d4 d5 d6 d7 d8 d9;go_wp2;(try rw [Yae]);go_ret;exact ⟨by rw [HE.out]; rfl,K3.out.below⟩
    | true =>
     by_cases hz0:z<0
     . have z1:¬ 0<=z:=(by omega);have HE:Hid (R=false):=Zq (by rw [<-HC2.out,<-HCI.out]; simp [z1]);clear HC2 HCI;repeat (first
        | (refine Zs2 (v:=?_) rfl rfl (by kernel_rfl) (by kernel_rfl) (by kernel_rfl) (fun _ _ _ h=>h) (by rfl) ?_ (by assumption) ?_; rotate_left; (focus (intro w hSw; (try dsimp only at hSw); go_simp; (try with_reducible rfl); done)); try simp only [Act.put,List.setIfInBounds_toArray,List.set_cons_zero,List.set_cons_succ])
        | (refine offO rfl rfl (by kernel_rfl) (by kernel_rfl) (by kernel_rfl) (fun _ _ _ h=>h) (by rfl) (by assumption) ?_; try simp only [Act.put,List.setIfInBounds_toArray,List.set_cons_zero,List.set_cons_succ])
        | fail)
       refine Zs4 (by kernel_rfl) ?_;clear hHeld2 d0 d1 d2 d3 d4 d5 d6 d7 d8 d9;go_wp2;(try rw [Yae]);go_ret;exact ⟨by rw [HE.out]; rfl,K3.out.below⟩
     . have z1:0<=z:=(by omega);by_cases hz2:1099511627776<z
       . have z2:¬ z<=1099511627776:=(by omega);have HE:Hid (R=false):=Zq (by rw [<-HC2.out,<-HCI.out]; simp [z2]);clear HC2 HCI;repeat (first
          | (refine Zs2 (v:=?_) rfl rfl (by kernel_rfl) (by kernel_rfl) (by kernel_rfl) (fun _ _ _ h=>h) (by rfl) ?_ (by assumption) ?_; rotate_left; (focus (intro w hSw; (try dsimp only at hSw); go_simp; (try with_reducible rfl); done)); try simp only [Act.put,List.setIfInBounds_toArray,List.set_cons_zero,List.set_cons_succ])
          | (refine offO rfl rfl (by kernel_rfl) (by kernel_rfl) (by kernel_rfl) (fun _ _ _ h=>h) (by rfl) (by assumption) ?_; try simp only [Act.put,List.setIfInBounds_toArray,List.set_cons_zero,List.set_cons_succ])
          | fail)
         refine Zs4 (by kernel_rfl) ?_;clear hHeld2 d0 d1 d2 d3 d4 d5 d6 d7 d8 d9;go_wp2;(try rw [Yae]);go_ret;exact ⟨by rw [HE.out]; rfl,K3.out.below⟩
       . have z2:z<=1099511627776:=(by omega);repeat (first
          | (refine Zs2 (v:=?_) rfl rfl (by kernel_rfl) (by kernel_rfl) (by kernel_rfl) (fun _ _ _ h=>h) (by rfl) ?_ (by assumption) ?_; rotate_left; (focus (intro w hSw; (try dsimp only at hSw); go_simp; (try with_reducible rfl); done)); try simp only [Act.put,List.setIfInBounds_toArray,List.set_cons_zero,List.set_cons_succ])
          | fail)
         refine Zs4 (by kernel_rfl) ?_;clear hHeld2;obtain ⟨xk,hxk⟩:∃ k,x.k=k:=⟨_,rfl⟩;rw [hxk] at d5 HCI;clear hxk;cases hh with
         | false =>have HX2:Hid (chkM F vs ns gn (j+1)=R):=Zq (by have:=HC2.out; rw [<-HCI.out] at this; simpa [*] using this);clear HC2 HCI;go_wp2;go_roundg gn;(case rel=>exact ⟨j+1,by go_num,by omega,K3,HX2⟩);case measure=>omega
         | true =>
          by_cases hk:xk=0
          . subst hk;by_cases hzz:z=0
            . subst hzz;have HX2:Hid (chkM F vs ns gn (j+1)=R):=Zq (by have:=HC2.out; rw [<-HCI.out] at this; simpa [*] using this);clear HC2 HCI;go_wp2;go_roundg gn;(case rel=>exact ⟨j+1,by go_num,by omega,K3,HX2⟩);case measure=>omega
            . have hzb:(z != 0)=true:=(by simpa using hzz);have HE:Hid (R=false):=Zq (by rw [<-HC2.out,<-HCI.out]; simp [hzz]);clear HC2 HCI;go_wp2;(try rw [Yae]);go_ret;exact ⟨by rw [HE.out]; rfl,K3.out.below⟩
          . have hkb:(xk != 0)=true:=(by simpa using hk);have HE:Hid (R=false):=Zq (by rw [<-HC2.out,<-HCI.out]; simp [hk]);clear HC2 HCI;go_wp2;(try rw [Yae]);go_ret;exact ⟨by rw [HE.out]; rfl,K3.out.below⟩
  . have hj:gk=0:=(by omega);subst hj;have HE:Hid (R=true):=Zq (by rw [<-HC.out]; rfl);have HB:=Zq K.out.below;have hjn:j=n:=(by omega);subst hjn;have hj1:¬ (j:Int)<j:=(by omega);clear HC K p hbox hff;go_wp2;(try rw [Yae]);go_ret;exact ⟨by rw [HE.out]; rfl,HB.out⟩
theorem Ztb {b:Nat} {F:Form} (w:World) (r:RefV (gh w) b F) (P:Paper F) (vs:List Val) (ns:List Int) (vv nv:Value) (cl:Bool) (hV:ValsV (gh w) vv vs) (hN:IntsV (gh w) nv ns) (hv:∀ x∈vs,x.s.length<=9223372036854775807) (hl:vs.length<=100) (hl2:ns.length<=100) :
 Calls Tryz.prog 24 #[.pointer (some ⟨b,0,none⟩),.agg #[vv,nv,.bool cl]] w fun r W=>r = .returned (.bool (checkS F vs ns))/\Below w.heap.size w W:=by
 by_cases h:vs.length=F.l.length/\ns.length=F.l.length
 . have e:checkS F vs ns=checkM F vs ns:=(by unfold checkS; rw [Yam h.1,Yam h.2]; rfl);rw [e];exact Zta w r P vs ns vv nv cl hV hN hv h.1 h.2
 . have e:checkS F vs ns=false:=by
    unfold checkS;by_cases h1:vs.length=F.l.length
    . rw [Yaj (fun h2=>h ⟨h1,h2⟩)]; simp
    . rw [Yaj h1]; rfl
   rw [e];obtain ⟨va,vc,rfl,-⟩:=hV.form;obtain ⟨na,nc,rfl,-⟩:=Zd0 hN;exact Zs9 w r P va na _ _ vc nc cl hl hl2 (by omega)
end Go.Proofs.YtikannmgllejfaaGreatDoor

namespace Go.Proofs.YtikannmgllejfaaGreatDoor
open Go.RowKit Pal
attribute [local go_sem ↓] Go.wp_at_zero Go.wp_at_succ
theorem Ztc (c:List Val) (v v2:Value) (w:World) (h1:ValsV (gh w) v c) (h2:ValsV (gh w) v2 c) (hl:c.length<=1000) :
 Calls Tryz.prog 46 #[v,v2] w (yesPost w):=by
 have H1:=Zq (fun W (hb:Below w.heap.size w W)=>h1.mono (Zah hb));have H2:=Zq (fun W (hb:Below w.heap.size w W)=>h2.mono (Zah hb));obtain ⟨a,ac,rfl,-⟩:=h1.form;obtain ⟨b,bc,rfl,-⟩:=h2.form;obtain ⟨n,hn⟩:∃ n,c.length=n:=⟨_,rfl⟩;rw [hn] at H1 H2 hl |-;have HN:=Zq hn;have q1:((n:Int) != (n:Int))=false:=by simp
 unfold yesPost;clear h1 h2 hn;go_in;go_wp2_with fail;go_loopg [13] n (fun gk i wr=>∃ j:Nat,i = .int .i64 j/\j+gk=n/\Hid (Below w.heap.size w wr));case atStart=>exact ⟨0,rfl,by omega,Zq (Yab _ _)⟩
 case round =>
  obtain ⟨j,rfl,hg,HB⟩:=hrel;by_cases hlt:j<n
  . obtain ⟨x,hx⟩:∃ x,c[j]?=some x:=⟨_,Yad (by rw [HN.out]; exact hlt)⟩;obtain ⟨b1,o1,rfl,x0,x1,x2⟩:=(H1.out wr HB.out).at hx;obtain ⟨b2,o2,rfl,y0,y1,y2⟩:=(H2.out wr HB.out).at hx;obtain ⟨gn,rfl⟩:∃ gn,gk=gn+1:=⟨gk - 1,by omega⟩;have hj1:(j:Int)<n:=(by omega);have hj0:(0:Int)<=(j:Int):=(by omega);unfold strV at x2 y2;clear hx;go_upto_region 6 with fail;go_region;all_goals go_wp2;go_roundg gn;(case rel=>exact ⟨j+1,by go_num,by omega,Zq HB.out.drew⟩);case measure=>omega
  . have hj:j=n:=(by omega);subst hj;have hj1:¬ (j:Int)<j:=(by omega);go_wp2;(try rw [Yae]);go_ret;exact ⟨rfl,HB.out⟩
theorem Ztd (c:List Int) (v v2:Value) (w:World) (h1:IntsV (gh w) v c) (h2:IntsV (gh w) v2 c) (hl:c.length<=1000) :
 Calls Tryz.prog 47 #[v,v2] w (yesPost w):=by
 have H1:=Zq (fun W (hb:Below w.heap.size w W)=>h1.mono (Zah hb));have H2:=Zq (fun W (hb:Below w.heap.size w W)=>h2.mono (Zah hb));obtain ⟨a,ac,rfl,-⟩:=Zd0 h1;obtain ⟨b,bc,rfl,-⟩:=Zd0 h2;obtain ⟨n,hn⟩:∃ n,c.length=n:=⟨_,rfl⟩;rw [hn] at H1 H2 hl |-;have HN:=Zq hn;have q1:((n:Int) != (n:Int))=false:=by simp
 unfold yesPost;clear h1 h2 hn;go_in;go_wp2_with fail;go_loopg [13] n (fun gk i wr=>∃ j:Nat,i = .int .i64 j/\j+gk=n/\Hid (Below w.heap.size w wr));case atStart=>exact ⟨0,rfl,by omega,Zq (Yab _ _)⟩
 case round =>
  obtain ⟨j,rfl,hg,HB⟩:=hrel;by_cases hlt:j<n
  . obtain ⟨x,hx⟩:∃ x,c[j]?=some x:=⟨_,Yad (by rw [HN.out]; exact hlt)⟩;obtain ⟨b1,o1,rfl,x0⟩:=Zss (H1.out wr HB.out) hx;obtain ⟨b2,o2,rfl,y0⟩:=Zss (H2.out wr HB.out) hx;obtain ⟨gn,rfl⟩:∃ gn,gk=gn+1:=⟨gk - 1,by omega⟩;have hj1:(j:Int)<n:=(by omega);have hj0:(0:Int)<=(j:Int):=(by omega);have q2:(x != x)=false:=(by simp);clear hx;go_upto_region 6 with fail;go_region;all_goals go_wp2;go_roundg gn;(case rel=>exact ⟨j+1,by go_num,by omega,Zq HB.out.drew⟩);case measure=>omega
  . have hj:j=n:=(by omega);subst hj;have hj1:¬ (j:Int)<j:=(by omega);go_wp2;(try rw [Yae]);go_ret;exact ⟨rfl,HB.out⟩
theorem Zte (vs:List Val) (ns:List Int) (v1 v2 n1 n2:Value) (cl:Bool) (w:World) (h1:ValsV (gh w) v1 vs) (h2:ValsV (gh w) v2 vs) (i1:IntsV (gh w) n1 ns) (i2:IntsV (gh w) n2 ns) (hl:vs.length<=1000) (hl2:ns.length<=1000) :
 Calls Tryz.prog 27 #[.agg #[v1,n1,.bool cl],.agg #[v2,n2,.bool cl]] w (yesPost w):=by
 have K0:=Zq ((Kept.start w).new2 (.cells #[v1,n1,.bool cl] 32) (.cells #[v2,n2,.bool cl] 32));have HV:=Zq (fun W (hb:Below w.heap.size w W)=>Ztc vs v1 v2 W (h1.mono (Zah hb)) (h2.mono (Zah hb)) hl);have HI:=Zq (fun W (hb:Below w.heap.size w W)=>Ztd ns n1 n2 W (i1.mono (Zah hb)) (i2.mono (Zah hb)) hl2);unfold yesPost at *;obtain ⟨a,ac,rfl,-⟩:=h1.form;obtain ⟨b,bc,rfl,-⟩:=h2.form;obtain ⟨c,cc,rfl,-⟩:=Zd0 i1;obtain ⟨d,dc,rfl,-⟩:=Zd0 i2;have qc:(cl == cl)=true:=by simp
 clear h1 h2 i1 i2;go_in;go_upto_region 1 with fail;generalize (w.alloc (.cells #[.slice a vs.length ac,.slice c ns.length cc,.bool cl] 32)).alloc (.cells #[.slice b vs.length bc,.slice d ns.length dc,.bool cl] 32)=W0 at *;obtain ⟨k0,k1,k2⟩:=(ZeG K0.out.tail.at0).1;obtain ⟨l0,l1,l2⟩:=(ZeG K0.out.at0).1;go_wp2_with fail;refine (HV.out _ K0.out.below).mono ?_;rintro r W1 ⟨rfl,hb1⟩;have K1:=Zq (K0.out.call hb1);clear k0 k1 k2 l0 l1 l2 hb1 K0;obtain ⟨k0,k1,k2⟩:=(ZeG K1.out.tail.at0).1;obtain ⟨l0,l1,l2⟩:=(ZeG K1.out.at0).1;go_wp2_with fail;refine (HI.out _ K1.out.below).mono ?_;rintro r W2 ⟨rfl,hb2⟩;have K2:=Zq (K1.out.call hb2);clear k0 k1 k2 l0 l1 l2 hb2 K1;go_wp2;go_ret;exact ⟨rfl,K2.out.below⟩
theorem Ztf (vs:List Val) (ns:List Int) (v1 v2 n1 n2:Value) (cl:Bool) (w:World) (h1:ValsV (gh w) v1 vs) (h2:ValsV (gh w) v2 vs) (i1:IntsV (gh w) n1 ns) (i2:IntsV (gh w) n2 ns) (hl:vs.length<=1000) (hl2:ns.length<=1000) :
 Calls Tryz.prog 25 #[.agg #[v1,n1,.bool cl],.agg #[v2,n2,.bool cl]] w (yesPost w):=by
 have K0:=Zq ((Kept.start w).new2 (.cells #[v1,n1,.bool cl] 32) (.cells #[v2,n2,.bool cl] 32));have H1:=Zq (fun W (hb:Below w.heap.size w W)=>h1.mono (Zah hb));have H2:=Zq (fun W (hb:Below w.heap.size w W)=>h2.mono (Zah hb));have I1:=Zq (fun W (hb:Below w.heap.size w W)=>i1.mono (Zah hb));have I2:=Zq (fun W (hb:Below w.heap.size w W)=>i2.mono (Zah hb));unfold yesPost;obtain ⟨a,ac,rfl,-⟩:=h1.form;obtain ⟨b,bc,rfl,-⟩:=h2.form;obtain ⟨c,cc,rfl,-⟩:=Zd0 i1;obtain ⟨d,dc,rfl,-⟩:=Zd0 i2;obtain ⟨n,hn⟩:∃ n,vs.length=n:=⟨_,rfl⟩;obtain ⟨m,hm⟩:∃ n,ns.length=n:=⟨_,rfl⟩;rw [hn] at H1 H2 hl;rw [hm] at I1 I2 hl2;rw [hn,hm] at K0 |-;have HN:=Zq hn;have HM:=Zq hm;have qc:(cl != cl)=false:=by simp
 have q1:((n:Int) != (n:Int))=false:=by simp
 have q2:((m:Int) != (m:Int))=false:=by simp
 clear h1 h2 i1 i2 hn hm;go_in;go_upto_region 1 with fail;generalize (w.alloc (.cells #[.slice a n ac,.slice c m cc,.bool cl] 32)).alloc (.cells #[.slice b n bc,.slice d m dc,.bool cl] 32)=W0 at *;obtain ⟨k0,k1,k2⟩:=(ZeG K0.out.tail.at0).1;obtain ⟨l0,l1,l2⟩:=(ZeG K0.out.at0).1;go_upto_region 4 with fail;clear k0 k1 k2 l0 l1 l2;go_loopg [5] n (fun gk i wr=>∃ j:Nat,i = .int .i64 j/\j+gk=n/\Hid (Kept w wr ((w.heap.size+1,.cells #[.slice b n bc,.slice d m dc,.bool cl] 32)::(w.heap.size,.cells #[.slice a n ac,.slice c m cc,.bool cl] 32)::[])));case atStart=>exact ⟨0,rfl,by omega,K0⟩
 case round =>
  obtain ⟨j,rfl,hg,K⟩:=hrel;clear K0;obtain ⟨k0,k1,k2⟩:=(ZeG K.out.tail.at0).1;obtain ⟨l0,l1,l2⟩:=(ZeG K.out.at0).1;by_cases hlt:j<n
  . obtain ⟨x,hx⟩:∃ x,vs[j]?=some x:=⟨_,Yad (by rw [HN.out]; exact hlt)⟩;obtain ⟨b1,o1,rfl,x0,x1,x2⟩:=(H1.out wr K.out.below).at hx;obtain ⟨b2,o2,rfl,y0,y1,y2⟩:=(H2.out wr K.out.below).at hx;obtain ⟨gn,rfl⟩:∃ gn,gk=gn+1:=⟨gk - 1,by omega⟩;have hj1:(j:Int)<n:=(by omega);have hj0:(0:Int)<=(j:Int):=(by omega);unfold strV at x2 y2;clear hx;go_upto_region 6 with fail;go_quiet (fail);go_wp2;go_roundg gn;(case rel=>exact ⟨j+1,by go_num,by omega,Zq (K.out.call (Pal.Ybb (Yab _ _) _))⟩);case measure=>omega
  . have hj:j=n:=(by omega);subst hj;have hj1:¬ (j:Int)<j:=(by omega);go_upto_region 9 with fail;clear k0 k1 k2 l0 l1 l2;go_loopg [6] m (fun gk i wq=>∃ e:Nat,i = .int .i64 e/\e+gk=m/\Hid (Kept w wq ((w.heap.size+1,.cells #[.slice b j bc,.slice d m dc,.bool cl] 32)::(w.heap.size,.cells #[.slice a j ac,.slice c m cc,.bool cl] 32)::[])));(case atStart=>exact ⟨0,rfl,by omega,K⟩);case round =>
     obtain ⟨e,rfl,hg2,K2⟩:=hrel;clear K;obtain ⟨k0,k1,k2⟩:=(ZeG K2.out.tail.at0).1;obtain ⟨l0,l1,l2⟩:=(ZeG K2.out.at0).1;by_cases hlt:e<m
     . obtain ⟨x,hx⟩:∃ x,ns[e]?=some x:=⟨_,Yad (by rw [HM.out]; exact hlt)⟩;obtain ⟨b1,o1,rfl,x0⟩:=Zss (I1.out wr K2.out.below) hx;obtain ⟨b2,o2,rfl,y0⟩:=Zss (I2.out wr K2.out.below) hx;obtain ⟨gn,rfl⟩:∃ gn,gk=gn+1:=⟨gk - 1,by omega⟩;have hj1:(e:Int)<m:=(by omega);have hj0:(0:Int)<=(e:Int):=(by omega);have q3:(x != x)=false:=(by simp);clear hx;go_upto_region 11 with fail;go_quiet (fail);go_wp2;go_roundg gn;(case rel=>exact ⟨e+1,by go_num,by omega,Zq (K2.out.call (Pal.Ybb (Yab _ _) _))⟩);case measure=>omega
     . have hj:e=m:=(by omega);subst hj;have hj1:¬ (e:Int)<e:=(by omega);go_wp2;(try rw [Yae]);go_ret;exact ⟨rfl,K2.out.below⟩
end Go.Proofs.YtikannmgllejfaaGreatDoor

namespace Go.Proofs.YtikannmgllejfaaGreatDoor
open Go.RowKit Pal
attribute [local go_sem ↓] Go.wp_at_zero Go.wp_at_succ
theorem Ztg {h:GH} {v:Value} {l:List Int} (t:NumsV h v l) (hl:l.length<=100):IntsV h v l:=by obtain ⟨a,cap,hv,hn,h1,h2,hx⟩:=t;exact ⟨a,cap,hv,hn,by omega,hx⟩
theorem checks_walk (l:List Fd) (v:Value) (n:Int) (x:Stt) (sv:Value) (w:World) (hL:Lay2 w) (hF:FdsV (gh w) v l/\l.length<=9223372036854775807) (h0:∀ f∈l,Fd0 f) (hn : -9223372036854775808<=n/\n<=9223372036854775807)
 (hS:SttV w sv x) :
 Calls Tryz.prog 6 #[v,.int .i64 n,sv] w (yesPost w):=by
 obtain ⟨hF,hlen⟩:=hF;obtain ⟨⟨vv,nv,rfl,hV,hN,hnil⟩,hvs,hns⟩:=hS;obtain ⟨vs,ns,cl⟩:=x;simp only at hV hN hvs hns;have K0:=Zq ((Kept.start w).new (.cells #[vv,nv,.bool cl] 32));have HPK:=Zq (fun W (hb:Below w.heap.size w W)=>Zsg l v n W (hF.mono (Zah hb)) hlen h0 hn);obtain ⟨va,vc,rfl⟩:=hF.form;have HL:=Zq hL.lay;have HV:=Zq (fun W (hb:Below w.heap.size w W)=>hV.mono (Zah hb));have HI:=Zq (fun (h:ns.length<=100) W (hb:Below w.heap.size w W)=>(Ztg hN h).mono (Zah hb));have HVS:Hid (∀ x∈vs,x.s.length<=9223372036854775807):=Zq (fun x hx=>(hvs x hx).2.2);have HST:=Zq (fun (h1:vs.length<=100) (h2:ns.length<=100) W (hb:Below w.heap.size w W)=>ZsD vs ns vv nv cl W (hV.mono (Zah hb)) ((Ztg hN h2).mono (Zah hb)) hnil (by omega));have HAW:=Zq (fun W (hb:Below w.heap.size w W)=>Zsy W (HL.out.below hb));obtain ⟨sa,sc,rfl,-⟩:=hV.form;obtain ⟨ia,ic,rfl,hnl⟩:=hN.form;unfold pickPost at HPK;unfold yesPost at HAW |-;unfold statePost at HST;generalize l.length=ll at *;clear hL hF hlen h0 hn hV hN hvs hns hnil;go_in;go_upto_region 1 with fail;generalize w.alloc (.cells #[.slice sa vs.length sc,.slice ia ns.length ic,.bool cl] 32)=W0 at *;go_wp2_with fail;refine (HPK.out _ K0.out.below).mono ?_;rintro r W1 ⟨hb1,v1,l1,F,rfl,hf1,hl1,hs1,hm1⟩;have K1:=Zq (K0.out.call hb1);have HBO:=Zq (Zsd l1 F v1 W1 (HL.out.below K1.out.below) hf1 hl1 hs1 hm1);obtain ⟨fa,fc,rfl⟩:=hf1.form;have HP:=Zq (ZrD hm1);unfold bothPost at HBO;generalize l1.length=k1 at *;clear hb1 hf1 hl1 hs1 hm1 HPK K0;go_wp2_with fail;refine HBO.out.mono ?_;rintro r W2 ⟨hb2,b,b2,rfl,hs2,hr2⟩;have K2:=Zq (K1.out.call hb2);have HS:=Zq (fun W (hb:Below W2.heap.size W2 W)=>hs2.mono (Zah hb));have HR:=Zq (fun W (hb:Below W2.heap.size W2 W)=>hr2.mono (Zah hb));have HB2:=Zq (fun W (hb:Below W2.heap.size W2 W)=>K2.out.below.seq hb);have HNW:=Zq (Zsr W2 hs2 HP.out.most);unfold newPost12 at HNW;have hm:=Zq HP.out.most;obtain ⟨k,hk⟩:∃ k,F.l.length=k:=⟨_,rfl⟩;rw [hk] at HNW hm;have HK:=Zq hk;clear hb2 hs2 hr2 HBO K1 hk;obtain ⟨c0,c1,c2⟩:=(ZeG K2.out.at0).1;by_cases hbig:100<vs.length
 . have q1:(100:Int)<(vs.length:Int):=(by omega);go_wp2_with fail;refine (HAW.out _ K2.out.below).mono ?_;rintro r W3 ⟨rfl,hb3⟩;go_wp2;go_ret;exact ⟨rfl,K2.out.below.seq hb3⟩
 have q1:¬ (100:Int)<(vs.length:Int):=by omega
 by_cases hbig2:100<ns.length
 . have q2:(100:Int)<(ns.length:Int):=(by omega);go_wp2_with fail;refine (HAW.out _ K2.out.below).mono ?_;rintro r W3 ⟨rfl,hb3⟩;go_wp2;go_ret;exact ⟨rfl,K2.out.below.seq hb3⟩
 have q2:¬ (100:Int)<(ns.length:Int):=by omega
 have hvl:vs.length<=100:=by omega
 have hnl2:ns.length<=100:=by omega
 have HS1:=Zq (HST.out hvl hnl2);have HI1:=Zq (HI.out hnl2);have HVL:=Zq hvl;have HNL:=Zq hnl2;clear HST HI hbig hbig2 hvl hnl2;go_wp2_with fail;refine HNW.out.mono ?_;rintro r W3 ⟨hb3,g,gn,hne,rfl,hov,hoi⟩;have KA:Hid (Kept W2 W2 ((w.heap.size,.cells #[.slice sa vs.length sc,.slice ia ns.length ic,.bool cl] 32)::[])):=Zq ⟨Yab _ _,K2.out.mem⟩;have KB:=Zq ((KA.out.call hb3).new (.cells #[.slice (some ⟨g,0,none⟩) k k,.slice (some ⟨gn,0,none⟩) k k,.bool false] 32));have HXV:=Zq (fun W (hb:Below W3.heap.size W3 W)=>hov.toV.mono (Zah hb));have HXI:=Zq (fun W (hb:Below W3.heap.size W3 W)=>(hoi.toV (by have:=hm.out; simp; omega)).mono (Zah hb));have HB3:Hid (Below W3.heap.size W3 (W3.alloc (.cells #[.slice (some ⟨g,0,none⟩) k k,.slice (some ⟨gn,0,none⟩) k k,.bool false] 32))):=Zq ((Yab _ _).alloc Zs _);have hlt:w.heap.size<W2.heap.size:=K2.out.lt;obtain ⟨R,hR⟩:∃ R,checkS F vs ns=R:=⟨_,rfl⟩;have HRR:=Zq hR;have qR:(R == R)=true:=by simp
 clear hb3 hov hoi hne HNW KA K2 hR c0 c1 c2;go_upto_region 7 with fail;generalize W3.alloc (.cells #[.slice (some ⟨g,0,none⟩) k k,.slice (some ⟨gn,0,none⟩) k k,.bool false] 32)=W4 at *;generalize hB:W3.heap.size=B at KB |-;clear hB;obtain ⟨c0,c1,c2⟩:=(ZeG KB.out.tail.at0).1;obtain ⟨x0,x1,x2⟩:=(ZeG KB.out.at0).1;have KC:=Zq KB.out.drew;have HB4:=Zq HB3.out.drew;refine regO (n:=29) (ord:=[0,1,4,5,2,3,6,7,8,9,10,11,12,13,14,15,16,17,18,19,20,21,22,23,24,25,26,27,28]) (S:=(fun w'=>(w'.cell? ⟨w.heap.size,0,none⟩=some (.slice sa vs.length sc)/\w'.cell? ⟨w.heap.size,1,none⟩=some (.slice ia ns.length ic)/\w'.cell? ⟨w.heap.size,2,none⟩=some (.bool cl)/\w'.cell? ⟨B,0,none⟩=some (.slice (some ⟨g,0,none⟩) k k)/\w'.cell? ⟨B,1,none⟩=some (.slice (some ⟨gn,0,none⟩) k k)/\w'.cell? ⟨B,2,none⟩=some (.bool false)))) rfl (by kernel_rfl) (by kernel_rfl) (by go_keep) (fun hHeld=>?_);clear c0 c1 c2 x0 x1 x2 KB HB3;repeat (first
  | (refine Zs2 (v:=?_) rfl rfl (by kernel_rfl) (by kernel_rfl) (by kernel_rfl) (fun _ _ _ h=>h) (by rfl) ?_ (by assumption) ?_; rotate_left; (focus (intro w hSw; (try dsimp only at hSw); go_simp; (try with_reducible rfl); done)); try simp only [Act.put,List.setIfInBounds_toArray,List.set_cons_zero,List.set_cons_succ])
  | fail)
 refine Zs3 rfl rfl (by kernel_rfl) (by rfl) (fun KK hK=>?_);go_simp;go_wp2_with (go_at_call 15; refine (HS1.out _ (HB2.out _ KC.out.below)).mono ?_; rintro r V1 ⟨hb,s1,n1,rfl,ho1,hi1⟩; have K1:=Zq (KC.out.call hb));have HB5:=Zq (HB4.out.seq hb);have HCK:=Zq (Zs8 V1 (HS.out V1 K1.out.below) HP.out (HL.out.below (HB2.out _ K1.out.below)) vs ns s1 n1 cl ho1.toV (hi1.toV (by have:=HNL.out; omega)) HVS.out HVL.out HNL.out);rw [HRR.out] at HCK;clear ho1 hi1 HB4;obtain ⟨c0,c1,c2⟩:=(ZeG K1.out.tail.at0).1;obtain ⟨x0,x1,x2⟩:=(ZeG K1.out.at0).1;refine hK.out _ _ ⟨c0,c1,c2,x0,x1,x2⟩ (fun hHeld=>?_);try simp only [Act.put,List.setIfInBounds_toArray,List.set_cons_zero,List.set_cons_succ]
 clear hK KK c0 c1 c2 x0 x1 x2 KC hb;refine Zs3 rfl rfl (by kernel_rfl) (by rfl) (fun KK hK=>?_);go_simp;go_wp2_with (go_at_call 23; refine (HCK.out).mono ?_; rintro r V2 ⟨rfl,hb⟩; have K2:=Zq (K1.out.call hb));have HB6:=Zq (HB5.out.seq hb);have HRC:=Zq (Ztb V2 (HR.out V2 K2.out.below) HP.out vs ns (.slice sa vs.length sc) (.slice ia ns.length ic) cl (HV.out V2 (HB2.out _ K2.out.below)) (HI1.out V2 (HB2.out _ K2.out.below)) HVS.out HVL.out HNL.out);rw [HRR.out] at HRC;clear HCK HB5;obtain ⟨c0,c1,c2⟩:=(ZeG K2.out.tail.at0).1;obtain ⟨x0,x1,x2⟩:=(ZeG K2.out.at0).1;refine hK.out _ _ ⟨c0,c1,c2,x0,x1,x2⟩ (fun hHeld=>?_);try simp only [Act.put,List.setIfInBounds_toArray,List.set_cons_zero,List.set_cons_succ]
 clear hK KK c0 c1 c2 x0 x1 x2 K1 hb;refine Zs3 rfl rfl (by kernel_rfl) (by rfl) (fun KK hK=>?_);go_simp;go_wp2_with (go_at_call 24; refine (HRC.out).mono ?_; rintro r V3 ⟨rfl,hb⟩; have K3:=Zq (K2.out.call hb));have HB7:=Zq (HB6.out.seq hb);have HNW:=Zq (Zsk V3 (HR.out V3 K3.out.below) HP.out.most);unfold newPost12 at HNW;rw [HK.out] at HNW;clear HRC HB6;obtain ⟨c0,c1,c2⟩:=(ZeG K3.out.tail.at0).1;obtain ⟨x0,x1,x2⟩:=(ZeG K3.out.at0).1;refine hK.out _ _ ⟨c0,c1,c2,x0,x1,x2⟩ (fun hHeld=>?_);try simp only [Act.put,List.setIfInBounds_toArray,List.set_cons_zero,List.set_cons_succ]
 clear hK KK c0 c1 c2 x0 x1 x2 K2 hb;repeat (first
  | (refine Zs2 (v:=?_) rfl rfl (by kernel_rfl) (by kernel_rfl) (by kernel_rfl) (fun _ _ _ h=>h) (by rfl) ?_ (by assumption) ?_; rotate_left; (focus (intro w hSw; (try dsimp only at hSw); go_simp; (try with_reducible rfl); done)); try simp only [Act.put,List.setIfInBounds_toArray,List.set_cons_zero,List.set_cons_succ])
  | fail)
 refine Zs3 rfl rfl (by kernel_rfl) (by rfl) (fun KK hK=>?_);go_simp;go_wp2_with (go_at_call 26; refine (HNW.out).mono ?_; rintro r V4 ⟨hb,h,gh1,hne,rfl,hov,hoi⟩; have K4:=Zq (K3.out.call hb));have HB8:=Zq (HB7.out.seq hb);have HSM:=Zq (Ztf (List.replicate k vNil) (List.replicate k 0) (.slice (some ⟨g,0,none⟩) k k) (.slice (some ⟨h,0,none⟩) k k) (.slice (some ⟨gn,0,none⟩) k k) (.slice (some ⟨gh1,0,none⟩) k k) false V4 (HXV.out V4 HB8.out) hov.toV (HXI.out V4 HB8.out) (hoi.toV (by have:=hm.out; simp; omega)) (by have:=hm.out; simp; omega) (by have:=hm.out; simp; omega));unfold yesPost at HSM;clear HNW HB7 hov hoi hne;obtain ⟨c0,c1,c2⟩:=(ZeG K4.out.tail.at0).1;obtain ⟨x0,x1,x2⟩:=(ZeG K4.out.at0).1;refine hK.out _ _ ⟨c0,c1,c2,x0,x1,x2⟩ (fun hHeld=>?_);try simp only [Act.put,List.setIfInBounds_toArray,List.set_cons_zero,List.set_cons_succ]
 clear hK KK c0 c1 c2 x0 x1 x2 K3 hb;refine Zs3 rfl rfl (by kernel_rfl) (by rfl) (fun KK hK=>?_);go_simp;go_wp2_with (go_at_call 25; refine (HSM.out).mono ?_; rintro r V5 ⟨rfl,hb⟩; have K5:=Zq (K4.out.call hb));have HB9:=Zq (HB8.out.seq hb);have HCX:=Zq (Zst V5 (HS.out V5 K5.out.below) HP.out (HL.out.below (HB2.out _ K5.out.below)) (List.replicate k vNil) (List.replicate k 0) (.slice (some ⟨g,0,none⟩) k k) (.slice (some ⟨gn,0,none⟩) k k) false (HXV.out V5 HB9.out) (HXI.out V5 HB9.out) (fun x hx=>by obtain ⟨-,rfl⟩:=List.mem_replicate.1 hx; exact Nat.zero_le _) (by rw [HK.out]; simp) (by rw [HK.out]; simp));rw [show checkM F (List.replicate k vNil) (List.replicate k 0)=true by rw [<-HK.out]; exact Zs6 F] at HCX;clear HSM HB8;obtain ⟨c0,c1,c2⟩:=(ZeG K5.out.tail.at0).1;obtain ⟨x0,x1,x2⟩:=(ZeG K5.out.at0).1;refine hK.out _ _ ⟨c0,c1,c2,x0,x1,x2⟩ (fun hHeld=>?_);try simp only [Act.put,List.setIfInBounds_toArray,List.set_cons_zero,List.set_cons_succ]
 clear hK KK c0 c1 c2 x0 x1 x2 K4 hb;repeat (first
  | (refine Zs2 (v:=?_) rfl rfl (by kernel_rfl) (by kernel_rfl) (by kernel_rfl) (fun _ _ _ h=>h) (by rfl) ?_ (by assumption) ?_; rotate_left; (focus (intro w hSw; (try dsimp only at hSw); go_simp; (try with_reducible rfl); done)); try simp only [Act.put,List.setIfInBounds_toArray,List.set_cons_zero,List.set_cons_succ])
  | fail)
 refine Zs3 rfl rfl (by kernel_rfl) (by rfl) (fun KK hK=>?_);go_simp;go_wp2_with (go_at_call 23; refine (HCX.out).mono ?_; rintro r V6 ⟨rfl,hb⟩; have K6:=Zq (K5.out.call hb));clear HCX HB9;obtain ⟨c0,c1,c2⟩:=(ZeG K6.out.tail.at0).1;obtain ⟨x0,x1,x2⟩:=(ZeG K6.out.at0).1;refine hK.out _ _ ⟨c0,c1,c2,x0,x1,x2⟩ (fun hHeld=>?_);try simp only [Act.put,List.setIfInBounds_toArray,List.set_cons_zero,List.set_cons_succ]
 clear hK KK c0 c1 c2 x0 x1 x2 K5 hb;repeat (first
  | (refine Zs2 (v:=?_) rfl rfl (by kernel_rfl) (by kernel_rfl) (by kernel_rfl) (fun _ _ _ h=>h) (by rfl) ?_ (by assumption) ?_; rotate_left; (focus (intro w hSw; (try dsimp only at hSw); go_simp; (try with_reducible rfl); done)); try simp only [Act.put,List.setIfInBounds_toArray,List.set_cons_zero,List.set_cons_succ])
  | fail)
 refine Zs3 rfl rfl (by kernel_rfl) (by rfl) (fun KK hK=>?_);go_simp;go_wp2_with (go_at_call 15; refine (HS1.out _ (HB2.out _ K6.out.below)).mono ?_; rintro r V7 ⟨hb,s2,n2,rfl,ho1,hi1⟩; have K7:=Zq (K6.out.call hb));have HPS:=Zq (Zte vs ns (.slice sa vs.length sc) s2 (.slice ia ns.length ic) n2 cl V7 (HV.out V7 (HB2.out _ K7.out.below)) ho1.toV (HI1.out V7 (HB2.out _ K7.out.below)) (hi1.toV (by have:=HNL.out; omega)) (by have:=HVL.out; omega) (by have:=HNL.out; omega));unfold yesPost at HPS;clear ho1 hi1;obtain ⟨c0,c1,c2⟩:=(ZeG K7.out.tail.at0).1;obtain ⟨x0,x1,x2⟩:=(ZeG K7.out.at0).1;refine hK.out _ _ ⟨c0,c1,c2,x0,x1,x2⟩ (fun hHeld=>?_);try simp only [Act.put,List.setIfInBounds_toArray,List.set_cons_zero,List.set_cons_succ]
 clear hK KK c0 c1 c2 x0 x1 x2 K6 hb;refine Zs3 rfl rfl (by kernel_rfl) (by rfl) (fun KK hK=>?_);go_simp;go_wp2_with (go_at_call 27; refine (HPS.out).mono ?_; rintro r V8 ⟨rfl,hb⟩; have K8:=Zq (K7.out.call hb));clear HPS;obtain ⟨c0,c1,c2⟩:=(ZeG K8.out.tail.at0).1;obtain ⟨x0,x1,x2⟩:=(ZeG K8.out.at0).1;refine hK.out _ _ ⟨c0,c1,c2,x0,x1,x2⟩ (fun hHeld=>?_);try simp only [Act.put,List.setIfInBounds_toArray,List.set_cons_zero,List.set_cons_succ]
 clear hK KK c0 c1 c2 x0 x1 x2 K7 hb;repeat (first
  | (refine Zs2 (v:=?_) rfl rfl (by kernel_rfl) (by kernel_rfl) (by kernel_rfl) (fun _ _ _ h=>h) (by rfl) ?_ (by assumption) ?_; rotate_left; (focus (intro w hSw; (try dsimp only at hSw); go_simp; (try with_reducible rfl); done)); try simp only [Act.put,List.setIfInBounds_toArray,List.set_cons_zero,List.set_cons_succ])
  | fail)
 refine Zs3 rfl rfl (by kernel_rfl) (by rfl) (fun KK hK=>?_);go_simp;go_wp2_with (go_at_call 14; refine (HAW.out _ (HB2.out _ K8.out.below)).mono ?_; rintro r V9 ⟨rfl,hb⟩; have K9:=Zq (K8.out.call hb));obtain ⟨c0,c1,c2⟩:=(ZeG K9.out.tail.at0).1;obtain ⟨x0,x1,x2⟩:=(ZeG K9.out.at0).1;refine hK.out _ _ ⟨c0,c1,c2,x0,x1,x2⟩ (fun hHeld=>?_);try simp only [Act.put,List.setIfInBounds_toArray,List.set_cons_zero,List.set_cons_succ]
 clear hK KK c0 c1 c2 x0 x1 x2 K8 hb;repeat (first
  | (refine Zs2 (v:=?_) rfl rfl (by kernel_rfl) (by kernel_rfl) (by kernel_rfl) (fun _ _ _ h=>h) (by rfl) ?_ (by assumption) ?_; rotate_left; (focus (intro w hSw; (try dsimp only at hSw); go_simp; (try with_reducible rfl); done)); try simp only [Act.put,List.setIfInBounds_toArray,List.set_cons_zero,List.set_cons_succ])
  | fail)
 refine Zs4 (by kernel_rfl) ?_;clear hHeld;go_wp2;go_ret;exact ⟨rfl,HB2.out _ K9.out.below⟩
end Go.Proofs.YtikannmgllejfaaGreatDoor
