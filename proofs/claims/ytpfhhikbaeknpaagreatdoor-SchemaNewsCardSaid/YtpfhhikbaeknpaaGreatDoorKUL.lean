/- What a form and the document's tell of one field. -/
import Derived.Test.YtpfhhikbaeknpaaGreatDoorKR2
import Derived.Deep.MidRow
import Derived.Test.YtpfhhikbaeknpaaGreatDoorKUH
import Derived.Test.YtpfhhikbaeknpaaGreatDoorKUF
set_option maxHeartbeats 4000000
set_option maxRecDepth 1000000
set_option linter.all false
namespace Go.Proofs.YtpfhhikbaeknpaaGreatDoor
open Go.RowKit Pal
attribute [local go_sem ↓] Go.wp_at_zero Go.wp_at_succ
theorem ZoT {h:GH} {o:OV} (hk:∀ y,o=some y→KV h y.2 y.1.ks):∀ v∈exOf o,v.oneCell'=true:=by
 cases o with
 | none=>intro v hv; simp [exOf] at hv; rcases hv with rfl|rfl|rfl|rfl<;>rfl
 | some y =>
  obtain ⟨a,c,hv⟩:=(hk y rfl).form
  obtain ⟨e,v⟩:=y
  simp only at hv
  subst hv
  intro v hv; simp [exOf] at hv; rcases hv with rfl|rfl|rfl|rfl<;>rfl
theorem ZoU {h:GH} (f:Fd) {a b c:OV} (ha:∀ y,a=some y→KV h y.2 y.1.ks) (hb:∀ y,b=some y→KV h y.2 y.1.ks) (hc:∀ y,c=some y→KV h y.2 y.1.ks) (va:Option Addr) (n vc:Nat):∀ v∈fdCells f a b c (.slice va n vc),v.oneCell'=true:=by
 intro v hv
 unfold fdCells at hv
 simp only [List.mem_append] at hv
 rcases hv with (((h|h)|h)|h)|h
 · simp at h; rcases h with rfl|rfl|rfl|rfl|rfl<;>rfl
 · exact ZoT ha v h
 · exact ZoT hb v h
 · exact ZoT hc v h
 · simp at h; rcases h with rfl|rfl|rfl|rfl<;>rfl
theorem ZoV:∃ d,Tryz.prog.underlying 65=some d∧d.isRow=true:=by
 have h:(Tryz.prog.underlying 65).map TypeDesc.isRow=some true:=by kernel_rfl
 cases hq:Tryz.prog.underlying 65 with
 | none=>rw [hq] at h; cases h
 | some d=>rw [hq] at h; exact ⟨d,rfl,by simpa using h⟩
theorem ZoW:(Tryz.prog.info? 65).map (·.size)=some 21:=by kernel_rfl
theorem ZoX {b:Nat} {F:Form} (w:World) (s:SchV (gh w) b F) (h24:F.l.length≤24) (hni:∀ i,i<F.l.length→∃ nd,F.needs[i]?=some nd) :
 Calls Tryz.prog 40 #[.pointer (some ⟨b,0,none⟩)] w (textsPost (Fd.names F.l) w):=by
 obtain ⟨g,cap,mb,ov,xs,nds,p⟩:=s
 obtain ⟨b0,-,-⟩:=Zjj (h:=gh w) p
 have HP:=Zq p
 have HNI:=Zq hni
 obtain ⟨n,hn⟩:∃ n,F.l.length=n:=⟨_,rfl⟩
 rw [hn] at b0 h24
 obtain ⟨dd,hdd,hddr⟩:=ZoV
 have HDD:=Zq hdd
 have HDR:=Zq hddr
 obtain ⟨i0,hi,hz0,hz1,hz2⟩:=Zf4
 have HN:=Zq hn
 unfold textsPost
 clear p hn hni hdd hddr
 go_in
 go_wp2_with fail
 clear b0
 go_loopg [3,11] n (fun g2 u3 i W=>∃ (k:Nat) (t:Tag),i = .int .i64 k∧k+g2=n∧Hid (Row t 1 W 9 1 u3 k (cellsS (Fd.names (F.l.take k))))∧Hid (Evo T0 w t W (·≠0)))
 case atStart=>exact ⟨0,T0,rfl,by omega,Zq (Row.nil _ _ _ _ _),Zq (Evo.refl _ _ _)⟩
 case round =>
  obtain ⟨k,t,rfl,hg,HR,HE⟩:=hrel
  have hb:Below w.heap.size w wr:=HE.out.toBelow (by simp)
  by_cases hlt:k<n
  · obtain ⟨f,hf⟩:∃ f,F.l[k]?=some f:=⟨_,List.getElem?_eq_getElem (by have:=HN.out; omega)⟩
    obtain ⟨x,hx⟩:∃ x,xs[k]?=some x:=⟨_,List.getElem?_eq_getElem (by rw [HP.out.xlen]; have:=HN.out; omega)⟩
    obtain ⟨v,hv⟩:∃ v,nds[k]?=some v:=⟨_,List.getElem?_eq_getElem (by rw [HP.out.nlen]; have:=HN.out; omega)⟩
    obtain ⟨nd,hnd⟩:=HNI.out k (by have:=HN.out; omega)
    obtain ⟨va,vc,rfl,-⟩:=Zd0 (HP.out.needs k v nd hv hnd)
    have hxd:xs.getD k noX=x:=by simp [List.getD,hx]
    have hnd2:nds.getD k nilS = .slice va nd.length vc:=by simp [List.getD,hv]
    have hka:=HP.out.ka x (List.mem_of_getElem? hx)
    have HT:Hid (F.l.take (k+1)=F.l.take k++[f]):=Zq (by rw [List.take_add_one,hf]; rfl)
    obtain ⟨C,hC⟩:∃ C,fdCells f x.1 x.2.1 x.2.2 (.slice va nd.length vc)=C:=⟨_,rfl⟩
    have hcl:wr.rangeAt g (k*21) C:=fun j u hu=>Zjk (HP.out.mono (Zah hb)) hf (j:=j) (v:=u) (by rw [hxd,hnd2,hC]; exact hu)
    have h21:C.length=21:=by rw [←hC]; exact ZfZ _ _ _ _ _
    have hone:∀ u∈C,u.oneCell'=true:=by rw [←hC]; exact ZoU f hka.1 hka.2.1 hka.2.2 va nd.length vc
    have hc0:C[0]?=some (.string ⟨f.n.toArray⟩):=by rw [←hC]; exact (ZoI _ _ _ _ _).1
    have hsz:C.toArray.size=21:=by simp [h21]
    have HRA:=Zq hcl
    have hki:(0:Int)≤(k:Int):=by omega
    have hst:=run_storeAt_new (P:=Tryz.prog) wr 65 #[.string ⟨#[]⟩,.int .i64 0,.string ⟨#[]⟩,.string ⟨#[]⟩,.string ⟨#[]⟩,.int .i64 0,.int .i64 0,.string ⟨#[]⟩,.slice none 0 0,.int .i64 0,.int .i64 0,.string ⟨#[]⟩,.slice none 0 0,.int .i64 0,.int .i64 0,.string ⟨#[]⟩,.slice none 0 0,.bool false,.bool false,.bool false,.slice none 0 0] C.toArray (by rw [hsz]; exact ZoW) (by rw [hsz]; rfl) (all_oneCell_toArray hone)
    have HST:=Zq hst
    have hnew:(wr.alloc (.cells C.toArray 65)).cell? ⟨wr.heap.size,0,none⟩=some (.string ⟨f.n.toArray⟩):=by
     rw [cell_of_row _ _ 0 C.toArray _ (0,0) (heap_alloc_last wr _)]; rw [List.getElem?_toArray]; exact hc0
    have HRN:=Zq (HR.out.keep ((Evo.refl t wr (fun _=>False)).alloc 0 (.cells C.toArray 65)) (fun h=>h))
    have HEN:Hid (Evo T0 w (t.set wr.heap.size 0) (wr.alloc (.cells C.toArray 65)) (·≠0)):=Zq (HE.out.trans ((Evo.refl t wr (·≠0)).alloc 0 _))
    have H21:Hid ((Tryz.prog.info? 65).map (·.size)=some C.length):=Zq (by rw [h21]; exact ZoW)
    clear hst HR HE hb hf hx hv hnd hxd hnd2 hka hcl h21 hone hc0 hC hsz
    go_wp2_with (first|(refine wpList_load_mid (op:=⟨_,_,_,_,_,_⟩) rfl _ _ rfl _ _ rfl C _ HRA.out HDD.out HDR.out H21.out ?_)|(refine Zay (o:=⟨none,_,_,_,_,_⟩) rfl rfl _ _ _ rfl rfl rfl HST.out ?_)|(at_builtin; refine Zac rfl _ _ 58 rfl 9 i0 _ 1 16 Tryz.underlying58 hi hz0 hz1 hz2 rfl (by decide) rfl HRN.out #[.string ⟨f.n.toArray⟩] 9 (0,0) _ rfl ?c0 rfl ?c1 ?c2 ?c3 ?_))
    case c0=>simp
    case c1=>first|rfl|(intro u hu; obtain rfl:=List.mem_singleton.1 hu; rfl)
    case c2=>unfold maxLen; omega
    case c3=>omega
    intro v' t' w' hr he
    have HR2:Hid (Row t' 1 w' 9 1 v' (k+1) (cellsS (Fd.names (F.l.take (k+1))))):=Zq (by
     rw [HT.out]; unfold Fd.names; rw [List.map_append,Ze2]; simp only [List.map_cons,List.map_nil]; exact hr)
    have HE2:Hid (Evo T0 w t' w' (·≠0)):=Zq (HEN.out.trans (he.mono fun _ h=>by rw [h]; decide))
    clear hr he hnew HRA H21 HST HRN HEN
    go_wp2_with fail
    go_roundg (gk - 1)
    case rel=>exact ⟨k+1,t',by go_num,by omega,HR2,HE2⟩
    case measure=>omega
  · obtain rfl:k=n:=by omega
    have HB:=Zq hb
    clear hb
    go_wp2
    go_ret
    have hr:=HR.out
    rw [←HN.out,List.take_length] at hr
    refine ⟨HB.out,_,rfl,?_⟩
    rw [Ze1] at hr
    exact (StrsV.ofRow hr).1
attribute [local go_sem ↓] Go.wp_at_zero Go.wp_at_succ
theorem ZoY (l:List Bs) (va vb:Value) (w:World) (hl:l.length≤100000) (hA:StrsV (gh w) va l) (hB:StrsV (gh w) vb l) :
 Calls Tryz.prog 39 #[va,vb] w fun e w'=>e = .returned (.bool true)∧Below w.heap.size w w':=by
 obtain ⟨a,c,rfl⟩:=hA.form
 obtain ⟨b,d,rfl⟩:=hB.form
 obtain ⟨n,hn⟩:∃ n,l.length=n:=⟨_,rfl⟩
 have HN:=Zq hn
 rw [hn] at hA hB hl ⊢
 have HA:=Zq hA
 have HB:=Zq hB
 clear hA hB hn
 go_in
 go_wp2
 go_loopg [5] n (fun g i wr=>∃ k:Nat,i = .int .i64 k∧k+g=n∧Hid (Below w.heap.size w wr))
 case atStart=>exact ⟨0,rfl,by omega,Zq (Below.refl _ _)⟩
 case round =>
  obtain ⟨k,rfl,hg,HW⟩:=hrel
  by_cases hlt:k<n
  · have hkl:k<l.length:=by have:=HN.out; omega
    obtain ⟨b1,o1,rfl,c0⟩:=(HA.out.mono (Zah HW.out)).at (List.getElem?_eq_getElem hkl)
    obtain ⟨b2,o2,rfl,d0⟩:=(HB.out.mono (Zah HW.out)).at (List.getElem?_eq_getElem hkl)
    unfold strV at c0 d0
    generalize l[k]=s at *
    have q1:(s == s)=true:=beq_self_eq_true s
    go_wp2
    go_region
    go_wp2
    go_roundg (gk - 1)
    case rel=>exact ⟨k+1,by go_num,by omega,Zq HW.out.drew⟩
    case measure=>omega
  · go_wp2
    go_ret
    exact ⟨rfl,HW.out⟩
theorem ZoZ (va vb:Value) (xs:List Int) (w:World) (hx:IntsV (gh w) va xs) (hy:IntsV (gh w) vb xs) :
 Calls Tryz.prog 24 #[va,vb] w fun e w'=>e = .returned (.bool true)∧Below w.heap.size w w' :=
 (Zjh (gh w) va vb xs xs w (GH.le.refl _) hx hy).mono fun e W ⟨h1,n,h2⟩=>⟨by rw [h1,decide_eq_true rfl],by rw [h2]; exact below_drewN _ n⟩
def outE (o:OV):Ex:=match o with|none => .mk 0 0 [] []|some y=>y.1
def exOut (e:Ex) (u:Bool) (w:World) (r:Ending) (w':World):Prop :=
 Below w.heap.size w w'∧∃ a c,r = .returned (.tuple #[.agg #[.int .i64 e.op,.int .i64 e.n,.string ⟨e.s.toArray⟩,.slice a e.ks.length c],.bool u])∧KV (gh w') (.slice a e.ks.length c) e.ks
theorem Zo0 {o:OV} {w:World} {r:Ending} {w':World} (h:exprPost o w r w'):exOut (outE o) o.isSome w r w':=by
 unfold exprPost at h
 cases o with
 | none=>exact ⟨h.1,none,0,h.2,KV.nil _⟩
 | some y =>
  obtain ⟨hb,a,c,hr,hk⟩:=h
  exact ⟨hb,a,c,hr,hk.mono (ZdK _ _)⟩
theorem Zo1 {x y:OV} (h:ovE x=ovE y):outE x=outE y∧x.isSome=y.isSome:=by
 cases x with
 | none=>cases y with
  | none=>exact ⟨rfl,rfl⟩
  | some b=>cases h
 | some a=>cases y with
  | none=>cases h
  | some b =>
   have e:a.1=b.1:=by simpa [ovE] using h
   exact ⟨e,rfl⟩
theorem SlV.cell1 {W:World} {v:Value} {n:Nat} {f:Nat→List Value} (s:SlV (gh W) v n 1 f) {j:Nat} (hj:j<n) {x:Value} (hx:(f j)[0]?=some x) :
 ∃ b off cap,v = .slice (some ⟨b,off,none⟩) n cap∧W.cell? ⟨b,off+j,none⟩=some x:=by
 obtain ⟨a,cap,hv,_,_,_,h⟩:=s
 obtain ⟨b,off,rfl,hc⟩:=h j 0 x hj hx
 refine ⟨b,off,cap,hv,?_⟩
 rw [show 1*j+0=j by omega] at hc
 exact hc
theorem SlV.cell4 {W:World} {v:Value} {n:Nat} {f:Nat→List Value} (s:SlV (gh W) v n 4 f) {j:Nat} (hj:j<n) {x0 x1 x2 x3:Value} (hx:f j=[x0,x1,x2,x3]) :
 ∃ b off cap,v = .slice (some ⟨b,off,none⟩) n cap∧W.cell? ⟨b,off+j*4,none⟩=some x0∧W.cell? ⟨b,off+j*4+1,none⟩=some x1∧W.cell? ⟨b,off+j*4+2,none⟩=some x2∧W.cell? ⟨b,off+j*4+3,none⟩=some x3:=by
 obtain ⟨a,cap,hv,_,_,_,h⟩:=s
 obtain ⟨b,off,rfl,h0⟩:=h j 0 x0 hj (by rw [hx]; rfl)
 refine ⟨b,off,cap,hv,?_,?_,?_,?_⟩
 · rw [show 4*j+0=j*4 by omega] at h0; exact h0
 · obtain ⟨b',off',e,h1⟩:=h j 1 x1 hj (by rw [hx]; rfl)
   cases e
   rw [show off+(4*j+1)=off+j*4+1 by omega] at h1; exact h1
 · obtain ⟨b',off',e,h1⟩:=h j 2 x2 hj (by rw [hx]; rfl)
   cases e
   rw [show off+(4*j+2)=off+j*4+2 by omega] at h1; exact h1
 · obtain ⟨b',off',e,h1⟩:=h j 3 x3 hj (by rw [hx]; rfl)
   cases e
   rw [show off+(4*j+3)=off+j*4+3 by omega] at h1; exact h1
theorem Zo2 {W:World} {b:Nat} {F:Form} {lv:Value} {ev hv:Nat→Value} {nv ov:Value} {xs:List XV} {nds:List Value} (r:RefP (gh W) b F lv ev hv nv ov xs nds) {i k:Nat} {x:XV} (hx:xs[i]?=some x) (hk:k<3) :
 ∃ eb eo ec a c,ev k = .slice (some ⟨eb,eo,none⟩) F.l.length ec∧KV (gh W) (.slice a (outE (prj k x)).ks.length c) (outE (prj k x)).ks∧W.cell? ⟨eb,eo+i*4,none⟩=some (.int .i64 (outE (prj k x)).op)∧W.cell? ⟨eb,eo+i*4+1,none⟩=some (.int .i64 (outE (prj k x)).n) ∧
  W.cell? ⟨eb,eo+i*4+2,none⟩=some (.string ⟨(outE (prj k x)).s.toArray⟩)∧W.cell? ⟨eb,eo+i*4+3,none⟩=some (.slice a (outE (prj k x)).ks.length c):=by
 have hi:i<xs.length:=(List.getElem?_eq_some_iff.1 hx).1
 have hxd:xs.getD i noX=x:=by simp [List.getD,hx]
 have hka:=r.rb.ka k hk x (List.mem_of_getElem? hx)
 have hs:=r.rb.es k hk
 have hl:=r.xlen
 cases ho:prj k x with
 | none =>
  obtain ⟨eb,eo,ec,h1,h2⟩:=hs.cell4 (j:=i) hi (x0 := .int .i64 0) (x1 := .int .i64 0) (x2 := .string ⟨#[]⟩) (x3 := .slice none 0 0) (by simp only [hxd,ho]; rfl)
  exact ⟨eb,eo,ec,none,0,by rw [←hl]; exact h1,KV.nil _,h2⟩
 | some y =>
  obtain ⟨e,v⟩:=y
  obtain ⟨a,c,hv⟩:=(hka _ ho).1.form
  simp only at hv
  subst hv
  obtain ⟨eb,eo,ec,h1,h2⟩:=hs.cell4 (j:=i) hi (x0 := .int .i64 e.op) (x1 := .int .i64 e.n) (x2 := .string ⟨e.s.toArray⟩) (x3 := .slice a e.ks.length c) (by simp only [hxd,ho]; rfl)
  exact ⟨eb,eo,ec,a,c,by rw [←hl]; exact h1,(hka _ ho).1,h2⟩
theorem Zo3 {W:World} {b:Nat} {F:Form} {lv:Value} {ev hv:Nat→Value} {nv ov:Value} {xs:List XV} {nds:List Value} (r:RefP (gh W) b F lv ev hv nv ov xs nds) {i k:Nat} {x:XV} (hx:xs[i]?=some x) (hk:k<3) :
 ∃ hb ho hc,hv k = .slice (some ⟨hb,ho,none⟩) F.l.length hc∧W.cell? ⟨hb,ho+i,none⟩=some (.bool (prj k x).isSome):=by
 have hi:i<xs.length:=(List.getElem?_eq_some_iff.1 hx).1
 have hxd:xs.getD i noX=x:=by simp [List.getD,hx]
 obtain ⟨hb,ho,hc,h1,h2⟩:=(r.rb.hs k hk).cell1 (j:=i) hi (x := .bool (prj k x).isSome) (by simp only [hxd]; rfl)
 exact ⟨hb,ho,hc,by rw [←r.xlen]; exact h1,h2⟩
theorem Zo4 {W:World} {b:Nat} {F:Form} {lv:Value} {ev hv:Nat→Value} {nv ov:Value} {xs:List XV} {nds:List Value} (r:RefP (gh W) b F lv ev hv nv ov xs nds) {i:Nat} (hi:i<F.l.length) {nd:List Int} (hn:F.needs[i]?=some nd) :
 ∃ nb no nc v,nv = .slice (some ⟨nb,no,none⟩) F.l.length nc∧W.cell? ⟨nb,no+i,none⟩=some v∧IntsV (gh W) v nd:=by
 have hl:=r.nlen
 obtain ⟨v,hv⟩:∃ v,nds[i]?=some v:=⟨_,List.getElem?_eq_getElem (by omega)⟩
 have hxd:nds.getD i nilS=v:=by simp [List.getD,hv]
 obtain ⟨nb,no,nc,h1,h2⟩:=r.outer.cell1 (j:=i) (by omega) (x:=v) (by simp only [hxd]; rfl)
 exact ⟨nb,no,nc,v,by rw [←hl]; exact h1,h2,r.needs i v nd hv hn⟩
theorem Zo5 {b b2:Nat} {F:Form} {h h':GH} {g cap mb:Nat} {ov:Value} {xs:List XV} {nds:List Value} {lv:Value} {ev hv:Nat→Value} {nv ov':Value} {xs':List XV} {nds':List Value} (p:SchP h b F g cap mb ov xs nds) (r:RefP h' b2 F lv ev hv nv ov' xs' nds') {i:Nat} {x x':XV}
 (hx:xs[i]?=some x) (hx':xs'[i]?=some x') {k:Nat} (hk:k<3):outE (prj k x)=outE (prj k x')∧(prj k x).isSome=(prj k x').isSome:=by
 have e:xs.map x3=xs'.map x3:=by rw [←p.es,←r.es]
 have e1:(xs.map x3)[i]?=(xs'.map x3)[i]?:=by rw [e]
 rw [List.getElem?_map,List.getElem?_map,hx,hx'] at e1
 have e2:x3 x=x3 x':=by simpa using e1
 unfold x3 at e2
 simp only [Prod.mk.injEq] at e2
 rcases (by omega:k=0∨k=1∨k=2) with rfl|rfl|rfl
 · exact Zo1 e2.1
 · exact Zo1 e2.2.1
 · exact Zo1 e2.2.2
theorem Zo6:∀ {ns:List Bs} {i:Nat} {s:Bs},ns.Nodup→ns[i]?=some s→posT ns s=some i
 | [],i,s,_,h=>by simp at h
 | m::r,0,s,_,h=>by
  simp at h
  subst h
  rw [posT,if_pos rfl]
 | m::r,i+1,s,hd,h=>by
  simp only [List.getElem?_cons_succ] at h
  have hm:¬ m=s:=by
   rintro rfl
   exact (List.nodup_cons.1 hd).1 (List.mem_of_getElem? h)
  rw [posT,if_neg hm,Zo6 (List.nodup_cons.1 hd).2 h]
  rfl
def ThinF (F:Form):Prop:=∀ y∈F.es,(∀ e,y.1=some e→Thin e)∧(∀ e,y.2.1=some e→Thin e)∧∀ e,y.2.2=some e→Thin e
theorem Zo7 {l:List Fd} {F:Form} (h:newM l = .ok F):ThinF F:=by
 obtain ⟨-,-,hr,-⟩:=ZiL h
 intro y hy
 obtain ⟨i,hi⟩:=List.getElem?_of_mem hy
 have hlen:=Zfx l 0 _ hr
 have hil:=(List.getElem?_eq_some_iff.1 hi).1
 obtain ⟨f,hf⟩:∃ f,l[i]?=some f:=⟨_,List.getElem?_eq_getElem (by omega)⟩
 have hx:=Zfy l 0 _ hr i f y hf hi
 obtain ⟨h1,h2,h3⟩:=ZfA hx
 exact ⟨fun e he=>Zou (ZiQ (e:=e) (by rw [h1,he])).2.1,fun e he=>Zou (ZiQ (e:=e) (by rw [h2,he])).2.1,fun e he=>Zou (ZiQ (e:=e) (by rw [h3,he])).2.1⟩
theorem Zo8 {h:GH} {b:Nat} {F:Form} {g cap mb:Nat} {ov:Value} {xs:List XV} {nds:List Value} (p:SchP h b F g cap mb ov xs nds) (ht:ThinF F) {i:Nat} {x:XV} (hx:xs[i]?=some x) {k:Nat} (hk:k<3) :
 ∀ y,prj k x=some y→KV h y.2 y.1.ks∧Thin y.1:=by
 have hm:x3 x∈F.es:=by rw [p.es]; exact List.mem_map.2 ⟨x,List.mem_of_getElem? hx,rfl⟩
 obtain ⟨t1,t2,t3⟩:=ht _ hm
 obtain ⟨k1,k2,k3⟩:=p.ka x (List.mem_of_getElem? hx)
 rcases (by omega:k=0∨k=1∨k=2) with rfl|rfl|rfl
 · intro y hy
   exact ⟨k1 y hy,t1 _ (by show ovE x.1=_; rw [show x.1=some y from hy]; rfl)⟩
 · intro y hy
   exact ⟨k2 y hy,t2 _ (by show ovE x.2.1=_; rw [show x.2.1=some y from hy]; rfl)⟩
 · intro y hy
   exact ⟨k3 y hy,t3 _ (by show ovE x.2.2=_; rw [show x.2.2=some y from hy]; rfl)⟩
structure Told (b:Nat) (i:Int) (w:World) (f:Fd) (u:Bool) (e:Nat→Ex) (uk:Nat→Bool):Prop where
 fld:∀ W,Below w.heap.size w W→Calls Tryz.prog 42 #[.pointer (some ⟨b,0,none⟩),.int .i64 i] W fun r w'=>r = .returned (.tuple #[fdV f,.bool u])∧Below W.heap.size W w'
 fo:∀ W,Below w.heap.size w W→Calls Tryz.prog 43 #[.pointer (some ⟨b,0,none⟩),.int .i64 i] W (exOut (e 0) (uk 0) W)
 ru:∀ W,Below w.heap.size w W→Calls Tryz.prog 44 #[.pointer (some ⟨b,0,none⟩),.int .i64 i] W (exOut (e 1) (uk 1) W)
 sh:∀ W,Below w.heap.size w W→Calls Tryz.prog 45 #[.pointer (some ⟨b,0,none⟩),.int .i64 i] W (exOut (e 2) (uk 2) W)
theorem Zo9 {b:Nat} {F:Form} {w:World} (s:SchV (gh w) b F) {i:Int} (hi:i<0∨(F.l.length:Int)≤i):Told b i w noFd false (fun _ => .mk 0 0 [] []) (fun _=>false):=by
 have hs:∀ W,Below w.heap.size w W→SchV (gh W) b F:=fun W hb=>s.mono (Zah hb)
 exact ⟨fun W hb=>ZoK W (hs W hb) i hi,
  fun W hb=>(ZoC none i W (fun W2 hb2=>ZoB i 0 W2 (hs W2 (hb.seq hb2)) hi)).mono fun _ _ h=>Zo0 h,
  fun W hb=>(ZoD none i W (fun W2 hb2=>ZoB i 1 W2 (hs W2 (hb.seq hb2)) hi)).mono fun _ _ h=>Zo0 h,
  fun W hb=>(ZoE none i W (fun W2 hb2=>ZoB i 2 W2 (hs W2 (hb.seq hb2)) hi)).mono fun _ _ h=>Zo0 h⟩
theorem Zpa {b:Nat} {F:Form} {w:World} {g cap mb:Nat} {ov:Value} {xs:List XV} {nds:List Value} (p:SchP (gh w) b F g cap mb ov xs nds) (h24:F.l.length≤24) (ht:ThinF F) {i:Nat} {f:Fd} {x:XV} (hf:F.l[i]?=some f) (hx:xs[i]?=some x) :
 Told b i w f true (fun k=>outE (prj k x)) (fun k=>(prj k x).isSome):=by
 have hs:∀ W,Below w.heap.size w W→SchP (gh W) b F g cap mb ov xs nds:=fun W hb=>p.mono (Zah hb)
 exact ⟨fun W hb=>ZoJ W ⟨_,_,_,_,_,_,hs W hb⟩ i f hf h24,
  fun W hb=>(ZoC (prj 0 x) i W (fun W2 hb2=>Zpk (k:=0) (by decide) 0 rfl W2 (hs W2 (hb.seq hb2)) i x hx h24 (Zo8 (hs W2 (hb.seq hb2)) ht hx (by decide)))).mono fun _ _ h=>Zo0 h,
  fun W hb=>(ZoD (prj 1 x) i W (fun W2 hb2=>Zpk (k:=1) (by decide) 1 rfl W2 (hs W2 (hb.seq hb2)) i x hx h24 (Zo8 (hs W2 (hb.seq hb2)) ht hx (by decide)))).mono fun _ _ h=>Zo0 h,
  fun W hb=>(ZoE (prj 2 x) i W (fun W2 hb2=>Zpk (k:=2) (by decide) 2 rfl W2 (hs W2 (hb.seq hb2)) i x hx h24 (Zo8 (hs W2 (hb.seq hb2)) ht hx (by decide)))).mono fun _ _ h=>Zo0 h⟩
theorem Zpb {b:Nat} {F:Form} {g cap mb:Nat} {ov:Value} {xs:List XV} {nds:List Value} (W:World) (p:SchP (gh W) b F g cap mb ov xs nds) {i:Nat} {x:XV} (hx:xs[i]?=some x) (hi:i<F.l.length) (h24:F.l.length≤24) :
 Calls Tryz.prog 18 #[.pointer (some ⟨b,0,none⟩),.int .i64 i] W fun e w'=>e = .returned (.bool (!(prj 0 x).isSome))∧w'=W:=by
 obtain ⟨b0,b1,b2⟩:=Zjj (h:=gh W) p
 obtain ⟨f,hf⟩:∃ f,F.l[i]?=some f:=⟨_,List.getElem?_eq_getElem hi⟩
 have h17:=Zjk p hf (ZiF _ _ _ _ _).1
 have hxd:xs.getD i noX=x:=by simp [List.getD,hx]
 rw [hxd] at h17
 show Calls _ _ _ _ fun e w'=>e = .returned (.bool (!x.1.isSome))∧w'=W
 have q1:(0:Int)≤(i:Int):=by omega
 have q2:(i:Int)<(F.l.length:Int):=by omega
 clear p hf hx hxd
 generalize x.1.isSome=z at *
 generalize F.l.length=n at *
 go_in
 go_wp2
 go_ret
 exact ⟨rfl,rfl⟩
theorem Zpc {b:Nat} {F:Form} (W:World) (s:SchV (gh W) b F) {i:Nat} {f:Fd} (hf:F.l[i]?=some f) (hd:(Fd.names F.l).Nodup) (hl:f.n.length≤9223372036854775807) :
 Calls Tryz.prog 21 #[.pointer (some ⟨b,0,none⟩),.string ⟨f.n.toArray⟩] W fun e w'=>e = .returned (.tuple #[.int .i64 i,.bool true])∧w'=W:=by
 have e:posT (Fd.names F.l) f.n=some i:=Zo6 hd (by unfold Fd.names; rw [List.getElem?_map,hf]; rfl)
 exact (Zjo f.n W hl s).mono fun _ _ ⟨a,c⟩=>⟨by rw [a]; unfold findM; rw [e]; rfl,c.symm⟩
end Go.Proofs.YtpfhhikbaeknpaaGreatDoor
