/- The walk of palaverref11. -/
import Derived.Test.YtpfhhikbaeknpaaGreatDoorKUE
import Derived.WalkMore
import Derived.BigQuiet
set_option maxHeartbeats 16000000
set_option maxRecDepth 1000000
set_option linter.all false
namespace Go.Proofs.YtpfhhikbaeknpaaGreatDoor
open Go.RowKit Pal
attribute [local go_sem ↓] Go.wp_at_zero Go.wp_at_succ
theorem Zn8 {W:World} {a:Option Addr} {n c m sz:Nat} {f:Nat→List Value} (h:SlV (gh W) (.slice a n c) m sz f) {i:Nat} (hi:i<m) {x0:Value} (h0:(f i)[0]?=some x0) :
 ∃ b off,a=some ⟨b,off,none⟩∧∀ j x,(f i)[j]?=some x→W.cell? ⟨b,off+i*sz+j,none⟩=some x:=by
 obtain ⟨a',cap',hv,hn,hc1,hc2,hx⟩:=h
 simp only [Value.slice.injEq] at hv
 obtain ⟨rfl,rfl,rfl⟩:=hv
 obtain ⟨b,off,he,-⟩:=hx i 0 x0 hi h0
 subst he
 refine ⟨b,off,rfl,fun j y hj=>?_⟩
 obtain ⟨b2,off2,he2,hc⟩:=hx i j y hi hj
 cases he2
 rw [Zad] at hc
 rw [show off+i*sz+j=off+(sz*i+j) by rw [Nat.mul_comm]; omega]; exact hc
theorem Zn9 {h:GH} {v:Value} {m sz:Nat} {f:Nat→List Value} (s:SlV h v m sz f):∃ a c,v = .slice a m c:=by obtain ⟨a,c,hv,_⟩:=s; exact ⟨a,c,hv⟩
theorem Zoa (W:World) (o:Obj):(W.alloc o).drew.heap[W.heap.size]?=some o:=heap_alloc_new W o
theorem Zob (l:List Fd) (v:Value) (w:World) (hl:l.length≤1000000) (hS:∀ f∈l,Short f) (hF:FdsV (gh w) v l) :
 Calls Tryz.prog 20 #[v] w (refNewPost l w):=by
 obtain ⟨a,cap,rfl⟩:=hF.form
 have HF:=Zq hF
 have HSH:=Zq hS
 have HNMD:=Zq (Zl5 l (.slice a l.length cap) w hl hS hF)
 clear hF hS
 obtain ⟨n,hn⟩:∃ n,l.length=n:=⟨_,rfl⟩
 rw [hn] at HNMD HF ⊢
 have HN:=Zq hn
 by_cases h0:l.length<1∨24<l.length
 · have HM:Hid (newM l = .error (0,11)):=Zq (by unfold newM; rw [if_pos h0])
   rw [hn] at h0
   clear hn hl
   rcases h0 with h0|h0
   · obtain rfl:n=0:=by omega
     go_in
     go_wp2_with fail
     try rw [Exit.noGoto_ret]
     exact bodyPost_ret (v := .tuple #[.pointer none,.int .i64 ((0:Nat):Int),.int .i64 11]) (by simp [results,Tryz.results20,go_sem]) rfl (Zn5 (Below.refl _ _) HM.out)
   · have q1:decide ((n:Int)<1)=false:=decide_eq_false (by omega)
     have q2:decide ((24:Int)<n)=true:=decide_eq_true (by omega)
     go_in
     go_wp2_with fail
     try rw [Exit.noGoto_ret]
     exact bodyPost_ret (v := .tuple #[.pointer none,.int .i64 ((0:Nat):Int),.int .i64 11]) (by simp [results,Tryz.results20,go_sem]) rfl (Zn5 (Below.refl _ _) HM.out)
 · have H0:=Zq h0
   rw [hn] at h0
   have q1:decide ((n:Int)<1)=false:=decide_eq_false (by omega)
   have q2:decide ((24:Int)<n)=false:=decide_eq_false (by omega)
   have hn24:n≤24:=by omega
   have hn1:1≤n:=by omega
   cases hno:namesOk [] 0 l with
   | some z =>
    obtain ⟨i,e⟩:=z
    have he:(e != 0)=true:=by have:=Zi5 l [] 0 _ hno; simp at this ⊢; omega
    have HM:Hid (newM l = .error (i,e)):=Zq (Zje H0.out hno)
    rw [hno] at HNMD
    unfold namedV at HNMD
    simp only at HNMD
    clear h0 hn hl hno
    go_in
    go_wp2_with fail
    refine HNMD.out.mono ?_
    rintro r W ⟨rfl,hb⟩
    have HB:=Zq hb
    clear hb
    go_wp2_with fail
    try rw [Exit.noGoto_ret]
    exact bodyPost_ret (v := .tuple #[.pointer none,.int .i64 i,.int .i64 e]) (by simp [results,Tryz.results20,go_sem]) rfl (Zn5 HB.out HM.out)
   | none =>
    rw [hno] at HNMD
    unfold namedV at HNMD
    simp only at HNMD
    have HNO:=Zq hno
    have HNOD:Hid (Fd.names l).Nodup:=Zq (by have:=(ZfI l [] 0 hno List.nodup_nil).1; simpa using this)
    clear h0 hn hl hno
    go_in
    go_wp2_with fail
    refine HNMD.out.mono ?_
    rintro r W0 ⟨rfl,hb0⟩
    have HB0:=Zq hb0
    obtain ⟨i0,hi,hz0,hz1,hz2⟩:=Zjr
    obtain ⟨news,hnews⟩:∃ z,l.flatMap inCells=z:=⟨_,rfl⟩
    obtain ⟨a',cap',hv,hnn,hc1,hc2,hx⟩:=HF.out.mono (Zah hb0)
    simp only [Value.slice.injEq] at hv
    obtain ⟨ha,-,hcp⟩:=hv
    subst ha
    subst hcp
    cases a with
    | none=>exact absurd (hnn rfl).1 (by have:=HN.out; omega)
    | some ad =>
     have H1:Hid (news.length=n*5):=Zq (by rw [←hnews,ZbV inCells 5 Zjs,HN.out])
     have H2:Hid (∀ j u,news[j]?=some u→W0.cell? (ad.add j)=some u):=Zq (by
      intro j u hj
      rw [←hnews] at hj
      have hjl:=(List.getElem?_eq_some_iff.1 hj).1
      rw [ZbV inCells 5 Zjs] at hjl
      have hq:j / 5<l.length:=by omega
      have hgf:=ZbU inCells 5 Zjs l (j / 5) (j % 5) l[j / 5] (List.getElem?_eq_getElem hq) (by omega)
      rw [show 5*(j / 5)+j % 5=j by omega,hj] at hgf
      obtain ⟨b,off,he,hcc⟩:=hx (j / 5) (j % 5) u hq (by show (inCells (l.getD (j / 5) noFd))[j % 5]?=some u; rw [ZfB hq]; exact hgf.symm)
      cases he
      rw [Zad] at hcc
      have e1:(⟨b,off,none⟩:Addr).add j=⟨b,off+j,none⟩:=by unfold Addr.add; split<;>simp_all
      rw [e1,show off+j=off+(5*(j / 5)+j % 5) by omega]; exact hcc)
     have H3:Hid (∀ u∈news,u.oneCell'=true):=Zq (by
      intro u hu
      rw [←hnews] at hu
      obtain ⟨f,_,hf⟩:=List.mem_flatMap.1 hu
      have h:(inCells f).all Value.oneCell'=true:=rfl
      exact List.all_eq_true.1 h u hf)
     have HNW:=Zq hnews
     clear hb0 hx hnn hc1 hc2 hnews HNMD
     go_wp2_with (at_builtin; refine Zab rfl _ _ 25 rfl 27 i0 _ 5 72 Tryz.underlying25 hi hz0 hz1 hz2 rfl (by decide) rfl (Row.nil T0 2 W0 27 5) ad n cap news rfl H1.out H2.out H3.out ?c4 ?c5 ?_)
     case c4=>unfold maxLen; omega
     case c5=>omega
     intro v' t' w' hr he _
     have hr2:Row t' 2 w' 27 5 v' l.length (l.flatMap inCells):=by rw [HNW.out,HN.out]; simpa using hr
     have HD0:=Zq (DF.start hr2 (((Evo.below HB0.out (fun _ _=>rfl)).trans he:Evo T0 w t' w' (·=2))))
     obtain ⟨va,vc,rfl⟩:=hr2.form
     have HBG:Hid (w.heap.size≤w'.heap.size):=Zq (Nat.le_trans HB0.out.size he.size)
     rw [HN.out] at HD0
     clear hr he hr2 hi hz0 hz1 hz2 H1 H2 H3 HNW
     rw [HN.out]
     go_wp2_with fail
     generalize w'.alloc (.cells #[.slice va n vc,.slice none 0 0,.slice none 0 0,.slice none 0 0,.slice none 0 0,.slice none 0 0,.slice none 0 0,.slice none 0 0,.slice none 0 0] 79)=W1 at *
     generalize w'.heap.size=b at *
     go_loopg [8] n (fun gk i wr=>∃ (k:Nat) (t:Tag) (ev hv:Nat→Value) (el:Nat→List OV) (hl:Nat→List Bool) (xs:List XV),i = .int .i64 k∧k+gk=n∧xs.length=k∧Hid (DF w l b t (.slice va n vc) ev hv el hl wr)∧Hid (Cols el hl xs 0 noX)∧Hid (readAll (Fd.names l) (Fd.types l) 0 l=joinX (xs.map x3) (readAll (Fd.names l) (Fd.types l) k (l.drop k))))
     case atStart=>exact ⟨0,_,_,_,_,_,[],rfl,by omega,rfl,HD0,Zq Cols.start,Zq (Zfu _).symm⟩
     case round =>
      obtain ⟨k,t,ev,hv,el,hl,xs,rfl,hg,hxk,HD,HC,HR⟩:=hrel
      obtain ⟨go,hgo⟩:∃ X,X=gk:=⟨_,rfl⟩
      subst hgo
      by_cases hlt:k<n
      · obtain ⟨f,hf⟩:∃ f,l[k]?=some f:=⟨_,List.getElem?_eq_getElem (by have:=HN.out; omega)⟩
        have HSF:=Zq (HSH.out f (List.mem_of_getElem? hf))
        have HDR:Hid (l.drop k=f::l.drop (k+1)):=Zq (by rw [List.drop_eq_getElem_cons (by have:=HN.out; omega),(List.getElem?_eq_some_iff.1 hf).2])
        have HFK:=Zq hf
        clear hf
        go_wp2_with fail
        go_loopg [9] 3 (fun g2 i2 W=>∃ (q:Nat) (t:Tag) (ev hv:Nat→Value) (el:Nat→List OV) (hl:Nat→List Bool) (x:XV),i2 = .int .i64 q∧q+g2=3∧Hid (DF w l b t (.slice va n vc) ev hv el hl W)∧Hid (Cols el hl xs q x)∧Hid (PutOk l f q x))
        case atStart=>exact ⟨0,t,ev,hv,el,hl,noX,rfl,by omega,HD,HC,Zq (fun j hj=>by omega)⟩
        case round =>
         obtain ⟨q,t2,ev2,hv2,el2,hl2,x,rfl,hg2,HD2,HC2,HP2⟩:=hrel
         by_cases hq:q<3
         · have hlen:=HC2.out.len hq
           have HPUT:=Zq (ZnN l b k q f _ _ _ _ _ w wr t2 HD2.out hq HFK.out HSF.out (by rw [HN.out]; exact hn24) (by omega) (by omega))
           unfold putPost at HPUT
           cases hm:putM (Fd.names l) (Fd.types l) (wantK f q) (textK f q) with
           | error e =>
            rw [hm] at HPUT
            simp only at HPUT
            have hrd:=HP2.out.bad hq hm
            have he:(e != 0)=true:=by have:=ZiW hrd; simpa using this
            have HM:Hid (newM l = .error (k,e)):=Zq (ZiX H0.out HNO.out (by rw [HR.out,HDR.out,Zfw hrd]; rfl))
            clear hm hrd hlen
            go_wp2_with fail
            refine HPUT.out.mono ?_
            rintro r W3 ⟨hb3,rfl⟩
            have HB3:=Zq hb3
            clear hb3
            go_wp2_with fail
            try rw [Exit.noGoto_ret]
            exact bodyPost_ret (v := .tuple #[.pointer none,.int .i64 k,.int .i64 e]) (by simp [results,Tryz.results20,go_sem]) rfl (Zn5 HB3.out HM.out)
           | ok o =>
            rw [hm] at HPUT
            simp only at HPUT
            have HPM:=Zq hm
            clear hm hlen
            go_wp2_with fail
            refine HPUT.out.mono ?_
            rintro r W3 ⟨hb3,rfl,t3,ev3,hv3,o3,ho3,hd3⟩
            have HD3:=Zq hd3
            have HC3:=Zq (HC2.out.put hq o3)
            have HP3:=Zq (HP2.out.put hq (o:=o3) (by rw [HPM.out,ho3]))
            clear hb3 hd3 ho3 HPUT
            go_wp2_with fail
            go_roundg (gk - 1)
            case rel=>exact ⟨q+1,t3,ev3,hv3,_,_,_,by go_num,by omega,HD3,HC3,HP3⟩
            case measure=>omega
         · obtain rfl:q=3:=by omega
           have HGD:=Zq HP2.out.good
           go_wp2_with fail
           go_roundg (go - 1)
           case rel=>exact ⟨k+1,t2,ev2,hv2,el2,hl2,xs++[x],by go_num,by omega,by rw [List.length_append,hxk]; rfl,HD2,Zq HC2.out.next,Zq (by rw [HR.out,HDR.out,Zfv HGD.out,Zft,List.map_append]; rfl)⟩
           case measure=>omega
      · obtain rfl:k=n:=by omega
        have hes:readAll (Fd.names l) (Fd.types l) 0 l = .ok (xs.map x3):=by
         rw [HR.out,←HN.out,List.drop_length]
         simp [readAll,joinX]
        have HES:=Zq hes
        have HRB:=Zq (HD.out.rb HC.out)
        have HB2:=Zq HD.out.below
        have HXK:=Zq hxk
        obtain ⟨N,hN⟩:∃ N,(xs.map x3).map (needM (Fd.names l))=N:=⟨_,rfl⟩
        have HNN:=Zq hN.symm
        have HND0:=Zq (Nd.start (N:=N) HD.out.box)
        obtain ⟨W2,hW2⟩:∃ X,X=wr:=⟨_,rfl⟩
        subst hW2
        clear hes hN hxk HR HD HC
        go_wp2_with fail
        go_loopg [11] k (fun gk i wr=>∃ (j:Nat) (t:Tag) (nv:Value) (nds:List Value),i = .int .i64 j∧j+gk=k∧nds.length=j∧Hid (Nd W2 b (.slice va k vc) ev hv N t nv nds (.slice none 0 0) [] wr))
        case atStart=>exact ⟨0,_,_,[],rfl,by omega,rfl,HND0⟩
        case round =>
         obtain ⟨j,t3,nv,nds,rfl,hg3,hnj,HI⟩:=hrel
         obtain ⟨g3,hg3'⟩:∃ X,X=gk:=⟨_,rfl⟩
         subst hg3'
         obtain ⟨na,nc,rfl⟩:=HI.out.outer.form
         have HRW:=Zq (HRB.out.mono (HI.out.le.trans (Zae _ _)))
         obtain ⟨⟨b0,b1,-,-,b4,-,-,b7,-⟩,f7,-⟩:=ZnY HI.out.box
         by_cases hj:j<k
         · have hjx:j<xs.length:=by have:=HXK.out; omega
           obtain ⟨x,hx⟩:∃ x,xs[j]?=some x:=⟨_,List.getElem?_eq_getElem hjx⟩
           have hxd:xs.getD j noX=x:=by simp [List.getD,hx]
           obtain ⟨ha,hc,hhv⟩:=Zn9 (HRW.out.hs 0 (by decide))
           obtain ⟨ea,ec,hev⟩:=Zn9 (HRW.out.es 0 (by decide))
           rw [HXK.out] at hhv hev
           rw [hhv] at b4
           rw [hev] at b1
           have h17':=HRW.out.hs 0 (by decide)
           rw [hhv] at h17'
           obtain ⟨hb,ho,rfl,h17⟩:=Zn8 h17' hjx rfl
           replace h17:=h17 0 _ rfl
           rw [hxd,Nat.mul_one,Nat.add_zero] at h17
           have HNX:Hid (N[nds.length]?=some (needM (Fd.names l) (x3 x))):=Zq (by rw [hnj,HNN.out,List.getElem?_map,List.getElem?_map,hx]; rfl)
           have HNJ:=Zq hnj
           have HXJ:=Zq hx
           have HXD:=Zq hxd
           have HJX:=Zq hjx
           clear h17' hx hxd hnj hjx
           cases hx1:x.1 with
           | none =>
            have h17b:wr.cell? ⟨hb,ho+j,none⟩=some (.bool false):=by rw [h17]; show some (Value.bool (x.1).isSome)=_; rw [hx1]; rfl
            have HNX0:Hid (N[nds.length]?=some []):=Zq (by rw [HNX.out]; unfold needM x3 ovE; simp [hx1])
            clear h17 hx1
            obtain ⟨j0,ji,jz0,jz1,jz2⟩:=ZiE
            go_wp2_with (at_builtin; refine Zac rfl _ _ 67 rfl 32 j0 (.slice none 0 0) 1 24 Tryz.underlying67 ji jz0 jz1 jz2 rfl (by decide) rfl HI.out.outer #[.slice none 0 0] 32 (0,0) _ rfl (by simp) rfl ?c1 ?c2 ?c3 ?_)
            case c1=>simp [Value.oneCell']
            case c2=>have:=HNJ.out; unfold maxLen; omega
            case c3=>have:=HNJ.out; omega
            intro v' t' w' hr he
            obtain ⟨a',c',rfl⟩:=hr.form
            have HI9:=Zq (HI.out.next HNX0.out hr he)
            obtain ⟨⟨-,-,-,-,-,-,-,m7,-⟩,n7,-⟩:=ZnY ((he.block _ HI.out.lt (by rw [HI.out.bt]; decide)).trans HI.out.box)
            clear hr he b0 b1 b4 b7 f7 h17b
            go_wp2_with fail
            go_roundg (g3 - 1)
            case rel=>exact ⟨j+1,t',_,nds++[.slice none 0 0],by go_num,by omega,by rw [List.length_append,HNJ.out,List.length_singleton],HI9⟩
            case measure=>omega
           | some y =>
            obtain ⟨e,ev1⟩:=y
            have h17b:wr.cell? ⟨hb,ho+j,none⟩=some (.bool true):=by rw [h17]; show some (Value.bool (x.1).isSome)=_; rw [hx1]; rfl
            have hkv:KV (gh wr) ev1 e.ks:=(HRW.out.ka 0 (by decide) x (List.mem_of_getElem? HXJ.out) (e,ev1) hx1).1
            obtain ⟨xa,xc,rfl⟩:=hkv.form
            have hE:=HRW.out.es 0 (by decide)
            rw [hev] at hE
            have hexo:exOf (prj 0 (xs.getD j noX))=[.int .i64 e.op,.int .i64 e.n,.string ⟨e.s.toArray⟩,.slice xa e.ks.length xc]:=by rw [HXD.out]; show exOf x.1=_; rw [hx1]; rfl
            obtain ⟨eb,eo,rfl,he5⟩:=Zn8 hE HJX.out (x0 := .int .i64 e.op) (by simp only [hexo]; rfl)
            simp only [hexo] at he5
            have d0:=he5 0 _ rfl
            have d1:=he5 1 _ rfl
            have d2:=he5 2 _ rfl
            have d3:=he5 3 _ rfl
            rw [Nat.add_zero] at d0
            obtain ⟨hfine,hchk,hnms⟩:=Zn7 HES.out HXJ.out hx1
            have hnam:=ZnQ e (.agg #[.int .i64 e.op,.int .i64 e.n,.string ⟨e.s.toArray⟩,.slice xa e.ks.length xc]) wr hchk ⟨_,rfl,hkv⟩
            have HMD:=Zq (ZiI e)
            obtain ⟨m,hm⟩:∃ m,namesM e=m:=⟨_,rfl⟩
            rw [hm] at hnam HMD
            have HNX1:Hid (N[nds.length]?=some (posM (Fd.names l) m)):=Zq (by rw [HNX.out]; unfold needM x3 ovE; simp [hx1,hm])
            have hml:m.length≤128:=by
             obtain ⟨z,hz⟩:∃ z,chk e 1 128=some z:=Option.isSome_iff_exists.1 hchk
             have:=ZeY e 1 128 z hz
             rw [←hm]; omega
            unfold namePost at hnam
            have HNAM:=Zq hnam
            clear h17 hx1 hkv hE hexo he5 hfine hchk hnms hnam hm
            go_wp2_with fail
            refine HNAM.out.mono ?_
            rintro r W5 ⟨hb5,sv,rfl,hsv⟩
            have HSV:=Zq hsv.strs
            obtain ⟨sa,sc,rfl⟩:=hsv.strs.form
            have HI5:=Zq (HI.out.call hb5)
            have HB5:Hid (Below w.heap.size w W5):=Zq ((HB2.out.trans ((ZnX HI.out.evo).toBelow' HBG.out HB2.out.size)).seq hb5)
            clear hb5 hsv b0 b1 b4 b7 f7 h17b d0 d1 d2 d3 HI HNAM
            generalize t3.ext wr.heap.size 0=t5 at *
            go_wp2_with fail
            go_loopg [12,14] k (fun g4 u12 i4 W=>∃ (p:Nat) (tI:Tag),i4 = .int .i64 p∧p+g4=k∧Hid (Row tI 1 W 3 1 u12 (posJ (Fd.names l) m p).length ((posJ (Fd.names l) m p).map (Value.int .i64)))∧Hid (Evo T0 W5 tI W (·≠0)))
            case atStart=>exact ⟨0,T0,rfl,by omega,Zq (Row.nil _ _ _ _ _),Zq (Evo.refl _ _ _)⟩
            case round =>
             obtain ⟨p,tI,rfl,hg4,HW,HEI⟩:=hrel
             obtain ⟨g4,hg4'⟩:∃ X,X=gk:=⟨_,rfl⟩
             subst hg4'
             by_cases hp:p<k
             · obtain ⟨f,hf⟩:∃ f,l[p]?=some f:=⟨_,List.getElem?_eq_getElem (by have:=HN.out; omega)⟩
               have hnp:(Fd.names l).getD p []=f.n:=by simp [List.getD,Fd.names,List.getElem?_map,hf]
               have HPS:=Zq (Zn0 (Fd.names l) m p)
               rw [hnp] at HPS
               have HFP:=Zq hf
               have hpl:(posJ (Fd.names l) m p).length≤100:=Nat.le_trans (Zn1 _ _ _) (by omega)
               obtain ⟨q0,hq0⟩:∃ q,posJ (Fd.names l) m p=q:=⟨_,rfl⟩
               rw [hq0] at HPS HW hpl
               clear hf hnp hq0
               go_wp2_with fail
               go_loopg [12,15] m.length (fun g5 u12 i5 W=>∃ (c:Nat) (tI:Tag),i5 = .int .i64 c∧c+g5=m.length∧Hid (Row tI 1 W 3 1 u12 (q0++(if (m.take c).contains f.n=true then [(p:Int)] else [])).length ((q0++(if (m.take c).contains f.n=true then [(p:Int)] else [])).map (Value.int .i64)))∧Hid (Evo T0 W5 tI W (·≠0)))
               case atStart=>exact ⟨0,tI,rfl,by omega,Zq (by simpa using HW.out),HEI⟩
               case round =>
                obtain ⟨c,tJ,rfl,hg5,HV,HEJ⟩:=hrel
                have hbj:Below W5.heap.size W5 wr:=HEJ.out.toBelow (by simp)
                have HBJ:=Zq hbj
                by_cases hcm:c<m.length
                · obtain ⟨sb,so,rfl,cs⟩:=(HSV.out.mono (Zah hbj)).at (List.getElem?_eq_getElem hcm)
                  unfold strV at cs
                  obtain ⟨fb,fo,he6,cf,-⟩:=(HF.out.mono (Zah (HB5.out.seq hbj))).at HFP.out
                  cases he6
                  have HT2:Hid (m.take (c+1)=m.take c++[m[c]]):=Zq (by rw [List.take_add_one,List.getElem?_eq_getElem hcm]; rfl)
                  have HNC:Hid (m[c]=f.n→(m.take c).contains f.n=false):=Zq (fun he=>by
                   rw [←he]
                   have h1:=HMD.out
                   have h2:m=m.take c++m[c]::m.drop (c+1):=by rw [←List.drop_eq_getElem_cons hcm,List.take_append_drop]
                   simp only [List.contains_eq_mem,decide_eq_false_iff_not]
                   intro h3
                   rw [h2,List.nodup_append] at h1
                   exact h1.2.2 _ h3 _ List.mem_cons_self rfl)
                  clear hbj
                  generalize m[c]=s at *
                  by_cases hs:s=f.n
                  · have hq:(s == f.n)=true:=by simp [hs]
                    have hnc:=HNC.out hs
                    rw [hnc] at HV
                    simp only [Bool.false_eq_true,if_false,List.append_nil] at HV
                    have HCY:Hid ((m.take (c+1)).contains f.n=true):=Zq (by rw [HT2.out,hs]; simp)
                    clear hs hnc
                    go_upto_region 28 with fail
                    go_quiet (fail)
                    obtain ⟨j1,ji,jz0,jz1,jz2⟩:=Zf5
                    have HVN:=Zq (fun n=>HV.out.keep ((Evo.refl tJ wr (fun _=>False)).drewN n) (fun h=>h))
                    clear cs cf
                    go_wp2_with (at_builtin; refine Zac rfl _ _ 32 rfl 3 j1 (.int .i64 0) 1 8 Tryz.underlying32 ji jz0 jz1 jz2 rfl (by decide) rfl (HVN.out _) #[.int .i64 p] 3 (0,0) _ rfl (by simp) rfl ?c1 ?c2 ?c3 ?_)
                    case c1=>simp [Value.oneCell']
                    case c2=>unfold maxLen; omega
                    case c3=>omega
                    intro v' t' w' hr he
                    have HR8:Hid (Row t' 1 w' 3 1 v' (q0++[(p:Int)]).length ((q0++[(p:Int)]).map (Value.int .i64))):=Zq (by rw [List.map_append,List.length_append]; exact hr)
                    have HE8:Hid (Evo T0 W5 t' w' (·≠0)):=Zq ((HEJ.out.drewN _).trans (he.mono fun _ h=>by rw [h]; decide))
                    clear hr he
                    go_wp2_with fail
                    go_roundg (gk - 1)
                    case rel=>exact ⟨c+1,t',by go_num,by omega,Zq (by rw [HCY.out,if_pos rfl]; exact HR8.out),HE8⟩
                    case measure=>omega
                  · have hq:(s == f.n)=false:=by simp [hs]
                    have HCN:Hid ((m.take (c+1)).contains f.n=(m.take c).contains f.n):=Zq (by
                     rw [HT2.out]
                     have:¬ f.n=s:=fun e=>hs e.symm
                     simp [this])
                    clear hs
                    go_upto_region 28 with fail
                    go_quiet (fail)
                    go_wp2_with fail
                    go_roundg (gk - 1)
                    case rel=>exact ⟨c+1,tJ,by go_num,by omega,Zq (by rw [HCN.out]; exact HV.out.keep ((Evo.refl tJ wr (fun _=>False)).drewN _) (fun h=>h)),Zq (HEJ.out.drewN _)⟩
                    case measure=>omega
                · obtain rfl:c=m.length:=by omega
                  rw [List.take_length] at HV
                  go_wp2_with fail
                  go_roundg (g4 - 1)
                  case rel=>exact ⟨p+1,tJ,by go_num,by omega,Zq (by rw [HPS.out]; exact HV.out),HEJ⟩
                  case measure=>omega
             · obtain rfl:p=k:=by omega
               have hpm:posJ (Fd.names l) m p=posM (Fd.names l) m:=by
                rw [←ZnZ]; congr 1; unfold Fd.names; rw [List.length_map,HN.out]
               rw [hpm] at HW
               have hown:=Row.toOwn HW.out HEI.out (by decide)
               obtain ⟨t6,hr6,he6⟩:=Row.ofOwn t5 (10+nds.length) (·=10+nds.length) (HEI.out.toBelow (by simp)) hown
               have HI6:=Zq (HI5.out.grow hr6 he6)
               have hql:=ZfD (Fd.names l) m
               obtain ⟨qa,qc,rfl⟩:=HW.out.form
               obtain ⟨⟨-,-,-,-,-,-,-,b7,-⟩,f7,-⟩:=ZnY HI6.out.box
               obtain ⟨j0,ji,jz0,jz1,jz2⟩:=ZiE
               clear hpm hown hr6 he6 HI5 HW HEI
               go_wp2_with (at_builtin; refine Zac rfl _ _ 67 rfl 32 j0 (.slice none 0 0) 1 24 Tryz.underlying67 ji jz0 jz1 jz2 rfl (by decide) rfl HI6.out.outer #[.slice qa (posM (Fd.names l) m).length qc] 32 (0,0) _ rfl (by simp) rfl ?c1 ?c2 ?c3 ?_)
               case c1=>simp [Value.oneCell']
               case c2=>have:=HNJ.out; unfold maxLen; omega
               case c3=>have:=HNJ.out; omega
               intro v' t' w' hr he
               obtain ⟨a',c',rfl⟩:=hr.form
               have HI9:=Zq (HI6.out.next HNX1.out hr he)
               obtain ⟨⟨-,-,-,-,-,-,-,m7,-⟩,n7,-⟩:=ZnY ((he.block _ HI6.out.lt (by rw [HI6.out.bt]; decide)).trans HI6.out.box)
               clear hr he b7 f7
               go_wp2_with fail
               go_roundg (g3 - 1)
               case rel=>exact ⟨j+1,t',_,nds++[.slice qa (posM (Fd.names l) m).length qc],by go_num,by omega,by rw [List.length_append,HNJ.out,List.length_singleton],HI9⟩
               case measure=>omega
         · obtain rfl:j=k:=by omega
           have hNl:N.length=j:=by rw [HNN.out,List.length_map,List.length_map,HXK.out]
           have hshort:∀ (i:Nat) (q:List Int),N[i]?=some q→q.length≤80:=by
            intro i q hq
            rw [HNN.out,List.getElem?_map] at hq
            cases hx:(xs.map x3)[i]? with
            | none=>rw [hx] at hq; cases hq
            | some x =>
             rw [hx] at hq
             simp only [Option.map_some,Option.some.injEq] at hq
             subst hq
             unfold needM
             split
             · simp
             · exact Nat.le_trans (ZfD _ _) (by unfold Fd.names; rw [List.length_map,HN.out]; omega)
           obtain ⟨W3,hW3⟩:∃ X,X=wr:=⟨_,rfl⟩
           subst hW3
           have hrv:RowsV (gh W3) (.slice na nds.length nc) N:=RowsV.ofRowAny HI.out.outer (by rw [hnj,hNl]) (by omega) (fun i u q hu hq=>IntsV.ofRowAny (HI.out.inner i u q hu hq) (by have:=hshort i q hq; omega))
           have HPO:=Zq (fun W hW=>Zif (gh W3) (j:Int) (.slice na nds.length nc) N W hW hrv)
           have HPS:=Zq (fun W hW=>Zig (gh W3) (j:Int) (.slice na nds.length nc) N W hW hrv)
           have HSHO:=Zq hshort
           have HNJ:=Zq hnj
           have HB3:Hid (Below w.heap.size w W3):=Zq (HB2.out.trans ((ZnX HI.out.evo).toBelow' HBG.out HB2.out.size))
           unfold OrderPost at HPO
           clear hnj hNl hshort hrv b0 b1 b4 f7
           cases hord:(Graph.orderS j N).2 with
           | false =>
            obtain ⟨x,r0,hst,hx0⟩:=ZfC (n:=j) (xss:=N) (by omega) (by rw [hord]; simp)
            obtain ⟨xn,rfl⟩:=Int.eq_ofNat_of_zero_le hx0
            have HM:Hid (newM l = .error (xn,10)):=Zq (by
             have h:=ZiY H0.out HNO.out HES.out HNN.out (x:=(xn:Int)) (r:=r0) (by rw [HN.out,hord]; simp) (by rw [HN.out]; exact hst)
             simpa using h)
            have HO2:=Zq (HPO.out W3 (GH.le.refl _))
            rw [hord] at HO2
            unfold StuckPost at HPS
            rw [hst] at HPS
            clear hord hst hx0 HPO
            go_wp2_with fail
            refine HO2.out.mono ?_
            rintro r W4 ⟨ov,rfl,hov,hb4⟩
            obtain ⟨oa,oc,rfl,-⟩:=Zd0 hov
            have HB4:=Zq (HB3.out.seq hb4)
            obtain ⟨sl,hsl⟩:∃ n,(((xn:Nat):Int)::r0).length=n:=⟨_,rfl⟩
            have HSL:=Zq hsl
            have hsl0:0<sl:=by rw [←hsl]; simp
            have hsl1:(0:Int)<(sl:Int):=by omega
            obtain ⟨⟨-,-,-,-,-,-,-,m7,-⟩,-⟩:=ZnY ((hb4.block _ HI.out.lt).trans HI.out.box)
            clear hsl b7
            have HS5d:=Zq (HPS.out W4.drew (Zah hb4.drew))
            clear hov hb4 HPS HO2
            go_upto_region 33 with fail
            go_region_with (go_at_call 36; refine HS5d.out.mono ?_; rintro r W5 ⟨sv,rfl,hsv,hb5⟩; obtain ⟨sa,sc,hsve,-⟩:=Zd0 hsv; rw [HSL.out] at hsve; subst hsve; obtain ⟨sb,so,hsae,s0⟩:=ZdZ hsv (j:=0) rfl; subst hsae; rw [Nat.add_zero] at s0; have HB5:=Zq hb5; clear hsv hb5)
            all_goals
             have HB6:=Zq (HB4.out.drew.trans (HB5.out.mono (by have:=HB4.out.size; simpa using this)))
             clear HB5
             go_wp2_with fail
             try rw [Exit.noGoto_ret]
             refine bodyPost_ret (v := .tuple #[.pointer none,.int .i64 ((xn:Nat):Int),.int .i64 10]) (by simp [results,Tryz.results20,go_sem]) rfl (Zn5 ?_ HM.out)
             first|exact HB6.out|exact HB6.out.drew
           | true =>
            obtain ⟨L,hLL⟩:∃ L,(Graph.orderS j N).1=L:=⟨_,rfl⟩
            have HM:Hid (newM l = .ok ⟨l,xs.map x3,N,L.filter (hasF (xs.map x3))⟩):=Zq (by
             have h:=ZiZ H0.out HNO.out HES.out HNN.out (by rw [HN.out]; exact hord)
             rw [HN.out,hLL] at h
             exact h)
            have hin:∀ x∈L,0≤x∧x<(j:Int):=by
             intro x hx
             have h1:=(ZiM (n:=j) (xss:=N) (by omega) hord).1
             rw [hLL] at h1
             have h2:=(Graph.ord_st j N j).mem x (by rw [←h1]; exact hx)
             exact ⟨h2.1,h2.2.1⟩
            have hLl:L.length≤100:=by
             have h1:=(ZiM (n:=j) (xss:=N) (by omega) hord).1
             have h2:=Zid (j:Int) N j
             rw [←h1,hLL] at h2
             simp at h2
             omega
            have HIN:=Zq hin
            have HO2:=Zq (HPO.out W3 (GH.le.refl _))
            rw [hord,hLL] at HO2
            clear hord hLL HPO HPS hin
            go_wp2_with fail
            refine HO2.out.mono ?_
            rintro r W4 ⟨ov,rfl,hov,hb4⟩
            obtain ⟨oa,oc,rfl,-⟩:=Zd0 hov
            have hbx4:=(hb4.block _ HI.out.lt).trans HI.out.box
            have HN4:Hid (No W4 b (.slice va j vc) ev hv (.slice na nds.length nc) (tagG b) (.slice none 0 0) [] W4):=Zq ⟨Evo.refl _ _ _,hbx4,by simp [tagG],Row.nil _ _ _ _ _⟩
            have HOV:Hid (IntsV (gb b W4) (.slice oa L.length oc) L):=Zq (Zn3 hov hbx4 (Zn4 HRB.out ⟨_,_,_,rfl⟩ ⟨_,_,_,rfl⟩))
            have HB4:=Zq hb4
            clear hov hb4 hbx4 HO2 b7
            go_wp2_with fail
            go_loopg [18] L.length (fun gk i wr=>∃ (p:Nat) (t:Tag) (ov:Value) (q:List Int),i = .int .i64 p∧p+gk=L.length∧Hid (No W4 b (.slice va j vc) ev hv (.slice na nds.length nc) t ov q wr)∧Hid (q=(L.take p).filter (hasF (xs.map x3))))
            case atStart=>exact ⟨0,_,_,[],rfl,by omega,HN4,Zq rfl⟩
            case round =>
             obtain ⟨p,t,ov,q,rfl,hgp,HJ,HQ⟩:=hrel
             obtain ⟨ova,ovc,rfl⟩:=HJ.out.row.form
             have hql:q.length≤1000:=by rw [HQ.out]; exact Nat.le_trans (List.length_filter_le _ _) (by rw [List.length_take]; omega)
             by_cases hp:p<L.length
             · obtain ⟨xn,hxn,hxj⟩:∃ xn:Nat,L[p]?=some (xn:Int)∧xn<j:=by
                obtain ⟨h1,h2⟩:=HIN.out L[p] (List.getElem_mem hp)
                obtain ⟨xn,hx⟩:=Int.eq_ofNat_of_zero_le h1
                exact ⟨xn,by rw [List.getElem?_eq_getElem hp,hx],by omega⟩
               have hjx:xn<xs.length:=by have:=HXK.out; omega
               obtain ⟨x,hx⟩:∃ x,xs[xn]?=some x:=⟨_,List.getElem?_eq_getElem hjx⟩
               have hxd:xs.getD xn noX=x:=by simp [List.getD,hx]
               have hgw:(gb b W2).le (gh wr):=((((ZnX HI.out.evo).gb).trans ((But.below HB4.out:But b W3 W4).gb)).trans ((ZnX HJ.out.evo).gb)).trans (Zdu b wr)
               obtain ⟨ha,hc,hhv⟩:=Zn9 (HRB.out.hs 0 (by decide))
               rw [HXK.out] at hhv
               have h17':=(HRB.out.mono hgw).hs 0 (by decide)
               rw [hhv] at h17'
               obtain ⟨hb,ho,rfl,h17⟩:=Zn8 h17' hjx rfl
               replace h17:=h17 0 _ rfl
               rw [hxd,Nat.mul_one,Nat.add_zero] at h17
               obtain ⟨⟨-,-,-,-,b4,-,-,-,b8⟩,-,f8⟩:=ZnY HJ.out.box
               rw [hhv] at b4
               have HHF:=Zq (Zi4 hx)
               have HT:Hid (L.take (p+1)=L.take p++[(xn:Int)]):=Zq (by rw [List.take_add_one,hxn]; rfl)
               obtain ⟨ob,oo,rfl,co⟩:=ZdZ (HOV.out.mono ((ZnW HJ.out.evo).trans (Zae _ _))) hxn
               have hxi:(0:Int)≤(xn:Int):=by omega
               have hxi2:(xn:Int)<(j:Int):=by omega
               clear hxn hx hxd h17' hgw hjx
               cases hxs:x.1 with
               | none =>
                have h17b:wr.cell? ⟨hb,ho+xn,none⟩=some (.bool false):=by rw [h17]; show some (Value.bool (x.1).isSome)=_; rw [hxs]; rfl
                rw [hxs] at HHF
                simp only [Option.isSome_none] at HHF
                clear hxs h17
                go_upto_region 37 with fail
                go_quiet (fail)
                go_wp2_with fail
                go_roundg (gk - 1)
                case rel=>exact ⟨p+1,t,_,q,by go_num,by omega,Zq (HJ.out.drewN _),Zq (by rw [HQ.out,HT.out,List.filter_append]; simp [HHF.out])⟩
                case measure=>omega
               | some y =>
                have h17b:wr.cell? ⟨hb,ho+xn,none⟩=some (.bool true):=by rw [h17]; show some (Value.bool (x.1).isSome)=_; rw [hxs]; rfl
                rw [hxs] at HHF
                simp only [Option.isSome_some] at HHF
                clear hxs h17
                go_upto_region 37 with fail
                go_quiet (fail)
                generalize hwd:wr.drewN _=Wd
                have HJd:Hid (No W4 b (.slice va j vc) ev hv (.slice na nds.length nc) t (.slice ova q.length ovc) q Wd):=Zq (by rw [←hwd]; exact HJ.out.drewN _)
                have b8d:Wd.cell? ⟨b,8,none⟩=some (.slice ova q.length ovc):=by rw [←hwd]; exact b8
                have f8d:Wd.frozen? ⟨b,8,none⟩=false:=by rw [←hwd]; exact f8
                have cod:Wd.cell? ⟨ob,oo+p,none⟩=some (.int .i64 ((xn:Nat):Int)):=by rw [←hwd]; exact co
                have hbw:b<Wd.heap.size:=HJd.out.lt
                clear hwd h17b b4 b8 f8 co
                go_upto_region 38 with fail
                go_region_law (first|(with_reducible refine Zn2 (z:=((xn:Nat):Int)) rfl _ _ rfl rfl rfl rfl rfl hql ((HJd.out.alloc _).drew) (Zoa _ _) ?_; intro a3 c3 w3 m0 m1 hp; have HP3:=Zq hp; clear hp)|(with_reducible refine Zn2 (z:=((xn:Nat):Int)) rfl _ _ rfl rfl rfl rfl rfl hql (HJd.out.alloc _) (heap_alloc_new _ _) ?_; intro a3 c3 w3 m0 m1 hp; have HP3:=Zq hp; clear hp)|(with_reducible refine Zn2 (z:=((xn:Nat):Int)) rfl _ _ rfl rfl rfl rfl rfl hql ((HJd.out.drew).alloc _) (heap_alloc_new _ _) ?_; intro a3 c3 w3 m0 m1 hp; have HP3:=Zq hp; clear hp))
                all_goals
                 clear m0 m1 b8d f8d cod
                 obtain ⟨t9,h9⟩:=HP3.out
                 have H9:Hid (No W4 b (.slice va j vc) ev hv (.slice na nds.length nc) t9 (.slice a3 (q.length+1) c3) (q++[(xn:Int)]) _):=Zq h9
                 clear h9 HP3
                 go_wp2_with fail
                 go_roundg (gk - 1)
                 case rel=>exact ⟨p+1,t9,_,_,by go_num,by omega,H9,Zq (by rw [HQ.out,HT.out,List.filter_append]; simp [HHF.out])⟩
                 case measure=>omega
             · obtain rfl:p=L.length:=by omega
               have hqe:q=L.filter (hasF (xs.map x3)):=by rw [HQ.out,List.take_length]
               have HSE:=Zq (Zn6 HB2.out HBG.out HRB.out HI.out HB4.out HJ.out (by rw [HXK.out,HN.out]) (by rw [HNJ.out,HN.out]) HSHO.out hql)
               have HM2:Hid (newM l = .ok ⟨l,xs.map x3,N,q⟩):=Zq (by rw [hqe]; exact HM.out)
               clear hqe hql
               go_wp2_with fail
               try rw [Exit.noGoto_ret]
               refine bodyPost_ret (v := .tuple #[.pointer (some ⟨b,0,none⟩),.int .i64 0,.int .i64 0]) (by simp [results,Tryz.results20,go_sem]) rfl ?_
               unfold refNewPost
               rw [HM2.out]
               exact ⟨HSE.out.2,_,rfl,HSE.out.1⟩
end Go.Proofs.YtpfhhikbaeknpaaGreatDoor
