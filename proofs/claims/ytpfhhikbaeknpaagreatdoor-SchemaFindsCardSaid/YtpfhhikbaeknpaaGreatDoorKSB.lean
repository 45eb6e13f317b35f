/- A form's order: each formula stands behind all that it needs; a field more at its end turns nothing of those ahead. No condition. -/
import Derived.Test.YtpfhhikbaeknpaaGreatDoorKSH
import Derived.Test.YtpfhhikbaeknpaaGreatDoorKGA
import Derived.Test.YtpfhhikbaeknpaaGreatDoorKSD
set_option linter.unusedSectionVars false
set_option linter.unusedSimpArgs false
set_option linter.unusedVariables false
namespace Go.Proofs.YtpfhhikbaeknpaaGreatDoor
open Go.RowKit Pal
attribute [local go_sem ↓] Go.wp_at_zero Go.wp_at_succ
structure FormOk (w:World) (g:Nat) (ns:List Bs) (x:XV):Prop where
 k:∀ e v,x.1=some (e,v)→KV (gb g w) v e.ks
 fine:∀ e v,x.1=some (e,v)→Fine e
 chk:∀ e v,x.1=some (e,v)→check e=true
 names:∀ e v,x.1=some (e,v)→∀ s∈namesM e,s∈ns
def needX (ns:List Bs) (x:XV):List Int:=needM ns (ovE x.1,ovE x.2.1,ovE x.2.2)
def linksPost (w:World) (g:Nat) (l:List Fd) (xs:List XV) (e:Ending) (W:World):Prop :=
 ∃ nv nds t,e = .returned nv∧nds.length=l.length∧Lk w g l xs (xs.map (needX (Fd.names l))) t nv nds nilS [] W
theorem needX_none {ns:List Bs} {x:XV} (h:x.1=none):needX ns x=[]:=by unfold needX needM ovE; rw [h]; rfl
theorem needX_some {ns:List Bs} {x:XV} {e:Ex} {v:Value} (h:x.1=some (e,v)):needX ns x=posM ns (namesM e):=by unfold needX needM ovE; rw [h]; rfl
theorem infoL1:∃ i0,Tryz.prog.info? 32=some i0∧i0.zero=some (.slice none 0 0)∧i0.size=1∧i0.bytes=24:=info_parts (show (Tryz.prog.info? 32).map (fun i=>(i.zero,i.size,i.bytes))=some (some (.slice none 0 0),1,24) by kernel_rfl)
theorem fd_has (f:Fd) (a b c:OV) (nv:Value):(fdCells f a b c nv)[17]?=some (.bool a.isSome)∧(fdCells f a b c nv)[18]?=some (.bool b.isSome)∧(fdCells f a b c nv)[19]?=some (.bool c.isSome):=by cases a<;>cases b<;>cases c<;>exact ⟨rfl,rfl,rfl⟩
theorem fd_form (f:Fd) (x:Ex × Value) (b c:OV) (nv:Value):(fdCells f (some x) b c nv)[5]?=some (.int .i64 x.1.op)∧(fdCells f (some x) b c nv)[6]?=some (.int .i64 x.1.n)∧(fdCells f (some x) b c nv)[7]?=some (.string ⟨x.1.s.toArray⟩)∧(fdCells f (some x) b c nv)[8]?=some x.2:=⟨rfl,rfl,rfl,rfl⟩
theorem gn_hz (t:Tag) (n:Nat) (W:World):(gn n W).le (hz (t.ext n 0) W):=fun b o hh=>by
 have h2:(if n≤b then W.heap[b]? else none)=some o:=hh
 by_cases hp:n≤b
 · rw [if_pos hp] at h2
   have e:t.ext n 0 b=0:=by unfold Tag.ext; rw [if_neg (by omega)]
   unfold hz
   rw [if_pos e]; exact h2
 · rw [if_neg hp] at h2; cases h2
theorem names_nodup (e:Ex):(namesM e).Nodup:=by
 have h:=namesM_sorted e
 rw [List.nodup_iff_pairwise_ne]
 refine h.imp ?_
 intro a b hab he
 subst he
 exact bs_irrefl _ hab
def LkL (w:World) (g:Nat) (l:List Fd) (xs:List XV) (N:List (List Int)) (L:List (Nat × Obj)) (sv:Value) (m:List Bs) (nv:Value) (nds:List Value) (cur:Value) (q:List Int) (W:World):Prop :=
 ∃ t,Lk w g l xs N t nv nds cur q W∧StrsV (hz t W) sv m∧∀ x∈L,t x.1=0∧W.heap[x.1]?=some x.2
section
variable {w W W' : World} {g : Nat} {l : List Fd} {xs : List XV} {N : List (List Int)} {L : List (Nat × Obj)} {sv : Value} {m : List Bs} {nv cur : Value} {nds : List Value} {q : List Int}
theorem LkL.alloc (h:LkL w g l xs N L sv m nv nds cur q W) (o:Obj):LkL w g l xs N ((W.heap.size,o)::L) sv m nv nds cur q (W.alloc o):=by
 obtain ⟨t,h1,hs,h2⟩:=h
 refine ⟨_,h1.new o,hs.mono (((Evo.refl t W (fun _=>False)).alloc 0 o).hz (fun h=>h)),fun x hx=>?_⟩
 rcases List.mem_cons.1 hx with rfl|hx
 · exact ⟨Tag.set_same _ _ _,heap_alloc_new _ _⟩
 · obtain ⟨q1,q2⟩:=h2 x hx
   have hl:=(Array.getElem?_eq_some_iff.1 q2).1
   exact ⟨(Tag.set_other _ _ _ (by omega)).trans q1,(Below.heap_alloc _ _ _ hl).trans q2⟩
theorem LkL.drew (h:LkL w g l xs N L sv m nv nds cur q W):LkL w g l xs N L sv m nv nds cur q W.drew:=by
 obtain ⟨t,h1,hs,h2⟩:=h
 exact ⟨t,h1.keep (Evo.refl _ _ _).drew,hs,h2⟩
theorem step_need {ops:Array Oper} {o:Oper} {y:Act} {K:Act→World→Prop} {Q:Exit→Act→World→Prop} {E:Prop} {g0 k:Nat} {p:Int} {f:Fd} (hgd:o.guard=none) (s x:Operand)
 (ho:o.op = .call { callee := .builtin .append,args:=#[s,x],argTypes:=#[32,32] })
 (hs:y.eval s=cur) (hx:y.eval x = .slice (some ⟨g0,0,none⟩) 1 1) (hk:nds.length=k) (hf:l[k]?=some f) (hq:q.length≤1000) (h:LkL w g l xs N L sv m nv nds cur q W) (hm:(g0,.cells #[.int .i64 p] 3 (0,0))∈L)
 (hK:∀ a' c' w',w'.cell? ⟨g,k*21+20,none⟩=some cur→w'.frozen? ⟨g,k*21+20,none⟩=false→LkL w g l xs N L sv m nv nds (.slice a' (q.length+1) c') (q++[p]) (w'.setCell ⟨g,k*21+20,none⟩ (.slice a' (q.length+1) c'))→K (y.put o.dst (.slice a' (q.length+1) c')) w') :
 if Region.wanted o (yielded ops y.tmps)=true then Oper.wp Tryz.prog o y W K Q else E:=by
 subst hk
 have hw:Region.wanted o (yielded ops y.tmps)=true:=by simp [Region.wanted,hgd]
 rw [if_pos hw]
 obtain ⟨t,h1,hsv,h2⟩:=h
 obtain ⟨i0,hi,hz0,hz1,hz2⟩:=infoI1
 obtain ⟨hg1,hg2⟩:=h2 _ hm
 obtain ⟨v',t',w',hrun,hr,he,_⟩:=run_append_row (P:=Tryz.prog) o.type 32 3 i0 (.int .i64 0) 1 8 Tryz.underlying32 hi hz0 hz1 hz2 rfl (by decide) h1.own ⟨g0,0,none⟩ 1 1 [.int .i64 p] rfl (one_add hg2) (by simp [Value.oneCell']) (by unfold maxLen; omega) (by omega)
 obtain ⟨a',c',rfl⟩:=hr.form
 have hr':Row t' (10+nds.length) w' 3 1 (.slice a' (q.length+1) c') (q++[p]).length ((q++[p]).map (Value.int .i64)):=by
  rw [List.map_append,List.length_append]; exact hr
 have hl:=h1.rows.lt
 have hg:g<W.heap.size:=hl
 have hc:=(h1.rows.keep (W':=w') (he.block _ hl (by rw [h1.gt]; omega))).cell hf (fd_need _ _ _ _ _)
 have e20:(nds++[cur]).getD nds.length nilS=cur:=by simp [List.getD]
 rw [e20] at hc
 have hg5:t' g=5:=(he.tag _ hl).trans h1.gt
 have e2:Evo t' w' t' (w'.setCell ⟨g,nds.length*21+20,none⟩ (.slice a' (q.length+1) c')) (·=5):=(Evo.refl _ _ _).setCell _ _ hg5
 have hK2:=hK a' c' w' hc.1 hc.2 ⟨t',h1.grow hr' he,(hsv.mono (he.hz (by omega))).mono (e2.hz (by decide)),fun x hx=>by
  obtain ⟨q1,q2⟩:=h2 x hx
  have hlx:=(Array.getElem?_eq_some_iff.1 q2).1
  have hne:x.1≠g:=fun e=>by rw [e,h1.gt] at q1; cases q1
  exact ⟨(he.tag _ hlx).trans q1,(Below.heap_setCell _ _ _ _ hne).trans ((he.block _ hlx (by rw [q1]; omega)).trans q2)⟩⟩
 unfold Oper.wp
 simp [execOp,ho,resolve,invoke,builtin,hs,hx,hrun,Result.andThen]
 exact hK2
end
set_option maxRecDepth 1000000 in
set_option maxHeartbeats 8000000 in
theorem links_any (l:List Fd) (xs:List XV) (g cap B0 mb n:Nat) (ov:Value) (w:World) (hn:l.length=n) (h24:n≤24) (hx:xs.length=n) (hm:∀ s∈Fd.names l,s.length≤1000000) (hnd:(Fd.names l).Nodup)
 (hbox:w.heap[B0]?=some (.cells #[.slice (some ⟨g,0,none⟩) n cap,.map (some mb),ov] 57 (0,0))) (hB:B0≠g) (hmp:NmAt w mb (Fd.names l)) (hmg:mb≠g)
 (hrows:RowsF w g l xs []) (hok:∀ x∈xs,FormOk w g (Fd.names l) x) (hL:Lay (gb g w)) :
 Calls Tryz.prog 28 #[.pointer (some ⟨B0,0,none⟩)] w (linksPost w g l xs):=by
 obtain ⟨i0,hi,hz0,hz1,hz2⟩:=infoL1
 have hst:Lk w g l xs (xs.map (needX (Fd.names l))) (tagG g) nilS [] nilS [] w:=⟨Evo.refl _ _ _,hrows.nil,by simp [tagG],Row.nil _ _ _ _ _,fun i v nd h=>by simp at h,Row.nil _ _ _ _ _⟩
 have HST:=Lib.hid hst
 have HBX:=Lib.hid hbox
 have HMP:=Lib.hid hmp
 obtain ⟨mo,hmo⟩:∃ o,w.heap[mb]?=some o:=⟨_,Array.getElem?_eq_getElem hmp.lt⟩
 have HMPO:=Lib.hid hmo
 have HOK:=Lib.hid hok
 have HL:=Lib.hid hL
 have HND:=Lib.hid hnd
 have HM:=Lib.hid hm
 have HN:=Lib.hid hn
 have HX:=Lib.hid hx
 have HBG:=Lib.hid hB
 have HMG:=Lib.hid hmg
 obtain ⟨⟨b0,b1,-⟩,-⟩:=three_all' hbox
 clear hst hbox hmo hmp hok hL hnd hm hn hx hrows hB hmg
 go_enter Tryz.func28,Tryz.ntmps28
 go_wp2_with fail
 clear b0 b1
 go_loopg [3,13] n (fun gk u3 i W=>∃ (k:Nat) (t:Tag) (nds:List Value),i = .int .i64 k∧k+gk=n∧nds.length=k∧Hid (Lk w g l xs (xs.map (needX (Fd.names l))) t u3 nds nilS [] W))
 case atStart=>exact ⟨0,_,[],rfl,by omega,rfl,HST⟩
 case round =>
  obtain ⟨k,t,nds,rfl,hg,hnk,HI⟩:=hrel
  obtain ⟨W0,hW0⟩:∃ X,X=wr:=⟨_,rfl⟩
  subst hW0
  obtain ⟨go,hgo⟩:∃ X,X=gk:=⟨_,rfl⟩
  subst hgo
  by_cases hlt:k<n
  · obtain ⟨f,hf⟩:∃ f,l[k]?=some f:=⟨_,List.getElem?_eq_getElem (by have:=HN.out; omega)⟩
    have hkx:k<xs.length:=by have:=HX.out; omega
    obtain ⟨x,hxk⟩:∃ x,xs[k]?=some x:=⟨_,List.getElem?_eq_getElem hkx⟩
    have hxd:xs.getD k noX=x:=by simp [List.getD,hxk]
    have HXD:=Lib.hid hxd
    have HF:=Lib.hid hf
    have HNK:=Lib.hid hnk
    have HFO:=Lib.hid (HOK.out x (List.mem_of_getElem? hxk))
    have HQ:Hid ((xs.map (needX (Fd.names l)))[nds.length]?=some (needX (Fd.names l) x)):=Lib.hid (by rw [hnk,List.getElem?_map,hxk]; rfl)
    obtain ⟨⟨b0,b1,-⟩,-⟩:=three_all' (HI.out.old HBX.out HBG.out)
    have h17:=(HI.out.rows.cell hf (fd_has _ _ _ _ _).1).1
    have h20:=(HI.out.rows.cell hf (fd_need _ _ _ _ _)).1
    have e20:(nds++[nilS]).getD k nilS=nilS:=by rw [←hnk]; simp [List.getD]
    rw [e20] at h20
    rw [hxd] at h17
    clear hf hxk hxd hkx e20 hnk
    obtain ⟨xa,xb,xc⟩:=x
    simp only at h17
    cases xa with
    | none =>
     simp only [Option.isSome_none] at h17
     have HQ0:Hid ((xs.map (needX (Fd.names l)))[nds.length]?=some []):=Lib.hid (by rw [HQ.out,needX_none rfl])
     go_wp2_with (at_builtin; refine wpList_append_one rfl _ _ 67 rfl 32 i0 (.slice none 0 0) 1 24 Tryz.underlying67 hi hz0 hz1 hz2 rfl (by decide) rfl HI.out.outer #[.slice none 0 0] 32 (0,0) _ rfl (by simp) rfl ?c1 ?c2 ?c3 ?_)
     case c1=>simp [Value.oneCell']
     case c2=>have:=HNK.out; unfold maxLen; omega
     case c3=>have:=HNK.out; omega
     intro v' t' w' hr he
     have HI9:=Lib.hid (HI.out.next HQ0.out hr he)
     clear hr he
     go_wp2_with fail
     go_roundg (go - 1)
     case rel=>exact ⟨k+1,t',_,by go_num,by omega,by rw [List.length_append,HNK.out]; rfl,HI9⟩
     case measure=>omega
    | some y =>
     simp only [Option.isSome_some] at h17
     obtain ⟨e,v⟩:=y
     obtain ⟨va,vc,rfl⟩:=(HFO.out.k e v rfl).form
     have hk0:=(HFO.out.k e _ rfl).mono (HI.out.le.trans (hz_gh _ _))
     have hcc:∀ (j:Nat) (u:Value),(fdCells f (some (e,.slice va e.ks.length vc)) xb xc ((nds++[nilS]).getD k nilS))[j]?=some u→W0.cell? ⟨g,k*21+j,none⟩=some u:=fun j u hj=>(HI.out.rows.cell HF.out (by rw [HXD.out]; exact hj)).1
     have h5:=hcc _ _ (fd_form _ _ _ _ _).1
     have h6:=hcc _ _ (fd_form _ _ _ _ _).2.1
     have h7:=hcc _ _ (fd_form _ _ _ _ _).2.2.1
     have h8:=hcc _ _ (fd_form _ _ _ _ _).2.2.2
     simp only at h5 h6 h7 h8
     have HPN:=Lib.hid (pNames_new e (.agg #[.int .i64 e.op,.int .i64 e.n,.string ⟨e.s.toArray⟩,.slice va e.ks.length vc]) W0 (HFO.out.fine e _ rfl) (HL.out.mono (HI.out.le.trans (hz_gh _ _))) ⟨_,rfl,hk0⟩ (HFO.out.chk e _ rfl))
     obtain ⟨m,hm⟩:∃ m,namesM e=m:=⟨_,rfl⟩
     have HNS:Hid (∀ s∈m,s∈Fd.names l):=Lib.hid (fun s hs=>HFO.out.names e _ rfl s (by rw [hm]; exact hs))
     have HMD:Hid m.Nodup:=Lib.hid (by rw [←hm]; exact names_nodup e)
     have HQ1:Hid ((xs.map (needX (Fd.names l)))[nds.length]?=some (posM (Fd.names l) m)):=Lib.hid (by rw [HQ.out,needX_some rfl,hm])
     have hml:m.length≤128:=by
      obtain ⟨z,hz⟩:∃ z,chk e 1 128=some z:=Option.isSome_iff_exists.1 (HFO.out.chk e _ rfl)
      have:=names_few e 1 128 z hz
      rw [←hm]; omega
     rw [hm] at HPN
     clear hcc hk0 hm h20
     go_wp2_with fail
     refine HPN.out.mono ?_
     rintro r W2 ⟨hb,sv,rfl,hsv⟩
     obtain ⟨sa,sc,rfl⟩:=hsv.form
     have HI2:=Lib.hid (HI.out.call hb)
     have HSV:=Lib.hid (hsv.mono (gn_hz t W0.heap.size W2))
     clear hb hsv h5 h6 h7 h8 h17 b0 b1 HPN HI
     generalize t.ext W0.heap.size 0=t2 at *
     go_wp2_with fail
     go_loopg [34] m.length (fun g2 i W=>∃ (j:Nat) (t:Tag) (cur:Value),i = .int .i64 j∧j+g2=m.length∧Hid (Lk w g l xs (xs.map (needX (Fd.names l))) t u3 nds cur ((m.take j).map (posN (Fd.names l))) W)∧Hid (StrsV (hz t W) (.slice sa m.length sc) m))
     case atStart=>exact ⟨0,t2,nilS,rfl,by omega,HI2,HSV⟩
     case round =>
      obtain ⟨j,t3,cur,rfl,hg2,HI3,HS3⟩:=hrel
      by_cases hj:j<m.length
      · obtain ⟨nb,no,rfl,cn⟩:=(HS3.out.mono (hz_gh _ _)).at (List.getElem?_eq_getElem hj)
        unfold strV at cn
        have HT3:Hid (m.take (j+1)=m.take j++[m[j]]):=Lib.hid (by rw [List.take_add_one,List.getElem?_eq_getElem hj]; rfl)
        have hin:=HNS.out m[j] (List.getElem_mem hj)
        have hsz:=HM.out _ hin
        have hlk1:=(HMP.out.keep (w':=wr.drew) (by have:=HI3.out.old HMPO.out HMG.out; exact this.trans HMPO.out.symm)).get m[j] (by unfold maxLen; omega)
        have hlk2:(Instr.lookup 54 (.map (some mb)) (.string ⟨m[j].toArray⟩) false).run Tryz.prog wr.drew = .ok (.int .i64 (posN (Fd.names l) m[j])) wr.drew:=hlk1
        have HLP:Hid (LkL w g l xs (xs.map (needX (Fd.names l))) [] (.slice (some ⟨nb,no,none⟩) m.length sc) m u3 nds cur ((m.take j).map (posN (Fd.names l))) wr):=Lib.hid ⟨t3,HI3.out,HS3.out,fun x hx=>by cases hx⟩
        have HQN:Hid ((m.take (j+1)).map (posN (Fd.names l))=(m.take j).map (posN (Fd.names l))++[posN (Fd.names l) m[j]]):=Lib.hid (by rw [HT3.out,List.map_append]; rfl)
        have hql:((m.take j).map (posN (Fd.names l))).length≤1000:=by rw [List.length_map,List.length_take]; omega
        obtain ⟨⟨b0,b1,-⟩,-⟩:=three_all' (HI3.out.old HBX.out HBG.out)
        have h20:=(HI3.out.rows.cell HF.out (fd_need _ _ _ _ _)).1
        have e20:(nds++[cur]).getD k nilS=cur:=by rw [←HNK.out]; simp [List.getD]
        rw [e20] at h20
        have hgw:g<wr.heap.size:=HI3.out.rows.lt
        obtain ⟨ca,cc,rfl⟩:=HI3.out.own.form
        clear hlk1 hin hsz e20 HT3
        generalize m[j]=s at *
        generalize posN (Fd.names l) s=p at *
        generalize (m.take j).map (posN (Fd.names l))=q at *
        go_upto_region 10 with fail
        clear cn
        go_region_law (first|(with_reducible refine step_need (p:=p) rfl _ _ rfl rfl rfl HNK.out HF.out hql ((HLP.out.alloc _).drew) (by simp) ?_; intro a' c' w' m0 m1 hp; have HP:=Lib.hid hp; clear hp)|(with_reducible refine step_need (p:=p) rfl _ _ rfl rfl rfl HNK.out HF.out hql (HLP.out.alloc _) (by simp) ?_; intro a' c' w' m0 m1 hp; have HP:=Lib.hid hp; clear hp)|(with_reducible refine step_need (p:=p) rfl _ _ rfl rfl rfl HNK.out HF.out hql (HLP.out.drew.alloc _) (by simp) ?_; intro a' c' w' m0 m1 hp; have HP:=Lib.hid hp; clear hp))
        all_goals
         clear m0 m1 h20 b0 b1 hlk2
         obtain ⟨t5,h5,hs5,-⟩:=HP.out
         have H5:=Lib.hid h5
         have HS5:=Lib.hid hs5
         clear h5 hs5
         go_wp2_with fail
         go_roundg (gk - 1)
         case rel=>exact ⟨j+1,t5,_,by go_num,by omega,Lib.hid (by rw [HQN.out]; exact H5.out),HS5⟩
         case measure=>omega
      · obtain rfl:j=m.length:=by omega
        rw [List.take_length] at HI3
        have h20:=(HI3.out.rows.cell HF.out (fd_need _ _ _ _ _)).1
        have e20:(nds++[cur]).getD k nilS=cur:=by rw [←HNK.out]; simp [List.getD]
        rw [e20] at h20
        by_cases hmn:m=[]
        · subst hmn
          obtain ⟨ca,cc,rfl⟩:=HI3.out.own.form
          simp only [List.map_nil,List.length_nil] at h20 HI3
          have HQ2:Hid ((xs.map (needX (Fd.names l)))[nds.length]?=some []):=Lib.hid (by rw [HQ1.out]; simp [posM])
          have HSO:=Lib.hid (Tryz.slices_Sort_int_none ca cc)
          clear e20
          go_wp2_with fail
          refine (HSO.out _).mono ?_
          rintro r W5 ⟨rfl,rfl⟩
          go_wp2_with (at_builtin; refine wpList_append_one rfl _ _ 67 rfl 32 i0 (.slice none 0 0) 1 24 Tryz.underlying67 hi hz0 hz1 hz2 rfl (by decide) rfl HI3.out.outer #[.slice ca 0 cc] 32 (0,0) _ rfl (by simp) rfl ?c1 ?c2 ?c3 ?_)
          case c1=>simp [Value.oneCell']
          case c2=>have:=HNK.out; unfold maxLen; omega
          case c3=>have:=HNK.out; omega
          intro v' t' w' hr he
          have HI9:=Lib.hid (HI3.out.next HQ2.out hr he)
          clear hr he
          go_wp2_with fail
          go_roundg (go - 1)
          case rel=>exact ⟨k+1,t',_,by go_num,by omega,by rw [List.length_append,HNK.out]; rfl,HI9⟩
          case measure=>omega
        · have hqn:m.map (posN (Fd.names l))≠[]:=by simpa using hmn
          obtain ⟨gq,cq,hcur,hgq,hHH,hRS⟩:=row_sort HI3.out.own hqn
          subst hcur
          have HSO:=Lib.hid (Tryz.slices_Sort_int gq 0 cq (m.map (posN (Fd.names l))) wr hHH hgq (by rw [List.length_map]; omega))
          rw [sort_pos HND.out HMD.out HNS.out] at HSO
          have hpl:(posM (Fd.names l) m).length=(m.map (posN (Fd.names l))).length:=by rw [←sort_pos HND.out HMD.out HNS.out,List.length_mergeSort]
          have HRS:=Lib.hid (fun n2 os2=>hRS n2 os2 (posM (Fd.names l) m) hpl)
          have HPL:=Lib.hid hpl
          clear e20 hHH hgq hRS hpl hqn hmn
          obtain ⟨ql,hql⟩:∃ n,(m.map (posN (Fd.names l))).length=n:=⟨_,rfl⟩
          rw [hql] at h20 HSO HI3 HRS HPL
          have HQLL:=Lib.hid hql
          clear hql
          go_wp2_with fail
          refine HSO.out.mono ?_
          rintro r W5 ⟨rfl,n2,os2,hW5⟩
          obtain ⟨t6,hr6,he6⟩:=HRS.out n2 os2
          rw [←hW5] at hr6 he6
          have HI6:=Lib.hid (HI3.out.sorted (q':=posM (Fd.names l) m) (by rw [HPL.out,HQLL.out]) (by rw [HPL.out]; exact hr6) he6)
          have h20:=(HI6.out.rows.cell HF.out (fd_need _ _ _ _ _)).1
          have e20:(nds++[Value.slice (some ⟨gq,0,none⟩) ql cq]).getD k nilS = .slice (some ⟨gq,0,none⟩) ql cq:=by rw [←HNK.out]; simp [List.getD]
          rw [e20] at h20
          clear hW5 hr6 he6 e20
          go_wp2_with (at_builtin; refine wpList_append_one rfl _ _ 67 rfl 32 i0 (.slice none 0 0) 1 24 Tryz.underlying67 hi hz0 hz1 hz2 rfl (by decide) rfl HI6.out.outer #[.slice (some ⟨gq,0,none⟩) ql cq] 32 (0,0) _ rfl (by simp) rfl ?c1 ?c2 ?c3 ?_)
          case c1=>simp [Value.oneCell']
          case c2=>have:=HNK.out; unfold maxLen; omega
          case c3=>have:=HNK.out; omega
          intro v' t' w' hr he
          have HI9:=Lib.hid (HI6.out.next HQ1.out hr he)
          clear hr he
          go_wp2_with fail
          go_roundg (go - 1)
          case rel=>exact ⟨k+1,t',_,by go_num,by omega,by rw [List.length_append,HNK.out]; rfl,HI9⟩
          case measure=>omega
  · obtain rfl:k=n:=by omega
    go_wp2_with fail
    go_ret
    exact ⟨_,nds,t,rfl,by rw [hnk,HN.out],HI.out⟩
end Go.Proofs.YtpfhhikbaeknpaaGreatDoor
namespace Pal.Graph
open Go Go.RowKit Pal
structure Ord (N:Nat) (xss:List (List Int)) (s:List Int × List Bool):Prop where
 nodup:s.1.Nodup
 mem:∀ x∈s.1,0≤x∧x<(N:Int)∧isDone s.2 x=true
 all:∀ i,i<N→s.2.getD i false=true→(i:Int)∈s.1
 before:∀ p i,s.1[p]?=some i→∀ x∈lst N xss i.toNat,x∈s.1.take p
theorem ord_st (N:Nat) (xss:List (List Int)) (j:Nat):Ord N xss (st N xss j):=by
 induction j with
 | zero =>
  refine ⟨List.nodup_nil,fun x hx=>(by cases hx),fun i hi h=>?_,fun p i h=>(by simp [st] at h)⟩
  simp [st,hi] at h
 | succ j ih =>
  show Ord N xss (step N xss (st N xss j))
  cases h:pick N xss (st N xss j).2 with
  | none=>rw [step_none h]; exact ih
  | some k =>
   rw [step_some h]
   obtain ⟨h1,h2,_⟩:=pick_some h
   have hlen:=st_len (n:=(N:Int)) (xss:=xss) j
   generalize st N xss j=s at ih h2 hlen
   simp only [may,Bool.and_eq_true,Bool.not_eq_true'] at h2
   obtain ⟨hk0,hfree⟩:=h2
   have hkN:k<N:=by simpa using h1
   have hkl:k<s.2.length:=by rw [hlen]; exact h1
   have hkn:(k:Int) ∉ s.1:=fun hm=>by
    have:=(ih.mem _ hm).2.2
    simp [isDone] at this
    simp [this] at hk0
   have hall:∀ x∈lst N xss k,x∈s.1:=by
    intro x hx
    have hx0:=lst_mem hx
    simp only [freeB,List.all_eq_true] at hfree
    have hd:=hfree x hx
    have:=ih.all x.toNat (by omega) hd
    have e:((x.toNat:Nat):Int)=x:=by omega
    rwa [e] at this
   refine ⟨?_,fun x hx=>?_,fun i hi hd=>?_,fun p i hp x hx=>?_⟩
   · rw [List.nodup_append]
     exact ⟨ih.nodup,by simp,fun a ha b hb=>by simp at hb; subst hb; intro e; subst e; exact hkn ha⟩
   · rcases List.mem_append.1 hx with hx|hx
     · obtain ⟨a,b,c⟩:=ih.mem x hx
       exact ⟨a,b,by rw [isDone_set hkl a,c]; simp⟩
     · simp at hx; subst hx
       exact ⟨by omega,by omega,by rw [isDone_set hkl (by omega)]; simp⟩
   · by_cases e:i=k
     · subst e; simp
     · have e2:k≠i:=fun h=>e h.symm
       simp only [List.getD_eq_getElem?_getD,List.getElem?_set_ne e2] at hd
       exact List.mem_append.2 (.inl (ih.all i hi (by simpa using hd)))
   · by_cases hpl:p<s.1.length
     · rw [List.getElem?_append_left hpl] at hp
       have:=ih.before p i hp x hx
       rw [List.take_append_of_le_length (by omega)]; exact this
     · have hpe:=(List.getElem?_eq_some_iff.1 hp).1
       simp at hpe
       have:p=s.1.length:=by omega
       subst this
       simp at hp
       subst hp
       rw [List.take_left]
       exact hall x (by simpa using hx)
end Pal.Graph
namespace Go.Proofs.YtpfhhikbaeknpaaGreatDoor
open Go.RowKit Pal

theorem newM_ok {l:List Fd} {F:Form} (h:newM l = .ok F):¬ (l.length<1∨24<l.length)∧namesOk [] 0 l=none∧readAll (Fd.names l) (Fd.types l) 0 l = .ok F.es∧F.l=l∧F.needs=F.es.map (needM (Fd.names l))∧(Graph.orderS l.length F.needs).2=true∧F.order=(Graph.orderS l.length F.needs).1.filter (hasF F.es):=by
 unfold newM at h
 by_cases h0:l.length<1∨24<l.length
 · rw [if_pos h0] at h; cases h
 · rw [if_neg h0] at h
   cases h1:namesOk [] 0 l with
   | some x=>rw [h1] at h; cases h
   | none =>
    rw [h1] at h
    cases h2:readAll (Fd.names l) (Fd.types l) 0 l with
    | error x=>rw [h2] at h; cases h
    | ok es =>
     rw [h2] at h
     simp only at h
     by_cases h3:(Graph.orderS l.length (es.map (needM (Fd.names l)))).2=true
     · rw [if_pos h3] at h
       cases h
       exact ⟨h0,rfl,rfl,rfl,rfl,h3,rfl⟩
     · rw [if_neg h3] at h; cases h
theorem orderS_ok {n:Nat} {xss:List (List Int)} (hn:n≤4096) (h:(Graph.orderS n xss).2=true):(Graph.orderS n xss).1=(Graph.st n xss n).1∧¬ (Graph.st n xss n).1.length<n:=by
 have hc:(0:Int)≤n∧(n:Int)≤4096:=by omega
 unfold Graph.orderS at h ⊢
 rw [if_pos hc] at h ⊢
 have e:(n:Int).toNat=n:=by simp
 rw [e] at h ⊢
 by_cases hl:(Graph.st n xss n).1.length<n
 · rw [if_pos hl] at h; cases h
 · rw [if_neg hl]; exact ⟨rfl,hl⟩
end Go.Proofs.YtpfhhikbaeknpaaGreatDoor
