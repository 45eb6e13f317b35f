/- The walk of schema. -/
import Derived.Test.YtpfhhikbaeknpaaGreatDoorKSJ
import Derived.WalkMore
set_option maxHeartbeats 8000000
set_option maxRecDepth 1000000
set_option linter.all false
namespace Go.Proofs.YtpfhhikbaeknpaaGreatDoor
open Go.RowKit Pal
attribute [local go_sem ↓] Go.wp_at_zero Go.wp_at_succ
theorem Zi8 {ns:List Bs} {s:Bs} (h:posT ns s=none):ns.contains s=false:=posT_none.1 h
theorem Zi9 {ns:List Bs} {s:Bs} {j:Nat} (h:posT ns s=some j):ns.contains s=true:=by
 cases hc:ns.contains s with
 | true=>rfl
 | false=>rw [posT_none.2 hc] at h; cases h
theorem Zja {seen:List Bs} {i:Nat} {f:Fd} {r:List Fd} (h:seen.contains f.n=true∨isName f.n=false):namesOk seen i (f::r)=some (i,9):=by
 unfold namesOk; rw [if_pos h]
theorem Zjb {seen:List Bs} {i:Nat} {f:Fd} {r:List Fd} (h1:seen.contains f.n=false) (h2:isName f.n=true) (h:¬ (1≤f.t∧f.t≤3)):namesOk seen i (f::r)=some (i,8):=by
 unfold namesOk; rw [if_neg (by rw [h1,h2]; simp),if_neg h]
theorem Zjc {seen:List Bs} {i:Nat} {f:Fd} {r:List Fd} (h1:seen.contains f.n=false) (h2:isName f.n=true) (h:1≤f.t∧f.t≤3):namesOk seen i (f::r)=namesOk (seen++[f.n]) (i+1) r:=by
 conv=>lhs; unfold namesOk
 rw [if_neg (by rw [h1,h2]; simp),if_pos h]
def newPost (l:List Fd) (w:World) (e:Ending) (W:World):Prop :=
 Below w.heap.size w W∧(match newM l with
  | .error x=>e = .returned (.tuple #[.pointer none,.int .i64 x.1,.int .i64 x.2])
  | .ok F=>∃ b,e = .returned (.tuple #[.pointer (some ⟨b,0,none⟩),.int .i64 0,.int .i64 0])∧SchV (gh W) b F)
theorem Zjd {l:List Fd} {w W:World} {i:Nat} {k:Int} (hb:Below w.heap.size w W) (h:newM l = .error (i,k)):newPost l w (.returned (.tuple #[.pointer none,.int .i64 i,.int .i64 k])) W:=by
 unfold newPost; rw [h]; exact ⟨hb,rfl⟩
theorem Zje {l:List Fd} {x:Nat × Int} (h0:¬ (l.length<1∨24<l.length)) (h:namesOk [] 0 l=some x):newM l = .error x:=by
 unfold newM; rw [if_neg h0,h]
theorem Zjf (l:List Fd) (v:Value) (w:World) (hl:l.length≤1000000) (hS:∀ f∈l,Short f) (hL:Lay (gh w)) (hF:FdsV (gh w) v l) :
 Calls Tryz.prog 11 #[v] w (newPost l w):=by
 obtain ⟨a,cap,rfl⟩:=hF.form
 have HL:=Zq hL
 have HF:=Zq hF
 have HSH:=Zq hS
 clear hL hF hS
 obtain ⟨n,hn⟩:∃ n,l.length=n:=⟨_,rfl⟩
 rw [hn]
 have HN:=Zq hn
 by_cases h0:l.length<1∨24<l.length
 · have HM:Hid (newM l = .error (0,11)):=Zq (by unfold newM; rw [if_pos h0])
   rw [hn] at h0
   clear hn hl
   rcases h0 with h0|h0
   · obtain rfl:n=0:=by omega
     go_in
     go_wp2_with fail
     go_step3
     go_wp2_with fail
     rw [Exit.noGoto_ret]
     exact bodyPost_ret (v := .tuple #[.pointer none,.int .i64 ((0:Nat):Int),.int .i64 11]) (by simp [results,Tryz.results11,go_sem]) rfl (Zjd (Below.refl _ _) HM.out)
   · have q1:decide ((n:Int)<1)=false:=decide_eq_false (by omega)
     have q2:decide ((24:Int)<n)=true:=decide_eq_true (by omega)
     go_in
     go_wp2_with fail
     go_step3
     go_wp2_with fail
     rw [Exit.noGoto_ret]
     exact bodyPost_ret (v := .tuple #[.pointer none,.int .i64 ((0:Nat):Int),.int .i64 11]) (by simp [results,Tryz.results11,go_sem]) rfl (Zjd (Below.refl _ _) HM.out)
 · have H0:=Zq h0
   rw [hn] at h0
   have q1:decide ((n:Int)<1)=false:=decide_eq_false (by omega)
   have q2:decide ((24:Int)<n)=false:=decide_eq_false (by omega)
   have hmm:=@run_makeMap Tryz.prog
   have hn24:n≤24:=by omega
   clear h0 hn hl
   go_in
   go_wp2_with fail
   go_step3
   go_wp2_with fail
   go_loopg [6,7,32] n (fun gk u6 u7 i wr=>∃ (k:Nat) (t:Tag) (sv:Value),i = .int .i64 k∧k+gk=n∧Hid (N1 l w k k k k t u6 u7 sv wr)∧Hid (namesOk [] 0 l=namesOk (Fd.names (l.take k)) k (l.drop k)))
   case atStart=>exact ⟨0,_,_,rfl,by omega,Zq (Zgc l w),Zq rfl⟩
   case round =>
    obtain ⟨k,t,sv,rfl,hg,HI,HK⟩:=hrel
    have hle:(gh w).le (gh wr):=by rw [←Zaf]; exact (HI.out.ev.hz (by simp)).trans (Zae _ _)
    by_cases hlt:k<n
    · have hkl:k<l.length:=by have:=HN.out; omega
      obtain ⟨f,hf⟩:∃ f,l[k]?=some f:=⟨_,List.getElem?_eq_getElem hkl⟩
      have HFK:=Zq hf
      have HSF:=Zq (HSH.out f (List.mem_of_getElem? hf))
      have HT:Hid (l.take (k+1)=l.take k++[f]):=Zq (by rw [List.take_add_one,hf]; rfl)
      have HD:Hid (l.drop k=f::l.drop (k+1)):=Zq (by rw [List.drop_eq_getElem_cons hkl,(List.getElem?_eq_some_iff.1 hf).2])
      have hfv:=HF.out.mono hle
      rw [HN.out] at hfv
      obtain ⟨ab,ao,rfl,c0,c1,c2,c3,c4⟩:=hfv.at hf
      have HLW:=Zq (HL.out.mono hle)
      clear hle hkl hf hfv
      obtain ⟨fn,ft,fo,ru,sh⟩:=f
      simp only at c0 c1 c2 c3 c4
      go_upto_region 9 with fail
      have HI1:=Zq (HI.out.new (.cells #[.string ⟨fn.toArray⟩,.int .i64 ft,.string ⟨fo.toArray⟩,.string ⟨ru.toArray⟩,.string ⟨sh.toArray⟩] 27))
      have HT9:Hid ((t.set wr.heap.size 0) wr.heap.size=0):=Zq (Tag.set_same _ _ _)
      have HX9:=Zq (heap_alloc_new wr (.cells #[.string ⟨fn.toArray⟩,.int .i64 ft,.string ⟨fo.toArray⟩,.string ⟨ru.toArray⟩,.string ⟨sh.toArray⟩] 27))
      have HLW1:=Zq (HLW.out.below ((Below.refl _ _).alloc Zs (.cells #[.string ⟨fn.toArray⟩,.int .i64 ft,.string ⟨fo.toArray⟩,.string ⟨ru.toArray⟩,.string ⟨sh.toArray⟩] 27)))
      have hb9:w.heap.size+1<wr.heap.size:=HI.out.lt
      have HB9:=Zq hb9
      clear HLW c0 c1 c2 c3 c4 hb9
      generalize wr.alloc (.cells #[.string ⟨fn.toArray⟩,.int .i64 ft,.string ⟨fo.toArray⟩,.string ⟨ru.toArray⟩,.string ⟨sh.toArray⟩] 27)=W1 at *
      generalize t.set wr.heap.size 0=t1 at *
      generalize wr.heap.size=b9 at *
      have h5:=Zf0 HX9.out
      obtain ⟨d0,d1,-⟩:=h5
      obtain ⟨⟨e0,e1,-⟩,-⟩:=Zf1 HI1.out.box
      have hlk:=fun q=>(HI1.out.mp.keep (w':=W1.drewN q) rfl).look fn (by have:=HSF.out.n; simp only at this; unfold maxLen; omega)
      have hlk0:=HI1.out.mp.look fn (by have:=HSF.out.n; simp only at this; unfold maxLen; omega)
      generalize hpos:posT (Fd.names (l.take k)) fn=pos at *
      cases pos with
      | some j =>
       simp only [Option.getD_some,Option.isSome_some] at hlk hlk0
       have HM:Hid (newM l = .error (k,9)):=Zq (Zje H0.out (by rw [HK.out,HD.out]; exact Zja (.inl (Zi9 hpos))))
       go_quiet (fail)
       clear hlk hlk0 hpos d0 d1 e0 e1
       go_wp2_with fail
       rw [Exit.noGoto_ret]
       exact bodyPost_ret (v := .tuple #[.pointer none,.int .i64 ((k:Nat):Int),.int .i64 9]) (by simp [results,Tryz.results11,go_sem]) rfl (Zjd (Pal.below_drewN HI1.out.below _) HM.out)
      | none =>
       simp only [Option.getD_none,Option.isSome_none] at hlk hlk0
       have HNO:=Zq (Zi8 hpos)
       have HPO:=Zq hpos
       have HI2:=fun q=>Zq (HI1.out.call (Pal.below_drewN (Below.refl W1.heap.size W1) q))
       go_quiet (fail)
       clear hlk hlk0 hpos d0 d1 e0 e1
       have HI3:=Zq (HI2 nq).out
       have HX3:Hid ((W1.drewN nq).heap[b9]?=_):=Zq HX9.out
       have HT9:Hid ((t1.ext W1.heap.size 0) b9=0):=Zq ((Tag.ext_lt _ _ _ _ (Array.getElem?_eq_some_iff.1 HX9.out).1).trans HT9.out)
       have HL3:=Zq (HLW1.out.below (Pal.below_drewN (Below.refl W1.heap.size W1) nq))
       clear HI2 HI1 HX9 HLW1
       generalize t1.ext W1.heap.size 0=t2 at *
       generalize W1.drewN nq=W2 at *
       have HNM:=Zq (Zc6 fn W2 (by have:=HSF.out.n; simp only at this; omega) HL3.out)
       obtain ⟨d0,d1,-⟩:=Zf0 HX3.out
       unfold strV at HNM
       cases hnm:isName fn with
       | false =>
        rw [hnm] at HNM
        have HM:Hid (newM l = .error (k,9)):=Zq (Zje H0.out (by rw [HK.out,HD.out]; exact Zja (.inr hnm)))
        clear hnm
        go_wp2_with fail
        refine HNM.out.mono ?_
        rintro r W3 ⟨rfl,hb⟩
        have HB:=Zq (HI3.out.below.seq hb)
        clear hb d0 d1
        go_wp2_with fail
        rw [Exit.noGoto_ret]
        exact bodyPost_ret (v := .tuple #[.pointer none,.int .i64 ((k:Nat):Int),.int .i64 9]) (by simp [results,Tryz.results11,go_sem]) rfl (Zjd HB.out HM.out)
       | true =>
        rw [hnm] at HNM
        have HIS:=Zq hnm
        clear hnm
        go_wp2_with fail
        refine HNM.out.mono ?_
        rintro r W3 ⟨rfl,hb⟩
        have HI4:=Zq (HI3.out.call hb)
        have HT9:Hid ((t2.ext W2.heap.size 0) b9=0):=Zq ((Tag.ext_lt _ _ _ _ (Array.getElem?_eq_some_iff.1 HX3.out).1).trans HT9.out)
        have HX4:Hid (W3.heap[b9]?=_):=Zq ((hb.block _ (Array.getElem?_eq_some_iff.1 HX3.out).1).trans HX3.out)
        have HL4:=Zq (HL3.out.below hb)
        clear hb d0 d1 HI3 HX3 HL3 HNM
        generalize t2.ext W2.heap.size 0=t3 at *
        obtain ⟨d0,d1,-⟩:=Zf0 HX4.out
        by_cases hty:1≤ft∧ft≤3
        · obtain ⟨y1,y2⟩:=hty
          have y3:¬ ft<1:=by omega
          have y4:¬ 3<ft:=by omega
          go_upto_region 14 with fail
          clear y1 y2 y3 y4
          obtain ⟨⟨e0,e1,-⟩,-⟩:=Zf1 HI4.out.box
          have hlen:(Fd.names (l.take k)).length=k:=by unfold Fd.names; rw [List.length_map,List.length_take]; have:=HN.out; omega
          obtain ⟨V,hst,hNV,hTV⟩:=(HI4.out.mp.keep (w':=W3.drew) rfl).store fn (by have:=HSF.out.n; simp only at this; unfold maxLen; omega) (by omega) HPO.out
          rw [hlen] at hst
          have HNV:=Zq hNV
          have HTV:=Zq hTV
          have hk1:∀ b,b<W3.heap.size→b≠w.heap.size→V.heap[b]?=W3.heap[b]?:=fun b hb hn=>hTV.grown.block b hb (fun e=>by cases e; exact hn rfl)
          have v1:V.cell? ⟨w.heap.size+1,1,none⟩=some (.map (some w.heap.size)):=(World.cell?_of_block (hk1 (w.heap.size+1) HI4.out.lt (by omega))).trans e1
          have v2:V.cell? ⟨b9,0,none⟩=some (.string ⟨fn.toArray⟩):=(World.cell?_of_block (hk1 b9 (Array.getElem?_eq_some_iff.1 HX4.out).1 (by have:=HB9.out; omega))).trans d0
          clear hNV hTV hlen hk1
          go_region_held3 (fun w'=>w'.cell? ⟨w.heap.size+1,1,none⟩=some (.map (some w.heap.size))∧w'.cell? ⟨b9,0,none⟩=some (.string ⟨fn.toArray⟩)) (go_keep) (fail)
          have HP:Hid (N15 l w [(b9,.cells #[.string ⟨fn.toArray⟩,.int .i64 ft,.string ⟨fo.toArray⟩,.string ⟨ru.toArray⟩,.string ⟨sh.toArray⟩] 27 (0,0))] (k+1) k k k u6 u7 sv V):=Zq (by
           have hn:NmAt V w.heap.size (Fd.names (l.take (k+1))):=by rw [HT.out]; unfold Fd.names; rw [List.map_append]; exact HNV.out
           have h1:=(HI4.out.keep (Evo.refl _ _ _).drew).map hn HTV.out
           exact N15.start h1 HT9.out ((HTV.out.grown.block b9 (Array.getElem?_eq_some_iff.1 HX4.out).1 (fun e=>by cases e; have:=HB9.out; omega)).trans HX4.out))
          clear v1 v2 hst d0 d1 e0 e1 HNV HTV HX4 HI4
          go_upto_region 15 with fail
          obtain ⟨d0,d1,-⟩:=Zf0 (HP.out.mem (.head _))
          go_region_held_law (fun w'=>w'.cell? ⟨b9,0,none⟩=some (.string ⟨fn.toArray⟩)∧w'.cell? ⟨b9,1,none⟩=some (.int .i64 ft)) (first|go_keep|exact ⟨(Zf0 (HP.out.mem (g:=b9) (o := .cells #[.string ⟨fn.toArray⟩,.int .i64 ft,.string ⟨fo.toArray⟩,.string ⟨ru.toArray⟩,.string ⟨sh.toArray⟩] 27 (0,0)) (by simp))).1,(Zf0 (HP.out.mem (g:=b9) (o := .cells #[.string ⟨fn.toArray⟩,.int .i64 ft,.string ⟨fo.toArray⟩,.string ⟨ru.toArray⟩,.string ⟨sh.toArray⟩] 27 (0,0)) (by simp))).2.1⟩) ((first|(with_reducible refine Zf6 (fn:=fn) rfl _ _ rfl rfl rfl (by omega) HT.out rfl ((HP.out.alloc _).drew) (by simp) ?_; intro v' w' hp; have HP:=Zq hp; clear hp)|(with_reducible refine Zf6 (fn:=fn) rfl _ _ rfl rfl rfl (by omega) HT.out rfl (((HP.out.alloc _).alloc _).drew) (by simp) ?_; intro v' w' hp; have HP:=Zq hp; clear hp)|(with_reducible refine Zf6 (fn:=fn) rfl _ _ rfl rfl rfl (by omega) HT.out rfl (HP.out.alloc _) (by simp) ?_; intro v' w' hp; have HP:=Zq hp; clear hp)|(with_reducible refine Zf6 (fn:=fn) rfl _ _ rfl rfl rfl (by omega) HT.out rfl ((HP.out.alloc _).alloc _) (by simp) ?_; intro v' w' hp; have HP:=Zq hp; clear hp)|(with_reducible refine Zf6 (fn:=fn) rfl _ _ rfl rfl rfl (by omega) HT.out rfl (HP.out) (by simp) ?_; intro v' w' hp; have HP:=Zq hp; clear hp)|(with_reducible refine Zf6 (fn:=fn) rfl _ _ rfl rfl rfl (by omega) HT.out rfl (HP.out.drew) (by simp) ?_; intro v' w' hp; have HP:=Zq hp; clear hp)|(with_reducible refine Zgb (ft:=ft) rfl _ _ rfl rfl rfl (by omega) HT.out rfl ((HP.out.alloc _).drew) (by simp) ?_; intro v' w' hp; have HP:=Zq hp; clear hp)|(with_reducible refine Zgb (ft:=ft) rfl _ _ rfl rfl rfl (by omega) HT.out rfl (((HP.out.alloc _).alloc _).drew) (by simp) ?_; intro v' w' hp; have HP:=Zq hp; clear hp)|(with_reducible refine Zgb (ft:=ft) rfl _ _ rfl rfl rfl (by omega) HT.out rfl (HP.out.alloc _) (by simp) ?_; intro v' w' hp; have HP:=Zq hp; clear hp)|(with_reducible refine Zgb (ft:=ft) rfl _ _ rfl rfl rfl (by omega) HT.out rfl ((HP.out.alloc _).alloc _) (by simp) ?_; intro v' w' hp; have HP:=Zq hp; clear hp)|(with_reducible refine Zgb (ft:=ft) rfl _ _ rfl rfl rfl (by omega) HT.out rfl (HP.out) (by simp) ?_; intro v' w' hp; have HP:=Zq hp; clear hp)|(with_reducible refine Zgb (ft:=ft) rfl _ _ rfl rfl rfl (by omega) HT.out rfl (HP.out.drew) (by simp) ?_; intro v' w' hp; have HP:=Zq hp; clear hp)))
          all_goals
           clear d0 d1
           go_upto_region 16 with fail
           obtain ⟨d0,d1,d2,d3,d4⟩:=Zf0 (HP.out.mem (g:=b9) (o := .cells #[.string ⟨fn.toArray⟩,.int .i64 ft,.string ⟨fo.toArray⟩,.string ⟨ru.toArray⟩,.string ⟨sh.toArray⟩] 27 (0,0)) (by simp))
           have e0:=HP.out.box
           have e1:=HP.out.lt
           go_region_law (first|(with_reducible refine Zga rfl _ _ rfl rfl rfl (by omega) HT.out (by rfl) ((HP.out.alloc _).drew) (by simp [slotFd,fdCells,exOf]) ?_; intro v' c' w' m0 m1 hp; have HP:=Zq hp; clear hp)|(with_reducible refine Zga rfl _ _ rfl rfl rfl (by omega) HT.out (by rfl) (HP.out.alloc _) (by simp [slotFd,fdCells,exOf]) ?_; intro v' c' w' m0 m1 hp; have HP:=Zq hp; clear hp)|(with_reducible refine Zga rfl _ _ rfl rfl rfl (by omega) HT.out (by rfl) (HP.out.drew) (by simp) ?_; intro v' c' w' m0 m1 hp; have HP:=Zq hp; clear hp)|(with_reducible refine Zga rfl _ _ rfl rfl rfl (by omega) HT.out (by rfl) (HP.out) (by simp) ?_; intro v' c' w' m0 m1 hp; have HP:=Zq hp; clear hp))
          all_goals
           clear d0 d1 d2 d3 d4 e0 e1 m0 m1
           obtain ⟨t5,h5,-⟩:=HP.out
           have H5:=Zq h5
           clear h5
           go_wp2_with fail
           go_roundg (gk - 1)
           case rel =>
            refine ⟨k+1,t5,_,by go_num,by omega,H5,Zq ?_⟩
            rw [HK.out,HD.out,Zjc HNO.out HIS.out ‹_›,HT.out]
            unfold Fd.names
            rw [List.map_append]
            rfl
           case measure=>omega
        · have HM:Hid (newM l = .error (k,8)):=Zq (Zje H0.out (by rw [HK.out,HD.out]; exact Zjb HNO.out HIS.out hty))
          by_cases y1:ft<1
          · clear hty
            go_wp2_with fail
            rw [Exit.noGoto_ret]
            exact bodyPost_ret (v := .tuple #[.pointer none,.int .i64 ((k:Nat):Int),.int .i64 8]) (by simp [results,Tryz.results11,go_sem]) rfl (Zjd HI4.out.below HM.out)
          · have y2:3<ft:=by omega
            clear hty
            go_wp2_with fail
            rw [Exit.noGoto_ret]
            exact bodyPost_ret (v := .tuple #[.pointer none,.int .i64 ((k:Nat):Int),.int .i64 8]) (by simp [results,Tryz.results11,go_sem]) rfl (Zjd HI4.out.below HM.out)
    · obtain rfl:k=n:=by omega
      have hk1:1≤k:=by have:=H0.out; rw [HN.out] at this; omega
      have HNO:Hid (namesOk [] 0 l=none):=Zq (by rw [HK.out,←HN.out,List.drop_length]; rfl)
      have HNOD:=Zq (ZfI l [] 0 HNO.out List.nodup_nil).1
      obtain ⟨g,cp,rfl,hp1⟩:=Zi2 HI.out HN.out hk1 hn24
      have HP1:=Zq hp1
      obtain ⟨W1,hW1⟩:∃ X,X=wr:=⟨_,rfl⟩
      subst hW1
      have HLG:Hid (Lay (gb g W1)):=Zq (HL.out.mono (Zi0 hp1.below (by have:=hp1.ge; omega)))
      obtain ⟨na,nc,rfl⟩:=hp1.names.form
      obtain ⟨ka,kc,rfl,-⟩:=Zd0 hp1.kinds
      obtain ⟨⟨b0,b1,b2⟩,-⟩:=Zf1 hp1.box
      rw [HN.out] at b0
      clear HI HK hp1 HF
      go_wp2_with fail
      clear b0 b1 b2
      go_loopg [98] k (fun gk i wr=>∃ (j:Nat) (xs:List XV),i = .int .i64 j∧j+gk=k∧xs.length=j∧Hid (N2 l W1 g xs wr)∧Hid (readAll (Fd.names l) (Fd.types l) 0 l=joinX (xs.map x3) (readAll (Fd.names l) (Fd.types l) j (l.drop j))))
      case atStart=>exact ⟨0,[],rfl,by omega,rfl,Zq ⟨But.refl _ _,HP1.out.rows,fun x hx=>by cases hx⟩,Zq (Zfu _).symm⟩
      case round =>
       obtain ⟨j,xs,rfl,hg2,hxj,HI,HR⟩:=hrel
       have hB:w.heap.size+1≠g:=by have:=HP1.out.ge; omega
       have hbx:=(HI.out.but.block _ (Array.getElem?_eq_some_iff.1 HP1.out.box).1 hB).trans HP1.out.box
       rw [HN.out] at hbx
       by_cases hj:j<k
       · obtain ⟨f,hf⟩:∃ f,l[j]?=some f:=⟨_,List.getElem?_eq_getElem (by have:=HN.out; omega)⟩
         have hsh:=HSH.out f (List.mem_of_getElem? hf)
         have HD:Hid (l.drop j=f::l.drop (j+1)):=Zq (by rw [List.drop_eq_getElem_cons (by have:=HN.out; omega),(List.getElem?_eq_some_iff.1 hf).2])
         obtain ⟨cur0,hc0,hrd⟩:=HI.out.rows.rd (Nat.le_of_eq hxj) hf
         have HRE:=Zq (Zhn f g (j*21) cur0 nilS (.slice na (Fd.names l).length nc) (.slice ka (Fd.types l).length kc) (Fd.names l) (Fd.types l) wr hsh.fo hsh.ru hsh.sh (HLG.out.mono HI.out.but.gb) (HP1.out.names.mono HI.out.but.gb) (HP1.out.kinds.mono HI.out.but.gb) hrd)
         have HF:=Zq hf
         have HC0:=Zq hc0
         have HXJ:=Zq hxj
         unfold readsPost at HRE
         obtain ⟨⟨b0,b1,b2⟩,-⟩:=Zf1 hbx
         clear hf hsh hc0 hrd hxj hbx
         cases hr:readsM (Fd.names l) (Fd.types l) f with
         | error e =>
          rw [hr] at HRE
          have he:(e != 0)=true:=by have:=ZiW hr; simpa using this
          have HM:Hid (newM l = .error (j,e)):=Zq (ZiX H0.out HNO.out (by rw [HR.out,HD.out,Zfw hr]; rfl))
          clear hr
          go_wp2_with fail
          refine HRE.out.mono ?_
          rintro r W2 ⟨hb,rfl⟩
          have HB2:Hid (Below w.heap.size w W2):=Zq (HP1.out.below.trans ((HI.out.but.trans hb).toBelow' (by have:=HP1.out.ge; omega) HP1.out.below.size))
          clear hb b0 b1 b2
          go_wp2_with fail
          rw [Exit.noGoto_ret]
          exact bodyPost_ret (v := .tuple #[.pointer none,.int .i64 ((j:Nat):Int),.int .i64 e]) (by simp [results,Tryz.results11,go_sem]) rfl (Zjd HB2.out HM.out)
         | ok y =>
          rw [hr] at HRE
          have HRM:=Zq hr
          clear hr
          go_wp2_with fail
          refine HRE.out.mono ?_
          rintro r W2 ⟨hb,rfl,oa,ob,oc,rfl,hs⟩
          have HI2:=Zq (HI.out.next HP1.out.lt HC0.out HXJ.out HF.out hs)
          clear hb b0 b1 b2 hs
          go_wp2_with fail
          go_roundg (gk - 1)
          case rel =>
           refine ⟨j+1,_,by go_num,by omega,by rw [List.length_append,HXJ.out]; rfl,HI2,Zq ?_⟩
           rw [HR.out,HD.out,Zfv HRM.out,Zft,List.map_append]
           rfl
          case measure=>omega
       · obtain rfl:j=k:=by omega
         have hes:readAll (Fd.names l) (Fd.types l) 0 l = .ok (xs.map x3):=by
          rw [HR.out,←HN.out,List.drop_length]
          simp [readAll,joinX]
         have HES:=Zq hes
         have hok:=Zi1 hes HP1.out.lt HI.out.ov
         have HLK:=Zq (ZiK l xs g cp (w.heap.size+1) w.heap.size j (.slice none 0 0) wr HN.out hn24 hxj (fun s hs=>by
          obtain ⟨f,hf,rfl⟩:=List.mem_map.1 hs
          exact (HSH.out f hf).n) HNOD.out hbx hB (HP1.out.mp.keep (HI.out.but.block _ HP1.out.mp.lt (by have:=HP1.out.ge; omega))) (by have:=HP1.out.ge; omega) HI.out.rows hok (HLG.out.mono HI.out.but.gb))
         obtain ⟨W2,hW2⟩:∃ X,X=wr:=⟨_,rfl⟩
         subst hW2
         have HXJ:=Zq hxj
         have HB:=Zq hB
         unfold linksPost at HLK
         clear hes hok hbx hxj hB HR
         go_wp2_with fail
         refine HLK.out.mono ?_
         rintro r W3 ⟨nv,nds,t3,rfl,hnl,hlk⟩
         have HLKS:=Zq hlk
         obtain ⟨va,vc,rfl⟩:=hlk.outer.form
         have HNL:=Zq hnl
         obtain ⟨N,hN⟩:∃ N,xs.map (needX (Fd.names l))=N:=⟨_,rfl⟩
         have HNN:Hid (N=(xs.map x3).map (needM (Fd.names l))):=Zq (by rw [←hN,List.map_map]; rfl)
         rw [hN] at HLKS
         have hNl:N.length=j:=by rw [←hN,List.length_map,HXJ.out]
         have hshort:∀ (i:Nat) (q:List Int),N[i]?=some q→q.length≤80:=by
          intro i q hq
          rw [←hN,List.getElem?_map] at hq
          cases hx:xs[i]? with
          | none=>rw [hx] at hq; cases hq
          | some x =>
           rw [hx] at hq
           simp only [Option.map_some,Option.some.injEq] at hq
           subst hq
           unfold needX needM
           split
           · simp
           · exact Nat.le_trans (ZfD _ _) (by unfold Fd.names; rw [List.length_map,HN.out]; omega)
         have hrv:RowsV (gh W3) (.slice va nds.length vc) N:=RowsV.ofRowAny HLKS.out.outer (by rw [hnl,HN.out,hNl]) (by omega) (fun i u q hu hq=>IntsV.ofRowAny (HLKS.out.inner i u q hu hq) (by have:=hshort i q hq; omega))
         have hF:(0:Int)≤(j:Int)→(j:Int)≤4096→(j:Int)≤100∧∀ (i:Nat) (xs:List Int),N[i]?=some xs→xs.length≤80:=fun _ _=>⟨by omega,hshort⟩
         have HPO:=Zq (fun W hW=>Zit (gh W3) (j:Int) (.slice va nds.length vc) N W hW hrv hF)
         have HPS:=Zq (fun W hW=>Ziu (gh W3) (j:Int) (.slice va nds.length vc) N W hW hrv hF)
         have HNJ:=Zq hNl
         have HSHO:=Zq hshort
         unfold OrderPost at HPO
         clear hlk hnl hN hNl hshort hrv hF HLK
         cases hord:(Graph.orderS j N).2 with
         | false =>
          obtain ⟨x,r0,hst,hx0⟩:=ZfC (n:=j) (xss:=N) (by omega) (by rw [hord]; simp)
          obtain ⟨xn,rfl⟩:=Int.eq_ofNat_of_zero_le hx0
          have HM:Hid (newM l = .error (xn,10)):=Zq (by
           have h:=ZiY H0.out HNO.out HES.out HNN.out (x:=(xn:Int)) (r:=r0) (by rw [HN.out,hord]; simp) (by rw [HN.out]; exact hst)
           simpa using h)
          have HO2:=Zq (HPO.out W3 (GH.le.refl _))
          rw [hord] at HO2
          unfold StuckPost at HPS
          rw [hst] at HPS
          clear hord hst hx0 HPO
          go_wp2_with fail
          refine HO2.out.mono ?_
          rintro r W4 ⟨ov,rfl,hov,hb4⟩
          obtain ⟨oa,oc,rfl,-⟩:=Zd0 hov
          have HB4:=Zq (HP1.out.below.trans ((HI.out.but.trans (HLKS.out.but.call hb4)).toBelow' (by have:=HP1.out.ge; omega) HP1.out.below.size))
          obtain ⟨sl,hsl⟩:∃ n,(((xn:Nat):Int)::r0).length=n:=⟨_,rfl⟩
          have HSL:=Zq hsl
          have hsl0:0<sl:=by rw [←hsl]; simp
          have hsl1:(0:Int)<(sl:Int):=by omega
          clear hsl
          have HS5d:=Zq (HPS.out W4.drew (Zah hb4.drew))
          clear hov hb4 HPS HO2
          go_upto_region 28 with fail
          go_region_with (go_at_call 30; refine HS5d.out.mono ?_; rintro r W5 ⟨sv,rfl,hsv,hb5⟩; obtain ⟨sa,sc,hsve,-⟩:=Zd0 hsv; rw [HSL.out] at hsve; subst hsve; obtain ⟨sb,so,hsae,s0⟩:=ZdZ hsv (j:=0) rfl; subst hsae; rw [Nat.add_zero] at s0; have HB5:=Zq hb5; clear hsv hb5)
          all_goals
           have HB6:=Zq (HB4.out.drew.trans (HB5.out.mono (by have:=HB4.out.size; simpa using this)))
           clear HB5
           go_wp2_with fail
           rw [Exit.noGoto_ret]
           refine bodyPost_ret (v := .tuple #[.pointer none,.int .i64 ((xn:Nat):Int),.int .i64 10]) (by simp [results,Tryz.results11,go_sem]) rfl (Zjd ?_ HM.out)
           first|exact HB6.out|exact HB6.out.drew
         | true =>
          obtain ⟨L,hLL⟩:∃ L,(Graph.orderS j N).1=L:=⟨_,rfl⟩
          have HM:Hid (newM l = .ok ⟨l,xs.map x3,N,L.filter (hasF (xs.map x3))⟩):=Zq (by
           have h:=ZiZ H0.out HNO.out HES.out HNN.out (by rw [HN.out]; exact hord)
           rw [HN.out,hLL] at h
           exact h)
          have hin:∀ x∈L,0≤x∧x<(j:Int):=by
           intro x hx
           have h1:=(ZiM (n:=j) (xss:=N) (by omega) hord).1
           rw [hLL] at h1
           have h2:=(Graph.ord_st j N j).mem x (by rw [←h1]; exact hx)
           exact ⟨h2.1,h2.2.1⟩
          have hLl:L.length≤100:=by
           have h1:=(ZiM (n:=j) (xss:=N) (by omega) hord).1
           have h2:=Zid (j:Int) N j
           rw [←h1,hLL] at h2
           simp at h2
           omega
          have HIN:=Zq hin
          have HO2:=Zq (HPO.out W3 (GH.le.refl _))
          rw [hord,hLL] at HO2
          clear hord hLL HPO HPS hin
          go_wp2_with fail
          refine HO2.out.mono ?_
          rintro r W4 ⟨ov,rfl,hov,hb4⟩
          obtain ⟨oa,oc,rfl,-⟩:=Zd0 hov
          have hB:=HB.out
          have hbox4:W4.heap[w.heap.size+1]?=some (.cells #[.slice (some ⟨g,0,none⟩) j cp,.map (some w.heap.size),.slice none 0 0] 57 (0,0)):=by
           have h1:=(((HI.out.but.trans HLKS.out.but).call hb4).block _ (Array.getElem?_eq_some_iff.1 HP1.out.box).1 hB).trans HP1.out.box
           rw [HN.out] at h1
           exact h1
          have HB4:=Zq hb4
          have HOV:Hid (IntsV (gb (w.heap.size+1) W4) (.slice oa L.length oc) L):=Zq (IntsV.apart hov hbox4 (fun x h=>by cases h) (fun x h=>by cases h) (fun x h=>by cases h))
          have HN3:Hid (N3 W4 (w.heap.size+1) g w.heap.size j cp (tagG (w.heap.size+1)) (.slice none 0 0) [] W4):=Zq ⟨hbox4,by simp [tagG],Row.nil _ _ _ _ _,Evo.refl _ _ _⟩
          clear hov hb4 hbox4 hB HO2
          go_wp2_with fail
          go_step3
          go_wp2_with fail
          go_loopg [134] L.length (fun gk i wr=>∃ (p:Nat) (t:Tag) (ov:Value) (q:List Int),i = .int .i64 p∧p+gk=L.length∧Hid (N3 W4 (w.heap.size+1) g w.heap.size j cp t ov q wr)∧Hid (q=(L.take p).filter (hasF (xs.map x3))))
          case atStart=>exact ⟨0,_,_,[],rfl,by omega,HN3,Zq rfl⟩
          case round =>
           obtain ⟨p,t,ov,q,rfl,hgp,HJ,HQ⟩:=hrel
           by_cases hp:p<L.length
           · obtain ⟨xn,hxn,hxj⟩:∃ xn:Nat,L[p]?=some (xn:Int)∧xn<j:=by
              obtain ⟨h1,h2⟩:=HIN.out L[p] (List.getElem_mem hp)
              obtain ⟨xn,hx⟩:=Int.eq_ofNat_of_zero_le h1
              exact ⟨xn,by rw [List.getElem?_eq_getElem hp,hx],by omega⟩
             obtain ⟨x,hx⟩:∃ x,xs[xn]?=some x:=⟨_,List.getElem?_eq_getElem (by have:=HXJ.out; omega)⟩
             obtain ⟨f,hf⟩:∃ f,l[xn]?=some f:=⟨_,List.getElem?_eq_getElem (by have:=HN.out; omega)⟩
             have hgB:=HB.out
             have hrows:=(HLKS.out.rows.keep (W':=wr) ((HJ.out.but.block g (by have:=HLKS.out.rows.lt; have:=HB4.out.size; omega) (Ne.symm hgB)).trans (HB4.out.block g HLKS.out.rows.lt)))
             have h17:=(hrows.cell hf (ZiF _ _ _ _ _).1).1
             have hxd:xs.getD xn noX=x:=by simp [List.getD,hx]
             rw [hxd] at h17
             have HHF:=Zq (Zi4 hx)
             have HT:Hid (L.take (p+1)=L.take p++[(xn:Int)]):=Zq (by rw [List.take_add_one,hxn]; rfl)
             obtain ⟨ob,oo,rfl,co⟩:=ZdZ (HOV.out.mono (HJ.out.le.trans (Zae _ _))) hxn
             obtain ⟨⟨b0,b1,b2⟩,⟨f0,f1,f2⟩⟩:=Zf1 HJ.out.box
             have hxi:(0:Int)≤(xn:Int):=by omega
             have hxi2:(xn:Int)<(j:Int):=by omega
             have HRW:=Zq hrows
             clear hxn hx hf hrows hxd hgB
             cases hxs:x.1 with
             | none =>
              rw [hxs] at h17 HHF
              simp only [Option.isSome_none] at h17 HHF
              clear hxs
              go_wp2_with fail
              clear h17 co b0 b1 b2 f0 f1 f2
              go_roundg (gk - 1)
              case rel=>exact ⟨p+1,t,ov,q,by go_num,by omega,HJ,Zq (by rw [HQ.out,HT.out,List.filter_append]; simp [HHF.out])⟩
              case measure=>omega
             | some y =>
              rw [hxs] at h17 HHF
              simp only [Option.isSome_some] at h17 HHF
              obtain ⟨i0,hi,hz0,hz1,hz2⟩:=Zf5
              obtain ⟨ova,ovc,rfl⟩:=HJ.out.row.form
              have hql:q.length≤100:=by rw [HQ.out]; exact Nat.le_trans (List.length_filter_le _ _) (by rw [List.length_take]; omega)
              clear hxs
              go_wp2_with (at_builtin; refine Zac rfl _ _ 32 rfl 3 i0 (.int .i64 0) 1 8 Tryz.underlying32 hi hz0 hz1 hz2 rfl (by decide) rfl HJ.out.row #[.int .i64 xn] 3 (0,0) _ rfl (by simp) rfl ?c1 ?c2 ?c3 ?_)
              case c1=>simp [Value.oneCell']
              case c2=>unfold maxLen; omega
              case c3=>omega
              intro v' t' w' hr he
              obtain ⟨a',c',rfl⟩:=hr.form
              have hr2:Row t' 6 w' 3 1 (.slice a' (q.length+1) c') (q++[(xn:Int)]).length ((q++[(xn:Int)]).map (Value.int .i64)):=by rw [List.map_append,List.length_append]; exact hr
              have HJ2:=Zq (HJ.out.grow hr2 he)
              obtain ⟨⟨m0,m1,m2⟩,⟨n0,n1,n2⟩⟩:=Zf1 ((he.block _ HJ.out.lt (by rw [HJ.out.bt]; decide)).trans HJ.out.box)
              clear hr he hr2 h17 co b0 b1 b2 f0 f1 f2
              go_wp2_with fail
              clear m0 m1 m2 n0 n1 n2
              go_roundg (gk - 1)
              case rel=>exact ⟨p+1,t',_,_,by go_num,by omega,HJ2,Zq (by rw [HQ.out,HT.out,List.filter_append]; simp [HHF.out])⟩
              case measure=>omega
           · obtain rfl:p=L.length:=by omega
             have hql:q.length≤1000:=by rw [HQ.out]; exact Nat.le_trans (List.length_filter_le _ _) (by rw [List.length_take]; omega)
             have hqe:q=L.filter (hasF (xs.map x3)):=by rw [HQ.out,List.take_length]
             have HSE:=Zq (Zi3 HP1.out HI.out HLKS.out HB4.out HJ.out HN.out HXJ.out HNL.out HSHO.out hql)
             have HM2:Hid (newM l = .ok ⟨l,xs.map x3,N,q⟩):=Zq (by rw [hqe]; exact HM.out)
             clear hqe hql
             go_wp2_with fail
             try rw [Exit.noGoto_ret]
             refine bodyPost_ret (v := .tuple #[.pointer (some ⟨w.heap.size+1,0,none⟩),.int .i64 0,.int .i64 0]) (by simp [results,Tryz.results11,go_sem]) rfl ?_
             unfold newPost
             rw [HM2.out]
             exact ⟨HSE.out.2,_,rfl,HSE.out.1⟩
end Go.Proofs.YtpfhhikbaeknpaaGreatDoor
