/- Closed facts of the translated program, each by the kernel by itself: what every row over it asks. No condition. -/
import Derived.Test.YtpfhhikbaeknpaaGreatDoorKUA
import Derived.Test.YtpfhhikbaeknpaaGreatDoorKR4
import Derived.Test.YtpfhhikbaeknpaaGreatDoorKSE
import Derived.ProofKit
import Derived.OpenShut
import Derived.SliceStrings
import Derived.Test.YtpfhhikbaeknpaaGreatDoorKUG
import Derived.Test.YtpfhhikbaeknpaaGreatDoorRows
import Derived.JoinedOf
set_option linter.unusedSectionVars false
set_option linter.unusedSimpArgs false
set_option linter.unusedVariables false
namespace Go.Proofs.YtpfhhikbaeknpaaGreatDoor
open Go.RowKit Pal
attribute [local go_sem ↓] Go.wp_at_zero Go.wp_at_succ
theorem FdsV.lay {w:World} {b:Nat} (l:List Fd) (T:TypeId) (h:w.heap[b]?=some (.cells (l.flatMap inCells).toArray T (0,0))) (hm:l.length≤maxLen):FdsV (gh w) (.slice (some ⟨b,0,none⟩) l.length l.length) l:=by
 refine ⟨_,_,rfl,(fun h=>by cases h),Nat.le_refl _,hm,fun j c x hj hc=>⟨b,0,rfl,?_⟩⟩
 rw [gh_cell]
 have hc':(inCells l[j])[c]?=some x:=by have:(inCells (l.getD j noFd))[c]?=some x:=hc; rwa [getD_in hj] at this
 have hcl:c<5:=(List.getElem?_eq_some_iff.1 hc').1
 have hg:=flat_get inCells 5 inCells_len l j c l[j] (List.getElem?_eq_getElem hj) hcl
 rw [cell_of_row w b _ _ T (0,0) h,Nat.zero_add]
 simpa [hg] using hc'
theorem new_ok {l:List Fd} {F:Form} (v:Value) (w:World) (hl:l.length≤1000000) (hS:∀ f∈l,Short f) (hL:Lay (gh w)) (hF:FdsV (gh w) v l) (hm:newM l = .ok F) :
 Calls Tryz.prog 11 #[v] w fun e W=>Below w.heap.size w W∧∃ b,e = .returned (.tuple #[.pointer (some ⟨b,0,none⟩),.int .i64 0,.int .i64 0])∧SchV (gh W) b F:=by
 have h:=new_any l v w hl hS hL hF
 unfold newPost at h
 rw [hm] at h
 exact h
def awL:List Fd:=[⟨[97],1,[],[],[]⟩,⟨[98],1,[97,43,49],[],[]⟩,⟨[99],1,[98,42,98],[],[]⟩]
theorem aw_eval:(match newM awL with | .ok F=>(F.order,F.needs) | .error _=>([],[]))=([1,2],[[],[0],[1]]):=by kernel_rfl
theorem aw_new:∃ F,newM awL = .ok F∧F.order=[1,2]∧F.needs=[[],[0],[1]]∧F.l=awL:=by
 have h:=aw_eval
 cases hm:newM awL with
 | error e=>rw [hm] at h; cases h
 | ok F =>
  rw [hm] at h
  simp only [Prod.mk.injEq] at h
  exact ⟨F,rfl,h.1,h.2,(newM_ok hm).2.2.2.1⟩
theorem aw_short:∀ f∈awL,Short f:=by
 intro f hf
 simp only [awL,List.mem_cons,List.not_mem_nil,or_false] at hf
 rcases hf with rfl|rfl|rfl<;>exact ⟨by decide,by decide,by decide,by decide,by decide⟩
set_option maxRecDepth 100000 in
set_option maxHeartbeats 2000000 in
theorem awake11 (w:World) (hL:Lay (gh w)):Calls Tryz.prog 13 #[] w (yesPost w):=by
 obtain ⟨F,hm,ho,hnd,hFl⟩:=aw_new
 have hb0:Below w.heap.size w (w.alloc (.cells (awL.flatMap inCells).toArray 27)):=(Below.refl _ _).alloc (Nat.le_refl _) _
 have HNEW:=Lib.hid (new_ok (.slice (some ⟨w.heap.size,0,none⟩) 3 3) (w.alloc (.cells (awL.flatMap inCells).toArray 27)) (by decide) aw_short (hL.below hb0) (FdsV.lay awL _ (heap_alloc_new w _) (by decide)) hm)
 have HB0:=Lib.hid hb0
 have HO:=Lib.hid ho
 have HND:=Lib.hid hnd
 have HFL:=Lib.hid hFl
 clear hm ho hnd hFl hb0
 unfold yesPost
 go_enter Tryz.func13,Tryz.ntmps13
 go_wp2_with fail
 refine HNEW.out.mono ?_
 rintro r W1 ⟨hb1,b,rfl,hs⟩
 have HB1:=Lib.hid (HB0.out.seq hb1)
 have HS1:=Lib.hid hs
 have HOR:=Lib.hid (order_of W1 hs)
 rw [HO.out] at HOR
 unfold intsPost at HOR
 clear hb1 hs HNEW
 go_wp2_with fail
 refine HOR.out.mono ?_
 rintro r W2 ⟨hb2,v2,rfl,hv2⟩
 obtain ⟨a2,c2,rfl,-⟩:=intsV_form hv2
 have hb3:=hb2.alloc hb2.size (.cells #[.int .i64 1,.int .i64 2] 3)
 have HSI:=Lib.hid (same_ints (gh (W2.alloc (.cells #[.int .i64 1,.int .i64 2] 3))) _ _ [1,2] [1,2] _ (GH.le.refl _) (hv2.mono (below_gh ((Below.refl W2.heap.size W2).alloc (Nat.le_refl _) _))) (intsV_lay [1,2] 3 (heap_alloc_new W2 _) (by decide)))
 have HB3:=Lib.hid hb3
 clear hb2 hb3 hv2 HOR
 go_wp2_with fail
 refine HSI.out.mono ?_
 rintro r W3 ⟨rfl,n3,rfl⟩
 have HB4:=Lib.hid (Pal.below_drewN HB3.out n3)
 have HS4:=Lib.hid (HS1.out.mono (below_gh HB4.out))
 have hne:=needs_in 2 [1] _ HS4.out (by rw [HFL.out]; decide) (by rw [HFL.out]; decide) (by rw [HND.out]; rfl)
 rw [show (((2:Nat)):Int)=2 from rfl] at hne
 have HNE:=Lib.hid hne
 unfold intsPost at HNE
 clear HSI hne
 generalize (W2.alloc (.cells #[.int .i64 1,.int .i64 2] 3)).drewN n3=W4 at *
 go_wp2_with fail
 refine HNE.out.mono ?_
 rintro r W5 ⟨hb5,v5,rfl,hv5⟩
 obtain ⟨a5,c5,rfl,-⟩:=intsV_form hv5
 have hb6:=hb5.alloc hb5.size (.cells #[.int .i64 1] 3)
 have HSI2:=Lib.hid (same_ints (gh (W5.alloc (.cells #[.int .i64 1] 3))) _ _ [1] [1] _ (GH.le.refl _) (hv5.mono (below_gh ((Below.refl W5.heap.size W5).alloc (Nat.le_refl _) _))) (intsV_lay [1] 3 (heap_alloc_new W5 _) (by decide)))
 have HB6:=Lib.hid (HB4.out.seq hb6)
 clear hb5 hb6 hv5 HNE
 go_wp2_with fail
 refine HSI2.out.mono ?_
 rintro r W6 ⟨rfl,n6,rfl⟩
 have HB7:=Lib.hid (Pal.below_drewN HB6.out n6)
 have hle:=len_any _ (HS1.out.mono (below_gh HB7.out))
 rw [HFL.out] at hle
 have HLE:=Lib.hid hle
 have HB8:=Lib.hid (HB1.out.seq HB7.out)
 clear HSI2 hle
 generalize (W5.alloc (.cells #[.int .i64 1] 3)).drewN n6=W7 at *
 go_wp2_with fail
 refine HLE.out.mono ?_
 rintro r W8 ⟨rfl,rfl⟩
 go_wp2
 go_ret
 exact ⟨rfl,HB8.out⟩
open Go Go.RowKit Go.ChangeShapes Go.WideShapes Go.ChangeAt Pal
theorem len5 {α:Type} {l:List α} (h:l.length=5):∃ a b c d e,l=[a,b,c,d,e]:=by
 match l,h with|[a,b,c,d,e],_=>exact ⟨a,b,c,d,e,rfl⟩
structure Fd0 (f:Fd):Prop where
 n:f.n.length≤9223372036854775807
 t:I64 f.t
 fo:f.fo.length≤9223372036854775807
 ru:f.ru.length≤9223372036854775807
 sh:f.sh.length≤9223372036854775807
section
variable {H : Type} {enc : TypeId × Value → H} {W : World} {sp : Nat → Bool} {held : Bool} {fuel : Nat} {cs : List Value} {x : DataW H × List MemPlace}
theorem str_le {s:ByteArray} (w:s.size≤maxLen):s.data.toList.length≤9223372036854775807:=by
 rw [size_len] at w
 unfold maxLen at w
 simpa using w
theorem fd_trod (h:DataW.trod enc Tryz.prog W 0 sp held fuel 27 cs=some x):∃ f:Fd,cs=inCells f∧Fd0 f:=by
 obtain ⟨xs,m,_,_,hl,hsz,hf⟩:=DataW.trod_struct Tryz.underlying27 h
 rw [show Tryz.prog.cellsOf 27=5 by kernel_rfl] at hl
 obtain ⟨a,b,c,d,e,rfl⟩:=len5 hl
 have z:xs.length=5:=hsz
 have h0:DataW.trod enc Tryz.prog W 0 sp held m 9 (([a,b,c,d,e].drop 0).take (Tryz.prog.cellsOf 9))=xs[0]?:=hf 0 _ rfl
 have h1:DataW.trod enc Tryz.prog W 0 sp held m 3 (([a,b,c,d,e].drop 1).take (Tryz.prog.cellsOf 3))=xs[1]?:=hf 1 _ rfl
 have h2:DataW.trod enc Tryz.prog W 0 sp held m 9 (([a,b,c,d,e].drop 2).take (Tryz.prog.cellsOf 9))=xs[2]?:=hf 2 _ rfl
 have h3:DataW.trod enc Tryz.prog W 0 sp held m 9 (([a,b,c,d,e].drop 3).take (Tryz.prog.cellsOf 9))=xs[3]?:=hf 3 _ rfl
 have h4:DataW.trod enc Tryz.prog W 0 sp held m 9 (([a,b,c,d,e].drop 4).take (Tryz.prog.cellsOf 9))=xs[4]?:=hf 4 _ rfl
 rw [List.getElem?_eq_getElem (by omega)] at h0 h1 h2 h3 h4
 rw [show Tryz.prog.cellsOf 9=1 by kernel_rfl] at h0 h2 h3 h4
 rw [show Tryz.prog.cellsOf 3=1 by kernel_rfl] at h1
 obtain ⟨s0,e0,_,w0⟩:=DataW.trod_string Tryz.underlying9 h0
 obtain ⟨k,e1,_,w1⟩:=DataW.trod_int Tryz.underlying3 h1
 obtain ⟨s2,e2,_,w2⟩:=DataW.trod_string Tryz.underlying9 h2
 obtain ⟨s3,e3,_,w3⟩:=DataW.trod_string Tryz.underlying9 h3
 obtain ⟨s4,e4,_,w4⟩:=DataW.trod_string Tryz.underlying9 h4
 simp at e0 e1 e2 e3 e4
 subst e0 e1 e2 e3 e4
 exact ⟨⟨s0.data.toList,k,s2.data.toList,s3.data.toList,s4.data.toList⟩,by simp [inCells],str_le w0,wf_i64 w1,str_le w2,str_le w3,str_le w4⟩
theorem fds_trod (h:DataW.trod enc Tryz.prog W 0 sp held fuel 25 cs=some x) :
 ∃ (v:Value) (l:List Fd),cs=[v]∧(FdsV (gh W) v l∧l.length≤9223372036854775807)∧∀ f∈l,Fd0 f:=by
 rcases row_open Tryz.underlying25 (c:=5) (by kernel_rfl) (by decide) h with he|⟨ad,len,cap,n',hn',he,hlc,hcm,hel⟩
 · exact ⟨_,[],he,⟨⟨none,0,rfl,fun _=>⟨rfl,rfl⟩,Nat.le_refl _,by simp [maxLen],fun j c x hj=>by simp at hj⟩,by simp⟩,by simp⟩
 · have hq:∀ i,∃ q:Fd,i<len→ad=⟨ad.block,ad.off,none⟩∧(∀ j,j<5→W.cell? ⟨ad.block,ad.off+i*5+j,none⟩=(inCells q)[j]?)∧Fd0 q:=by
    intro i
    by_cases hi:i<len
    · obtain ⟨ha,ci,y,hcl,hy,hcells⟩:=hel i hi
      obtain ⟨v,rfl,hv⟩:=fd_trod hy
      exact ⟨v,fun _=>⟨ha,hcells,hv⟩⟩
    · exact ⟨noFd,fun h=>absurd h hi⟩
   obtain ⟨q,hq⟩:=Classical.axiomOfChoice hq
   have hlen:((List.range len).map q).length=len:=by simp
   have hcm2:len≤9223372036854775807:=by unfold maxLen at hcm; omega
   have hget:∀ (j:Nat) (k:Fd),((List.range len).map q)[j]?=some k→j<len∧k=q j:=by
    intro j k hj
    have hlt:=(List.getElem?_eq_some_iff.1 hj).1
    rw [hlen] at hlt
    rw [List.getElem?_map,List.getElem?_range hlt] at hj
    simp at hj
    exact ⟨hlt,hj.symm⟩
   refine ⟨_,(List.range len).map q,he,⟨⟨some ad,cap,by rw [hlen],(fun h=>by cases h),by rw [hlen]; exact hlc,hcm,fun j c x hj hc=>?_⟩,by rw [hlen]; exact hcm2⟩,fun k hk=>?_⟩
   · have hjl:j<len:=by rwa [hlen] at hj
     have hd:((List.range len).map q).getD j noFd=q j:=by simp [List.getD,hjl]
     have hc':(inCells (q j))[c]?=some x:=by rw [←hd]; exact hc
     have hcl:c<5:=(List.getElem?_eq_some_iff.1 hc').1
     obtain ⟨ha,hcc,_⟩:=hq j hjl
     refine ⟨ad.block,ad.off,by rw [←ha],?_⟩
     rw [gh_cell,show ad.off+(5*j+c)=ad.off+j*5+c by omega,hcc c hcl]
     exact hc'
   · obtain ⟨j,hj⟩:=List.getElem?_of_mem hk
     obtain ⟨hlt,rfl⟩:=hget j k hj
     exact (hq j hlt).2.2
end
section
variable {H : Type} {enc : TypeId × Value → H} {W : World} {r : Go.Reach} {b0 : Nat} {v : Value} {d : DataW H} {ps : List MemPlace}
set_option maxRecDepth 1000000 in
theorem fds_open (hval:Value.okWide Tryz.prog W r b0 25 v) (h:DataW.Trod enc Tryz.prog W 0 (fun _=>true) true 25 v d ps) :
 ∃ l:List Fd,(FdsV (gh W) v l∧l.length≤9223372036854775807)∧∀ f∈l,Fd0 f:=by
 obtain ⟨a,len,cap,rfl⟩:=okWide_slice Tryz.underlying25 hval
 obtain ⟨fuel,hf⟩:=h
 obtain ⟨v,l,hx,hv⟩:=fds_trod hf
 simp [Value.cells] at hx
 subst hx
 exact ⟨l,hv⟩
end
attribute [local go_sem ↓] Go.wp_at_zero Go.wp_at_succ
theorem fd0_shortU {f:Fd} (h:Fd0 f) (hs:f.n.length≤1000∧f.fo.length≤1000∧f.ru.length≤1000∧f.sh.length≤1000):Short f:=⟨by omega,by omega,by omega,by omega,h.t⟩
theorem few_shortU {l:List Fd} (h:fewF l=true) (h0:∀ f∈l,Fd0 f):l.length≤1000000∧∀ f∈l,Short f:=by
 obtain ⟨h1,h2⟩:=fewF_yes h
 exact ⟨by omega,fun f hf=>fd0_shortU (h0 f hf) (h2 f hf)⟩
theorem posT_drop {ns:List Bs} {s:Bs}:∀ {k:Nat},(ns.take k).contains s=false→posT ns s=(posT (ns.drop k) s).map (·+k)
 | 0,_=>by simp
 | k+1,h=>by
  cases ns with
  | nil=>simp [posT]
  | cons m r =>
   simp only [List.take_succ_cons,List.contains_cons,Bool.or_eq_false_iff] at h
   have hm:¬ m=s:=by
    have:=h.1
    simp at this
    exact fun e=>this e.symm
   have h1:=posT_drop (ns:=r) (s:=s) (k:=k) h.2
   rw [List.drop_succ_cons,posT,if_neg hm,h1]
   cases posT (r.drop k) s with
   | none=>rfl
   | some x=>simp; omega
set_option maxRecDepth 1000000 in
set_option maxHeartbeats 2000000 in
theorem refFinds_any {b:Nat} {F:Form} (s:Bs) (w:World) (hl:F.l.length≤1000) (hR:RefV (gh w) b F) :
 Calls Tryz.prog 22 #[.pointer (some ⟨b,0,none⟩),.string ⟨s.toArray⟩] w fun e w'=>e = .returned (findM (Fd.names F.l) s)∧w'=w:=by
 obtain ⟨lv,ev,hv,nv,ov,xs,nds,p⟩:=hR
 obtain ⟨a,cap,rfl⟩:=p.rb.fds.form
 have HF:=Lib.hid p.rb.fds
 obtain ⟨⟨b0,-⟩,-⟩:=box_cells9 (W:=w) p.box
 obtain ⟨n,hn⟩:∃ n,F.l.length=n:=⟨_,rfl⟩
 rw [hn] at b0 hl HF
 have HN:=Lib.hid hn
 obtain ⟨R,hR⟩:∃ R,findM (Fd.names F.l) s=R:=⟨_,rfl⟩
 rw [hR]
 have HR:=Lib.hid hR
 clear p hn hR
 go_enter Tryz.func22,Tryz.ntmps22
 go_wp2_with fail
 go_loopg [6] n (fun g i W=>∃ k:Nat,i = .int .i64 k∧k+g=n∧W=w∧Hid (((Fd.names F.l).take k).contains s=false))
 case atStart=>exact ⟨0,rfl,by omega,rfl,Lib.hid rfl⟩
 case round =>
  obtain ⟨k,rfl,hg,rfl,HC⟩:=hrel
  by_cases hlt:k<n
  · obtain ⟨f,hf⟩:∃ f,F.l[k]?=some f:=⟨_,List.getElem?_eq_getElem (by have:=HN.out; omega)⟩
    obtain ⟨fb,fo,rfl,c0,-⟩:=HF.out.at hf
    have hfn:(Fd.names F.l)[k]?=some f.n:=by simp [Fd.names,List.getElem?_map,hf]
    have HD:Hid ((Fd.names F.l).drop k=f.n::(Fd.names F.l).drop (k+1)):=Lib.hid (by
     have hl2:=(List.getElem?_eq_some_iff.1 hfn)
     rw [List.drop_eq_getElem_cons hl2.1,hl2.2])
    have HT:Hid ((Fd.names F.l).take (k+1)=(Fd.names F.l).take k++[f.n]):=Lib.hid (by rw [List.take_add_one,hfn]; rfl)
    clear hf hfn
    by_cases he:f.n=s
    · have hq:(f.n == s)=true:=by simp [he]
      have HE:Hid (R = .tuple #[.int .i64 k,.bool true]):=Lib.hid (by
       rw [←HR.out]; unfold findM
       rw [posT_drop HC.out,HD.out]
       unfold posT
       rw [if_pos he]
       simp)
      clear he
      go_wp2
      try rw [Exit.noGoto_ret]
      refine bodyPost_ret (v := .tuple #[.int .i64 k,.bool true]) (by simp [results,Tryz.results22,go_sem]) rfl ?_
      exact ⟨by rw [HE.out],rfl⟩
    · have hq:(f.n == s)=false:=by simp [he]
      have HC2:Hid (((Fd.names F.l).take (k+1)).contains s=false):=Lib.hid (by
       have:=HC.out
       rw [HT.out]
       simp only [List.contains_eq_mem,decide_eq_false_iff_not,List.mem_append,List.mem_singleton] at this ⊢
       rintro (h|h)
       · exact this h
       · exact he h.symm)
      clear he
      go_wp2_with fail
      go_roundg (gk - 1)
      case rel=>exact ⟨k+1,by go_num,by omega,rfl,HC2⟩
      case measure=>omega
  · obtain rfl:k=n:=by omega
    have HE:Hid (R = .tuple #[.int .i64 (-1),.bool false]):=Lib.hid (by
     rw [←HR.out]; unfold findM
     have h1:(Fd.names F.l).take k=Fd.names F.l:=List.take_of_length_le (by unfold Fd.names; rw [List.length_map,HN.out]; exact Nat.le_refl _)
     have h2:=HC.out
     rw [h1] at h2
     rw [posT_none.2 h2]
     rfl)
    go_wp2
    try rw [Exit.noGoto_ret]
    refine bodyPost_ret (v := .tuple #[.int .i64 (-1),.bool false]) (by simp [results,Tryz.results22,go_sem]) rfl ?_
    exact ⟨by rw [HE.out],rfl⟩
set_option maxRecDepth 1000000 in
set_option maxHeartbeats 8000000 in
theorem finds_walk (l:List Fd) (v:Value) (name:Bs) (w:World) (hL:Lay2 w) (hF:FdsV (gh w) v l∧l.length≤9223372036854775807) (h0:∀ f∈l,Fd0 f) (hnm:name.length≤9223372036854775807) :
 Calls Tryz.prog 6 #[v,.string ⟨name.toArray⟩] w (yesPost w):=by
 obtain ⟨hF,hlen⟩:=hF
 obtain ⟨va,vc,rfl⟩:=hF.form
 have HL:=Lib.hid hL.lay
 have HF:=Lib.hid hF
 have HFEW:=Lib.hid (fewF_any l (.slice va l.length vc) w hF hlen (fun f hf=>⟨(h0 f hf).n,(h0 f hf).fo,(h0 f hf).ru,(h0 f hf).sh⟩))
 have H0:=Lib.hid h0
 have HAW:=Lib.hid (fun W (hb:Below w.heap.size w W)=>awake11 W (HL.out.below hb))
 unfold yesPost at HAW ⊢
 obtain ⟨ll,hll⟩:∃ ll,l.length=ll:=⟨_,rfl⟩
 rw [hll] at HFEW HF ⊢
 have HLL:=Lib.hid hll
 clear hL hF h0 hlen hll
 cases hfew:fewF l with
 | false =>
  rw [hfew] at HFEW
  clear hfew
  go_enter Tryz.func6,Tryz.ntmps6
  go_wp2_with fail
  refine HFEW.out.mono ?_
  rintro r W ⟨rfl,rfl⟩
  go_wp2_with fail
  refine (HAW.out _ (Below.refl _ _)).mono ?_
  rintro r W ⟨rfl,hb⟩
  go_wp2
  try rw [Exit.noGoto_ret]
  go_ret
  exact ⟨rfl,hb⟩
 | true =>
  rw [hfew] at HFEW
  obtain ⟨hs1,hs2⟩:=few_shortU hfew H0.out
  have HSH:=Lib.hid hs2
  have HFI:=Lib.hid (fields_any l (.slice va ll vc) w HF.out hs1)
  have HS1:=Lib.hid hs1
  unfold fdsPost at HFI
  clear hfew hs1 hs2
  go_enter Tryz.func6,Tryz.ntmps6
  go_wp2_with fail
  refine HFEW.out.mono ?_
  rintro r W ⟨rfl,rfl⟩
  go_wp2_with fail
  refine HFI.out.mono ?_
  rintro r W1 ⟨hb1,fv,rfl,hfv⟩
  obtain ⟨fa,fc,rfl⟩:=hfv.form
  have HB1:=Lib.hid hb1
  have hnew:=new_any l _ W1 HS1.out HSH.out (HL.out.below hb1) hfv
  unfold newPost at hnew
  have hrf:∀ W,Below w.heap.size w W→Calls Tryz.prog 20 #[.slice va ll vc] W (refNewPost l W):=fun W hb=>refNew_any l _ W HS1.out HSH.out (HF.out.mono (below_gh hb))
  unfold refNewPost at hrf
  cases hm:newM l with
  | error z =>
   obtain ⟨i,e⟩:=z
   rw [hm] at hnew hrf
   simp only at hnew hrf
   have he:(e != 0)=true:=by have:=newM_err_ne hm; simpa using this
   have HNEW:=Lib.hid hnew
   have HRF:=Lib.hid hrf
   have q1:(e != e)=false:=by simp
   clear hb1 hfv hm hnew hrf
   go_wp2_with fail
   refine HNEW.out.mono ?_
   rintro r W2 ⟨hb2,rfl⟩
   have HB2:=Lib.hid (HB1.out.seq hb2)
   clear hb2 HNEW
   go_wp2_with fail
   refine (HRF.out _ HB2.out).mono ?_
   rintro r W3 ⟨hb3,rfl⟩
   have HB3:=Lib.hid (HB2.out.seq hb3)
   clear hb3 HRF
   go_wp2_with fail
   refine (HAW.out _ HB3.out).mono ?_
   rintro r W ⟨rfl,hb⟩
   have HB4:=Lib.hid (HB3.out.seq hb)
   clear hb
   go_wp2
   try rw [Exit.noGoto_ret]
   go_ret
   exact ⟨rfl,HB4.out⟩
  | ok F =>
   rw [hm] at hnew hrf
   simp only at hnew hrf
   have HFL:=Lib.hid (newM_ok hm).2.2.2.1
   have HF24:Hid (l.length≤24):=Lib.hid (by have:=(newM_ok hm).1; omega)
   have HNEW:=Lib.hid hnew
   have HRF:=Lib.hid hrf
   clear hb1 hfv hm hnew hrf
   go_wp2_with fail
   refine HNEW.out.mono ?_
   rintro r W2 ⟨hb2,b,rfl,hs2⟩
   have HB2:=Lib.hid (HB1.out.seq hb2)
   have HSC:=Lib.hid hs2
   clear hb2 hs2 HNEW
   go_wp2_with fail
   refine (HRF.out _ HB2.out).mono ?_
   rintro r W3 ⟨hb3,b2,rfl,hr3⟩
   have HB3:=Lib.hid (HB2.out.seq hb3)
   have HSC3:=Lib.hid (HSC.out.mono (below_gh hb3))
   have HRV:=Lib.hid hr3
   have HFD:=Lib.hid (sfind_any name W3 (by omega) HSC3.out)
   have HRD:=Lib.hid (refFinds_any name W3 (by rw [HFL.out]; have:=HF24.out; omega) HRV.out)
   obtain ⟨x,y,hxy⟩:∃ x y,findM (Fd.names F.l) name = .tuple #[.int .i64 x,.bool y]:=⟨_,_,rfl⟩
   rw [hxy] at HFD HRD
   clear hb3 hr3 HRF HSC
   go_wp2_with fail
   refine HFD.out.mono ?_
   rintro r W4 ⟨rfl,rfl⟩
   go_wp2_with fail
   refine HRD.out.mono ?_
   rintro r W5 ⟨rfl,rfl⟩
   have q1:(x == x)=true:=beq_self_eq_true x
   have q2:(y == y)=true:=beq_self_eq_true y
   clear hxy HFD HRD
   go_wp2_with fail
   refine (HAW.out _ HB3.out).mono ?_
   rintro r W ⟨rfl,hb⟩
   have HB4:=Lib.hid (HB3.out.seq hb)
   clear hb
   go_wp2
   try rw [Exit.noGoto_ret]
   go_ret
   exact ⟨rfl,HB4.out⟩
open Go.RowKit Go.ChangeShapes Go.WideShapes Go.ChangeAt
open Go
set_option maxRecDepth 1000000
theorem zf_laid:laidOutB Tryz.prog=true:=by kernel_rfl
theorem zf_maps:mapsRowed Tryz.prog=true:=by kernel_rfl
theorem zf_keys:(true == Tryz.prog.plainKeys)=true:=by kernel_rfl
theorem zf_heard:Tryz.prog.stopsHeard=true:=by kernel_rfl
theorem zf_enter:Tryz.prog.mayEnter=true:=by kernel_rfl
theorem zf_lift:(false == Tryz.prog.liftsFinal)=true:=by kernel_rfl
end Go.Proofs.YtpfhhikbaeknpaaGreatDoor
