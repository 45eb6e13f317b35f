/- The walk of palaverlaw11. -/
import Derived.Test.YtpfhhikbaeknpaaGreatDoorKUA
import Derived.Test.YtpfhhikbaeknpaaGreatDoorKR4
import Derived.Test.YtpfhhikbaeknpaaGreatDoorKSE
import Derived.ProofKit
import Derived.OpenShut
import Derived.SliceStrings
import Derived.Test.YtpfhhikbaeknpaaGreatDoorKUG
set_option maxHeartbeats 2000000
set_option maxRecDepth 1000000
set_option linter.all false
namespace Go.Proofs.YtpfhhikbaeknpaaGreatDoor
open Go.RowKit Pal
attribute [local go_sem ↓] Go.wp_at_zero Go.wp_at_succ
theorem FdsV.lay {w:World} {b:Nat} (l:List Fd) (T:TypeId) (h:w.heap[b]?=some (.cells (l.flatMap inCells).toArray T (0,0))) (hm:l.length≤maxLen):FdsV (gh w) (.slice (some ⟨b,0,none⟩) l.length l.length) l:=by
 refine ⟨_,_,rfl,(fun h=>by cases h),Nat.le_refl _,hm,fun j c x hj hc=>⟨b,0,rfl,?_⟩⟩
 rw [Zad]
 have hc':(inCells l[j])[c]?=some x:=by have:(inCells (l.getD j noFd))[c]?=some x:=hc; rwa [ZfB hj] at this
 have hcl:c<5:=(List.getElem?_eq_some_iff.1 hc').1
 have hg:=ZbU inCells 5 Zjs l j c l[j] (List.getElem?_eq_getElem hj) hcl
 rw [cell_of_row w b _ _ T (0,0) h,Nat.zero_add]
 simpa [hg] using hc'
theorem Zoc {l:List Fd} {F:Form} (v:Value) (w:World) (hl:l.length≤1000000) (hS:∀ f∈l,Short f) (hL:Lay (gh w)) (hF:FdsV (gh w) v l) (hm:newM l = .ok F) :
 Calls Tryz.prog 11 #[v] w fun e W=>Below w.heap.size w W∧∃ b,e = .returned (.tuple #[.pointer (some ⟨b,0,none⟩),.int .i64 0,.int .i64 0])∧SchV (gh W) b F:=by
 have h:=Zjf l v w hl hS hL hF
 unfold newPost at h
 rw [hm] at h
 exact h
def awL:List Fd:=[⟨[97],1,[],[],[]⟩,⟨[98],1,[97,43,49],[],[]⟩,⟨[99],1,[98,42,98],[],[]⟩]
theorem Zod:(match newM awL with | .ok F=>(F.order,F.needs) | .error _=>([],[]))=([1,2],[[],[0],[1]]):=by kernel_rfl
theorem Zoe:∃ F,newM awL = .ok F∧F.order=[1,2]∧F.needs=[[],[0],[1]]∧F.l=awL:=by
 have h:=Zod
 cases hm:newM awL with
 | error e=>rw [hm] at h; cases h
 | ok F =>
  rw [hm] at h
  simp only [Prod.mk.injEq] at h
  exact ⟨F,rfl,h.1,h.2,(ZiL hm).2.2.2.1⟩
theorem Zof:∀ f∈awL,Short f:=by
 intro f hf
 simp only [awL,List.mem_cons,List.not_mem_nil,or_false] at hf
 rcases hf with rfl|rfl|rfl<;>exact ⟨by decide,by decide,by decide,by decide,by decide⟩
theorem Zog (w:World) (hL:Lay (gh w)):Calls Tryz.prog 13 #[] w (yesPost w):=by
 obtain ⟨F,hm,ho,hnd,hFl⟩:=Zoe
 have hb0:Below w.heap.size w (w.alloc (.cells (awL.flatMap inCells).toArray 27)):=(Below.refl _ _).alloc Zs _
 have HNEW:=Zq (Zoc (.slice (some ⟨w.heap.size,0,none⟩) 3 3) (w.alloc (.cells (awL.flatMap inCells).toArray 27)) (by decide) Zof (hL.below hb0) (FdsV.lay awL _ (heap_alloc_new w _) (by decide)) hm)
 have HB0:=Zq hb0
 have HO:=Zq ho
 have HND:=Zq hnd
 have HFL:=Zq hFl
 clear hm ho hnd hFl hb0
 unfold yesPost
 go_in
 go_wp2_with fail
 refine HNEW.out.mono ?_
 rintro r W1 ⟨hb1,b,rfl,hs⟩
 have HB1:=Zq (HB0.out.seq hb1)
 have HS1:=Zq hs
 have HOR:=Zq (Zjm W1 hs)
 rw [HO.out] at HOR
 unfold intsPost at HOR
 clear hb1 hs HNEW
 go_wp2_with fail
 refine HOR.out.mono ?_
 rintro r W2 ⟨hb2,v2,rfl,hv2⟩
 obtain ⟨a2,c2,rfl,-⟩:=Zd0 hv2
 have hb3:=hb2.alloc hb2.size (.cells #[.int .i64 1,.int .i64 2] 3)
 have HSI:=Zq (Zjh (gh (W2.alloc (.cells #[.int .i64 1,.int .i64 2] 3))) _ _ [1,2] [1,2] _ (GH.le.refl _) (hv2.mono (Zah ((Below.refl W2.heap.size W2).alloc Zs _))) (Zg6 [1,2] 3 (heap_alloc_new W2 _) (by decide)))
 have HB3:=Zq hb3
 clear hb2 hb3 hv2 HOR
 go_wp2_with fail
 refine HSI.out.mono ?_
 rintro r W3 ⟨rfl,n3,rfl⟩
 have HB4:=Zq (Pal.below_drewN HB3.out n3)
 have HS4:=Zq (HS1.out.mono (Zah HB4.out))
 have hne:=Zjn 2 [1] _ HS4.out (by rw [HFL.out]; decide) (by rw [HFL.out]; decide) (by rw [HND.out]; rfl)
 rw [show (((2:Nat)):Int)=2 from rfl] at hne
 have HNE:=Zq hne
 unfold intsPost at HNE
 clear HSI hne
 generalize (W2.alloc (.cells #[.int .i64 1,.int .i64 2] 3)).drewN n3=W4 at *
 go_wp2_with fail
 refine HNE.out.mono ?_
 rintro r W5 ⟨hb5,v5,rfl,hv5⟩
 obtain ⟨a5,c5,rfl,-⟩:=Zd0 hv5
 have hb6:=hb5.alloc hb5.size (.cells #[.int .i64 1] 3)
 have HSI2:=Zq (Zjh (gh (W5.alloc (.cells #[.int .i64 1] 3))) _ _ [1] [1] _ (GH.le.refl _) (hv5.mono (Zah ((Below.refl W5.heap.size W5).alloc Zs _))) (Zg6 [1] 3 (heap_alloc_new W5 _) (by decide)))
 have HB6:=Zq (HB4.out.seq hb6)
 clear hb5 hb6 hv5 HNE
 go_wp2_with fail
 refine HSI2.out.mono ?_
 rintro r W6 ⟨rfl,n6,rfl⟩
 have HB7:=Zq (Pal.below_drewN HB6.out n6)
 have hle:=Zjl _ (HS1.out.mono (Zah HB7.out))
 rw [HFL.out] at hle
 have HLE:=Zq hle
 have HB8:=Zq (HB1.out.seq HB7.out)
 clear HSI2 hle
 generalize (W5.alloc (.cells #[.int .i64 1] 3)).drewN n6=W7 at *
 go_wp2_with fail
 refine HLE.out.mono ?_
 rintro r W8 ⟨rfl,rfl⟩
 go_wp2
 go_ret
 exact ⟨rfl,HB8.out⟩
open Go Go.RowKit Go.ChangeShapes Go.WideShapes Go.ChangeAt Pal
theorem len5 {α:Type} {l:List α} (h:l.length=5):∃ a b c d e,l=[a,b,c,d,e]:=by
 match l,h with|[a,b,c,d,e],_=>exact ⟨a,b,c,d,e,rfl⟩
structure Fd0 (f:Fd):Prop where
 n:f.n.length≤9223372036854775807
 t:I64 f.t
 fo:f.fo.length≤9223372036854775807
 ru:f.ru.length≤9223372036854775807
 sh:f.sh.length≤9223372036854775807
section
variable {H : Type} {enc : TypeId × Value → H} {W : World} {sp : Nat → Bool} {held : Bool} {fuel : Nat} {cs : List Value} {x : DataW H × List MemPlace}
theorem Zoh {s:ByteArray} (w:s.size≤maxLen):s.data.toList.length≤9223372036854775807:=by
 rw [Zm8] at w
 unfold maxLen at w
 simpa using w
theorem Zoi (h:DataW.trod enc Tryz.prog W 0 sp held fuel 27 cs=some x):∃ f:Fd,cs=inCells f∧Fd0 f:=by
 obtain ⟨xs,m,_,_,hl,hsz,hf⟩:=DataW.trod_struct Tryz.underlying27 h
 rw [show Tryz.prog.cellsOf 27=5 by kernel_rfl] at hl
 obtain ⟨a,b,c,d,e,rfl⟩:=len5 hl
 have z:xs.length=5:=hsz
 have h0:DataW.trod enc Tryz.prog W 0 sp held m 9 (([a,b,c,d,e].drop 0).take (Tryz.prog.cellsOf 9))=xs[0]?:=hf 0 _ rfl
 have h1:DataW.trod enc Tryz.prog W 0 sp held m 3 (([a,b,c,d,e].drop 1).take (Tryz.prog.cellsOf 3))=xs[1]?:=hf 1 _ rfl
 have h2:DataW.trod enc Tryz.prog W 0 sp held m 9 (([a,b,c,d,e].drop 2).take (Tryz.prog.cellsOf 9))=xs[2]?:=hf 2 _ rfl
 have h3:DataW.trod enc Tryz.prog W 0 sp held m 9 (([a,b,c,d,e].drop 3).take (Tryz.prog.cellsOf 9))=xs[3]?:=hf 3 _ rfl
 have h4:DataW.trod enc Tryz.prog W 0 sp held m 9 (([a,b,c,d,e].drop 4).take (Tryz.prog.cellsOf 9))=xs[4]?:=hf 4 _ rfl
 rw [List.getElem?_eq_getElem (by omega)] at h0 h1 h2 h3 h4
 rw [show Tryz.prog.cellsOf 9=1 by kernel_rfl] at h0 h2 h3 h4
 rw [show Tryz.prog.cellsOf 3=1 by kernel_rfl] at h1
 obtain ⟨s0,e0,_,w0⟩:=DataW.trod_string Tryz.underlying9 h0
 obtain ⟨k,e1,_,w1⟩:=DataW.trod_int Tryz.underlying3 h1
 obtain ⟨s2,e2,_,w2⟩:=DataW.trod_string Tryz.underlying9 h2
 obtain ⟨s3,e3,_,w3⟩:=DataW.trod_string Tryz.underlying9 h3
 obtain ⟨s4,e4,_,w4⟩:=DataW.trod_string Tryz.underlying9 h4
 simp at e0 e1 e2 e3 e4
 subst e0 e1 e2 e3 e4
 exact ⟨⟨s0.data.toList,k,s2.data.toList,s3.data.toList,s4.data.toList⟩,by simp [inCells],Zoh w0,wf_i64 w1,Zoh w2,Zoh w3,Zoh w4⟩
theorem Zoj (h:DataW.trod enc Tryz.prog W 0 sp held fuel 25 cs=some x) :
 ∃ (v:Value) (l:List Fd),cs=[v]∧(FdsV (gh W) v l∧l.length≤9223372036854775807)∧∀ f∈l,Fd0 f:=by
 rcases Zm7 Tryz.underlying25 (c:=5) (by kernel_rfl) (by decide) h with he|⟨ad,len,cap,n',hn',he,hlc,hcm,hel⟩
 · exact ⟨_,[],he,⟨⟨none,0,rfl,fun _=>⟨rfl,rfl⟩,Nat.le_refl _,by simp [maxLen],fun j c x hj=>by simp at hj⟩,by simp⟩,by simp⟩
 · have hq:∀ i,∃ q:Fd,i<len→ad=⟨ad.block,ad.off,none⟩∧(∀ j,j<5→W.cell? ⟨ad.block,ad.off+i*5+j,none⟩=(inCells q)[j]?)∧Fd0 q:=by
    intro i
    by_cases hi:i<len
    · obtain ⟨ha,ci,y,hcl,hy,hcells⟩:=hel i hi
      obtain ⟨v,rfl,hv⟩:=Zoi hy
      exact ⟨v,fun _=>⟨ha,hcells,hv⟩⟩
    · exact ⟨noFd,fun h=>absurd h hi⟩
   obtain ⟨q,hq⟩:=Classical.axiomOfChoice hq
   have hlen:((List.range len).map q).length=len:=by simp
   have hcm2:len≤9223372036854775807:=by unfold maxLen at hcm; omega
   have hget:∀ (j:Nat) (k:Fd),((List.range len).map q)[j]?=some k→j<len∧k=q j:=by
    intro j k hj
    have hlt:=(List.getElem?_eq_some_iff.1 hj).1
    rw [hlen] at hlt
    rw [List.getElem?_map,List.getElem?_range hlt] at hj
    simp at hj
    exact ⟨hlt,hj.symm⟩
   refine ⟨_,(List.range len).map q,he,⟨⟨some ad,cap,by rw [hlen],(fun h=>by cases h),by rw [hlen]; exact hlc,hcm,fun j c x hj hc=>?_⟩,by rw [hlen]; exact hcm2⟩,fun k hk=>?_⟩
   · have hjl:j<len:=by rwa [hlen] at hj
     have hd:((List.range len).map q).getD j noFd=q j:=by simp [List.getD,hjl]
     have hc':(inCells (q j))[c]?=some x:=by rw [←hd]; exact hc
     have hcl:c<5:=(List.getElem?_eq_some_iff.1 hc').1
     obtain ⟨ha,hcc,_⟩:=hq j hjl
     refine ⟨ad.block,ad.off,by rw [←ha],?_⟩
     rw [Zad,show ad.off+(5*j+c)=ad.off+j*5+c by omega,hcc c hcl]
     exact hc'
   · obtain ⟨j,hj⟩:=List.getElem?_of_mem hk
     obtain ⟨hlt,rfl⟩:=hget j k hj
     exact (hq j hlt).2.2
end
section
variable {H : Type} {enc : TypeId × Value → H} {W : World} {r : Go.Reach} {b0 : Nat} {v : Value} {d : DataW H} {ps : List MemPlace}
theorem Zok (hval:Value.okWide Tryz.prog W r b0 25 v) (h:DataW.Trod enc Tryz.prog W 0 (fun _=>true) true 25 v d ps) :
 ∃ l:List Fd,(FdsV (gh W) v l∧l.length≤9223372036854775807)∧∀ f∈l,Fd0 f:=by
 obtain ⟨a,len,cap,rfl⟩:=okWide_slice Tryz.underlying25 hval
 obtain ⟨fuel,hf⟩:=h
 obtain ⟨v,l,hx,hv⟩:=Zoj hf
 simp [Value.cells] at hx
 subst hx
 exact ⟨l,hv⟩
end
attribute [local go_sem ↓] Go.wp_at_zero Go.wp_at_succ
theorem Zol {f:Fd} (h:Fd0 f) (hs:f.n.length≤1000∧f.fo.length≤1000∧f.ru.length≤1000∧f.sh.length≤1000):Short f:=⟨by omega,by omega,by omega,by omega,h.t⟩
theorem Zom {l:List Fd} (h:fewF l=true) (h0:∀ f∈l,Fd0 f):l.length≤1000000∧∀ f∈l,Short f:=by
 obtain ⟨h1,h2⟩:=Zjq h
 exact ⟨by omega,fun f hf=>Zol (h0 f hf) (h2 f hf)⟩
end Go.Proofs.YtpfhhikbaeknpaaGreatDoor
