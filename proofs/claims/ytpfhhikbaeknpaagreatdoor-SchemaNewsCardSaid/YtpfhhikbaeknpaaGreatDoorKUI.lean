/- The walks of (*schema. -/
import Derived.Test.YtpfhhikbaeknpaaGreatDoorKUF
import Derived.Test.YtpfhhikbaeknpaaGreatDoorKUE
set_option maxHeartbeats 2000000
set_option maxRecDepth 1000000
set_option linter.all false
namespace Go.Proofs.YtpfhhikbaeknpaaGreatDoor
open Go.RowKit Pal
attribute [local go_sem ↓] Go.wp_at_zero Go.wp_at_succ
def exprPost (o:OV) (w:World) (r:Ending) (w':World):Prop :=
 Below w.heap.size w w'∧(match o with
  | none=>r = .returned (.tuple #[.agg #[.int .i64 0,.int .i64 0,.string ⟨#[]⟩,.slice none 0 0],.bool false])
  | some x=>∃ a c,r = .returned (.tuple #[.agg #[.int .i64 x.1.op,.int .i64 x.1.n,.string ⟨x.1.s.toArray⟩,.slice a x.1.ks.length c],.bool true])∧KV (gn w.heap.size w') (.slice a x.1.ks.length c) x.1.ks)
theorem Zow (f:Fd) (x:XV) (nv:Value) {k:Nat} (hk:k<3) {j:Nat} (hj:j<4):(fdCells f x.1 x.2.1 x.2.2 nv)[5+4*k+j]?=(exOf (prj k x))[j]?:=by
 obtain ⟨a,b,c⟩:=x
 rcases (by omega:k=0∨k=1∨k=2) with rfl|rfl|rfl<;>rcases (by omega:j=0∨j=1∨j=2∨j=3) with rfl|rfl|rfl|rfl<;>cases a<;>cases b<;>cases c<;>rfl
theorem Zox (f:Fd) (x:XV) (nv:Value) {k:Nat} (hk:k<3):(fdCells f x.1 x.2.1 x.2.2 nv)[17+k]?=some (.bool (prj k x).isSome):=by
 obtain ⟨a,b,c⟩:=x
 rcases (by omega:k=0∨k=1∨k=2) with rfl|rfl|rfl<;>cases a<;>cases b<;>cases c<;>rfl
theorem Zpk {b:Nat} {F:Form} {g cap mb:Nat} {ov:Value} {xs:List XV} {nds:List Value} {k:Nat} (hk3:k<3) (kk:Int) (hkk:kk=(k:Int)) (w:World) (p:SchP (gh w) b F g cap mb ov xs nds) (i:Nat) (x:XV) (hx:xs[i]?=some x) (h24:F.l.length≤24)
 (hk:∀ y,prj k x=some y→KV (gh w) y.2 y.1.ks∧Thin y.1):Calls Tryz.prog 67 #[.pointer (some ⟨b,0,none⟩),.int .i64 i,.int .i64 kk] w (exprPost (prj k x) w):=by
 have HB:=Zq ((Below.refl w.heap.size w).alloc Zs (.cells #[.int .i64 0,.int .i64 0,.string ⟨#[]⟩,.slice none 0 0] 61))
 have p0:=p.mono (Zah HB.out)
 obtain ⟨b0,b1,b2⟩:=Zjj (h:=gh w) p0
 have hi:i<F.l.length:=by rw [←p.xlen]; exact (List.getElem?_eq_some_iff.1 hx).1
 obtain ⟨f,hf⟩:∃ f,F.l[i]?=some f:=⟨_,List.getElem?_eq_getElem hi⟩
 have hxd:xs.getD i noX=x:=by simp [List.getD,hx]
 have hh:(w.alloc (.cells #[.int .i64 0,.int .i64 0,.string ⟨#[]⟩,.slice none 0 0] 61)).cell? ⟨g,i*21+(17+k),none⟩=some (.bool (prj k x).isSome):=Zjk p0 hf (j:=17+k) (by rw [hxd]; exact Zox _ _ _ hk3)
 have q1:¬ (i:Int)<0:=by omega
 have q2:¬ (F.l.length:Int)≤(i:Int):=by omega
 have q3:¬ F.l.length≤i:=by omega
 have q4:(i:Int)<(F.l.length:Int):=by omega
 have q5:(0:Int)≤(i:Int):=by omega
 have hz:=heap_alloc_new w (.cells #[.int .i64 0,.int .i64 0,.string ⟨#[]⟩,.slice none 0 0] 61)
 have HZ:=Zq hz
 unfold exprPost
 cases ho:prj k x with
 | none =>
  rw [ho] at hh
  simp only [Option.isSome_none] at hh ⊢
  clear p p0 hf hx hxd hk ho hz b1 b2
  generalize F.l.length=n at *
  rcases (by omega:k=0∨k=1∨k=2) with rfl|rfl|rfl
  all_goals
   first|(obtain rfl:kk=0:=hkk)|(obtain rfl:kk=1:=hkk)|(obtain rfl:kk=2:=hkk)
   simp only [←Nat.add_assoc,Nat.mul_zero,Nat.mul_one,Nat.add_zero,Nat.reduceMul] at hh
   go_in
   go_upto_region 1 with fail
   generalize w.alloc (.cells #[.int .i64 0,.int .i64 0,.string ⟨#[]⟩,.slice none 0 0] 61)=W0 at *
   have hzl:=(Array.getElem?_eq_some_iff.1 HZ.out).1
   obtain ⟨⟨y0,y1,y2,y3⟩,n0,n1,n2,n3⟩:=ZdP HZ.out
   go_wp2
   try rw [Exit.noGoto_ret]
   have h4:=ZdP (ZdM HZ.out (.int .i64 0) (.int .i64 0) (.string ⟨#[]⟩) (.slice none 0 0))
   first
    | (refine bodyPost_ret (v := .tuple #[.agg #[.int .i64 0,.int .i64 0,.string ⟨#[]⟩,.slice none 0 0],.bool false]) (by simp [results,Tryz.results67,go_sem,h4.1]) rfl ?_; exact ⟨ZgW HB.out Zs _ _ _ _,rfl⟩)
    | (refine bodyPost_ret (v := .tuple #[.agg #[.int .i64 0,.int .i64 0,.string ⟨#[]⟩,.slice none 0 0],.bool false]) (by simp [results,Tryz.results67,go_sem,(ZdP HZ.out).1]) rfl ?_; exact ⟨HB.out,rfl⟩)
 | some y =>
  obtain ⟨e,v⟩:=y
  obtain ⟨hkv,hth⟩:=hk _ ho
  simp only at hkv hth
  obtain ⟨xa,xc,rfl⟩:=hkv.form
  rw [ho] at hh
  simp only [Option.isSome_some] at hh ⊢
  have ex:∀ (j:Nat) (u:Value),j<4→(exOf (prj k x))[j]?=some u→(w.alloc (.cells #[.int .i64 0,.int .i64 0,.string ⟨#[]⟩,.slice none 0 0] 61)).cell? ⟨g,i*21+(5+4*k+j),none⟩=some u:=fun j u hj hu=>Zjk p0 hf (j:=5+4*k+j) (by rw [hxd,Zow _ _ _ hk3 hj]; exact hu)
  rw [ho] at ex
  have e0:=ex 0 (.int .i64 e.op) (by decide) rfl
  have e1:=ex 1 (.int .i64 e.n) (by decide) rfl
  have e2:=ex 2 (.string ⟨e.s.toArray⟩) (by decide) rfl
  have e3:=ex 3 (.slice xa e.ks.length xc) (by decide) rfl
  have HOW:=Zq (Zov e (.slice xa e.ks.length xc) _ hth (hkv.keep HB.out))
  unfold copyPost exV strV at HOW
  clear p p0 hf hx hxd hk ho ex hkv hth hz b1 b2
  generalize F.l.length=n at *
  rcases (by omega:k=0∨k=1∨k=2) with rfl|rfl|rfl
  all_goals
   first|(obtain rfl:kk=0:=hkk)|(obtain rfl:kk=1:=hkk)|(obtain rfl:kk=2:=hkk)
   simp only [←Nat.add_assoc,Nat.mul_zero,Nat.mul_one,Nat.add_zero,Nat.reduceMul] at hh e0 e1 e2 e3
   go_in
   go_upto_region 1 with fail
   generalize w.alloc (.cells #[.int .i64 0,.int .i64 0,.string ⟨#[]⟩,.slice none 0 0] 61)=W0 at *
   go_wp2_with fail
   refine HOW.out.mono ?_
   rintro r W ⟨hb,v2,rfl,hk2⟩
   obtain ⟨ka,kc,rfl⟩:=hk2.form
   have hzl:=(Array.getElem?_eq_some_iff.1 HZ.out).1
   have hz2:=(hb.block _ hzl).trans HZ.out
   have HZ2:=Zq hz2
   have HB2:=Zq (HB.out.seq hb)
   have HK2:=Zq hk2
   obtain ⟨⟨y0,y1,y2,y3⟩,n0,n1,n2,n3⟩:=ZdP hz2
   have HZL:=Zq hzl
   clear hz2 hb hk2 hzl
   go_wp2
   try rw [Exit.noGoto_ret]
   have h4:=ZdP (ZdM HZ2.out (.int .i64 e.op) (.int .i64 e.n) (.string ⟨e.s.toArray⟩) (.slice ka e.ks.length kc))
   refine bodyPost_ret (v := .tuple #[.agg #[.int .i64 e.op,.int .i64 e.n,.string ⟨e.s.toArray⟩,.slice ka e.ks.length kc],.bool true]) (by simp [results,Tryz.results67,go_sem,h4.1]) rfl ?_
   refine ⟨ZgW HB2.out Zs _ _ _ _,ka,kc,rfl,HK2.out.mono fun q o hq=>?_⟩
   have hq2:(if W0.heap.size≤q then W.heap[q]? else none)=some o:=hq
   split at hq2
   · rename_i hle
     have hne:q≠w.heap.size:=by have:=HZL.out; omega
     show (if w.heap.size≤q then _ else none)=some o
     rw [if_pos (by have:=HZL.out; omega),←hq2]
     exact ZdN hne _ _ _ _
   · cases hq2
theorem ZoB {b:Nat} {F:Form} (i k:Int) (w:World) (s:SchV (gh w) b F) (hi:i<0∨(F.l.length:Int)≤i):Calls Tryz.prog 67 #[.pointer (some ⟨b,0,none⟩),.int .i64 i,.int .i64 k] w (exprPost none w):=by
 have HB:=Zq ((Below.refl w.heap.size w).alloc Zs (.cells #[.int .i64 0,.int .i64 0,.string ⟨#[]⟩,.slice none 0 0] 61))
 obtain ⟨g,cap,mb,ov,xs,nds,p⟩:=s
 have p0:=p.mono (Zah HB.out)
 obtain ⟨b0,-,-⟩:=Zjj (h:=gh w) p0
 have HZ:=Zq (heap_alloc_new w (.cells #[.int .i64 0,.int .i64 0,.string ⟨#[]⟩,.slice none 0 0] 61))
 unfold exprPost
 simp only
 clear p p0
 generalize F.l.length=n at *
 by_cases h0:i<0
 · clear hi
   go_in
   go_upto_region 1 with fail
   generalize w.alloc (.cells #[.int .i64 0,.int .i64 0,.string ⟨#[]⟩,.slice none 0 0] 61)=W0 at *
   have hzl:=(Array.getElem?_eq_some_iff.1 HZ.out).1
   obtain ⟨⟨y0,y1,y2,y3⟩,n0,n1,n2,n3⟩:=ZdP HZ.out
   go_wp2
   try rw [Exit.noGoto_ret]
   have h4:=ZdP (ZdM HZ.out (.int .i64 0) (.int .i64 0) (.string ⟨#[]⟩) (.slice none 0 0))
   refine bodyPost_ret (v := .tuple #[.agg #[.int .i64 0,.int .i64 0,.string ⟨#[]⟩,.slice none 0 0],.bool false]) (by simp [results,Tryz.results67,go_sem,h4.1]) rfl ?_
   exact ⟨ZgW HB.out Zs _ _ _ _,rfl⟩
 · have h1:(n:Int)≤i:=by omega
   clear hi
   go_in
   go_upto_region 1 with fail
   generalize w.alloc (.cells #[.int .i64 0,.int .i64 0,.string ⟨#[]⟩,.slice none 0 0] 61)=W0 at *
   have hzl:=(Array.getElem?_eq_some_iff.1 HZ.out).1
   obtain ⟨⟨y0,y1,y2,y3⟩,n0,n1,n2,n3⟩:=ZdP HZ.out
   go_wp2
   try rw [Exit.noGoto_ret]
   have h4:=ZdP (ZdM HZ.out (.int .i64 0) (.int .i64 0) (.string ⟨#[]⟩) (.slice none 0 0))
   refine bodyPost_ret (v := .tuple #[.agg #[.int .i64 0,.int .i64 0,.string ⟨#[]⟩,.slice none 0 0],.bool false]) (by simp [results,Tryz.results67,go_sem,h4.1]) rfl ?_
   exact ⟨ZgW HB.out Zs _ _ _ _,rfl⟩
theorem ZoC {b:Nat} (o:OV) (i:Int) (w:World) (h:∀ W,Below w.heap.size w W→Calls Tryz.prog 67 #[.pointer (some ⟨b,0,none⟩),.int .i64 i,.int .i64 0] W (exprPost o W)) :
 Calls Tryz.prog 43 #[.pointer (some ⟨b,0,none⟩),.int .i64 i] w (exprPost o w):=by
 have HB:=Zq ((Below.refl w.heap.size w).alloc Zs (.cells #[.int .i64 0,.int .i64 0,.string ⟨#[]⟩,.slice none 0 0] 61))
 have HZ:=Zq (heap_alloc_new w (.cells #[.int .i64 0,.int .i64 0,.string ⟨#[]⟩,.slice none 0 0] 61))
 have HE:=Zq (h _ HB.out)
 unfold exprPost at HE ⊢
 clear h
 go_in
 go_upto_region 1 with fail
 generalize w.alloc (.cells #[.int .i64 0,.int .i64 0,.string ⟨#[]⟩,.slice none 0 0] 61)=W0 at *
 cases o with
 | none =>
  simp only at HE ⊢
  go_wp2_with fail
  refine HE.out.mono ?_
  rintro r W ⟨hb,rfl⟩
  have hzl:=(Array.getElem?_eq_some_iff.1 HZ.out).1
  have HZ2:=Zq ((hb.block _ hzl).trans HZ.out)
  have HB2:=Zq (HB.out.seq hb)
  obtain ⟨⟨y0,y1,y2,y3⟩,n0,n1,n2,n3⟩:=ZdP HZ2.out
  clear hb hzl
  go_wp2
  try rw [Exit.noGoto_ret]
  have h4:=ZdP (ZdM HZ2.out (.int .i64 0) (.int .i64 0) (.string ⟨#[]⟩) (.slice none 0 0))
  refine bodyPost_ret (v := .tuple #[.agg #[.int .i64 0,.int .i64 0,.string ⟨#[]⟩,.slice none 0 0],.bool false]) (by simp [results,Tryz.results43,go_sem,h4.1]) rfl ?_
  exact ⟨ZgW HB2.out Zs _ _ _ _,rfl⟩
 | some y =>
  obtain ⟨e,v⟩:=y
  simp only at HE ⊢
  go_wp2_with fail
  refine HE.out.mono ?_
  rintro r W ⟨hb,ka,kc,rfl,hk2⟩
  have hzl:=(Array.getElem?_eq_some_iff.1 HZ.out).1
  have HZ2:=Zq ((hb.block _ hzl).trans HZ.out)
  have HB2:=Zq (HB.out.seq hb)
  obtain ⟨⟨y0,y1,y2,y3⟩,n0,n1,n2,n3⟩:=ZdP HZ2.out
  have HK2:=Zq hk2
  have HZL:=Zq hzl
  clear hb hk2 hzl
  go_wp2
  try rw [Exit.noGoto_ret]
  have h4:=ZdP (ZdM HZ2.out (.int .i64 e.op) (.int .i64 e.n) (.string ⟨e.s.toArray⟩) (.slice ka e.ks.length kc))
  refine bodyPost_ret (v := .tuple #[.agg #[.int .i64 e.op,.int .i64 e.n,.string ⟨e.s.toArray⟩,.slice ka e.ks.length kc],.bool true]) (by simp [results,Tryz.results43,go_sem,h4.1]) rfl ?_
  refine ⟨ZgW HB2.out Zs _ _ _ _,ka,kc,rfl,HK2.out.mono fun q o hq=>?_⟩
  have hq2:(if W0.heap.size≤q then W.heap[q]? else none)=some o:=hq
  split at hq2
  · rename_i hle
    have hne:q≠w.heap.size:=by have:=HZL.out; omega
    show (if w.heap.size≤q then _ else none)=some o
    rw [if_pos (by have:=HZL.out; omega),←hq2]
    exact ZdN hne _ _ _ _
  · cases hq2
theorem ZoD {b:Nat} (o:OV) (i:Int) (w:World) (h:∀ W,Below w.heap.size w W→Calls Tryz.prog 67 #[.pointer (some ⟨b,0,none⟩),.int .i64 i,.int .i64 1] W (exprPost o W)) :
 Calls Tryz.prog 44 #[.pointer (some ⟨b,0,none⟩),.int .i64 i] w (exprPost o w):=by
 have HB:=Zq ((Below.refl w.heap.size w).alloc Zs (.cells #[.int .i64 0,.int .i64 0,.string ⟨#[]⟩,.slice none 0 0] 61))
 have HZ:=Zq (heap_alloc_new w (.cells #[.int .i64 0,.int .i64 0,.string ⟨#[]⟩,.slice none 0 0] 61))
 have HE:=Zq (h _ HB.out)
 unfold exprPost at HE ⊢
 clear h
 go_in
 go_upto_region 1 with fail
 generalize w.alloc (.cells #[.int .i64 0,.int .i64 0,.string ⟨#[]⟩,.slice none 0 0] 61)=W0 at *
 cases o with
 | none =>
  simp only at HE ⊢
  go_wp2_with fail
  refine HE.out.mono ?_
  rintro r W ⟨hb,rfl⟩
  have hzl:=(Array.getElem?_eq_some_iff.1 HZ.out).1
  have HZ2:=Zq ((hb.block _ hzl).trans HZ.out)
  have HB2:=Zq (HB.out.seq hb)
  obtain ⟨⟨y0,y1,y2,y3⟩,n0,n1,n2,n3⟩:=ZdP HZ2.out
  clear hb hzl
  go_wp2
  try rw [Exit.noGoto_ret]
  have h4:=ZdP (ZdM HZ2.out (.int .i64 0) (.int .i64 0) (.string ⟨#[]⟩) (.slice none 0 0))
  refine bodyPost_ret (v := .tuple #[.agg #[.int .i64 0,.int .i64 0,.string ⟨#[]⟩,.slice none 0 0],.bool false]) (by simp [results,Tryz.results44,go_sem,h4.1]) rfl ?_
  exact ⟨ZgW HB2.out Zs _ _ _ _,rfl⟩
 | some y =>
  obtain ⟨e,v⟩:=y
  simp only at HE ⊢
  go_wp2_with fail
  refine HE.out.mono ?_
  rintro r W ⟨hb,ka,kc,rfl,hk2⟩
  have hzl:=(Array.getElem?_eq_some_iff.1 HZ.out).1
  have HZ2:=Zq ((hb.block _ hzl).trans HZ.out)
  have HB2:=Zq (HB.out.seq hb)
  obtain ⟨⟨y0,y1,y2,y3⟩,n0,n1,n2,n3⟩:=ZdP HZ2.out
  have HK2:=Zq hk2
  have HZL:=Zq hzl
  clear hb hk2 hzl
  go_wp2
  try rw [Exit.noGoto_ret]
  have h4:=ZdP (ZdM HZ2.out (.int .i64 e.op) (.int .i64 e.n) (.string ⟨e.s.toArray⟩) (.slice ka e.ks.length kc))
  refine bodyPost_ret (v := .tuple #[.agg #[.int .i64 e.op,.int .i64 e.n,.string ⟨e.s.toArray⟩,.slice ka e.ks.length kc],.bool true]) (by simp [results,Tryz.results44,go_sem,h4.1]) rfl ?_
  refine ⟨ZgW HB2.out Zs _ _ _ _,ka,kc,rfl,HK2.out.mono fun q o hq=>?_⟩
  have hq2:(if W0.heap.size≤q then W.heap[q]? else none)=some o:=hq
  split at hq2
  · rename_i hle
    have hne:q≠w.heap.size:=by have:=HZL.out; omega
    show (if w.heap.size≤q then _ else none)=some o
    rw [if_pos (by have:=HZL.out; omega),←hq2]
    exact ZdN hne _ _ _ _
  · cases hq2
theorem ZoE {b:Nat} (o:OV) (i:Int) (w:World) (h:∀ W,Below w.heap.size w W→Calls Tryz.prog 67 #[.pointer (some ⟨b,0,none⟩),.int .i64 i,.int .i64 2] W (exprPost o W)) :
 Calls Tryz.prog 45 #[.pointer (some ⟨b,0,none⟩),.int .i64 i] w (exprPost o w):=by
 have HB:=Zq ((Below.refl w.heap.size w).alloc Zs (.cells #[.int .i64 0,.int .i64 0,.string ⟨#[]⟩,.slice none 0 0] 61))
 have HZ:=Zq (heap_alloc_new w (.cells #[.int .i64 0,.int .i64 0,.string ⟨#[]⟩,.slice none 0 0] 61))
 have HE:=Zq (h _ HB.out)
 unfold exprPost at HE ⊢
 clear h
 go_in
 go_upto_region 1 with fail
 generalize w.alloc (.cells #[.int .i64 0,.int .i64 0,.string ⟨#[]⟩,.slice none 0 0] 61)=W0 at *
 cases o with
 | none =>
  simp only at HE ⊢
  go_wp2_with fail
  refine HE.out.mono ?_
  rintro r W ⟨hb,rfl⟩
  have hzl:=(Array.getElem?_eq_some_iff.1 HZ.out).1
  have HZ2:=Zq ((hb.block _ hzl).trans HZ.out)
  have HB2:=Zq (HB.out.seq hb)
  obtain ⟨⟨y0,y1,y2,y3⟩,n0,n1,n2,n3⟩:=ZdP HZ2.out
  clear hb hzl
  go_wp2
  try rw [Exit.noGoto_ret]
  have h4:=ZdP (ZdM HZ2.out (.int .i64 0) (.int .i64 0) (.string ⟨#[]⟩) (.slice none 0 0))
  refine bodyPost_ret (v := .tuple #[.agg #[.int .i64 0,.int .i64 0,.string ⟨#[]⟩,.slice none 0 0],.bool false]) (by simp [results,Tryz.results45,go_sem,h4.1]) rfl ?_
  exact ⟨ZgW HB2.out Zs _ _ _ _,rfl⟩
 | some y =>
  obtain ⟨e,v⟩:=y
  simp only at HE ⊢
  go_wp2_with fail
  refine HE.out.mono ?_
  rintro r W ⟨hb,ka,kc,rfl,hk2⟩
  have hzl:=(Array.getElem?_eq_some_iff.1 HZ.out).1
  have HZ2:=Zq ((hb.block _ hzl).trans HZ.out)
  have HB2:=Zq (HB.out.seq hb)
  obtain ⟨⟨y0,y1,y2,y3⟩,n0,n1,n2,n3⟩:=ZdP HZ2.out
  have HK2:=Zq hk2
  have HZL:=Zq hzl
  clear hb hk2 hzl
  go_wp2
  try rw [Exit.noGoto_ret]
  have h4:=ZdP (ZdM HZ2.out (.int .i64 e.op) (.int .i64 e.n) (.string ⟨e.s.toArray⟩) (.slice ka e.ks.length kc))
  refine bodyPost_ret (v := .tuple #[.agg #[.int .i64 e.op,.int .i64 e.n,.string ⟨e.s.toArray⟩,.slice ka e.ks.length kc],.bool true]) (by simp [results,Tryz.results45,go_sem,h4.1]) rfl ?_
  refine ⟨ZgW HB2.out Zs _ _ _ _,ka,kc,rfl,HK2.out.mono fun q o hq=>?_⟩
  have hq2:(if W0.heap.size≤q then W.heap[q]? else none)=some o:=hq
  split at hq2
  · rename_i hle
    have hne:q≠w.heap.size:=by have:=HZL.out; omega
    show (if w.heap.size≤q then _ else none)=some o
    rw [if_pos (by have:=HZL.out; omega),←hq2]
    exact ZdN hne _ _ _ _
  · cases hq2
end Go.Proofs.YtpfhhikbaeknpaaGreatDoor
