/- Closed facts of the translated program, each by the kernel b. -/
import Derived.Test.YtpfhhikbaeknpaaGreatDoorKUI
import Derived.Test.YtpfhhikbaeknpaaGreatDoorKUB
import Derived.Test.YtpfhhikbaeknpaaGreatDoorRows
import Derived.ProofKit
import Derived.JoinedOf
set_option maxHeartbeats 2000000
set_option maxRecDepth 1000000
set_option linter.all false
namespace Go.Proofs.YtpfhhikbaeknpaaGreatDoor
open Go.RowKit Pal
attribute [local go_sem ↓] Go.wp_at_zero Go.wp_at_succ
theorem ZoF {W:World} {B:Nat} {x0 x1 x2 x3 x4:Value} {T:TypeId} (h:W.heap[B]?=some (.cells #[x0,x1,x2,x3,x4] T (0,0))) (y0 y1 y2 y3 y4:Value) :
 (((((W.setCell ⟨B,0,none⟩ y0).setCell ⟨B,1,none⟩ y1).setCell ⟨B,2,none⟩ y2).setCell ⟨B,3,none⟩ y3).setCell ⟨B,4,none⟩ y4).heap[B]?=some (.cells #[y0,y1,y2,y3,y4] T (0,0)):=by
 simp [World.setCell,Array.getElem?_modify,h]
theorem ZoG {n:Nat} {a W:World} (h:Below n a W) {B:Nat} (hB:n≤B) (y0 y1 y2 y3 y4:Value):Below n a (((((W.setCell ⟨B,0,none⟩ y0).setCell ⟨B,1,none⟩ y1).setCell ⟨B,2,none⟩ y2).setCell ⟨B,3,none⟩ y3).setCell ⟨B,4,none⟩ y4) :=
 (ZgW h hB y0 y1 y2 y3).setCell (p:=⟨B,4,none⟩) hB _
theorem ZoH {W:World} {B:Nat} {x0 x1 x2 x3 x4:Value} {T:TypeId} (h:W.heap[B]?=some (.cells #[x0,x1,x2,x3,x4] T (0,0))) :
 W.frozen? ⟨B,0,none⟩=false∧W.frozen? ⟨B,1,none⟩=false∧W.frozen? ⟨B,2,none⟩=false∧W.frozen? ⟨B,3,none⟩=false∧W.frozen? ⟨B,4,none⟩=false:=by
 simp [World.frozen?,h]
theorem ZoI (f:Fd) (a b c:OV) (nv:Value):(fdCells f a b c nv)[0]?=some (.string ⟨f.n.toArray⟩)∧(fdCells f a b c nv)[1]?=some (.int .i64 f.t)∧(fdCells f a b c nv)[2]?=some (.string ⟨f.fo.toArray⟩)∧(fdCells f a b c nv)[3]?=some (.string ⟨f.ru.toArray⟩)∧(fdCells f a b c nv)[4]?=some (.string ⟨f.sh.toArray⟩):=⟨rfl,rfl,rfl,rfl,rfl⟩
theorem ZoJ {b:Nat} {F:Form} (w:World) (s:SchV (gh w) b F) (i:Nat) (f:Fd) (hf:F.l[i]?=some f) (h24:F.l.length≤24) :
 Calls Tryz.prog 42 #[.pointer (some ⟨b,0,none⟩),.int .i64 i] w fun e w'=>e = .returned (.tuple #[fdV f,.bool true])∧Below w.heap.size w w':=by
 have HB:=Zq ((Below.refl w.heap.size w).alloc Zs (.cells #[.string ⟨#[]⟩,.int .i64 0,.string ⟨#[]⟩,.string ⟨#[]⟩,.string ⟨#[]⟩] 27))
 have HZ:=Zq (heap_alloc_new w (.cells #[.string ⟨#[]⟩,.int .i64 0,.string ⟨#[]⟩,.string ⟨#[]⟩,.string ⟨#[]⟩] 27))
 obtain ⟨g,cap,mb,ov,xs,nds,p⟩:=s
 have p0:=p.mono (Zah HB.out)
 obtain ⟨b0,-,-⟩:=Zjj (h:=gh w) p0
 have hi:i<F.l.length:=(List.getElem?_eq_some_iff.1 hf).1
 have c0:=Zjk p0 hf (j:=0) (ZoI _ _ _ _ _).1
 have c1:=Zjk p0 hf (j:=1) (ZoI _ _ _ _ _).2.1
 have c2:=Zjk p0 hf (j:=2) (ZoI _ _ _ _ _).2.2.1
 have c3:=Zjk p0 hf (j:=3) (ZoI _ _ _ _ _).2.2.2.1
 have c4:=Zjk p0 hf (j:=4) (ZoI _ _ _ _ _).2.2.2.2
 rw [Nat.add_zero] at c0
 have q1:¬ (i:Int)<0:=by omega
 have q2:¬ (F.l.length:Int)≤(i:Int):=by omega
 have q3:¬ F.l.length≤i:=by omega
 have q4:(i:Int)<(F.l.length:Int):=by omega
 have q5:(0:Int)≤(i:Int):=by omega
 unfold fdV
 obtain ⟨fn,ft,fo,ru,sh⟩:=f
 simp only at c0 c1 c2 c3 c4 ⊢
 clear p p0 hf
 generalize F.l.length=n at *
 go_in
 go_upto_region 1 with fail
 generalize w.alloc (.cells #[.string ⟨#[]⟩,.int .i64 0,.string ⟨#[]⟩,.string ⟨#[]⟩,.string ⟨#[]⟩] 27)=W0 at *
 obtain ⟨y0,y1,y2,y3,y4⟩:=Zf0 HZ.out
 obtain ⟨n0,n1,n2,n3,n4⟩:=ZoH HZ.out
 go_wp2
 try rw [Exit.noGoto_ret]
 have h5:=Zf0 (ZoF HZ.out (.string ⟨fn.toArray⟩) (.int .i64 ft) (.string ⟨fo.toArray⟩) (.string ⟨ru.toArray⟩) (.string ⟨sh.toArray⟩))
 refine bodyPost_ret (v := .tuple #[.agg #[.string ⟨fn.toArray⟩,.int .i64 ft,.string ⟨fo.toArray⟩,.string ⟨ru.toArray⟩,.string ⟨sh.toArray⟩],.bool true]) (by simp [results,Tryz.results42,go_sem,h5]) rfl ?_
 exact ⟨rfl,ZoG HB.out Zs _ _ _ _ _⟩
theorem ZoK {b:Nat} {F:Form} (w:World) (s:SchV (gh w) b F) (i:Int) (hi:i<0∨(F.l.length:Int)≤i) :
 Calls Tryz.prog 42 #[.pointer (some ⟨b,0,none⟩),.int .i64 i] w fun e w'=>e = .returned (.tuple #[fdV noFd,.bool false])∧Below w.heap.size w w':=by
 have HB:=Zq ((Below.refl w.heap.size w).alloc Zs (.cells #[.string ⟨#[]⟩,.int .i64 0,.string ⟨#[]⟩,.string ⟨#[]⟩,.string ⟨#[]⟩] 27))
 have HZ:=Zq (heap_alloc_new w (.cells #[.string ⟨#[]⟩,.int .i64 0,.string ⟨#[]⟩,.string ⟨#[]⟩,.string ⟨#[]⟩] 27))
 obtain ⟨g,cap,mb,ov,xs,nds,p⟩:=s
 have p0:=p.mono (Zah HB.out)
 obtain ⟨b0,-,-⟩:=Zjj (h:=gh w) p0
 clear p p0
 generalize F.l.length=n at *
 by_cases h0:i<0
 · clear hi
   go_in
   go_upto_region 1 with fail
   generalize w.alloc (.cells #[.string ⟨#[]⟩,.int .i64 0,.string ⟨#[]⟩,.string ⟨#[]⟩,.string ⟨#[]⟩] 27)=W0 at *
   obtain ⟨y0,y1,y2,y3,y4⟩:=Zf0 HZ.out
   obtain ⟨n0,n1,n2,n3,n4⟩:=ZoH HZ.out
   go_wp2
   try rw [Exit.noGoto_ret]
   have h5:=Zf0 (ZoF HZ.out (.string ⟨#[]⟩) (.int .i64 0) (.string ⟨#[]⟩) (.string ⟨#[]⟩) (.string ⟨#[]⟩))
   refine bodyPost_ret (v := .tuple #[.agg #[.string ⟨#[]⟩,.int .i64 0,.string ⟨#[]⟩,.string ⟨#[]⟩,.string ⟨#[]⟩],.bool false]) (by simp [results,Tryz.results42,go_sem,h5]) rfl ?_
   exact ⟨rfl,ZoG HB.out Zs _ _ _ _ _⟩
 · have h1:(n:Int)≤i:=by omega
   clear hi
   go_in
   go_upto_region 1 with fail
   generalize w.alloc (.cells #[.string ⟨#[]⟩,.int .i64 0,.string ⟨#[]⟩,.string ⟨#[]⟩,.string ⟨#[]⟩] 27)=W0 at *
   obtain ⟨y0,y1,y2,y3,y4⟩:=Zf0 HZ.out
   obtain ⟨n0,n1,n2,n3,n4⟩:=ZoH HZ.out
   go_wp2
   try rw [Exit.noGoto_ret]
   have h5:=Zf0 (ZoF HZ.out (.string ⟨#[]⟩) (.int .i64 0) (.string ⟨#[]⟩) (.string ⟨#[]⟩) (.string ⟨#[]⟩))
   refine bodyPost_ret (v := .tuple #[.agg #[.string ⟨#[]⟩,.int .i64 0,.string ⟨#[]⟩,.string ⟨#[]⟩,.string ⟨#[]⟩],.bool false]) (by simp [results,Tryz.results42,go_sem,h5]) rfl ?_
   exact ⟨rfl,ZoG HB.out Zs _ _ _ _ _⟩
theorem ZoL {b:Nat} {F:Form} (w:World) (s:SchV (gh w) b F) (i:Int) (hi:i<0∨(F.l.length:Int)≤i) :
 Calls Tryz.prog 18 #[.pointer (some ⟨b,0,none⟩),.int .i64 i] w fun e w'=>e = .returned (.bool false)∧w'=w:=by
 obtain ⟨g,cap,mb,ov,xs,nds,p⟩:=s
 obtain ⟨b0,-,-⟩:=Zjj (h:=gh w) p
 clear p
 generalize F.l.length=n at *
 by_cases h0:i<0
 · have h1:¬ 0≤i:=by omega
   clear hi
   go_in
   go_wp2
   go_ret
   exact ⟨rfl,rfl⟩
 · have h1:0≤i:=by omega
   have h2:¬ i<(n:Int):=by omega
   clear hi
   go_in
   go_wp2
   go_ret
   exact ⟨rfl,rfl⟩
theorem ZoM {b:Nat} {F:Form} (w:World) (s:SchV (gh w) b F) (i:Int) (hi:i<0∨(F.l.length:Int)≤i) :
 Calls Tryz.prog 19 #[.pointer (some ⟨b,0,none⟩),.int .i64 i] w fun e w'=>e = .returned (.slice none 0 0)∧w'=w:=by
 obtain ⟨g,cap,mb,ov,xs,nds,p⟩:=s
 obtain ⟨b0,-,-⟩:=Zjj (h:=gh w) p
 clear p
 generalize F.l.length=n at *
 by_cases h0:i<0
 · clear hi
   go_in
   go_wp2
   try rw [Exit.noGoto_ret]
   go_ret
   exact ⟨rfl,rfl⟩
 · have h1:(n:Int)≤i:=by omega
   clear hi
   go_in
   go_wp2
   try rw [Exit.noGoto_ret]
   go_ret
   exact ⟨rfl,rfl⟩
open Go.RowKit Go.ChangeShapes Go.WideShapes Go.ChangeAt
open Go
set_option maxRecDepth 1000000
theorem ZoN:laidOutB Tryz.prog=true:=by kernel_rfl
theorem ZoO:mapsRowed Tryz.prog=true:=by kernel_rfl
theorem ZoP:(true == Tryz.prog.plainKeys)=true:=by kernel_rfl
theorem ZoQ:Tryz.prog.stopsHeard=true:=by kernel_rfl
theorem ZoR:Tryz.prog.mayEnter=true:=by kernel_rfl
theorem ZoS:(false == Tryz.prog.liftsFinal)=true:=by kernel_rfl
end Go.Proofs.YtpfhhikbaeknpaaGreatDoor
