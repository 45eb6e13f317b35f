/- The walks of a new state, of one that is filled in. -/
import Derived.Test.YtikannmgllejfaaGreatDoorKYC
import Derived.Deep.RegionHeld3
import Derived.BigQuiet
set_option maxHeartbeats 8000000
set_option maxRecDepth 1000000
set_option linter.all false
namespace Go.Proofs.YtikannmgllejfaaGreatDoor
open Go.RowKit Pal
attribute [local go_sem ↓] Go.wp_at_zero Go.wp_at_succ
theorem Zsh (N:Nat) (hN:N<=1000) (w:World):(Instr.makeSlice 30 (.int .i64 (N:Int)) (.int .i64 (N:Int))).run Tryz.prog w = .ok (.slice (some ⟨w.heap.size,0,none⟩) N N) (w.alloc (.cells (madeCells #[.int .i64 0] N) 3)):=by obtain ⟨i0,hi,hz0,hz1,hz2⟩:=ZiB;have:=run_make (P:=Tryz.prog) w 30 3 i0 _ Tryz.underlying30 hi hz0 .i64 .i64 N N (by omega) (Int.le_refl _) (by rw [hz2]; omega) (by omega);rw [this,hz1];simp;rfl
def OwnI (n0:Nat) (W:World) (v:Value) (l:List Int):Prop:=W.ownsRow n0 3 1 v l.length (l.map (Value.int .i64))
theorem Zsi (N:Nat) (w:World) (hN:N<=1000):OwnI w.heap.size (w.alloc (.cells (madeCells #[.int .i64 0] N) 3)) (.slice (some ⟨w.heap.size,0,none⟩) N N) (List.replicate N 0):=by refine ⟨by simp,.inr ⟨w.heap.size,N,_,by simp,Nat.le_refl _,Yac _ _,by simp,by unfold maxLen; omega,by simp [size_madeCells],?_⟩⟩;rw [toList_madeCells_one];simp
theorem OwnI.keep {n0:Nat} {W W':World} {v:Value} {l:List Int} (h:OwnI n0 W v l) (hb:Below W.heap.size W W'):OwnI n0 W' v l:=by
 obtain ⟨hl,h⟩:=h;refine ⟨hl,?_⟩;rcases h with h|⟨g,cap,cur,hv,hge,hg,hr⟩
 . exact .inl h
 . exact .inr ⟨g,cap,cur,hv,hge,(hb.block g (Yaa.1 hg).1).trans hg,hr⟩
theorem OwnI.base {n0 n1:Nat} {W:World} {v:Value} {l:List Int} (h:OwnI n0 W v l) (hn:n1<=n0):OwnI n1 W v l:=by
 obtain ⟨hl,hh⟩:=h;refine ⟨hl,?_⟩;rcases hh with h|⟨g,cap,cur,hv,hge,hr⟩
 . exact .inl h
 . exact .inr ⟨g,cap,cur,hv,by omega,hr⟩
theorem OwnI.toV {n0:Nat} {W:World} {v:Value} {l:List Int} (h:OwnI n0 W v l) (hl:l.length<=17592186044416):IntsV (gh W) v l:=IntsV.ofOwn h hl
section
variable {V w : World} {n m : Nat}
theorem two1 (hm:V.heap.size=m) (hn:n<=1000):OwnV m ((V.alloc (.cells (madeCells #[.int .i64 0,.int .i64 0,.string ⟨#[]⟩] (n*3)) 48)).alloc (.cells (madeCells #[.int .i64 0] n) 3)).drew (.slice (some ⟨m,0,none⟩) n n) (List.replicate n vNil) /\
 OwnI m ((V.alloc (.cells (madeCells #[.int .i64 0,.int .i64 0,.string ⟨#[]⟩] (n*3)) 48)).alloc (.cells (madeCells #[.int .i64 0] n) 3)).drew (.slice (some ⟨m+1,0,none⟩) n n) (List.replicate n 0):=by subst hm;have h1:=Zrl n V hn;have h2:=Zsi n (V.alloc (.cells (madeCells #[.int .i64 0,.int .i64 0,.string ⟨#[]⟩] (n*3)) 48)) hn;rw [show (V.alloc (.cells (madeCells #[.int .i64 0,.int .i64 0,.string ⟨#[]⟩] (n*3)) 48)).heap.size=V.heap.size+1 by simp] at h2;exact ⟨(h1.keep ((Yab _ _).alloc Zs _)).keep (Yab _ _).drew,(h2.keep (Yab _ _).drew).base (by omega)⟩
theorem two2 (hm:V.heap.size=m) (hn:n<=1000):OwnV m ((V.alloc (.cells (madeCells #[.int .i64 0] n) 3)).alloc (.cells (madeCells #[.int .i64 0,.int .i64 0,.string ⟨#[]⟩] (n*3)) 48)).drew (.slice (some ⟨m+1,0,none⟩) n n) (List.replicate n vNil) /\
 OwnI m ((V.alloc (.cells (madeCells #[.int .i64 0] n) 3)).alloc (.cells (madeCells #[.int .i64 0,.int .i64 0,.string ⟨#[]⟩] (n*3)) 48)).drew (.slice (some ⟨m,0,none⟩) n n) (List.replicate n 0):=by subst hm;have h1:=Zsi n V hn;have h2:=Zrl n (V.alloc (.cells (madeCells #[.int .i64 0] n) 3)) hn;rw [show (V.alloc (.cells (madeCells #[.int .i64 0] n) 3)).heap.size=V.heap.size+1 by simp] at h2;exact ⟨(h2.keep (Yab _ _).drew).base (by omega),(h1.keep ((Yab _ _).alloc Zs _)).keep (Yab _ _).drew⟩
theorem Zsj {b:Nat} {o x y:Obj} (h:V.heap[b]?=some o):((V.alloc x).alloc y).drew.heap[b]?=some o:=by have hl:=(Yaa.1 h).1;show ((V.alloc x).alloc y).heap[b]?=some o;rw [Yah _ _ _ (by simp; omega),Yah _ _ _ hl]; exact h
end
def newPost12 (n:Nat) (w:World) (r:Ending) (W:World):Prop:=Below w.heap.size w W/\∃ g gn,g≠gn/\r = .returned (.agg #[.slice (some ⟨g,0,none⟩) n n,.slice (some ⟨gn,0,none⟩) n n,.bool false])/\OwnV w.heap.size W (.slice (some ⟨g,0,none⟩) n n) (List.replicate n vNil)/\OwnI w.heap.size W (.slice (some ⟨gn,0,none⟩) n n) (List.replicate n 0)
theorem Zsk {b:Nat} {F:Form} (w:World) (r:RefV (gh w) b F) (h24:F.l.length<=24) :
 Calls Tryz.prog 26 #[.pointer (some ⟨b,0,none⟩)] w (newPost12 F.l.length w):=by
 obtain ⟨lv,ev,hv,nv,ov,xs,nds,p⟩:=r;obtain ⟨la,lc,rfl⟩:=p.rb.fds.form;have hbox:=p.box;have c0:w.cell? ⟨b,0,none⟩=some (.slice la F.l.length lc):=by have:w.heap[b]?=_:=hbox;simp [World.cell?,this]
 generalize F.l.length=n at *;have hm1:=fun W=>Zrk n (by omega) W;have hm2:=fun W=>Zsh n (by omega) W;have K0:=Zq ((Kept.start w).new (.cells #[.slice none 0 0,.slice none 0 0,.bool false] 32));have hbl:=Yan w _ c0;have c1:=fun o=>Zdw hbl c0 o;unfold newPost12;clear p hbox;go_in;go_wp2_with fail;have c2:=c1 (.cells #[.slice none 0 0,.slice none 0 0,.bool false] 32);have hlt:=K0.out.lt;clear c0 c1 hbl;generalize w.alloc (.cells #[.slice none 0 0,.slice none 0 0,.bool false] 32)=W0 at *;have hbl:=Yan W0 _ c2;have hn0:(0:Int)<=(n:Int):=by omega
 obtain ⟨⟨k0,k1,k2⟩,f0,f1,f2⟩:=ZeG K0.out.at0;go_region;all_goals
  have hV:=Zq (fun a b c:Value=>(Zqt (W:=W0) (B:=w.heap.size) a b c));have hB:=Zq (fun a b c:Value=>ZeJ K0.out.below Zs a b c);have hle:=K0.out.below.size;first
  | (have hh:=(ZeG (Zsj (x := .cells (madeCells #[.int .i64 0,.int .i64 0,.string ⟨#[]⟩] (n*3)) 48) (y := .cells (madeCells #[.int .i64 0] n) 3) (ZeH K0.out.at0 (.slice (some ⟨W0.heap.size,0,none⟩) n n) (.slice (some ⟨W0.heap.size+1,0,none⟩) n n) (.bool false)))).1
     have ht:=two1 (n:=n) (hV.out (.slice (some ⟨W0.heap.size,0,none⟩) n n) (.slice (some ⟨W0.heap.size+1,0,none⟩) n n) (.bool false)) (by omega)
     go_wp2
     refine Yaf (v := .agg #[.slice (some ⟨W0.heap.size,0,none⟩) n n,.slice (some ⟨W0.heap.size+1,0,none⟩) n n,.bool false]) (by simp [results,Tryz.results26,go_sem,hh]) rfl ⟨(((hB.out _ _ _).alloc (hB.out _ _ _).size _).alloc ((hB.out _ _ _).alloc (hB.out _ _ _).size _).size _).drew,_,_,by omega,rfl,ht.1.base hle,ht.2.base hle⟩)
  | (have hh:=(ZeG (Zsj (x := .cells (madeCells #[.int .i64 0] n) 3) (y := .cells (madeCells #[.int .i64 0,.int .i64 0,.string ⟨#[]⟩] (n*3)) 48) (ZeH K0.out.at0 (.slice (some ⟨W0.heap.size+1,0,none⟩) n n) (.slice (some ⟨W0.heap.size,0,none⟩) n n) (.bool false)))).1
     have ht:=two2 (n:=n) (hV.out (.slice (some ⟨W0.heap.size+1,0,none⟩) n n) (.slice (some ⟨W0.heap.size,0,none⟩) n n) (.bool false)) (by omega)
     go_wp2
     refine Yaf (v := .agg #[.slice (some ⟨W0.heap.size+1,0,none⟩) n n,.slice (some ⟨W0.heap.size,0,none⟩) n n,.bool false]) (by simp [results,Tryz.results26,go_sem,hh]) rfl ⟨(((hB.out _ _ _).alloc (hB.out _ _ _).size _).alloc ((hB.out _ _ _).alloc (hB.out _ _ _).size _).size _).drew,_,_,by omega,rfl,ht.1.base hle,ht.2.base hle⟩)
theorem OwnI.set3 {n0 n c g gn:Nat} {W:World} {l:List Int} (h:OwnI n0 W (.slice (some ⟨gn,0,none⟩) n c) l) (hne:g≠gn) (i0 i1 i2:Nat) (y0 y1 y2:Value):OwnI n0 (((W.setCell ⟨g,i0,none⟩ y0).setCell ⟨g,i1,none⟩ y1).setCell ⟨g,i2,none⟩ y2) (.slice (some ⟨gn,0,none⟩) n c) l:=by
 obtain ⟨hl,hh⟩:=h;refine ⟨hl,?_⟩;rcases hh with h|⟨g',cap,cur,hv,hge,hg,hr⟩
 . exact .inl h
 . refine .inr ⟨g',cap,cur,hv,hge,?_,hr⟩;simp only [Yaq,Yai,Ybd,and_true,true_and] at hv;have hn:g'≠g:=(by omega);rw [Yat _ _ _ _ (fun e=>hn e),Yat _ _ _ _ (fun e=>hn e),Yat _ _ _ _ (fun e=>hn e)];exact hg
theorem Zsl {g b:Nat} {W:World} {o:Option Obj} (h:W.heap[b]?=o) (hne:b≠g) (i0 i1 i2:Nat) (y0 y1 y2:Value):(((W.setCell ⟨g,i0,none⟩ y0).setCell ⟨g,i1,none⟩ y1).setCell ⟨g,i2,none⟩ y2).heap[b]?=o:=by rw [Yat _ _ _ _ (fun e=>hne e),Yat _ _ _ _ (fun e=>hne e),Yat _ _ _ _ (fun e=>hne e)];exact h
theorem Zsm {w W:World} (h:Below w.heap.size w W) {b o:Nat} {v:Value} (c:w.cell? ⟨b,o,none⟩=some v):W.cell? ⟨b,o,none⟩=some v:=(h.cell (p:=⟨b,o,none⟩) (Yan w _ c)).trans c
structure Fil (w:World) (B g gn n:Nat) (c:List Val) (W:World):Prop where
 below:Below w.heap.size w W
 res:W.heap[w.heap.size]?=some (.cells #[.slice none 0 0,.slice none 0 0,.bool false] 32 (0,0))
 st:W.heap[B]?=some (.cells #[.slice (some ⟨g,0,none⟩) n n,.slice (some ⟨gn,0,none⟩) n n,.bool false] 32 (0,0))
 vals:OwnV w.heap.size W (.slice (some ⟨g,0,none⟩) n n) c
 vers:OwnI w.heap.size W (.slice (some ⟨gn,0,none⟩) n n) (List.replicate n 0)
 ne:w.heap.size<g/\g<B/\g≠gn/\w.heap.size<gn/\gn<B
theorem Fil.call {w W W':World} {B g gn n:Nat} {c:List Val} (h:Fil w B g gn n c W) (hb:Below W.heap.size W W'):Fil w B g gn n c W' :=
 ⟨h.below.seq hb,(hb.block _ (Yaa.1 h.res).1).trans h.res,(hb.block _ (Yaa.1 h.st).1).trans h.st,h.vals.keep hb,h.vers.keep hb,h.ne⟩
theorem Fil.put {w W:World} {B g gn n:Nat} {c:List Val} (h:Fil w B g gn n c W) {i:Nat} (hi:i<c.length) (y:Val) :
 Fil w B g gn n (c.set i y) (((W.setCell ⟨g,i*3,none⟩ (.int .i64 y.k)).setCell ⟨g,i*3+1,none⟩ (.int .i64 y.n)).setCell ⟨g,i*3+2,none⟩ (strV y.s)):=by obtain ⟨n1,n2,n3,-,-⟩:=h.ne;have hb:But g W (((W.setCell ⟨g,i*3,none⟩ (.int .i64 y.k)).setCell ⟨g,i*3+1,none⟩ (.int .i64 y.n)).setCell ⟨g,i*3+2,none⟩ (strV y.s)):=(((But.refl g W).setPb _ _).setPb _ _).setPb _ _;exact ⟨h.below.trans (hb.toBelow' (by omega) h.below.size),Zsl h.res (by omega) _ _ _ _ _ _,Zsl h.st (by omega) _ _ _ _ _ _,h.vals.put hi y,h.vers.set3 n3 _ _ _ _ _ _,h.ne⟩
theorem Zsn {n0 g n c sz:Nat} {e:TypeId} {W W':World} {xs:List Value} {k:Nat} (h:W.ownsRow n0 e sz (.slice (some ⟨g,0,none⟩) n c) k xs) (hg:W'.heap[g]?=W.heap[g]?):W'.ownsRow n0 e sz (.slice (some ⟨g,0,none⟩) n c) k xs:=by
 obtain ⟨hl,hh⟩:=h;refine ⟨hl,?_⟩;rcases hh with h|⟨g',cap,cur,hv,hge,hgg,hr⟩
 . exact .inl h
 . have e:g=g':=(by simpa using (congrArg (fun v=>match v with | .slice (some a) _ _=>a.block|_=>0) hv));subst e;exact .inr ⟨g,cap,cur,hv,hge,hg.trans hgg,hr⟩
theorem OwnI.lt {n0:Nat} {W:World} {l:List Int} {g n cap:Nat} (h:OwnI n0 W (.slice (some ⟨g,0,none⟩) n cap) l):n0<=g/\g<W.heap.size:=by
 obtain ⟨-,hh⟩:=h;rcases hh with ⟨h0,-⟩|⟨g',c',cur,hv,hge,hg,-⟩
 . cases h0
 . simp only [Yaq,Yai,Ybd,and_true,true_and] at hv;rw [hv.1]; exact ⟨hge,(Yaa.1 hg).1⟩
theorem Fil.done {w W:World} {B g gn n:Nat} {c:List Val} (h:Fil w B g gn n c W) (cl:Bool) (y0 y1 y2:Value) :
 (W.setCell ⟨B,2,none⟩ (.bool cl)).heap[w.heap.size]?=some (.cells #[.slice none 0 0,.slice none 0 0,.bool false] 32 (0,0)) /\
 (W.setCell ⟨B,2,none⟩ (.bool cl)).heap[B]?=some (.cells #[.slice (some ⟨g,0,none⟩) n n,.slice (some ⟨gn,0,none⟩) n n,.bool cl] 32 (0,0)) /\
 Below w.heap.size w ((((W.setCell ⟨B,2,none⟩ (.bool cl)).setCell ⟨w.heap.size,0,none⟩ y0).setCell ⟨w.heap.size,1,none⟩ y1).setCell ⟨w.heap.size,2,none⟩ y2) /\
 OwnV w.heap.size ((((W.setCell ⟨B,2,none⟩ (.bool cl)).setCell ⟨w.heap.size,0,none⟩ y0).setCell ⟨w.heap.size,1,none⟩ y1).setCell ⟨w.heap.size,2,none⟩ y2) (.slice (some ⟨g,0,none⟩) n n) c /\
 OwnI w.heap.size ((((W.setCell ⟨B,2,none⟩ (.bool cl)).setCell ⟨w.heap.size,0,none⟩ y0).setCell ⟨w.heap.size,1,none⟩ y1).setCell ⟨w.heap.size,2,none⟩ y2) (.slice (some ⟨gn,0,none⟩) n n) (List.replicate n 0):=by
 obtain ⟨n1,n2,n3,n4,n5⟩:=h.ne;have hb:Below w.heap.size w (W.setCell ⟨B,2,none⟩ (.bool cl)):=h.below.trans (((But.refl B W).setPb 2 (.bool cl)).toBelow' (by omega) h.below.size);refine ⟨(Yat _ _ _ _ (fun e=>by have e:w.heap.size=B:=e; omega)).trans h.res,?_,ZeJ hb Zs _ _ _,Zsn h.vals ?_,Zsn h.vers ?_⟩
 . have:=h.st;simp [World.setCell,Yap,this]
 . exact Zsl (Yat _ _ _ _ (fun e=>by have e:g=B:=e; omega)) (by omega) _ _ _ _ _ _
 . exact Zsl (Yat _ _ _ _ (fun e=>by have e:gn=B:=e; omega)) (by omega) _ _ _ _ _ _
end Go.Proofs.YtikannmgllejfaaGreatDoor
