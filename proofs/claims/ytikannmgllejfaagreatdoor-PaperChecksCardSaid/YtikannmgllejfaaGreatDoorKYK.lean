/- The walks of palaverlaw00's State, SameValues. -/
import Derived.Test.YtikannmgllejfaaGreatDoorKYJ
import Derived.BigQuiet
set_option maxHeartbeats 8000000
set_option maxRecDepth 1000000
set_option linter.all false
namespace Go.Proofs.YtikannmgllejfaaGreatDoor
open Go.RowKit Pal
attribute [local go_sem ↓] Go.wp_at_zero Go.wp_at_succ
theorem ZsA (h:GH) (v:Value) (xs:List Int) (w:World) (hw:h.le (gh w)) (hx:IntsV h v xs) :
 Calls Tryz.prog 40 #[v] w fun e w'=>∃ v',e = .returned v'/\w'.ownsRow w.heap.size 3 1 v' xs.length (xs.map (Value.int .i64))/\Below w.heap.size w w':=by
 obtain ⟨a,ca,rfl,hn,hl,hc⟩:=hx;obtain ⟨i0,hi,hz0,hz1,hz2⟩:=ZiB;cases a with
 | none =>obtain ⟨rfl,rfl⟩:=hn rfl;go_in;go_wp2_with (at_builtin; refine wpList_append_own_none rfl _ _ 30 rfl 0 3 i0 1 Tryz.underlying30 hi _ _ _ rfl (World.ownsRow_nil _ _ _ _) rfl ?_);go_ret;exact ⟨_,rfl,World.ownsRow_nil _ _ _ _,Yab _ _⟩
 | some ad =>go_in;go_wp2_with (at_builtin; refine Zab rfl _ _ 30 rfl 3 i0 (.int .i64 0) 1 8 Tryz.underlying30 hi hz0 hz1 hz2 rfl (by decide) rfl (Row.nil T0 1 w 3 1) ad xs.length ca (xs.map (Value.int .i64)) rfl ?c1 ?c2 ?c3 ?c4 ?c5 ?_);(case c1=>simp);(case c2 =>intro j u hj;simp only [Yax,Option.map_eq_some_iff] at hj;obtain ⟨x,hx,rfl⟩:=hj;obtain ⟨b,off,he,hcc⟩:=hc j x hx;cases he;have:(⟨b,off,none⟩:Addr).add j=⟨b,off+j,none⟩:=(by unfold Addr.add; split<;>simp_all);rw [this]; exact hw.at hcc);(case c3=>intro u hu; simp at hu; obtain ⟨x,_,rfl⟩:=hu; rfl);(case c4=>unfold maxLen; omega);(case c5=>omega);intro v' t' w' hr he _;go_wp2;go_ret;refine ⟨_,rfl,?_,he.toBelow (by simp)⟩;have:=hr.toOwn he (by simp);simpa using this
def statePost (vs:List Val) (ns:List Int) (cl:Bool) (w:World) (r:Ending) (W:World):Prop:=Below w.heap.size w W/\∃ vv nv,r = .returned (.agg #[vv,nv,.bool cl])/\OwnV w.heap.size W vv vs/\OwnI w.heap.size W nv ns
theorem ZsB {W:World} {b:Nat} {x0 x1 x2:Value} {T:TypeId} (h:W.heap[b]?=some (.cells #[x0,x1,x2] T (0,0))) (y0 y1:Value) :
 (W.setCell ⟨b,0,none⟩ y0).heap[b]?=some (.cells #[y0,x1,x2] T (0,0))/\(W.setCell ⟨b,1,none⟩ y1).heap[b]?=some (.cells #[x0,y1,x2] T (0,0)):=by constructor<;>simp [World.setCell,Yap,h]
theorem ZsC {n0 B i sz k:Nat} {e:TypeId} {W:World} {v y:Value} {xs:List Value} (h:W.ownsRow n0 e sz v k xs) (hB:B<n0):(W.setCell ⟨B,i,none⟩ y).ownsRow n0 e sz v k xs:=by
 obtain ⟨hl,hh⟩:=h;refine ⟨hl,?_⟩;rcases hh with h|⟨g,cap,cur,hv,hge,hg,hr⟩
 . exact .inl h
 . exact .inr ⟨g,cap,cur,hv,hge,(Yat _ _ _ _ (fun e=>by have e:g=B:=e; omega)).trans hg,hr⟩
theorem Kept.put0 {w W:World} {b b2:Nat} {o:Obj} {x0 x1 x2:Value} {T:TypeId} (h:Kept w W ((b2,o)::(b,.cells #[x0,x1,x2] T)::[])) (hb:w.heap.size<=b) (hne:b2≠b) (y:Value) :
 Kept w (W.setCell ⟨b,0,none⟩ y) ((b2,o)::(b,.cells #[y,x1,x2] T)::[])/\Kept w (W.setCell ⟨b,1,none⟩ y) ((b2,o)::(b,.cells #[x0,y,x2] T)::[]):=by
 have e:=ZsB h.tail.at0 y y;have f:∀ i,(W.setCell ⟨b,i,none⟩ y).heap[b2]?=some o:=fun i=>(Yat _ _ _ _ (fun e=>hne e)).trans h.at0;have g:∀ i,Below w.heap.size w (W.setCell ⟨b,i,none⟩ y):=fun i=>h.below.trans (((But.refl b W).setPb i y).toBelow' hb h.below.size);refine ⟨⟨g 0,fun x hx=>?_⟩,⟨g 1,fun x hx=>?_⟩⟩;all_goals simp only [Ybc,List.not_mem_nil,or_false] at hx;rcases hx with rfl|rfl
 . exact f 0
 . exact e.1
 . exact f 1
 . exact e.2
theorem ZsD (vs:List Val) (ns:List Int) (vv nv:Value) (cl:Bool) (w:World) (hV:ValsV (gh w) vv vs) (hN:IntsV (gh w) nv ns) (hnil:NilV vv) (hl:vs.length<=1000) :
 Calls Tryz.prog 15 #[.agg #[vv,nv,.bool cl]] w (statePost vs ns cl w):=by
 have K0:=Zq ((Kept.start w).new2 (.cells #[vv,nv,.bool cl] 32) (.cells #[.slice none 0 0,.slice none 0 0,.bool false] 32));have HV:=Zq (fun W (hb:Below w.heap.size w W)=>Zrd vs vv W (hV.mono (Zah hb)) hnil hl);have HI:=Zq (fun W (hb:Below w.heap.size w W)=>ZsA (gh W) nv ns W (GH.le.refl _) (hN.mono (Zah hb)));obtain ⟨va,vc,rfl,-⟩:=hV.form;obtain ⟨na,nc,rfl,-⟩:=Zd0 hN;unfold ownVPost at HV;unfold statePost;generalize vs.length=n at *;obtain ⟨m,hm⟩:∃ m,ns.length=m:=⟨_,rfl⟩;have HM:=Zq hm;rw [hm] at K0 HI |-;clear hV hN hnil hl hm;go_in;go_upto_region 1 with fail;generalize (w.alloc (.cells #[.slice va n vc,.slice na m nc,.bool cl] 32)).alloc (.cells #[.slice none 0 0,.slice none 0 0,.bool false] 32)=W0 at *;obtain ⟨k0,k1,k2⟩:=(ZeG K0.out.tail.at0).1;have HV0:=Zq (HV.out W0 K0.out.below);go_wp2_with fail;refine HV0.out.mono ?_;rintro r W1 ⟨hb1,v1,rfl,ho1⟩;have K1:=Zq (K0.out.call hb1);have hlt:w.heap.size<W0.heap.size:=K0.out.tail.lt;obtain ⟨a1,c1,rfl,-⟩:=ho1.toV.form;obtain ⟨⟨j0,j1,j2⟩,f0,f1,f2⟩:=ZeG K1.out.tail.at0;have K2:=Zq (K1.out.put0 Zs (by omega) (.slice a1 vs.length c1)).1;have ho2:OwnV W0.heap.size (W1.setCell ⟨w.heap.size,0,none⟩ (.slice a1 vs.length c1)) (.slice a1 vs.length c1) vs:=ZsC ho1 hlt;have HO2:=Zq ho2;have HLT:Hid (w.heap.size+1<W0.heap.size):=Zq K0.out.lt;generalize vs.length=q at *;clear hb1 ho1 ho2 HV0 HV K0 k0 k1 k2 hlt;go_upto_region 2 with fail;clear j0 j1 j2 f0 f1 f2;generalize W1.setCell ⟨w.heap.size,0,none⟩ (.slice a1 q c1)=W2 at *;obtain ⟨⟨j0,j1,j2⟩,-⟩:=ZeG K2.out.tail.at0;have HI2:=Zq (HI.out W2 K2.out.below);go_wp2_with fail;refine HI2.out.mono ?_;rintro r W3 ⟨v3,rfl,ho3,hb3⟩;have K3:=Zq (K2.out.call hb3);have HO3:=Zq (HO2.out.keep hb3);have hlt:w.heap.size<W2.heap.size:=K2.out.tail.lt;obtain ⟨a3,c3,rfl⟩:∃ a c,v3 = .slice a m c:=by
  rcases ho3.2 with ⟨hv,h0⟩|⟨g,cap,cur,hv,-⟩
  . exact ⟨none,0,by rw [hv,h0]⟩
  . exact ⟨_,cap,hv⟩
 have ho4:OwnI W2.heap.size W3 (.slice a3 m c3) ns:=by unfold OwnI; rw [HM.out]; exact ho3
 clear j0 j1 j2 K1 HO2 HI2 HI;obtain ⟨⟨j0,j1,j2⟩,f0,f1,f2⟩:=ZeG K3.out.tail.at0;have K4:=Zq (K3.out.put0 Zs (by omega) (.slice a3 m c3)).2;have hi4:OwnI W2.heap.size (W3.setCell ⟨w.heap.size,1,none⟩ (.slice a3 m c3)) (.slice a3 m c3) ns:=ZsC ho4 hlt;have HI4:=Zq hi4;have ho5:OwnV W0.heap.size (W3.setCell ⟨w.heap.size,1,none⟩ (.slice a3 m c3)) (.slice a1 q c1) vs:=ZsC HO3.out (by have:=HLT.out; omega);have HO5:=Zq ho5;have HLT2:Hid (w.heap.size+1<W2.heap.size):=Zq K2.out.lt;clear ho3 ho4 ho5 hi4 hb3 K3 HO3 hlt;go_upto_region 3 with fail;clear j0 j1 j2 f0 f1 f2 K2;generalize W3.setCell ⟨w.heap.size,1,none⟩ (.slice a3 m c3)=W4 at *;obtain ⟨⟨j0,j1,j2⟩,-⟩:=ZeG K4.out.tail.at0;obtain ⟨⟨r0,r1,r2⟩,f0,f1,f2⟩:=ZeG K4.out.at0;go_wp2;have hh:=ZeG (ZeH K4.out.at0 (.slice a1 q c1) (.slice a3 m c3) (.bool cl));refine Yaf (v := .agg #[.slice a1 q c1,.slice a3 m c3,.bool cl]) (by simp [results,Tryz.results15,go_sem,hh.1]) rfl ⟨ZeJ K4.out.below (by omega) _ _ _,_,_,rfl,OwnV.base (l:=vs) (ZsC (ZsC (ZsC HO5.out HLT.out) HLT.out) HLT.out) (by have:=HLT.out; omega),OwnI.base (l:=ns) (ZsC (ZsC (ZsC HI4.out HLT2.out) HLT2.out) HLT2.out) (by have:=HLT2.out; omega)⟩
end Go.Proofs.YtikannmgllejfaaGreatDoor
