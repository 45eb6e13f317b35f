/- The walks of the form's Zhr functions: Len, Order, Input, . -/
import Derived.Test.YtikannmgllejfaaGreatDoorKSF
set_option maxHeartbeats 1000000
set_option maxRecDepth 100000
set_option linter.all false
namespace Go.Proofs.YtikannmgllejfaaGreatDoor
open Go.RowKit Pal
attribute [local go_sem ↓] Go.wp_at_zero Go.wp_at_succ
theorem ZjT (h:GH) (v:Value) (xs:List Int) (w:World) (hw:h.le (gh w)) (hx:IntsV h v xs) :
 Calls Tryz.prog 42 #[v] w fun e w'=>∃ v',e = .returned v'/\w'.ownsRow w.heap.size 3 1 v' xs.length (xs.map (Value.int .i64))/\Below w.heap.size w w':=by
 obtain ⟨a,ca,rfl,hn,hl,hc⟩:=hx;obtain ⟨i0,hi,hz0,hz1,hz2⟩:=ZiB;cases a with
 | none =>obtain ⟨rfl,rfl⟩:=hn rfl;go_in;go_wp2_with (at_builtin; refine wpList_append_own_none rfl _ _ 30 rfl 0 3 i0 1 Tryz.underlying30 hi _ _ _ rfl (World.ownsRow_nil _ _ _ _) rfl ?_);go_ret;exact ⟨_,rfl,World.ownsRow_nil _ _ _ _,Yab _ _⟩
 | some ad =>go_in;go_wp2_with (at_builtin; refine Zab rfl _ _ 30 rfl 3 i0 (.int .i64 0) 1 8 Tryz.underlying30 hi hz0 hz1 hz2 rfl (by decide) rfl (Row.nil T0 1 w 3 1) ad xs.length ca (xs.map (Value.int .i64)) rfl ?c1 ?c2 ?c3 ?c4 ?c5 ?_);(case c1=>simp);(case c2 =>intro j u hj;simp only [Yax,Option.map_eq_some_iff] at hj;obtain ⟨x,hx,rfl⟩:=hj;obtain ⟨b,off,he,hcc⟩:=hc j x hx;cases he;have:(⟨b,off,none⟩:Addr).add j=⟨b,off+j,none⟩:=(by unfold Addr.add; split<;>simp_all);rw [this]; exact hw.at hcc);(case c3=>intro u hu; simp at hu; obtain ⟨x,_,rfl⟩:=hu; rfl);(case c4=>unfold maxLen; omega);(case c5=>omega);intro v' t' w' hr he _;go_wp2;go_ret;refine ⟨_,rfl,?_,he.toBelow (by simp)⟩;have:=hr.toOwn he (by simp);simpa using this
def intsPost (l:List Int) (w:World) (e:Ending) (w':World):Prop:=Below w.heap.size w w'/\∃ v,e = .returned v/\IntsV (gh w') v l
theorem ZjW {h:GH} {b:Nat} {F:Form} {g cap mb:Nat} {ov:Value} {xs:List XV} {nds:List Value} {w:World} (s:SchP (gh w) b F g cap mb ov xs nds) :
 w.cell? ⟨b,0,none⟩=some (.slice (some ⟨g,0,none⟩) F.l.length cap)/\w.cell? ⟨b,1,none⟩=some (.map (some mb))/\w.cell? ⟨b,2,none⟩=some ov:=(ZgC (W:=w) s.box).1
theorem ZjX {b:Nat} {F:Form} {g cap mb:Nat} {ov:Value} {xs:List XV} {nds:List Value} {w:World} (s:SchP (gh w) b F g cap mb ov xs nds) {i:Nat} {f:Fd} {j:Nat} {v:Value} (hf:F.l[i]?=some f)
 (hj:(fdCells f (xs.getD i noX).1 (xs.getD i noX).2.1 (xs.getD i noX).2.2 (nds.getD i nilS))[j]?=some v):w.cell? ⟨g,i*21+j,none⟩=some v:=by obtain ⟨cur,c1,c2⟩:=s.cells;have c1':w.heap[g]?=some (.cells cur 87 (0,0)):=c1;have:=c2 i f hf j v hj;simp [World.cell?,c1',this]
theorem ZjY {b:Nat} {F:Form} (w:World) (s:SchV (gh w) b F):Calls Tryz.prog 43 #[.pointer (some ⟨b,0,none⟩)] w fun e w'=>e = .returned (.int .i64 F.l.length)/\w=w':=by obtain ⟨g,cap,mb,ov,xs,nds,p⟩:=s;obtain ⟨b0,b1,b2⟩:=ZjW (h:=gh w) p;clear p;go_in;go_wp2;go_ret;exact ⟨rfl,rfl⟩
theorem Zr6 {F:Form} {xs:List XV} {i:Nat} {x:XV} (he:F.es=xs.map x3) (h:xs[i]?=some x):hasF F.es (i:Int)=x.1.isSome:=by rw [he]; exact ZjH h
theorem Zr7 {b:Nat} {F:Form} (i:Nat) (w:World) (s:SchV (gh w) b F) (hi:i<F.l.length) (hl:F.l.length<=24):Calls Tryz.prog 16 #[.pointer (some ⟨b,0,none⟩),.int .i64 i] w fun e w'=>e = .returned (.bool (!hasF F.es i))/\w=w':=by
 obtain ⟨g,cap,mb,ov,xs,nds,p⟩:=s;obtain ⟨b0,b1,b2⟩:=ZjW (h:=gh w) p;obtain ⟨f,hf⟩:∃ f,F.l[i]?=some f:=⟨_,Yad hi⟩;obtain ⟨x,hx⟩:∃ x,xs[i]?=some x:=⟨_,Yad (by rw [p.xlen]; exact hi)⟩;have h17:=ZjX p hf (Zjh _ _ _ _ _).1;have hxd:xs.getD i noX=x:=by simp [List.getD,hx]
 rw [hxd] at h17;have HH:=Zq (Zr6 p.es hx);have q1:(0:Int)<=(i:Int):=by omega
 have q2:(i:Int)<(F.l.length:Int):=by omega
 clear p hf hx hxd;generalize x.1.isSome=z at *;generalize F.l.length=n at *;go_in;go_wp2;go_ret;exact ⟨by rw [HH.out]; rfl,rfl⟩
def shortB (f:Fd):Bool:=decide (f.n.length<=1000)&&(decide (f.fo.length<=1000)&&(decide (f.ru.length<=1000)&&decide (f.sh.length<=1000)))
def fewF (l:List Fd):Bool:=decide (l.length<=40)&&l.all shortB
theorem Zj2 (l:List Fd) (v:Value) (w:World) (hF:FdsV (gh w) v l) (hl:l.length<=9223372036854775807) (hS:∀ f∈l,f.n.length<=9223372036854775807/\f.fo.length<=9223372036854775807/\f.ru.length<=9223372036854775807/\f.sh.length<=9223372036854775807) :
 Calls Tryz.prog 31 #[v] w fun e w'=>e = .returned (.bool (fewF l))/\w=w':=by
 obtain ⟨a,cap,rfl⟩:=hF.form;obtain ⟨n,hn⟩:∃ n,l.length=n:=⟨_,rfl⟩;obtain ⟨R,hR⟩:∃ R,fewF l=R:=⟨_,rfl⟩;have HN:=Zq hn;have HF:=Zq hF;have HS:=Zq hS;rw [hR];rw [hn] at hl |-;have HR:=Zq hR;clear hR hF hS;by_cases h40:(40:Int)<(n:Int)
 . have HE:Hid (R=false):=Zq (by rw [<-HR.out]; unfold fewF; rw [Yaj (by omega)]; rfl);clear hn;go_in;go_wp2;go_ret;exact ⟨by rw [HE.out]; rfl,rfl⟩
 . have HA:Hid (l.all shortB=R):=Zq (by rw [<-HR.out]; unfold fewF; rw [Yam (by omega)]; rfl);clear hn;go_in;go_wp2;go_loopg [3] n (fun gk i wr=>∃ k:Nat,i = .int .i64 k/\k+gk=n/\wr=w/\Hid ((l.drop k).all shortB=R));(case atStart=>exact ⟨0,rfl,by omega,rfl,HA⟩);case round =>
    obtain ⟨k,rfl,hg,rfl,HD⟩:=hrel;by_cases hk:k<n
    . have hkl:k<l.length:=(by have:=HN.out; omega);obtain ⟨f,hf⟩:∃ f,l[k]?=some f:=⟨_,Yad hkl⟩;have hd:(l.drop k).all shortB=(shortB f&&(l.drop (k+1)).all shortB):=(by rw [Yas hkl,(Yag.1 hf).2]; rfl);have hdd:=HD.out;rw [hd] at hdd;have HDD:=Zq hdd;obtain ⟨s1,s2,s3,s4⟩:=HS.out f (Yay hf);have hfv:=HF.out;rw [HN.out] at hfv;obtain ⟨ab,ao,rfl,c0,c1,c2,c3,c4⟩:=hfv.at hf;clear hf hd hdd HD hkl hfv;obtain ⟨fn,ft,fo,ru,sh⟩:=f;simp only at c0 c1 c2 c3 c4 s1 s2 s3 s4;have fin:(shortB ⟨fn,ft,fo,ru,sh⟩=false)->Hid (R=false):=fun h=>Zq (by have:=HDD.out; rw [h] at this; exact this.symm);have go_on:(shortB ⟨fn,ft,fo,ru,sh⟩=true)->Hid ((l.drop (k+1)).all shortB=R):=fun h=>Zq (by have:=HDD.out; rw [h,Bool.true_and] at this; exact this);by_cases h1:(1000:Int)<(fn.length:Int)
      . have HE:=fin (by unfold shortB; simp; intro h; omega);clear fin go_on;go_wp2;(try rw [Yae]);go_ret;exact ⟨by rw [HE.out]; rfl,rfl⟩
      . by_cases h2:(1000:Int)<(fo.length:Int)
        . have HE:=fin (by unfold shortB; simp; intro h h; omega);clear fin go_on;go_wp2;(try rw [Yae]);go_ret;exact ⟨by rw [HE.out]; rfl,rfl⟩
        . by_cases h3:(1000:Int)<(ru.length:Int)
          . have HE:=fin (by unfold shortB; simp; intro h h h; omega);clear fin go_on;go_wp2;(try rw [Yae]);go_ret;exact ⟨by rw [HE.out]; rfl,rfl⟩
          . by_cases h4:(1000:Int)<(sh.length:Int)
            . have HE:=fin (by unfold shortB; simp; intro h h h; omega);clear fin go_on;go_wp2;(try rw [Yae]);go_ret;exact ⟨by rw [HE.out]; rfl,rfl⟩
            . have HE:=go_on (by unfold shortB; simp; omega);clear fin go_on;go_wp2;go_roundg (gk - 1);(case rel=>exact ⟨k+1,by go_num,by omega,rfl,HE⟩);case measure=>omega
    . have HE:Hid (R=true):=Zq (by rw [<-HD.out,Yar (by have:=HN.out; omega)]; rfl);go_wp2;go_ret;exact ⟨by rw [HE.out]; rfl,rfl⟩
theorem Zj3 {l:List Fd} (h:fewF l=true):l.length<=40/\∀ f∈l,f.n.length<=1000/\f.fo.length<=1000/\f.ru.length<=1000/\f.sh.length<=1000:=by unfold fewF at h;rw [Bool.and_eq_true,decide_eq_true_eq,List.all_eq_true] at h;refine ⟨h.1,fun f hf=>?_⟩;have:=h.2 f hf;unfold shortB at this;simpa using this
theorem Zj4:∃ i0,Tryz.prog.info? 53=some i0/\i0.zero=some (.agg #[.string ⟨#[]⟩,.int .i64 0,.string ⟨#[]⟩,.string ⟨#[]⟩,.string ⟨#[]⟩])/\i0.size=5/\i0.bytes=72:=info_parts (show (Tryz.prog.info? 53).map (fun i=>(i.zero,i.size,i.bytes))=some (some (.agg #[.string ⟨#[]⟩,.int .i64 0,.string ⟨#[]⟩,.string ⟨#[]⟩,.string ⟨#[]⟩]),5,72) by kernel_rfl)
theorem Zj5 (f:Fd):(inCells f).length=5:=rfl
def fdsPost (l:List Fd) (w:World) (e:Ending) (w':World):Prop:=Below w.heap.size w w'/\∃ v,e = .returned v/\FdsV (gh w') v l
theorem Zj6 (l:List Fd) (v:Value) (w:World) (hF:FdsV (gh w) v l) (hl:l.length<=1000000):Calls Tryz.prog 29 #[v] w (fdsPost l w):=by
 obtain ⟨a,cap,hv,hn,hc1,hc2,hx⟩:=hF;subst hv;obtain ⟨i0,hi,hz0,hz1,hz2⟩:=Zj4;cases a with
 | none =>obtain ⟨h0,rfl⟩:=hn rfl;obtain rfl:l=[]:=Yal h0;simp only [List.length_nil];clear hx hn h0 hc1 hc2 hl;go_in;go_wp2_with (at_builtin; refine wpList_append_own_none rfl _ _ 22 rfl 0 53 i0 5 Tryz.underlying22 hi _ _ _ rfl (World.ownsRow_nil _ _ _ _) rfl ?_);go_ret;exact ⟨Yab _ _,_,rfl,⟨none,0,rfl,fun _=>⟨rfl,rfl⟩,Nat.le_refl _,by simp,fun j c x hj=>by simp at hj⟩⟩
 | some ad =>obtain ⟨n,hnl⟩:∃ n,l.length=n:=⟨_,rfl⟩;rw [hnl];obtain ⟨news,hnews⟩:∃ z,l.flatMap inCells=z:=⟨_,rfl⟩;have H1:Hid (news.length=n*5):=Zq (by rw [<-hnews,ZbV inCells 5 Zj5,hnl]);have H2:Hid (∀ j u,news[j]?=some u->w.cell? (ad.add j)=some u):=Zq (by intro j u hj;rw [<-hnews] at hj;have hjl:=(Yag.1 hj).1;rw [ZbV inCells 5 Zj5] at hjl;have hq:j / 5<l.length:=(by omega);have hgf:=ZbU inCells 5 Zj5 l (j / 5) (j % 5) l[j / 5] (Yad hq) (by omega);rw [show 5*(j / 5)+j % 5=j by omega,hj] at hgf;obtain ⟨b,off,he,hcc⟩:=hx (j / 5) (j % 5) u hq (by show (inCells (l.getD (j / 5) noFd))[j % 5]?=some u; rw [Zgc hq]; exact hgf.symm);cases he;rw [Zad] at hcc;have e1:(⟨b,off,none⟩:Addr).add j=⟨b,off+j,none⟩:=(by unfold Addr.add; split<;>simp_all);rw [e1,show off+j=off+(5*(j / 5)+j % 5) by omega]; exact hcc);have H3:Hid (∀ u∈news,u.oneCell'=true):=Zq (by intro u hu;rw [<-hnews] at hu;obtain ⟨f,_,hf⟩:=List.mem_flatMap.1 hu;have h:(inCells f).all Value.oneCell'=true:=rfl;exact List.all_eq_true.1 h u hf);have HNW:=Zq hnews;have HNL:=Zq hnl;have hn6:n<=1000000:=(by omega);clear hx hn hnews hnl hc1 hc2 hl;go_in;go_wp2_with (at_builtin; refine Zab rfl _ _ 22 rfl 53 i0 _ 5 72 Tryz.underlying22 hi hz0 hz1 hz2 rfl (by decide) rfl (Row.nil T0 1 w 53 5) ad n cap news rfl H1.out H2.out H3.out ?c4 ?c5 ?_);(case c4=>unfold maxLen; omega);(case c5=>omega);intro v' t' w' hr he _;have HR:Hid (Row t' 1 w' 53 5 v' n news):=Zq (by simpa using hr);have HE:=Zq he;clear hr he;go_wp2;go_ret;have hr:=HR.out;rw [<-HNW.out,<-HNL.out] at hr;exact ⟨HE.out.toBelow (by simp),_,rfl,SlV.ofRow inCells l noFd (by decide) Zj5 hr⟩
end Go.Proofs.YtikannmgllejfaaGreatDoor
