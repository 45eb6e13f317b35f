/- The document's form as it is made: its blocks, its rows. -/
import Derived.Test.YtpfhhikbaeknpaaGreatDoorKSF
set_option maxHeartbeats 1000000
set_option maxRecDepth 100000
set_option linter.all false
namespace Go.Proofs.YtpfhhikbaeknpaaGreatDoor
open Go.RowKit Pal
attribute [local go_sem ↓] Go.wp_at_zero Go.wp_at_succ
theorem Zjg (h:GH) (v:Value) (xs:List Int) (w:World) (hw:h.le (gh w)) (hx:IntsV h v xs) :
 Calls Tryz.prog 31 #[v] w fun e w'=>∃ v',e = .returned v'∧w'.ownsRow w.heap.size 3 1 v' xs.length (xs.map (Value.int .i64))∧Below w.heap.size w w':=by
 obtain ⟨a,ca,rfl,hn,hl,hc⟩:=hx
 obtain ⟨i0,hi,hz0,hz1,hz2⟩:=ZhZ
 cases a with
 | none =>
  obtain ⟨rfl,rfl⟩:=hn rfl
  go_in
  go_wp2_with (at_builtin; refine wpList_append_own_none rfl _ _ 32 rfl 0 3 i0 1 Tryz.underlying32 hi _ _ _ rfl (World.ownsRow_nil _ _ _ _) rfl ?_)
  go_ret
  exact ⟨_,rfl,World.ownsRow_nil _ _ _ _,Below.refl _ _⟩
 | some ad =>
  go_in
  go_wp2_with (at_builtin; refine Zab rfl _ _ 32 rfl 3 i0 (.int .i64 0) 1 8 Tryz.underlying32 hi hz0 hz1 hz2 rfl (by decide) rfl (Row.nil T0 1 w 3 1) ad xs.length ca (xs.map (Value.int .i64)) rfl ?c1 ?c2 ?c3 ?c4 ?c5 ?_)
  case c1=>simp
  case c2 =>
   intro j u hj
   simp only [List.getElem?_map,Option.map_eq_some_iff] at hj
   obtain ⟨x,hx,rfl⟩:=hj
   obtain ⟨b,off,he,hcc⟩:=hc j x hx
   cases he
   have:(⟨b,off,none⟩:Addr).add j=⟨b,off+j,none⟩:=by unfold Addr.add; split<;>simp_all
   rw [this]; exact hw.at hcc
  case c3=>intro u hu; simp at hu; obtain ⟨x,_,rfl⟩:=hu; rfl
  case c4=>unfold maxLen; omega
  case c5=>omega
  intro v' t' w' hr he _
  go_wp2
  go_ret
  refine ⟨_,rfl,?_,he.toBelow (by simp)⟩
  have:=hr.toOwn he (by simp)
  simpa using this
theorem Zjh (h : GH) (va vb : Value) (xs ys : List Int) (w : World) (hw : h.le (gh w)) (hx : IntsV h va xs) (hy : IntsV h vb ys) :
    Calls Tryz.prog 24 #[va, vb] w fun e w' => e = .returned (.bool (decide (xs = ys))) ∧ ∃ n, w' = w.drewN n := by
  obtain ⟨a, ca, rfl, _, hla, hca⟩ := hx
  obtain ⟨b, cb, rfl, _, hlb, hcb⟩ := hy
  by_cases hl : xs.length = ys.length
  · have hl' : (((xs.length : Int)) != (ys.length : Int)) = false := by simp [hl]
    have HL := Zq hl; clear hl
    go_in
    go_wp2
    go_loopw [5] (fun i wr => ∃ k : Nat, k ≤ xs.length ∧ i = .int .i64 k ∧ (∃ n, wr = w.drewN n) ∧ Hid (xs.take k = ys.take k))
                 (fun i _ => xs.length - (intOf i).toNat)
    case atStart => exact ⟨0, Nat.zero_le _, rfl, ⟨0, rfl⟩, Zq (by simp)⟩
    case round =>
      obtain ⟨k, hk, rfl, ⟨n, rfl⟩, HT⟩ := hrel
      by_cases hlt : k < xs.length
      · have hky : k < ys.length := by rw [← HL.out]; exact hlt
        obtain ⟨x, hx⟩ : ∃ x, xs[k]? = some x := ⟨_, List.getElem?_eq_getElem hlt⟩
        obtain ⟨y, hy⟩ : ∃ y, ys[k]? = some y := ⟨_, List.getElem?_eq_getElem hky⟩
        obtain ⟨b1, o1, rfl, hcx⟩ := hca k x hx
        obtain ⟨b2, o2, rfl, hcy⟩ := hcb k y hy
        have hcx := hw.at hcx
        have hcy := hw.at hcy
        have HX := Zq hx; clear hx
        have HY := Zq hy; clear hy
        clear hca hcb
        by_cases heq : x = y
        · have heq' : (x != y) = false := by simpa using heq
          have HE := Zq heq; clear heq
          go_wp2
          go_quiet (fail)
          go_wp2
          go_roundw
          case rel =>
            refine ⟨k+1, by omega, by go_num, ⟨_, rfl⟩, Zq ?_⟩
            rw [List.take_add_one, List.take_add_one, HT.out, HX.out, HY.out, HE.out]
          case measure => simp [intOf]; omega
        · have heq' : (x != y) = true := by simpa using heq
          have HE := Zq heq; clear heq
          go_wp2
          go_quiet (fail)
          go_wp2
          go_ret
          refine ⟨?_, Q2 _ _ _⟩
          have : xs ≠ ys := fun h => HE.out (by have a := HX.out; have b := HY.out; rw [h] at a; exact Option.some.inj (a.symm.trans b))
          rw [decide_eq_false this]; rfl
      · have hke : k = xs.length := by omega
        subst hke
        go_wp2
        go_ret
        refine ⟨?_, n, rfl⟩
        have h1 := HT.out
        rw [List.take_length, HL.out, List.take_length] at h1
        rw [decide_eq_true h1]; rfl
  · have hl' : (((xs.length : Int)) != (ys.length : Int)) = true := by simp; omega
    go_in
    go_wp2
    go_ret
    refine ⟨?_, 0, rfl⟩
    rw [decide_eq_false (fun h => hl (by rw [h]))]; rfl


def intsPost (l:List Int) (w:World) (e:Ending) (w':World):Prop:=Below w.heap.size w w'∧∃ v,e = .returned v∧IntsV (gh w') v l
theorem Zji (v:Value) (xs:List Int) (w:World) (hx:IntsV (gh w) v xs) (hl:xs.length≤17592186044416):Calls Tryz.prog 31 #[v] w (intsPost xs w) :=
 (Zjg (gh w) v xs w (GH.le.refl _) hx).mono fun _ _ ⟨v',he,ho,hb⟩=>⟨hb,v',he,IntsV.ofOwn ho hl⟩
theorem Zjj {h:GH} {b:Nat} {F:Form} {g cap mb:Nat} {ov:Value} {xs:List XV} {nds:List Value} {w:World} (s:SchP (gh w) b F g cap mb ov xs nds) :
 w.cell? ⟨b,0,none⟩=some (.slice (some ⟨g,0,none⟩) F.l.length cap)∧w.cell? ⟨b,1,none⟩=some (.map (some mb))∧w.cell? ⟨b,2,none⟩=some ov:=(Zf1 (W:=w) s.box).1
theorem Zjk {b:Nat} {F:Form} {g cap mb:Nat} {ov:Value} {xs:List XV} {nds:List Value} {w:World} (s:SchP (gh w) b F g cap mb ov xs nds) {i:Nat} {f:Fd} {j:Nat} {v:Value} (hf:F.l[i]?=some f)
 (hj:(fdCells f (xs.getD i noX).1 (xs.getD i noX).2.1 (xs.getD i noX).2.2 (nds.getD i nilS))[j]?=some v):w.cell? ⟨g,i*21+j,none⟩=some v:=by
 obtain ⟨cur,c1,c2⟩:=s.cells
 have c1':w.heap[g]?=some (.cells cur 65 (0,0)):=c1
 have:=c2 i f hf j v hj
 simp [World.cell?,c1',this]
theorem Zjl {b:Nat} {F:Form} (w:World) (s:SchV (gh w) b F):Calls Tryz.prog 17 #[.pointer (some ⟨b,0,none⟩)] w fun e w'=>e = .returned (.int .i64 F.l.length)∧w=w':=by
 obtain ⟨g,cap,mb,ov,xs,nds,p⟩:=s
 obtain ⟨b0,b1,b2⟩:=Zjj (h:=gh w) p
 clear p
 go_in
 go_wp2
 go_ret
 exact ⟨rfl,rfl⟩
theorem Zjm {b:Nat} {F:Form} (w:World) (s:SchV (gh w) b F):Calls Tryz.prog 12 #[.pointer (some ⟨b,0,none⟩)] w (intsPost F.order w):=by
 obtain ⟨g,cap,mb,ov,xs,nds,p⟩:=s
 obtain ⟨b0,b1,b2⟩:=Zjj (h:=gh w) p
 obtain ⟨oa,oc,rfl,hol⟩:=Zd0 p.order
 have HLI:=Zq (Zji (.slice oa F.order.length oc) F.order w p.order hol)
 unfold intsPost at HLI ⊢
 clear p
 go_in
 go_wp2_with fail
 refine HLI.out.mono ?_
 rintro r W ⟨hb,v,rfl,hv⟩
 go_wp2
 go_ret
 exact ⟨hb,_,rfl,hv⟩
theorem Zjn {b:Nat} {F:Form} (i:Nat) (nd:List Int) (w:World) (s:SchV (gh w) b F) (hi:i<F.l.length) (hl:F.l.length≤24) (hn:F.needs[i]?=some nd):Calls Tryz.prog 19 #[.pointer (some ⟨b,0,none⟩),.int .i64 i] w (intsPost nd w):=by
 obtain ⟨g,cap,mb,ov,xs,nds,p⟩:=s
 obtain ⟨b0,b1,b2⟩:=Zjj (h:=gh w) p
 obtain ⟨f,hf⟩:∃ f,F.l[i]?=some f:=⟨_,List.getElem?_eq_getElem hi⟩
 obtain ⟨v,hv⟩:∃ v,nds[i]?=some v:=⟨_,List.getElem?_eq_getElem (by rw [p.nlen]; exact hi)⟩
 have h20:=Zjk p hf (Ziw _ _ _ _ _)
 have hxd:nds.getD i nilS=v:=by simp [List.getD,hv]
 rw [hxd] at h20
 have hiv:=p.needs i v nd hv hn
 obtain ⟨oa,oc,rfl,hol⟩:=Zd0 hiv
 have HLI:=Zq (Zji (.slice oa nd.length oc) nd w hiv hol)
 have q1:¬ (i:Int)<0:=by omega
 have q2:¬ (F.l.length:Int)≤(i:Int):=by omega
 have q3:¬ F.l.length≤i:=by omega
 have q4:(i:Int)<(F.l.length:Int):=by omega
 have q5:(0:Int)≤(i:Int):=by omega
 unfold intsPost at HLI ⊢
 clear p hf hv hxd hiv hn
 generalize F.l.length=n at *
 go_in
 go_wp2_with fail
 refine HLI.out.mono ?_
 rintro r W ⟨hb,v,rfl,hv⟩
 go_wp2
 try rw [Exit.noGoto_ret]
 go_ret
 exact ⟨hb,_,rfl,hv⟩
def findM (ns:List Bs) (s:Bs):Value := .tuple #[.int .i64 (match posT ns s with|some j=>(j:Int)|none => -1),.bool (posT ns s).isSome]
theorem Zjo {b:Nat} {F:Form} (s:Bs) (w:World) (hs:s.length≤9223372036854775807) (h:SchV (gh w) b F):Calls Tryz.prog 21 #[.pointer (some ⟨b,0,none⟩),.string ⟨s.toArray⟩] w fun e w'=>e = .returned (findM (Fd.names F.l) s)∧w=w':=by
 obtain ⟨g,cap,mb,ov,xs,nds,p⟩:=h
 obtain ⟨b0,b1,b2⟩:=Zjj (h:=gh w) p
 have hlk:=(p.mp w (GH.le.refl _)).look s (by unfold maxLen; omega)
 unfold findM
 clear p
 cases hp:posT (Fd.names F.l) s with
 | none =>
  rw [hp] at hlk
  simp only [Option.getD_none,Option.isSome_none] at hlk ⊢
  clear hp
  go_in
  go_wp2
  go_ret2
  exact ⟨rfl,rfl⟩
 | some j =>
  rw [hp] at hlk
  simp only [Option.getD_some,Option.isSome_some] at hlk ⊢
  clear hp
  go_in
  go_wp2
  go_ret2
  exact ⟨rfl,rfl⟩
def shortB (f:Fd):Bool:=decide (f.n.length≤1000)&&(decide (f.fo.length≤1000)&&(decide (f.ru.length≤1000)&&decide (f.sh.length≤1000)))
def fewF (l:List Fd):Bool:=decide (l.length≤40)&&l.all shortB
theorem Zjp (l:List Fd) (v:Value) (w:World) (hF:FdsV (gh w) v l) (hl:l.length≤9223372036854775807) (hS:∀ f∈l,f.n.length≤9223372036854775807∧f.fo.length≤9223372036854775807∧f.ru.length≤9223372036854775807∧f.sh.length≤9223372036854775807) :
 Calls Tryz.prog 15 #[v] w fun e w'=>e = .returned (.bool (fewF l))∧w=w':=by
 obtain ⟨a,cap,rfl⟩:=hF.form
 obtain ⟨n,hn⟩:∃ n,l.length=n:=⟨_,rfl⟩
 obtain ⟨R,hR⟩:∃ R,fewF l=R:=⟨_,rfl⟩
 have HN:=Zq hn
 have HF:=Zq hF
 have HS:=Zq hS
 rw [hR]
 rw [hn] at hl ⊢
 have HR:=Zq hR
 clear hR hF hS
 by_cases h40:(40:Int)<(n:Int)
 · have HE:Hid (R=false):=Zq (by rw [←HR.out]; unfold fewF; rw [decide_eq_false (by omega)]; rfl)
   clear hn
   go_in
   go_wp2
   go_ret
   exact ⟨by rw [HE.out]; rfl,rfl⟩
 · have HA:Hid (l.all shortB=R):=Zq (by rw [←HR.out]; unfold fewF; rw [decide_eq_true (by omega)]; rfl)
   clear hn
   go_in
   go_wp2
   go_loopg [3] n (fun gk i wr=>∃ k:Nat,i = .int .i64 k∧k+gk=n∧wr=w∧Hid ((l.drop k).all shortB=R))
   case atStart=>exact ⟨0,rfl,by omega,rfl,HA⟩
   case round =>
    obtain ⟨k,rfl,hg,rfl,HD⟩:=hrel
    by_cases hk:k<n
    · have hkl:k<l.length:=by have:=HN.out; omega
      obtain ⟨f,hf⟩:∃ f,l[k]?=some f:=⟨_,List.getElem?_eq_getElem hkl⟩
      have hd:(l.drop k).all shortB=(shortB f&&(l.drop (k+1)).all shortB):=by rw [List.drop_eq_getElem_cons hkl,(List.getElem?_eq_some_iff.1 hf).2]; rfl
      have hdd:=HD.out
      rw [hd] at hdd
      have HDD:=Zq hdd
      obtain ⟨s1,s2,s3,s4⟩:=HS.out f (List.mem_of_getElem? hf)
      have hfv:=HF.out
      rw [HN.out] at hfv
      obtain ⟨ab,ao,rfl,c0,c1,c2,c3,c4⟩:=hfv.at hf
      clear hf hd hdd HD hkl hfv
      obtain ⟨fn,ft,fo,ru,sh⟩:=f
      simp only at c0 c1 c2 c3 c4 s1 s2 s3 s4
      have fin:(shortB ⟨fn,ft,fo,ru,sh⟩=false)→Hid (R=false):=fun h=>Zq (by have:=HDD.out; rw [h] at this; exact this.symm)
      have go_on:(shortB ⟨fn,ft,fo,ru,sh⟩=true)→Hid ((l.drop (k+1)).all shortB=R):=fun h=>Zq (by have:=HDD.out; rw [h,Bool.true_and] at this; exact this)
      by_cases h1:(1000:Int)<(fn.length:Int)
      · have HE:=fin (by unfold shortB; simp; intro h; omega)
        clear fin go_on
        go_wp2
        try rw [Exit.noGoto_ret]
        go_ret
        exact ⟨by rw [HE.out]; rfl,rfl⟩
      · by_cases h2:(1000:Int)<(fo.length:Int)
        · have HE:=fin (by unfold shortB; simp; intro h h; omega)
          clear fin go_on
          go_wp2
          try rw [Exit.noGoto_ret]
          go_ret
          exact ⟨by rw [HE.out]; rfl,rfl⟩
        · by_cases h3:(1000:Int)<(ru.length:Int)
          · have HE:=fin (by unfold shortB; simp; intro h h h; omega)
            clear fin go_on
            go_wp2
            try rw [Exit.noGoto_ret]
            go_ret
            exact ⟨by rw [HE.out]; rfl,rfl⟩
          · by_cases h4:(1000:Int)<(sh.length:Int)
            · have HE:=fin (by unfold shortB; simp; intro h h h; omega)
              clear fin go_on
              go_wp2
              try rw [Exit.noGoto_ret]
              go_ret
              exact ⟨by rw [HE.out]; rfl,rfl⟩
            · have HE:=go_on (by unfold shortB; simp; omega)
              clear fin go_on
              go_wp2
              go_roundg (gk - 1)
              case rel=>exact ⟨k+1,by go_num,by omega,rfl,HE⟩
              case measure=>omega
    · have HE:Hid (R=true):=Zq (by rw [←HD.out,List.drop_eq_nil_of_le (by have:=HN.out; omega)]; rfl)
      go_wp2
      go_ret
      exact ⟨by rw [HE.out]; rfl,rfl⟩
theorem Zjq {l:List Fd} (h:fewF l=true):l.length≤40∧∀ f∈l,f.n.length≤1000∧f.fo.length≤1000∧f.ru.length≤1000∧f.sh.length≤1000:=by
 unfold fewF at h
 rw [Bool.and_eq_true,decide_eq_true_eq,List.all_eq_true] at h
 refine ⟨h.1,fun f hf=>?_⟩
 have:=h.2 f hf
 unfold shortB at this
 simpa using this
theorem Zjr:∃ i0,Tryz.prog.info? 27=some i0∧i0.zero=some (.agg #[.string ⟨#[]⟩,.int .i64 0,.string ⟨#[]⟩,.string ⟨#[]⟩,.string ⟨#[]⟩])∧i0.size=5∧i0.bytes=72:=info_parts (show (Tryz.prog.info? 27).map (fun i=>(i.zero,i.size,i.bytes))=some (some (.agg #[.string ⟨#[]⟩,.int .i64 0,.string ⟨#[]⟩,.string ⟨#[]⟩,.string ⟨#[]⟩]),5,72) by kernel_rfl)
theorem Zjs (f:Fd):(inCells f).length=5:=rfl
def fdsPost (l:List Fd) (w:World) (e:Ending) (w':World):Prop:=Below w.heap.size w w'∧∃ v,e = .returned v∧FdsV (gh w') v l
theorem Zjt (l:List Fd) (v:Value) (w:World) (hF:FdsV (gh w) v l) (hl:l.length≤1000000):Calls Tryz.prog 16 #[v] w (fdsPost l w):=by
 obtain ⟨a,cap,hv,hn,hc1,hc2,hx⟩:=hF
 subst hv
 obtain ⟨i0,hi,hz0,hz1,hz2⟩:=Zjr
 cases a with
 | none =>
  obtain ⟨h0,rfl⟩:=hn rfl
  obtain rfl:l=[]:=List.eq_nil_of_length_eq_zero h0
  simp only [List.length_nil]
  clear hx hn h0 hc1 hc2 hl
  go_in
  go_wp2_with (at_builtin; refine wpList_append_own_none rfl _ _ 25 rfl 0 27 i0 5 Tryz.underlying25 hi _ _ _ rfl (World.ownsRow_nil _ _ _ _) rfl ?_)
  go_ret
  exact ⟨Below.refl _ _,_,rfl,⟨none,0,rfl,fun _=>⟨rfl,rfl⟩,Nat.le_refl _,by simp,fun j c x hj=>by simp at hj⟩⟩
 | some ad =>
  obtain ⟨n,hnl⟩:∃ n,l.length=n:=⟨_,rfl⟩
  rw [hnl]
  obtain ⟨news,hnews⟩:∃ z,l.flatMap inCells=z:=⟨_,rfl⟩
  have H1:Hid (news.length=n*5):=Zq (by rw [←hnews,ZbV inCells 5 Zjs,hnl])
  have H2:Hid (∀ j u,news[j]?=some u→w.cell? (ad.add j)=some u):=Zq (by
   intro j u hj
   rw [←hnews] at hj
   have hjl:=(List.getElem?_eq_some_iff.1 hj).1
   rw [ZbV inCells 5 Zjs] at hjl
   have hq:j / 5<l.length:=by omega
   have hgf:=ZbU inCells 5 Zjs l (j / 5) (j % 5) l[j / 5] (List.getElem?_eq_getElem hq) (by omega)
   rw [show 5*(j / 5)+j % 5=j by omega,hj] at hgf
   obtain ⟨b,off,he,hcc⟩:=hx (j / 5) (j % 5) u hq (by show (inCells (l.getD (j / 5) noFd))[j % 5]?=some u; rw [ZfB hq]; exact hgf.symm)
   cases he
   rw [Zad] at hcc
   have e1:(⟨b,off,none⟩:Addr).add j=⟨b,off+j,none⟩:=by unfold Addr.add; split<;>simp_all
   rw [e1,show off+j=off+(5*(j / 5)+j % 5) by omega]; exact hcc)
  have H3:Hid (∀ u∈news,u.oneCell'=true):=Zq (by
   intro u hu
   rw [←hnews] at hu
   obtain ⟨f,_,hf⟩:=List.mem_flatMap.1 hu
   have h:(inCells f).all Value.oneCell'=true:=rfl
   exact List.all_eq_true.1 h u hf)
  have HNW:=Zq hnews
  have HNL:=Zq hnl
  have hn6:n≤1000000:=by omega
  clear hx hn hnews hnl hc1 hc2 hl
  go_in
  go_wp2_with (at_builtin; refine Zab rfl _ _ 25 rfl 27 i0 _ 5 72 Tryz.underlying25 hi hz0 hz1 hz2 rfl (by decide) rfl (Row.nil T0 1 w 27 5) ad n cap news rfl H1.out H2.out H3.out ?c4 ?c5 ?_)
  case c4=>unfold maxLen; omega
  case c5=>omega
  intro v' t' w' hr he _
  have HR:Hid (Row t' 1 w' 27 5 v' n news):=Zq (by simpa using hr)
  have HE:=Zq he
  clear hr he
  go_wp2
  go_ret
  have hr:=HR.out
  rw [←HNW.out,←HNL.out] at hr
  exact ⟨HE.out.toBelow (by simp),_,rfl,SlV.ofRow inCells l noFd (by decide) Zjs hr⟩
def namedV:Option (Nat × Int)→Value
 | none => .tuple #[.int .i64 0,.int .i64 0]
 | some x => .tuple #[.int .i64 x.1,.int .i64 x.2]
def textK (f:Fd) (k:Nat):Bs:=if k=0 then f.fo else if k=1 then f.ru else f.sh
def wantK (f:Fd) (k:Nat):Int:=if k=0 then f.t else 2
def updV {α:Type} (f:Nat→α) (k:Nat) (v:α):Nat→α:=fun j=>if j=k then v else f j
theorem Zju {α:Type} (f:Nat→α) (k:Nat) (v:α):updV f k v k=v:=by simp [updV]
theorem Zjv {α:Type} {f:Nat→α} {k j:Nat} {v:α} (h:j≠k):updV f k v j=f j:=by simp [updV,h]
def boolC (b:Bool):List Value:=[.bool b]
theorem Zjw (b:Bool):(boolC b).length=1:=rfl
structure DF (w:World) (l:List Fd) (b:Nat) (t:Tag) (lv:Value) (ev hv:Nat→Value) (el:Nat→List OV) (hl:Nat→List Bool) (W:World):Prop where
 box:W.heap[b]?=some (.cells #[lv,ev 0,ev 1,ev 2,hv 0,hv 1,hv 2,.slice none 0 0,.slice none 0 0] 79 (0,0))
 bt:t b=1
 fds:Row t 2 W 27 5 lv l.length (l.flatMap inCells)
 exs:∀ k,k<3→Row t (10+k) W 61 4 (ev k) (el k).length ((el k).flatMap exOf)
 has:∀ k,k<3→Row t (20+k) W 4 1 (hv k) (hl k).length ((hl k).flatMap boolC)
 ok:∀ k,k<3→∀ o∈el k,∀ x,o=some x→KV (hz t W) x.2 x.1.ks∧Fine x.1
 ev:Evo T0 w t W (·≠0)
section
variable {w : World} {l : List Fd} {b : Nat} {t t' : Tag} {lv : Value} {ev hv : Nat → Value} {el : Nat → List OV} {hl : Nat → List Bool} {W W' : World}
theorem DF.lt (h:DF w l b t lv ev hv el hl W):b<W.heap.size:=(Array.getElem?_eq_some_iff.1 h.box).1
theorem DF.keep9 (h:DF w l b t lv ev hv el hl W) (e:Evo t W t' W' (·=99)):DF w l b t' lv ev hv el hl W':=by
 have hlt:=h.lt
 exact ⟨(e.block _ hlt (by rw [h.bt]; decide)).trans h.box,(e.tag _ hlt).trans h.bt,h.fds.keep e (by decide),fun k hk=>(h.exs k hk).keep e (by omega),fun k hk=>(h.has k hk).keep e (by omega),
  fun k hk o ho x hx=>⟨(h.ok k hk o ho x hx).1.mono (e.hz (by decide)),(h.ok k hk o ho x hx).2⟩,h.ev.trans (e.mono fun _ h=>by rw [h]; decide)⟩
theorem DF.keep (h:DF w l b t lv ev hv el hl W) (e:Evo t W t' W' (fun _=>False)):DF w l b t' lv ev hv el hl W':=h.keep9 (e.mono fun _ h=>h.elim)
theorem DF.call (h:DF w l b t lv ev hv el hl W) (hb:Below W.heap.size W W'):DF w l b (t.ext W.heap.size 0) lv ev hv el hl W':=h.keep (Evo.below hb (Tag.ext_lt _ _ _))
theorem DF.new (h:DF w l b t lv ev hv el hl W) (o:Obj):DF w l b (t.set W.heap.size 0) lv ev hv el hl (W.alloc o):=h.keep ((Evo.refl _ _ _).alloc 0 o)
theorem DF.below (h:DF w l b t lv ev hv el hl W):Below w.heap.size w W:=h.ev.toBelow (by simp)
theorem DF.fdsV (h:DF w l b t lv ev hv el hl W):FdsV (gh W) lv l:=SlV.ofRow inCells l noFd (by decide) Zjs h.fds
theorem Zjx {B i:Nat} {x:Array Value} {y:Value} {T:TypeId} (h:W.heap[B]?=some (.cells x T (0,0))):(W.setCell ⟨B,i,none⟩ y).heap[B]?=some (.cells (x.setIfInBounds i y) T (0,0)):=by
 simp [World.setCell,Array.getElem?_modify,h]
theorem DF.app1 (h:DF w l b t lv ev hv el hl W) {k:Nat} (hk:k<3) {v':Value} {o:OV} (hr:Row t' (10+k) W' 61 4 v' (el k++[o]).length ((el k++[o]).flatMap exOf)) (e:Evo t W t' W' (·=10+k))
 (ho:∀ x,o=some x→KV (hz t W) x.2 x.1.ks∧Fine x.1):DF w l b t' lv (updV ev k v') hv (updV el k (el k++[o])) hl (W'.setCell ⟨b,1+k,none⟩ v'):=by
 have hlt:=h.lt
 have hb:=(e.block _ hlt (by rw [h.bt]; omega)).trans h.box
 have ht:t' b=1:=(e.tag _ hlt).trans h.bt
 have e2:Evo t' W' t' (W'.setCell ⟨b,1+k,none⟩ v') (·=1):=(Evo.refl _ _ _).setCell _ _ ht
 have hzz:(hz t W).le (hz t' (W'.setCell ⟨b,1+k,none⟩ v')):=(e.hz (by omega)).trans (e2.hz (by omega))
 refine ⟨?_,ht,(h.fds.keep e (by omega)).keep e2 (by omega),fun j hj=>?_,fun j hj=>((h.has j hj).keep e (by omega)).keep e2 (by omega),fun j hj x hx y hy=>?_,(h.ev.trans (e.mono fun _ h=>by omega)).trans (e2.mono fun _ h=>by rw [h]; decide)⟩
 · rw [Zjx hb]
   rcases (by omega:k=0∨k=1∨k=2) with rfl|rfl|rfl<;>simp [updV]
 · by_cases hjk:j=k
   · subst hjk
     rw [Zju,Zju]; exact hr.keep e2 (by omega)
   · rw [Zjv hjk,Zjv hjk]
     exact ((h.exs j hj).keep e (by omega)).keep e2 (by omega)
 · by_cases hjk:j=k
   · subst hjk
     rw [Zju] at hx
     rcases List.mem_append.1 hx with hx|hx
     · exact ⟨(h.ok j hj x hx y hy).1.mono hzz,(h.ok j hj x hx y hy).2⟩
     · obtain rfl:=List.mem_singleton.1 hx
       exact ⟨(ho y hy).1.mono hzz,(ho y hy).2⟩
   · rw [Zjv hjk] at hx
     exact ⟨(h.ok j hj x hx y hy).1.mono hzz,(h.ok j hj x hx y hy).2⟩
theorem DF.app2 (h:DF w l b t lv ev hv el hl W) {k:Nat} (hk:k<3) {v':Value} {o:Bool} (hr:Row t' (20+k) W' 4 1 v' (hl k++[o]).length ((hl k++[o]).flatMap boolC)) (e:Evo t W t' W' (·=20+k)) :
 DF w l b t' lv ev (updV hv k v') el (updV hl k (hl k++[o])) (W'.setCell ⟨b,4+k,none⟩ v'):=by
 have hlt:=h.lt
 have hb:=(e.block _ hlt (by rw [h.bt]; omega)).trans h.box
 have ht:t' b=1:=(e.tag _ hlt).trans h.bt
 have e2:Evo t' W' t' (W'.setCell ⟨b,4+k,none⟩ v') (·=1):=(Evo.refl _ _ _).setCell _ _ ht
 have hzz:(hz t W).le (hz t' (W'.setCell ⟨b,4+k,none⟩ v')):=(e.hz (by omega)).trans (e2.hz (by omega))
 refine ⟨?_,ht,(h.fds.keep e (by omega)).keep e2 (by omega),fun j hj=>((h.exs j hj).keep e (by omega)).keep e2 (by omega),fun j hj=>?_,fun j hj x hx y hy=>⟨(h.ok j hj x hx y hy).1.mono hzz,(h.ok j hj x hx y hy).2⟩,(h.ev.trans (e.mono fun _ h=>by omega)).trans (e2.mono fun _ h=>by rw [h]; decide)⟩
 · rw [Zjx hb]
   rcases (by omega:k=0∨k=1∨k=2) with rfl|rfl|rfl<;>simp [updV]
 · by_cases hjk:j=k
   · subst hjk
     rw [Zju,Zju]; exact hr.keep e2 (by omega)
   · rw [Zjv hjk,Zjv hjk]
     exact ((h.has j hj).keep e (by omega)).keep e2 (by omega)
end
end Go.Proofs.YtpfhhikbaeknpaaGreatDoor
