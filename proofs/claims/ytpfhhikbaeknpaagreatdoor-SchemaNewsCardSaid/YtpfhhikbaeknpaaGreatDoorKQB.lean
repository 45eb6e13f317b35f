/- The walks of the document's or, and, sum, product, cmp. -/
import Derived.Test.YtpfhhikbaeknpaaGreatDoorKQA
import Derived.Test.YtpfhhikbaeknpaaGreatDoorKVq
set_option maxHeartbeats 16000000
set_option maxRecDepth 1000000
set_option linter.all false
namespace Go.Proofs.YtpfhhikbaeknpaaGreatDoor
open Go.RowKit Pal
def lvF:Nat→Nat
 | 0=>79
 | 1=>116
 | 2=>152
 | 3=>174
 | 4=>187
 | _=>192
def LvOK (g:Nat):Prop:=∀ (n B p:Nat) (toks:List Tok) (tv:Value) (w:World),n≤5→XS w B tv p (-1)→TokV (gb B w) tv toks→Ended (toks.drop p)→toks.length≤1000→parseJ g (.two n) (toks.drop p) ≠ .out →
 Calls Tryz.prog (lvF n) #[.pointer (some ⟨B,0,none⟩)] w (RRes B tv toks (parseJ g (.two n) (toks.drop p)) w)
theorem ZmD {n:Nat} {s:Bs} {t:Tok} {x:Int × Bool} (h:isSg s t=true) (hl:lv n s=some x):lvT n t=some x:=by
 have h:=of_decide_eq_true h
 unfold lvT
 rw [if_pos h.1,h.2,hl]
theorem ZmE {f n:Nat} {e:Ex} {ts:List Tok} (h:lvT n (hd ts)=none):parseJ (f+1) (.loop n e) ts = .ok e ts:=by
 conv=>lhs; unfold parseJ
 simp only [h]
theorem ZmF {f n:Nat} {e:Ex} {ts:List Tok} {op:Int} (hn:n≠2) (h:lvT n (hd ts)=some (op,false)):parseJ (f+1) (.loop n e) ts=(parseJ f (.two (n+1)) ts.tail).then fun e2 r=>parseJ f (.loop n (.mk op 0 [] [e,e2])) r:=by
 conv=>lhs; unfold parseJ
 simp only [h,if_neg hn,kidsOf,Bool.false_eq_true,if_false]
theorem ZmG {s:Bs} {t:Tok} (h:isSg s t=false) (hk:t.k=4):t.s≠s:=fun e=>of_decide_eq_false h ⟨hk,e⟩
theorem ZmH {t:Tok} (h0:isSg [124] t=false):lvT 0 t=none:=by
 unfold lvT
 by_cases hk:t.k=4
 · rw [if_pos hk]
   simp [lv,ZmG h0 hk]
 · rw [if_neg hk]
theorem ZmI {t:Tok} (h0:isSg [38] t=false):lvT 1 t=none:=by
 unfold lvT
 by_cases hk:t.k=4
 · rw [if_pos hk]
   simp [lv,ZmG h0 hk]
 · rw [if_neg hk]
theorem ZmJ {t:Tok} (h0:isSg [43] t=false) (h1:isSg [45] t=false):lvT 3 t=none:=by
 unfold lvT
 by_cases hk:t.k=4
 · rw [if_pos hk]
   simp [lv,ZmG h0 hk,ZmG h1 hk]
 · rw [if_neg hk]
theorem ZmK {t:Tok} (h0:isSg [42] t=false) (h1:isSg [47] t=false) (h2:isSg [37] t=false):lvT 4 t=none:=by
 unfold lvT
 by_cases hk:t.k=4
 · rw [if_pos hk]
   simp [lv,ZmG h0 hk,ZmG h1 hk,ZmG h2 hk]
 · rw [if_neg hk]
theorem ZmL (f:Nat) (B p:Nat) (toks:List Tok) (tv:Value) (w:World) (h:XS w B tv p (-1)) (hT:TokV (gb B w) tv toks) (hE:Ended (toks.drop p)) (hl:toks.length≤1000) (X:PR) (hX:parseJ (f+1) (.two 0) (toks.drop p)=X) (hne:X ≠ .out) (ih:∀ g,g≤f→LvOK g) :
 Calls Tryz.prog 79 #[.pointer (some ⟨B,0,none⟩)] w (RRes B tv toks X w):=by
 unfold parseJ at hX
 rw [if_neg (by omega)] at hX
 have hpl:=h.cells.2.2.2.2.2
 have hb0:=(Below.refl w.heap.size w).alloc Zs (.cells #[.int .i64 0,.int .i64 0,.string ⟨#[]⟩,.slice none 0 0] 61)
 have HT0:Hid (∀ W,But B w W→TokV (gb B W) tv toks):=Zq (fun W hb=>SlV.mono hT hb.gb)
 have HTT:=Zq hT
 have hy:parseJ f (.two (0+1)) (toks.drop p) ≠ .out:=fun h=>by rw [h] at hX; exact hne hX.symm
 have hC0:Calls Tryz.prog 116 #[.pointer (some ⟨B,0,none⟩)] (w.alloc (.cells #[.int .i64 0,.int .i64 0,.string ⟨#[]⟩,.slice none 0 0] 61)) (RRes B tv toks (parseJ f (.two (0+1)) (toks.drop p)) (w.alloc (.cells #[.int .i64 0,.int .i64 0,.string ⟨#[]⟩,.slice none 0 0] 61))) :=
  ih f Zs (0+1) B p toks tv _ (by omega) (h.keep hb0) (SlV.mono hT (But.below (pb:=B) hb0).gb) hE hl hy
 have HC:=Zq hC0
 have HP:=Zq (fun e r=>Zbe f (.two (0+1)) (toks.drop p) hE e r)
 have HZ:=Zq (heap_alloc_new w (.cells #[.int .i64 0,.int .i64 0,.string ⟨#[]⟩,.slice none 0 0] 61))
 have HB:=Zq (But.below (pb:=B) hb0)
 have hsz:w.heap.size<(w.alloc (.cells #[.int .i64 0,.int .i64 0,.string ⟨#[]⟩,.slice none 0 0] 61)).heap.size:=by simp
 generalize parseJ f (.two (0+1)) (toks.drop p)=y at *
 have HX:=Zq hX
 have HI:=Zq ih
 have HNE:=Zq hne
 clear h hT hE hne hb0 hX ih hy hC0
 go_in
 go_wp2_with fail
 refine HC.out.mono ?_
 clear HC
 generalize w.alloc (.cells #[.int .i64 0,.int .i64 0,.string ⟨#[]⟩,.slice none 0 0] 61)=W0 at *
 cases y with
 | out=>rintro e W3 ⟨-,h⟩; exact h.elim
 | bad q =>
  rintro e W3 ⟨hb3,⟨v,rfl,o,n,s0,a,l,c,rfl⟩,p',hx3⟩
  have hx:=HX.out
  simp only [PR.then] at hx
  subst hx
  have hz3:=(hb3.block _ hsz (by omega)).trans HZ.out
  have hsz3:w.heap.size<W3.heap.size:=(Array.getElem?_eq_some_iff.1 hz3).1
  have HBI:Hid (BadIn w.heap.size B W3.heap.size tv (W3.alloc (.cells #[.int .i64 o,.int .i64 n,.string ⟨s0.toArray⟩,.slice a l c] 61)) q):=Zq ⟨⟨p',hx3.alloc _⟩,(Lib.alloc_old W3 _ _ hsz3).trans hz3,⟨o,n,s0,a,l,c,heap_alloc_new W3 _⟩,hsz3,hpl⟩
  have HBW:=Zq ((HB.out.trans hb3).alloc (.cells #[.int .i64 o,.int .i64 n,.string ⟨s0.toArray⟩,.slice a l c] 61))
  clear hb3 hx3 hz3 hsz3 HX HB HZ hsz
  unfold exV strV
  go_wp2
  generalize W3.alloc (.cells #[.int .i64 o,.int .i64 n,.string ⟨s0.toArray⟩,.slice a l c] 61)=W4 at *
  generalize W3.heap.size=Ba at *
  go_loopg [] 0 (fun g wr=>Hid (BadIn w.heap.size B Ba tv wr q)∧Hid (But B w wr))
  case atStart=>exact ⟨HBI,HBW⟩
  case round =>
   obtain ⟨HBJ,HBX⟩:=hrel
   have hBI:=HBJ.out
   clear HBI HBW HBJ
   obtain ⟨pq,hxq⟩:=hBI.st
   obtain ⟨o,n,s0,a,l,c,hcq⟩:=hBI.c
   obtain ⟨⟨c0,c1,c2,c3⟩,-⟩:=ZdP hcq
   have hzq:=hBI.z
   unfold zeroE at hzq
   have HXQ:=Zq hxq
   clear hcq hBI hxq
   have HSQ:=Zq (Zme [124] B pq q tv _ HXQ.out)
   unfold strV at HSQ
   go_wp2_with fail
   refine HSQ.out.mono ?_
   rintro e VQ ⟨rfl,rfl⟩
   clear HSQ
   unfold strV at *
   obtain ⟨⟨g0,g1,g2,g3⟩,e0,e1,e2,e3⟩:=ZdP hzq
   have HZF:=Zq hzq
   go_wp2
   refine bodyPost_ret (v:=exV o n s0 (.slice a l c)) ?_ rfl ?_
   · have hh:=ZdP (ZdM HZF.out (.int .i64 o) (.int .i64 n) (.string ⟨s0.toArray⟩) (.slice a l c))
     simp [results,Tryz.results79,go_sem,exV,strV,hh.1]
   · exact Zl7 HBX.out hpl HXQ.out _ _ _ _
 | ok ex r =>
  rintro e W3 ⟨hb3,⟨v,rfl,kv,rfl,hK⟩,p',hd3,hx3⟩
  have hE3:=HP.out ex r rfl
  have HX2:Hid (parseJ f (.loop 0 ex) (toks.drop p')=X):=Zq (by have:=HX.out; simp only [PR.then] at this; rw [hd3]; exact this)
  have HE4:Hid (Ended (toks.drop p')):=Zq (by rw [hd3]; exact hE3.1)
  have hz3:=(hb3.block _ hsz (by omega)).trans HZ.out
  have hsz3:w.heap.size<W3.heap.size:=(Array.getElem?_eq_some_iff.1 hz3).1
  obtain ⟨ka,kc,rfl⟩:=hK.form
  have HB4:=Zq ((HB.out.trans hb3).alloc (.cells #[.int .i64 ex.op,.int .i64 ex.n,.string ⟨ex.s.toArray⟩,.slice ka ex.ks.length kc] 61))
  have HI4:Hid (OrIn w.heap.size B W3.heap.size tv toks (W3.alloc (.cells #[.int .i64 ex.op,.int .i64 ex.n,.string ⟨ex.s.toArray⟩,.slice ka ex.ks.length kc] 61)) p' ex (.slice ka ex.ks.length kc)):=Zq
   ⟨hx3.alloc _,Zl8 HTT.out HB4.out,(Lib.alloc_old W3 _ _ hsz3).trans hz3,heap_alloc_new _ _,hK.mono (ZdJ fun b hb hl=>⟨⟨by omega,by omega⟩,Lib.alloc_old _ _ _ hl⟩),hsz3,hpl⟩
  clear hb3 hx3 hz3 HX HP HB HZ hsz hd3 hE3 hK
  unfold exV strV
  go_wp2
  generalize W3.alloc (.cells #[.int .i64 ex.op,.int .i64 ex.n,.string ⟨ex.s.toArray⟩,.slice ka ex.ks.length kc] 61)=W4 at *
  generalize W3.heap.size=Ba at *
  go_loopg [] f (fun g wr=>(∃ (p':Nat) (ex:Ex) (kv:Value),Hid (OrIn w.heap.size B Ba tv toks wr p' ex kv)∧Hid (But B w wr)∧Hid (Ended (toks.drop p'))∧g≤f∧Hid (parseJ g (.loop 0 ex) (toks.drop p')=X))∨(∃ q,X = .bad q∧Hid (BadIn w.heap.size B Ba tv wr q)∧Hid (But B w wr)))
  case atStart=>exact .inl ⟨p',ex,_,HI4,HB4,HE4,Nat.le_refl _,HX2⟩
  case round =>
   rcases hrel with ⟨p',ex,kv,HIn,HBn,HEn,hg,HXn⟩|⟨q,rfl,HBJ,HBX⟩
   case inr =>
    have hBI:=HBJ.out
    clear HI4 HB4 HE4 HX2
    obtain ⟨pq,hxq⟩:=hBI.st
    obtain ⟨o,n,s0,a,l,c,hcq⟩:=hBI.c
    obtain ⟨⟨c0,c1,c2,c3⟩,-⟩:=ZdP hcq
    have hzq:=hBI.z
    unfold zeroE at hzq
    have HXQ:=Zq hxq
    clear hcq hBI hxq
    have HSQ:=Zq (Zme [124] B pq q tv _ HXQ.out)
    unfold strV at HSQ
    go_wp2_with fail
    refine HSQ.out.mono ?_
    rintro e VQ ⟨rfl,rfl⟩
    clear HSQ
    unfold strV at *
    obtain ⟨⟨g0,g1,g2,g3⟩,e0,e1,e2,e3⟩:=ZdP hzq
    have HZF:=Zq hzq
    go_wp2
    refine bodyPost_ret (v:=exV o n s0 (.slice a l c)) ?_ rfl ?_
    · have hh:=ZdP (ZdM HZF.out (.int .i64 o) (.int .i64 n) (.string ⟨s0.toArray⟩) (.slice a l c))
      simp [results,Tryz.results79,go_sem,exV,strV,hh.1]
    · exact Zl7 HBX.out hpl HXQ.out _ _ _ _
   case inl =>
   clear HI4 HB4 HE4 HX2
   cases gk with
   | zero=>exact absurd HXn.out.symm HNE.out
   | succ g =>
   have HAT:=Zq HEn.out.at
   obtain ⟨t,ht⟩:∃ t,hd (toks.drop p')=t:=⟨_,rfl⟩
   have HTE:=Zq ht
   rw [ht] at HAT
   cases hs0:isSg [124] t with
   | true =>
    have HX3:=HXn.out
    rw [ZmF (by omega) (ZmD (x:=(17,false)) (by rw [ht]; exact hs0) rfl),ZdR] at HX3
    have hEt:Ended (toks.drop (p'+1)):=by rw [←ZdR]; exact HEn.out.tail (by rw [ht]; have:=Zbb hs0; omega)
    have HXX:=Zq HX3
    clear HX3 HXn
    have HSY:=Zq (Zmd [124] B p' toks t tv _ HIn.out.st HIn.out.tokb HAT.out.1 hl hs0)
    unfold strV at HSY
    go_wp2_with fail
    refine HSY.out.mono ?_
    rintro e W2 ⟨rfl,hb,hx⟩
    have HJ:=Zq (HIn.out.but hb hx)
    have HBm:=Zq (HBn.out.trans hb)
    clear hb hx HSY ht hs0
    have hy:parseJ g (.two (0+1)) (toks.drop (p'+1)) ≠ .out:=fun h=>by have:=HXX.out; rw [h] at this; exact HNE.out this.symm
    have hC0:Calls Tryz.prog 116 #[.pointer (some ⟨B,0,none⟩)] W2 (RRes B tv toks (parseJ g (.two (0+1)) (toks.drop (p'+1))) W2):=HI.out g (by omega) (0+1) B (p'+1) toks tv W2 (by omega) HJ.out.st HJ.out.tokb hEt hl hy
    have HC:=Zq hC0
    have HP:=Zq (fun e r=>Zbe g (.two (0+1)) (toks.drop (p'+1)) hEt e r)
    clear hC0 hy hEt
    generalize parseJ g (.two (0+1)) (toks.drop (p'+1))=y at *
    go_wp2_with fail
    refine HC.out.mono ?_
    clear HC
    have hltB:=HJ.out.lt
    have hszA:Ba<W2.heap.size:=(Array.getElem?_eq_some_iff.1 HJ.out.c).1
    cases y with
    | out=>exact absurd HXX.out.symm HNE.out
    | bad q =>
     rintro e W3 ⟨hb3,⟨v,rfl,o,n,s0,a,l,c,rfl⟩,pq,hx3⟩
     have hx:=HXX.out
     simp only [PR.then] at hx
     subst hx
     have hs3:=hb3.size
     have hz3:=(hb3.block _ (by omega) (by omega)).trans HJ.out.z
     have hc3:=(hb3.block _ hszA (by omega)).trans HJ.out.c
     have HBI:=Zq ((HBm.out.trans hb3).alloc (.cells #[.int .i64 o,.int .i64 n,.string ⟨s0.toArray⟩,.slice a l c] 61))
     have HX4:=Zq (hx3.alloc (.cells #[.int .i64 o,.int .i64 n,.string ⟨s0.toArray⟩,.slice a l c] 61))
     have hz4:=(Lib.alloc_old W3 (.cells #[.int .i64 o,.int .i64 n,.string ⟨s0.toArray⟩,.slice a l c] 61) _ (by omega)).trans hz3
     have hc4:=(Lib.alloc_old W3 (.cells #[.int .i64 o,.int .i64 n,.string ⟨s0.toArray⟩,.slice a l c] 61) _ (by omega)).trans hc3
     have hd4:=heap_alloc_new W3 (.cells #[.int .i64 o,.int .i64 n,.string ⟨s0.toArray⟩,.slice a l c] 61)
     obtain ⟨ua,uc,hkv⟩:=HJ.out.k.form
     subst hkv
     clear hb3 hx3 hz3 hc3
     unfold exV strV
     go_upto_region 4 with fail
     generalize W3.alloc (.cells #[.int .i64 o,.int .i64 n,.string ⟨s0.toArray⟩,.slice a l c] 61)=W4 at *
     obtain ⟨⟨c0,c1,c2,c3⟩,-⟩:=ZdP hc4
     obtain ⟨⟨d0,d1,d2,d3⟩,-⟩:=ZdP hd4
     have hs4:Ba<W4.heap.size:=(Array.getElem?_eq_some_iff.1 hc4).1
     have hs5:w.heap.size<W4.heap.size:=(Array.getElem?_eq_some_iff.1 hz4).1
     have HTW:=Zq (Zmb 17 ex.op ex.n o n ex.s s0 (.slice ua ex.ks.length uc) (.slice a l c) W4)
     unfold exV strV at HTW
     go_wp2_with fail
     refine HTW.out.mono ?_
     rintro e W5 ⟨gb,rfl,hb5,hg5,hr5⟩
     have hz5:=(hb5.block _ hs5).trans hz4
     have hc5:=(hb5.block _ hs4).trans hc4
     have HX5:=Zq (HX4.out.keep hb5)
     have HB5:=Zq (HBI.out.call hb5)
     have HZ5:=Zq hz5
     have HC5:=Zq hc5
     obtain ⟨⟨g0,g1,g2,g3⟩,e0,e1,e2,e3⟩:=ZdP hc5
     clear hb5 hr5 hz5 hc5 hz4 hc4 hd4 c0 c1 c2 c3 d0 d1 d2 d3 HTW HBI HX4
     go_wp2
     go_roundg g
     case rel=>exact .inr ⟨q,rfl,Zq ⟨⟨pq,HX5.out.set4 (by omega) _ _ _ _⟩,(ZdN (by omega) _ _ _ _).trans HZ5.out,⟨_,_,[],_,_,_,ZdM HC5.out _ _ _ _⟩,hltB,hpl⟩,Zq (HB5.out.set4 (by omega) _ _ _ _)⟩
     case measure=>omega
    | ok e2 r2 =>
     rintro e W3 ⟨hb3,⟨v,rfl,kv2,rfl,hK⟩,p4,hd3,hx3⟩
     obtain ⟨kb,kd,rfl⟩:=hK.form
     have hx:=HXX.out
     simp only [PR.then] at hx
     have hs3:=hb3.size
     have HJ3:=Zq ((HJ.out.but hb3 hx3).keep ((Below.refl _ _).alloc Zs (.cells #[.int .i64 e2.op,.int .i64 e2.n,.string ⟨e2.s.toArray⟩,.slice kb e2.ks.length kd] 61)))
     have HBI:=Zq ((HBm.out.trans hb3).alloc (.cells #[.int .i64 e2.op,.int .i64 e2.n,.string ⟨e2.s.toArray⟩,.slice kb e2.ks.length kd] 61))
     have HK3:Hid (KV (gp (fun b=>w.heap.size<b∧b≠Ba) (W3.alloc (.cells #[.int .i64 e2.op,.int .i64 e2.n,.string ⟨e2.s.toArray⟩,.slice kb e2.ks.length kd] 61))) (.slice kb e2.ks.length kd) e2.ks):=Zq (hK.mono (ZdJ fun b hb hl=>⟨⟨by omega,by omega⟩,Lib.alloc_old _ _ _ hl⟩))
     have hd4:=heap_alloc_new W3 (.cells #[.int .i64 e2.op,.int .i64 e2.n,.string ⟨e2.s.toArray⟩,.slice kb e2.ks.length kd] 61)
     have HX5:=Zq hx
     rw [←hd3] at HX5
     have HE5:Hid (Ended (toks.drop p4)):=Zq (by rw [hd3]; exact (HP.out e2 r2 rfl).1)
     obtain ⟨ua,uc,hkv⟩:=HJ.out.k.form
     subst hkv
     clear hb3 hx3 hK hx hd3 HP
     unfold exV strV
     go_upto_region 4 with fail
     generalize W3.alloc (.cells #[.int .i64 e2.op,.int .i64 e2.n,.string ⟨e2.s.toArray⟩,.slice kb e2.ks.length kd] 61)=W4 at *
     obtain ⟨⟨c0,c1,c2,c3⟩,-⟩:=ZdP HJ3.out.c
     obtain ⟨⟨d0,d1,d2,d3⟩,-⟩:=ZdP hd4
     have hs4:Ba<W4.heap.size:=(Array.getElem?_eq_some_iff.1 HJ3.out.c).1
     have HTW:=Zq (Zmb 17 ex.op ex.n e2.op e2.n ex.s e2.s (.slice ua ex.ks.length uc) (.slice kb e2.ks.length kd) W4)
     unfold exV strV at HTW
     unfold strV at c2
     go_wp2_with fail
     refine HTW.out.mono ?_
     rintro e W5 ⟨gb,rfl,hb5,hg5,hr5⟩
     have HJ5:=Zq (HJ3.out.keep hb5)
     have HK5:Hid (KV (gp (fun b=>w.heap.size<b∧b≠Ba) W5) (.slice (some ⟨gb,0,none⟩) 2 2) [ex,e2]):=Zq (KV.two (a:=ex) (c:=e2) (u := .slice ua ex.ks.length uc) (v := .slice kb e2.ks.length kd) (T:=61) (by unfold gp; rw [if_pos ⟨by omega,by omega⟩]; exact hr5)
      (HJ3.out.k.mono (ZdJ fun b hb hl=>⟨hb,hb5.block _ hl⟩)) (HK3.out.mono (ZdJ fun b hb hl=>⟨hb,hb5.block _ hl⟩)))
     have HB5:=Zq (HBI.out.call hb5)
     obtain ⟨⟨g0,g1,g2,g3⟩,e0,e1,e2',e3⟩:=ZdP HJ5.out.c
     clear hb5 hr5 hd4 c0 c1 c2 c3 d0 d1 d2 d3 HTW HBI HJ3 HK3
     unfold strV at g2
     go_wp2
     go_roundg g
     case rel=>exact .inl ⟨p4,_,_,Zq (HJ5.out.set HK5.out 17),Zq (HB5.out.set4 (by omega) _ _ _ _),HE5,by omega,HX5⟩
     case measure=>omega
   | false =>
   have hx:=HXn.out
   rw [ZmE (ZmH (by rw [ht]; exact hs0))] at hx
   subst hx
   have HS0:=Zq (Zmc [124] B p' toks t tv _ HIn.out.st HIn.out.tokb HAT.out.1 hl hs0)
   unfold strV at HS0
   go_wp2_with fail
   refine HS0.out.mono ?_
   rintro e V0 ⟨rfl,hb⟩
   have HJ0:=Zq (HIn.out.keep hb)
   have HBn:=Zq (HBn.out.call hb)
   clear hb HS0
   have HK:=Zq HJ0.out.k
   obtain ⟨ka,kc,hkv⟩:=HJ0.out.k.form
   subst hkv
   obtain ⟨⟨c0,c1,c2,c3⟩,-⟩:=ZdP HJ0.out.c
   have HXQ:=Zq HJ0.out.st
   have hzq:=HJ0.out.z
   unfold zeroE at hzq
   unfold strV at c2
   clear HXn
   obtain ⟨⟨g0,g1,g2,g3⟩,e0,e1,e2,e3⟩:=ZdP hzq
   have HZF:=Zq hzq
   go_wp2
   refine bodyPost_ret (v:=exV ex.op ex.n ex.s (.slice ka ex.ks.length kc)) ?_ rfl ?_
   · have hh:=ZdP (ZdM HZF.out (.int .i64 ex.op) (.int .i64 ex.n) (.string ⟨ex.s.toArray⟩) (.slice ka ex.ks.length kc))
     simp [results,Tryz.results79,go_sem,exV,strV,hh.1]
   · rw [Ex.eta ex]
     exact Zl6 HBn.out hpl (HK.out.mono (ZdJ fun b hb _=>⟨hb.1,rfl⟩)) HXQ.out rfl _ _ _ _
theorem ZmM (f:Nat) (B p:Nat) (toks:List Tok) (tv:Value) (w:World) (h:XS w B tv p (-1)) (hT:TokV (gb B w) tv toks) (hE:Ended (toks.drop p)) (hl:toks.length≤1000) (X:PR) (hX:parseJ (f+1) (.two 1) (toks.drop p)=X) (hne:X ≠ .out) (ih:∀ g,g≤f→LvOK g) :
 Calls Tryz.prog 116 #[.pointer (some ⟨B,0,none⟩)] w (RRes B tv toks X w):=by
 unfold parseJ at hX
 rw [if_neg (by omega)] at hX
 have hpl:=h.cells.2.2.2.2.2
 have hb0:=(Below.refl w.heap.size w).alloc Zs (.cells #[.int .i64 0,.int .i64 0,.string ⟨#[]⟩,.slice none 0 0] 61)
 have HT0:Hid (∀ W,But B w W→TokV (gb B W) tv toks):=Zq (fun W hb=>SlV.mono hT hb.gb)
 have HTT:=Zq hT
 have hy:parseJ f (.two (1+1)) (toks.drop p) ≠ .out:=fun h=>by rw [h] at hX; exact hne hX.symm
 have hC0:Calls Tryz.prog 152 #[.pointer (some ⟨B,0,none⟩)] (w.alloc (.cells #[.int .i64 0,.int .i64 0,.string ⟨#[]⟩,.slice none 0 0] 61)) (RRes B tv toks (parseJ f (.two (1+1)) (toks.drop p)) (w.alloc (.cells #[.int .i64 0,.int .i64 0,.string ⟨#[]⟩,.slice none 0 0] 61))) :=
  ih f Zs (1+1) B p toks tv _ (by omega) (h.keep hb0) (SlV.mono hT (But.below (pb:=B) hb0).gb) hE hl hy
 have HC:=Zq hC0
 have HP:=Zq (fun e r=>Zbe f (.two (1+1)) (toks.drop p) hE e r)
 have HZ:=Zq (heap_alloc_new w (.cells #[.int .i64 0,.int .i64 0,.string ⟨#[]⟩,.slice none 0 0] 61))
 have HB:=Zq (But.below (pb:=B) hb0)
 have hsz:w.heap.size<(w.alloc (.cells #[.int .i64 0,.int .i64 0,.string ⟨#[]⟩,.slice none 0 0] 61)).heap.size:=by simp
 generalize parseJ f (.two (1+1)) (toks.drop p)=y at *
 have HX:=Zq hX
 have HI:=Zq ih
 have HNE:=Zq hne
 clear h hT hE hne hb0 hX ih hy hC0
 go_in
 go_wp2_with fail
 refine HC.out.mono ?_
 clear HC
 generalize w.alloc (.cells #[.int .i64 0,.int .i64 0,.string ⟨#[]⟩,.slice none 0 0] 61)=W0 at *
 cases y with
 | out=>rintro e W3 ⟨-,h⟩; exact h.elim
 | bad q =>
  rintro e W3 ⟨hb3,⟨v,rfl,o,n,s0,a,l,c,rfl⟩,p',hx3⟩
  have hx:=HX.out
  simp only [PR.then] at hx
  subst hx
  have hz3:=(hb3.block _ hsz (by omega)).trans HZ.out
  have hsz3:w.heap.size<W3.heap.size:=(Array.getElem?_eq_some_iff.1 hz3).1
  have HBI:Hid (BadIn w.heap.size B W3.heap.size tv (W3.alloc (.cells #[.int .i64 o,.int .i64 n,.string ⟨s0.toArray⟩,.slice a l c] 61)) q):=Zq ⟨⟨p',hx3.alloc _⟩,(Lib.alloc_old W3 _ _ hsz3).trans hz3,⟨o,n,s0,a,l,c,heap_alloc_new W3 _⟩,hsz3,hpl⟩
  have HBW:=Zq ((HB.out.trans hb3).alloc (.cells #[.int .i64 o,.int .i64 n,.string ⟨s0.toArray⟩,.slice a l c] 61))
  clear hb3 hx3 hz3 hsz3 HX HB HZ hsz
  unfold exV strV
  go_wp2
  generalize W3.alloc (.cells #[.int .i64 o,.int .i64 n,.string ⟨s0.toArray⟩,.slice a l c] 61)=W4 at *
  generalize W3.heap.size=Ba at *
  go_loopg [] 0 (fun g wr=>Hid (BadIn w.heap.size B Ba tv wr q)∧Hid (But B w wr))
  case atStart=>exact ⟨HBI,HBW⟩
  case round =>
   obtain ⟨HBJ,HBX⟩:=hrel
   have hBI:=HBJ.out
   clear HBI HBW HBJ
   obtain ⟨pq,hxq⟩:=hBI.st
   obtain ⟨o,n,s0,a,l,c,hcq⟩:=hBI.c
   obtain ⟨⟨c0,c1,c2,c3⟩,-⟩:=ZdP hcq
   have hzq:=hBI.z
   unfold zeroE at hzq
   have HXQ:=Zq hxq
   clear hcq hBI hxq
   have HSQ:=Zq (Zme [38] B pq q tv _ HXQ.out)
   unfold strV at HSQ
   go_wp2_with fail
   refine HSQ.out.mono ?_
   rintro e VQ ⟨rfl,rfl⟩
   clear HSQ
   unfold strV at *
   obtain ⟨⟨g0,g1,g2,g3⟩,e0,e1,e2,e3⟩:=ZdP hzq
   have HZF:=Zq hzq
   go_wp2
   refine bodyPost_ret (v:=exV o n s0 (.slice a l c)) ?_ rfl ?_
   · have hh:=ZdP (ZdM HZF.out (.int .i64 o) (.int .i64 n) (.string ⟨s0.toArray⟩) (.slice a l c))
     simp [results,Tryz.results116,go_sem,exV,strV,hh.1]
   · exact Zl7 HBX.out hpl HXQ.out _ _ _ _
 | ok ex r =>
  rintro e W3 ⟨hb3,⟨v,rfl,kv,rfl,hK⟩,p',hd3,hx3⟩
  have hE3:=HP.out ex r rfl
  have HX2:Hid (parseJ f (.loop 1 ex) (toks.drop p')=X):=Zq (by have:=HX.out; simp only [PR.then] at this; rw [hd3]; exact this)
  have HE4:Hid (Ended (toks.drop p')):=Zq (by rw [hd3]; exact hE3.1)
  have hz3:=(hb3.block _ hsz (by omega)).trans HZ.out
  have hsz3:w.heap.size<W3.heap.size:=(Array.getElem?_eq_some_iff.1 hz3).1
  obtain ⟨ka,kc,rfl⟩:=hK.form
  have HB4:=Zq ((HB.out.trans hb3).alloc (.cells #[.int .i64 ex.op,.int .i64 ex.n,.string ⟨ex.s.toArray⟩,.slice ka ex.ks.length kc] 61))
  have HI4:Hid (OrIn w.heap.size B W3.heap.size tv toks (W3.alloc (.cells #[.int .i64 ex.op,.int .i64 ex.n,.string ⟨ex.s.toArray⟩,.slice ka ex.ks.length kc] 61)) p' ex (.slice ka ex.ks.length kc)):=Zq
   ⟨hx3.alloc _,Zl8 HTT.out HB4.out,(Lib.alloc_old W3 _ _ hsz3).trans hz3,heap_alloc_new _ _,hK.mono (ZdJ fun b hb hl=>⟨⟨by omega,by omega⟩,Lib.alloc_old _ _ _ hl⟩),hsz3,hpl⟩
  clear hb3 hx3 hz3 HX HP HB HZ hsz hd3 hE3 hK
  unfold exV strV
  go_wp2
  generalize W3.alloc (.cells #[.int .i64 ex.op,.int .i64 ex.n,.string ⟨ex.s.toArray⟩,.slice ka ex.ks.length kc] 61)=W4 at *
  generalize W3.heap.size=Ba at *
  go_loopg [] f (fun g wr=>(∃ (p':Nat) (ex:Ex) (kv:Value),Hid (OrIn w.heap.size B Ba tv toks wr p' ex kv)∧Hid (But B w wr)∧Hid (Ended (toks.drop p'))∧g≤f∧Hid (parseJ g (.loop 1 ex) (toks.drop p')=X))∨(∃ q,X = .bad q∧Hid (BadIn w.heap.size B Ba tv wr q)∧Hid (But B w wr)))
  case atStart=>exact .inl ⟨p',ex,_,HI4,HB4,HE4,Nat.le_refl _,HX2⟩
  case round =>
   rcases hrel with ⟨p',ex,kv,HIn,HBn,HEn,hg,HXn⟩|⟨q,rfl,HBJ,HBX⟩
   case inr =>
    have hBI:=HBJ.out
    clear HI4 HB4 HE4 HX2
    obtain ⟨pq,hxq⟩:=hBI.st
    obtain ⟨o,n,s0,a,l,c,hcq⟩:=hBI.c
    obtain ⟨⟨c0,c1,c2,c3⟩,-⟩:=ZdP hcq
    have hzq:=hBI.z
    unfold zeroE at hzq
    have HXQ:=Zq hxq
    clear hcq hBI hxq
    have HSQ:=Zq (Zme [38] B pq q tv _ HXQ.out)
    unfold strV at HSQ
    go_wp2_with fail
    refine HSQ.out.mono ?_
    rintro e VQ ⟨rfl,rfl⟩
    clear HSQ
    unfold strV at *
    obtain ⟨⟨g0,g1,g2,g3⟩,e0,e1,e2,e3⟩:=ZdP hzq
    have HZF:=Zq hzq
    go_wp2
    refine bodyPost_ret (v:=exV o n s0 (.slice a l c)) ?_ rfl ?_
    · have hh:=ZdP (ZdM HZF.out (.int .i64 o) (.int .i64 n) (.string ⟨s0.toArray⟩) (.slice a l c))
      simp [results,Tryz.results116,go_sem,exV,strV,hh.1]
    · exact Zl7 HBX.out hpl HXQ.out _ _ _ _
   case inl =>
   clear HI4 HB4 HE4 HX2
   cases gk with
   | zero=>exact absurd HXn.out.symm HNE.out
   | succ g =>
   have HAT:=Zq HEn.out.at
   obtain ⟨t,ht⟩:∃ t,hd (toks.drop p')=t:=⟨_,rfl⟩
   have HTE:=Zq ht
   rw [ht] at HAT
   cases hs0:isSg [38] t with
   | true =>
    have HX3:=HXn.out
    rw [ZmF (by omega) (ZmD (x:=(16,false)) (by rw [ht]; exact hs0) rfl),ZdR] at HX3
    have hEt:Ended (toks.drop (p'+1)):=by rw [←ZdR]; exact HEn.out.tail (by rw [ht]; have:=Zbb hs0; omega)
    have HXX:=Zq HX3
    clear HX3 HXn
    have HSY:=Zq (Zmd [38] B p' toks t tv _ HIn.out.st HIn.out.tokb HAT.out.1 hl hs0)
    unfold strV at HSY
    go_wp2_with fail
    refine HSY.out.mono ?_
    rintro e W2 ⟨rfl,hb,hx⟩
    have HJ:=Zq (HIn.out.but hb hx)
    have HBm:=Zq (HBn.out.trans hb)
    clear hb hx HSY ht hs0
    have hy:parseJ g (.two (1+1)) (toks.drop (p'+1)) ≠ .out:=fun h=>by have:=HXX.out; rw [h] at this; exact HNE.out this.symm
    have hC0:Calls Tryz.prog 152 #[.pointer (some ⟨B,0,none⟩)] W2 (RRes B tv toks (parseJ g (.two (1+1)) (toks.drop (p'+1))) W2):=HI.out g (by omega) (1+1) B (p'+1) toks tv W2 (by omega) HJ.out.st HJ.out.tokb hEt hl hy
    have HC:=Zq hC0
    have HP:=Zq (fun e r=>Zbe g (.two (1+1)) (toks.drop (p'+1)) hEt e r)
    clear hC0 hy hEt
    generalize parseJ g (.two (1+1)) (toks.drop (p'+1))=y at *
    go_wp2_with fail
    refine HC.out.mono ?_
    clear HC
    have hltB:=HJ.out.lt
    have hszA:Ba<W2.heap.size:=(Array.getElem?_eq_some_iff.1 HJ.out.c).1
    cases y with
    | out=>exact absurd HXX.out.symm HNE.out
    | bad q =>
     rintro e W3 ⟨hb3,⟨v,rfl,o,n,s0,a,l,c,rfl⟩,pq,hx3⟩
     have hx:=HXX.out
     simp only [PR.then] at hx
     subst hx
     have hs3:=hb3.size
     have hz3:=(hb3.block _ (by omega) (by omega)).trans HJ.out.z
     have hc3:=(hb3.block _ hszA (by omega)).trans HJ.out.c
     have HBI:=Zq ((HBm.out.trans hb3).alloc (.cells #[.int .i64 o,.int .i64 n,.string ⟨s0.toArray⟩,.slice a l c] 61))
     have HX4:=Zq (hx3.alloc (.cells #[.int .i64 o,.int .i64 n,.string ⟨s0.toArray⟩,.slice a l c] 61))
     have hz4:=(Lib.alloc_old W3 (.cells #[.int .i64 o,.int .i64 n,.string ⟨s0.toArray⟩,.slice a l c] 61) _ (by omega)).trans hz3
     have hc4:=(Lib.alloc_old W3 (.cells #[.int .i64 o,.int .i64 n,.string ⟨s0.toArray⟩,.slice a l c] 61) _ (by omega)).trans hc3
     have hd4:=heap_alloc_new W3 (.cells #[.int .i64 o,.int .i64 n,.string ⟨s0.toArray⟩,.slice a l c] 61)
     obtain ⟨ua,uc,hkv⟩:=HJ.out.k.form
     subst hkv
     clear hb3 hx3 hz3 hc3
     unfold exV strV
     go_upto_region 4 with fail
     generalize W3.alloc (.cells #[.int .i64 o,.int .i64 n,.string ⟨s0.toArray⟩,.slice a l c] 61)=W4 at *
     obtain ⟨⟨c0,c1,c2,c3⟩,-⟩:=ZdP hc4
     obtain ⟨⟨d0,d1,d2,d3⟩,-⟩:=ZdP hd4
     have hs4:Ba<W4.heap.size:=(Array.getElem?_eq_some_iff.1 hc4).1
     have hs5:w.heap.size<W4.heap.size:=(Array.getElem?_eq_some_iff.1 hz4).1
     have HTW:=Zq (Zmb 16 ex.op ex.n o n ex.s s0 (.slice ua ex.ks.length uc) (.slice a l c) W4)
     unfold exV strV at HTW
     go_wp2_with fail
     refine HTW.out.mono ?_
     rintro e W5 ⟨gb,rfl,hb5,hg5,hr5⟩
     have hz5:=(hb5.block _ hs5).trans hz4
     have hc5:=(hb5.block _ hs4).trans hc4
     have HX5:=Zq (HX4.out.keep hb5)
     have HB5:=Zq (HBI.out.call hb5)
     have HZ5:=Zq hz5
     have HC5:=Zq hc5
     obtain ⟨⟨g0,g1,g2,g3⟩,e0,e1,e2,e3⟩:=ZdP hc5
     clear hb5 hr5 hz5 hc5 hz4 hc4 hd4 c0 c1 c2 c3 d0 d1 d2 d3 HTW HBI HX4
     go_wp2
     go_roundg g
     case rel=>exact .inr ⟨q,rfl,Zq ⟨⟨pq,HX5.out.set4 (by omega) _ _ _ _⟩,(ZdN (by omega) _ _ _ _).trans HZ5.out,⟨_,_,[],_,_,_,ZdM HC5.out _ _ _ _⟩,hltB,hpl⟩,Zq (HB5.out.set4 (by omega) _ _ _ _)⟩
     case measure=>omega
    | ok e2 r2 =>
     rintro e W3 ⟨hb3,⟨v,rfl,kv2,rfl,hK⟩,p4,hd3,hx3⟩
     obtain ⟨kb,kd,rfl⟩:=hK.form
     have hx:=HXX.out
     simp only [PR.then] at hx
     have hs3:=hb3.size
     have HJ3:=Zq ((HJ.out.but hb3 hx3).keep ((Below.refl _ _).alloc Zs (.cells #[.int .i64 e2.op,.int .i64 e2.n,.string ⟨e2.s.toArray⟩,.slice kb e2.ks.length kd] 61)))
     have HBI:=Zq ((HBm.out.trans hb3).alloc (.cells #[.int .i64 e2.op,.int .i64 e2.n,.string ⟨e2.s.toArray⟩,.slice kb e2.ks.length kd] 61))
     have HK3:Hid (KV (gp (fun b=>w.heap.size<b∧b≠Ba) (W3.alloc (.cells #[.int .i64 e2.op,.int .i64 e2.n,.string ⟨e2.s.toArray⟩,.slice kb e2.ks.length kd] 61))) (.slice kb e2.ks.length kd) e2.ks):=Zq (hK.mono (ZdJ fun b hb hl=>⟨⟨by omega,by omega⟩,Lib.alloc_old _ _ _ hl⟩))
     have hd4:=heap_alloc_new W3 (.cells #[.int .i64 e2.op,.int .i64 e2.n,.string ⟨e2.s.toArray⟩,.slice kb e2.ks.length kd] 61)
     have HX5:=Zq hx
     rw [←hd3] at HX5
     have HE5:Hid (Ended (toks.drop p4)):=Zq (by rw [hd3]; exact (HP.out e2 r2 rfl).1)
     obtain ⟨ua,uc,hkv⟩:=HJ.out.k.form
     subst hkv
     clear hb3 hx3 hK hx hd3 HP
     unfold exV strV
     go_upto_region 4 with fail
     generalize W3.alloc (.cells #[.int .i64 e2.op,.int .i64 e2.n,.string ⟨e2.s.toArray⟩,.slice kb e2.ks.length kd] 61)=W4 at *
     obtain ⟨⟨c0,c1,c2,c3⟩,-⟩:=ZdP HJ3.out.c
     obtain ⟨⟨d0,d1,d2,d3⟩,-⟩:=ZdP hd4
     have hs4:Ba<W4.heap.size:=(Array.getElem?_eq_some_iff.1 HJ3.out.c).1
     have HTW:=Zq (Zmb 16 ex.op ex.n e2.op e2.n ex.s e2.s (.slice ua ex.ks.length uc) (.slice kb e2.ks.length kd) W4)
     unfold exV strV at HTW
     unfold strV at c2
     go_wp2_with fail
     refine HTW.out.mono ?_
     rintro e W5 ⟨gb,rfl,hb5,hg5,hr5⟩
     have HJ5:=Zq (HJ3.out.keep hb5)
     have HK5:Hid (KV (gp (fun b=>w.heap.size<b∧b≠Ba) W5) (.slice (some ⟨gb,0,none⟩) 2 2) [ex,e2]):=Zq (KV.two (a:=ex) (c:=e2) (u := .slice ua ex.ks.length uc) (v := .slice kb e2.ks.length kd) (T:=61) (by unfold gp; rw [if_pos ⟨by omega,by omega⟩]; exact hr5)
      (HJ3.out.k.mono (ZdJ fun b hb hl=>⟨hb,hb5.block _ hl⟩)) (HK3.out.mono (ZdJ fun b hb hl=>⟨hb,hb5.block _ hl⟩)))
     have HB5:=Zq (HBI.out.call hb5)
     obtain ⟨⟨g0,g1,g2,g3⟩,e0,e1,e2',e3⟩:=ZdP HJ5.out.c
     clear hb5 hr5 hd4 c0 c1 c2 c3 d0 d1 d2 d3 HTW HBI HJ3 HK3
     unfold strV at g2
     go_wp2
     go_roundg g
     case rel=>exact .inl ⟨p4,_,_,Zq (HJ5.out.set HK5.out 16),Zq (HB5.out.set4 (by omega) _ _ _ _),HE5,by omega,HX5⟩
     case measure=>omega
   | false =>
   have hx:=HXn.out
   rw [ZmE (ZmI (by rw [ht]; exact hs0))] at hx
   subst hx
   have HS0:=Zq (Zmc [38] B p' toks t tv _ HIn.out.st HIn.out.tokb HAT.out.1 hl hs0)
   unfold strV at HS0
   go_wp2_with fail
   refine HS0.out.mono ?_
   rintro e V0 ⟨rfl,hb⟩
   have HJ0:=Zq (HIn.out.keep hb)
   have HBn:=Zq (HBn.out.call hb)
   clear hb HS0
   have HK:=Zq HJ0.out.k
   obtain ⟨ka,kc,hkv⟩:=HJ0.out.k.form
   subst hkv
   obtain ⟨⟨c0,c1,c2,c3⟩,-⟩:=ZdP HJ0.out.c
   have HXQ:=Zq HJ0.out.st
   have hzq:=HJ0.out.z
   unfold zeroE at hzq
   unfold strV at c2
   clear HXn
   obtain ⟨⟨g0,g1,g2,g3⟩,e0,e1,e2,e3⟩:=ZdP hzq
   have HZF:=Zq hzq
   go_wp2
   refine bodyPost_ret (v:=exV ex.op ex.n ex.s (.slice ka ex.ks.length kc)) ?_ rfl ?_
   · have hh:=ZdP (ZdM HZF.out (.int .i64 ex.op) (.int .i64 ex.n) (.string ⟨ex.s.toArray⟩) (.slice ka ex.ks.length kc))
     simp [results,Tryz.results116,go_sem,exV,strV,hh.1]
   · rw [Ex.eta ex]
     exact Zl6 HBn.out hpl (HK.out.mono (ZdJ fun b hb _=>⟨hb.1,rfl⟩)) HXQ.out rfl _ _ _ _
theorem ZmN (f:Nat) (B p:Nat) (toks:List Tok) (tv:Value) (w:World) (h:XS w B tv p (-1)) (hT:TokV (gb B w) tv toks) (hE:Ended (toks.drop p)) (hl:toks.length≤1000) (X:PR) (hX:parseJ (f+1) (.two 3) (toks.drop p)=X) (hne:X ≠ .out) (ih:∀ g,g≤f→LvOK g) :
 Calls Tryz.prog 174 #[.pointer (some ⟨B,0,none⟩)] w (RRes B tv toks X w):=by
 unfold parseJ at hX
 rw [if_neg (by omega)] at hX
 have hpl:=h.cells.2.2.2.2.2
 have hb0:=(Below.refl w.heap.size w).alloc Zs (.cells #[.int .i64 0,.int .i64 0,.string ⟨#[]⟩,.slice none 0 0] 61)
 have HT0:Hid (∀ W,But B w W→TokV (gb B W) tv toks):=Zq (fun W hb=>SlV.mono hT hb.gb)
 have HTT:=Zq hT
 have hy:parseJ f (.two (3+1)) (toks.drop p) ≠ .out:=fun h=>by rw [h] at hX; exact hne hX.symm
 have hC0:Calls Tryz.prog 187 #[.pointer (some ⟨B,0,none⟩)] (w.alloc (.cells #[.int .i64 0,.int .i64 0,.string ⟨#[]⟩,.slice none 0 0] 61)) (RRes B tv toks (parseJ f (.two (3+1)) (toks.drop p)) (w.alloc (.cells #[.int .i64 0,.int .i64 0,.string ⟨#[]⟩,.slice none 0 0] 61))) :=
  ih f Zs (3+1) B p toks tv _ (by omega) (h.keep hb0) (SlV.mono hT (But.below (pb:=B) hb0).gb) hE hl hy
 have HC:=Zq hC0
 have HP:=Zq (fun e r=>Zbe f (.two (3+1)) (toks.drop p) hE e r)
 have HZ:=Zq (heap_alloc_new w (.cells #[.int .i64 0,.int .i64 0,.string ⟨#[]⟩,.slice none 0 0] 61))
 have HB:=Zq (But.below (pb:=B) hb0)
 have hsz:w.heap.size<(w.alloc (.cells #[.int .i64 0,.int .i64 0,.string ⟨#[]⟩,.slice none 0 0] 61)).heap.size:=by simp
 generalize parseJ f (.two (3+1)) (toks.drop p)=y at *
 have HX:=Zq hX
 have HI:=Zq ih
 have HNE:=Zq hne
 clear h hT hE hne hb0 hX ih hy hC0
 go_in
 go_wp2_with fail
 refine HC.out.mono ?_
 clear HC
 generalize w.alloc (.cells #[.int .i64 0,.int .i64 0,.string ⟨#[]⟩,.slice none 0 0] 61)=W0 at *
 cases y with
 | out=>rintro e W3 ⟨-,h⟩; exact h.elim
 | bad q =>
  rintro e W3 ⟨hb3,⟨v,rfl,o,n,s0,a,l,c,rfl⟩,p',hx3⟩
  have hx:=HX.out
  simp only [PR.then] at hx
  subst hx
  have hz3:=(hb3.block _ hsz (by omega)).trans HZ.out
  have hsz3:w.heap.size<W3.heap.size:=(Array.getElem?_eq_some_iff.1 hz3).1
  have HBI:Hid (BadIn w.heap.size B W3.heap.size tv (W3.alloc (.cells #[.int .i64 o,.int .i64 n,.string ⟨s0.toArray⟩,.slice a l c] 61)) q):=Zq ⟨⟨p',hx3.alloc _⟩,(Lib.alloc_old W3 _ _ hsz3).trans hz3,⟨o,n,s0,a,l,c,heap_alloc_new W3 _⟩,hsz3,hpl⟩
  have HBW:=Zq ((HB.out.trans hb3).alloc (.cells #[.int .i64 o,.int .i64 n,.string ⟨s0.toArray⟩,.slice a l c] 61))
  clear hb3 hx3 hz3 hsz3 HX HB HZ hsz
  unfold exV strV
  go_wp2
  generalize W3.alloc (.cells #[.int .i64 o,.int .i64 n,.string ⟨s0.toArray⟩,.slice a l c] 61)=W4 at *
  generalize W3.heap.size=Ba at *
  go_loopg [] 0 (fun g wr=>Hid (BadIn w.heap.size B Ba tv wr q)∧Hid (But B w wr))
  case atStart=>exact ⟨HBI,HBW⟩
  case round =>
   obtain ⟨HBJ,HBX⟩:=hrel
   have hBI:=HBJ.out
   clear HBI HBW HBJ
   obtain ⟨pq,hxq⟩:=hBI.st
   obtain ⟨o,n,s0,a,l,c,hcq⟩:=hBI.c
   obtain ⟨⟨c0,c1,c2,c3⟩,-⟩:=ZdP hcq
   have hzq:=hBI.z
   unfold zeroE at hzq
   have HXQ:=Zq hxq
   clear hcq hBI hxq
   have HSQ:=Zq (Zme [43] B pq q tv _ HXQ.out)
   unfold strV at HSQ
   go_wp2_with fail
   refine HSQ.out.mono ?_
   rintro e VQ ⟨rfl,rfl⟩
   clear HSQ
   have HSQ:=Zq (Zme [45] B pq q tv _ HXQ.out)
   unfold strV at HSQ
   go_wp2_with fail
   refine HSQ.out.mono ?_
   rintro e VQ ⟨rfl,rfl⟩
   clear HSQ
   unfold strV at *
   obtain ⟨⟨g0,g1,g2,g3⟩,e0,e1,e2,e3⟩:=ZdP hzq
   have HZF:=Zq hzq
   go_wp2
   refine bodyPost_ret (v:=exV o n s0 (.slice a l c)) ?_ rfl ?_
   · have hh:=ZdP (ZdM HZF.out (.int .i64 o) (.int .i64 n) (.string ⟨s0.toArray⟩) (.slice a l c))
     simp [results,Tryz.results174,go_sem,exV,strV,hh.1]
   · exact Zl7 HBX.out hpl HXQ.out _ _ _ _
 | ok ex r =>
  rintro e W3 ⟨hb3,⟨v,rfl,kv,rfl,hK⟩,p',hd3,hx3⟩
  have hE3:=HP.out ex r rfl
  have HX2:Hid (parseJ f (.loop 3 ex) (toks.drop p')=X):=Zq (by have:=HX.out; simp only [PR.then] at this; rw [hd3]; exact this)
  have HE4:Hid (Ended (toks.drop p')):=Zq (by rw [hd3]; exact hE3.1)
  have hz3:=(hb3.block _ hsz (by omega)).trans HZ.out
  have hsz3:w.heap.size<W3.heap.size:=(Array.getElem?_eq_some_iff.1 hz3).1
  obtain ⟨ka,kc,rfl⟩:=hK.form
  have HB4:=Zq ((HB.out.trans hb3).alloc (.cells #[.int .i64 ex.op,.int .i64 ex.n,.string ⟨ex.s.toArray⟩,.slice ka ex.ks.length kc] 61))
  have HI4:Hid (OrIn w.heap.size B W3.heap.size tv toks (W3.alloc (.cells #[.int .i64 ex.op,.int .i64 ex.n,.string ⟨ex.s.toArray⟩,.slice ka ex.ks.length kc] 61)) p' ex (.slice ka ex.ks.length kc)):=Zq
   ⟨hx3.alloc _,Zl8 HTT.out HB4.out,(Lib.alloc_old W3 _ _ hsz3).trans hz3,heap_alloc_new _ _,hK.mono (ZdJ fun b hb hl=>⟨⟨by omega,by omega⟩,Lib.alloc_old _ _ _ hl⟩),hsz3,hpl⟩
  clear hb3 hx3 hz3 HX HP HB HZ hsz hd3 hE3 hK
  unfold exV strV
  go_wp2
  generalize W3.alloc (.cells #[.int .i64 ex.op,.int .i64 ex.n,.string ⟨ex.s.toArray⟩,.slice ka ex.ks.length kc] 61)=W4 at *
  generalize W3.heap.size=Ba at *
  go_loopg [] f (fun g wr=>(∃ (p':Nat) (ex:Ex) (kv:Value),Hid (OrIn w.heap.size B Ba tv toks wr p' ex kv)∧Hid (But B w wr)∧Hid (Ended (toks.drop p'))∧g≤f∧Hid (parseJ g (.loop 3 ex) (toks.drop p')=X))∨(∃ q,X = .bad q∧Hid (BadIn w.heap.size B Ba tv wr q)∧Hid (But B w wr)))
  case atStart=>exact .inl ⟨p',ex,_,HI4,HB4,HE4,Nat.le_refl _,HX2⟩
  case round =>
   rcases hrel with ⟨p',ex,kv,HIn,HBn,HEn,hg,HXn⟩|⟨q,rfl,HBJ,HBX⟩
   case inr =>
    have hBI:=HBJ.out
    clear HI4 HB4 HE4 HX2
    obtain ⟨pq,hxq⟩:=hBI.st
    obtain ⟨o,n,s0,a,l,c,hcq⟩:=hBI.c
    obtain ⟨⟨c0,c1,c2,c3⟩,-⟩:=ZdP hcq
    have hzq:=hBI.z
    unfold zeroE at hzq
    have HXQ:=Zq hxq
    clear hcq hBI hxq
    have HSQ:=Zq (Zme [43] B pq q tv _ HXQ.out)
    unfold strV at HSQ
    go_wp2_with fail
    refine HSQ.out.mono ?_
    rintro e VQ ⟨rfl,rfl⟩
    clear HSQ
    have HSQ:=Zq (Zme [45] B pq q tv _ HXQ.out)
    unfold strV at HSQ
    go_wp2_with fail
    refine HSQ.out.mono ?_
    rintro e VQ ⟨rfl,rfl⟩
    clear HSQ
    unfold strV at *
    obtain ⟨⟨g0,g1,g2,g3⟩,e0,e1,e2,e3⟩:=ZdP hzq
    have HZF:=Zq hzq
    go_wp2
    refine bodyPost_ret (v:=exV o n s0 (.slice a l c)) ?_ rfl ?_
    · have hh:=ZdP (ZdM HZF.out (.int .i64 o) (.int .i64 n) (.string ⟨s0.toArray⟩) (.slice a l c))
      simp [results,Tryz.results174,go_sem,exV,strV,hh.1]
    · exact Zl7 HBX.out hpl HXQ.out _ _ _ _
   case inl =>
   clear HI4 HB4 HE4 HX2
   cases gk with
   | zero=>exact absurd HXn.out.symm HNE.out
   | succ g =>
   have HAT:=Zq HEn.out.at
   obtain ⟨t,ht⟩:∃ t,hd (toks.drop p')=t:=⟨_,rfl⟩
   have HTE:=Zq ht
   rw [ht] at HAT
   cases hs0:isSg [43] t with
   | true =>
    have HX3:=HXn.out
    rw [ZmF (by omega) (ZmD (x:=(7,false)) (by rw [ht]; exact hs0) rfl),ZdR] at HX3
    have hEt:Ended (toks.drop (p'+1)):=by rw [←ZdR]; exact HEn.out.tail (by rw [ht]; have:=Zbb hs0; omega)
    have HXX:=Zq HX3
    clear HX3 HXn
    have HSY:=Zq (Zmd [43] B p' toks t tv _ HIn.out.st HIn.out.tokb HAT.out.1 hl hs0)
    unfold strV at HSY
    go_wp2_with fail
    refine HSY.out.mono ?_
    rintro e W2 ⟨rfl,hb,hx⟩
    have HJ:=Zq (HIn.out.but hb hx)
    have HBm:=Zq (HBn.out.trans hb)
    clear hb hx HSY ht hs0
    have hy:parseJ g (.two (3+1)) (toks.drop (p'+1)) ≠ .out:=fun h=>by have:=HXX.out; rw [h] at this; exact HNE.out this.symm
    have hC0:Calls Tryz.prog 187 #[.pointer (some ⟨B,0,none⟩)] W2 (RRes B tv toks (parseJ g (.two (3+1)) (toks.drop (p'+1))) W2):=HI.out g (by omega) (3+1) B (p'+1) toks tv W2 (by omega) HJ.out.st HJ.out.tokb hEt hl hy
    have HC:=Zq hC0
    have HP:=Zq (fun e r=>Zbe g (.two (3+1)) (toks.drop (p'+1)) hEt e r)
    clear hC0 hy hEt
    generalize parseJ g (.two (3+1)) (toks.drop (p'+1))=y at *
    go_wp2_with fail
    refine HC.out.mono ?_
    clear HC
    have hltB:=HJ.out.lt
    have hszA:Ba<W2.heap.size:=(Array.getElem?_eq_some_iff.1 HJ.out.c).1
    cases y with
    | out=>exact absurd HXX.out.symm HNE.out
    | bad q =>
     rintro e W3 ⟨hb3,⟨v,rfl,o,n,s0,a,l,c,rfl⟩,pq,hx3⟩
     have hx:=HXX.out
     simp only [PR.then] at hx
     subst hx
     have hs3:=hb3.size
     have hz3:=(hb3.block _ (by omega) (by omega)).trans HJ.out.z
     have hc3:=(hb3.block _ hszA (by omega)).trans HJ.out.c
     have HBI:=Zq ((HBm.out.trans hb3).alloc (.cells #[.int .i64 o,.int .i64 n,.string ⟨s0.toArray⟩,.slice a l c] 61))
     have HX4:=Zq (hx3.alloc (.cells #[.int .i64 o,.int .i64 n,.string ⟨s0.toArray⟩,.slice a l c] 61))
     have hz4:=(Lib.alloc_old W3 (.cells #[.int .i64 o,.int .i64 n,.string ⟨s0.toArray⟩,.slice a l c] 61) _ (by omega)).trans hz3
     have hc4:=(Lib.alloc_old W3 (.cells #[.int .i64 o,.int .i64 n,.string ⟨s0.toArray⟩,.slice a l c] 61) _ (by omega)).trans hc3
     have hd4:=heap_alloc_new W3 (.cells #[.int .i64 o,.int .i64 n,.string ⟨s0.toArray⟩,.slice a l c] 61)
     obtain ⟨ua,uc,hkv⟩:=HJ.out.k.form
     subst hkv
     clear hb3 hx3 hz3 hc3
     unfold exV strV
     go_upto_region 5 with fail
     generalize W3.alloc (.cells #[.int .i64 o,.int .i64 n,.string ⟨s0.toArray⟩,.slice a l c] 61)=W4 at *
     obtain ⟨⟨c0,c1,c2,c3⟩,-⟩:=ZdP hc4
     obtain ⟨⟨d0,d1,d2,d3⟩,-⟩:=ZdP hd4
     have hs4:Ba<W4.heap.size:=(Array.getElem?_eq_some_iff.1 hc4).1
     have hs5:w.heap.size<W4.heap.size:=(Array.getElem?_eq_some_iff.1 hz4).1
     have HTW:=Zq (Zmb 7 ex.op ex.n o n ex.s s0 (.slice ua ex.ks.length uc) (.slice a l c) W4)
     unfold exV strV at HTW
     go_wp2_with fail
     refine HTW.out.mono ?_
     rintro e W5 ⟨gb,rfl,hb5,hg5,hr5⟩
     have hz5:=(hb5.block _ hs5).trans hz4
     have hc5:=(hb5.block _ hs4).trans hc4
     have HX5:=Zq (HX4.out.keep hb5)
     have HB5:=Zq (HBI.out.call hb5)
     have HZ5:=Zq hz5
     have HC5:=Zq hc5
     obtain ⟨⟨g0,g1,g2,g3⟩,e0,e1,e2,e3⟩:=ZdP hc5
     clear hb5 hr5 hz5 hc5 hz4 hc4 hd4 c0 c1 c2 c3 d0 d1 d2 d3 HTW HBI HX4
     go_wp2
     go_roundg g
     case rel=>exact .inr ⟨q,rfl,Zq ⟨⟨pq,HX5.out.set4 (by omega) _ _ _ _⟩,(ZdN (by omega) _ _ _ _).trans HZ5.out,⟨_,_,[],_,_,_,ZdM HC5.out _ _ _ _⟩,hltB,hpl⟩,Zq (HB5.out.set4 (by omega) _ _ _ _)⟩
     case measure=>omega
    | ok e2 r2 =>
     rintro e W3 ⟨hb3,⟨v,rfl,kv2,rfl,hK⟩,p4,hd3,hx3⟩
     obtain ⟨kb,kd,rfl⟩:=hK.form
     have hx:=HXX.out
     simp only [PR.then] at hx
     have hs3:=hb3.size
     have HJ3:=Zq ((HJ.out.but hb3 hx3).keep ((Below.refl _ _).alloc Zs (.cells #[.int .i64 e2.op,.int .i64 e2.n,.string ⟨e2.s.toArray⟩,.slice kb e2.ks.length kd] 61)))
     have HBI:=Zq ((HBm.out.trans hb3).alloc (.cells #[.int .i64 e2.op,.int .i64 e2.n,.string ⟨e2.s.toArray⟩,.slice kb e2.ks.length kd] 61))
     have HK3:Hid (KV (gp (fun b=>w.heap.size<b∧b≠Ba) (W3.alloc (.cells #[.int .i64 e2.op,.int .i64 e2.n,.string ⟨e2.s.toArray⟩,.slice kb e2.ks.length kd] 61))) (.slice kb e2.ks.length kd) e2.ks):=Zq (hK.mono (ZdJ fun b hb hl=>⟨⟨by omega,by omega⟩,Lib.alloc_old _ _ _ hl⟩))
     have hd4:=heap_alloc_new W3 (.cells #[.int .i64 e2.op,.int .i64 e2.n,.string ⟨e2.s.toArray⟩,.slice kb e2.ks.length kd] 61)
     have HX5:=Zq hx
     rw [←hd3] at HX5
     have HE5:Hid (Ended (toks.drop p4)):=Zq (by rw [hd3]; exact (HP.out e2 r2 rfl).1)
     obtain ⟨ua,uc,hkv⟩:=HJ.out.k.form
     subst hkv
     clear hb3 hx3 hK hx hd3 HP
     unfold exV strV
     go_upto_region 5 with fail
     generalize W3.alloc (.cells #[.int .i64 e2.op,.int .i64 e2.n,.string ⟨e2.s.toArray⟩,.slice kb e2.ks.length kd] 61)=W4 at *
     obtain ⟨⟨c0,c1,c2,c3⟩,-⟩:=ZdP HJ3.out.c
     obtain ⟨⟨d0,d1,d2,d3⟩,-⟩:=ZdP hd4
     have hs4:Ba<W4.heap.size:=(Array.getElem?_eq_some_iff.1 HJ3.out.c).1
     have HTW:=Zq (Zmb 7 ex.op ex.n e2.op e2.n ex.s e2.s (.slice ua ex.ks.length uc) (.slice kb e2.ks.length kd) W4)
     unfold exV strV at HTW
     unfold strV at c2
     go_wp2_with fail
     refine HTW.out.mono ?_
     rintro e W5 ⟨gb,rfl,hb5,hg5,hr5⟩
     have HJ5:=Zq (HJ3.out.keep hb5)
     have HK5:Hid (KV (gp (fun b=>w.heap.size<b∧b≠Ba) W5) (.slice (some ⟨gb,0,none⟩) 2 2) [ex,e2]):=Zq (KV.two (a:=ex) (c:=e2) (u := .slice ua ex.ks.length uc) (v := .slice kb e2.ks.length kd) (T:=61) (by unfold gp; rw [if_pos ⟨by omega,by omega⟩]; exact hr5)
      (HJ3.out.k.mono (ZdJ fun b hb hl=>⟨hb,hb5.block _ hl⟩)) (HK3.out.mono (ZdJ fun b hb hl=>⟨hb,hb5.block _ hl⟩)))
     have HB5:=Zq (HBI.out.call hb5)
     obtain ⟨⟨g0,g1,g2,g3⟩,e0,e1,e2',e3⟩:=ZdP HJ5.out.c
     clear hb5 hr5 hd4 c0 c1 c2 c3 d0 d1 d2 d3 HTW HBI HJ3 HK3
     unfold strV at g2
     go_wp2
     go_roundg g
     case rel=>exact .inl ⟨p4,_,_,Zq (HJ5.out.set HK5.out 7),Zq (HB5.out.set4 (by omega) _ _ _ _),HE5,by omega,HX5⟩
     case measure=>omega
   | false =>
   cases hs1:isSg [45] t with
   | true =>
    have HX3:=HXn.out
    rw [ZmF (by omega) (ZmD (x:=(8,false)) (by rw [ht]; exact hs1) rfl),ZdR] at HX3
    have hEt:Ended (toks.drop (p'+1)):=by rw [←ZdR]; exact HEn.out.tail (by rw [ht]; have:=Zbb hs1; omega)
    have HXX:=Zq HX3
    clear HX3 HXn
    have HS0:=Zq (Zmc [43] B p' toks t tv _ HIn.out.st HIn.out.tokb HAT.out.1 hl hs0)
    unfold strV at HS0
    go_wp2_with fail
    refine HS0.out.mono ?_
    rintro e V0 ⟨rfl,hb⟩
    have HJ0:=Zq (HIn.out.keep hb)
    have HBn:=Zq (HBn.out.call hb)
    clear hb HS0
    have HSY:=Zq (Zmd [45] B p' toks t tv _ HJ0.out.st HJ0.out.tokb HAT.out.1 hl hs1)
    unfold strV at HSY
    go_wp2_with fail
    refine HSY.out.mono ?_
    rintro e W2 ⟨rfl,hb,hx⟩
    have HJ:=Zq (HJ0.out.but hb hx)
    have HBm:=Zq (HBn.out.trans hb)
    clear hb hx HSY ht hs0 hs1
    have hy:parseJ g (.two (3+1)) (toks.drop (p'+1)) ≠ .out:=fun h=>by have:=HXX.out; rw [h] at this; exact HNE.out this.symm
    have hC0:Calls Tryz.prog 187 #[.pointer (some ⟨B,0,none⟩)] W2 (RRes B tv toks (parseJ g (.two (3+1)) (toks.drop (p'+1))) W2):=HI.out g (by omega) (3+1) B (p'+1) toks tv W2 (by omega) HJ.out.st HJ.out.tokb hEt hl hy
    have HC:=Zq hC0
    have HP:=Zq (fun e r=>Zbe g (.two (3+1)) (toks.drop (p'+1)) hEt e r)
    clear hC0 hy hEt
    generalize parseJ g (.two (3+1)) (toks.drop (p'+1))=y at *
    go_wp2_with fail
    refine HC.out.mono ?_
    clear HC
    have hltB:=HJ.out.lt
    have hszA:Ba<W2.heap.size:=(Array.getElem?_eq_some_iff.1 HJ.out.c).1
    cases y with
    | out=>exact absurd HXX.out.symm HNE.out
    | bad q =>
     rintro e W3 ⟨hb3,⟨v,rfl,o,n,s0,a,l,c,rfl⟩,pq,hx3⟩
     have hx:=HXX.out
     simp only [PR.then] at hx
     subst hx
     have hs3:=hb3.size
     have hz3:=(hb3.block _ (by omega) (by omega)).trans HJ.out.z
     have hc3:=(hb3.block _ hszA (by omega)).trans HJ.out.c
     have HBI:=Zq ((HBm.out.trans hb3).alloc (.cells #[.int .i64 o,.int .i64 n,.string ⟨s0.toArray⟩,.slice a l c] 61))
     have HX4:=Zq (hx3.alloc (.cells #[.int .i64 o,.int .i64 n,.string ⟨s0.toArray⟩,.slice a l c] 61))
     have hz4:=(Lib.alloc_old W3 (.cells #[.int .i64 o,.int .i64 n,.string ⟨s0.toArray⟩,.slice a l c] 61) _ (by omega)).trans hz3
     have hc4:=(Lib.alloc_old W3 (.cells #[.int .i64 o,.int .i64 n,.string ⟨s0.toArray⟩,.slice a l c] 61) _ (by omega)).trans hc3
     have hd4:=heap_alloc_new W3 (.cells #[.int .i64 o,.int .i64 n,.string ⟨s0.toArray⟩,.slice a l c] 61)
     obtain ⟨ua,uc,hkv⟩:=HJ.out.k.form
     subst hkv
     clear hb3 hx3 hz3 hc3
     unfold exV strV
     go_upto_region 8 with fail
     generalize W3.alloc (.cells #[.int .i64 o,.int .i64 n,.string ⟨s0.toArray⟩,.slice a l c] 61)=W4 at *
     obtain ⟨⟨c0,c1,c2,c3⟩,-⟩:=ZdP hc4
     obtain ⟨⟨d0,d1,d2,d3⟩,-⟩:=ZdP hd4
     have hs4:Ba<W4.heap.size:=(Array.getElem?_eq_some_iff.1 hc4).1
     have hs5:w.heap.size<W4.heap.size:=(Array.getElem?_eq_some_iff.1 hz4).1
     have HTW:=Zq (Zmb 8 ex.op ex.n o n ex.s s0 (.slice ua ex.ks.length uc) (.slice a l c) W4)
     unfold exV strV at HTW
     go_wp2_with fail
     refine HTW.out.mono ?_
     rintro e W5 ⟨gb,rfl,hb5,hg5,hr5⟩
     have hz5:=(hb5.block _ hs5).trans hz4
     have hc5:=(hb5.block _ hs4).trans hc4
     have HX5:=Zq (HX4.out.keep hb5)
     have HB5:=Zq (HBI.out.call hb5)
     have HZ5:=Zq hz5
     have HC5:=Zq hc5
     obtain ⟨⟨g0,g1,g2,g3⟩,e0,e1,e2,e3⟩:=ZdP hc5
     clear hb5 hr5 hz5 hc5 hz4 hc4 hd4 c0 c1 c2 c3 d0 d1 d2 d3 HTW HBI HX4
     go_wp2
     go_roundg g
     case rel=>exact .inr ⟨q,rfl,Zq ⟨⟨pq,HX5.out.set4 (by omega) _ _ _ _⟩,(ZdN (by omega) _ _ _ _).trans HZ5.out,⟨_,_,[],_,_,_,ZdM HC5.out _ _ _ _⟩,hltB,hpl⟩,Zq (HB5.out.set4 (by omega) _ _ _ _)⟩
     case measure=>omega
    | ok e2 r2 =>
     rintro e W3 ⟨hb3,⟨v,rfl,kv2,rfl,hK⟩,p4,hd3,hx3⟩
     obtain ⟨kb,kd,rfl⟩:=hK.form
     have hx:=HXX.out
     simp only [PR.then] at hx
     have hs3:=hb3.size
     have HJ3:=Zq ((HJ.out.but hb3 hx3).keep ((Below.refl _ _).alloc Zs (.cells #[.int .i64 e2.op,.int .i64 e2.n,.string ⟨e2.s.toArray⟩,.slice kb e2.ks.length kd] 61)))
     have HBI:=Zq ((HBm.out.trans hb3).alloc (.cells #[.int .i64 e2.op,.int .i64 e2.n,.string ⟨e2.s.toArray⟩,.slice kb e2.ks.length kd] 61))
     have HK3:Hid (KV (gp (fun b=>w.heap.size<b∧b≠Ba) (W3.alloc (.cells #[.int .i64 e2.op,.int .i64 e2.n,.string ⟨e2.s.toArray⟩,.slice kb e2.ks.length kd] 61))) (.slice kb e2.ks.length kd) e2.ks):=Zq (hK.mono (ZdJ fun b hb hl=>⟨⟨by omega,by omega⟩,Lib.alloc_old _ _ _ hl⟩))
     have hd4:=heap_alloc_new W3 (.cells #[.int .i64 e2.op,.int .i64 e2.n,.string ⟨e2.s.toArray⟩,.slice kb e2.ks.length kd] 61)
     have HX5:=Zq hx
     rw [←hd3] at HX5
     have HE5:Hid (Ended (toks.drop p4)):=Zq (by rw [hd3]; exact (HP.out e2 r2 rfl).1)
     obtain ⟨ua,uc,hkv⟩:=HJ.out.k.form
     subst hkv
     clear hb3 hx3 hK hx hd3 HP
     unfold exV strV
     go_upto_region 8 with fail
     generalize W3.alloc (.cells #[.int .i64 e2.op,.int .i64 e2.n,.string ⟨e2.s.toArray⟩,.slice kb e2.ks.length kd] 61)=W4 at *
     obtain ⟨⟨c0,c1,c2,c3⟩,-⟩:=ZdP HJ3.out.c
     obtain ⟨⟨d0,d1,d2,d3⟩,-⟩:=ZdP hd4
     have hs4:Ba<W4.heap.size:=(Array.getElem?_eq_some_iff.1 HJ3.out.c).1
     have HTW:=Zq (Zmb 8 ex.op ex.n e2.op e2.n ex.s e2.s (.slice ua ex.ks.length uc) (.slice kb e2.ks.length kd) W4)
     unfold exV strV at HTW
     unfold strV at c2
     go_wp2_with fail
     refine HTW.out.mono ?_
     rintro e W5 ⟨gb,rfl,hb5,hg5,hr5⟩
     have HJ5:=Zq (HJ3.out.keep hb5)
     have HK5:Hid (KV (gp (fun b=>w.heap.size<b∧b≠Ba) W5) (.slice (some ⟨gb,0,none⟩) 2 2) [ex,e2]):=Zq (KV.two (a:=ex) (c:=e2) (u := .slice ua ex.ks.length uc) (v := .slice kb e2.ks.length kd) (T:=61) (by unfold gp; rw [if_pos ⟨by omega,by omega⟩]; exact hr5)
      (HJ3.out.k.mono (ZdJ fun b hb hl=>⟨hb,hb5.block _ hl⟩)) (HK3.out.mono (ZdJ fun b hb hl=>⟨hb,hb5.block _ hl⟩)))
     have HB5:=Zq (HBI.out.call hb5)
     obtain ⟨⟨g0,g1,g2,g3⟩,e0,e1,e2',e3⟩:=ZdP HJ5.out.c
     clear hb5 hr5 hd4 c0 c1 c2 c3 d0 d1 d2 d3 HTW HBI HJ3 HK3
     unfold strV at g2
     go_wp2
     go_roundg g
     case rel=>exact .inl ⟨p4,_,_,Zq (HJ5.out.set HK5.out 8),Zq (HB5.out.set4 (by omega) _ _ _ _),HE5,by omega,HX5⟩
     case measure=>omega
   | false =>
   have hx:=HXn.out
   rw [ZmE (ZmJ (by rw [ht]; exact hs0) (by rw [ht]; exact hs1))] at hx
   subst hx
   have HS0:=Zq (Zmc [43] B p' toks t tv _ HIn.out.st HIn.out.tokb HAT.out.1 hl hs0)
   unfold strV at HS0
   go_wp2_with fail
   refine HS0.out.mono ?_
   rintro e V0 ⟨rfl,hb⟩
   have HJ0:=Zq (HIn.out.keep hb)
   have HBn:=Zq (HBn.out.call hb)
   clear hb HS0
   have HS1:=Zq (Zmc [45] B p' toks t tv _ HJ0.out.st HJ0.out.tokb HAT.out.1 hl hs1)
   unfold strV at HS1
   go_wp2_with fail
   refine HS1.out.mono ?_
   rintro e V1 ⟨rfl,hb⟩
   have HJ1:=Zq (HJ0.out.keep hb)
   have HBn:=Zq (HBn.out.call hb)
   clear hb HS1
   have HK:=Zq HJ1.out.k
   obtain ⟨ka,kc,hkv⟩:=HJ1.out.k.form
   subst hkv
   obtain ⟨⟨c0,c1,c2,c3⟩,-⟩:=ZdP HJ1.out.c
   have HXQ:=Zq HJ1.out.st
   have hzq:=HJ1.out.z
   unfold zeroE at hzq
   unfold strV at c2
   clear HXn
   obtain ⟨⟨g0,g1,g2,g3⟩,e0,e1,e2,e3⟩:=ZdP hzq
   have HZF:=Zq hzq
   go_wp2
   refine bodyPost_ret (v:=exV ex.op ex.n ex.s (.slice ka ex.ks.length kc)) ?_ rfl ?_
   · have hh:=ZdP (ZdM HZF.out (.int .i64 ex.op) (.int .i64 ex.n) (.string ⟨ex.s.toArray⟩) (.slice ka ex.ks.length kc))
     simp [results,Tryz.results174,go_sem,exV,strV,hh.1]
   · rw [Ex.eta ex]
     exact Zl6 HBn.out hpl (HK.out.mono (ZdJ fun b hb _=>⟨hb.1,rfl⟩)) HXQ.out rfl _ _ _ _
theorem ZmO (f:Nat) (B p:Nat) (toks:List Tok) (tv:Value) (w:World) (h:XS w B tv p (-1)) (hT:TokV (gb B w) tv toks) (hE:Ended (toks.drop p)) (hl:toks.length≤1000) (X:PR) (hX:parseJ (f+1) (.two 4) (toks.drop p)=X) (hne:X ≠ .out) (ih:∀ g,g≤f→LvOK g) :
 Calls Tryz.prog 187 #[.pointer (some ⟨B,0,none⟩)] w (RRes B tv toks X w):=by
 unfold parseJ at hX
 rw [if_neg (by omega)] at hX
 have hpl:=h.cells.2.2.2.2.2
 have hb0:=(Below.refl w.heap.size w).alloc Zs (.cells #[.int .i64 0,.int .i64 0,.string ⟨#[]⟩,.slice none 0 0] 61)
 have HT0:Hid (∀ W,But B w W→TokV (gb B W) tv toks):=Zq (fun W hb=>SlV.mono hT hb.gb)
 have HTT:=Zq hT
 have hy:parseJ f (.two (4+1)) (toks.drop p) ≠ .out:=fun h=>by rw [h] at hX; exact hne hX.symm
 have hC0:Calls Tryz.prog 192 #[.pointer (some ⟨B,0,none⟩)] (w.alloc (.cells #[.int .i64 0,.int .i64 0,.string ⟨#[]⟩,.slice none 0 0] 61)) (RRes B tv toks (parseJ f (.two (4+1)) (toks.drop p)) (w.alloc (.cells #[.int .i64 0,.int .i64 0,.string ⟨#[]⟩,.slice none 0 0] 61))) :=
  ih f Zs (4+1) B p toks tv _ (by omega) (h.keep hb0) (SlV.mono hT (But.below (pb:=B) hb0).gb) hE hl hy
 have HC:=Zq hC0
 have HP:=Zq (fun e r=>Zbe f (.two (4+1)) (toks.drop p) hE e r)
 have HZ:=Zq (heap_alloc_new w (.cells #[.int .i64 0,.int .i64 0,.string ⟨#[]⟩,.slice none 0 0] 61))
 have HB:=Zq (But.below (pb:=B) hb0)
 have hsz:w.heap.size<(w.alloc (.cells #[.int .i64 0,.int .i64 0,.string ⟨#[]⟩,.slice none 0 0] 61)).heap.size:=by simp
 generalize parseJ f (.two (4+1)) (toks.drop p)=y at *
 have HX:=Zq hX
 have HI:=Zq ih
 have HNE:=Zq hne
 clear h hT hE hne hb0 hX ih hy hC0
 go_in
 go_wp2_with fail
 refine HC.out.mono ?_
 clear HC
 generalize w.alloc (.cells #[.int .i64 0,.int .i64 0,.string ⟨#[]⟩,.slice none 0 0] 61)=W0 at *
 cases y with
 | out=>rintro e W3 ⟨-,h⟩; exact h.elim
 | bad q =>
  rintro e W3 ⟨hb3,⟨v,rfl,o,n,s0,a,l,c,rfl⟩,p',hx3⟩
  have hx:=HX.out
  simp only [PR.then] at hx
  subst hx
  have hz3:=(hb3.block _ hsz (by omega)).trans HZ.out
  have hsz3:w.heap.size<W3.heap.size:=(Array.getElem?_eq_some_iff.1 hz3).1
  have HBI:Hid (BadIn w.heap.size B W3.heap.size tv (W3.alloc (.cells #[.int .i64 o,.int .i64 n,.string ⟨s0.toArray⟩,.slice a l c] 61)) q):=Zq ⟨⟨p',hx3.alloc _⟩,(Lib.alloc_old W3 _ _ hsz3).trans hz3,⟨o,n,s0,a,l,c,heap_alloc_new W3 _⟩,hsz3,hpl⟩
  have HBW:=Zq ((HB.out.trans hb3).alloc (.cells #[.int .i64 o,.int .i64 n,.string ⟨s0.toArray⟩,.slice a l c] 61))
  clear hb3 hx3 hz3 hsz3 HX HB HZ hsz
  unfold exV strV
  go_wp2
  generalize W3.alloc (.cells #[.int .i64 o,.int .i64 n,.string ⟨s0.toArray⟩,.slice a l c] 61)=W4 at *
  generalize W3.heap.size=Ba at *
  go_loopg [] 0 (fun g wr=>Hid (BadIn w.heap.size B Ba tv wr q)∧Hid (But B w wr))
  case atStart=>exact ⟨HBI,HBW⟩
  case round =>
   obtain ⟨HBJ,HBX⟩:=hrel
   have hBI:=HBJ.out
   clear HBI HBW HBJ
   obtain ⟨pq,hxq⟩:=hBI.st
   obtain ⟨o,n,s0,a,l,c,hcq⟩:=hBI.c
   obtain ⟨⟨c0,c1,c2,c3⟩,-⟩:=ZdP hcq
   have hzq:=hBI.z
   unfold zeroE at hzq
   have HXQ:=Zq hxq
   clear hcq hBI hxq
   have HSQ:=Zq (Zme [42] B pq q tv _ HXQ.out)
   unfold strV at HSQ
   go_wp2_with fail
   refine HSQ.out.mono ?_
   rintro e VQ ⟨rfl,rfl⟩
   clear HSQ
   have HSQ:=Zq (Zme [47] B pq q tv _ HXQ.out)
   unfold strV at HSQ
   go_wp2_with fail
   refine HSQ.out.mono ?_
   rintro e VQ ⟨rfl,rfl⟩
   clear HSQ
   have HSQ:=Zq (Zme [37] B pq q tv _ HXQ.out)
   unfold strV at HSQ
   go_wp2_with fail
   refine HSQ.out.mono ?_
   rintro e VQ ⟨rfl,rfl⟩
   clear HSQ
   unfold strV at *
   obtain ⟨⟨g0,g1,g2,g3⟩,e0,e1,e2,e3⟩:=ZdP hzq
   have HZF:=Zq hzq
   go_wp2
   refine bodyPost_ret (v:=exV o n s0 (.slice a l c)) ?_ rfl ?_
   · have hh:=ZdP (ZdM HZF.out (.int .i64 o) (.int .i64 n) (.string ⟨s0.toArray⟩) (.slice a l c))
     simp [results,Tryz.results187,go_sem,exV,strV,hh.1]
   · exact Zl7 HBX.out hpl HXQ.out _ _ _ _
 | ok ex r =>
  rintro e W3 ⟨hb3,⟨v,rfl,kv,rfl,hK⟩,p',hd3,hx3⟩
  have hE3:=HP.out ex r rfl
  have HX2:Hid (parseJ f (.loop 4 ex) (toks.drop p')=X):=Zq (by have:=HX.out; simp only [PR.then] at this; rw [hd3]; exact this)
  have HE4:Hid (Ended (toks.drop p')):=Zq (by rw [hd3]; exact hE3.1)
  have hz3:=(hb3.block _ hsz (by omega)).trans HZ.out
  have hsz3:w.heap.size<W3.heap.size:=(Array.getElem?_eq_some_iff.1 hz3).1
  obtain ⟨ka,kc,rfl⟩:=hK.form
  have HB4:=Zq ((HB.out.trans hb3).alloc (.cells #[.int .i64 ex.op,.int .i64 ex.n,.string ⟨ex.s.toArray⟩,.slice ka ex.ks.length kc] 61))
  have HI4:Hid (OrIn w.heap.size B W3.heap.size tv toks (W3.alloc (.cells #[.int .i64 ex.op,.int .i64 ex.n,.string ⟨ex.s.toArray⟩,.slice ka ex.ks.length kc] 61)) p' ex (.slice ka ex.ks.length kc)):=Zq
   ⟨hx3.alloc _,Zl8 HTT.out HB4.out,(Lib.alloc_old W3 _ _ hsz3).trans hz3,heap_alloc_new _ _,hK.mono (ZdJ fun b hb hl=>⟨⟨by omega,by omega⟩,Lib.alloc_old _ _ _ hl⟩),hsz3,hpl⟩
  clear hb3 hx3 hz3 HX HP HB HZ hsz hd3 hE3 hK
  unfold exV strV
  go_wp2
  generalize W3.alloc (.cells #[.int .i64 ex.op,.int .i64 ex.n,.string ⟨ex.s.toArray⟩,.slice ka ex.ks.length kc] 61)=W4 at *
  generalize W3.heap.size=Ba at *
  go_loopg [] f (fun g wr=>(∃ (p':Nat) (ex:Ex) (kv:Value),Hid (OrIn w.heap.size B Ba tv toks wr p' ex kv)∧Hid (But B w wr)∧Hid (Ended (toks.drop p'))∧g≤f∧Hid (parseJ g (.loop 4 ex) (toks.drop p')=X))∨(∃ q,X = .bad q∧Hid (BadIn w.heap.size B Ba tv wr q)∧Hid (But B w wr)))
  case atStart=>exact .inl ⟨p',ex,_,HI4,HB4,HE4,Nat.le_refl _,HX2⟩
  case round =>
   rcases hrel with ⟨p',ex,kv,HIn,HBn,HEn,hg,HXn⟩|⟨q,rfl,HBJ,HBX⟩
   case inr =>
    have hBI:=HBJ.out
    clear HI4 HB4 HE4 HX2
    obtain ⟨pq,hxq⟩:=hBI.st
    obtain ⟨o,n,s0,a,l,c,hcq⟩:=hBI.c
    obtain ⟨⟨c0,c1,c2,c3⟩,-⟩:=ZdP hcq
    have hzq:=hBI.z
    unfold zeroE at hzq
    have HXQ:=Zq hxq
    clear hcq hBI hxq
    have HSQ:=Zq (Zme [42] B pq q tv _ HXQ.out)
    unfold strV at HSQ
    go_wp2_with fail
    refine HSQ.out.mono ?_
    rintro e VQ ⟨rfl,rfl⟩
    clear HSQ
    have HSQ:=Zq (Zme [47] B pq q tv _ HXQ.out)
    unfold strV at HSQ
    go_wp2_with fail
    refine HSQ.out.mono ?_
    rintro e VQ ⟨rfl,rfl⟩
    clear HSQ
    have HSQ:=Zq (Zme [37] B pq q tv _ HXQ.out)
    unfold strV at HSQ
    go_wp2_with fail
    refine HSQ.out.mono ?_
    rintro e VQ ⟨rfl,rfl⟩
    clear HSQ
    unfold strV at *
    obtain ⟨⟨g0,g1,g2,g3⟩,e0,e1,e2,e3⟩:=ZdP hzq
    have HZF:=Zq hzq
    go_wp2
    refine bodyPost_ret (v:=exV o n s0 (.slice a l c)) ?_ rfl ?_
    · have hh:=ZdP (ZdM HZF.out (.int .i64 o) (.int .i64 n) (.string ⟨s0.toArray⟩) (.slice a l c))
      simp [results,Tryz.results187,go_sem,exV,strV,hh.1]
    · exact Zl7 HBX.out hpl HXQ.out _ _ _ _
   case inl =>
   clear HI4 HB4 HE4 HX2
   cases gk with
   | zero=>exact absurd HXn.out.symm HNE.out
   | succ g =>
   have HAT:=Zq HEn.out.at
   obtain ⟨t,ht⟩:∃ t,hd (toks.drop p')=t:=⟨_,rfl⟩
   have HTE:=Zq ht
   rw [ht] at HAT
   cases hs0:isSg [42] t with
   | true =>
    have HX3:=HXn.out
    rw [ZmF (by omega) (ZmD (x:=(9,false)) (by rw [ht]; exact hs0) rfl),ZdR] at HX3
    have hEt:Ended (toks.drop (p'+1)):=by rw [←ZdR]; exact HEn.out.tail (by rw [ht]; have:=Zbb hs0; omega)
    have HXX:=Zq HX3
    clear HX3 HXn
    have HSY:=Zq (Zmd [42] B p' toks t tv _ HIn.out.st HIn.out.tokb HAT.out.1 hl hs0)
    unfold strV at HSY
    go_wp2_with fail
    refine HSY.out.mono ?_
    rintro e W2 ⟨rfl,hb,hx⟩
    have HJ:=Zq (HIn.out.but hb hx)
    have HBm:=Zq (HBn.out.trans hb)
    clear hb hx HSY ht hs0
    have hy:parseJ g (.two (4+1)) (toks.drop (p'+1)) ≠ .out:=fun h=>by have:=HXX.out; rw [h] at this; exact HNE.out this.symm
    have hC0:Calls Tryz.prog 192 #[.pointer (some ⟨B,0,none⟩)] W2 (RRes B tv toks (parseJ g (.two (4+1)) (toks.drop (p'+1))) W2):=HI.out g (by omega) (4+1) B (p'+1) toks tv W2 (by omega) HJ.out.st HJ.out.tokb hEt hl hy
    have HC:=Zq hC0
    have HP:=Zq (fun e r=>Zbe g (.two (4+1)) (toks.drop (p'+1)) hEt e r)
    clear hC0 hy hEt
    generalize parseJ g (.two (4+1)) (toks.drop (p'+1))=y at *
    go_wp2_with fail
    refine HC.out.mono ?_
    clear HC
    have hltB:=HJ.out.lt
    have hszA:Ba<W2.heap.size:=(Array.getElem?_eq_some_iff.1 HJ.out.c).1
    cases y with
    | out=>exact absurd HXX.out.symm HNE.out
    | bad q =>
     rintro e W3 ⟨hb3,⟨v,rfl,o,n,s0,a,l,c,rfl⟩,pq,hx3⟩
     have hx:=HXX.out
     simp only [PR.then] at hx
     subst hx
     have hs3:=hb3.size
     have hz3:=(hb3.block _ (by omega) (by omega)).trans HJ.out.z
     have hc3:=(hb3.block _ hszA (by omega)).trans HJ.out.c
     have HBI:=Zq ((HBm.out.trans hb3).alloc (.cells #[.int .i64 o,.int .i64 n,.string ⟨s0.toArray⟩,.slice a l c] 61))
     have HX4:=Zq (hx3.alloc (.cells #[.int .i64 o,.int .i64 n,.string ⟨s0.toArray⟩,.slice a l c] 61))
     have hz4:=(Lib.alloc_old W3 (.cells #[.int .i64 o,.int .i64 n,.string ⟨s0.toArray⟩,.slice a l c] 61) _ (by omega)).trans hz3
     have hc4:=(Lib.alloc_old W3 (.cells #[.int .i64 o,.int .i64 n,.string ⟨s0.toArray⟩,.slice a l c] 61) _ (by omega)).trans hc3
     have hd4:=heap_alloc_new W3 (.cells #[.int .i64 o,.int .i64 n,.string ⟨s0.toArray⟩,.slice a l c] 61)
     obtain ⟨ua,uc,hkv⟩:=HJ.out.k.form
     subst hkv
     clear hb3 hx3 hz3 hc3
     unfold exV strV
     go_upto_region 5 with fail
     generalize W3.alloc (.cells #[.int .i64 o,.int .i64 n,.string ⟨s0.toArray⟩,.slice a l c] 61)=W4 at *
     obtain ⟨⟨c0,c1,c2,c3⟩,-⟩:=ZdP hc4
     obtain ⟨⟨d0,d1,d2,d3⟩,-⟩:=ZdP hd4
     have hs4:Ba<W4.heap.size:=(Array.getElem?_eq_some_iff.1 hc4).1
     have hs5:w.heap.size<W4.heap.size:=(Array.getElem?_eq_some_iff.1 hz4).1
     have HTW:=Zq (Zmb 9 ex.op ex.n o n ex.s s0 (.slice ua ex.ks.length uc) (.slice a l c) W4)
     unfold exV strV at HTW
     go_wp2_with fail
     refine HTW.out.mono ?_
     rintro e W5 ⟨gb,rfl,hb5,hg5,hr5⟩
     have hz5:=(hb5.block _ hs5).trans hz4
     have hc5:=(hb5.block _ hs4).trans hc4
     have HX5:=Zq (HX4.out.keep hb5)
     have HB5:=Zq (HBI.out.call hb5)
     have HZ5:=Zq hz5
     have HC5:=Zq hc5
     obtain ⟨⟨g0,g1,g2,g3⟩,e0,e1,e2,e3⟩:=ZdP hc5
     clear hb5 hr5 hz5 hc5 hz4 hc4 hd4 c0 c1 c2 c3 d0 d1 d2 d3 HTW HBI HX4
     go_wp2
     go_roundg g
     case rel=>exact .inr ⟨q,rfl,Zq ⟨⟨pq,HX5.out.set4 (by omega) _ _ _ _⟩,(ZdN (by omega) _ _ _ _).trans HZ5.out,⟨_,_,[],_,_,_,ZdM HC5.out _ _ _ _⟩,hltB,hpl⟩,Zq (HB5.out.set4 (by omega) _ _ _ _)⟩
     case measure=>omega
    | ok e2 r2 =>
     rintro e W3 ⟨hb3,⟨v,rfl,kv2,rfl,hK⟩,p4,hd3,hx3⟩
     obtain ⟨kb,kd,rfl⟩:=hK.form
     have hx:=HXX.out
     simp only [PR.then] at hx
     have hs3:=hb3.size
     have HJ3:=Zq ((HJ.out.but hb3 hx3).keep ((Below.refl _ _).alloc Zs (.cells #[.int .i64 e2.op,.int .i64 e2.n,.string ⟨e2.s.toArray⟩,.slice kb e2.ks.length kd] 61)))
     have HBI:=Zq ((HBm.out.trans hb3).alloc (.cells #[.int .i64 e2.op,.int .i64 e2.n,.string ⟨e2.s.toArray⟩,.slice kb e2.ks.length kd] 61))
     have HK3:Hid (KV (gp (fun b=>w.heap.size<b∧b≠Ba) (W3.alloc (.cells #[.int .i64 e2.op,.int .i64 e2.n,.string ⟨e2.s.toArray⟩,.slice kb e2.ks.length kd] 61))) (.slice kb e2.ks.length kd) e2.ks):=Zq (hK.mono (ZdJ fun b hb hl=>⟨⟨by omega,by omega⟩,Lib.alloc_old _ _ _ hl⟩))
     have hd4:=heap_alloc_new W3 (.cells #[.int .i64 e2.op,.int .i64 e2.n,.string ⟨e2.s.toArray⟩,.slice kb e2.ks.length kd] 61)
     have HX5:=Zq hx
     rw [←hd3] at HX5
     have HE5:Hid (Ended (toks.drop p4)):=Zq (by rw [hd3]; exact (HP.out e2 r2 rfl).1)
     obtain ⟨ua,uc,hkv⟩:=HJ.out.k.form
     subst hkv
     clear hb3 hx3 hK hx hd3 HP
     unfold exV strV
     go_upto_region 5 with fail
     generalize W3.alloc (.cells #[.int .i64 e2.op,.int .i64 e2.n,.string ⟨e2.s.toArray⟩,.slice kb e2.ks.length kd] 61)=W4 at *
     obtain ⟨⟨c0,c1,c2,c3⟩,-⟩:=ZdP HJ3.out.c
     obtain ⟨⟨d0,d1,d2,d3⟩,-⟩:=ZdP hd4
     have hs4:Ba<W4.heap.size:=(Array.getElem?_eq_some_iff.1 HJ3.out.c).1
     have HTW:=Zq (Zmb 9 ex.op ex.n e2.op e2.n ex.s e2.s (.slice ua ex.ks.length uc) (.slice kb e2.ks.length kd) W4)
     unfold exV strV at HTW
     unfold strV at c2
     go_wp2_with fail
     refine HTW.out.mono ?_
     rintro e W5 ⟨gb,rfl,hb5,hg5,hr5⟩
     have HJ5:=Zq (HJ3.out.keep hb5)
     have HK5:Hid (KV (gp (fun b=>w.heap.size<b∧b≠Ba) W5) (.slice (some ⟨gb,0,none⟩) 2 2) [ex,e2]):=Zq (KV.two (a:=ex) (c:=e2) (u := .slice ua ex.ks.length uc) (v := .slice kb e2.ks.length kd) (T:=61) (by unfold gp; rw [if_pos ⟨by omega,by omega⟩]; exact hr5)
      (HJ3.out.k.mono (ZdJ fun b hb hl=>⟨hb,hb5.block _ hl⟩)) (HK3.out.mono (ZdJ fun b hb hl=>⟨hb,hb5.block _ hl⟩)))
     have HB5:=Zq (HBI.out.call hb5)
     obtain ⟨⟨g0,g1,g2,g3⟩,e0,e1,e2',e3⟩:=ZdP HJ5.out.c
     clear hb5 hr5 hd4 c0 c1 c2 c3 d0 d1 d2 d3 HTW HBI HJ3 HK3
     unfold strV at g2
     go_wp2
     go_roundg g
     case rel=>exact .inl ⟨p4,_,_,Zq (HJ5.out.set HK5.out 9),Zq (HB5.out.set4 (by omega) _ _ _ _),HE5,by omega,HX5⟩
     case measure=>omega
   | false =>
   cases hs1:isSg [47] t with
   | true =>
    have HX3:=HXn.out
    rw [ZmF (by omega) (ZmD (x:=(10,false)) (by rw [ht]; exact hs1) rfl),ZdR] at HX3
    have hEt:Ended (toks.drop (p'+1)):=by rw [←ZdR]; exact HEn.out.tail (by rw [ht]; have:=Zbb hs1; omega)
    have HXX:=Zq HX3
    clear HX3 HXn
    have HS0:=Zq (Zmc [42] B p' toks t tv _ HIn.out.st HIn.out.tokb HAT.out.1 hl hs0)
    unfold strV at HS0
    go_wp2_with fail
    refine HS0.out.mono ?_
    rintro e V0 ⟨rfl,hb⟩
    have HJ0:=Zq (HIn.out.keep hb)
    have HBn:=Zq (HBn.out.call hb)
    clear hb HS0
    have HSY:=Zq (Zmd [47] B p' toks t tv _ HJ0.out.st HJ0.out.tokb HAT.out.1 hl hs1)
    unfold strV at HSY
    go_wp2_with fail
    refine HSY.out.mono ?_
    rintro e W2 ⟨rfl,hb,hx⟩
    have HJ:=Zq (HJ0.out.but hb hx)
    have HBm:=Zq (HBn.out.trans hb)
    clear hb hx HSY ht hs0 hs1
    have hy:parseJ g (.two (4+1)) (toks.drop (p'+1)) ≠ .out:=fun h=>by have:=HXX.out; rw [h] at this; exact HNE.out this.symm
    have hC0:Calls Tryz.prog 192 #[.pointer (some ⟨B,0,none⟩)] W2 (RRes B tv toks (parseJ g (.two (4+1)) (toks.drop (p'+1))) W2):=HI.out g (by omega) (4+1) B (p'+1) toks tv W2 (by omega) HJ.out.st HJ.out.tokb hEt hl hy
    have HC:=Zq hC0
    have HP:=Zq (fun e r=>Zbe g (.two (4+1)) (toks.drop (p'+1)) hEt e r)
    clear hC0 hy hEt
    generalize parseJ g (.two (4+1)) (toks.drop (p'+1))=y at *
    go_wp2_with fail
    refine HC.out.mono ?_
    clear HC
    have hltB:=HJ.out.lt
    have hszA:Ba<W2.heap.size:=(Array.getElem?_eq_some_iff.1 HJ.out.c).1
    cases y with
    | out=>exact absurd HXX.out.symm HNE.out
    | bad q =>
     rintro e W3 ⟨hb3,⟨v,rfl,o,n,s0,a,l,c,rfl⟩,pq,hx3⟩
     have hx:=HXX.out
     simp only [PR.then] at hx
     subst hx
     have hs3:=hb3.size
     have hz3:=(hb3.block _ (by omega) (by omega)).trans HJ.out.z
     have hc3:=(hb3.block _ hszA (by omega)).trans HJ.out.c
     have HBI:=Zq ((HBm.out.trans hb3).alloc (.cells #[.int .i64 o,.int .i64 n,.string ⟨s0.toArray⟩,.slice a l c] 61))
     have HX4:=Zq (hx3.alloc (.cells #[.int .i64 o,.int .i64 n,.string ⟨s0.toArray⟩,.slice a l c] 61))
     have hz4:=(Lib.alloc_old W3 (.cells #[.int .i64 o,.int .i64 n,.string ⟨s0.toArray⟩,.slice a l c] 61) _ (by omega)).trans hz3
     have hc4:=(Lib.alloc_old W3 (.cells #[.int .i64 o,.int .i64 n,.string ⟨s0.toArray⟩,.slice a l c] 61) _ (by omega)).trans hc3
     have hd4:=heap_alloc_new W3 (.cells #[.int .i64 o,.int .i64 n,.string ⟨s0.toArray⟩,.slice a l c] 61)
     obtain ⟨ua,uc,hkv⟩:=HJ.out.k.form
     subst hkv
     clear hb3 hx3 hz3 hc3
     unfold exV strV
     go_upto_region 8 with fail
     generalize W3.alloc (.cells #[.int .i64 o,.int .i64 n,.string ⟨s0.toArray⟩,.slice a l c] 61)=W4 at *
     obtain ⟨⟨c0,c1,c2,c3⟩,-⟩:=ZdP hc4
     obtain ⟨⟨d0,d1,d2,d3⟩,-⟩:=ZdP hd4
     have hs4:Ba<W4.heap.size:=(Array.getElem?_eq_some_iff.1 hc4).1
     have hs5:w.heap.size<W4.heap.size:=(Array.getElem?_eq_some_iff.1 hz4).1
     have HTW:=Zq (Zmb 10 ex.op ex.n o n ex.s s0 (.slice ua ex.ks.length uc) (.slice a l c) W4)
     unfold exV strV at HTW
     go_wp2_with fail
     refine HTW.out.mono ?_
     rintro e W5 ⟨gb,rfl,hb5,hg5,hr5⟩
     have hz5:=(hb5.block _ hs5).trans hz4
     have hc5:=(hb5.block _ hs4).trans hc4
     have HX5:=Zq (HX4.out.keep hb5)
     have HB5:=Zq (HBI.out.call hb5)
     have HZ5:=Zq hz5
     have HC5:=Zq hc5
     obtain ⟨⟨g0,g1,g2,g3⟩,e0,e1,e2,e3⟩:=ZdP hc5
     clear hb5 hr5 hz5 hc5 hz4 hc4 hd4 c0 c1 c2 c3 d0 d1 d2 d3 HTW HBI HX4
     go_wp2
     go_roundg g
     case rel=>exact .inr ⟨q,rfl,Zq ⟨⟨pq,HX5.out.set4 (by omega) _ _ _ _⟩,(ZdN (by omega) _ _ _ _).trans HZ5.out,⟨_,_,[],_,_,_,ZdM HC5.out _ _ _ _⟩,hltB,hpl⟩,Zq (HB5.out.set4 (by omega) _ _ _ _)⟩
     case measure=>omega
    | ok e2 r2 =>
     rintro e W3 ⟨hb3,⟨v,rfl,kv2,rfl,hK⟩,p4,hd3,hx3⟩
     obtain ⟨kb,kd,rfl⟩:=hK.form
     have hx:=HXX.out
     simp only [PR.then] at hx
     have hs3:=hb3.size
     have HJ3:=Zq ((HJ.out.but hb3 hx3).keep ((Below.refl _ _).alloc Zs (.cells #[.int .i64 e2.op,.int .i64 e2.n,.string ⟨e2.s.toArray⟩,.slice kb e2.ks.length kd] 61)))
     have HBI:=Zq ((HBm.out.trans hb3).alloc (.cells #[.int .i64 e2.op,.int .i64 e2.n,.string ⟨e2.s.toArray⟩,.slice kb e2.ks.length kd] 61))
     have HK3:Hid (KV (gp (fun b=>w.heap.size<b∧b≠Ba) (W3.alloc (.cells #[.int .i64 e2.op,.int .i64 e2.n,.string ⟨e2.s.toArray⟩,.slice kb e2.ks.length kd] 61))) (.slice kb e2.ks.length kd) e2.ks):=Zq (hK.mono (ZdJ fun b hb hl=>⟨⟨by omega,by omega⟩,Lib.alloc_old _ _ _ hl⟩))
     have hd4:=heap_alloc_new W3 (.cells #[.int .i64 e2.op,.int .i64 e2.n,.string ⟨e2.s.toArray⟩,.slice kb e2.ks.length kd] 61)
     have HX5:=Zq hx
     rw [←hd3] at HX5
     have HE5:Hid (Ended (toks.drop p4)):=Zq (by rw [hd3]; exact (HP.out e2 r2 rfl).1)
     obtain ⟨ua,uc,hkv⟩:=HJ.out.k.form
     subst hkv
     clear hb3 hx3 hK hx hd3 HP
     unfold exV strV
     go_upto_region 8 with fail
     generalize W3.alloc (.cells #[.int .i64 e2.op,.int .i64 e2.n,.string ⟨e2.s.toArray⟩,.slice kb e2.ks.length kd] 61)=W4 at *
     obtain ⟨⟨c0,c1,c2,c3⟩,-⟩:=ZdP HJ3.out.c
     obtain ⟨⟨d0,d1,d2,d3⟩,-⟩:=ZdP hd4
     have hs4:Ba<W4.heap.size:=(Array.getElem?_eq_some_iff.1 HJ3.out.c).1
     have HTW:=Zq (Zmb 10 ex.op ex.n e2.op e2.n ex.s e2.s (.slice ua ex.ks.length uc) (.slice kb e2.ks.length kd) W4)
     unfold exV strV at HTW
     unfold strV at c2
     go_wp2_with fail
     refine HTW.out.mono ?_
     rintro e W5 ⟨gb,rfl,hb5,hg5,hr5⟩
     have HJ5:=Zq (HJ3.out.keep hb5)
     have HK5:Hid (KV (gp (fun b=>w.heap.size<b∧b≠Ba) W5) (.slice (some ⟨gb,0,none⟩) 2 2) [ex,e2]):=Zq (KV.two (a:=ex) (c:=e2) (u := .slice ua ex.ks.length uc) (v := .slice kb e2.ks.length kd) (T:=61) (by unfold gp; rw [if_pos ⟨by omega,by omega⟩]; exact hr5)
      (HJ3.out.k.mono (ZdJ fun b hb hl=>⟨hb,hb5.block _ hl⟩)) (HK3.out.mono (ZdJ fun b hb hl=>⟨hb,hb5.block _ hl⟩)))
     have HB5:=Zq (HBI.out.call hb5)
     obtain ⟨⟨g0,g1,g2,g3⟩,e0,e1,e2',e3⟩:=ZdP HJ5.out.c
     clear hb5 hr5 hd4 c0 c1 c2 c3 d0 d1 d2 d3 HTW HBI HJ3 HK3
     unfold strV at g2
     go_wp2
     go_roundg g
     case rel=>exact .inl ⟨p4,_,_,Zq (HJ5.out.set HK5.out 10),Zq (HB5.out.set4 (by omega) _ _ _ _),HE5,by omega,HX5⟩
     case measure=>omega
   | false =>
   cases hs2:isSg [37] t with
   | true =>
    have HX3:=HXn.out
    rw [ZmF (by omega) (ZmD (x:=(11,false)) (by rw [ht]; exact hs2) rfl),ZdR] at HX3
    have hEt:Ended (toks.drop (p'+1)):=by rw [←ZdR]; exact HEn.out.tail (by rw [ht]; have:=Zbb hs2; omega)
    have HXX:=Zq HX3
    clear HX3 HXn
    have HS0:=Zq (Zmc [42] B p' toks t tv _ HIn.out.st HIn.out.tokb HAT.out.1 hl hs0)
    unfold strV at HS0
    go_wp2_with fail
    refine HS0.out.mono ?_
    rintro e V0 ⟨rfl,hb⟩
    have HJ0:=Zq (HIn.out.keep hb)
    have HBn:=Zq (HBn.out.call hb)
    clear hb HS0
    have HS1:=Zq (Zmc [47] B p' toks t tv _ HJ0.out.st HJ0.out.tokb HAT.out.1 hl hs1)
    unfold strV at HS1
    go_wp2_with fail
    refine HS1.out.mono ?_
    rintro e V1 ⟨rfl,hb⟩
    have HJ1:=Zq (HJ0.out.keep hb)
    have HBn:=Zq (HBn.out.call hb)
    clear hb HS1
    have HSY:=Zq (Zmd [37] B p' toks t tv _ HJ1.out.st HJ1.out.tokb HAT.out.1 hl hs2)
    unfold strV at HSY
    go_wp2_with fail
    refine HSY.out.mono ?_
    rintro e W2 ⟨rfl,hb,hx⟩
    have HJ:=Zq (HJ1.out.but hb hx)
    have HBm:=Zq (HBn.out.trans hb)
    clear hb hx HSY ht hs0 hs1 hs2
    have hy:parseJ g (.two (4+1)) (toks.drop (p'+1)) ≠ .out:=fun h=>by have:=HXX.out; rw [h] at this; exact HNE.out this.symm
    have hC0:Calls Tryz.prog 192 #[.pointer (some ⟨B,0,none⟩)] W2 (RRes B tv toks (parseJ g (.two (4+1)) (toks.drop (p'+1))) W2):=HI.out g (by omega) (4+1) B (p'+1) toks tv W2 (by omega) HJ.out.st HJ.out.tokb hEt hl hy
    have HC:=Zq hC0
    have HP:=Zq (fun e r=>Zbe g (.two (4+1)) (toks.drop (p'+1)) hEt e r)
    clear hC0 hy hEt
    generalize parseJ g (.two (4+1)) (toks.drop (p'+1))=y at *
    go_wp2_with fail
    refine HC.out.mono ?_
    clear HC
    have hltB:=HJ.out.lt
    have hszA:Ba<W2.heap.size:=(Array.getElem?_eq_some_iff.1 HJ.out.c).1
    cases y with
    | out=>exact absurd HXX.out.symm HNE.out
    | bad q =>
     rintro e W3 ⟨hb3,⟨v,rfl,o,n,s0,a,l,c,rfl⟩,pq,hx3⟩
     have hx:=HXX.out
     simp only [PR.then] at hx
     subst hx
     have hs3:=hb3.size
     have hz3:=(hb3.block _ (by omega) (by omega)).trans HJ.out.z
     have hc3:=(hb3.block _ hszA (by omega)).trans HJ.out.c
     have HBI:=Zq ((HBm.out.trans hb3).alloc (.cells #[.int .i64 o,.int .i64 n,.string ⟨s0.toArray⟩,.slice a l c] 61))
     have HX4:=Zq (hx3.alloc (.cells #[.int .i64 o,.int .i64 n,.string ⟨s0.toArray⟩,.slice a l c] 61))
     have hz4:=(Lib.alloc_old W3 (.cells #[.int .i64 o,.int .i64 n,.string ⟨s0.toArray⟩,.slice a l c] 61) _ (by omega)).trans hz3
     have hc4:=(Lib.alloc_old W3 (.cells #[.int .i64 o,.int .i64 n,.string ⟨s0.toArray⟩,.slice a l c] 61) _ (by omega)).trans hc3
     have hd4:=heap_alloc_new W3 (.cells #[.int .i64 o,.int .i64 n,.string ⟨s0.toArray⟩,.slice a l c] 61)
     obtain ⟨ua,uc,hkv⟩:=HJ.out.k.form
     subst hkv
     clear hb3 hx3 hz3 hc3
     unfold exV strV
     go_upto_region 11 with fail
     generalize W3.alloc (.cells #[.int .i64 o,.int .i64 n,.string ⟨s0.toArray⟩,.slice a l c] 61)=W4 at *
     obtain ⟨⟨c0,c1,c2,c3⟩,-⟩:=ZdP hc4
     obtain ⟨⟨d0,d1,d2,d3⟩,-⟩:=ZdP hd4
     have hs4:Ba<W4.heap.size:=(Array.getElem?_eq_some_iff.1 hc4).1
     have hs5:w.heap.size<W4.heap.size:=(Array.getElem?_eq_some_iff.1 hz4).1
     have HTW:=Zq (Zmb 11 ex.op ex.n o n ex.s s0 (.slice ua ex.ks.length uc) (.slice a l c) W4)
     unfold exV strV at HTW
     go_wp2_with fail
     refine HTW.out.mono ?_
     rintro e W5 ⟨gb,rfl,hb5,hg5,hr5⟩
     have hz5:=(hb5.block _ hs5).trans hz4
     have hc5:=(hb5.block _ hs4).trans hc4
     have HX5:=Zq (HX4.out.keep hb5)
     have HB5:=Zq (HBI.out.call hb5)
     have HZ5:=Zq hz5
     have HC5:=Zq hc5
     obtain ⟨⟨g0,g1,g2,g3⟩,e0,e1,e2,e3⟩:=ZdP hc5
     clear hb5 hr5 hz5 hc5 hz4 hc4 hd4 c0 c1 c2 c3 d0 d1 d2 d3 HTW HBI HX4
     go_wp2
     go_roundg g
     case rel=>exact .inr ⟨q,rfl,Zq ⟨⟨pq,HX5.out.set4 (by omega) _ _ _ _⟩,(ZdN (by omega) _ _ _ _).trans HZ5.out,⟨_,_,[],_,_,_,ZdM HC5.out _ _ _ _⟩,hltB,hpl⟩,Zq (HB5.out.set4 (by omega) _ _ _ _)⟩
     case measure=>omega
    | ok e2 r2 =>
     rintro e W3 ⟨hb3,⟨v,rfl,kv2,rfl,hK⟩,p4,hd3,hx3⟩
     obtain ⟨kb,kd,rfl⟩:=hK.form
     have hx:=HXX.out
     simp only [PR.then] at hx
     have hs3:=hb3.size
     have HJ3:=Zq ((HJ.out.but hb3 hx3).keep ((Below.refl _ _).alloc Zs (.cells #[.int .i64 e2.op,.int .i64 e2.n,.string ⟨e2.s.toArray⟩,.slice kb e2.ks.length kd] 61)))
     have HBI:=Zq ((HBm.out.trans hb3).alloc (.cells #[.int .i64 e2.op,.int .i64 e2.n,.string ⟨e2.s.toArray⟩,.slice kb e2.ks.length kd] 61))
     have HK3:Hid (KV (gp (fun b=>w.heap.size<b∧b≠Ba) (W3.alloc (.cells #[.int .i64 e2.op,.int .i64 e2.n,.string ⟨e2.s.toArray⟩,.slice kb e2.ks.length kd] 61))) (.slice kb e2.ks.length kd) e2.ks):=Zq (hK.mono (ZdJ fun b hb hl=>⟨⟨by omega,by omega⟩,Lib.alloc_old _ _ _ hl⟩))
     have hd4:=heap_alloc_new W3 (.cells #[.int .i64 e2.op,.int .i64 e2.n,.string ⟨e2.s.toArray⟩,.slice kb e2.ks.length kd] 61)
     have HX5:=Zq hx
     rw [←hd3] at HX5
     have HE5:Hid (Ended (toks.drop p4)):=Zq (by rw [hd3]; exact (HP.out e2 r2 rfl).1)
     obtain ⟨ua,uc,hkv⟩:=HJ.out.k.form
     subst hkv
     clear hb3 hx3 hK hx hd3 HP
     unfold exV strV
     go_upto_region 11 with fail
     generalize W3.alloc (.cells #[.int .i64 e2.op,.int .i64 e2.n,.string ⟨e2.s.toArray⟩,.slice kb e2.ks.length kd] 61)=W4 at *
     obtain ⟨⟨c0,c1,c2,c3⟩,-⟩:=ZdP HJ3.out.c
     obtain ⟨⟨d0,d1,d2,d3⟩,-⟩:=ZdP hd4
     have hs4:Ba<W4.heap.size:=(Array.getElem?_eq_some_iff.1 HJ3.out.c).1
     have HTW:=Zq (Zmb 11 ex.op ex.n e2.op e2.n ex.s e2.s (.slice ua ex.ks.length uc) (.slice kb e2.ks.length kd) W4)
     unfold exV strV at HTW
     unfold strV at c2
     go_wp2_with fail
     refine HTW.out.mono ?_
     rintro e W5 ⟨gb,rfl,hb5,hg5,hr5⟩
     have HJ5:=Zq (HJ3.out.keep hb5)
     have HK5:Hid (KV (gp (fun b=>w.heap.size<b∧b≠Ba) W5) (.slice (some ⟨gb,0,none⟩) 2 2) [ex,e2]):=Zq (KV.two (a:=ex) (c:=e2) (u := .slice ua ex.ks.length uc) (v := .slice kb e2.ks.length kd) (T:=61) (by unfold gp; rw [if_pos ⟨by omega,by omega⟩]; exact hr5)
      (HJ3.out.k.mono (ZdJ fun b hb hl=>⟨hb,hb5.block _ hl⟩)) (HK3.out.mono (ZdJ fun b hb hl=>⟨hb,hb5.block _ hl⟩)))
     have HB5:=Zq (HBI.out.call hb5)
     obtain ⟨⟨g0,g1,g2,g3⟩,e0,e1,e2',e3⟩:=ZdP HJ5.out.c
     clear hb5 hr5 hd4 c0 c1 c2 c3 d0 d1 d2 d3 HTW HBI HJ3 HK3
     unfold strV at g2
     go_wp2
     go_roundg g
     case rel=>exact .inl ⟨p4,_,_,Zq (HJ5.out.set HK5.out 11),Zq (HB5.out.set4 (by omega) _ _ _ _),HE5,by omega,HX5⟩
     case measure=>omega
   | false =>
   have hx:=HXn.out
   rw [ZmE (ZmK (by rw [ht]; exact hs0) (by rw [ht]; exact hs1) (by rw [ht]; exact hs2))] at hx
   subst hx
   have HS0:=Zq (Zmc [42] B p' toks t tv _ HIn.out.st HIn.out.tokb HAT.out.1 hl hs0)
   unfold strV at HS0
   go_wp2_with fail
   refine HS0.out.mono ?_
   rintro e V0 ⟨rfl,hb⟩
   have HJ0:=Zq (HIn.out.keep hb)
   have HBn:=Zq (HBn.out.call hb)
   clear hb HS0
   have HS1:=Zq (Zmc [47] B p' toks t tv _ HJ0.out.st HJ0.out.tokb HAT.out.1 hl hs1)
   unfold strV at HS1
   go_wp2_with fail
   refine HS1.out.mono ?_
   rintro e V1 ⟨rfl,hb⟩
   have HJ1:=Zq (HJ0.out.keep hb)
   have HBn:=Zq (HBn.out.call hb)
   clear hb HS1
   have HS2:=Zq (Zmc [37] B p' toks t tv _ HJ1.out.st HJ1.out.tokb HAT.out.1 hl hs2)
   unfold strV at HS2
   go_wp2_with fail
   refine HS2.out.mono ?_
   rintro e V2 ⟨rfl,hb⟩
   have HJ2:=Zq (HJ1.out.keep hb)
   have HBn:=Zq (HBn.out.call hb)
   clear hb HS2
   have HK:=Zq HJ2.out.k
   obtain ⟨ka,kc,hkv⟩:=HJ2.out.k.form
   subst hkv
   obtain ⟨⟨c0,c1,c2,c3⟩,-⟩:=ZdP HJ2.out.c
   have HXQ:=Zq HJ2.out.st
   have hzq:=HJ2.out.z
   unfold zeroE at hzq
   unfold strV at c2
   clear HXn
   obtain ⟨⟨g0,g1,g2,g3⟩,e0,e1,e2,e3⟩:=ZdP hzq
   have HZF:=Zq hzq
   go_wp2
   refine bodyPost_ret (v:=exV ex.op ex.n ex.s (.slice ka ex.ks.length kc)) ?_ rfl ?_
   · have hh:=ZdP (ZdM HZF.out (.int .i64 ex.op) (.int .i64 ex.n) (.string ⟨ex.s.toArray⟩) (.slice ka ex.ks.length kc))
     simp [results,Tryz.results187,go_sem,exV,strV,hh.1]
   · rw [Ex.eta ex]
     exact Zl6 HBn.out hpl (HK.out.mono (ZdJ fun b hb _=>⟨hb.1,rfl⟩)) HXQ.out rfl _ _ _ _
theorem ZmP {f:Nat} {e:Ex} {ts:List Tok} {op:Int} {sw:Bool} (h:lvT 2 (hd ts)=some (op,sw)):parseJ (f+1) (.loop 2 e) ts=(parseJ f (.two 3) ts.tail).then fun e2 r => .ok (.mk op 0 [] (kidsOf sw e e2)) r:=by
 conv=>lhs; unfold parseJ
 simp only [h,if_true]
theorem ZmQ {t:Tok} (h0:isSg [61] t=false) (h1:isSg [33,61] t=false) (h2:isSg [60] t=false) (h3:isSg [60,61] t=false) (h4:isSg [62] t=false) (h5:isSg [62,61] t=false):lvT 2 t=none:=by
 unfold lvT
 by_cases hk:t.k=4
 · rw [if_pos hk]
   simp [lv,ZmG h0 hk,ZmG h1 hk,ZmG h2 hk,ZmG h3 hk,ZmG h4 hk,ZmG h5 hk]
 · rw [if_neg hk]
theorem ZmR (f:Nat) (B p:Nat) (toks:List Tok) (tv:Value) (w:World) (h:XS w B tv p (-1)) (hT:TokV (gb B w) tv toks) (hE:Ended (toks.drop p)) (hl:toks.length≤1000) (X:PR) (hX:parseJ (f+1) (.two 2) (toks.drop p)=X) (hne:X ≠ .out) (ih:∀ g,g≤f→LvOK g) :
 Calls Tryz.prog 152 #[.pointer (some ⟨B,0,none⟩)] w (RRes B tv toks X w):=by
 unfold parseJ at hX
 rw [if_neg (by omega)] at hX
 have hpl:=h.cells.2.2.2.2.2
 have hb0:=(Below.refl w.heap.size w).alloc Zs (.cells #[.int .i64 0,.int .i64 0,.string ⟨#[]⟩,.slice none 0 0] 61)
 have HT0:Hid (∀ W,But B w W→TokV (gb B W) tv toks):=Zq (fun W hb=>SlV.mono hT hb.gb)
 have HTT:=Zq hT
 have hy:parseJ f (.two (2+1)) (toks.drop p) ≠ .out:=fun h=>by rw [h] at hX; exact hne hX.symm
 have hC0:Calls Tryz.prog 174 #[.pointer (some ⟨B,0,none⟩)] (w.alloc (.cells #[.int .i64 0,.int .i64 0,.string ⟨#[]⟩,.slice none 0 0] 61)) (RRes B tv toks (parseJ f (.two (2+1)) (toks.drop p)) (w.alloc (.cells #[.int .i64 0,.int .i64 0,.string ⟨#[]⟩,.slice none 0 0] 61))) :=
  ih f Zs (2+1) B p toks tv _ (by omega) (h.keep hb0) (SlV.mono hT (But.below (pb:=B) hb0).gb) hE hl hy
 have HC:=Zq hC0
 have HP:=Zq (fun e r=>Zbe f (.two (2+1)) (toks.drop p) hE e r)
 have HZ:=Zq (heap_alloc_new w (.cells #[.int .i64 0,.int .i64 0,.string ⟨#[]⟩,.slice none 0 0] 61))
 have HB:=Zq (But.below (pb:=B) hb0)
 have hsz:w.heap.size<(w.alloc (.cells #[.int .i64 0,.int .i64 0,.string ⟨#[]⟩,.slice none 0 0] 61)).heap.size:=by simp
 generalize parseJ f (.two (2+1)) (toks.drop p)=y at *
 have HX:=Zq hX
 have HI:=Zq ih
 have HNE:=Zq hne
 clear h hT hE hne hb0 hX ih hy hC0
 go_in
 go_wp2_with fail
 refine HC.out.mono ?_
 clear HC
 generalize w.alloc (.cells #[.int .i64 0,.int .i64 0,.string ⟨#[]⟩,.slice none 0 0] 61)=W0 at *
 cases y with
 | out=>rintro e W3 ⟨-,h⟩; exact h.elim
 | bad q =>
  rintro e W3 ⟨hb3,⟨v,rfl,o,n,s0,a,l,c,rfl⟩,p',hx3⟩
  have hx:=HX.out
  simp only [PR.then] at hx
  subst hx
  have hz3:=(hb3.block _ hsz (by omega)).trans HZ.out
  have hsz3:w.heap.size<W3.heap.size:=(Array.getElem?_eq_some_iff.1 hz3).1
  have HBI:Hid (BadIn w.heap.size B W3.heap.size tv (W3.alloc (.cells #[.int .i64 o,.int .i64 n,.string ⟨s0.toArray⟩,.slice a l c] 61)) q):=Zq ⟨⟨p',hx3.alloc _⟩,(Lib.alloc_old W3 _ _ hsz3).trans hz3,⟨o,n,s0,a,l,c,heap_alloc_new W3 _⟩,hsz3,hpl⟩
  have HBW:=Zq ((HB.out.trans hb3).alloc (.cells #[.int .i64 o,.int .i64 n,.string ⟨s0.toArray⟩,.slice a l c] 61))
  clear hb3 hx3 hz3 hsz3 HX HB HZ hsz
  unfold exV strV
  go_upto_region 2 with fail
  generalize W3.alloc (.cells #[.int .i64 o,.int .i64 n,.string ⟨s0.toArray⟩,.slice a l c] 61)=W4 at *
  generalize W3.heap.size=Ba at *
  have hBI:=HBI.out
  clear HBI
  obtain ⟨pq,hxq⟩:=hBI.st
  obtain ⟨o,n,s0,a,l,c,hcq⟩:=hBI.c
  obtain ⟨⟨c0,c1,c2,c3⟩,-⟩:=ZdP hcq
  have hzq:=hBI.z
  unfold zeroE at hzq
  have HXQ:=Zq hxq
  clear hcq hBI hxq
  have HSQ:=Zq (Zme [61] B pq q tv _ HXQ.out)
  unfold strV at HSQ
  go_wp2_with fail
  refine HSQ.out.mono ?_
  rintro e VQ ⟨rfl,rfl⟩
  clear HSQ
  have HSQ:=Zq (Zme [33,61] B pq q tv _ HXQ.out)
  unfold strV at HSQ
  go_wp2_with fail
  refine HSQ.out.mono ?_
  rintro e VQ ⟨rfl,rfl⟩
  clear HSQ
  have HSQ:=Zq (Zme [60] B pq q tv _ HXQ.out)
  unfold strV at HSQ
  go_wp2_with fail
  refine HSQ.out.mono ?_
  rintro e VQ ⟨rfl,rfl⟩
  clear HSQ
  have HSQ:=Zq (Zme [60,61] B pq q tv _ HXQ.out)
  unfold strV at HSQ
  go_wp2_with fail
  refine HSQ.out.mono ?_
  rintro e VQ ⟨rfl,rfl⟩
  clear HSQ
  have HSQ:=Zq (Zme [62] B pq q tv _ HXQ.out)
  unfold strV at HSQ
  go_wp2_with fail
  refine HSQ.out.mono ?_
  rintro e VQ ⟨rfl,rfl⟩
  clear HSQ
  have HSQ:=Zq (Zme [62,61] B pq q tv _ HXQ.out)
  unfold strV at HSQ
  go_wp2_with fail
  refine HSQ.out.mono ?_
  rintro e VQ ⟨rfl,rfl⟩
  clear HSQ
  unfold strV at *
  obtain ⟨⟨g0,g1,g2,g3⟩,e0,e1,e2,e3⟩:=ZdP hzq
  have HZF:=Zq hzq
  go_wp2
  refine bodyPost_ret (v:=exV o n s0 (.slice a l c)) ?_ rfl ?_
  · have hh:=ZdP (ZdM HZF.out (.int .i64 o) (.int .i64 n) (.string ⟨s0.toArray⟩) (.slice a l c))
    simp [results,Tryz.results152,go_sem,exV,strV,hh.1]
  · exact Zl7 HBW.out hpl HXQ.out _ _ _ _
 | ok ex r =>
  rintro e W3 ⟨hb3,⟨v,rfl,kv,rfl,hK⟩,p',hd3,hx3⟩
  have hE3:=HP.out ex r rfl
  have HX2:Hid (parseJ f (.loop 2 ex) (toks.drop p')=X):=Zq (by have:=HX.out; simp only [PR.then] at this; rw [hd3]; exact this)
  have HE4:Hid (Ended (toks.drop p')):=Zq (by rw [hd3]; exact hE3.1)
  have hz3:=(hb3.block _ hsz (by omega)).trans HZ.out
  have hsz3:w.heap.size<W3.heap.size:=(Array.getElem?_eq_some_iff.1 hz3).1
  obtain ⟨ka,kc,rfl⟩:=hK.form
  have HB4:=Zq ((HB.out.trans hb3).alloc (.cells #[.int .i64 ex.op,.int .i64 ex.n,.string ⟨ex.s.toArray⟩,.slice ka ex.ks.length kc] 61))
  have HI4:Hid (OrIn w.heap.size B W3.heap.size tv toks (W3.alloc (.cells #[.int .i64 ex.op,.int .i64 ex.n,.string ⟨ex.s.toArray⟩,.slice ka ex.ks.length kc] 61)) p' ex (.slice ka ex.ks.length kc)):=Zq
   ⟨hx3.alloc _,Zl8 HTT.out HB4.out,(Lib.alloc_old W3 _ _ hsz3).trans hz3,heap_alloc_new _ _,hK.mono (ZdJ fun b hb hl=>⟨⟨by omega,by omega⟩,Lib.alloc_old _ _ _ hl⟩),hsz3,hpl⟩
  clear hb3 hx3 hz3 HX HP HB HZ hsz hd3 hE3 hK
  unfold exV strV
  go_upto_region 2 with fail
  generalize W3.alloc (.cells #[.int .i64 ex.op,.int .i64 ex.n,.string ⟨ex.s.toArray⟩,.slice ka ex.ks.length kc] 61)=W4 at *
  generalize W3.heap.size=Ba at *
  cases f with
  | zero=>exact absurd HX2.out.symm HNE.out
  | succ g =>
  have HAT:=Zq HE4.out.at
  obtain ⟨t,ht⟩:∃ t,hd (toks.drop p')=t:=⟨_,rfl⟩
  rw [ht] at HAT
  cases hs0:isSg [61] t with
  | true =>
   have HX3:=HX2.out
   rw [ZmP (ZmD (x:=(12,false)) (by rw [ht]; exact hs0) rfl),ZdR] at HX3
   have hEt:Ended (toks.drop (p'+1)):=by rw [←ZdR]; exact HE4.out.tail (by rw [ht]; have:=Zbb hs0; omega)
   have HXX:=Zq HX3
   clear HX3 HX2
   have HSY:=Zq (Zmd [61] B p' toks t tv _ HI4.out.st HI4.out.tokb HAT.out.1 hl hs0)
   unfold strV at HSY
   go_wp2_with fail
   refine HSY.out.mono ?_
   rintro e W2 ⟨rfl,hb,hx⟩
   have HJ:=Zq (HI4.out.but hb hx)
   have HBm:=Zq (HB4.out.trans hb)
   clear hb hx HSY ht hs0
   have hy:parseJ g (.two 3) (toks.drop (p'+1)) ≠ .out:=fun h=>by have:=HXX.out; rw [h] at this; exact HNE.out this.symm
   have hC0:Calls Tryz.prog 174 #[.pointer (some ⟨B,0,none⟩)] W2 (RRes B tv toks (parseJ g (.two 3) (toks.drop (p'+1))) W2):=HI.out g (by omega) 3 B (p'+1) toks tv W2 (by omega) HJ.out.st HJ.out.tokb hEt hl hy
   have HC:=Zq hC0
   clear hC0 hy hEt
   generalize parseJ g (.two 3) (toks.drop (p'+1))=y at *
   go_wp2_with fail
   refine HC.out.mono ?_
   clear HC
   have hltB:=HJ.out.lt
   have hszA:Ba<W2.heap.size:=(Array.getElem?_eq_some_iff.1 HJ.out.c).1
   cases y with
   | out=>exact absurd HXX.out.symm HNE.out
   | bad q =>
    rintro e W3 ⟨hb3,⟨v,rfl,o,n,s0,a,l,c,rfl⟩,pq,hx3⟩
    have hx:=HXX.out
    simp only [PR.then] at hx
    subst hx
    have hs3:=hb3.size
    have hz3:=(hb3.block _ (by omega) (by omega)).trans HJ.out.z
    have hc3:=(hb3.block _ hszA (by omega)).trans HJ.out.c
    have HBI:=Zq ((HBm.out.trans hb3).alloc (.cells #[.int .i64 o,.int .i64 n,.string ⟨s0.toArray⟩,.slice a l c] 61))
    have HX4:=Zq (hx3.alloc (.cells #[.int .i64 o,.int .i64 n,.string ⟨s0.toArray⟩,.slice a l c] 61))
    have hz4:=(Lib.alloc_old W3 (.cells #[.int .i64 o,.int .i64 n,.string ⟨s0.toArray⟩,.slice a l c] 61) _ (by omega)).trans hz3
    have hc4:=(Lib.alloc_old W3 (.cells #[.int .i64 o,.int .i64 n,.string ⟨s0.toArray⟩,.slice a l c] 61) _ (by omega)).trans hc3
    have hd4:=heap_alloc_new W3 (.cells #[.int .i64 o,.int .i64 n,.string ⟨s0.toArray⟩,.slice a l c] 61)
    clear hb3 hx3 hz3 hc3
    unfold exV strV
    go_upto_region 4 with fail
    generalize W3.alloc (.cells #[.int .i64 o,.int .i64 n,.string ⟨s0.toArray⟩,.slice a l c] 61)=W4 at *
    obtain ⟨⟨c0,c1,c2,c3⟩,-⟩:=ZdP hc4
    obtain ⟨⟨d0,d1,d2,d3⟩,-⟩:=ZdP hd4
    have hs5:w.heap.size<W4.heap.size:=(Array.getElem?_eq_some_iff.1 hz4).1
    have HTW:=Zq (Zmb 12 ex.op ex.n o n ex.s s0 (.slice ka ex.ks.length kc) (.slice a l c) W4)
    unfold exV strV at HTW
    unfold strV at c2
    go_wp2_with fail
    refine HTW.out.mono ?_
    rintro e W5 ⟨gb,rfl,hb5,hg5,hr5⟩
    have hz5:=(hb5.block _ hs5).trans hz4
    have HX5:=Zq (HX4.out.keep hb5)
    have HB5:=Zq (HBI.out.call hb5)
    clear hb5 hr5 hz4 hc4 hd4 c0 c1 c2 c3 d0 d1 d2 d3 HTW HBI HX4
    obtain ⟨⟨g0,g1,g2,g3⟩,e0,e1,e2,e3⟩:=ZdP hz5
    have HZF:=Zq hz5
    go_wp2
    refine bodyPost_ret (v:=exV 12 0 [] (.slice (some ⟨gb,0,none⟩) 2 2)) ?_ rfl ?_
    · have hh:=ZdP (ZdM HZF.out (.int .i64 12) (.int .i64 0) (.string ⟨#[]⟩) (.slice (some ⟨gb,0,none⟩) 2 2))
      simp [results,Tryz.results152,go_sem,exV,strV,hh.1]
    · exact Zl7 HB5.out hpl HX5.out _ _ _ _
   | ok e2 r2 =>
    rintro e W3 ⟨hb3,⟨v,rfl,kv2,rfl,hK⟩,p4,hd3,hx3⟩
    obtain ⟨kb,kd,rfl⟩:=hK.form
    have hx:=HXX.out
    simp only [PR.then,kidsOf,if_true,Bool.false_eq_true,if_false] at hx
    subst hx
    have hs3:=hb3.size
    have HJ3:=Zq ((HJ.out.but hb3 hx3).keep ((Below.refl _ _).alloc Zs (.cells #[.int .i64 e2.op,.int .i64 e2.n,.string ⟨e2.s.toArray⟩,.slice kb e2.ks.length kd] 61)))
    have HBI:=Zq ((HBm.out.trans hb3).alloc (.cells #[.int .i64 e2.op,.int .i64 e2.n,.string ⟨e2.s.toArray⟩,.slice kb e2.ks.length kd] 61))
    have HK3:Hid (KV (gp (fun b=>w.heap.size<b∧b≠Ba) (W3.alloc (.cells #[.int .i64 e2.op,.int .i64 e2.n,.string ⟨e2.s.toArray⟩,.slice kb e2.ks.length kd] 61))) (.slice kb e2.ks.length kd) e2.ks):=Zq (hK.mono (ZdJ fun b hb hl=>⟨⟨by omega,by omega⟩,Lib.alloc_old _ _ _ hl⟩))
    have hd4:=heap_alloc_new W3 (.cells #[.int .i64 e2.op,.int .i64 e2.n,.string ⟨e2.s.toArray⟩,.slice kb e2.ks.length kd] 61)
    have HD3:=Zq hd3
    clear hb3 hx3 hK hd3
    unfold exV strV
    go_upto_region 4 with fail
    generalize W3.alloc (.cells #[.int .i64 e2.op,.int .i64 e2.n,.string ⟨e2.s.toArray⟩,.slice kb e2.ks.length kd] 61)=W4 at *
    obtain ⟨⟨c0,c1,c2,c3⟩,-⟩:=ZdP HJ3.out.c
    obtain ⟨⟨d0,d1,d2,d3⟩,-⟩:=ZdP hd4
    have hs4:Ba<W4.heap.size:=(Array.getElem?_eq_some_iff.1 HJ3.out.c).1
    have HTW:=Zq (Zmb 12 ex.op ex.n e2.op e2.n ex.s e2.s (.slice ka ex.ks.length kc) (.slice kb e2.ks.length kd) W4)
    unfold exV strV at HTW
    unfold strV at c2
    go_wp2_with fail
    refine HTW.out.mono ?_
    rintro e W5 ⟨gb,rfl,hb5,hg5,hr5⟩
    have HJ5:=Zq (HJ3.out.keep hb5)
    have ka5:=HJ3.out.k.mono (h':=gp (fun b=>w.heap.size<b) W5) (ZdJ fun b hb hl=>⟨hb.1,hb5.block _ hl⟩)
    have kb5:=HK3.out.mono (h':=gp (fun b=>w.heap.size<b) W5) (ZdJ fun b hb hl=>⟨hb.1,hb5.block _ hl⟩)
    have HK5:Hid (KV (gp (fun b=>w.heap.size<b) W5) (.slice (some ⟨gb,0,none⟩) 2 2) [ex,e2]):=Zq (KV.two (T:=61) (by unfold gp; rw [if_pos (by omega)]; exact hr5) ka5 kb5)
    have HB5:=Zq (HBI.out.call hb5)
    have HX5:=Zq HJ5.out.st
    have hz5:=HJ5.out.z
    unfold zeroE at hz5
    clear hb5 hr5 hd4 c0 c1 c2 c3 d0 d1 d2 d3 HTW HBI HJ3 HK3 HJ5 ka5 kb5
    obtain ⟨⟨g0,g1,g2,g3⟩,e0,e1,e2,e3⟩:=ZdP hz5
    have HZF:=Zq hz5
    go_wp2
    refine bodyPost_ret (v:=exV 12 0 [] (.slice (some ⟨gb,0,none⟩) 2 2)) ?_ rfl ?_
    · have hh:=ZdP (ZdM HZF.out (.int .i64 12) (.int .i64 0) (.string ⟨#[]⟩) (.slice (some ⟨gb,0,none⟩) 2 2))
      simp [results,Tryz.results152,go_sem,exV,strV,hh.1]
    · exact Zl6 HB5.out hpl HK5.out HX5.out HD3.out _ _ _ _
  | false =>
  cases hs1:isSg [33,61] t with
  | true =>
   have HX3:=HX2.out
   rw [ZmP (ZmD (x:=(13,false)) (by rw [ht]; exact hs1) rfl),ZdR] at HX3
   have hEt:Ended (toks.drop (p'+1)):=by rw [←ZdR]; exact HE4.out.tail (by rw [ht]; have:=Zbb hs1; omega)
   have HXX:=Zq HX3
   clear HX3 HX2
   have HS0:=Zq (Zmc [61] B p' toks t tv _ HI4.out.st HI4.out.tokb HAT.out.1 hl hs0)
   unfold strV at HS0
   go_wp2_with fail
   refine HS0.out.mono ?_
   rintro e V0 ⟨rfl,hb⟩
   have HJ0:=Zq (HI4.out.keep hb)
   have HB4:=Zq (HB4.out.call hb)
   clear hb HS0
   have HSY:=Zq (Zmd [33,61] B p' toks t tv _ HJ0.out.st HJ0.out.tokb HAT.out.1 hl hs1)
   unfold strV at HSY
   go_wp2_with fail
   refine HSY.out.mono ?_
   rintro e W2 ⟨rfl,hb,hx⟩
   have HJ:=Zq (HJ0.out.but hb hx)
   have HBm:=Zq (HB4.out.trans hb)
   clear hb hx HSY ht hs0 hs1
   have hy:parseJ g (.two 3) (toks.drop (p'+1)) ≠ .out:=fun h=>by have:=HXX.out; rw [h] at this; exact HNE.out this.symm
   have hC0:Calls Tryz.prog 174 #[.pointer (some ⟨B,0,none⟩)] W2 (RRes B tv toks (parseJ g (.two 3) (toks.drop (p'+1))) W2):=HI.out g (by omega) 3 B (p'+1) toks tv W2 (by omega) HJ.out.st HJ.out.tokb hEt hl hy
   have HC:=Zq hC0
   clear hC0 hy hEt
   generalize parseJ g (.two 3) (toks.drop (p'+1))=y at *
   go_wp2_with fail
   refine HC.out.mono ?_
   clear HC
   have hltB:=HJ.out.lt
   have hszA:Ba<W2.heap.size:=(Array.getElem?_eq_some_iff.1 HJ.out.c).1
   cases y with
   | out=>exact absurd HXX.out.symm HNE.out
   | bad q =>
    rintro e W3 ⟨hb3,⟨v,rfl,o,n,s0,a,l,c,rfl⟩,pq,hx3⟩
    have hx:=HXX.out
    simp only [PR.then] at hx
    subst hx
    have hs3:=hb3.size
    have hz3:=(hb3.block _ (by omega) (by omega)).trans HJ.out.z
    have hc3:=(hb3.block _ hszA (by omega)).trans HJ.out.c
    have HBI:=Zq ((HBm.out.trans hb3).alloc (.cells #[.int .i64 o,.int .i64 n,.string ⟨s0.toArray⟩,.slice a l c] 61))
    have HX4:=Zq (hx3.alloc (.cells #[.int .i64 o,.int .i64 n,.string ⟨s0.toArray⟩,.slice a l c] 61))
    have hz4:=(Lib.alloc_old W3 (.cells #[.int .i64 o,.int .i64 n,.string ⟨s0.toArray⟩,.slice a l c] 61) _ (by omega)).trans hz3
    have hc4:=(Lib.alloc_old W3 (.cells #[.int .i64 o,.int .i64 n,.string ⟨s0.toArray⟩,.slice a l c] 61) _ (by omega)).trans hc3
    have hd4:=heap_alloc_new W3 (.cells #[.int .i64 o,.int .i64 n,.string ⟨s0.toArray⟩,.slice a l c] 61)
    clear hb3 hx3 hz3 hc3
    unfold exV strV
    go_upto_region 7 with fail
    generalize W3.alloc (.cells #[.int .i64 o,.int .i64 n,.string ⟨s0.toArray⟩,.slice a l c] 61)=W4 at *
    obtain ⟨⟨c0,c1,c2,c3⟩,-⟩:=ZdP hc4
    obtain ⟨⟨d0,d1,d2,d3⟩,-⟩:=ZdP hd4
    have hs5:w.heap.size<W4.heap.size:=(Array.getElem?_eq_some_iff.1 hz4).1
    have HTW:=Zq (Zmb 13 ex.op ex.n o n ex.s s0 (.slice ka ex.ks.length kc) (.slice a l c) W4)
    unfold exV strV at HTW
    unfold strV at c2
    go_wp2_with fail
    refine HTW.out.mono ?_
    rintro e W5 ⟨gb,rfl,hb5,hg5,hr5⟩
    have hz5:=(hb5.block _ hs5).trans hz4
    have HX5:=Zq (HX4.out.keep hb5)
    have HB5:=Zq (HBI.out.call hb5)
    clear hb5 hr5 hz4 hc4 hd4 c0 c1 c2 c3 d0 d1 d2 d3 HTW HBI HX4
    obtain ⟨⟨g0,g1,g2,g3⟩,e0,e1,e2,e3⟩:=ZdP hz5
    have HZF:=Zq hz5
    go_wp2
    refine bodyPost_ret (v:=exV 13 0 [] (.slice (some ⟨gb,0,none⟩) 2 2)) ?_ rfl ?_
    · have hh:=ZdP (ZdM HZF.out (.int .i64 13) (.int .i64 0) (.string ⟨#[]⟩) (.slice (some ⟨gb,0,none⟩) 2 2))
      simp [results,Tryz.results152,go_sem,exV,strV,hh.1]
    · exact Zl7 HB5.out hpl HX5.out _ _ _ _
   | ok e2 r2 =>
    rintro e W3 ⟨hb3,⟨v,rfl,kv2,rfl,hK⟩,p4,hd3,hx3⟩
    obtain ⟨kb,kd,rfl⟩:=hK.form
    have hx:=HXX.out
    simp only [PR.then,kidsOf,if_true,Bool.false_eq_true,if_false] at hx
    subst hx
    have hs3:=hb3.size
    have HJ3:=Zq ((HJ.out.but hb3 hx3).keep ((Below.refl _ _).alloc Zs (.cells #[.int .i64 e2.op,.int .i64 e2.n,.string ⟨e2.s.toArray⟩,.slice kb e2.ks.length kd] 61)))
    have HBI:=Zq ((HBm.out.trans hb3).alloc (.cells #[.int .i64 e2.op,.int .i64 e2.n,.string ⟨e2.s.toArray⟩,.slice kb e2.ks.length kd] 61))
    have HK3:Hid (KV (gp (fun b=>w.heap.size<b∧b≠Ba) (W3.alloc (.cells #[.int .i64 e2.op,.int .i64 e2.n,.string ⟨e2.s.toArray⟩,.slice kb e2.ks.length kd] 61))) (.slice kb e2.ks.length kd) e2.ks):=Zq (hK.mono (ZdJ fun b hb hl=>⟨⟨by omega,by omega⟩,Lib.alloc_old _ _ _ hl⟩))
    have hd4:=heap_alloc_new W3 (.cells #[.int .i64 e2.op,.int .i64 e2.n,.string ⟨e2.s.toArray⟩,.slice kb e2.ks.length kd] 61)
    have HD3:=Zq hd3
    clear hb3 hx3 hK hd3
    unfold exV strV
    go_upto_region 7 with fail
    generalize W3.alloc (.cells #[.int .i64 e2.op,.int .i64 e2.n,.string ⟨e2.s.toArray⟩,.slice kb e2.ks.length kd] 61)=W4 at *
    obtain ⟨⟨c0,c1,c2,c3⟩,-⟩:=ZdP HJ3.out.c
    obtain ⟨⟨d0,d1,d2,d3⟩,-⟩:=ZdP hd4
    have hs4:Ba<W4.heap.size:=(Array.getElem?_eq_some_iff.1 HJ3.out.c).1
    have HTW:=Zq (Zmb 13 ex.op ex.n e2.op e2.n ex.s e2.s (.slice ka ex.ks.length kc) (.slice kb e2.ks.length kd) W4)
    unfold exV strV at HTW
    unfold strV at c2
    go_wp2_with fail
    refine HTW.out.mono ?_
    rintro e W5 ⟨gb,rfl,hb5,hg5,hr5⟩
    have HJ5:=Zq (HJ3.out.keep hb5)
    have ka5:=HJ3.out.k.mono (h':=gp (fun b=>w.heap.size<b) W5) (ZdJ fun b hb hl=>⟨hb.1,hb5.block _ hl⟩)
    have kb5:=HK3.out.mono (h':=gp (fun b=>w.heap.size<b) W5) (ZdJ fun b hb hl=>⟨hb.1,hb5.block _ hl⟩)
    have HK5:Hid (KV (gp (fun b=>w.heap.size<b) W5) (.slice (some ⟨gb,0,none⟩) 2 2) [ex,e2]):=Zq (KV.two (T:=61) (by unfold gp; rw [if_pos (by omega)]; exact hr5) ka5 kb5)
    have HB5:=Zq (HBI.out.call hb5)
    have HX5:=Zq HJ5.out.st
    have hz5:=HJ5.out.z
    unfold zeroE at hz5
    clear hb5 hr5 hd4 c0 c1 c2 c3 d0 d1 d2 d3 HTW HBI HJ3 HK3 HJ5 ka5 kb5
    obtain ⟨⟨g0,g1,g2,g3⟩,e0,e1,e2,e3⟩:=ZdP hz5
    have HZF:=Zq hz5
    go_wp2
    refine bodyPost_ret (v:=exV 13 0 [] (.slice (some ⟨gb,0,none⟩) 2 2)) ?_ rfl ?_
    · have hh:=ZdP (ZdM HZF.out (.int .i64 13) (.int .i64 0) (.string ⟨#[]⟩) (.slice (some ⟨gb,0,none⟩) 2 2))
      simp [results,Tryz.results152,go_sem,exV,strV,hh.1]
    · exact Zl6 HB5.out hpl HK5.out HX5.out HD3.out _ _ _ _
  | false =>
  cases hs2:isSg [60] t with
  | true =>
   have HX3:=HX2.out
   rw [ZmP (ZmD (x:=(14,false)) (by rw [ht]; exact hs2) rfl),ZdR] at HX3
   have hEt:Ended (toks.drop (p'+1)):=by rw [←ZdR]; exact HE4.out.tail (by rw [ht]; have:=Zbb hs2; omega)
   have HXX:=Zq HX3
   clear HX3 HX2
   have HS0:=Zq (Zmc [61] B p' toks t tv _ HI4.out.st HI4.out.tokb HAT.out.1 hl hs0)
   unfold strV at HS0
   go_wp2_with fail
   refine HS0.out.mono ?_
   rintro e V0 ⟨rfl,hb⟩
   have HJ0:=Zq (HI4.out.keep hb)
   have HB4:=Zq (HB4.out.call hb)
   clear hb HS0
   have HS1:=Zq (Zmc [33,61] B p' toks t tv _ HJ0.out.st HJ0.out.tokb HAT.out.1 hl hs1)
   unfold strV at HS1
   go_wp2_with fail
   refine HS1.out.mono ?_
   rintro e V1 ⟨rfl,hb⟩
   have HJ1:=Zq (HJ0.out.keep hb)
   have HB4:=Zq (HB4.out.call hb)
   clear hb HS1
   have HSY:=Zq (Zmd [60] B p' toks t tv _ HJ1.out.st HJ1.out.tokb HAT.out.1 hl hs2)
   unfold strV at HSY
   go_wp2_with fail
   refine HSY.out.mono ?_
   rintro e W2 ⟨rfl,hb,hx⟩
   have HJ:=Zq (HJ1.out.but hb hx)
   have HBm:=Zq (HB4.out.trans hb)
   clear hb hx HSY ht hs0 hs1 hs2
   have hy:parseJ g (.two 3) (toks.drop (p'+1)) ≠ .out:=fun h=>by have:=HXX.out; rw [h] at this; exact HNE.out this.symm
   have hC0:Calls Tryz.prog 174 #[.pointer (some ⟨B,0,none⟩)] W2 (RRes B tv toks (parseJ g (.two 3) (toks.drop (p'+1))) W2):=HI.out g (by omega) 3 B (p'+1) toks tv W2 (by omega) HJ.out.st HJ.out.tokb hEt hl hy
   have HC:=Zq hC0
   clear hC0 hy hEt
   generalize parseJ g (.two 3) (toks.drop (p'+1))=y at *
   go_wp2_with fail
   refine HC.out.mono ?_
   clear HC
   have hltB:=HJ.out.lt
   have hszA:Ba<W2.heap.size:=(Array.getElem?_eq_some_iff.1 HJ.out.c).1
   cases y with
   | out=>exact absurd HXX.out.symm HNE.out
   | bad q =>
    rintro e W3 ⟨hb3,⟨v,rfl,o,n,s0,a,l,c,rfl⟩,pq,hx3⟩
    have hx:=HXX.out
    simp only [PR.then] at hx
    subst hx
    have hs3:=hb3.size
    have hz3:=(hb3.block _ (by omega) (by omega)).trans HJ.out.z
    have hc3:=(hb3.block _ hszA (by omega)).trans HJ.out.c
    have HBI:=Zq ((HBm.out.trans hb3).alloc (.cells #[.int .i64 o,.int .i64 n,.string ⟨s0.toArray⟩,.slice a l c] 61))
    have HX4:=Zq (hx3.alloc (.cells #[.int .i64 o,.int .i64 n,.string ⟨s0.toArray⟩,.slice a l c] 61))
    have hz4:=(Lib.alloc_old W3 (.cells #[.int .i64 o,.int .i64 n,.string ⟨s0.toArray⟩,.slice a l c] 61) _ (by omega)).trans hz3
    have hc4:=(Lib.alloc_old W3 (.cells #[.int .i64 o,.int .i64 n,.string ⟨s0.toArray⟩,.slice a l c] 61) _ (by omega)).trans hc3
    have hd4:=heap_alloc_new W3 (.cells #[.int .i64 o,.int .i64 n,.string ⟨s0.toArray⟩,.slice a l c] 61)
    clear hb3 hx3 hz3 hc3
    unfold exV strV
    go_upto_region 10 with fail
    generalize W3.alloc (.cells #[.int .i64 o,.int .i64 n,.string ⟨s0.toArray⟩,.slice a l c] 61)=W4 at *
    obtain ⟨⟨c0,c1,c2,c3⟩,-⟩:=ZdP hc4
    obtain ⟨⟨d0,d1,d2,d3⟩,-⟩:=ZdP hd4
    have hs5:w.heap.size<W4.heap.size:=(Array.getElem?_eq_some_iff.1 hz4).1
    have HTW:=Zq (Zmb 14 ex.op ex.n o n ex.s s0 (.slice ka ex.ks.length kc) (.slice a l c) W4)
    unfold exV strV at HTW
    unfold strV at c2
    go_wp2_with fail
    refine HTW.out.mono ?_
    rintro e W5 ⟨gb,rfl,hb5,hg5,hr5⟩
    have hz5:=(hb5.block _ hs5).trans hz4
    have HX5:=Zq (HX4.out.keep hb5)
    have HB5:=Zq (HBI.out.call hb5)
    clear hb5 hr5 hz4 hc4 hd4 c0 c1 c2 c3 d0 d1 d2 d3 HTW HBI HX4
    obtain ⟨⟨g0,g1,g2,g3⟩,e0,e1,e2,e3⟩:=ZdP hz5
    have HZF:=Zq hz5
    go_wp2
    refine bodyPost_ret (v:=exV 14 0 [] (.slice (some ⟨gb,0,none⟩) 2 2)) ?_ rfl ?_
    · have hh:=ZdP (ZdM HZF.out (.int .i64 14) (.int .i64 0) (.string ⟨#[]⟩) (.slice (some ⟨gb,0,none⟩) 2 2))
      simp [results,Tryz.results152,go_sem,exV,strV,hh.1]
    · exact Zl7 HB5.out hpl HX5.out _ _ _ _
   | ok e2 r2 =>
    rintro e W3 ⟨hb3,⟨v,rfl,kv2,rfl,hK⟩,p4,hd3,hx3⟩
    obtain ⟨kb,kd,rfl⟩:=hK.form
    have hx:=HXX.out
    simp only [PR.then,kidsOf,if_true,Bool.false_eq_true,if_false] at hx
    subst hx
    have hs3:=hb3.size
    have HJ3:=Zq ((HJ.out.but hb3 hx3).keep ((Below.refl _ _).alloc Zs (.cells #[.int .i64 e2.op,.int .i64 e2.n,.string ⟨e2.s.toArray⟩,.slice kb e2.ks.length kd] 61)))
    have HBI:=Zq ((HBm.out.trans hb3).alloc (.cells #[.int .i64 e2.op,.int .i64 e2.n,.string ⟨e2.s.toArray⟩,.slice kb e2.ks.length kd] 61))
    have HK3:Hid (KV (gp (fun b=>w.heap.size<b∧b≠Ba) (W3.alloc (.cells #[.int .i64 e2.op,.int .i64 e2.n,.string ⟨e2.s.toArray⟩,.slice kb e2.ks.length kd] 61))) (.slice kb e2.ks.length kd) e2.ks):=Zq (hK.mono (ZdJ fun b hb hl=>⟨⟨by omega,by omega⟩,Lib.alloc_old _ _ _ hl⟩))
    have hd4:=heap_alloc_new W3 (.cells #[.int .i64 e2.op,.int .i64 e2.n,.string ⟨e2.s.toArray⟩,.slice kb e2.ks.length kd] 61)
    have HD3:=Zq hd3
    clear hb3 hx3 hK hd3
    unfold exV strV
    go_upto_region 10 with fail
    generalize W3.alloc (.cells #[.int .i64 e2.op,.int .i64 e2.n,.string ⟨e2.s.toArray⟩,.slice kb e2.ks.length kd] 61)=W4 at *
    obtain ⟨⟨c0,c1,c2,c3⟩,-⟩:=ZdP HJ3.out.c
    obtain ⟨⟨d0,d1,d2,d3⟩,-⟩:=ZdP hd4
    have hs4:Ba<W4.heap.size:=(Array.getElem?_eq_some_iff.1 HJ3.out.c).1
    have HTW:=Zq (Zmb 14 ex.op ex.n e2.op e2.n ex.s e2.s (.slice ka ex.ks.length kc) (.slice kb e2.ks.length kd) W4)
    unfold exV strV at HTW
    unfold strV at c2
    go_wp2_with fail
    refine HTW.out.mono ?_
    rintro e W5 ⟨gb,rfl,hb5,hg5,hr5⟩
    have HJ5:=Zq (HJ3.out.keep hb5)
    have ka5:=HJ3.out.k.mono (h':=gp (fun b=>w.heap.size<b) W5) (ZdJ fun b hb hl=>⟨hb.1,hb5.block _ hl⟩)
    have kb5:=HK3.out.mono (h':=gp (fun b=>w.heap.size<b) W5) (ZdJ fun b hb hl=>⟨hb.1,hb5.block _ hl⟩)
    have HK5:Hid (KV (gp (fun b=>w.heap.size<b) W5) (.slice (some ⟨gb,0,none⟩) 2 2) [ex,e2]):=Zq (KV.two (T:=61) (by unfold gp; rw [if_pos (by omega)]; exact hr5) ka5 kb5)
    have HB5:=Zq (HBI.out.call hb5)
    have HX5:=Zq HJ5.out.st
    have hz5:=HJ5.out.z
    unfold zeroE at hz5
    clear hb5 hr5 hd4 c0 c1 c2 c3 d0 d1 d2 d3 HTW HBI HJ3 HK3 HJ5 ka5 kb5
    obtain ⟨⟨g0,g1,g2,g3⟩,e0,e1,e2,e3⟩:=ZdP hz5
    have HZF:=Zq hz5
    go_wp2
    refine bodyPost_ret (v:=exV 14 0 [] (.slice (some ⟨gb,0,none⟩) 2 2)) ?_ rfl ?_
    · have hh:=ZdP (ZdM HZF.out (.int .i64 14) (.int .i64 0) (.string ⟨#[]⟩) (.slice (some ⟨gb,0,none⟩) 2 2))
      simp [results,Tryz.results152,go_sem,exV,strV,hh.1]
    · exact Zl6 HB5.out hpl HK5.out HX5.out HD3.out _ _ _ _
  | false =>
  cases hs3:isSg [60,61] t with
  | true =>
   have HX3:=HX2.out
   rw [ZmP (ZmD (x:=(15,false)) (by rw [ht]; exact hs3) rfl),ZdR] at HX3
   have hEt:Ended (toks.drop (p'+1)):=by rw [←ZdR]; exact HE4.out.tail (by rw [ht]; have:=Zbb hs3; omega)
   have HXX:=Zq HX3
   clear HX3 HX2
   have HS0:=Zq (Zmc [61] B p' toks t tv _ HI4.out.st HI4.out.tokb HAT.out.1 hl hs0)
   unfold strV at HS0
   go_wp2_with fail
   refine HS0.out.mono ?_
   rintro e V0 ⟨rfl,hb⟩
   have HJ0:=Zq (HI4.out.keep hb)
   have HB4:=Zq (HB4.out.call hb)
   clear hb HS0
   have HS1:=Zq (Zmc [33,61] B p' toks t tv _ HJ0.out.st HJ0.out.tokb HAT.out.1 hl hs1)
   unfold strV at HS1
   go_wp2_with fail
   refine HS1.out.mono ?_
   rintro e V1 ⟨rfl,hb⟩
   have HJ1:=Zq (HJ0.out.keep hb)
   have HB4:=Zq (HB4.out.call hb)
   clear hb HS1
   have HS2:=Zq (Zmc [60] B p' toks t tv _ HJ1.out.st HJ1.out.tokb HAT.out.1 hl hs2)
   unfold strV at HS2
   go_wp2_with fail
   refine HS2.out.mono ?_
   rintro e V2 ⟨rfl,hb⟩
   have HJ2:=Zq (HJ1.out.keep hb)
   have HB4:=Zq (HB4.out.call hb)
   clear hb HS2
   have HSY:=Zq (Zmd [60,61] B p' toks t tv _ HJ2.out.st HJ2.out.tokb HAT.out.1 hl hs3)
   unfold strV at HSY
   go_wp2_with fail
   refine HSY.out.mono ?_
   rintro e W2 ⟨rfl,hb,hx⟩
   have HJ:=Zq (HJ2.out.but hb hx)
   have HBm:=Zq (HB4.out.trans hb)
   clear hb hx HSY ht hs0 hs1 hs2 hs3
   have hy:parseJ g (.two 3) (toks.drop (p'+1)) ≠ .out:=fun h=>by have:=HXX.out; rw [h] at this; exact HNE.out this.symm
   have hC0:Calls Tryz.prog 174 #[.pointer (some ⟨B,0,none⟩)] W2 (RRes B tv toks (parseJ g (.two 3) (toks.drop (p'+1))) W2):=HI.out g (by omega) 3 B (p'+1) toks tv W2 (by omega) HJ.out.st HJ.out.tokb hEt hl hy
   have HC:=Zq hC0
   clear hC0 hy hEt
   generalize parseJ g (.two 3) (toks.drop (p'+1))=y at *
   go_wp2_with fail
   refine HC.out.mono ?_
   clear HC
   have hltB:=HJ.out.lt
   have hszA:Ba<W2.heap.size:=(Array.getElem?_eq_some_iff.1 HJ.out.c).1
   cases y with
   | out=>exact absurd HXX.out.symm HNE.out
   | bad q =>
    rintro e W3 ⟨hb3,⟨v,rfl,o,n,s0,a,l,c,rfl⟩,pq,hx3⟩
    have hx:=HXX.out
    simp only [PR.then] at hx
    subst hx
    have hs3:=hb3.size
    have hz3:=(hb3.block _ (by omega) (by omega)).trans HJ.out.z
    have hc3:=(hb3.block _ hszA (by omega)).trans HJ.out.c
    have HBI:=Zq ((HBm.out.trans hb3).alloc (.cells #[.int .i64 o,.int .i64 n,.string ⟨s0.toArray⟩,.slice a l c] 61))
    have HX4:=Zq (hx3.alloc (.cells #[.int .i64 o,.int .i64 n,.string ⟨s0.toArray⟩,.slice a l c] 61))
    have hz4:=(Lib.alloc_old W3 (.cells #[.int .i64 o,.int .i64 n,.string ⟨s0.toArray⟩,.slice a l c] 61) _ (by omega)).trans hz3
    have hc4:=(Lib.alloc_old W3 (.cells #[.int .i64 o,.int .i64 n,.string ⟨s0.toArray⟩,.slice a l c] 61) _ (by omega)).trans hc3
    have hd4:=heap_alloc_new W3 (.cells #[.int .i64 o,.int .i64 n,.string ⟨s0.toArray⟩,.slice a l c] 61)
    clear hb3 hx3 hz3 hc3
    unfold exV strV
    go_upto_region 13 with fail
    generalize W3.alloc (.cells #[.int .i64 o,.int .i64 n,.string ⟨s0.toArray⟩,.slice a l c] 61)=W4 at *
    obtain ⟨⟨c0,c1,c2,c3⟩,-⟩:=ZdP hc4
    obtain ⟨⟨d0,d1,d2,d3⟩,-⟩:=ZdP hd4
    have hs5:w.heap.size<W4.heap.size:=(Array.getElem?_eq_some_iff.1 hz4).1
    have HTW:=Zq (Zmb 15 ex.op ex.n o n ex.s s0 (.slice ka ex.ks.length kc) (.slice a l c) W4)
    unfold exV strV at HTW
    unfold strV at c2
    go_wp2_with fail
    refine HTW.out.mono ?_
    rintro e W5 ⟨gb,rfl,hb5,hg5,hr5⟩
    have hz5:=(hb5.block _ hs5).trans hz4
    have HX5:=Zq (HX4.out.keep hb5)
    have HB5:=Zq (HBI.out.call hb5)
    clear hb5 hr5 hz4 hc4 hd4 c0 c1 c2 c3 d0 d1 d2 d3 HTW HBI HX4
    obtain ⟨⟨g0,g1,g2,g3⟩,e0,e1,e2,e3⟩:=ZdP hz5
    have HZF:=Zq hz5
    go_wp2
    refine bodyPost_ret (v:=exV 15 0 [] (.slice (some ⟨gb,0,none⟩) 2 2)) ?_ rfl ?_
    · have hh:=ZdP (ZdM HZF.out (.int .i64 15) (.int .i64 0) (.string ⟨#[]⟩) (.slice (some ⟨gb,0,none⟩) 2 2))
      simp [results,Tryz.results152,go_sem,exV,strV,hh.1]
    · exact Zl7 HB5.out hpl HX5.out _ _ _ _
   | ok e2 r2 =>
    rintro e W3 ⟨hb3,⟨v,rfl,kv2,rfl,hK⟩,p4,hd3,hx3⟩
    obtain ⟨kb,kd,rfl⟩:=hK.form
    have hx:=HXX.out
    simp only [PR.then,kidsOf,if_true,Bool.false_eq_true,if_false] at hx
    subst hx
    have hs3:=hb3.size
    have HJ3:=Zq ((HJ.out.but hb3 hx3).keep ((Below.refl _ _).alloc Zs (.cells #[.int .i64 e2.op,.int .i64 e2.n,.string ⟨e2.s.toArray⟩,.slice kb e2.ks.length kd] 61)))
    have HBI:=Zq ((HBm.out.trans hb3).alloc (.cells #[.int .i64 e2.op,.int .i64 e2.n,.string ⟨e2.s.toArray⟩,.slice kb e2.ks.length kd] 61))
    have HK3:Hid (KV (gp (fun b=>w.heap.size<b∧b≠Ba) (W3.alloc (.cells #[.int .i64 e2.op,.int .i64 e2.n,.string ⟨e2.s.toArray⟩,.slice kb e2.ks.length kd] 61))) (.slice kb e2.ks.length kd) e2.ks):=Zq (hK.mono (ZdJ fun b hb hl=>⟨⟨by omega,by omega⟩,Lib.alloc_old _ _ _ hl⟩))
    have hd4:=heap_alloc_new W3 (.cells #[.int .i64 e2.op,.int .i64 e2.n,.string ⟨e2.s.toArray⟩,.slice kb e2.ks.length kd] 61)
    have HD3:=Zq hd3
    clear hb3 hx3 hK hd3
    unfold exV strV
    go_upto_region 13 with fail
    generalize W3.alloc (.cells #[.int .i64 e2.op,.int .i64 e2.n,.string ⟨e2.s.toArray⟩,.slice kb e2.ks.length kd] 61)=W4 at *
    obtain ⟨⟨c0,c1,c2,c3⟩,-⟩:=ZdP HJ3.out.c
    obtain ⟨⟨d0,d1,d2,d3⟩,-⟩:=ZdP hd4
    have hs4:Ba<W4.heap.size:=(Array.getElem?_eq_some_iff.1 HJ3.out.c).1
    have HTW:=Zq (Zmb 15 ex.op ex.n e2.op e2.n ex.s e2.s (.slice ka ex.ks.length kc) (.slice kb e2.ks.length kd) W4)
    unfold exV strV at HTW
    unfold strV at c2
    go_wp2_with fail
    refine HTW.out.mono ?_
    rintro e W5 ⟨gb,rfl,hb5,hg5,hr5⟩
    have HJ5:=Zq (HJ3.out.keep hb5)
    have ka5:=HJ3.out.k.mono (h':=gp (fun b=>w.heap.size<b) W5) (ZdJ fun b hb hl=>⟨hb.1,hb5.block _ hl⟩)
    have kb5:=HK3.out.mono (h':=gp (fun b=>w.heap.size<b) W5) (ZdJ fun b hb hl=>⟨hb.1,hb5.block _ hl⟩)
    have HK5:Hid (KV (gp (fun b=>w.heap.size<b) W5) (.slice (some ⟨gb,0,none⟩) 2 2) [ex,e2]):=Zq (KV.two (T:=61) (by unfold gp; rw [if_pos (by omega)]; exact hr5) ka5 kb5)
    have HB5:=Zq (HBI.out.call hb5)
    have HX5:=Zq HJ5.out.st
    have hz5:=HJ5.out.z
    unfold zeroE at hz5
    clear hb5 hr5 hd4 c0 c1 c2 c3 d0 d1 d2 d3 HTW HBI HJ3 HK3 HJ5 ka5 kb5
    obtain ⟨⟨g0,g1,g2,g3⟩,e0,e1,e2,e3⟩:=ZdP hz5
    have HZF:=Zq hz5
    go_wp2
    refine bodyPost_ret (v:=exV 15 0 [] (.slice (some ⟨gb,0,none⟩) 2 2)) ?_ rfl ?_
    · have hh:=ZdP (ZdM HZF.out (.int .i64 15) (.int .i64 0) (.string ⟨#[]⟩) (.slice (some ⟨gb,0,none⟩) 2 2))
      simp [results,Tryz.results152,go_sem,exV,strV,hh.1]
    · exact Zl6 HB5.out hpl HK5.out HX5.out HD3.out _ _ _ _
  | false =>
  cases hs4:isSg [62] t with
  | true =>
   have HX3:=HX2.out
   rw [ZmP (ZmD (x:=(14,true)) (by rw [ht]; exact hs4) rfl),ZdR] at HX3
   have hEt:Ended (toks.drop (p'+1)):=by rw [←ZdR]; exact HE4.out.tail (by rw [ht]; have:=Zbb hs4; omega)
   have HXX:=Zq HX3
   clear HX3 HX2
   have HS0:=Zq (Zmc [61] B p' toks t tv _ HI4.out.st HI4.out.tokb HAT.out.1 hl hs0)
   unfold strV at HS0
   go_wp2_with fail
   refine HS0.out.mono ?_
   rintro e V0 ⟨rfl,hb⟩
   have HJ0:=Zq (HI4.out.keep hb)
   have HB4:=Zq (HB4.out.call hb)
   clear hb HS0
   have HS1:=Zq (Zmc [33,61] B p' toks t tv _ HJ0.out.st HJ0.out.tokb HAT.out.1 hl hs1)
   unfold strV at HS1
   go_wp2_with fail
   refine HS1.out.mono ?_
   rintro e V1 ⟨rfl,hb⟩
   have HJ1:=Zq (HJ0.out.keep hb)
   have HB4:=Zq (HB4.out.call hb)
   clear hb HS1
   have HS2:=Zq (Zmc [60] B p' toks t tv _ HJ1.out.st HJ1.out.tokb HAT.out.1 hl hs2)
   unfold strV at HS2
   go_wp2_with fail
   refine HS2.out.mono ?_
   rintro e V2 ⟨rfl,hb⟩
   have HJ2:=Zq (HJ1.out.keep hb)
   have HB4:=Zq (HB4.out.call hb)
   clear hb HS2
   have HS3:=Zq (Zmc [60,61] B p' toks t tv _ HJ2.out.st HJ2.out.tokb HAT.out.1 hl hs3)
   unfold strV at HS3
   go_wp2_with fail
   refine HS3.out.mono ?_
   rintro e V3 ⟨rfl,hb⟩
   have HJ3:=Zq (HJ2.out.keep hb)
   have HB4:=Zq (HB4.out.call hb)
   clear hb HS3
   have HSY:=Zq (Zmd [62] B p' toks t tv _ HJ3.out.st HJ3.out.tokb HAT.out.1 hl hs4)
   unfold strV at HSY
   go_wp2_with fail
   refine HSY.out.mono ?_
   rintro e W2 ⟨rfl,hb,hx⟩
   have HJ:=Zq (HJ3.out.but hb hx)
   have HBm:=Zq (HB4.out.trans hb)
   clear hb hx HSY ht hs0 hs1 hs2 hs3 hs4
   have hy:parseJ g (.two 3) (toks.drop (p'+1)) ≠ .out:=fun h=>by have:=HXX.out; rw [h] at this; exact HNE.out this.symm
   have hC0:Calls Tryz.prog 174 #[.pointer (some ⟨B,0,none⟩)] W2 (RRes B tv toks (parseJ g (.two 3) (toks.drop (p'+1))) W2):=HI.out g (by omega) 3 B (p'+1) toks tv W2 (by omega) HJ.out.st HJ.out.tokb hEt hl hy
   have HC:=Zq hC0
   clear hC0 hy hEt
   generalize parseJ g (.two 3) (toks.drop (p'+1))=y at *
   go_wp2_with fail
   refine HC.out.mono ?_
   clear HC
   have hltB:=HJ.out.lt
   have hszA:Ba<W2.heap.size:=(Array.getElem?_eq_some_iff.1 HJ.out.c).1
   cases y with
   | out=>exact absurd HXX.out.symm HNE.out
   | bad q =>
    rintro e W3 ⟨hb3,⟨v,rfl,o,n,s0,a,l,c,rfl⟩,pq,hx3⟩
    have hx:=HXX.out
    simp only [PR.then] at hx
    subst hx
    have hs3:=hb3.size
    have hz3:=(hb3.block _ (by omega) (by omega)).trans HJ.out.z
    have hc3:=(hb3.block _ hszA (by omega)).trans HJ.out.c
    have HBI:=Zq ((HBm.out.trans hb3).alloc (.cells #[.int .i64 o,.int .i64 n,.string ⟨s0.toArray⟩,.slice a l c] 61))
    have HX4:=Zq (hx3.alloc (.cells #[.int .i64 o,.int .i64 n,.string ⟨s0.toArray⟩,.slice a l c] 61))
    have hz4:=(Lib.alloc_old W3 (.cells #[.int .i64 o,.int .i64 n,.string ⟨s0.toArray⟩,.slice a l c] 61) _ (by omega)).trans hz3
    have hc4:=(Lib.alloc_old W3 (.cells #[.int .i64 o,.int .i64 n,.string ⟨s0.toArray⟩,.slice a l c] 61) _ (by omega)).trans hc3
    have hd4:=heap_alloc_new W3 (.cells #[.int .i64 o,.int .i64 n,.string ⟨s0.toArray⟩,.slice a l c] 61)
    clear hb3 hx3 hz3 hc3
    unfold exV strV
    go_upto_region 16 with fail
    generalize W3.alloc (.cells #[.int .i64 o,.int .i64 n,.string ⟨s0.toArray⟩,.slice a l c] 61)=W4 at *
    obtain ⟨⟨c0,c1,c2,c3⟩,-⟩:=ZdP hc4
    obtain ⟨⟨d0,d1,d2,d3⟩,-⟩:=ZdP hd4
    have hs5:w.heap.size<W4.heap.size:=(Array.getElem?_eq_some_iff.1 hz4).1
    have HTW:=Zq (Zmb 14 o n ex.op ex.n s0 ex.s (.slice a l c) (.slice ka ex.ks.length kc) W4)
    unfold exV strV at HTW
    unfold strV at c2
    go_wp2_with fail
    refine HTW.out.mono ?_
    rintro e W5 ⟨gb,rfl,hb5,hg5,hr5⟩
    have hz5:=(hb5.block _ hs5).trans hz4
    have HX5:=Zq (HX4.out.keep hb5)
    have HB5:=Zq (HBI.out.call hb5)
    clear hb5 hr5 hz4 hc4 hd4 c0 c1 c2 c3 d0 d1 d2 d3 HTW HBI HX4
    obtain ⟨⟨g0,g1,g2,g3⟩,e0,e1,e2,e3⟩:=ZdP hz5
    have HZF:=Zq hz5
    go_wp2
    refine bodyPost_ret (v:=exV 14 0 [] (.slice (some ⟨gb,0,none⟩) 2 2)) ?_ rfl ?_
    · have hh:=ZdP (ZdM HZF.out (.int .i64 14) (.int .i64 0) (.string ⟨#[]⟩) (.slice (some ⟨gb,0,none⟩) 2 2))
      simp [results,Tryz.results152,go_sem,exV,strV,hh.1]
    · exact Zl7 HB5.out hpl HX5.out _ _ _ _
   | ok e2 r2 =>
    rintro e W3 ⟨hb3,⟨v,rfl,kv2,rfl,hK⟩,p4,hd3,hx3⟩
    obtain ⟨kb,kd,rfl⟩:=hK.form
    have hx:=HXX.out
    simp only [PR.then,kidsOf,if_true,Bool.false_eq_true,if_false] at hx
    subst hx
    have hs3:=hb3.size
    have HJ3:=Zq ((HJ.out.but hb3 hx3).keep ((Below.refl _ _).alloc Zs (.cells #[.int .i64 e2.op,.int .i64 e2.n,.string ⟨e2.s.toArray⟩,.slice kb e2.ks.length kd] 61)))
    have HBI:=Zq ((HBm.out.trans hb3).alloc (.cells #[.int .i64 e2.op,.int .i64 e2.n,.string ⟨e2.s.toArray⟩,.slice kb e2.ks.length kd] 61))
    have HK3:Hid (KV (gp (fun b=>w.heap.size<b∧b≠Ba) (W3.alloc (.cells #[.int .i64 e2.op,.int .i64 e2.n,.string ⟨e2.s.toArray⟩,.slice kb e2.ks.length kd] 61))) (.slice kb e2.ks.length kd) e2.ks):=Zq (hK.mono (ZdJ fun b hb hl=>⟨⟨by omega,by omega⟩,Lib.alloc_old _ _ _ hl⟩))
    have hd4:=heap_alloc_new W3 (.cells #[.int .i64 e2.op,.int .i64 e2.n,.string ⟨e2.s.toArray⟩,.slice kb e2.ks.length kd] 61)
    have HD3:=Zq hd3
    clear hb3 hx3 hK hd3
    unfold exV strV
    go_upto_region 16 with fail
    generalize W3.alloc (.cells #[.int .i64 e2.op,.int .i64 e2.n,.string ⟨e2.s.toArray⟩,.slice kb e2.ks.length kd] 61)=W4 at *
    obtain ⟨⟨c0,c1,c2,c3⟩,-⟩:=ZdP HJ3.out.c
    obtain ⟨⟨d0,d1,d2,d3⟩,-⟩:=ZdP hd4
    have hs4:Ba<W4.heap.size:=(Array.getElem?_eq_some_iff.1 HJ3.out.c).1
    have HTW:=Zq (Zmb 14 e2.op e2.n ex.op ex.n e2.s ex.s (.slice kb e2.ks.length kd) (.slice ka ex.ks.length kc) W4)
    unfold exV strV at HTW
    unfold strV at c2
    go_wp2_with fail
    refine HTW.out.mono ?_
    rintro e W5 ⟨gb,rfl,hb5,hg5,hr5⟩
    have HJ5:=Zq (HJ3.out.keep hb5)
    have ka5:=HJ3.out.k.mono (h':=gp (fun b=>w.heap.size<b) W5) (ZdJ fun b hb hl=>⟨hb.1,hb5.block _ hl⟩)
    have kb5:=HK3.out.mono (h':=gp (fun b=>w.heap.size<b) W5) (ZdJ fun b hb hl=>⟨hb.1,hb5.block _ hl⟩)
    have HK5:Hid (KV (gp (fun b=>w.heap.size<b) W5) (.slice (some ⟨gb,0,none⟩) 2 2) [e2,ex]):=Zq (KV.two (T:=61) (by unfold gp; rw [if_pos (by omega)]; exact hr5) kb5 ka5)
    have HB5:=Zq (HBI.out.call hb5)
    have HX5:=Zq HJ5.out.st
    have hz5:=HJ5.out.z
    unfold zeroE at hz5
    clear hb5 hr5 hd4 c0 c1 c2 c3 d0 d1 d2 d3 HTW HBI HJ3 HK3 HJ5 ka5 kb5
    obtain ⟨⟨g0,g1,g2,g3⟩,e0,e1,e2,e3⟩:=ZdP hz5
    have HZF:=Zq hz5
    go_wp2
    refine bodyPost_ret (v:=exV 14 0 [] (.slice (some ⟨gb,0,none⟩) 2 2)) ?_ rfl ?_
    · have hh:=ZdP (ZdM HZF.out (.int .i64 14) (.int .i64 0) (.string ⟨#[]⟩) (.slice (some ⟨gb,0,none⟩) 2 2))
      simp [results,Tryz.results152,go_sem,exV,strV,hh.1]
    · exact Zl6 HB5.out hpl HK5.out HX5.out HD3.out _ _ _ _
  | false =>
  cases hs5:isSg [62,61] t with
  | true =>
   have HX3:=HX2.out
   rw [ZmP (ZmD (x:=(15,true)) (by rw [ht]; exact hs5) rfl),ZdR] at HX3
   have hEt:Ended (toks.drop (p'+1)):=by rw [←ZdR]; exact HE4.out.tail (by rw [ht]; have:=Zbb hs5; omega)
   have HXX:=Zq HX3
   clear HX3 HX2
   have HS0:=Zq (Zmc [61] B p' toks t tv _ HI4.out.st HI4.out.tokb HAT.out.1 hl hs0)
   unfold strV at HS0
   go_wp2_with fail
   refine HS0.out.mono ?_
   rintro e V0 ⟨rfl,hb⟩
   have HJ0:=Zq (HI4.out.keep hb)
   have HB4:=Zq (HB4.out.call hb)
   clear hb HS0
   have HS1:=Zq (Zmc [33,61] B p' toks t tv _ HJ0.out.st HJ0.out.tokb HAT.out.1 hl hs1)
   unfold strV at HS1
   go_wp2_with fail
   refine HS1.out.mono ?_
   rintro e V1 ⟨rfl,hb⟩
   have HJ1:=Zq (HJ0.out.keep hb)
   have HB4:=Zq (HB4.out.call hb)
   clear hb HS1
   have HS2:=Zq (Zmc [60] B p' toks t tv _ HJ1.out.st HJ1.out.tokb HAT.out.1 hl hs2)
   unfold strV at HS2
   go_wp2_with fail
   refine HS2.out.mono ?_
   rintro e V2 ⟨rfl,hb⟩
   have HJ2:=Zq (HJ1.out.keep hb)
   have HB4:=Zq (HB4.out.call hb)
   clear hb HS2
   have HS3:=Zq (Zmc [60,61] B p' toks t tv _ HJ2.out.st HJ2.out.tokb HAT.out.1 hl hs3)
   unfold strV at HS3
   go_wp2_with fail
   refine HS3.out.mono ?_
   rintro e V3 ⟨rfl,hb⟩
   have HJ3:=Zq (HJ2.out.keep hb)
   have HB4:=Zq (HB4.out.call hb)
   clear hb HS3
   have HS4:=Zq (Zmc [62] B p' toks t tv _ HJ3.out.st HJ3.out.tokb HAT.out.1 hl hs4)
   unfold strV at HS4
   go_wp2_with fail
   refine HS4.out.mono ?_
   rintro e V4 ⟨rfl,hb⟩
   have HJ4:=Zq (HJ3.out.keep hb)
   have HB4:=Zq (HB4.out.call hb)
   clear hb HS4
   have HSY:=Zq (Zmd [62,61] B p' toks t tv _ HJ4.out.st HJ4.out.tokb HAT.out.1 hl hs5)
   unfold strV at HSY
   go_wp2_with fail
   refine HSY.out.mono ?_
   rintro e W2 ⟨rfl,hb,hx⟩
   have HJ:=Zq (HJ4.out.but hb hx)
   have HBm:=Zq (HB4.out.trans hb)
   clear hb hx HSY ht hs0 hs1 hs2 hs3 hs4 hs5
   have hy:parseJ g (.two 3) (toks.drop (p'+1)) ≠ .out:=fun h=>by have:=HXX.out; rw [h] at this; exact HNE.out this.symm
   have hC0:Calls Tryz.prog 174 #[.pointer (some ⟨B,0,none⟩)] W2 (RRes B tv toks (parseJ g (.two 3) (toks.drop (p'+1))) W2):=HI.out g (by omega) 3 B (p'+1) toks tv W2 (by omega) HJ.out.st HJ.out.tokb hEt hl hy
   have HC:=Zq hC0
   clear hC0 hy hEt
   generalize parseJ g (.two 3) (toks.drop (p'+1))=y at *
   go_wp2_with fail
   refine HC.out.mono ?_
   clear HC
   have hltB:=HJ.out.lt
   have hszA:Ba<W2.heap.size:=(Array.getElem?_eq_some_iff.1 HJ.out.c).1
   cases y with
   | out=>exact absurd HXX.out.symm HNE.out
   | bad q =>
    rintro e W3 ⟨hb3,⟨v,rfl,o,n,s0,a,l,c,rfl⟩,pq,hx3⟩
    have hx:=HXX.out
    simp only [PR.then] at hx
    subst hx
    have hs3:=hb3.size
    have hz3:=(hb3.block _ (by omega) (by omega)).trans HJ.out.z
    have hc3:=(hb3.block _ hszA (by omega)).trans HJ.out.c
    have HBI:=Zq ((HBm.out.trans hb3).alloc (.cells #[.int .i64 o,.int .i64 n,.string ⟨s0.toArray⟩,.slice a l c] 61))
    have HX4:=Zq (hx3.alloc (.cells #[.int .i64 o,.int .i64 n,.string ⟨s0.toArray⟩,.slice a l c] 61))
    have hz4:=(Lib.alloc_old W3 (.cells #[.int .i64 o,.int .i64 n,.string ⟨s0.toArray⟩,.slice a l c] 61) _ (by omega)).trans hz3
    have hc4:=(Lib.alloc_old W3 (.cells #[.int .i64 o,.int .i64 n,.string ⟨s0.toArray⟩,.slice a l c] 61) _ (by omega)).trans hc3
    have hd4:=heap_alloc_new W3 (.cells #[.int .i64 o,.int .i64 n,.string ⟨s0.toArray⟩,.slice a l c] 61)
    clear hb3 hx3 hz3 hc3
    unfold exV strV
    go_upto_region 19 with fail
    generalize W3.alloc (.cells #[.int .i64 o,.int .i64 n,.string ⟨s0.toArray⟩,.slice a l c] 61)=W4 at *
    obtain ⟨⟨c0,c1,c2,c3⟩,-⟩:=ZdP hc4
    obtain ⟨⟨d0,d1,d2,d3⟩,-⟩:=ZdP hd4
    have hs5:w.heap.size<W4.heap.size:=(Array.getElem?_eq_some_iff.1 hz4).1
    have HTW:=Zq (Zmb 15 o n ex.op ex.n s0 ex.s (.slice a l c) (.slice ka ex.ks.length kc) W4)
    unfold exV strV at HTW
    unfold strV at c2
    go_wp2_with fail
    refine HTW.out.mono ?_
    rintro e W5 ⟨gb,rfl,hb5,hg5,hr5⟩
    have hz5:=(hb5.block _ hs5).trans hz4
    have HX5:=Zq (HX4.out.keep hb5)
    have HB5:=Zq (HBI.out.call hb5)
    clear hb5 hr5 hz4 hc4 hd4 c0 c1 c2 c3 d0 d1 d2 d3 HTW HBI HX4
    obtain ⟨⟨g0,g1,g2,g3⟩,e0,e1,e2,e3⟩:=ZdP hz5
    have HZF:=Zq hz5
    go_wp2
    refine bodyPost_ret (v:=exV 15 0 [] (.slice (some ⟨gb,0,none⟩) 2 2)) ?_ rfl ?_
    · have hh:=ZdP (ZdM HZF.out (.int .i64 15) (.int .i64 0) (.string ⟨#[]⟩) (.slice (some ⟨gb,0,none⟩) 2 2))
      simp [results,Tryz.results152,go_sem,exV,strV,hh.1]
    · exact Zl7 HB5.out hpl HX5.out _ _ _ _
   | ok e2 r2 =>
    rintro e W3 ⟨hb3,⟨v,rfl,kv2,rfl,hK⟩,p4,hd3,hx3⟩
    obtain ⟨kb,kd,rfl⟩:=hK.form
    have hx:=HXX.out
    simp only [PR.then,kidsOf,if_true,Bool.false_eq_true,if_false] at hx
    subst hx
    have hs3:=hb3.size
    have HJ3:=Zq ((HJ.out.but hb3 hx3).keep ((Below.refl _ _).alloc Zs (.cells #[.int .i64 e2.op,.int .i64 e2.n,.string ⟨e2.s.toArray⟩,.slice kb e2.ks.length kd] 61)))
    have HBI:=Zq ((HBm.out.trans hb3).alloc (.cells #[.int .i64 e2.op,.int .i64 e2.n,.string ⟨e2.s.toArray⟩,.slice kb e2.ks.length kd] 61))
    have HK3:Hid (KV (gp (fun b=>w.heap.size<b∧b≠Ba) (W3.alloc (.cells #[.int .i64 e2.op,.int .i64 e2.n,.string ⟨e2.s.toArray⟩,.slice kb e2.ks.length kd] 61))) (.slice kb e2.ks.length kd) e2.ks):=Zq (hK.mono (ZdJ fun b hb hl=>⟨⟨by omega,by omega⟩,Lib.alloc_old _ _ _ hl⟩))
    have hd4:=heap_alloc_new W3 (.cells #[.int .i64 e2.op,.int .i64 e2.n,.string ⟨e2.s.toArray⟩,.slice kb e2.ks.length kd] 61)
    have HD3:=Zq hd3
    clear hb3 hx3 hK hd3
    unfold exV strV
    go_upto_region 19 with fail
    generalize W3.alloc (.cells #[.int .i64 e2.op,.int .i64 e2.n,.string ⟨e2.s.toArray⟩,.slice kb e2.ks.length kd] 61)=W4 at *
    obtain ⟨⟨c0,c1,c2,c3⟩,-⟩:=ZdP HJ3.out.c
    obtain ⟨⟨d0,d1,d2,d3⟩,-⟩:=ZdP hd4
    have hs4:Ba<W4.heap.size:=(Array.getElem?_eq_some_iff.1 HJ3.out.c).1
    have HTW:=Zq (Zmb 15 e2.op e2.n ex.op ex.n e2.s ex.s (.slice kb e2.ks.length kd) (.slice ka ex.ks.length kc) W4)
    unfold exV strV at HTW
    unfold strV at c2
    go_wp2_with fail
    refine HTW.out.mono ?_
    rintro e W5 ⟨gb,rfl,hb5,hg5,hr5⟩
    have HJ5:=Zq (HJ3.out.keep hb5)
    have ka5:=HJ3.out.k.mono (h':=gp (fun b=>w.heap.size<b) W5) (ZdJ fun b hb hl=>⟨hb.1,hb5.block _ hl⟩)
    have kb5:=HK3.out.mono (h':=gp (fun b=>w.heap.size<b) W5) (ZdJ fun b hb hl=>⟨hb.1,hb5.block _ hl⟩)
    have HK5:Hid (KV (gp (fun b=>w.heap.size<b) W5) (.slice (some ⟨gb,0,none⟩) 2 2) [e2,ex]):=Zq (KV.two (T:=61) (by unfold gp; rw [if_pos (by omega)]; exact hr5) kb5 ka5)
    have HB5:=Zq (HBI.out.call hb5)
    have HX5:=Zq HJ5.out.st
    have hz5:=HJ5.out.z
    unfold zeroE at hz5
    clear hb5 hr5 hd4 c0 c1 c2 c3 d0 d1 d2 d3 HTW HBI HJ3 HK3 HJ5 ka5 kb5
    obtain ⟨⟨g0,g1,g2,g3⟩,e0,e1,e2,e3⟩:=ZdP hz5
    have HZF:=Zq hz5
    go_wp2
    refine bodyPost_ret (v:=exV 15 0 [] (.slice (some ⟨gb,0,none⟩) 2 2)) ?_ rfl ?_
    · have hh:=ZdP (ZdM HZF.out (.int .i64 15) (.int .i64 0) (.string ⟨#[]⟩) (.slice (some ⟨gb,0,none⟩) 2 2))
      simp [results,Tryz.results152,go_sem,exV,strV,hh.1]
    · exact Zl6 HB5.out hpl HK5.out HX5.out HD3.out _ _ _ _
  | false =>
  have hx:=HX2.out
  rw [ZmE (ZmQ (by rw [ht]; exact hs0) (by rw [ht]; exact hs1) (by rw [ht]; exact hs2) (by rw [ht]; exact hs3) (by rw [ht]; exact hs4) (by rw [ht]; exact hs5))] at hx
  subst hx
  have HS0:=Zq (Zmc [61] B p' toks t tv _ HI4.out.st HI4.out.tokb HAT.out.1 hl hs0)
  unfold strV at HS0
  go_wp2_with fail
  refine HS0.out.mono ?_
  rintro e V0 ⟨rfl,hb⟩
  have HJ0:=Zq (HI4.out.keep hb)
  have HB4:=Zq (HB4.out.call hb)
  clear hb HS0
  have HS1:=Zq (Zmc [33,61] B p' toks t tv _ HJ0.out.st HJ0.out.tokb HAT.out.1 hl hs1)
  unfold strV at HS1
  go_wp2_with fail
  refine HS1.out.mono ?_
  rintro e V1 ⟨rfl,hb⟩
  have HJ1:=Zq (HJ0.out.keep hb)
  have HB4:=Zq (HB4.out.call hb)
  clear hb HS1
  have HS2:=Zq (Zmc [60] B p' toks t tv _ HJ1.out.st HJ1.out.tokb HAT.out.1 hl hs2)
  unfold strV at HS2
  go_wp2_with fail
  refine HS2.out.mono ?_
  rintro e V2 ⟨rfl,hb⟩
  have HJ2:=Zq (HJ1.out.keep hb)
  have HB4:=Zq (HB4.out.call hb)
  clear hb HS2
  have HS3:=Zq (Zmc [60,61] B p' toks t tv _ HJ2.out.st HJ2.out.tokb HAT.out.1 hl hs3)
  unfold strV at HS3
  go_wp2_with fail
  refine HS3.out.mono ?_
  rintro e V3 ⟨rfl,hb⟩
  have HJ3:=Zq (HJ2.out.keep hb)
  have HB4:=Zq (HB4.out.call hb)
  clear hb HS3
  have HS4:=Zq (Zmc [62] B p' toks t tv _ HJ3.out.st HJ3.out.tokb HAT.out.1 hl hs4)
  unfold strV at HS4
  go_wp2_with fail
  refine HS4.out.mono ?_
  rintro e V4 ⟨rfl,hb⟩
  have HJ4:=Zq (HJ3.out.keep hb)
  have HB4:=Zq (HB4.out.call hb)
  clear hb HS4
  have HS5:=Zq (Zmc [62,61] B p' toks t tv _ HJ4.out.st HJ4.out.tokb HAT.out.1 hl hs5)
  unfold strV at HS5
  go_wp2_with fail
  refine HS5.out.mono ?_
  rintro e V5 ⟨rfl,hb⟩
  have HJ5:=Zq (HJ4.out.keep hb)
  have HB4:=Zq (HB4.out.call hb)
  clear hb HS5
  have HK:=Zq HJ5.out.k
  obtain ⟨⟨c0,c1,c2,c3⟩,-⟩:=ZdP HJ5.out.c
  have HXQ:=Zq HJ5.out.st
  have hzq:=HJ5.out.z
  unfold zeroE at hzq
  unfold strV at c2
  clear HX2
  obtain ⟨⟨g0,g1,g2,g3⟩,e0,e1,e2,e3⟩:=ZdP hzq
  have HZF:=Zq hzq
  go_wp2
  refine bodyPost_ret (v:=exV ex.op ex.n ex.s (.slice ka ex.ks.length kc)) ?_ rfl ?_
  · have hh:=ZdP (ZdM HZF.out (.int .i64 ex.op) (.int .i64 ex.n) (.string ⟨ex.s.toArray⟩) (.slice ka ex.ks.length kc))
    simp [results,Tryz.results152,go_sem,exV,strV,hh.1]
  · rw [Ex.eta ex]
    exact Zl6 HB4.out hpl (HK.out.mono (ZdJ fun b hb _=>⟨hb.1,rfl⟩)) HXQ.out rfl _ _ _ _
end Go.Proofs.YtpfhhikbaeknpaaGreatDoor
